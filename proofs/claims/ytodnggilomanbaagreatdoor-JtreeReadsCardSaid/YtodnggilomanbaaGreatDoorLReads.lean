-- Written by this repo's program wip/tools/pr.py (over the kit's print) out of the translation. Not trusted: Lean checks it.
import Derived.Test.YtodnggilomanbaaGreatDoorAp
import Derived.Test.YtodnggilomanbaaGreatDoorHandWorks
import Derived.Test.YtodnggilomanbaaGreatDoorGRo
import Derived.Test.YtodnggilomanbaaGreatDoorGRq
import Derived.Test.YtodnggilomanbaaGreatDoorHandRz
set_option maxHeartbeats 8000000
set_option maxRecDepth 100000
namespace Go.Proofs.YtodnggilomanbaaGreatDoor.PAll
open Go.Proofs.YtodnggilomanbaaGreatDoor.Hand
open Go.RowKit Go.Proofs.YtodnggilomanbaaGreatDoorW.PrintWords Go.Proofs.YtodnggilomanbaaGreatDoorW.PrintLast Go.Proofs.YtodnggilomanbaaGreatDoorW.PrintMore
attribute [local go_sem] max2_int min2_int max_two min_two max_three min_three max_four min_four   -- for this text's walks alone
set_option linter.unusedVariables false
set_option linter.unusedSimpArgs false
attribute [-simp] List.length_take List.length_drop ByteArray.size_extract

/-! ### signetrylaw14_JtreeReads: function 5 -/
def signetrylaw14_JtreeReads.f (k : Nat) (a0 : ByteArray) : Option (Bool) := if 0 ≤ (mn (a0.size : Int) 1000) then (if (mn (a0.size : Int) 1000) ≤ (a0.size : Int) then ((jtree_Parse.f k (a0.extract 0 ((mn (a0.size : Int) 1000) : Int).toNat)).bind fun bm => ((signetryref14_Parse.f k (a0.extract 0 ((mn (a0.size : Int) 1000) : Int).toNat)).bind fun bL => ((signetrylaw14_own.f k bm.1 bm.2.1 bm.2.2.1 bm.2.2.2.1).bind fun bS => ((signetryref14_Same.f k bS.1 bS.2.1 bS.2.2.1 bS.2.2.2 bL.1 bL.2.1 bL.2.2.1 bL.2.2.2.1).bind fun dt => (if dt = true then (if bm.2.2.2.2.1 = bL.2.2.2.2.1 then (if bm.2.2.2.2.2 = bL.2.2.2.2.2 then ((signetrylaw14_works.f k).bind fun cN => (some cN)) else (none)) else (none)) else (none)))))) else (none)) else (none)
theorem signetrylaw14_JtreeReads.mono : ∀ a0 k, LeO (signetrylaw14_JtreeReads.f k a0) (signetrylaw14_JtreeReads.f (k + 1) a0) := by
  intro a0 k
  unfold signetrylaw14_JtreeReads.f
  have m0 := @jtree_Parse.mono
  have m1 := @signetrylaw14_own.mono
  have m2 := @signetrylaw14_works.mono
  have m3 := @signetryref14_Parse.mono
  have m4 := @signetryref14_Same.mono
  exact moz
def signetrylaw14_JtreeReads.T4 : Bool × List (List Nat × List Nat) := (true, [([], []), ([0], [0]), ([], []), ([1, 2, 1], [1, 2]), ([3, 3], [3]), ([4], [4]), ([4], [4]), ([5, 6, 4], [4, 5, 6]), ([4, 7], [4, 7]), ([8, 4], [8]), ([9], [9]), ([9], [9]), ([10, 11, 9], [9, 10, 11]), ([9, 12], [9, 12]), ([13, 9], [13]), ([14, 14], [14]), ([14, 15], [14, 15]), ([16, 15, 0, 1, 2, 3, 4, 5, 6, 7, 8, 9, 10, 11, 12, 13, 14, 15, 16], [16])])
def signetrylaw14_JtreeReads.B4 : List Nat := [0, 1, 0, 7, 15, 31, 31, 127, 255, 511, 1023, 1023, 4095, 8191, 16383, 32767, 65535, 131071]
theorem signetrylaw14_JtreeReads.tab4 : rtab .any (opsOf Tryz.f5 4) = signetrylaw14_JtreeReads.T4 := p8z
theorem signetrylaw14_JtreeReads.bits4 : waitsOk signetrylaw14_JtreeReads.T4.2 signetrylaw14_JtreeReads.B4 = true := p8z
theorem signetrylaw14_JtreeReads.calls (k : Nat) (a0 : ByteArray) (r : Bool) (w : World) (h : signetrylaw14_JtreeReads.f k a0 = some r) (HTB_ : Tabs w) :
 Calls Tryz.prog 5 #[.string a0] w fun e w' => e = .returned (.bool r) ∧ Below w.heap.size w w' := by
 have hu28 := Tryz.underlying28
 have hu37 := Tryz.underlying37
 have HB := Aside0.mk (Below.refl w.heap.size w)
 have H : (if 0 ≤ (mn (a0.size : Int) 1000) then (if (mn (a0.size : Int) 1000) ≤ (a0.size : Int) then ((jtree_Parse.f k (a0.extract 0 ((mn (a0.size : Int) 1000) : Int).toNat)).bind fun bm => ((signetryref14_Parse.f k (a0.extract 0 ((mn (a0.size : Int) 1000) : Int).toNat)).bind fun bL => ((signetrylaw14_own.f k bm.1 bm.2.1 bm.2.2.1 bm.2.2.2.1).bind fun bS => ((signetryref14_Same.f k bS.1 bS.2.1 bS.2.2.1 bS.2.2.2 bL.1 bL.2.1 bL.2.2.1 bL.2.2.2.1).bind fun dt => (if dt = true then (if bm.2.2.2.2.1 = bL.2.2.2.2.1 then (if bm.2.2.2.2.2 = bL.2.2.2.2.2 then ((signetrylaw14_works.f k).bind fun cN => (some cN)) else (none)) else (none)) else (none)))))) else (none)) else (none)) = some r := h
 clear h
 obtain ⟨ji2, hji2⟩ : ∃ j_ : Int, (mn (a0.size : Int) 1000) = j_ := ⟨_, rfl⟩
 replace H : (if 0 ≤ (ji2) then (if (ji2) ≤ (a0.size : Int) then ((jtree_Parse.f k (a0.extract 0 ((ji2) : Int).toNat)).bind fun bm => ((signetryref14_Parse.f k (a0.extract 0 ((ji2) : Int).toNat)).bind fun bL => ((signetrylaw14_own.f k bm.1 bm.2.1 bm.2.2.1 bm.2.2.2.1).bind fun bS => ((signetryref14_Same.f k bS.1 bS.2.1 bS.2.2.1 bS.2.2.2 bL.1 bL.2.1 bL.2.2.1 bL.2.2.2.1).bind fun dt => (if dt = true then (if bm.2.2.2.2.1 = bL.2.2.2.2.1 then (if bm.2.2.2.2.2 = bL.2.2.2.2.2 then ((signetrylaw14_works.f k).bind fun cN => (some cN)) else (none)) else (none)) else (none)))))) else (none)) else (none)) = some r := by first | (rw [hji2] at H; exact H) | (simp only [hji2] at H ⊢; exact H)
 (try (have hji2h : ji2 ≤ 1000 := by (rw [← hji2]; unfold mn; (repeat' split) <;> omega)))
 (try (have hji2g : ji2 ≤ 64 := by omega))
 (try (have hji2l : 0 ≤ ji2 := by (rw [← hji2]; unfold mn; (repeat' split) <;> omega)))
 (try (have hji2m : 0 ≤ ji2 := by omega))
 have hji2_ : (if 1000 < (a0.size : Int) then 1000 else (a0.size : Int)) = ji2 := hji2
 by_cases c3 : 0 ≤ (ji2)
 case neg =>
  rw [if_neg c3] at H
  exact absurd H (by simp)

 rw [if_pos c3] at H
 have bQ := eq_true c3
 have cW : decide (0 ≤ (ji2)) = true := decide_eq_true c3
 clear c3
 by_cases c4 : (ji2) ≤ (a0.size : Int)
 case neg =>
  rw [if_neg c4] at H
  exact absurd H (by simp)
 rw [if_pos c4] at H
 have bC := eq_true c4
 have fl : decide ((ji2) ≤ (a0.size : Int)) = true := decide_eq_true c4
 clear c4
 replace H := Option.bind_eq_some_iff.mp H
 obtain ⟨⟨cn, cr, t203, t206, dm, dn⟩, A50, H⟩ := H
 replace H : ((signetryref14_Parse.f k (a0.extract 0 ((ji2) : Int).toNat)).bind fun bL => ((signetrylaw14_own.f k cn cr t203 t206).bind fun bS => ((signetryref14_Same.f k bS.1 bS.2.1 bS.2.2.1 bS.2.2.2 bL.1 bL.2.1 bL.2.2.1 bL.2.2.2.1).bind fun dt => (if dt = true then (if dm = bL.2.2.2.2.1 then (if dn = bL.2.2.2.2.2 then ((signetrylaw14_works.f k).bind fun cN => (some cN)) else (none)) else (none)) else (none))))) = some r := H
 have A5 := Aside0.mk A50
 clear A50
 replace H := Option.bind_eq_some_iff.mp H
 obtain ⟨⟨cq, ct, bM, ch, eO, eP⟩, A60, H⟩ := H
 replace H : ((signetrylaw14_own.f k cn cr t203 t206).bind fun bS => ((signetryref14_Same.f k bS.1 bS.2.1 bS.2.2.1 bS.2.2.2 cq ct bM ch).bind fun dt => (if dt = true then (if dm = eO then (if dn = eP then ((signetrylaw14_works.f k).bind fun cN => (some cN)) else (none)) else (none)) else (none)))) = some r := H
 have A6 := Aside0.mk A60
 clear A60
 replace H := Option.bind_eq_some_iff.mp H
 obtain ⟨⟨t223, t224, t225, t228⟩, A70, H⟩ := H
 replace H : ((signetryref14_Same.f k t223 t224 t225 t228 cq ct bM ch).bind fun dt => (if dt = true then (if dm = eO then (if dn = eP then ((signetrylaw14_works.f k).bind fun cN => (some cN)) else (none)) else (none)) else (none))) = some r := H
 have A7 := Aside0.mk A70
 clear A70
 replace H := Option.bind_eq_some_iff.mp H
 obtain ⟨dt, A80, H⟩ := H
 replace H : (if dt = true then (if dm = eO then (if dn = eP then ((signetrylaw14_works.f k).bind fun cN => (some cN)) else (none)) else (none)) else (none)) = some r := H
 have A8 := Aside0.mk A80
 clear A80
 by_cases c9 : dt = true
 case neg =>
  replace c9 := Bool.eq_false_iff.mpr c9
  subst c9
  have H1 : (none) = some r := p27z
  clear H
  have H := H1
  clear H1
  exact absurd H (by simp)
 subst c9
 have H1 : (if dm = eO then (if dn = eP then ((signetrylaw14_works.f k).bind fun cN => (some cN)) else (none)) else (none)) = some r := p53z
 clear H
 have H := H1
 clear H1
 by_cases c10 : dm = eO
 case neg =>
  rw [if_neg c10] at H
  exact absurd H (by simp)
 rw [if_pos c10] at H
 have cY : (dm == eO) = true := beq_iff_eq.mpr c10
 have c10b1 : (dm != eO) = false := bne_eq_false_iff_eq.mpr c10
 clear c10
 by_cases c11 : dn = eP
 case neg =>
  rw [if_neg c11] at H
  exact absurd H (by simp)
 rw [if_pos c11] at H
 have cR : (dn == eP) = true := beq_iff_eq.mpr c11
 have c11b1 : (dn != eP) = false := bne_eq_false_iff_eq.mpr c11
 clear c11
 replace H := Option.bind_eq_some_iff.mp H
 obtain ⟨cN, A120, H⟩ := H
 replace H : (some cN) = some r := H
 have A12 := Aside0.mk A120
 clear A120
 obtain rfl := Option.some.inj H
 go_enter Tryz.func5, Tryz.ntmps5
 try go_wp2_with (first | ((with_reducible refine gate_callee (f := 7) rfl ?_); refine goesL_ (some 16) rfl rfl Tryz.func7 p8z rfl #[.string (a0.extract 0 ((ji2) : Int).toNat)] rfl (by (try simp only [List.map_toArray, List.map_cons, List.map_nil]); first | done | (simp only [hji2]; rfl) | rfl | (simp only [List.length_drop, List.length_take]; rfl)) ?_; (with_reducible refine (jtree_Parse.calls k (a0.extract 0 ((ji2) : Int).toNat) cn cr t203 t206 dm dn _ A5.out (HTB_.below p0z)).mono ?_); rintro e w13 ⟨v204, v207, rfl, ho0, ho1, hb⟩; refine ⟨_, rfl, ?_⟩; have z_ := asi3 (Kd.R_lower ho0 (below_size p0z)) (Kd.N_lower (Kd.N_mono (ok' := fun k_ => some k_ ≠ (v204 : Value).ownBlock) (Kd.R_N (Kd.R_bound ho1)) (fun k_ hk_ => hk_.1)) (below_size p0z)) (below_step p0z hb); clear HB; obtain ⟨bp, bo, HB⟩ := z_; (try clear hb hk ho0 ho1)) | ((with_reducible refine gate_dst (N := 3) rfl ?_); refine box_event ?hg (N := 3) ?hd (cs := #[.int .i64 0, .string (⟨#[]⟩ : ByteArray), .slice none 0 0, .slice none 0 0]) (t := 28) ?hr ?_; (case hd => rfl); (case hg => rfl); (case hr => exact p12z); intro aN hg w14 hbox hb; have z_ := asi6 (Kd.R_below p54z hb) (Kd.N_below (Kd.N_elderB p55z aN (Nat.le_of_eq hg.symm)) hb) (below_step p0z hb) (hbox) ((p41z : w.heap.size ≤ aN)) ((p41z : w.heap.size ≤ aN)); clear bp bo HB; obtain ⟨bp, bo, HB, ax, GW211, GE211⟩ := z_; clear hb hbox hg; have hcz15_0 : w14.cell? ⟨aN, 0, none⟩ = some (.int .i64 0) := (blk_cell ax.out 0).trans rfl; have hcz15_1 : w14.cell? ⟨aN, 1, none⟩ = some (.string (⟨#[]⟩ : ByteArray)) := (blk_cell ax.out 1).trans rfl; have hcz15_2 : w14.cell? ⟨aN, 2, none⟩ = some (.slice none 0 0) := (blk_cell ax.out 2).trans rfl; have hcz15_3 : w14.cell? ⟨aN, 3, none⟩ = some (.slice none 0 0) := (blk_cell ax.out 3).trans rfl; have hfz15_0 := blk_frozen ax.out 0; have hfz15_1 := blk_frozen ax.out 1; have hfz15_2 := blk_frozen ax.out 2; have hfz15_3 := blk_frozen ax.out 3; obtain ⟨cu, co16, eo16⟩ := Kd.R_slice bp.out; subst eo16; obtain ⟨cV, co17, eo17⟩ := Kd.N_slice bo.out; subst eo17) | ((with_reducible refine gate_callee (f := 24) rfl ?_); refine goesL_ (some 22) rfl rfl Tryz.func24 p8z rfl #[.string (a0.extract 0 ((ji2) : Int).toNat)] rfl (by (try simp only [List.map_toArray, List.map_cons, List.map_nil]); first | done | (simp only [hji2]; rfl) | rfl | (simp only [List.length_drop, List.length_take]; rfl)) ?_; (with_reducible refine (signetryref14_Parse.calls k (a0.extract 0 ((ji2) : Int).toNat) cq ct bM ch eO eP _ A6.out).mono ?_); rintro e w18 ⟨v215, v218, rfl, ho0, ho1, hb⟩; refine ⟨_, rfl, ?_⟩; have z_ := asi6 (Kd.R_elder' p26z (Kd.R_base ho0) hb) (Kd.N_mono (Kd.N_told (Kd.N_told (Kd.N_old p47z hb) (Kd.R_base ho0)) (Kd.R_base ho1)) (fun _ h_ => h_.1)) (Kd.R_lower (Kd.R_new' ho0 (Kd.R_lt p26z)) (below_size p30z)) (Kd.N_lower (Kd.N_mono (ok' := fun k_ => some k_ ≠ (v215 : Value).ownBlock ∧ some k_ ≠ (.slice cu t203.length co16 : Value).ownBlock ∧ some k_ ≠ (.slice cV t206.length co17 : Value).ownBlock ∧ k_ ≠ aN) (Kd.R_N (Kd.R_bound ho1)) (fun k_ hk_ => ⟨hk_.1, (Kd.fresh' (Kd.R_lt p26z) k_ hk_.2.1), (Kd.fresh' (Kd.N_lt p47z) k_ hk_.2.1), (Kd.freshB (g := aN) (o := .cells #[.int .i64 cn, .string cr, .slice cu t203.length co16, .slice cV t206.length co17] 28 (0, 0)) p24z k_ hk_.2.1)⟩)) (below_size p30z)) (blk_below (g := aN) (o := .cells #[.int .i64 cn, .string cr, .slice cu t203.length co16, .slice cV t206.length co17] 28 (0, 0)) p24z hb) (below_step p30z hb); clear bp bo ax HB; obtain ⟨bp, bo, cj, bD, ax, HB⟩ := z_; (try clear hb hk ho0 ho1)) | ((with_reducible refine gate_dst (N := 6) rfl ?_); refine box_event ?hg (N := 6) ?hd (cs := #[.int .i64 0, .string (⟨#[]⟩ : ByteArray), .slice none 0 0, .slice none 0 0]) (t := 37) ?hr ?_; (case hd => rfl); (case hg => rfl); (case hr => exact p12z); intro aj hg w19 hbox hb; have n0_ := Aside0.mk (Kd.R_below p54z hb); have n1_ := Aside0.mk (Kd.N_below (Kd.N_elderB p55z aj (Nat.le_of_eq hg.symm)) hb); have n2_ := Aside0.mk (Kd.R_below p44z hb); have n3_ := Aside0.mk (Kd.N_below (Kd.N_elderB p45z aj (Nat.le_of_eq hg.symm)) hb); have n4_ := Aside0.mk (blk_below (g := aN) (o := .cells #[.int .i64 cn, .string cr, .slice cu t203.length co16, .slice cV t206.length co17] 28 (0, 0)) p32z hb); have n5_ := Aside0.mk (below_step p30z hb); have n6_ := Aside0.mk (hbox); have n7_ := Aside0.mk ((by rw [hg]; exact (below_size p30z) : w.heap.size ≤ aj)); have n8_ := Aside0.mk ((by rw [hg]; exact (below_size p30z) : w.heap.size ≤ aj)); have n9_ := Aside0.mk ((by rw [hg]; exact Nat.ne_of_lt (blk_lt (g := aN) (o := .cells #[.int .i64 cn, .string cr, .slice cu t203.length co16, .slice cV t206.length co17] 28 (0, 0)) p32z) : aN ≠ aj)); have dN := Aside0.mk ((by rw [hg]; exact Nat.ne_of_gt (blk_lt (g := aN) (o := .cells #[.int .i64 cn, .string cr, .slice cu t203.length co16, .slice cV t206.length co17] 28 (0, 0)) p32z) : aj ≠ aN)); clear bp; clear bo; clear cj; clear bD; clear ax; clear HB; have bp := n0_; have bo := n1_; have cj := n2_; have bD := n3_; have ax := n4_; have HB := n5_; have aC := n6_; have GW222 := n7_; have GE222 := n8_; have NB211_222 := n9_; have NB222_211 := dN; clear n0_ n1_ n2_ n3_ n4_ n5_ n6_ n7_ n8_ n9_ dN; clear hb hbox hg; have hnb20 := NB222_211.out; have hnc20 := NB211_222.out; have hcz21_0 : w19.cell? ⟨aj, 0, none⟩ = some (.int .i64 0) := (blk_cell aC.out 0).trans rfl; have hcz21_1 : w19.cell? ⟨aj, 1, none⟩ = some (.string (⟨#[]⟩ : ByteArray)) := (blk_cell aC.out 1).trans rfl; have hcz21_2 : w19.cell? ⟨aj, 2, none⟩ = some (.slice none 0 0) := (blk_cell aC.out 2).trans rfl; have hcz21_3 : w19.cell? ⟨aj, 3, none⟩ = some (.slice none 0 0) := (blk_cell aC.out 3).trans rfl; have hfz21_0 := blk_frozen aC.out 0; have hfz21_1 := blk_frozen aC.out 1; have hfz21_2 := blk_frozen aC.out 2; have hfz21_3 := blk_frozen aC.out 3; obtain ⟨bY, co22, eo22⟩ := Kd.R_slice cj.out; subst eo22; obtain ⟨cp, co23, eo23⟩ := Kd.N_slice bD.out; subst eo23))
 have n0_ : Aside0 (Kd.R Kd.string 9 ((((w19.setCell ⟨aj, 0, none⟩ (.int .i64 cq)).setCell ⟨aj, 1, none⟩ (.string ct)).setCell ⟨aj, 2, none⟩ (.slice bY bM.length co22)).setCell ⟨aj, 3, none⟩ (.slice cp ch.length co23)) w.heap.size (fun k_ => some k_ ≠ (.slice bY bM.length co22 : Value).ownBlock) (.slice cu t203.length co16) t203) := ⟨by (with_reducible repeat (first | apply Kd.R_alloc | apply Kd.R_drewN | apply Kd.R_drew)); exact Kd.R_mono (Kd.R_far (p := ⟨aj, 3, none⟩) (Kd.R_far (p := ⟨aj, 2, none⟩) (Kd.R_far (p := ⟨aj, 1, none⟩) (Kd.R_far (p := ⟨aj, 0, none⟩) (Kd.R_types bp.out aC.out (by decide)) (fun _ hk => hk.2) (.int .i64 cq)) (fun _ hk => hk.2) (.string ct)) (fun _ hk => hk.2) (.slice bY bM.length co22)) (fun _ hk => hk.2) (.slice cp ch.length co23)) (fun _ hk => hk.1.2)⟩
 have n1_ : Aside0 (Kd.N k28 28 ((((w19.setCell ⟨aj, 0, none⟩ (.int .i64 cq)).setCell ⟨aj, 1, none⟩ (.string ct)).setCell ⟨aj, 2, none⟩ (.slice bY bM.length co22)).setCell ⟨aj, 3, none⟩ (.slice cp ch.length co23)) w.heap.size (fun k_ => some k_ ≠ (.slice cu t203.length co16 : Value).ownBlock ∧ some k_ ≠ (.slice bY bM.length co22 : Value).ownBlock ∧ some k_ ≠ (.slice cp ch.length co23 : Value).ownBlock ∧ k_ ≠ aN ∧ k_ ≠ aj) (.slice cV t206.length co17) t206) := ⟨by (with_reducible repeat (first | apply Kd.N_alloc | apply Kd.N_drewN | apply Kd.N_drew)); exact Kd.N_mono (Kd.N_far (p := ⟨aj, 3, none⟩) (Kd.N_far (p := ⟨aj, 2, none⟩) (Kd.N_far (p := ⟨aj, 1, none⟩) (Kd.N_far (p := ⟨aj, 0, none⟩) (Kd.N_mono bo.out (fun k_ hk => (⟨hk, hk.2⟩ : _ ∧ k_ ≠ aj))) (fun _ hk => hk.2) (.int .i64 cq)) (fun _ hk => hk.2) (.string ct)) (fun _ hk => hk.2) (.slice bY bM.length co22)) (fun _ hk => hk.2) (.slice cp ch.length co23)) (fun _ hk => ⟨hk.1.1.1.1.1, ⟨hk.1.1.1.2, ⟨hk.1.1.2, ⟨hk.1.1.1.1.2, hk.1.2⟩⟩⟩⟩)⟩
 have n2_ : Aside0 (Kd.R Kd.string 9 ((((w19.setCell ⟨aj, 0, none⟩ (.int .i64 cq)).setCell ⟨aj, 1, none⟩ (.string ct)).setCell ⟨aj, 2, none⟩ (.slice bY bM.length co22)).setCell ⟨aj, 3, none⟩ (.slice cp ch.length co23)) w.heap.size (fun k_ => some k_ ≠ (.slice cu t203.length co16 : Value).ownBlock) (.slice bY bM.length co22) bM) := ⟨by (with_reducible repeat (first | apply Kd.R_alloc | apply Kd.R_drewN | apply Kd.R_drew)); exact Kd.R_mono (Kd.R_far (p := ⟨aj, 3, none⟩) (Kd.R_far (p := ⟨aj, 2, none⟩) (Kd.R_far (p := ⟨aj, 1, none⟩) (Kd.R_far (p := ⟨aj, 0, none⟩) (Kd.R_types cj.out aC.out (by decide)) (fun _ hk => hk.2) (.int .i64 cq)) (fun _ hk => hk.2) (.string ct)) (fun _ hk => hk.2) (.slice bY bM.length co22)) (fun _ hk => hk.2) (.slice cp ch.length co23)) (fun _ hk => hk.1.2)⟩
 have n3_ : Aside0 (Kd.N k37 37 ((((w19.setCell ⟨aj, 0, none⟩ (.int .i64 cq)).setCell ⟨aj, 1, none⟩ (.string ct)).setCell ⟨aj, 2, none⟩ (.slice bY bM.length co22)).setCell ⟨aj, 3, none⟩ (.slice cp ch.length co23)) w.heap.size (fun k_ => some k_ ≠ (.slice cu t203.length co16 : Value).ownBlock ∧ some k_ ≠ (.slice cV t206.length co17 : Value).ownBlock ∧ some k_ ≠ (.slice bY bM.length co22 : Value).ownBlock ∧ k_ ≠ aN ∧ k_ ≠ aj) (.slice cp ch.length co23) ch) := ⟨by (with_reducible repeat (first | apply Kd.N_alloc | apply Kd.N_drewN | apply Kd.N_drew)); exact Kd.N_mono (Kd.N_far (p := ⟨aj, 3, none⟩) (Kd.N_far (p := ⟨aj, 2, none⟩) (Kd.N_far (p := ⟨aj, 1, none⟩) (Kd.N_far (p := ⟨aj, 0, none⟩) (Kd.N_mono bD.out (fun k_ hk => (⟨hk, hk.2⟩ : _ ∧ k_ ≠ aj))) (fun _ hk => hk.2) (.int .i64 cq)) (fun _ hk => hk.2) (.string ct)) (fun _ hk => hk.2) (.slice bY bM.length co22)) (fun _ hk => hk.2) (.slice cp ch.length co23)) (fun _ hk => ⟨hk.1.1.2.1, ⟨hk.1.1.2.2.1, ⟨hk.1.1.1, ⟨hk.1.1.2.2.2, hk.1.2⟩⟩⟩⟩)⟩
 have n4_ : Aside0 (((((w19.setCell ⟨aj, 0, none⟩ (.int .i64 cq)).setCell ⟨aj, 1, none⟩ (.string ct)).setCell ⟨aj, 2, none⟩ (.slice bY bM.length co22)).setCell ⟨aj, 3, none⟩ (.slice cp ch.length co23)).heap[aN]? = some (.cells #[.int .i64 cn, .string cr, .slice cu t203.length co16, .slice cV t206.length co17] 28 (0, 0))) := ⟨by (with_reducible repeat (first | refine blk_drewN ?_ _ | refine blk_drew ?_ | refine blk_alloc ?_ _)); refine blk_far ?_ NB211_222.out _; (with_reducible repeat (first | refine blk_drewN ?_ _ | refine blk_drew ?_ | refine blk_alloc ?_ _)); refine blk_far ?_ NB211_222.out _; (with_reducible repeat (first | refine blk_drewN ?_ _ | refine blk_drew ?_ | refine blk_alloc ?_ _)); refine blk_far ?_ NB211_222.out _; (with_reducible repeat (first | refine blk_drewN ?_ _ | refine blk_drew ?_ | refine blk_alloc ?_ _)); refine blk_far ?_ NB211_222.out _; (with_reducible repeat (first | refine blk_drewN ?_ _ | refine blk_drew ?_ | refine blk_alloc ?_ _)); exact ax.out⟩
 have n5_ : Aside0 (((((w19.setCell ⟨aj, 0, none⟩ (.int .i64 cq)).setCell ⟨aj, 1, none⟩ (.string ct)).setCell ⟨aj, 2, none⟩ (.slice bY bM.length co22)).setCell ⟨aj, 3, none⟩ (.slice cp ch.length co23)).heap[aj]? = some (.cells #[.int .i64 cq, .string ct, .slice bY bM.length co22, .slice cp ch.length co23] 37 (0, 0))) := ⟨by (with_reducible repeat (first | refine blk_drewN ?_ _ | refine blk_drew ?_ | refine blk_alloc ?_ _)); refine blk_put (cs := #[.int .i64 cq, .string ct, .slice bY bM.length co22, .slice none 0 0]) ?_ 3 _ rfl; (with_reducible repeat (first | refine blk_drewN ?_ _ | refine blk_drew ?_ | refine blk_alloc ?_ _)); refine blk_put (cs := #[.int .i64 cq, .string ct, .slice none 0 0, .slice none 0 0]) ?_ 2 _ rfl; (with_reducible repeat (first | refine blk_drewN ?_ _ | refine blk_drew ?_ | refine blk_alloc ?_ _)); refine blk_put (cs := #[.int .i64 cq, .string (⟨#[]⟩ : ByteArray), .slice none 0 0, .slice none 0 0]) ?_ 1 _ rfl; (with_reducible repeat (first | refine blk_drewN ?_ _ | refine blk_drew ?_ | refine blk_alloc ?_ _)); refine blk_put (cs := #[.int .i64 0, .string (⟨#[]⟩ : ByteArray), .slice none 0 0, .slice none 0 0]) ?_ 0 _ rfl; (with_reducible repeat (first | refine blk_drewN ?_ _ | refine blk_drew ?_ | refine blk_alloc ?_ _)); exact aC.out⟩
 have n6_ : Aside0 (Below w.heap.size w ((((w19.setCell ⟨aj, 0, none⟩ (.int .i64 cq)).setCell ⟨aj, 1, none⟩ (.string ct)).setCell ⟨aj, 2, none⟩ (.slice bY bM.length co22)).setCell ⟨aj, 3, none⟩ (.slice cp ch.length co23))) := ⟨p19z⟩
 (try clear bp)
 (try clear bo)
 (try clear cj)
 (try clear bD)
 (try clear ax)
 (try clear aC)
 (try clear HB)
 generalize ((((w19.setCell ⟨aj, 0, none⟩ (.int .i64 cq)).setCell ⟨aj, 1, none⟩ (.string ct)).setCell ⟨aj, 2, none⟩ (.slice bY bM.length co22)).setCell ⟨aj, 3, none⟩ (.slice cp ch.length co23)) = w24 at n0_ n1_ n2_ n3_ n4_ n5_ n6_ ⊢
 have bp := n0_
 have bo := n1_
 have cj := n2_
 have bD := n3_
 have ax := n4_
 have aC := n5_
 have HB := n6_
 clear n0_ n1_ n2_ n3_ n4_ n5_ n6_
 have n0_ := Aside0.mk (Kd.R_drew bp.out)
 have n1_ := Aside0.mk (Kd.N_drew bo.out)
 have n2_ := Aside0.mk (Kd.R_drew cj.out)
 have n3_ := Aside0.mk (Kd.N_drew bD.out)
 have n4_ := Aside0.mk (blk_drew ax.out)
 have n5_ := Aside0.mk (blk_drew aC.out)
 have n6_ := Aside0.mk (below_drew1 HB.out)
 clear bp
 clear bo
 clear cj
 clear bD
 clear ax
 clear aC
 clear HB
 have bp := n0_
 have bo := n1_
 have cj := n2_
 have bD := n3_
 have ax := n4_
 have aC := n5_
 have HB := n6_
 clear n0_ n1_ n2_ n3_ n4_ n5_ n6_
 refine start_ (n := 18) (S := fun w' => w'.cell? ⟨aN, 0, none⟩ = some (.int .i64 cn) ∧ w'.cell? ⟨aN, 1, none⟩ = some (.string cr) ∧ w'.cell? ⟨aN, 2, none⟩ = some (.slice cu t203.length co16) ∧ w'.cell? ⟨aN, 3, none⟩ = some (.slice cV t206.length co17) ∧ w'.cell? ⟨aj, 0, none⟩ = some (.int .i64 cq) ∧ w'.cell? ⟨aj, 1, none⟩ = some (.string ct) ∧ w'.cell? ⟨aj, 2, none⟩ = some (.slice bY bM.length co22) ∧ w'.cell? ⟨aj, 3, none⟩ = some (.slice cp ch.length co23)) (ds := []) #[false, false, false, false, false, false, false, false, false, false, false, false, false, false, false, false, false, false] p8z rfl rfl ⟨(blk_cell ax.out 0).trans rfl, (blk_cell ax.out 1).trans rfl, (blk_cell ax.out 2).trans rfl, (blk_cell ax.out 3).trans rfl, (blk_cell aC.out 0).trans rfl, (blk_cell aC.out 1).trans rfl, (blk_cell aC.out 2).trans rfl, (blk_cell aC.out 3).trans rfl⟩ (fun hHeld => ?_); refine with_tabW signetrylaw14_JtreeReads.tab4 signetrylaw14_JtreeReads.bits4 (fun HT_ HW_ => ?_)
 generalize w24.drew = w25 at bp bo cj bD ax aC HB hHeld ⊢
 refine take_ (i := 0) (N := some 26) (v := ?_) (a' := ?_) #[true, false, false, false, false, false, false, false, false, false, false, false, false, false, false, false, false, false] rfl rfl (take_ofW HT_.out HW_.out p8z) (fun _ _ _ h => h) (Or.inl ⟨by rfl, ?_⟩) hHeld ?_ ?_
 rotate_left
 ·rintro w' ⟨s0, s1, s2, s3, s4, s5, s6, s7⟩
  go_simp
  with_reducible rfl
 rotate_left
 ·simp only [Act.put, List.setIfInBounds_toArray, List.set_cons_zero, List.set_cons_succ, i64_w, i32_w]
  rfl
 refine take_ (i := 2) (N := some 28) (v := ?_) (a' := ?_) #[true, false, true, false, false, false, false, false, false, false, false, false, false, false, false, false, false, false] rfl rfl (take_ofW HT_.out HW_.out p8z) (fun _ _ _ h => h) (Or.inl ⟨by rfl, ?_⟩) hHeld ?_ ?_
 rotate_left
 ·rintro w' ⟨s0, s1, s2, s3, s4, s5, s6, s7⟩
  go_simp
  with_reducible rfl
 rotate_left
 ·simp only [Act.put, List.setIfInBounds_toArray, List.set_cons_zero, List.set_cons_succ, i64_w, i32_w]
  rfl
 refine one_ (i := 1) (N := some 27) #[true, true, true, false, false, false, false, false, false, false, false, false, false, false, false, false, false, false] rfl rfl (one_of HT_.out p8z) (by decide) (fun K hK => ?_)
 refine goes_ Tryz.func12 p8z rfl #[.agg #[.int .i64 cn, .string cr, .slice cu t203.length co16, .slice cV t206.length co17]] (by rfl) rfl rfl p5z ?_
 with_reducible refine (signetrylaw14_own.calls k cn cr (fun k_ => some k_ = (.slice cu t203.length co16 : Value).ownBlock) _ _ t203 (fun k_ => (some k_ ≠ (.slice cu t203.length co16 : Value).ownBlock ∧ (some k_ ≠ (.slice bY bM.length co22 : Value).ownBlock ∧ (some k_ ≠ (.slice cp ch.length co23 : Value).ownBlock ∧ (k_ ≠ aN ∧ k_ ≠ aj))))) _ _ t206 t223 t224 t225 t228 _ ?side1 ?side2 A7.out).mono ?_
 (case side1 => exact Kd.R_V (Kd.R_tight rfl (Kd.R_types (Kd.R_types (Kd.R_apart' (Kd.R_apart' (bp.out) (Kd.N_typed bo.out) (by decide)) (Kd.N_typed bD.out) (by decide)) ax.out (by decide)) aC.out (by decide))))
 (case side2 => exact Kd.N_V (bo.out))
 rintro e w26 ⟨v226, v229, rfl, ho0, ho1, hb⟩
 refine ⟨_, rfl, ?_⟩
 have n0_ := Aside0.mk (Kd.R_below p54z hb)
 have n1_ := Aside0.mk (Kd.N_elder' p55z (Kd.N_base ho1) hb)
 have n2_ := Aside0.mk (Kd.R_below p44z hb)
 have n3_ := Aside0.mk (Kd.N_elder' p45z (Kd.N_base ho1) hb)
 have n4_ := Aside0.mk (Kd.V_lower (Kd.V_mono (ok' := fun k_ => some k_ ≠ (v229 : Value).ownBlock ∧ some k_ ≠ (.slice bY bM.length co22 : Value).ownBlock ∧ some k_ ≠ (.slice cp ch.length co23 : Value).ownBlock ∧ k_ ≠ aN ∧ k_ ≠ aj) ho0 (fun k_ hk_ => ⟨hk_.2, Or.elim hk_.1 (fun hs_ => Or.elim hs_ (fun hs_ => ((Kd.R_types (Kd.R_types (Kd.R_apart' (Kd.R_apart' (bp.out) (Kd.N_typed bo.out) (by decide)) (Kd.N_typed bD.out) (by decide)) ax.out (by decide)) aC.out (by decide)).1 k_ hs_.symm).1.1.1.1) (fun hs_ => hs_.2.1)) (fun hn_ => (Kd.fresh' (Kd.R_lt p44z) k_ hn_)), Or.elim hk_.1 (fun hs_ => Or.elim hs_ (fun hs_ => ((Kd.R_types (Kd.R_types (Kd.R_apart' (Kd.R_apart' (bp.out) (Kd.N_typed bo.out) (by decide)) (Kd.N_typed bD.out) (by decide)) ax.out (by decide)) aC.out (by decide)).1 k_ hs_.symm).1.1.2) (fun hs_ => hs_.2.2.1)) (fun hn_ => (Kd.fresh' (Kd.N_lt p45z) k_ hn_)), Or.elim hk_.1 (fun hs_ => Or.elim hs_ (fun hs_ => ((Kd.R_types (Kd.R_types (Kd.R_apart' (Kd.R_apart' (bp.out) (Kd.N_typed bo.out) (by decide)) (Kd.N_typed bD.out) (by decide)) ax.out (by decide)) aC.out (by decide)).1 k_ hs_.symm).1.2) (fun hs_ => hs_.2.2.2.1)) (fun hn_ => (Kd.freshB (g := aN) (o := .cells #[.int .i64 cn, .string cr, .slice cu t203.length co16, .slice cV t206.length co17] 28 (0, 0)) p32z k_ hn_)), Or.elim hk_.1 (fun hs_ => Or.elim hs_ (fun hs_ => ((Kd.R_types (Kd.R_types (Kd.R_apart' (Kd.R_apart' (bp.out) (Kd.N_typed bo.out) (by decide)) (Kd.N_typed bD.out) (by decide)) ax.out (by decide)) aC.out (by decide)).1 k_ hs_.symm).2) (fun hs_ => hs_.2.2.2.2)) (fun hn_ => (Kd.freshB (g := aj) (o := .cells #[.int .i64 cq, .string ct, .slice bY bM.length co22, .slice cp ch.length co23] 37 (0, 0)) p52z k_ hn_))⟩)) (below_size p19z))
 have n5_ := Aside0.mk (Kd.N_lower (Kd.N_mono (ok' := fun k_ => some k_ ≠ (.slice bY bM.length co22 : Value).ownBlock ∧ some k_ ≠ (.slice cp ch.length co23 : Value).ownBlock ∧ k_ ≠ aN ∧ k_ ≠ aj) ho1 (fun k_ hk_ => ⟨Or.elim hk_ (fun hs_ => Or.elim hs_ (fun hs_ => ((Kd.R_types (Kd.R_types (Kd.R_apart' (Kd.R_apart' (bp.out) (Kd.N_typed bo.out) (by decide)) (Kd.N_typed bD.out) (by decide)) ax.out (by decide)) aC.out (by decide)).1 k_ hs_.symm).1.1.1.1) (fun hs_ => hs_.2.1)) (fun hn_ => (Kd.fresh' (Kd.R_lt p44z) k_ hn_)), Or.elim hk_ (fun hs_ => Or.elim hs_ (fun hs_ => ((Kd.R_types (Kd.R_types (Kd.R_apart' (Kd.R_apart' (bp.out) (Kd.N_typed bo.out) (by decide)) (Kd.N_typed bD.out) (by decide)) ax.out (by decide)) aC.out (by decide)).1 k_ hs_.symm).1.1.2) (fun hs_ => hs_.2.2.1)) (fun hn_ => (Kd.fresh' (Kd.N_lt p45z) k_ hn_)), Or.elim hk_ (fun hs_ => Or.elim hs_ (fun hs_ => ((Kd.R_types (Kd.R_types (Kd.R_apart' (Kd.R_apart' (bp.out) (Kd.N_typed bo.out) (by decide)) (Kd.N_typed bD.out) (by decide)) ax.out (by decide)) aC.out (by decide)).1 k_ hs_.symm).1.2) (fun hs_ => hs_.2.2.2.1)) (fun hn_ => (Kd.freshB (g := aN) (o := .cells #[.int .i64 cn, .string cr, .slice cu t203.length co16, .slice cV t206.length co17] 28 (0, 0)) p32z k_ hn_)), Or.elim hk_ (fun hs_ => Or.elim hs_ (fun hs_ => ((Kd.R_types (Kd.R_types (Kd.R_apart' (Kd.R_apart' (bp.out) (Kd.N_typed bo.out) (by decide)) (Kd.N_typed bD.out) (by decide)) ax.out (by decide)) aC.out (by decide)).1 k_ hs_.symm).2) (fun hs_ => hs_.2.2.2.2)) (fun hn_ => (Kd.freshB (g := aj) (o := .cells #[.int .i64 cq, .string ct, .slice bY bM.length co22, .slice cp ch.length co23] 37 (0, 0)) p52z k_ hn_))⟩)) (below_size p19z))
 have n6_ := Aside0.mk (blk_below (g := aN) (o := .cells #[.int .i64 cn, .string cr, .slice cu t203.length co16, .slice cV t206.length co17] 28 (0, 0)) p32z hb)
 have n7_ := Aside0.mk (blk_below (g := aj) (o := .cells #[.int .i64 cq, .string ct, .slice bY bM.length co22, .slice cp ch.length co23] 37 (0, 0)) p52z hb)
 have n8_ := Aside0.mk (below_step p19z hb)
 clear bp
 clear bo
 clear cj
 clear bD
 clear ax
 clear aC
 clear HB
 have bp := n0_
 have bo := n1_
 have cj := n2_
 have bD := n3_
 have du := n4_
 have dv := n5_
 have ax := n6_
 have aC := n7_
 have HB := n8_
 clear n0_ n1_ n2_ n3_ n4_ n5_ n6_ n7_ n8_
 (try clear hb)
 (try clear hb2)
 (try clear hk)
 (try clear hi)
 (try clear ho0)
 (try clear ho1)
 obtain ⟨Ao27, co27, eo27⟩ := Kd.V_slice du.out
 (first | subst eo27 | (injection eo27 with f1_ f2_ f3_; have f4_ := f1_.symm; have f5_ := f3_.symm; clear f1_ f2_ f3_; subst f4_; subst f5_))
 obtain ⟨Ao28, co28, eo28⟩ := Kd.N_slice dv.out
 (first | subst eo28 | (injection eo28 with f1_ f2_ f3_; have f4_ := f1_.symm; have f5_ := f3_.symm; clear f1_ f2_ f3_; subst f4_; subst f5_))
 refine hK.out _ _ ⟨(blk_cell ax.out 0).trans rfl, (blk_cell ax.out 1).trans rfl, (blk_cell ax.out 2).trans rfl, (blk_cell ax.out 3).trans rfl, (blk_cell aC.out 0).trans rfl, (blk_cell aC.out 1).trans rfl, (blk_cell aC.out 2).trans rfl, (blk_cell aC.out 3).trans rfl⟩ (fun hHeld => ?_)
 clear hK K
 refine norm_ (a' := ?_) ?_ ?_
 rotate_left
 ·show Act.put _ (some 27) _ = _
  simp only [Act.put, List.setIfInBounds_toArray, List.set_cons_zero, List.set_cons_succ, i64_w, i32_w]
  rfl
 refine one_ (i := 3) (N := some 29) #[true, true, true, true, false, false, false, false, false, false, false, false, false, false, false, false, false, false] rfl rfl (one_of HT_.out p8z) (by decide) (fun K hK => ?_)
 refine goes_ Tryz.func20 p8z rfl #[.agg #[.int .i64 t223, .string t224, .slice Ao27 t225.length co27, .slice Ao28 t228.length co28], .agg #[.int .i64 cq, .string ct, .slice bY bM.length co22, .slice cp ch.length co23]] (by rfl) rfl rfl p5z ?_
 with_reducible refine (signetryref14_Same.calls k t223 t224 _ _ t225 _ _ t228 cq ct _ _ bM _ _ ch true _ ?side1 ?side2 ?side3 ?side4 ?side5 ?side6 ?side7 ?side8 A8.out).mono ?_
 (case side1 => repeat (first | exact (Kd.V_reads' du.out).2.2 | (with_reducible refine Kd.C_alloc ?_ _) | (with_reducible refine Kd.C_drewN ?_ _) | (with_reducible refine Kd.C_drew ?_)))
 (case side2 => exact (Kd.V_reads' du.out).2.1)
 (case side3 => repeat (first | exact (Kd.N_reads' dv.out).2.2 | (with_reducible refine Kd.C_alloc ?_ _) | (with_reducible refine Kd.C_drewN ?_ _) | (with_reducible refine Kd.C_drew ?_)))
 (case side4 => exact (Kd.N_reads' dv.out).2.1)
 (case side5 => repeat (first | exact (Kd.R_reads' cj.out).2.2 | (with_reducible refine Kd.C_alloc ?_ _) | (with_reducible refine Kd.C_drewN ?_ _) | (with_reducible refine Kd.C_drew ?_)))
 (case side6 => exact (Kd.R_reads' cj.out).2.1)
 (case side7 => repeat (first | exact (Kd.N_reads' bD.out).2.2 | (with_reducible refine Kd.C_alloc ?_ _) | (with_reducible refine Kd.C_drewN ?_ _) | (with_reducible refine Kd.C_drew ?_)))
 (case side8 => exact (Kd.N_reads' bD.out).2.1)
 rintro e w29 ⟨rfl, hb⟩
 refine ⟨_, rfl, ?_⟩
 have n0_ := Aside0.mk (Kd.R_below p54z hb)
 have n1_ := Aside0.mk (Kd.N_below p55z hb)
 have n2_ := Aside0.mk (Kd.R_below p44z hb)
 have n3_ := Aside0.mk (Kd.N_below p45z hb)
 have n4_ := Aside0.mk (Kd.V_below (q1z du.out) hb)
 have n5_ := Aside0.mk (Kd.N_below (by (with_reducible repeat (first | apply Kd.N_alloc | apply Kd.N_drewN | apply Kd.N_drew)); exact dv.out) hb)
 have n6_ := Aside0.mk (blk_below (g := aN) (o := .cells #[.int .i64 cn, .string cr, .slice cu t203.length co16, .slice cV t206.length co17] 28 (0, 0)) p32z hb)
 have n7_ := Aside0.mk (blk_below (g := aj) (o := .cells #[.int .i64 cq, .string ct, .slice bY bM.length co22, .slice cp ch.length co23] 37 (0, 0)) p52z hb)
 have n8_ := Aside0.mk (below_step p19z hb)
 clear bp
 clear bo
 clear cj
 clear bD
 clear du
 clear dv
 clear ax
 clear aC
 clear HB
 have bp := n0_
 have bo := n1_
 have cj := n2_
 have bD := n3_
 have du := n4_
 have dv := n5_
 have ax := n6_
 have aC := n7_
 have HB := n8_
 clear n0_ n1_ n2_ n3_ n4_ n5_ n6_ n7_ n8_
 (try clear hb)
 (try clear hb2)
 (try clear hk)
 (try clear hi)
 refine hK.out _ _ ⟨(blk_cell ax.out 0).trans rfl, (blk_cell ax.out 1).trans rfl, (blk_cell ax.out 2).trans rfl, (blk_cell ax.out 3).trans rfl, (blk_cell aC.out 0).trans rfl, (blk_cell aC.out 1).trans rfl, (blk_cell aC.out 2).trans rfl, (blk_cell aC.out 3).trans rfl⟩ (fun hHeld => ?_)
 clear hK K
 refine norm_ (a' := ?_) ?_ ?_
 rotate_left
 ·show Act.put _ (some 29) _ = _
  simp only [Act.put, List.setIfInBounds_toArray, List.set_cons_zero, List.set_cons_succ, i64_w, i32_w]
  rfl
 refine pure_ (i := 4) (N := some 30) (v := ?_) (a' := ?_) #[true, true, true, true, true, false, false, false, false, false, false, false, false, false, false, false, false, false] rfl rfl (any_of HT_.out p8z) (fun _ _ _ h => h) (Or.inl ⟨by rfl, ?_⟩) ?_ ?_
 rotate_left
 ·intro w'
  go_simp
  with_reducible rfl
 rotate_left
 ·simp only [Act.put, List.setIfInBounds_toArray, List.set_cons_zero, List.set_cons_succ, i64_w, i32_w]
  rfl
 refine pure_ (i := 5) (N := some 31) (v := ?_) (a' := ?_) #[true, true, true, true, true, true, false, false, false, false, false, false, false, false, false, false, false, false] rfl rfl (any_of HT_.out p8z) (fun _ _ _ h => h) (Or.inl ⟨by rfl, ?_⟩) ?_ ?_
 rotate_left
 ·intro w'
  go_simp
  with_reducible rfl
 rotate_left
 ·simp only [Act.put, List.setIfInBounds_toArray, List.set_cons_zero, List.set_cons_succ, i64_w, i32_w]
  rfl
 refine pure_ (i := 6) (N := some 32) (v := ?_) (a' := ?_) #[true, true, true, true, true, true, true, false, false, false, false, false, false, false, false, false, false, false] rfl rfl (any_of HT_.out p8z) (fun _ _ _ h => h) (Or.inl ⟨by rfl, ?_⟩) ?_ ?_
 rotate_left
 ·intro w'
  go_simp
  with_reducible rfl
 rotate_left
 ·simp only [Act.put, List.setIfInBounds_toArray, List.set_cons_zero, List.set_cons_succ, i64_w, i32_w]
  rfl
 refine pure_ (i := 7) (N := some 33) (v := ?_) (a' := ?_) #[true, true, true, true, true, true, true, true, false, false, false, false, false, false, false, false, false, false] rfl rfl (any_of HT_.out p8z) (fun _ _ _ h => h) (Or.inl ⟨by rfl, ?_⟩) ?_ ?_
 rotate_left
 ·intro w'
  go_simp
  with_reducible rfl
 rotate_left
 ·simp only [Act.put, List.setIfInBounds_toArray, List.set_cons_zero, List.set_cons_succ, i64_w, i32_w]
  rfl
 refine pure_ (i := 8) (N := some 34) (v := ?_) (a' := ?_) #[true, true, true, true, true, true, true, true, true, false, false, false, false, false, false, false, false, false] rfl rfl (any_of HT_.out p8z) (fun _ _ _ h => h) (Or.inl ⟨by rfl, ?_⟩) ?_ ?_
 rotate_left
 ·intro w'
  go_simp
  with_reducible rfl
 rotate_left
 ·simp only [Act.put, List.setIfInBounds_toArray, List.set_cons_zero, List.set_cons_succ, i64_w, i32_w]
  rfl
 refine pure_ (i := 9) (N := some 35) (v := ?_) (a' := ?_) #[true, true, true, true, true, true, true, true, true, true, false, false, false, false, false, false, false, false] rfl rfl (any_of HT_.out p8z) (fun _ _ _ h => h) (Or.inl ⟨by rfl, ?_⟩) ?_ ?_
 rotate_left
 ·intro w'
  go_simp
  with_reducible rfl
 rotate_left
 ·simp only [Act.put, List.setIfInBounds_toArray, List.set_cons_zero, List.set_cons_succ, i64_w, i32_w]
  rfl
 refine pure_ (i := 10) (N := some 36) (v := ?_) (a' := ?_) #[true, true, true, true, true, true, true, true, true, true, true, false, false, false, false, false, false, false] rfl rfl (any_of HT_.out p8z) (fun _ _ _ h => h) (Or.inl ⟨by rfl, ?_⟩) ?_ ?_
 rotate_left
 ·intro w'
  go_simp
  with_reducible rfl
 rotate_left
 ·simp only [Act.put, List.setIfInBounds_toArray, List.set_cons_zero, List.set_cons_succ, i64_w, i32_w]
  rfl
 refine pure_ (i := 11) (N := some 37) (v := ?_) (a' := ?_) #[true, true, true, true, true, true, true, true, true, true, true, true, false, false, false, false, false, false] rfl rfl (any_of HT_.out p8z) (fun _ _ _ h => h) (Or.inl ⟨by rfl, ?_⟩) ?_ ?_
 rotate_left
 ·intro w'
  go_simp
  with_reducible rfl
 rotate_left
 ·simp only [Act.put, List.setIfInBounds_toArray, List.set_cons_zero, List.set_cons_succ, i64_w, i32_w]
  rfl
 refine pure_ (i := 12) (N := some 38) (v := ?_) (a' := ?_) #[true, true, true, true, true, true, true, true, true, true, true, true, true, false, false, false, false, false] rfl rfl (any_of HT_.out p8z) (fun _ _ _ h => h) (Or.inl ⟨by rfl, ?_⟩) ?_ ?_
 rotate_left
 ·intro w'
  go_simp
  with_reducible rfl
 rotate_left
 ·simp only [Act.put, List.setIfInBounds_toArray, List.set_cons_zero, List.set_cons_succ, i64_w, i32_w]
  rfl
 refine pure_ (i := 13) (N := some 39) (v := ?_) (a' := ?_) #[true, true, true, true, true, true, true, true, true, true, true, true, true, true, false, false, false, false] rfl rfl (any_of HT_.out p8z) (fun _ _ _ h => h) (Or.inl ⟨by rfl, ?_⟩) ?_ ?_
 rotate_left
 ·intro w'
  go_simp
  with_reducible rfl
 rotate_left
 ·simp only [Act.put, List.setIfInBounds_toArray, List.set_cons_zero, List.set_cons_succ, i64_w, i32_w]
  rfl
 refine pure_ (i := 14) (N := some 40) (v := ?_) (a' := ?_) #[true, true, true, true, true, true, true, true, true, true, true, true, true, true, true, false, false, false] rfl rfl (any_of HT_.out p8z) (fun _ _ _ h => h) (Or.inl ⟨by rfl, ?_⟩) ?_ ?_
 rotate_left
 ·intro w'
  go_simp
  with_reducible rfl
 rotate_left
 ·simp only [Act.put, List.setIfInBounds_toArray, List.set_cons_zero, List.set_cons_succ, i64_w, i32_w]
  rfl
 refine one_ (i := 15) (N := some 41) #[true, true, true, true, true, true, true, true, true, true, true, true, true, true, true, true, false, false] rfl rfl (one_of HT_.out p8z) (by decide) (fun K hK => ?_)
 refine goes_ Tryz.func9 p8z rfl #[] (by rfl) rfl rfl p5z ?_
 with_reducible refine (signetrylaw14_works.calls k  cN _ A12.out (HTB_.below p0z)).mono ?_
 rintro e w30 ⟨rfl, hb⟩
 refine ⟨_, rfl, ?_⟩
 have n0_ := Aside0.mk (Kd.R_below p54z hb)
 have n1_ := Aside0.mk (Kd.N_below p55z hb)
 have n2_ := Aside0.mk (Kd.R_below p44z hb)
 have n3_ := Aside0.mk (Kd.N_below p45z hb)
 have n4_ := Aside0.mk (Kd.V_below (q1z du.out) hb)
 have n5_ := Aside0.mk (Kd.N_below (by (with_reducible repeat (first | apply Kd.N_alloc | apply Kd.N_drewN | apply Kd.N_drew)); exact dv.out) hb)
 have n6_ := Aside0.mk (blk_below (g := aN) (o := .cells #[.int .i64 cn, .string cr, .slice cu t203.length co16, .slice cV t206.length co17] 28 (0, 0)) p32z hb)
 have n7_ := Aside0.mk (blk_below (g := aj) (o := .cells #[.int .i64 cq, .string ct, .slice bY bM.length co22, .slice cp ch.length co23] 37 (0, 0)) p52z hb)
 have n8_ := Aside0.mk (below_step p19z hb)
 clear bp
 clear bo
 clear cj
 clear bD
 clear du
 clear dv
 clear ax
 clear aC
 clear HB
 have bp := n0_
 have bo := n1_
 have cj := n2_
 have bD := n3_
 have du := n4_
 have dv := n5_
 have ax := n6_
 have aC := n7_
 have HB := n8_
 clear n0_ n1_ n2_ n3_ n4_ n5_ n6_ n7_ n8_
 (try clear hb)
 (try clear hb2)
 (try clear hk)
 (try clear hi)
 refine hK.out _ _ ⟨(blk_cell ax.out 0).trans rfl, (blk_cell ax.out 1).trans rfl, (blk_cell ax.out 2).trans rfl, (blk_cell ax.out 3).trans rfl, (blk_cell aC.out 0).trans rfl, (blk_cell aC.out 1).trans rfl, (blk_cell aC.out 2).trans rfl, (blk_cell aC.out 3).trans rfl⟩ (fun hHeld => ?_)
 clear hK K
 refine norm_ (a' := ?_) ?_ ?_
 rotate_left
 ·show Act.put _ (some 41) _ = _
  simp only [Act.put, List.setIfInBounds_toArray, List.set_cons_zero, List.set_cons_succ, i64_w, i32_w]
  rfl
 refine pure_ (i := 16) (N := some 42) (v := ?_) (a' := ?_) #[true, true, true, true, true, true, true, true, true, true, true, true, true, true, true, true, true, false] rfl rfl (any_of HT_.out p8z) (fun _ _ _ h => h) (Or.inl ⟨by rfl, ?_⟩) ?_ ?_
 rotate_left
 ·intro w'
  go_simp
  with_reducible rfl
 rotate_left
 ·simp only [Act.put, List.setIfInBounds_toArray, List.set_cons_zero, List.set_cons_succ, i64_w, i32_w]
  rfl
 refine pure_ (i := 17) (N := some 2) (v := ?_) (a' := ?_) #[true, true, true, true, true, true, true, true, true, true, true, true, true, true, true, true, true, true] rfl rfl (any_of HT_.out p8z) (fun _ _ _ h => h) (Or.inl ⟨by rfl, ?_⟩) ?_ ?_
 rotate_left
 ·intro w'
  go_simp
  with_reducible rfl
 rotate_left
 ·simp only [Act.put, List.setIfInBounds_toArray, List.set_cons_zero, List.set_cons_succ, i64_w, i32_w]
  rfl
 refine done_ (done_of HT_.out p8z) ?_
 try go_wp2
 go_ret
 exact ⟨by first | rfl | (simp [errW_none, errW_some] <;> rfl) | (simp only [← hji2]; first | rfl | (simp [errW_none, errW_some] <;> rfl)) | (simp [*, errW_none, errW_some] <;> rfl), p19z⟩
/-- THE ONE PURE STATEMENT of signetrylaw14_JtreeReads: yours. -/
def signetrylaw14_JtreeReads.Pure : Prop := ∀ (a0 : ByteArray), a0.size ≤ 140737488351232 → ∃ k, signetrylaw14_JtreeReads.f k a0 = some true
theorem signetrylaw14_JtreeReads.walk (P : signetrylaw14_JtreeReads.Pure) (a0 : ByteArray) (w : World) (w0 : a0.size ≤ 140737488351232) (HTB_ : Tabs w) :
    Calls Tryz.prog 5 #[.string a0] w fun e w' => e = .returned (.bool true) ∧ Below w.heap.size w w' := by
  obtain ⟨k, h⟩ := P a0 w0
  refine (signetrylaw14_JtreeReads.calls k a0 true w h HTB_).mono ?_
  rintro e w' ⟨rfl, hd⟩
  exact ⟨rfl, hd⟩
end Go.Proofs.YtodnggilomanbaaGreatDoor.PAll
