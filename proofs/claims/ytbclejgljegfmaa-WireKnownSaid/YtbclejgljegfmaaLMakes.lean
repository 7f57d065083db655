-- Written by this repo's program wip/tools/pr.py (over the kit's print) out of the translation. Not trusted: Lean checks it.
import Derived.Test.YtbclejgljegfmaaAp
import Derived.Test.YtbclejgljegfmaaPAllx0
import Derived.Test.YtbclejgljegfmaaGA
import Derived.Test.YtbclejgljegfmaaGB
import Derived.Test.YtbclejgljegfmaaGC
import Derived.Test.YtbclejgljegfmaaGN
import Derived.Test.YtbclejgljegfmaaGM
import Derived.Test.YtbclejgljegfmaaGO
import Derived.Test.YtbclejgljegfmaaGG
import Derived.Test.YtbclejgljegfmaaHandWorks
set_option maxHeartbeats 8000000
set_option maxRecDepth 100000
namespace Go.Proofs.Ytbclejgljegfmaa.PAll
open Go.Proofs.Ytbclejgljegfmaa.Hand
open Go.RowKit Go.Proofs.YtbclejgljegfmaaW.PrintWords Go.Proofs.YtbclejgljegfmaaW.PrintLast Go.Proofs.YtbclejgljegfmaaW.PrintMore
attribute [local go_sem] max2_int min2_int max_two min_two max_three min_three max_four min_four   -- for this text's walks alone
set_option linter.unusedVariables false
set_option linter.unusedSimpArgs false

/-! ### a7: function 7 -/
mutual
def a7.j0 : Nat → Int → List Int → Bool → Int → Int → Int → Int → Int → List Int → List Int → Int → Int → Int → List Int → List Int → Option (Bool)
  | 0, _, _, _, _, _, _, _, _, _, _, _, _, _, _, _ => none
  | k + 1, x1, x2, x54, gZ, hE, eC, eD, eE, eF, eG, eV, eW, eX, eY, eZ => if x54 = true then (none) else ((wire_Copy.f eC eD eE eF eG).bind fun dL => ((wire_Same.f k eC eD eE eF eG gZ hE x1 x2 x2).bind fun iF => ((ai.f eV eW eX eY eZ gZ hE x1 x2 x2).bind fun iw => (if (iF != iw) = true then (none) else ((wire_Same.f k gZ hE x1 x2 x2 gZ hE x1 x2 x2).bind fun i5 => (if (i5 != true) = true then (none) else ((bq.f k gZ hE x1 x2 x2).bind fun gN => ((ar.f k gZ hE x1 x2 x2).bind fun gD => (if gN = gD then ((bq.f k dL.1 dL.2.1 dL.2.2.1 dL.2.2.2.1 dL.2.2.2.2).bind fun fZ => ((ar.f k eV eW eX eY eZ).bind fun fQ => (if fZ = fQ then ((wire_Same.f k dL.1 dL.2.1 dL.2.2.1 dL.2.2.2.1 dL.2.2.2.2 eC eD eE eF eG).bind fun fR => (a7.j1 k (!fR) eC eD eE eF eG eV eW eX eY eZ dL.1 dL.2.1 dL.2.2.1 dL.2.2.2.1 dL.2.2.2.2)) else (none)))) else (none))))))))))
def a7.j1 : Nat → Bool → Int → Int → Int → List Int → List Int → Int → Int → Int → List Int → List Int → Int → Int → Int → List Int → List Int → Option (Bool)
  | 0, _, _, _, _, _, _, _, _, _, _, _, _, _, _, _, _ => none
  | k + 1, x97, eC, eD, eE, eF, eG, eV, eW, eX, eY, eZ, hH, hJ, hO, g6, g7 => if x97 = true then (none) else (a7.l0 k 0 eC eD eE eF eG eV eW eX eY eZ hH hJ hO g6 g7)
def a7.l0 : Nat → Int → Int → Int → Int → List Int → List Int → Int → Int → Int → List Int → List Int → Int → Int → Int → List Int → List Int → Option (Bool)
  | 0, _, _, _, _, _, _, _, _, _, _, _, _, _, _, _, _ => none
  | k + 1, x14, eC, eD, eE, eF, eG, eV, eW, eX, eY, eZ, hH, hJ, hO, g6, g7 => if x14 < (g6.length : Int) then (if 0 ≤ x14 then (a7.l0 k (wrap64 (x14 + 1)) eC eD eE eF eG eV eW eX eY eZ hH hJ hO (g6.set (x14 : Int).toNat (Go.bits .xor .u8 (rd g6 x14) 1)) g7) else (none)) else (a7.l1 k 0 eC eD eE eF eG eV eW eX eY eZ hH hJ hO g6 g7)
def a7.l1 : Nat → Int → Int → Int → Int → List Int → List Int → Int → Int → Int → List Int → List Int → Int → Int → Int → List Int → List Int → Option (Bool)
  | 0, _, _, _, _, _, _, _, _, _, _, _, _, _, _, _, _ => none
  | k + 1, x15, eC, eD, eE, eF, eG, eV, eW, eX, eY, eZ, hH, hJ, hO, g6, g7 => if x15 < (g7.length : Int) then (if 0 ≤ x15 then (a7.l1 k (wrap64 (x15 + 1)) eC eD eE eF eG eV eW eX eY eZ hH hJ hO g6 (g7.set (x15 : Int).toNat (Go.bits .xor .u8 (rd g7 x15) 1))) else (none)) else ((ai.f eC eD eE eF eG eV eW eX eY eZ).bind fun t542 => (if t542 = true then ((ac.f).bind fun kx => (some kx)) else (none)))
end
def a7.f (k : Nat) (a0_0 : Int) (a0_1 : Int) (a1 : Int) (l2 : List Int) : Option (Bool) := (bA.f l2).bind fun aW => ((ag.f aW).bind fun fB => ((wire_Make.f k a0_0 a0_1 a1 fB).bind fun cK => ((b6.f k a0_0 a0_1 a1 aW).bind fun bw => ((ai.f cK.1 cK.2.1 cK.2.2.1 cK.2.2.2.1 cK.2.2.2.2.1 bw.1 bw.2.1 bw.2.2.1 bw.2.2.2.1 bw.2.2.2.2.1).bind fun ix => (if ix = true then (if cK.2.2.2.2.2 = bw.2.2.2.2.2 then ((ab.f fB aW).bind fun fv => (a7.j0 k a1 aW (!fv) a0_0 a0_1 cK.1 cK.2.1 cK.2.2.1 cK.2.2.2.1 cK.2.2.2.2.1 bw.1 bw.2.1 bw.2.2.1 bw.2.2.2.1 bw.2.2.2.2.1)) else (none)) else (none))))))
def a7.T9 : Bool × List (List Nat × List Nat) := (true, [([], []), ([], []), ([0, 1], [0, 1]), ([], []), ([], []), ([3, 4, 2], [3, 4]), ([2, 5], [2, 5]), ([6, 5], [6]), ([7], [7]), ([7], [7]), ([8, 9, 7, 7], [7, 8, 9]), ([10, 7], [7, 10]), ([7, 11], [7, 11]), ([12, 10], [12]), ([13], [13]), ([14, 13, 13], [13, 14]), ([13], [13]), ([16, 15, 13], [13, 16]), ([15, 17, 13], [13, 15, 17]), ([13, 18], [13, 18]), ([19, 17], [19]), ([20], [20]), ([21, 20, 20], [20, 21]), ([20], [20]), ([23, 22, 20], [20, 23]), ([22, 24, 20], [20, 22, 24]), ([20, 25], [20, 25]), ([26, 24], [26]), ([27], [27]), ([27], [27]), ([28, 29, 27, 27], [27, 28, 29]), ([30, 27], [27, 30]), ([27, 31], [27, 31])])
def a7.B9 : List Nat := [0, 0, 3, 0, 0, 31, 63, 127, 255, 255, 1023, 2047, 4095, 8191, 16383, 32767, 16383, 131071, 262143, 524287, 1048575, 2097151, 4194303, 2097151, 16777215, 33554431, 67108863, 134217727, 268435455, 268435455, 1073741823, 2147483647, 4294967295]
theorem a7.tab9 : rtab .any (opsOf Try.f7 9) = a7.T9 := p16z
theorem a7.bits9 : waitsOk a7.T9.2 a7.B9 = true := p16z
def a7.T14 : Bool × List (List Nat × List Nat) := (true, [([], []), ([0], [0]), ([], []), ([], []), ([3], [3]), ([], []), ([4, 5], [4, 5]), ([6], [6]), ([7], [7]), ([1, 2, 0, 1, 2, 3, 4, 5, 6, 7, 8], [1, 2]), ([9, 8, 0, 1, 2, 3, 4, 5, 6, 7, 8], [8, 9])])
def a7.B14 : List Nat := [0, 1, 0, 0, 8, 0, 56, 120, 248, 511, 1023]
theorem a7.tab14 : rtab .any (opsOf Try.f7 14) = a7.T14 := p16z
theorem a7.bits14 : waitsOk a7.T14.2 a7.B14 = true := p16z
def a7.T18 : Bool × List (List Nat × List Nat) := (true, [([], []), ([0], [0]), ([], []), ([], []), ([3], [3]), ([], []), ([4, 5], [4, 5]), ([6], [6]), ([7], [7]), ([1, 2, 0, 1, 2, 3, 4, 5, 6, 7, 8], [1, 2]), ([9, 8, 0, 1, 2, 3, 4, 5, 6, 7, 8], [8, 9])])
def a7.B18 : List Nat := [0, 1, 0, 0, 8, 0, 56, 120, 248, 511, 1023]
theorem a7.tab18 : rtab .any (opsOf Try.f7 18) = a7.T18 := p16z
theorem a7.bits18 : waitsOk a7.T18.2 a7.B18 = true := p16z
theorem a7.calls (k : Nat) (a0_0 : Int) (a0_1 : Int) (a1 : Int) (A2 : Option Addr) (c2 : Nat) (l2 : List Int) (r : Bool) (w : World) (hr2 : Kd.C (Kd.int .u8) w A2 l2.length l2) (hc2 : l2.length ≤ c2) (h : a7.f k a0_0 a0_1 a1 l2 = some r) :
 Calls Try.prog 7 #[.agg #[.int .i64 a0_0, .int .i64 a0_1], .int .u64 a1, .slice A2 l2.length c2] w fun e w' => e = .returned (.bool r) ∧ Below w.heap.size w w' := by
 have hu52 := Try.underlying52
 have hu33 := Try.underlying33
 have HR2 := Aside0.mk hr2
 have HC2 := Aside0.mk hc2
 clear hr2 hc2
 have HB := Aside0.mk (Below.refl w.heap.size w)
 have H : ((bA.f l2).bind fun aW => ((ag.f aW).bind fun fB => ((wire_Make.f k a0_0 a0_1 a1 fB).bind fun cK => ((b6.f k a0_0 a0_1 a1 aW).bind fun bw => ((ai.f cK.1 cK.2.1 cK.2.2.1 cK.2.2.2.1 cK.2.2.2.2.1 bw.1 bw.2.1 bw.2.2.1 bw.2.2.2.1 bw.2.2.2.2.1).bind fun ix => (if ix = true then (if cK.2.2.2.2.2 = bw.2.2.2.2.2 then ((ab.f fB aW).bind fun fv => (a7.j0 k a1 aW (!fv) a0_0 a0_1 cK.1 cK.2.1 cK.2.2.1 cK.2.2.2.1 cK.2.2.2.2.1 bw.1 bw.2.1 bw.2.2.1 bw.2.2.2.1 bw.2.2.2.2.1)) else (none)) else (none))))))) = some r := h
 clear h
 replace H := Option.bind_eq_some_iff.mp H
 obtain ⟨aW, A40, H⟩ := H
 replace H : ((ag.f aW).bind fun fB => ((wire_Make.f k a0_0 a0_1 a1 fB).bind fun cK => ((b6.f k a0_0 a0_1 a1 aW).bind fun bw => ((ai.f cK.1 cK.2.1 cK.2.2.1 cK.2.2.2.1 cK.2.2.2.2.1 bw.1 bw.2.1 bw.2.2.1 bw.2.2.2.1 bw.2.2.2.2.1).bind fun ix => (if ix = true then (if cK.2.2.2.2.2 = bw.2.2.2.2.2 then ((ab.f fB aW).bind fun fv => (a7.j0 k a1 aW (!fv) a0_0 a0_1 cK.1 cK.2.1 cK.2.2.1 cK.2.2.2.1 cK.2.2.2.2.1 bw.1 bw.2.1 bw.2.2.1 bw.2.2.2.1 bw.2.2.2.2.1)) else (none)) else (none)))))) = some r := H
 have A4 := Aside0.mk A40
 clear A40
 replace H := Option.bind_eq_some_iff.mp H
 obtain ⟨fB, A50, H⟩ := H
 replace H : ((wire_Make.f k a0_0 a0_1 a1 fB).bind fun cK => ((b6.f k a0_0 a0_1 a1 aW).bind fun bw => ((ai.f cK.1 cK.2.1 cK.2.2.1 cK.2.2.2.1 cK.2.2.2.2.1 bw.1 bw.2.1 bw.2.2.1 bw.2.2.2.1 bw.2.2.2.2.1).bind fun ix => (if ix = true then (if cK.2.2.2.2.2 = bw.2.2.2.2.2 then ((ab.f fB aW).bind fun fv => (a7.j0 k a1 aW (!fv) a0_0 a0_1 cK.1 cK.2.1 cK.2.2.1 cK.2.2.2.1 cK.2.2.2.2.1 bw.1 bw.2.1 bw.2.2.1 bw.2.2.2.1 bw.2.2.2.2.1)) else (none)) else (none))))) = some r := H
 have A5 := Aside0.mk A50
 clear A50
 replace H := Option.bind_eq_some_iff.mp H
 obtain ⟨⟨cf, cj, bQ, bD, bH, ky⟩, A60, H⟩ := H
 replace H : ((b6.f k a0_0 a0_1 a1 aW).bind fun bw => ((ai.f cf cj bQ bD bH bw.1 bw.2.1 bw.2.2.1 bw.2.2.2.1 bw.2.2.2.2.1).bind fun ix => (if ix = true then (if ky = bw.2.2.2.2.2 then ((ab.f fB aW).bind fun fv => (a7.j0 k a1 aW (!fv) a0_0 a0_1 cf cj bQ bD bH bw.1 bw.2.1 bw.2.2.1 bw.2.2.2.1 bw.2.2.2.2.1)) else (none)) else (none)))) = some r := H
 have A6 := Aside0.mk A60
 clear A60
 replace H := Option.bind_eq_some_iff.mp H
 obtain ⟨⟨cg, ck, cp, bE, bI, kS⟩, A70, H⟩ := H
 replace H : ((ai.f cf cj bQ bD bH cg ck cp bE bI).bind fun ix => (if ix = true then (if ky = kS then ((ab.f fB aW).bind fun fv => (a7.j0 k a1 aW (!fv) a0_0 a0_1 cf cj bQ bD bH cg ck cp bE bI)) else (none)) else (none))) = some r := H
 have A7 := Aside0.mk A70
 clear A70
 have HC8 := Aside0.mk H
 clear H
 go_enter Try.func7, Try.ntmps7
 go_upto_region 5 with (first | ((with_reducible refine gate_dst (N := 3) rfl ?_); refine box_event ?hg (N := 3) ?hd (cs := #[.int .i64 a0_0, .int .i64 a0_1]) (t := 52) ?hr ?_; (case hd => rfl); (case hg => rfl); (case hr => exact p22z); intro br hg w9 hbox hb; have z_ := asi4 (below_step p0z hb) (hbox) ((p38z : w.heap.size ≤ br)) ((p38z : w.heap.size ≤ br)); clear HB; obtain ⟨HB, aZ, GW488, iu⟩ := z_; clear hb hbox hg) | ((with_reducible refine gate_callee (f := 23) rfl ?_); refine goesL_ (some 17) rfl rfl Try.func23 p16z rfl #[.slice A2 l2.length c2] rfl p2z ?_; (with_reducible refine (bA.calls (fun k_ => k_ < w.heap.size) _ _ l2 aW _ ?side1 A4.out).mono ?_); (case side1 => exact Kd.V_mk HC2.out (Kd.F_below (Kd.C_F (Kd.heap_int .u8) HR2.out) p37z)); rintro e w10 ⟨v490, rfl, ho0, hb⟩; refine ⟨_, rfl, ?_⟩; have z_ := asi3 (Kd.V_lower (Kd.V_mono (ok' := fun k_ => k_ ≠ br) ho0 (fun k_ hk_ => Or.elim hk_ (fun hs_ => fun e_ => Nat.not_le.2 hs_ (by rw [e_]; exact GW488.out)) (fun hn_ => (Kd.freshB (g := br) (o := .cells #[.int .i64 a0_0, .int .i64 a0_1] 52 (0, 0)) p23z k_ hn_)))) (below_size p37z)) (blk_below (g := br) (o := .cells #[.int .i64 a0_0, .int .i64 a0_1] 52 (0, 0)) p23z hb) (below_step p37z hb); clear aZ HB; obtain ⟨eB, aZ, HB⟩ := z_; (try clear hb hk ho0); obtain ⟨bX, co11, eo11⟩ := Kd.V_slice eB.out; subst eo11) | ((with_reducible refine gate_callee (f := 12) rfl ?_); refine goesL_ (some 19) rfl rfl Try.func12 p16z rfl #[.slice bX aW.length co11] rfl p2z ?_; (with_reducible refine (ag.calls _ _ aW fB _ ?side1 ?side2 A5.out).mono ?_); (case side1 => exact p232z); (case side2 => exact (Kd.V_reads' eB.out).2.1); rintro e w12 ⟨v493, rfl, ho0, hb⟩; refine ⟨_, rfl, ?_⟩; have z_ := asi4 (Kd.V_elder' p194z (Kd.R_base ho0) hb) (Kd.R_lower ho0 (below_size p37z)) (blk_below (g := br) (o := .cells #[.int .i64 a0_0, .int .i64 a0_1] 52 (0, 0)) p23z hb) (below_step p37z hb); clear eB aZ HB; obtain ⟨eB, fp, aZ, HB⟩ := z_; (try clear hb hk ho0); have hcz13_0 : w12.cell? ⟨br, 0, none⟩ = some (.int .i64 a0_0) := (blk_cell aZ.out 0).trans rfl; have hcz13_1 : w12.cell? ⟨br, 1, none⟩ = some (.int .i64 a0_1) := (blk_cell aZ.out 1).trans rfl; have hfz13_0 := blk_frozen aZ.out 0; have hfz13_1 := blk_frozen aZ.out 1; obtain ⟨dc, co14, eo14⟩ := Kd.R_slice fp.out; subst eo14) | ((with_reducible refine gate_callee (f := 32) rfl ?_); refine goesL_ (some 27) rfl rfl Try.func32 p16z rfl #[.int .i64 a0_0, .int .i64 a0_1, .int .u64 a1, .slice dc fB.length co14] rfl p2z ?_; (with_reducible refine (wire_Make.calls k a0_0 a0_1 a1 _ _ fB cf cj bQ bD bH ky _ ?side1 ?side2 A6.out).mono ?_); (case side1 => exact p233z); (case side2 => exact (Kd.R_reads' fp.out).2.1); rintro e w15 ⟨v499, v502, rfl, ho0, ho1, hb⟩; refine ⟨_, rfl, ?_⟩; have z_ := asi6 (Kd.V_mono (Kd.V_told (Kd.V_told (Kd.V_old p194z hb) (Kd.R_base ho0)) (Kd.R_base ho1)) (fun _ h_ => h_.1)) (Kd.R_mono (Kd.R_told (Kd.R_told (Kd.R_old p165z hb) (Kd.R_base ho0)) (Kd.R_base ho1)) (fun _ h_ => h_.1)) (Kd.R_lower (Kd.R_new' ho0 (Kd.R_lt p165z)) (below_size p37z)) (Kd.R_lower (Kd.R_new' ho1 (Kd.R_lt p165z)) (below_size p37z)) (blk_below (g := br) (o := .cells #[.int .i64 a0_0, .int .i64 a0_1] 52 (0, 0)) p23z hb) (below_step p37z hb); clear eB fp aZ HB; obtain ⟨eB, fp, fS, fT, aZ, HB⟩ := z_; (try clear hb hk ho0 ho1)) | ((with_reducible refine gate_dst (N := 8) rfl ?_); refine box_event ?hg (N := 8) ?hd (cs := #[.int .i64 0, .int .i64 0, .int .u64 0, .slice none 0 0, .slice none 0 0]) (t := 33) ?hr ?_; (case hd => rfl); (case hg => rfl); (case hr => exact p22z); intro bp hg w16 hbox hb; have n0_ := Aside0.mk (Kd.V_below (Kd.V_elderB p194z bp (Nat.le_of_eq hg.symm)) hb); have n1_ := Aside0.mk (Kd.R_below p165z hb); have n2_ := Aside0.mk (Kd.R_below (q0z fS.out) hb); have n3_ := Aside0.mk (Kd.R_below (q0z fT.out) hb); have n4_ := Aside0.mk (blk_below (g := br) (o := .cells #[.int .i64 a0_0, .int .i64 a0_1] 52 (0, 0)) p23z hb); have n5_ := Aside0.mk (below_step p37z hb); have n6_ := Aside0.mk (hbox); have n7_ := Aside0.mk ((by rw [hg]; exact (below_size p37z) : w.heap.size ≤ bp)); have n8_ := Aside0.mk ((by rw [hg]; exact (below_size p37z) : w.heap.size ≤ bp)); have n9_ := Aside0.mk ((p206z : br ≠ bp)); have ce := Aside0.mk ((p207z : bp ≠ br)); clear eB; clear fp; clear fS; clear fT; clear aZ; clear HB; have eB := n0_; have fp := n1_; have fS := n2_; have fT := n3_; have aZ := n4_; have HB := n5_; have aD := n6_; have GW505 := n7_; have jO := n8_; have NB488_505 := n9_; have NB505_488 := ce; clear n0_ n1_ n2_ n3_ n4_ n5_ n6_ n7_ n8_ n9_ ce; clear hb hbox hg; have hnb17 := NB505_488.out; have hnc17 := NB488_505.out; have hcz18_0 : w16.cell? ⟨bp, 0, none⟩ = some (.int .i64 0) := (blk_cell aD.out 0).trans rfl; have hcz18_1 : w16.cell? ⟨bp, 1, none⟩ = some (.int .i64 0) := (blk_cell aD.out 1).trans rfl; have hcz18_2 : w16.cell? ⟨bp, 2, none⟩ = some (.int .u64 0) := (blk_cell aD.out 2).trans rfl; have hcz18_3 : w16.cell? ⟨bp, 3, none⟩ = some (.slice none 0 0) := (blk_cell aD.out 3).trans rfl; have hcz18_4 : w16.cell? ⟨bp, 4, none⟩ = some (.slice none 0 0) := (blk_cell aD.out 4).trans rfl; have hfz18_0 := blk_frozen aD.out 0; have hfz18_1 := blk_frozen aD.out 1; have hfz18_2 := blk_frozen aD.out 2; have hfz18_3 := blk_frozen aD.out 3; have hfz18_4 := blk_frozen aD.out 4; obtain ⟨cT, co19, eo19⟩ := Kd.R_slice fS.out; subst eo19; obtain ⟨d7, co20, eo20⟩ := Kd.R_slice fT.out; subst eo20; have hcz21_0 : w16.cell? ⟨br, 0, none⟩ = some (.int .i64 a0_0) := (blk_cell aZ.out 0).trans rfl; have hcz21_1 : w16.cell? ⟨br, 1, none⟩ = some (.int .i64 a0_1) := (blk_cell aZ.out 1).trans rfl; have hfz21_0 := blk_frozen aZ.out 0; have hfz21_1 := blk_frozen aZ.out 1) | ((with_reducible refine gate_callee (f := 33) rfl ?_); refine goesL_ (some 37) rfl rfl Try.func33 p16z rfl #[.int .i64 a0_0, .int .i64 a0_1, .int .u64 a1, .slice bX aW.length co11] rfl p2z ?_; (with_reducible refine (b6.calls k a0_0 a0_1 a1 _ _ aW cg ck cp bE bI kS _ ?side1 ?side2 A7.out).mono ?_); (case side1 => refine (Kd.V_reads' (e := 5) (base := w.heap.size) (ok := fun k_ => ((((k_ ≠ br ∧ some k_ ≠ (.slice dc fB.length co14 : Value).ownBlock) ∧ some k_ ≠ (.slice cT bD.length co19 : Value).ownBlock) ∧ some k_ ≠ (.slice d7 bH.length co20 : Value).ownBlock) ∧ k_ ≠ bp)) (n := aW.length) (c := co11) ?_).2.2; exact p129z); (case side2 => exact (Kd.V_reads' eB.out).2.1); rintro e w22 ⟨v510, v513, rfl, ho0, ho1, hb⟩; refine ⟨_, rfl, ?_⟩; have z_ := asi9 (Kd.V_mono (Kd.V_told (Kd.V_told (Kd.V_old p129z hb) (Kd.R_base ho0)) (Kd.R_base ho1)) (fun _ h_ => h_.1)) (Kd.R_mono (Kd.R_told (Kd.R_told (Kd.R_old p83z hb) (Kd.R_base ho0)) (Kd.R_base ho1)) (fun _ h_ => h_.1)) (Kd.R_mono (Kd.R_told (Kd.R_told (Kd.R_old p84z hb) (Kd.R_base ho0)) (Kd.R_base ho1)) (fun _ h_ => h_.1)) (Kd.R_mono (Kd.R_told (Kd.R_told (Kd.R_old p85z hb) (Kd.R_base ho0)) (Kd.R_base ho1)) (fun _ h_ => h_.1)) (Kd.R_lower (Kd.R_new' (Kd.R_new' (Kd.R_new' ho0 (Kd.R_lt p83z)) (Kd.R_lt p84z)) (Kd.R_lt p85z)) (below_size p91z)) (Kd.R_lower (Kd.R_new' (Kd.R_new' (Kd.R_new' ho1 (Kd.R_lt p83z)) (Kd.R_lt p84z)) (Kd.R_lt p85z)) (below_size p91z)) (blk_below (g := br) (o := .cells #[.int .i64 a0_0, .int .i64 a0_1] 52 (0, 0)) (by (with_reducible repeat (first | refine blk_drewN ?_ _ | refine blk_drew ?_ | refine blk_alloc ?_ _)); refine blk_far ?_ NB488_505.out _; (with_reducible repeat (first | refine blk_drewN ?_ _ | refine blk_drew ?_ | refine blk_alloc ?_ _)); refine blk_far ?_ NB488_505.out _; (with_reducible repeat (first | refine blk_drewN ?_ _ | refine blk_drew ?_ | refine blk_alloc ?_ _)); refine blk_far ?_ NB488_505.out _; (with_reducible repeat (first | refine blk_drewN ?_ _ | refine blk_drew ?_ | refine blk_alloc ?_ _)); refine blk_far ?_ NB488_505.out _; (with_reducible repeat (first | refine blk_drewN ?_ _ | refine blk_drew ?_ | refine blk_alloc ?_ _)); refine blk_far ?_ NB488_505.out _; (with_reducible repeat (first | refine blk_drewN ?_ _ | refine blk_drew ?_ | refine blk_alloc ?_ _)); exact aZ.out) hb) (blk_below (g := bp) (o := .cells #[.int .i64 cf, .int .i64 cj, .int .u64 bQ, .slice cT bD.length co19, .slice d7 bH.length co20] 33 (0, 0)) (by (with_reducible repeat (first | refine blk_drewN ?_ _ | refine blk_drew ?_ | refine blk_alloc ?_ _)); refine blk_put (cs := #[.int .i64 cf, .int .i64 cj, .int .u64 bQ, .slice cT bD.length co19, .slice none 0 0]) ?_ 4 _ rfl; (with_reducible repeat (first | refine blk_drewN ?_ _ | refine blk_drew ?_ | refine blk_alloc ?_ _)); refine blk_put (cs := #[.int .i64 cf, .int .i64 cj, .int .u64 bQ, .slice none 0 0, .slice none 0 0]) ?_ 3 _ rfl; (with_reducible repeat (first | refine blk_drewN ?_ _ | refine blk_drew ?_ | refine blk_alloc ?_ _)); refine blk_put (cs := #[.int .i64 cf, .int .i64 cj, .int .u64 0, .slice none 0 0, .slice none 0 0]) ?_ 2 _ rfl; (with_reducible repeat (first | refine blk_drewN ?_ _ | refine blk_drew ?_ | refine blk_alloc ?_ _)); refine blk_put (cs := #[.int .i64 cf, .int .i64 0, .int .u64 0, .slice none 0 0, .slice none 0 0]) ?_ 1 _ rfl; (with_reducible repeat (first | refine blk_drewN ?_ _ | refine blk_drew ?_ | refine blk_alloc ?_ _)); refine blk_put (cs := #[.int .i64 0, .int .i64 0, .int .u64 0, .slice none 0 0, .slice none 0 0]) ?_ 0 _ rfl; (with_reducible repeat (first | refine blk_drewN ?_ _ | refine blk_drew ?_ | refine blk_alloc ?_ _)); exact aD.out) hb) (below_step p91z hb); clear eB fp fS fT aZ aD HB; obtain ⟨eB, fp, fS, fT, g8, g9, aZ, aD, HB⟩ := z_; (try clear hb hk ho0 ho1)) | ((with_reducible refine gate_dst (N := 10) rfl ?_); refine box_event ?hg (N := 10) ?hd (cs := #[.int .i64 0, .int .i64 0, .int .u64 0, .slice none 0 0, .slice none 0 0]) (t := 33) ?hr ?_; (case hd => rfl); (case hg => rfl); (case hr => exact p22z); intro bm hg w23 hbox hb; have n0_ := Aside0.mk (Kd.V_below (Kd.V_elderB p194z bm (Nat.le_of_eq hg.symm)) hb); have n1_ := Aside0.mk (Kd.R_below p165z hb); have n2_ := Aside0.mk (Kd.R_below (q0z fS.out) hb); have n3_ := Aside0.mk (Kd.R_below (q0z fT.out) hb); have n4_ := Aside0.mk (Kd.R_below (q0z g8.out) hb); have n5_ := Aside0.mk (Kd.R_below (q0z g9.out) hb); have n6_ := Aside0.mk (blk_below (g := br) (o := .cells #[.int .i64 a0_0, .int .i64 a0_1] 52 (0, 0)) p23z hb); have n7_ := Aside0.mk (blk_below (g := bp) (o := .cells #[.int .i64 cf, .int .i64 cj, .int .u64 bQ, .slice cT bD.length co19, .slice d7 bH.length co20] 33 (0, 0)) p34z hb); have n8_ := Aside0.mk (below_step p91z hb); have n9_ := Aside0.mk (hbox); have ce := Aside0.mk ((by rw [hg]; exact (below_size p91z) : w.heap.size ≤ bm)); have dp := Aside0.mk ((by rw [hg]; exact (below_size p91z) : w.heap.size ≤ bm)); have dq := Aside0.mk ((p206z : br ≠ bm)); have gu := Aside0.mk ((p207z : bm ≠ br)); have kz := Aside0.mk ((p218z : bp ≠ bm)); have kA := Aside0.mk ((p219z : bm ≠ bp)); clear eB; clear fp; clear fS; clear fT; clear g8; clear g9; clear aZ; clear aD; clear HB; have eB := n0_; have fp := n1_; have fS := n2_; have fT := n3_; have g8 := n4_; have g9 := n5_; have aZ := n6_; have aD := n7_; have HB := n8_; have aJ := n9_; have GW516 := ce; have kB := dp; have NB488_516 := dq; have NB516_488 := gu; have NB505_516 := kz; have NB516_505 := kA; clear n0_ n1_ n2_ n3_ n4_ n5_ n6_ n7_ n8_ n9_ ce dp dq gu kz kA; clear hb hbox hg; have hnb24 := NB516_488.out; have hnc24 := NB488_516.out; have hnb25 := NB516_505.out; have hnc25 := NB505_516.out; have hcz26_0 : w23.cell? ⟨bm, 0, none⟩ = some (.int .i64 0) := (blk_cell aJ.out 0).trans rfl; have hcz26_1 : w23.cell? ⟨bm, 1, none⟩ = some (.int .i64 0) := (blk_cell aJ.out 1).trans rfl; have hcz26_2 : w23.cell? ⟨bm, 2, none⟩ = some (.int .u64 0) := (blk_cell aJ.out 2).trans rfl; have hcz26_3 : w23.cell? ⟨bm, 3, none⟩ = some (.slice none 0 0) := (blk_cell aJ.out 3).trans rfl; have hcz26_4 : w23.cell? ⟨bm, 4, none⟩ = some (.slice none 0 0) := (blk_cell aJ.out 4).trans rfl; have hfz26_0 := blk_frozen aJ.out 0; have hfz26_1 := blk_frozen aJ.out 1; have hfz26_2 := blk_frozen aJ.out 2; have hfz26_3 := blk_frozen aJ.out 3; have hfz26_4 := blk_frozen aJ.out 4; obtain ⟨dr, co27, eo27⟩ := Kd.R_slice g8.out; subst eo27; obtain ⟨d8, co28, eo28⟩ := Kd.R_slice g9.out; subst eo28))
 (try simp only [Act.put, List.setIfInBounds_toArray, List.set_cons_zero, List.set_cons_succ])
 go_cut [54] (fun v54 wc => ∃ (kq : Nat) (lr : Bool), v54 = .bool lr ∧ Aside0 (a7.j0 kq a1 aW lr a0_0 a0_1 cf cj bQ bD bH cg ck cp bE bI = some r) ∧ Aside0 (kq ≤ k) ∧ Aside0 (Kd.V (Kd.int .u8) 5 wc w.heap.size (fun k_ => some k_ ≠ ((.slice cT bD.length co19) : Value).ownBlock ∧ some k_ ≠ ((.slice d7 bH.length co20) : Value).ownBlock ∧ some k_ ≠ ((.slice dr bE.length co27) : Value).ownBlock ∧ some k_ ≠ ((.slice d8 bI.length co28) : Value).ownBlock ∧ k_ ≠ br ∧ k_ ≠ bp ∧ k_ ≠ bm) (.slice bX aW.length co11) aW) ∧ Aside0 (Kd.R (Kd.int .u8) 5 wc w.heap.size (fun k_ => some k_ ≠ ((.slice d7 bH.length co20) : Value).ownBlock ∧ some k_ ≠ ((.slice dr bE.length co27) : Value).ownBlock ∧ some k_ ≠ ((.slice d8 bI.length co28) : Value).ownBlock) (.slice cT bD.length co19) bD) ∧ Aside0 (Kd.R (Kd.int .u8) 5 wc w.heap.size (fun k_ => some k_ ≠ ((.slice cT bD.length co19) : Value).ownBlock ∧ some k_ ≠ ((.slice dr bE.length co27) : Value).ownBlock ∧ some k_ ≠ ((.slice d8 bI.length co28) : Value).ownBlock) (.slice d7 bH.length co20) bH) ∧ Aside0 (Kd.R (Kd.int .u8) 5 wc w.heap.size (fun k_ => some k_ ≠ ((.slice cT bD.length co19) : Value).ownBlock ∧ some k_ ≠ ((.slice d7 bH.length co20) : Value).ownBlock ∧ some k_ ≠ ((.slice d8 bI.length co28) : Value).ownBlock) (.slice dr bE.length co27) bE) ∧ Aside0 (Kd.R (Kd.int .u8) 5 wc w.heap.size (fun k_ => some k_ ≠ ((.slice cT bD.length co19) : Value).ownBlock ∧ some k_ ≠ ((.slice d7 bH.length co20) : Value).ownBlock ∧ some k_ ≠ ((.slice dr bE.length co27) : Value).ownBlock) (.slice d8 bI.length co28) bI) ∧ Aside0 (wc.heap[br]? = some (.cells #[.int .i64 a0_0, .int .i64 a0_1] 52 (0, 0))) ∧ Aside0 (wc.heap[bp]? = some (.cells #[.int .i64 cf, .int .i64 cj, .int .u64 bQ, (.slice cT bD.length co19), (.slice d7 bH.length co20)] 33 (0, 0))) ∧ Aside0 (wc.heap[bm]? = some (.cells #[.int .i64 cg, .int .i64 ck, .int .u64 cp, (.slice dr bE.length co27), (.slice d8 bI.length co28)] 33 (0, 0))) ∧ Aside0 (Below w.heap.size w wc))
 case first =>
  have H := HC8.out
  clear HC8
  replace H := Option.bind_eq_some_iff.mp H
  obtain ⟨ix, A290, H⟩ := H
  replace H : (if ix = true then (if ky = kS then ((ab.f fB aW).bind fun fv => (a7.j0 k a1 aW (!fv) a0_0 a0_1 cf cj bQ bD bH cg ck cp bE bI)) else (none)) else (none)) = some r := H
  have A29 := Aside0.mk A290
  clear A290
  by_cases c30 : ix = true
  case neg =>
   replace c30 := Bool.eq_false_iff.mpr c30
   subst c30
   have H1 : (none) = some r := p42z
   clear H
   have H := H1
   clear H1
   exact absurd H (by simp)
  subst c30
  have H1 : (if ky = kS then ((ab.f fB aW).bind fun fv => (a7.j0 k a1 aW (!fv) a0_0 a0_1 cf cj bQ bD bH cg ck cp bE bI)) else (none)) = some r := p99z
  clear H
  have H := H1
  clear H1
  by_cases c31 : ky = kS
  case neg =>
   rw [if_neg c31] at H
   exact absurd H (by simp)
  rw [if_pos c31] at H
  have kC : (ky == kS) = true := beq_iff_eq.mpr c31
  have c31b1 : (ky != kS) = false := bne_eq_false_iff_eq.mpr c31
  clear c31
  (first | rw [kC] | (simp only [i64_w, i32_w]; rw [kC]) | skip)
  replace H := Option.bind_eq_some_iff.mp H
  obtain ⟨fv, A320, H⟩ := H
  replace H : (a7.j0 k a1 aW (!fv) a0_0 a0_1 cf cj bQ bD bH cg ck cp bE bI) = some r := H
  have A32 := Aside0.mk A320
  clear A320
  have H' := Aside0.mk H
  clear H
  have hnb33 := NB505_488.out
  have hnc33 := NB488_505.out
  have hnb34 := NB505_516.out
  have hnc34 := NB516_505.out
  have hcz35_0 : w23.cell? ⟨bp, 0, none⟩ = some (.int .i64 cf) := (blk_cell aD.out 0).trans rfl
  have hcz35_1 : w23.cell? ⟨bp, 1, none⟩ = some (.int .i64 cj) := (blk_cell aD.out 1).trans rfl
  have hcz35_2 : w23.cell? ⟨bp, 2, none⟩ = some (.int .u64 bQ) := (blk_cell aD.out 2).trans rfl
  have hcz35_3 : w23.cell? ⟨bp, 3, none⟩ = some (.slice cT bD.length co19) := (blk_cell aD.out 3).trans rfl
  have hcz35_4 : w23.cell? ⟨bp, 4, none⟩ = some (.slice d7 bH.length co20) := (blk_cell aD.out 4).trans rfl
  have hfz35_0 := blk_frozen aD.out 0
  have hfz35_1 := blk_frozen aD.out 1
  have hfz35_2 := blk_frozen aD.out 2
  have hfz35_3 := blk_frozen aD.out 3
  have hfz35_4 := blk_frozen aD.out 4
  have hnb36 := NB516_488.out
  have hnc36 := NB488_516.out
  have hcz37_0 : w23.cell? ⟨bm, 0, none⟩ = some (.int .i64 0) := (blk_cell aJ.out 0).trans rfl
  have hcz37_1 : w23.cell? ⟨bm, 1, none⟩ = some (.int .i64 0) := (blk_cell aJ.out 1).trans rfl
  have hcz37_2 : w23.cell? ⟨bm, 2, none⟩ = some (.int .u64 0) := (blk_cell aJ.out 2).trans rfl
  have hcz37_3 : w23.cell? ⟨bm, 3, none⟩ = some (.slice none 0 0) := (blk_cell aJ.out 3).trans rfl
  have hcz37_4 : w23.cell? ⟨bm, 4, none⟩ = some (.slice none 0 0) := (blk_cell aJ.out 4).trans rfl
  have hfz37_0 := blk_frozen aJ.out 0
  have hfz37_1 := blk_frozen aJ.out 1
  have hfz37_2 := blk_frozen aJ.out 2
  have hfz37_3 := blk_frozen aJ.out 3
  have hfz37_4 := blk_frozen aJ.out 4
  go_wp2_with (first | ((with_reducible refine gate_callee (f := 28) rfl ?_); refine goesL_ (some 42) rfl rfl Try.func28 p16z rfl #[.agg #[.int .i64 cf, .int .i64 cj, .int .u64 bQ, .slice cT bD.length co19, .slice d7 bH.length co20], .agg #[.int .i64 cg, .int .i64 ck, .int .u64 cp, .slice dr bE.length co27, .slice d8 bI.length co28]] rfl p2z ?_; (with_reducible refine (ai.calls cf cj bQ _ _ bD _ _ bH cg ck cp _ _ bE _ _ bI true _ ?side1 ?side2 ?side3 ?side4 ?side5 ?side6 ?side7 ?side8 A29.out).mono ?_); (case side1 => refine (Kd.R_reads' (e := 5) (base := w.heap.size) (ok := fun k_ => (((some k_ ≠ (.slice d7 bH.length co20 : Value).ownBlock ∧ some k_ ≠ (.slice dc fB.length co14 : Value).ownBlock) ∧ some k_ ≠ (.slice dr bE.length co27 : Value).ownBlock) ∧ some k_ ≠ (.slice d8 bI.length co28 : Value).ownBlock)) (n := bD.length) (c := co19) ?_).2.2; exact p142z); (case side2 => exact (Kd.R_reads' fS.out).2.1); (case side3 => refine (Kd.R_reads' (e := 5) (base := w.heap.size) (ok := fun k_ => (((some k_ ≠ (.slice cT bD.length co19 : Value).ownBlock ∧ some k_ ≠ (.slice dc fB.length co14 : Value).ownBlock) ∧ some k_ ≠ (.slice dr bE.length co27 : Value).ownBlock) ∧ some k_ ≠ (.slice d8 bI.length co28 : Value).ownBlock)) (n := bH.length) (c := co20) ?_).2.2; exact p143z); (case side4 => exact (Kd.R_reads' fT.out).2.1); (case side5 => refine (Kd.R_reads' (e := 5) (base := w.heap.size) (ok := fun k_ => (((some k_ ≠ (.slice d8 bI.length co28 : Value).ownBlock ∧ some k_ ≠ (.slice dc fB.length co14 : Value).ownBlock) ∧ some k_ ≠ (.slice cT bD.length co19 : Value).ownBlock) ∧ some k_ ≠ (.slice d7 bH.length co20 : Value).ownBlock)) (n := bE.length) (c := co27) ?_).2.2; exact p144z); (case side6 => exact (Kd.R_reads' g8.out).2.1); (case side7 => refine (Kd.R_reads' (e := 5) (base := w.heap.size) (ok := fun k_ => (((some k_ ≠ (.slice dr bE.length co27 : Value).ownBlock ∧ some k_ ≠ (.slice dc fB.length co14 : Value).ownBlock) ∧ some k_ ≠ (.slice cT bD.length co19 : Value).ownBlock) ∧ some k_ ≠ (.slice d7 bH.length co20 : Value).ownBlock)) (n := bI.length) (c := co28) ?_).2.2; exact p145z); (case side8 => exact (Kd.R_reads' g9.out).2.1); rintro e w38 ⟨rfl, hb⟩; refine ⟨_, rfl, ?_⟩; have z_ := asi10 (Kd.V_below (by (with_reducible repeat (first | apply Kd.V_alloc | apply Kd.V_drewN | apply Kd.V_drew)); exact (Kd.V_mono (Kd.V_far (p := ⟨bm, 4, none⟩) (Kd.V_far (p := ⟨bm, 3, none⟩) (Kd.V_far (p := ⟨bm, 2, none⟩) (Kd.V_far (p := ⟨bm, 1, none⟩) (Kd.V_far (p := ⟨bm, 0, none⟩) (Kd.V_mono eB.out (fun k_ hk => (⟨hk, hk.2⟩ : _ ∧ k_ ≠ bm))) (fun _ hk => hk.2) (.int .i64 cg)) (fun _ hk => hk.2) (.int .i64 ck)) (fun _ hk => hk.2) (.int .u64 cp)) (fun _ hk => hk.2) (.slice dr bE.length co27)) (fun _ hk => hk.2) (.slice d8 bI.length co28)) (fun _ h_ => h_.1))) hb) (Kd.R_below (by (with_reducible repeat (first | apply Kd.R_alloc | apply Kd.R_drewN | apply Kd.R_drew)); exact (Kd.R_mono (Kd.R_far (p := ⟨bm, 4, none⟩) (Kd.R_far (p := ⟨bm, 3, none⟩) (Kd.R_far (p := ⟨bm, 2, none⟩) (Kd.R_far (p := ⟨bm, 1, none⟩) (Kd.R_far (p := ⟨bm, 0, none⟩) (Kd.R_types fp.out aJ.out (by decide)) (fun _ hk => hk.2) (.int .i64 cg)) (fun _ hk => hk.2) (.int .i64 ck)) (fun _ hk => hk.2) (.int .u64 cp)) (fun _ hk => hk.2) (.slice dr bE.length co27)) (fun _ hk => hk.2) (.slice d8 bI.length co28)) (fun _ h_ => h_.1))) hb) (Kd.R_below p142z hb) (Kd.R_below p143z hb) (Kd.R_below p144z hb) (Kd.R_below p145z hb) (blk_below (g := br) (o := .cells #[.int .i64 a0_0, .int .i64 a0_1] 52 (0, 0)) (by (with_reducible repeat (first | refine blk_drewN ?_ _ | refine blk_drew ?_ | refine blk_alloc ?_ _)); refine blk_far ?_ NB488_516.out _; (with_reducible repeat (first | refine blk_drewN ?_ _ | refine blk_drew ?_ | refine blk_alloc ?_ _)); refine blk_far ?_ NB488_516.out _; (with_reducible repeat (first | refine blk_drewN ?_ _ | refine blk_drew ?_ | refine blk_alloc ?_ _)); refine blk_far ?_ NB488_516.out _; (with_reducible repeat (first | refine blk_drewN ?_ _ | refine blk_drew ?_ | refine blk_alloc ?_ _)); refine blk_far ?_ NB488_516.out _; (with_reducible repeat (first | refine blk_drewN ?_ _ | refine blk_drew ?_ | refine blk_alloc ?_ _)); refine blk_far ?_ NB488_516.out _; (with_reducible repeat (first | refine blk_drewN ?_ _ | refine blk_drew ?_ | refine blk_alloc ?_ _)); exact aZ.out) hb) (blk_below (g := bp) (o := .cells #[.int .i64 cf, .int .i64 cj, .int .u64 bQ, .slice cT bD.length co19, .slice d7 bH.length co20] 33 (0, 0)) (by (with_reducible repeat (first | refine blk_drewN ?_ _ | refine blk_drew ?_ | refine blk_alloc ?_ _)); refine blk_far ?_ NB505_516.out _; (with_reducible repeat (first | refine blk_drewN ?_ _ | refine blk_drew ?_ | refine blk_alloc ?_ _)); refine blk_far ?_ NB505_516.out _; (with_reducible repeat (first | refine blk_drewN ?_ _ | refine blk_drew ?_ | refine blk_alloc ?_ _)); refine blk_far ?_ NB505_516.out _; (with_reducible repeat (first | refine blk_drewN ?_ _ | refine blk_drew ?_ | refine blk_alloc ?_ _)); refine blk_far ?_ NB505_516.out _; (with_reducible repeat (first | refine blk_drewN ?_ _ | refine blk_drew ?_ | refine blk_alloc ?_ _)); refine blk_far ?_ NB505_516.out _; (with_reducible repeat (first | refine blk_drewN ?_ _ | refine blk_drew ?_ | refine blk_alloc ?_ _)); exact aD.out) hb) (blk_below (g := bm) (o := .cells #[.int .i64 cg, .int .i64 ck, .int .u64 cp, .slice dr bE.length co27, .slice d8 bI.length co28] 33 (0, 0)) (by (with_reducible repeat (first | refine blk_drewN ?_ _ | refine blk_drew ?_ | refine blk_alloc ?_ _)); refine blk_put (cs := #[.int .i64 cg, .int .i64 ck, .int .u64 cp, .slice dr bE.length co27, .slice none 0 0]) ?_ 4 _ rfl; (with_reducible repeat (first | refine blk_drewN ?_ _ | refine blk_drew ?_ | refine blk_alloc ?_ _)); refine blk_put (cs := #[.int .i64 cg, .int .i64 ck, .int .u64 cp, .slice none 0 0, .slice none 0 0]) ?_ 3 _ rfl; (with_reducible repeat (first | refine blk_drewN ?_ _ | refine blk_drew ?_ | refine blk_alloc ?_ _)); refine blk_put (cs := #[.int .i64 cg, .int .i64 ck, .int .u64 0, .slice none 0 0, .slice none 0 0]) ?_ 2 _ rfl; (with_reducible repeat (first | refine blk_drewN ?_ _ | refine blk_drew ?_ | refine blk_alloc ?_ _)); refine blk_put (cs := #[.int .i64 cg, .int .i64 0, .int .u64 0, .slice none 0 0, .slice none 0 0]) ?_ 1 _ rfl; (with_reducible repeat (first | refine blk_drewN ?_ _ | refine blk_drew ?_ | refine blk_alloc ?_ _)); refine blk_put (cs := #[.int .i64 0, .int .i64 0, .int .u64 0, .slice none 0 0, .slice none 0 0]) ?_ 0 _ rfl; (with_reducible repeat (first | refine blk_drewN ?_ _ | refine blk_drew ?_ | refine blk_alloc ?_ _)); exact aJ.out) hb) (below_step p63z hb); clear eB fp fS fT g8 g9 aZ aD aJ HB; obtain ⟨eB, fp, fS, fT, g8, g9, aZ, aD, aJ, HB⟩ := z_; (try clear hb hk)) | (go_at_call 14; (with_reducible refine (ab.calls _ _ fB _ _ aW fv _ ?side1 ?side2 ?side3 ?side4 A32.out).mono ?_); (case side1 => exact p233z); (case side2 => exact (Kd.R_reads' fp.out).2.1); (case side3 => exact p232z); (case side4 => exact (Kd.V_reads' eB.out).2.1); rintro e w' ⟨rfl, ⟨nd, rfl⟩⟩))
  go_meet
  case rel => exact ⟨_, (!fv), p21z, H', ⟨p160z⟩, ⟨by (with_reducible repeat (first | apply Kd.V_alloc | apply Kd.V_drewN | apply Kd.V_drew)); exact Kd.V_mono eB.out (fun _ hk => ⟨hk.1.1.1.1.1.2, ⟨hk.1.1.1.1.2, ⟨hk.1.1.2, ⟨hk.1.2, ⟨hk.1.1.1.1.1.1.1, ⟨hk.1.1.1.2, hk.2⟩⟩⟩⟩⟩⟩)⟩, ⟨by (with_reducible repeat (first | apply Kd.R_alloc | apply Kd.R_drewN | apply Kd.R_drew)); exact Kd.R_mono fS.out (fun _ hk => ⟨hk.1.1.1, ⟨hk.1.2, hk.2⟩⟩)⟩, ⟨by (with_reducible repeat (first | apply Kd.R_alloc | apply Kd.R_drewN | apply Kd.R_drew)); exact Kd.R_mono fT.out (fun _ hk => ⟨hk.1.1.1, ⟨hk.1.2, hk.2⟩⟩)⟩, ⟨by (with_reducible repeat (first | apply Kd.R_alloc | apply Kd.R_drewN | apply Kd.R_drew)); exact Kd.R_mono g8.out (fun _ hk => ⟨hk.1.2, ⟨hk.2, hk.1.1.1⟩⟩)⟩, ⟨by (with_reducible repeat (first | apply Kd.R_alloc | apply Kd.R_drewN | apply Kd.R_drew)); exact Kd.R_mono g9.out (fun _ hk => ⟨hk.1.2, ⟨hk.2, hk.1.1.1⟩⟩)⟩, ⟨p23z⟩, ⟨p34z⟩, ⟨p40z⟩, ⟨p63z⟩⟩
 case rest =>
  clear HC8
  try clear c2
  try clear hcz13_0
  try clear hcz13_1
  try clear hcz18_0
  try clear hcz18_1
  try clear hcz18_2
  try clear hcz18_3
  try clear hcz18_4
  try clear hcz21_0
  try clear hcz21_1
  try clear hcz26_0
  try clear hcz26_1
  try clear hcz26_2
  try clear hcz26_3
  try clear hcz26_4
  try clear hfz13_0
  try clear hfz13_1
  try clear hfz18_0
  try clear hfz18_1
  try clear hfz18_2
  try clear hfz18_3
  try clear hfz18_4
  try clear hfz21_0
  try clear hfz21_1
  try clear hfz26_0
  try clear hfz26_1
  try clear hfz26_2
  try clear hfz26_3
  try clear hfz26_4
  obtain ⟨kq, lr, rfl, HA, HJ7, bK, aQ, aT, aU, aV, aZ, aD, aJ, HB⟩ := hcut
  cases kq with
  | zero => exact absurd HA.out (by simp [a7.j0])
  | succ kj7 =>
   have H := HA.out
   clear HA
   simp only [a7.j0] at H
   by_cases c39 : lr = true
   case pos =>
    subst c39
    have H1 : (none) = some r := p99z
    clear H
    have H := H1
    clear H1
    exact absurd H (by simp)
   replace c39 := Bool.eq_false_iff.mpr c39
   subst c39
   have H1 : ((wire_Copy.f cf cj bQ bD bH).bind fun dL => ((wire_Same.f kj7 cf cj bQ bD bH a0_0 a0_1 a1 aW aW).bind fun iF => ((ai.f cg ck cp bE bI a0_0 a0_1 a1 aW aW).bind fun iw => (if (iF != iw) = true then (none) else ((wire_Same.f kj7 a0_0 a0_1 a1 aW aW a0_0 a0_1 a1 aW aW).bind fun i5 => (if (i5 != true) = true then (none) else ((bq.f kj7 a0_0 a0_1 a1 aW aW).bind fun gN => ((ar.f kj7 a0_0 a0_1 a1 aW aW).bind fun gD => (if gN = gD then ((bq.f kj7 dL.1 dL.2.1 dL.2.2.1 dL.2.2.2.1 dL.2.2.2.2).bind fun fZ => ((ar.f kj7 cg ck cp bE bI).bind fun fQ => (if fZ = fQ then ((wire_Same.f kj7 dL.1 dL.2.1 dL.2.2.1 dL.2.2.2.1 dL.2.2.2.2 cf cj bQ bD bH).bind fun fR => (a7.j1 kj7 (!fR) cf cj bQ bD bH cg ck cp bE bI dL.1 dL.2.1 dL.2.2.1 dL.2.2.2.1 dL.2.2.2.2)) else (none)))) else (none)))))))))) = some r := p42z
   clear H
   have H := H1
   clear H1
   replace H := Option.bind_eq_some_iff.mp H
   obtain ⟨⟨cy, cP, cR, cA, cM⟩, A400, H⟩ := H
   replace H : ((wire_Same.f kj7 cf cj bQ bD bH a0_0 a0_1 a1 aW aW).bind fun iF => ((ai.f cg ck cp bE bI a0_0 a0_1 a1 aW aW).bind fun iw => (if (iF != iw) = true then (none) else ((wire_Same.f kj7 a0_0 a0_1 a1 aW aW a0_0 a0_1 a1 aW aW).bind fun i5 => (if (i5 != true) = true then (none) else ((bq.f kj7 a0_0 a0_1 a1 aW aW).bind fun gN => ((ar.f kj7 a0_0 a0_1 a1 aW aW).bind fun gD => (if gN = gD then ((bq.f kj7 cy cP cR cA cM).bind fun fZ => ((ar.f kj7 cg ck cp bE bI).bind fun fQ => (if fZ = fQ then ((wire_Same.f kj7 cy cP cR cA cM cf cj bQ bD bH).bind fun fR => (a7.j1 kj7 (!fR) cf cj bQ bD bH cg ck cp bE bI cy cP cR cA cM)) else (none)))) else (none))))))))) = some r := H
   have A40 := Aside0.mk A400
   clear A400
   have HC41 := Aside0.mk H
   clear H
   have hnb42 := NB505_488.out
   have hnc42 := NB488_505.out
   have hnb43 := NB505_516.out
   have hnc43 := NB516_505.out
   have hcz44_0 : wc.cell? ⟨bp, 0, none⟩ = some (.int .i64 cf) := (blk_cell aD.out 0).trans rfl
   have hcz44_1 : wc.cell? ⟨bp, 1, none⟩ = some (.int .i64 cj) := (blk_cell aD.out 1).trans rfl
   have hcz44_2 : wc.cell? ⟨bp, 2, none⟩ = some (.int .u64 bQ) := (blk_cell aD.out 2).trans rfl
   have hcz44_3 : wc.cell? ⟨bp, 3, none⟩ = some (.slice cT bD.length co19) := (blk_cell aD.out 3).trans rfl
   have hcz44_4 : wc.cell? ⟨bp, 4, none⟩ = some (.slice d7 bH.length co20) := (blk_cell aD.out 4).trans rfl
   have hfz44_0 := blk_frozen aD.out 0
   have hfz44_1 := blk_frozen aD.out 1
   have hfz44_2 := blk_frozen aD.out 2
   have hfz44_3 := blk_frozen aD.out 3
   have hfz44_4 := blk_frozen aD.out 4
   go_upto_region 9 with (first | ((with_reducible refine gate_callee (f := 34) rfl ?_); refine goesL_ (some 56) rfl rfl Try.func34 p16z rfl #[.agg #[.int .i64 cf, .int .i64 cj, .int .u64 bQ, .slice cT bD.length co19, .slice d7 bH.length co20]] rfl p2z ?_; (with_reducible refine (wire_Copy.calls cf cj bQ _ _ bD _ _ bH cy cP cR cA cM _ ?side1 ?side2 ?side3 ?side4 A40.out).mono ?_); (case side1 => exact p148z); (case side2 => exact (Kd.R_reads' aQ.out).2.1); (case side3 => exact p149z); (case side4 => exact (Kd.R_reads' aT.out).2.1); rintro e w45 ⟨v523, v526, rfl, ho0, ho1, hb⟩; refine ⟨_, rfl, ?_⟩; have n0_ := Aside0.mk (Kd.V_mono (Kd.V_told (Kd.V_told (Kd.V_old p79z hb) (Kd.R_base ho0)) (Kd.R_base ho1)) (fun _ h_ => h_.1)); have n1_ := Aside0.mk (Kd.R_mono (Kd.R_told (Kd.R_told (Kd.R_old p50z hb) (Kd.R_base ho0)) (Kd.R_base ho1)) (fun _ h_ => h_.1)); have n2_ := Aside0.mk (Kd.R_mono (Kd.R_told (Kd.R_told (Kd.R_old p51z hb) (Kd.R_base ho0)) (Kd.R_base ho1)) (fun _ h_ => h_.1)); have n3_ := Aside0.mk (Kd.R_mono (Kd.R_told (Kd.R_told (Kd.R_old p52z hb) (Kd.R_base ho0)) (Kd.R_base ho1)) (fun _ h_ => h_.1)); have n4_ := Aside0.mk (Kd.R_mono (Kd.R_told (Kd.R_told (Kd.R_old p53z hb) (Kd.R_base ho0)) (Kd.R_base ho1)) (fun _ h_ => h_.1)); have n5_ := Aside0.mk (Kd.R_lower (Kd.R_new' (Kd.R_new' (Kd.R_new' (Kd.R_new' ho0 (Kd.R_lt p50z)) (Kd.R_lt p51z)) (Kd.R_lt p52z)) (Kd.R_lt p53z)) (below_size p63z)); have n6_ := Aside0.mk (Kd.R_lower (Kd.R_new' (Kd.R_new' (Kd.R_new' (Kd.R_new' ho1 (Kd.R_lt p50z)) (Kd.R_lt p51z)) (Kd.R_lt p52z)) (Kd.R_lt p53z)) (below_size p63z)); have n7_ := Aside0.mk (blk_below (g := br) (o := .cells #[.int .i64 a0_0, .int .i64 a0_1] 52 (0, 0)) p23z hb); have n8_ := Aside0.mk (blk_below (g := bp) (o := .cells #[.int .i64 cf, .int .i64 cj, .int .u64 bQ, .slice cT bD.length co19, .slice d7 bH.length co20] 33 (0, 0)) p34z hb); have n9_ := Aside0.mk (blk_below (g := bm) (o := .cells #[.int .i64 cg, .int .i64 ck, .int .u64 cp, .slice dr bE.length co27, .slice d8 bI.length co28] 33 (0, 0)) p40z hb); have ce := Aside0.mk (below_step p63z hb); clear bK; clear aQ; clear aT; clear aU; clear aV; clear aZ; clear aD; clear aJ; clear HB; have bK := n0_; have aQ := n1_; have aT := n2_; have aU := n3_; have aV := n4_; have dC := n5_; have dD := n6_; have aZ := n7_; have aD := n8_; have aJ := n9_; have HB := ce; clear n0_ n1_ n2_ n3_ n4_ n5_ n6_ n7_ n8_ n9_ ce; (try clear hb hk ho0 ho1)) | ((with_reducible refine gate_dst (N := 12) rfl ?_); refine box_event ?hg (N := 12) ?hd (cs := #[.int .i64 0, .int .i64 0, .int .u64 0, .slice none 0 0, .slice none 0 0]) (t := 33) ?hr ?_; (case hd => rfl); (case hg => rfl); (case hr => exact p22z); intro bc hg w46 hbox hb; have n0_ := Aside0.mk (Kd.V_below (Kd.V_elderB p79z bc (Nat.le_of_eq hg.symm)) hb); have n1_ := Aside0.mk (Kd.R_below p50z hb); have n2_ := Aside0.mk (Kd.R_below p51z hb); have n3_ := Aside0.mk (Kd.R_below p52z hb); have n4_ := Aside0.mk (Kd.R_below p53z hb); have n5_ := Aside0.mk (Kd.R_below p92z hb); have n6_ := Aside0.mk (Kd.R_below p93z hb); have n7_ := Aside0.mk (blk_below (g := br) (o := .cells #[.int .i64 a0_0, .int .i64 a0_1] 52 (0, 0)) p23z hb); have n8_ := Aside0.mk (blk_below (g := bp) (o := .cells #[.int .i64 cf, .int .i64 cj, .int .u64 bQ, .slice cT bD.length co19, .slice d7 bH.length co20] 33 (0, 0)) p34z hb); have n9_ := Aside0.mk (blk_below (g := bm) (o := .cells #[.int .i64 cg, .int .i64 ck, .int .u64 cp, .slice dr bE.length co27, .slice d8 bI.length co28] 33 (0, 0)) p40z hb); have ce := Aside0.mk (below_step p63z hb); have dp := Aside0.mk (hbox); have dq := Aside0.mk ((by rw [hg]; exact (below_size p63z) : w.heap.size ≤ bc)); have gu := Aside0.mk ((by rw [hg]; exact (below_size p63z) : w.heap.size ≤ bc)); have kz := Aside0.mk ((p206z : br ≠ bc)); have kA := Aside0.mk ((p207z : bc ≠ br)); have mq := Aside0.mk ((p218z : bp ≠ bc)); have mr := Aside0.mk ((p219z : bc ≠ bp)); have ms := Aside0.mk ((by rw [hg]; exact Nat.ne_of_lt (blk_lt (g := bm) (o := .cells #[.int .i64 cg, .int .i64 ck, .int .u64 cp, .slice dr bE.length co27, .slice d8 bI.length co28] 33 (0, 0)) p40z) : bm ≠ bc)); have mt := Aside0.mk ((by rw [hg]; exact Nat.ne_of_gt (blk_lt (g := bm) (o := .cells #[.int .i64 cg, .int .i64 ck, .int .u64 cp, .slice dr bE.length co27, .slice d8 bI.length co28] 33 (0, 0)) p40z) : bc ≠ bm)); clear bK; clear aQ; clear aT; clear aU; clear aV; clear dC; clear dD; clear aZ; clear aD; clear aJ; clear HB; have bK := n0_; have aQ := n1_; have aT := n2_; have aU := n3_; have aV := n4_; have dC := n5_; have dD := n6_; have aZ := n7_; have aD := n8_; have aJ := n9_; have HB := ce; have av := dp; have GW528 := dq; have ls := gu; have NB488_528 := kz; have NB528_488 := kA; have NB505_528 := mq; have NB528_505 := mr; have NB516_528 := ms; have NB528_516 := mt; clear n0_ n1_ n2_ n3_ n4_ n5_ n6_ n7_ n8_ n9_ ce dp dq gu kz kA mq mr ms mt; clear hb hbox hg; have hnb47 := NB528_488.out; have hnc47 := NB488_528.out; have hnb48 := NB528_505.out; have hnc48 := NB505_528.out; have hnb49 := NB528_516.out; have hnc49 := NB516_528.out; have hcz50_0 : w46.cell? ⟨bc, 0, none⟩ = some (.int .i64 0) := (blk_cell av.out 0).trans rfl; have hcz50_1 : w46.cell? ⟨bc, 1, none⟩ = some (.int .i64 0) := (blk_cell av.out 1).trans rfl; have hcz50_2 : w46.cell? ⟨bc, 2, none⟩ = some (.int .u64 0) := (blk_cell av.out 2).trans rfl; have hcz50_3 : w46.cell? ⟨bc, 3, none⟩ = some (.slice none 0 0) := (blk_cell av.out 3).trans rfl; have hcz50_4 : w46.cell? ⟨bc, 4, none⟩ = some (.slice none 0 0) := (blk_cell av.out 4).trans rfl; have hfz50_0 := blk_frozen av.out 0; have hfz50_1 := blk_frozen av.out 1; have hfz50_2 := blk_frozen av.out 2; have hfz50_3 := blk_frozen av.out 3; have hfz50_4 := blk_frozen av.out 4; obtain ⟨dV, co51, eo51⟩ := Kd.R_slice dC.out; subst eo51; obtain ⟨dz, co52, eo52⟩ := Kd.R_slice dD.out; subst eo52; have hnb53 := NB488_516.out; have hnc53 := NB516_488.out; have hcz54_0 : w46.cell? ⟨br, 0, none⟩ = some (.int .i64 a0_0) := (blk_cell aZ.out 0).trans rfl; have hcz54_1 : w46.cell? ⟨br, 1, none⟩ = some (.int .i64 a0_1) := (blk_cell aZ.out 1).trans rfl; have hfz54_0 := blk_frozen aZ.out 0; have hfz54_1 := blk_frozen aZ.out 1) | ((with_reducible refine gate_dst (N := 13) rfl ?_); refine box_event ?hg (N := 13) ?hd (cs := #[.int .i64 0, .int .i64 0, .int .u64 0, .slice none 0 0, .slice none 0 0]) (t := 33) ?hr ?_; (case hd => rfl); (case hg => rfl); (case hr => exact p22z); intro aC hg w55 hbox hb; have n0_ := Aside0.mk (Kd.V_below (Kd.V_elderB (by (with_reducible repeat (first | apply Kd.V_alloc | apply Kd.V_drewN | apply Kd.V_drew)); exact (Kd.V_mono (Kd.V_far (p := ⟨bc, 4, none⟩) (Kd.V_far (p := ⟨bc, 3, none⟩) (Kd.V_far (p := ⟨bc, 2, none⟩) (Kd.V_far (p := ⟨bc, 1, none⟩) (Kd.V_far (p := ⟨bc, 0, none⟩) (Kd.V_mono bK.out (fun k_ hk => (⟨hk, hk.2⟩ : _ ∧ k_ ≠ bc))) (fun _ hk => hk.2) (.int .i64 cy)) (fun _ hk => hk.2) (.int .i64 cP)) (fun _ hk => hk.2) (.int .u64 cR)) (fun _ hk => hk.2) (.slice dV cA.length co51)) (fun _ hk => hk.2) (.slice dz cM.length co52)) (fun _ h_ => h_.1))) aC (Nat.le_of_eq hg.symm)) hb); have n1_ := Aside0.mk (Kd.R_below (by (with_reducible repeat (first | apply Kd.R_alloc | apply Kd.R_drewN | apply Kd.R_drew)); exact (Kd.R_mono (Kd.R_far (p := ⟨bc, 4, none⟩) (Kd.R_far (p := ⟨bc, 3, none⟩) (Kd.R_far (p := ⟨bc, 2, none⟩) (Kd.R_far (p := ⟨bc, 1, none⟩) (Kd.R_far (p := ⟨bc, 0, none⟩) (Kd.R_types aQ.out av.out (by decide)) (fun _ hk => hk.2) (.int .i64 cy)) (fun _ hk => hk.2) (.int .i64 cP)) (fun _ hk => hk.2) (.int .u64 cR)) (fun _ hk => hk.2) (.slice dV cA.length co51)) (fun _ hk => hk.2) (.slice dz cM.length co52)) (fun _ h_ => h_.1))) hb); have n2_ := Aside0.mk (Kd.R_below (by (with_reducible repeat (first | apply Kd.R_alloc | apply Kd.R_drewN | apply Kd.R_drew)); exact (Kd.R_mono (Kd.R_far (p := ⟨bc, 4, none⟩) (Kd.R_far (p := ⟨bc, 3, none⟩) (Kd.R_far (p := ⟨bc, 2, none⟩) (Kd.R_far (p := ⟨bc, 1, none⟩) (Kd.R_far (p := ⟨bc, 0, none⟩) (Kd.R_types aT.out av.out (by decide)) (fun _ hk => hk.2) (.int .i64 cy)) (fun _ hk => hk.2) (.int .i64 cP)) (fun _ hk => hk.2) (.int .u64 cR)) (fun _ hk => hk.2) (.slice dV cA.length co51)) (fun _ hk => hk.2) (.slice dz cM.length co52)) (fun _ h_ => h_.1))) hb); have n3_ := Aside0.mk (Kd.R_below (by (with_reducible repeat (first | apply Kd.R_alloc | apply Kd.R_drewN | apply Kd.R_drew)); exact (Kd.R_mono (Kd.R_far (p := ⟨bc, 4, none⟩) (Kd.R_far (p := ⟨bc, 3, none⟩) (Kd.R_far (p := ⟨bc, 2, none⟩) (Kd.R_far (p := ⟨bc, 1, none⟩) (Kd.R_far (p := ⟨bc, 0, none⟩) (Kd.R_types aU.out av.out (by decide)) (fun _ hk => hk.2) (.int .i64 cy)) (fun _ hk => hk.2) (.int .i64 cP)) (fun _ hk => hk.2) (.int .u64 cR)) (fun _ hk => hk.2) (.slice dV cA.length co51)) (fun _ hk => hk.2) (.slice dz cM.length co52)) (fun _ h_ => h_.1))) hb); have n4_ := Aside0.mk (Kd.R_below (by (with_reducible repeat (first | apply Kd.R_alloc | apply Kd.R_drewN | apply Kd.R_drew)); exact (Kd.R_mono (Kd.R_far (p := ⟨bc, 4, none⟩) (Kd.R_far (p := ⟨bc, 3, none⟩) (Kd.R_far (p := ⟨bc, 2, none⟩) (Kd.R_far (p := ⟨bc, 1, none⟩) (Kd.R_far (p := ⟨bc, 0, none⟩) (Kd.R_types aV.out av.out (by decide)) (fun _ hk => hk.2) (.int .i64 cy)) (fun _ hk => hk.2) (.int .i64 cP)) (fun _ hk => hk.2) (.int .u64 cR)) (fun _ hk => hk.2) (.slice dV cA.length co51)) (fun _ hk => hk.2) (.slice dz cM.length co52)) (fun _ h_ => h_.1))) hb); have n5_ := Aside0.mk (Kd.R_below (by (with_reducible repeat (first | apply Kd.R_alloc | apply Kd.R_drewN | apply Kd.R_drew)); exact (Kd.R_mono (Kd.R_far (p := ⟨bc, 4, none⟩) (Kd.R_far (p := ⟨bc, 3, none⟩) (Kd.R_far (p := ⟨bc, 2, none⟩) (Kd.R_far (p := ⟨bc, 1, none⟩) (Kd.R_far (p := ⟨bc, 0, none⟩) (Kd.R_types dC.out av.out (by decide)) (fun _ hk => hk.2) (.int .i64 cy)) (fun _ hk => hk.2) (.int .i64 cP)) (fun _ hk => hk.2) (.int .u64 cR)) (fun _ hk => hk.2) (.slice dV cA.length co51)) (fun _ hk => hk.2) (.slice dz cM.length co52)) (fun _ h_ => h_.1))) hb); have n6_ := Aside0.mk (Kd.R_below (by (with_reducible repeat (first | apply Kd.R_alloc | apply Kd.R_drewN | apply Kd.R_drew)); exact (Kd.R_mono (Kd.R_far (p := ⟨bc, 4, none⟩) (Kd.R_far (p := ⟨bc, 3, none⟩) (Kd.R_far (p := ⟨bc, 2, none⟩) (Kd.R_far (p := ⟨bc, 1, none⟩) (Kd.R_far (p := ⟨bc, 0, none⟩) (Kd.R_types dD.out av.out (by decide)) (fun _ hk => hk.2) (.int .i64 cy)) (fun _ hk => hk.2) (.int .i64 cP)) (fun _ hk => hk.2) (.int .u64 cR)) (fun _ hk => hk.2) (.slice dV cA.length co51)) (fun _ hk => hk.2) (.slice dz cM.length co52)) (fun _ h_ => h_.1))) hb); have n7_ := Aside0.mk (blk_below (g := br) (o := .cells #[.int .i64 a0_0, .int .i64 a0_1] 52 (0, 0)) p60z hb); have n8_ := Aside0.mk (blk_below (g := bp) (o := .cells #[.int .i64 cf, .int .i64 cj, .int .u64 bQ, .slice cT bD.length co19, .slice d7 bH.length co20] 33 (0, 0)) p61z hb); have n9_ := Aside0.mk (blk_below (g := bm) (o := .cells #[.int .i64 cg, .int .i64 ck, .int .u64 cp, .slice dr bE.length co27, .slice d8 bI.length co28] 33 (0, 0)) p62z hb); have ce := Aside0.mk (blk_below (g := bc) (o := .cells #[.int .i64 cy, .int .i64 cP, .int .u64 cR, .slice dV cA.length co51, .slice dz cM.length co52] 33 (0, 0)) p32z hb); have dp := Aside0.mk (below_step p151z hb); have dq := Aside0.mk (hbox); have gu := Aside0.mk ((by rw [hg]; exact (below_size p151z) : w.heap.size ≤ aC)); have kz := Aside0.mk ((by rw [hg]; exact (below_size p151z) : w.heap.size ≤ aC)); have kA := Aside0.mk ((by rw [hg]; exact Nat.ne_of_lt (blk_lt (g := br) (o := .cells #[.int .i64 a0_0, .int .i64 a0_1] 52 (0, 0)) p60z) : br ≠ aC)); have mq := Aside0.mk ((by rw [hg]; exact Nat.ne_of_gt (blk_lt (g := br) (o := .cells #[.int .i64 a0_0, .int .i64 a0_1] 52 (0, 0)) p60z) : aC ≠ br)); have mr := Aside0.mk ((by rw [hg]; exact Nat.ne_of_lt (blk_lt (g := bp) (o := .cells #[.int .i64 cf, .int .i64 cj, .int .u64 bQ, .slice cT bD.length co19, .slice d7 bH.length co20] 33 (0, 0)) p61z) : bp ≠ aC)); have ms := Aside0.mk ((by rw [hg]; exact Nat.ne_of_gt (blk_lt (g := bp) (o := .cells #[.int .i64 cf, .int .i64 cj, .int .u64 bQ, .slice cT bD.length co19, .slice d7 bH.length co20] 33 (0, 0)) p61z) : aC ≠ bp)); have mt := Aside0.mk ((by rw [hg]; exact Nat.ne_of_lt (blk_lt (g := bm) (o := .cells #[.int .i64 cg, .int .i64 ck, .int .u64 cp, .slice dr bE.length co27, .slice d8 bI.length co28] 33 (0, 0)) p62z) : bm ≠ aC)); have n20_ := Aside0.mk ((by rw [hg]; exact Nat.ne_of_gt (blk_lt (g := bm) (o := .cells #[.int .i64 cg, .int .i64 ck, .int .u64 cp, .slice dr bE.length co27, .slice d8 bI.length co28] 33 (0, 0)) p62z) : aC ≠ bm)); have n21_ := Aside0.mk ((by rw [hg]; exact Nat.ne_of_lt (blk_lt (g := bc) (o := .cells #[.int .i64 cy, .int .i64 cP, .int .u64 cR, .slice dV cA.length co51, .slice dz cM.length co52] 33 (0, 0)) p32z) : bc ≠ aC)); have n22_ := Aside0.mk ((by rw [hg]; exact Nat.ne_of_gt (blk_lt (g := bc) (o := .cells #[.int .i64 cy, .int .i64 cP, .int .u64 cR, .slice dV cA.length co51, .slice dz cM.length co52] 33 (0, 0)) p32z) : aC ≠ bc)); clear bK; clear aQ; clear aT; clear aU; clear aV; clear dC; clear dD; clear aZ; clear aD; clear aJ; clear av; clear HB; have bK := n0_; have aQ := n1_; have aT := n2_; have aU := n3_; have aV := n4_; have dC := n5_; have dD := n6_; have aZ := n7_; have aD := n8_; have aJ := n9_; have av := ce; have HB := dp; have bf := dq; have GW529 := gu; have mu := kz; have NB488_529 := kA; have NB529_488 := mq; have NB505_529 := mr; have NB529_505 := ms; have NB516_529 := mt; have NB529_516 := n20_; have NB528_529 := n21_; have NB529_528 := n22_; clear n0_ n1_ n2_ n3_ n4_ n5_ n6_ n7_ n8_ n9_ ce dp dq gu kz kA mq mr ms mt n20_ n21_ n22_; clear hb hbox hg; have hnb56 := NB529_488.out; have hnc56 := NB488_529.out; have hnb57 := NB529_505.out; have hnc57 := NB505_529.out; have hnb58 := NB529_516.out; have hnc58 := NB516_529.out; have hnb59 := NB529_528.out; have hnc59 := NB528_529.out; have hcz60_0 : w55.cell? ⟨aC, 0, none⟩ = some (.int .i64 0) := (blk_cell bf.out 0).trans rfl; have hcz60_1 : w55.cell? ⟨aC, 1, none⟩ = some (.int .i64 0) := (blk_cell bf.out 1).trans rfl; have hcz60_2 : w55.cell? ⟨aC, 2, none⟩ = some (.int .u64 0) := (blk_cell bf.out 2).trans rfl; have hcz60_3 : w55.cell? ⟨aC, 3, none⟩ = some (.slice none 0 0) := (blk_cell bf.out 3).trans rfl; have hcz60_4 : w55.cell? ⟨aC, 4, none⟩ = some (.slice none 0 0) := (blk_cell bf.out 4).trans rfl; have hfz60_0 := blk_frozen bf.out 0; have hfz60_1 := blk_frozen bf.out 1; have hfz60_2 := blk_frozen bf.out 2; have hfz60_3 := blk_frozen bf.out 3; have hfz60_4 := blk_frozen bf.out 4))
   (try simp only [Act.put, List.setIfInBounds_toArray, List.set_cons_zero, List.set_cons_succ])
   go_cut [97] (fun v97 wc => ∃ (kq : Nat) (k8 : Bool), v97 = .bool k8 ∧ Aside0 (a7.j1 kq k8 cf cj bQ bD bH cg ck cp bE bI cy cP cR cA cM = some r) ∧ Aside0 (kq ≤ kj7) ∧ Aside0 (Kd.R (Kd.int .u8) 5 wc w.heap.size (fun k_ => some k_ ≠ ((.slice d7 bH.length co20) : Value).ownBlock ∧ some k_ ≠ ((.slice dr bE.length co27) : Value).ownBlock ∧ some k_ ≠ ((.slice d8 bI.length co28) : Value).ownBlock ∧ some k_ ≠ ((.slice dV cA.length co51) : Value).ownBlock ∧ some k_ ≠ ((.slice dz cM.length co52) : Value).ownBlock) (.slice cT bD.length co19) bD) ∧ Aside0 (Kd.R (Kd.int .u8) 5 wc w.heap.size (fun k_ => some k_ ≠ ((.slice cT bD.length co19) : Value).ownBlock ∧ some k_ ≠ ((.slice dr bE.length co27) : Value).ownBlock ∧ some k_ ≠ ((.slice d8 bI.length co28) : Value).ownBlock ∧ some k_ ≠ ((.slice dV cA.length co51) : Value).ownBlock ∧ some k_ ≠ ((.slice dz cM.length co52) : Value).ownBlock) (.slice d7 bH.length co20) bH) ∧ Aside0 (Kd.R (Kd.int .u8) 5 wc w.heap.size (fun k_ => some k_ ≠ ((.slice cT bD.length co19) : Value).ownBlock ∧ some k_ ≠ ((.slice d7 bH.length co20) : Value).ownBlock ∧ some k_ ≠ ((.slice d8 bI.length co28) : Value).ownBlock ∧ some k_ ≠ ((.slice dV cA.length co51) : Value).ownBlock ∧ some k_ ≠ ((.slice dz cM.length co52) : Value).ownBlock) (.slice dr bE.length co27) bE) ∧ Aside0 (Kd.R (Kd.int .u8) 5 wc w.heap.size (fun k_ => some k_ ≠ ((.slice cT bD.length co19) : Value).ownBlock ∧ some k_ ≠ ((.slice d7 bH.length co20) : Value).ownBlock ∧ some k_ ≠ ((.slice dr bE.length co27) : Value).ownBlock ∧ some k_ ≠ ((.slice dV cA.length co51) : Value).ownBlock ∧ some k_ ≠ ((.slice dz cM.length co52) : Value).ownBlock) (.slice d8 bI.length co28) bI) ∧ Aside0 (Kd.R (Kd.int .u8) 5 wc w.heap.size (fun k_ => some k_ ≠ ((.slice cT bD.length co19) : Value).ownBlock ∧ some k_ ≠ ((.slice d7 bH.length co20) : Value).ownBlock ∧ some k_ ≠ ((.slice dr bE.length co27) : Value).ownBlock ∧ some k_ ≠ ((.slice d8 bI.length co28) : Value).ownBlock ∧ some k_ ≠ ((.slice dz cM.length co52) : Value).ownBlock) (.slice dV cA.length co51) cA) ∧ Aside0 (Kd.R (Kd.int .u8) 5 wc w.heap.size (fun k_ => some k_ ≠ ((.slice cT bD.length co19) : Value).ownBlock ∧ some k_ ≠ ((.slice d7 bH.length co20) : Value).ownBlock ∧ some k_ ≠ ((.slice dr bE.length co27) : Value).ownBlock ∧ some k_ ≠ ((.slice d8 bI.length co28) : Value).ownBlock ∧ some k_ ≠ ((.slice dV cA.length co51) : Value).ownBlock) (.slice dz cM.length co52) cM) ∧ Aside0 (Kd.V (Kd.int .u8) 5 wc w.heap.size (fun k_ => some k_ ≠ ((.slice cT bD.length co19) : Value).ownBlock ∧ some k_ ≠ ((.slice d7 bH.length co20) : Value).ownBlock ∧ some k_ ≠ ((.slice dr bE.length co27) : Value).ownBlock ∧ some k_ ≠ ((.slice d8 bI.length co28) : Value).ownBlock ∧ some k_ ≠ ((.slice dV cA.length co51) : Value).ownBlock ∧ some k_ ≠ ((.slice dz cM.length co52) : Value).ownBlock ∧ k_ ≠ br ∧ k_ ≠ bp ∧ k_ ≠ bm ∧ k_ ≠ bc ∧ k_ ≠ aC) (.slice bX aW.length co11) aW) ∧ Aside0 (Kd.V (Kd.int .u8) 5 wc w.heap.size (fun k_ => some k_ ≠ ((.slice cT bD.length co19) : Value).ownBlock ∧ some k_ ≠ ((.slice d7 bH.length co20) : Value).ownBlock ∧ some k_ ≠ ((.slice dr bE.length co27) : Value).ownBlock ∧ some k_ ≠ ((.slice d8 bI.length co28) : Value).ownBlock ∧ some k_ ≠ ((.slice dV cA.length co51) : Value).ownBlock ∧ some k_ ≠ ((.slice dz cM.length co52) : Value).ownBlock ∧ k_ ≠ br ∧ k_ ≠ bp ∧ k_ ≠ bm ∧ k_ ≠ bc ∧ k_ ≠ aC) (.slice bX aW.length co11) aW) ∧ Aside0 (wc.heap[br]? = some (.cells #[.int .i64 a0_0, .int .i64 a0_1] 52 (0, 0))) ∧ Aside0 (wc.heap[bp]? = some (.cells #[.int .i64 cf, .int .i64 cj, .int .u64 bQ, (.slice cT bD.length co19), (.slice d7 bH.length co20)] 33 (0, 0))) ∧ Aside0 (wc.heap[bm]? = some (.cells #[.int .i64 cg, .int .i64 ck, .int .u64 cp, (.slice dr bE.length co27), (.slice d8 bI.length co28)] 33 (0, 0))) ∧ Aside0 (wc.heap[bc]? = some (.cells #[.int .i64 cy, .int .i64 cP, .int .u64 cR, (.slice dV cA.length co51), (.slice dz cM.length co52)] 33 (0, 0))) ∧ Aside0 (wc.heap[aC]? = some (.cells #[.int .i64 a0_0, .int .i64 a0_1, .int .u64 a1, (.slice bX aW.length co11), (.slice bX aW.length co11)] 33 (0, 0))) ∧ Aside0 (Below w.heap.size w wc))
   case first =>
    have H := HC41.out
    clear HC41
    replace H := Option.bind_eq_some_iff.mp H
    obtain ⟨iF, A610, H⟩ := H
    replace H : ((ai.f cg ck cp bE bI a0_0 a0_1 a1 aW aW).bind fun iw => (if (iF != iw) = true then (none) else ((wire_Same.f kj7 a0_0 a0_1 a1 aW aW a0_0 a0_1 a1 aW aW).bind fun i5 => (if (i5 != true) = true then (none) else ((bq.f kj7 a0_0 a0_1 a1 aW aW).bind fun gN => ((ar.f kj7 a0_0 a0_1 a1 aW aW).bind fun gD => (if gN = gD then ((bq.f kj7 cy cP cR cA cM).bind fun fZ => ((ar.f kj7 cg ck cp bE bI).bind fun fQ => (if fZ = fQ then ((wire_Same.f kj7 cy cP cR cA cM cf cj bQ bD bH).bind fun fR => (a7.j1 kj7 (!fR) cf cj bQ bD bH cg ck cp bE bI cy cP cR cA cM)) else (none)))) else (none)))))))) = some r := H
    have A61 := Aside0.mk A610
    clear A610
    replace H := Option.bind_eq_some_iff.mp H
    obtain ⟨iw, A620, H⟩ := H
    replace H : (if (iF != iw) = true then (none) else ((wire_Same.f kj7 a0_0 a0_1 a1 aW aW a0_0 a0_1 a1 aW aW).bind fun i5 => (if (i5 != true) = true then (none) else ((bq.f kj7 a0_0 a0_1 a1 aW aW).bind fun gN => ((ar.f kj7 a0_0 a0_1 a1 aW aW).bind fun gD => (if gN = gD then ((bq.f kj7 cy cP cR cA cM).bind fun fZ => ((ar.f kj7 cg ck cp bE bI).bind fun fQ => (if fZ = fQ then ((wire_Same.f kj7 cy cP cR cA cM cf cj bQ bD bH).bind fun fR => (a7.j1 kj7 (!fR) cf cj bQ bD bH cg ck cp bE bI cy cP cR cA cM)) else (none)))) else (none))))))) = some r := H
    have A62 := Aside0.mk A620
    clear A620
    by_cases c63 : (iF != iw) = true
    case pos =>
     rw [if_pos c63] at H
     exact absurd H (by simp)
    rw [if_neg c63] at H
    have lY : (iF != iw) = false := by simpa using c63
    (try (have c63b1 : decide (iF = iw) = true := by simpa using c63))
    (try (have c63b2 : (iF == iw) = true := by simpa using c63))
    clear c63
    (first | rw [lY] | (simp only [i64_w, i32_w]; rw [lY]) | skip)
    replace H := Option.bind_eq_some_iff.mp H
    obtain ⟨i5, A640, H⟩ := H
    replace H : (if (i5 != true) = true then (none) else ((bq.f kj7 a0_0 a0_1 a1 aW aW).bind fun gN => ((ar.f kj7 a0_0 a0_1 a1 aW aW).bind fun gD => (if gN = gD then ((bq.f kj7 cy cP cR cA cM).bind fun fZ => ((ar.f kj7 cg ck cp bE bI).bind fun fQ => (if fZ = fQ then ((wire_Same.f kj7 cy cP cR cA cM cf cj bQ bD bH).bind fun fR => (a7.j1 kj7 (!fR) cf cj bQ bD bH cg ck cp bE bI cy cP cR cA cM)) else (none)))) else (none))))) = some r := H
    have A64 := Aside0.mk A640
    clear A640
    by_cases c65 : (i5 != true) = true
    case pos =>
     rw [if_pos c65] at H
     exact absurd H (by simp)
    rw [if_neg c65] at H
    have c65b0 : (i5 != true) = false := by simpa using c65
    (try (have c65b1 : decide (i5 = true) = true := by simpa using c65))
    (try (have c65b2 : (i5 == true) = true := by simpa using c65))
    clear c65
    replace H := Option.bind_eq_some_iff.mp H
    obtain ⟨gN, A660, H⟩ := H
    replace H : ((ar.f kj7 a0_0 a0_1 a1 aW aW).bind fun gD => (if gN = gD then ((bq.f kj7 cy cP cR cA cM).bind fun fZ => ((ar.f kj7 cg ck cp bE bI).bind fun fQ => (if fZ = fQ then ((wire_Same.f kj7 cy cP cR cA cM cf cj bQ bD bH).bind fun fR => (a7.j1 kj7 (!fR) cf cj bQ bD bH cg ck cp bE bI cy cP cR cA cM)) else (none)))) else (none))) = some r := H
    have A66 := Aside0.mk A660
    clear A660
    replace H := Option.bind_eq_some_iff.mp H
    obtain ⟨gD, A670, H⟩ := H
    replace H : (if gN = gD then ((bq.f kj7 cy cP cR cA cM).bind fun fZ => ((ar.f kj7 cg ck cp bE bI).bind fun fQ => (if fZ = fQ then ((wire_Same.f kj7 cy cP cR cA cM cf cj bQ bD bH).bind fun fR => (a7.j1 kj7 (!fR) cf cj bQ bD bH cg ck cp bE bI cy cP cR cA cM)) else (none)))) else (none)) = some r := H
    have A67 := Aside0.mk A670
    clear A670
    by_cases c68 : gN = gD
    case neg =>
     rw [if_neg c68] at H
     exact absurd H (by simp)
    rw [if_pos c68] at H
    have c68b0 : (gN == gD) = true := beq_iff_eq.mpr c68
    have c68b1 : (gN != gD) = false := bne_eq_false_iff_eq.mpr c68
    clear c68
    replace H := Option.bind_eq_some_iff.mp H
    obtain ⟨fZ, A690, H⟩ := H
    replace H : ((ar.f kj7 cg ck cp bE bI).bind fun fQ => (if fZ = fQ then ((wire_Same.f kj7 cy cP cR cA cM cf cj bQ bD bH).bind fun fR => (a7.j1 kj7 (!fR) cf cj bQ bD bH cg ck cp bE bI cy cP cR cA cM)) else (none))) = some r := H
    have A69 := Aside0.mk A690
    clear A690
    replace H := Option.bind_eq_some_iff.mp H
    obtain ⟨fQ, A700, H⟩ := H
    replace H : (if fZ = fQ then ((wire_Same.f kj7 cy cP cR cA cM cf cj bQ bD bH).bind fun fR => (a7.j1 kj7 (!fR) cf cj bQ bD bH cg ck cp bE bI cy cP cR cA cM)) else (none)) = some r := H
    have A70 := Aside0.mk A700
    clear A700
    by_cases c71 : fZ = fQ
    case neg =>
     rw [if_neg c71] at H
     exact absurd H (by simp)
    rw [if_pos c71] at H
    have c71b0 : (fZ == fQ) = true := beq_iff_eq.mpr c71
    have c71b1 : (fZ != fQ) = false := bne_eq_false_iff_eq.mpr c71
    clear c71
    replace H := Option.bind_eq_some_iff.mp H
    obtain ⟨fR, A720, H⟩ := H
    replace H : (a7.j1 kj7 (!fR) cf cj bQ bD bH cg ck cp bE bI cy cP cR cA cM) = some r := H
    have A72 := Aside0.mk A720
    clear A720
    have H' := Aside0.mk H
    clear H
    try go_wp2
    have n0_ : Aside0 (Kd.V (Kd.int .u8) 5 (((((w55.setCell ⟨aC, 0, none⟩ (.int .i64 a0_0)).setCell ⟨aC, 1, none⟩ (.int .i64 a0_1)).setCell ⟨aC, 2, none⟩ (.int .u64 a1)).setCell ⟨aC, 3, none⟩ (.slice bX aW.length co11)).setCell ⟨aC, 4, none⟩ (.slice bX aW.length co11)) w.heap.size (fun k_ => some k_ ≠ (.slice cT bD.length co19 : Value).ownBlock ∧ some k_ ≠ (.slice d7 bH.length co20 : Value).ownBlock ∧ some k_ ≠ (.slice dr bE.length co27 : Value).ownBlock ∧ some k_ ≠ (.slice d8 bI.length co28 : Value).ownBlock ∧ some k_ ≠ (.slice dV cA.length co51 : Value).ownBlock ∧ some k_ ≠ (.slice dz cM.length co52 : Value).ownBlock ∧ k_ ≠ br ∧ k_ ≠ bp ∧ k_ ≠ bm ∧ k_ ≠ bc ∧ k_ ≠ aC) (.slice bX aW.length co11) aW) := ⟨by (with_reducible repeat (first | apply Kd.V_alloc | apply Kd.V_drewN | apply Kd.V_drew)); exact Kd.V_mono (Kd.V_far (p := ⟨aC, 4, none⟩) (Kd.V_far (p := ⟨aC, 3, none⟩) (Kd.V_far (p := ⟨aC, 2, none⟩) (Kd.V_far (p := ⟨aC, 1, none⟩) (Kd.V_far (p := ⟨aC, 0, none⟩) (Kd.V_mono bK.out (fun k_ hk => (⟨hk, hk.2⟩ : _ ∧ k_ ≠ aC))) (fun _ hk => hk.2) (.int .i64 a0_0)) (fun _ hk => hk.2) (.int .i64 a0_1)) (fun _ hk => hk.2) (.int .u64 a1)) (fun _ hk => hk.2) (.slice bX aW.length co11)) (fun _ hk => hk.2) (.slice bX aW.length co11)) (fun _ hk => ⟨hk.1.1.1.1.1.1, ⟨hk.1.1.1.1.1.2.1, ⟨hk.1.1.1.1.1.2.2.1, ⟨hk.1.1.1.1.1.2.2.2.1, ⟨hk.1.1.1.1.2, ⟨hk.1.1.1.2, ⟨hk.1.1.1.1.1.2.2.2.2.1, ⟨hk.1.1.1.1.1.2.2.2.2.2.1, ⟨hk.1.1.1.1.1.2.2.2.2.2.2, ⟨hk.1.1.2, hk.1.2⟩⟩⟩⟩⟩⟩⟩⟩⟩⟩)⟩
    have n1_ : Aside0 (Kd.R (Kd.int .u8) 5 (((((w55.setCell ⟨aC, 0, none⟩ (.int .i64 a0_0)).setCell ⟨aC, 1, none⟩ (.int .i64 a0_1)).setCell ⟨aC, 2, none⟩ (.int .u64 a1)).setCell ⟨aC, 3, none⟩ (.slice bX aW.length co11)).setCell ⟨aC, 4, none⟩ (.slice bX aW.length co11)) w.heap.size (fun k_ => some k_ ≠ (.slice d7 bH.length co20 : Value).ownBlock ∧ some k_ ≠ (.slice dr bE.length co27 : Value).ownBlock ∧ some k_ ≠ (.slice d8 bI.length co28 : Value).ownBlock ∧ some k_ ≠ (.slice dV cA.length co51 : Value).ownBlock ∧ some k_ ≠ (.slice dz cM.length co52 : Value).ownBlock) (.slice cT bD.length co19) bD) := ⟨by (with_reducible repeat (first | apply Kd.R_alloc | apply Kd.R_drewN | apply Kd.R_drew)); exact Kd.R_mono (Kd.R_far (p := ⟨aC, 4, none⟩) (Kd.R_far (p := ⟨aC, 3, none⟩) (Kd.R_far (p := ⟨aC, 2, none⟩) (Kd.R_far (p := ⟨aC, 1, none⟩) (Kd.R_far (p := ⟨aC, 0, none⟩) (Kd.R_types aQ.out bf.out (by decide)) (fun _ hk => hk.2) (.int .i64 a0_0)) (fun _ hk => hk.2) (.int .i64 a0_1)) (fun _ hk => hk.2) (.int .u64 a1)) (fun _ hk => hk.2) (.slice bX aW.length co11)) (fun _ hk => hk.2) (.slice bX aW.length co11)) (fun _ hk => ⟨hk.1.1.1.1, ⟨hk.1.1.1.2.1, ⟨hk.1.1.1.2.2, ⟨hk.1.1.2, hk.1.2⟩⟩⟩⟩)⟩
    have n2_ : Aside0 (Kd.R (Kd.int .u8) 5 (((((w55.setCell ⟨aC, 0, none⟩ (.int .i64 a0_0)).setCell ⟨aC, 1, none⟩ (.int .i64 a0_1)).setCell ⟨aC, 2, none⟩ (.int .u64 a1)).setCell ⟨aC, 3, none⟩ (.slice bX aW.length co11)).setCell ⟨aC, 4, none⟩ (.slice bX aW.length co11)) w.heap.size (fun k_ => some k_ ≠ (.slice cT bD.length co19 : Value).ownBlock ∧ some k_ ≠ (.slice dr bE.length co27 : Value).ownBlock ∧ some k_ ≠ (.slice d8 bI.length co28 : Value).ownBlock ∧ some k_ ≠ (.slice dV cA.length co51 : Value).ownBlock ∧ some k_ ≠ (.slice dz cM.length co52 : Value).ownBlock) (.slice d7 bH.length co20) bH) := ⟨by (with_reducible repeat (first | apply Kd.R_alloc | apply Kd.R_drewN | apply Kd.R_drew)); exact Kd.R_mono (Kd.R_far (p := ⟨aC, 4, none⟩) (Kd.R_far (p := ⟨aC, 3, none⟩) (Kd.R_far (p := ⟨aC, 2, none⟩) (Kd.R_far (p := ⟨aC, 1, none⟩) (Kd.R_far (p := ⟨aC, 0, none⟩) (Kd.R_types aT.out bf.out (by decide)) (fun _ hk => hk.2) (.int .i64 a0_0)) (fun _ hk => hk.2) (.int .i64 a0_1)) (fun _ hk => hk.2) (.int .u64 a1)) (fun _ hk => hk.2) (.slice bX aW.length co11)) (fun _ hk => hk.2) (.slice bX aW.length co11)) (fun _ hk => ⟨hk.1.1.1.1, ⟨hk.1.1.1.2.1, ⟨hk.1.1.1.2.2, ⟨hk.1.1.2, hk.1.2⟩⟩⟩⟩)⟩
    have n3_ : Aside0 (Kd.R (Kd.int .u8) 5 (((((w55.setCell ⟨aC, 0, none⟩ (.int .i64 a0_0)).setCell ⟨aC, 1, none⟩ (.int .i64 a0_1)).setCell ⟨aC, 2, none⟩ (.int .u64 a1)).setCell ⟨aC, 3, none⟩ (.slice bX aW.length co11)).setCell ⟨aC, 4, none⟩ (.slice bX aW.length co11)) w.heap.size (fun k_ => some k_ ≠ (.slice cT bD.length co19 : Value).ownBlock ∧ some k_ ≠ (.slice d7 bH.length co20 : Value).ownBlock ∧ some k_ ≠ (.slice d8 bI.length co28 : Value).ownBlock ∧ some k_ ≠ (.slice dV cA.length co51 : Value).ownBlock ∧ some k_ ≠ (.slice dz cM.length co52 : Value).ownBlock) (.slice dr bE.length co27) bE) := ⟨by (with_reducible repeat (first | apply Kd.R_alloc | apply Kd.R_drewN | apply Kd.R_drew)); exact Kd.R_mono (Kd.R_far (p := ⟨aC, 4, none⟩) (Kd.R_far (p := ⟨aC, 3, none⟩) (Kd.R_far (p := ⟨aC, 2, none⟩) (Kd.R_far (p := ⟨aC, 1, none⟩) (Kd.R_far (p := ⟨aC, 0, none⟩) (Kd.R_types aU.out bf.out (by decide)) (fun _ hk => hk.2) (.int .i64 a0_0)) (fun _ hk => hk.2) (.int .i64 a0_1)) (fun _ hk => hk.2) (.int .u64 a1)) (fun _ hk => hk.2) (.slice bX aW.length co11)) (fun _ hk => hk.2) (.slice bX aW.length co11)) (fun _ hk => ⟨hk.1.1.1.1, ⟨hk.1.1.1.2.1, ⟨hk.1.1.1.2.2, ⟨hk.1.1.2, hk.1.2⟩⟩⟩⟩)⟩
    have n4_ : Aside0 (Kd.R (Kd.int .u8) 5 (((((w55.setCell ⟨aC, 0, none⟩ (.int .i64 a0_0)).setCell ⟨aC, 1, none⟩ (.int .i64 a0_1)).setCell ⟨aC, 2, none⟩ (.int .u64 a1)).setCell ⟨aC, 3, none⟩ (.slice bX aW.length co11)).setCell ⟨aC, 4, none⟩ (.slice bX aW.length co11)) w.heap.size (fun k_ => some k_ ≠ (.slice cT bD.length co19 : Value).ownBlock ∧ some k_ ≠ (.slice d7 bH.length co20 : Value).ownBlock ∧ some k_ ≠ (.slice dr bE.length co27 : Value).ownBlock ∧ some k_ ≠ (.slice dV cA.length co51 : Value).ownBlock ∧ some k_ ≠ (.slice dz cM.length co52 : Value).ownBlock) (.slice d8 bI.length co28) bI) := ⟨by (with_reducible repeat (first | apply Kd.R_alloc | apply Kd.R_drewN | apply Kd.R_drew)); exact Kd.R_mono (Kd.R_far (p := ⟨aC, 4, none⟩) (Kd.R_far (p := ⟨aC, 3, none⟩) (Kd.R_far (p := ⟨aC, 2, none⟩) (Kd.R_far (p := ⟨aC, 1, none⟩) (Kd.R_far (p := ⟨aC, 0, none⟩) (Kd.R_types aV.out bf.out (by decide)) (fun _ hk => hk.2) (.int .i64 a0_0)) (fun _ hk => hk.2) (.int .i64 a0_1)) (fun _ hk => hk.2) (.int .u64 a1)) (fun _ hk => hk.2) (.slice bX aW.length co11)) (fun _ hk => hk.2) (.slice bX aW.length co11)) (fun _ hk => ⟨hk.1.1.1.1, ⟨hk.1.1.1.2.1, ⟨hk.1.1.1.2.2, ⟨hk.1.1.2, hk.1.2⟩⟩⟩⟩)⟩
    have n5_ : Aside0 (Kd.R (Kd.int .u8) 5 (((((w55.setCell ⟨aC, 0, none⟩ (.int .i64 a0_0)).setCell ⟨aC, 1, none⟩ (.int .i64 a0_1)).setCell ⟨aC, 2, none⟩ (.int .u64 a1)).setCell ⟨aC, 3, none⟩ (.slice bX aW.length co11)).setCell ⟨aC, 4, none⟩ (.slice bX aW.length co11)) w.heap.size (fun k_ => some k_ ≠ (.slice cT bD.length co19 : Value).ownBlock ∧ some k_ ≠ (.slice d7 bH.length co20 : Value).ownBlock ∧ some k_ ≠ (.slice dr bE.length co27 : Value).ownBlock ∧ some k_ ≠ (.slice d8 bI.length co28 : Value).ownBlock ∧ some k_ ≠ (.slice dz cM.length co52 : Value).ownBlock) (.slice dV cA.length co51) cA) := ⟨by (with_reducible repeat (first | apply Kd.R_alloc | apply Kd.R_drewN | apply Kd.R_drew)); exact Kd.R_mono (Kd.R_far (p := ⟨aC, 4, none⟩) (Kd.R_far (p := ⟨aC, 3, none⟩) (Kd.R_far (p := ⟨aC, 2, none⟩) (Kd.R_far (p := ⟨aC, 1, none⟩) (Kd.R_far (p := ⟨aC, 0, none⟩) (Kd.R_types dC.out bf.out (by decide)) (fun _ hk => hk.2) (.int .i64 a0_0)) (fun _ hk => hk.2) (.int .i64 a0_1)) (fun _ hk => hk.2) (.int .u64 a1)) (fun _ hk => hk.2) (.slice bX aW.length co11)) (fun _ hk => hk.2) (.slice bX aW.length co11)) (fun _ hk => ⟨hk.1.1.1.1.2, ⟨hk.1.1.1.2, ⟨hk.1.1.2, ⟨hk.1.2, hk.1.1.1.1.1⟩⟩⟩⟩)⟩
    have n6_ : Aside0 (Kd.R (Kd.int .u8) 5 (((((w55.setCell ⟨aC, 0, none⟩ (.int .i64 a0_0)).setCell ⟨aC, 1, none⟩ (.int .i64 a0_1)).setCell ⟨aC, 2, none⟩ (.int .u64 a1)).setCell ⟨aC, 3, none⟩ (.slice bX aW.length co11)).setCell ⟨aC, 4, none⟩ (.slice bX aW.length co11)) w.heap.size (fun k_ => some k_ ≠ (.slice cT bD.length co19 : Value).ownBlock ∧ some k_ ≠ (.slice d7 bH.length co20 : Value).ownBlock ∧ some k_ ≠ (.slice dr bE.length co27 : Value).ownBlock ∧ some k_ ≠ (.slice d8 bI.length co28 : Value).ownBlock ∧ some k_ ≠ (.slice dV cA.length co51 : Value).ownBlock) (.slice dz cM.length co52) cM) := ⟨by (with_reducible repeat (first | apply Kd.R_alloc | apply Kd.R_drewN | apply Kd.R_drew)); exact Kd.R_mono (Kd.R_far (p := ⟨aC, 4, none⟩) (Kd.R_far (p := ⟨aC, 3, none⟩) (Kd.R_far (p := ⟨aC, 2, none⟩) (Kd.R_far (p := ⟨aC, 1, none⟩) (Kd.R_far (p := ⟨aC, 0, none⟩) (Kd.R_types dD.out bf.out (by decide)) (fun _ hk => hk.2) (.int .i64 a0_0)) (fun _ hk => hk.2) (.int .i64 a0_1)) (fun _ hk => hk.2) (.int .u64 a1)) (fun _ hk => hk.2) (.slice bX aW.length co11)) (fun _ hk => hk.2) (.slice bX aW.length co11)) (fun _ hk => ⟨hk.1.1.1.1.2, ⟨hk.1.1.1.2, ⟨hk.1.1.2, ⟨hk.1.2, hk.1.1.1.1.1⟩⟩⟩⟩)⟩
    have n7_ : Aside0 ((((((w55.setCell ⟨aC, 0, none⟩ (.int .i64 a0_0)).setCell ⟨aC, 1, none⟩ (.int .i64 a0_1)).setCell ⟨aC, 2, none⟩ (.int .u64 a1)).setCell ⟨aC, 3, none⟩ (.slice bX aW.length co11)).setCell ⟨aC, 4, none⟩ (.slice bX aW.length co11)).heap[br]? = some (.cells #[.int .i64 a0_0, .int .i64 a0_1] 52 (0, 0))) := ⟨by (with_reducible repeat (first | refine blk_drewN ?_ _ | refine blk_drew ?_ | refine blk_alloc ?_ _)); refine blk_far ?_ NB488_529.out _; (with_reducible repeat (first | refine blk_drewN ?_ _ | refine blk_drew ?_ | refine blk_alloc ?_ _)); refine blk_far ?_ NB488_529.out _; (with_reducible repeat (first | refine blk_drewN ?_ _ | refine blk_drew ?_ | refine blk_alloc ?_ _)); refine blk_far ?_ NB488_529.out _; (with_reducible repeat (first | refine blk_drewN ?_ _ | refine blk_drew ?_ | refine blk_alloc ?_ _)); refine blk_far ?_ NB488_529.out _; (with_reducible repeat (first | refine blk_drewN ?_ _ | refine blk_drew ?_ | refine blk_alloc ?_ _)); refine blk_far ?_ NB488_529.out _; (with_reducible repeat (first | refine blk_drewN ?_ _ | refine blk_drew ?_ | refine blk_alloc ?_ _)); exact aZ.out⟩
    have n8_ : Aside0 ((((((w55.setCell ⟨aC, 0, none⟩ (.int .i64 a0_0)).setCell ⟨aC, 1, none⟩ (.int .i64 a0_1)).setCell ⟨aC, 2, none⟩ (.int .u64 a1)).setCell ⟨aC, 3, none⟩ (.slice bX aW.length co11)).setCell ⟨aC, 4, none⟩ (.slice bX aW.length co11)).heap[bp]? = some (.cells #[.int .i64 cf, .int .i64 cj, .int .u64 bQ, .slice cT bD.length co19, .slice d7 bH.length co20] 33 (0, 0))) := ⟨by (with_reducible repeat (first | refine blk_drewN ?_ _ | refine blk_drew ?_ | refine blk_alloc ?_ _)); refine blk_far ?_ NB505_529.out _; (with_reducible repeat (first | refine blk_drewN ?_ _ | refine blk_drew ?_ | refine blk_alloc ?_ _)); refine blk_far ?_ NB505_529.out _; (with_reducible repeat (first | refine blk_drewN ?_ _ | refine blk_drew ?_ | refine blk_alloc ?_ _)); refine blk_far ?_ NB505_529.out _; (with_reducible repeat (first | refine blk_drewN ?_ _ | refine blk_drew ?_ | refine blk_alloc ?_ _)); refine blk_far ?_ NB505_529.out _; (with_reducible repeat (first | refine blk_drewN ?_ _ | refine blk_drew ?_ | refine blk_alloc ?_ _)); refine blk_far ?_ NB505_529.out _; (with_reducible repeat (first | refine blk_drewN ?_ _ | refine blk_drew ?_ | refine blk_alloc ?_ _)); exact aD.out⟩
    have n9_ : Aside0 ((((((w55.setCell ⟨aC, 0, none⟩ (.int .i64 a0_0)).setCell ⟨aC, 1, none⟩ (.int .i64 a0_1)).setCell ⟨aC, 2, none⟩ (.int .u64 a1)).setCell ⟨aC, 3, none⟩ (.slice bX aW.length co11)).setCell ⟨aC, 4, none⟩ (.slice bX aW.length co11)).heap[bm]? = some (.cells #[.int .i64 cg, .int .i64 ck, .int .u64 cp, .slice dr bE.length co27, .slice d8 bI.length co28] 33 (0, 0))) := ⟨by (with_reducible repeat (first | refine blk_drewN ?_ _ | refine blk_drew ?_ | refine blk_alloc ?_ _)); refine blk_far ?_ NB516_529.out _; (with_reducible repeat (first | refine blk_drewN ?_ _ | refine blk_drew ?_ | refine blk_alloc ?_ _)); refine blk_far ?_ NB516_529.out _; (with_reducible repeat (first | refine blk_drewN ?_ _ | refine blk_drew ?_ | refine blk_alloc ?_ _)); refine blk_far ?_ NB516_529.out _; (with_reducible repeat (first | refine blk_drewN ?_ _ | refine blk_drew ?_ | refine blk_alloc ?_ _)); refine blk_far ?_ NB516_529.out _; (with_reducible repeat (first | refine blk_drewN ?_ _ | refine blk_drew ?_ | refine blk_alloc ?_ _)); refine blk_far ?_ NB516_529.out _; (with_reducible repeat (first | refine blk_drewN ?_ _ | refine blk_drew ?_ | refine blk_alloc ?_ _)); exact aJ.out⟩
    have ce : Aside0 ((((((w55.setCell ⟨aC, 0, none⟩ (.int .i64 a0_0)).setCell ⟨aC, 1, none⟩ (.int .i64 a0_1)).setCell ⟨aC, 2, none⟩ (.int .u64 a1)).setCell ⟨aC, 3, none⟩ (.slice bX aW.length co11)).setCell ⟨aC, 4, none⟩ (.slice bX aW.length co11)).heap[bc]? = some (.cells #[.int .i64 cy, .int .i64 cP, .int .u64 cR, .slice dV cA.length co51, .slice dz cM.length co52] 33 (0, 0))) := ⟨by (with_reducible repeat (first | refine blk_drewN ?_ _ | refine blk_drew ?_ | refine blk_alloc ?_ _)); refine blk_far ?_ NB528_529.out _; (with_reducible repeat (first | refine blk_drewN ?_ _ | refine blk_drew ?_ | refine blk_alloc ?_ _)); refine blk_far ?_ NB528_529.out _; (with_reducible repeat (first | refine blk_drewN ?_ _ | refine blk_drew ?_ | refine blk_alloc ?_ _)); refine blk_far ?_ NB528_529.out _; (with_reducible repeat (first | refine blk_drewN ?_ _ | refine blk_drew ?_ | refine blk_alloc ?_ _)); refine blk_far ?_ NB528_529.out _; (with_reducible repeat (first | refine blk_drewN ?_ _ | refine blk_drew ?_ | refine blk_alloc ?_ _)); refine blk_far ?_ NB528_529.out _; (with_reducible repeat (first | refine blk_drewN ?_ _ | refine blk_drew ?_ | refine blk_alloc ?_ _)); exact av.out⟩
    have dp : Aside0 ((((((w55.setCell ⟨aC, 0, none⟩ (.int .i64 a0_0)).setCell ⟨aC, 1, none⟩ (.int .i64 a0_1)).setCell ⟨aC, 2, none⟩ (.int .u64 a1)).setCell ⟨aC, 3, none⟩ (.slice bX aW.length co11)).setCell ⟨aC, 4, none⟩ (.slice bX aW.length co11)).heap[aC]? = some (.cells #[.int .i64 a0_0, .int .i64 a0_1, .int .u64 a1, .slice bX aW.length co11, .slice bX aW.length co11] 33 (0, 0))) := ⟨by (with_reducible repeat (first | refine blk_drewN ?_ _ | refine blk_drew ?_ | refine blk_alloc ?_ _)); refine blk_put (cs := #[.int .i64 a0_0, .int .i64 a0_1, .int .u64 a1, .slice bX aW.length co11, .slice none 0 0]) ?_ 4 _ rfl; (with_reducible repeat (first | refine blk_drewN ?_ _ | refine blk_drew ?_ | refine blk_alloc ?_ _)); refine blk_put (cs := #[.int .i64 a0_0, .int .i64 a0_1, .int .u64 a1, .slice none 0 0, .slice none 0 0]) ?_ 3 _ rfl; (with_reducible repeat (first | refine blk_drewN ?_ _ | refine blk_drew ?_ | refine blk_alloc ?_ _)); refine blk_put (cs := #[.int .i64 a0_0, .int .i64 a0_1, .int .u64 0, .slice none 0 0, .slice none 0 0]) ?_ 2 _ rfl; (with_reducible repeat (first | refine blk_drewN ?_ _ | refine blk_drew ?_ | refine blk_alloc ?_ _)); refine blk_put (cs := #[.int .i64 a0_0, .int .i64 0, .int .u64 0, .slice none 0 0, .slice none 0 0]) ?_ 1 _ rfl; (with_reducible repeat (first | refine blk_drewN ?_ _ | refine blk_drew ?_ | refine blk_alloc ?_ _)); refine blk_put (cs := #[.int .i64 0, .int .i64 0, .int .u64 0, .slice none 0 0, .slice none 0 0]) ?_ 0 _ rfl; (with_reducible repeat (first | refine blk_drewN ?_ _ | refine blk_drew ?_ | refine blk_alloc ?_ _)); exact bf.out⟩
    have dq : Aside0 (Below w.heap.size w (((((w55.setCell ⟨aC, 0, none⟩ (.int .i64 a0_0)).setCell ⟨aC, 1, none⟩ (.int .i64 a0_1)).setCell ⟨aC, 2, none⟩ (.int .u64 a1)).setCell ⟨aC, 3, none⟩ (.slice bX aW.length co11)).setCell ⟨aC, 4, none⟩ (.slice bX aW.length co11))) := ⟨p15z⟩
    (try clear bK)
    (try clear aQ)
    (try clear aT)
    (try clear aU)
    (try clear aV)
    (try clear dC)
    (try clear dD)
    (try clear aZ)
    (try clear aD)
    (try clear aJ)
    (try clear av)
    (try clear bf)
    (try clear HB)
    generalize (((((w55.setCell ⟨aC, 0, none⟩ (.int .i64 a0_0)).setCell ⟨aC, 1, none⟩ (.int .i64 a0_1)).setCell ⟨aC, 2, none⟩ (.int .u64 a1)).setCell ⟨aC, 3, none⟩ (.slice bX aW.length co11)).setCell ⟨aC, 4, none⟩ (.slice bX aW.length co11)) = w73 at n0_ n1_ n2_ n3_ n4_ n5_ n6_ n7_ n8_ n9_ ce dp dq ⊢
    have bK := n0_
    have aQ := n1_
    have aT := n2_
    have aU := n3_
    have aV := n4_
    have dC := n5_
    have dD := n6_
    have aZ := n7_
    have aD := n8_
    have aJ := n9_
    have av := ce
    have bf := dp
    have HB := dq
    clear n0_ n1_ n2_ n3_ n4_ n5_ n6_ n7_ n8_ n9_ ce dp dq
    have n0_ := Aside0.mk (Kd.V_drew bK.out)
    have n1_ := Aside0.mk (Kd.R_drew aQ.out)
    have n2_ := Aside0.mk (Kd.R_drew aT.out)
    have n3_ := Aside0.mk (Kd.R_drew aU.out)
    have n4_ := Aside0.mk (Kd.R_drew aV.out)
    have n5_ := Aside0.mk (Kd.R_drew dC.out)
    have n6_ := Aside0.mk (Kd.R_drew dD.out)
    have n7_ := Aside0.mk (blk_drew aZ.out)
    have n8_ := Aside0.mk (blk_drew aD.out)
    have n9_ := Aside0.mk (blk_drew aJ.out)
    have ce := Aside0.mk (blk_drew av.out)
    have dp := Aside0.mk (blk_drew bf.out)
    have dq := Aside0.mk (below_drew1 HB.out)
    clear bK
    clear aQ
    clear aT
    clear aU
    clear aV
    clear dC
    clear dD
    clear aZ
    clear aD
    clear aJ
    clear av
    clear bf
    clear HB
    have bK := n0_
    have aQ := n1_
    have aT := n2_
    have aU := n3_
    have aV := n4_
    have dC := n5_
    have dD := n6_
    have aZ := n7_
    have aD := n8_
    have aJ := n9_
    have av := ce
    have bf := dp
    have HB := dq
    clear n0_ n1_ n2_ n3_ n4_ n5_ n6_ n7_ n8_ n9_ ce dp dq
    refine start_ (n := 33) (S := fun w' => w'.cell? ⟨bp, 0, none⟩ = some (.int .i64 cf) ∧ w'.cell? ⟨bp, 1, none⟩ = some (.int .i64 cj) ∧ w'.cell? ⟨bp, 2, none⟩ = some (.int .u64 bQ) ∧ w'.cell? ⟨bp, 3, none⟩ = some (.slice cT bD.length co19) ∧ w'.cell? ⟨bp, 4, none⟩ = some (.slice d7 bH.length co20) ∧ w'.cell? ⟨aC, 0, none⟩ = some (.int .i64 a0_0) ∧ w'.cell? ⟨aC, 1, none⟩ = some (.int .i64 a0_1) ∧ w'.cell? ⟨aC, 2, none⟩ = some (.int .u64 a1) ∧ w'.cell? ⟨aC, 3, none⟩ = some (.slice bX aW.length co11) ∧ w'.cell? ⟨aC, 4, none⟩ = some (.slice bX aW.length co11) ∧ w'.cell? ⟨bm, 0, none⟩ = some (.int .i64 cg) ∧ w'.cell? ⟨bm, 1, none⟩ = some (.int .i64 ck) ∧ w'.cell? ⟨bm, 2, none⟩ = some (.int .u64 cp) ∧ w'.cell? ⟨bm, 3, none⟩ = some (.slice dr bE.length co27) ∧ w'.cell? ⟨bm, 4, none⟩ = some (.slice d8 bI.length co28) ∧ w'.cell? ⟨bc, 0, none⟩ = some (.int .i64 cy) ∧ w'.cell? ⟨bc, 1, none⟩ = some (.int .i64 cP) ∧ w'.cell? ⟨bc, 2, none⟩ = some (.int .u64 cR) ∧ w'.cell? ⟨bc, 3, none⟩ = some (.slice dV cA.length co51) ∧ w'.cell? ⟨bc, 4, none⟩ = some (.slice dz cM.length co52)) (ds := []) (tf 0 33) p16z rfl rfl ⟨(blk_cell aD.out 0).trans rfl, (blk_cell aD.out 1).trans rfl, (blk_cell aD.out 2).trans rfl, (blk_cell aD.out 3).trans rfl, (blk_cell aD.out 4).trans rfl, (blk_cell bf.out 0).trans rfl, (blk_cell bf.out 1).trans rfl, (blk_cell bf.out 2).trans rfl, (blk_cell bf.out 3).trans rfl, (blk_cell bf.out 4).trans rfl, (blk_cell aJ.out 0).trans rfl, (blk_cell aJ.out 1).trans rfl, (blk_cell aJ.out 2).trans rfl, (blk_cell aJ.out 3).trans rfl, (blk_cell aJ.out 4).trans rfl, (blk_cell av.out 0).trans rfl, (blk_cell av.out 1).trans rfl, (blk_cell av.out 2).trans rfl, (blk_cell av.out 3).trans rfl, (blk_cell av.out 4).trans rfl⟩ (fun hHeld => ?_); refine with_tabW a7.tab9 a7.bits9 (fun HT_ HW_ => ?_)
    generalize w73.drew = w74 at bK aQ aT aU aV dC dD aZ aD aJ av bf HB hHeld ⊢
    refine take_ (i := 0) (N := some 65) (v := ?_) (a' := ?_) (tf 1 32) rfl rfl (take_ofW HT_.out HW_.out p16z) (fun _ _ _ h => h) (Or.inl ⟨by rfl, ?_⟩) hHeld ?_ ?_
    rotate_left
    ·rintro w' ⟨s0, s1, s2, s3, s4, s5, s6, s7, s8, s9, s10, s11, s12, s13, s14, s15, s16, s17, s18, s19⟩
     go_simp
     with_reducible rfl
    rotate_left
    ·exact p1z
    refine take_ (i := 1) (N := some 66) (v := ?_) (a' := ?_) (tf 2 31) rfl rfl (take_ofW HT_.out HW_.out p16z) (fun _ _ _ h => h) (Or.inl ⟨by rfl, ?_⟩) hHeld ?_ ?_
    rotate_left
    ·rintro w' ⟨s0, s1, s2, s3, s4, s5, s6, s7, s8, s9, s10, s11, s12, s13, s14, s15, s16, s17, s18, s19⟩
     go_simp
     with_reducible rfl
    rotate_left
    ·exact p1z
    refine take_ (i := 3) (N := some 68) (v := ?_) (a' := ?_) (tfs true [2, 1, 1, 29]) rfl rfl (take_ofW HT_.out HW_.out p16z) (fun _ _ _ h => h) (Or.inl ⟨by rfl, ?_⟩) hHeld ?_ ?_
    rotate_left
    ·rintro w' ⟨s0, s1, s2, s3, s4, s5, s6, s7, s8, s9, s10, s11, s12, s13, s14, s15, s16, s17, s18, s19⟩
     go_simp
     with_reducible rfl
    rotate_left
    ·exact p1z
    refine take_ (i := 4) (N := some 69) (v := ?_) (a' := ?_) (tfs true [2, 1, 2, 28]) rfl rfl (take_ofW HT_.out HW_.out p16z) (fun _ _ _ h => h) (Or.inl ⟨by rfl, ?_⟩) hHeld ?_ ?_
    rotate_left
    ·rintro w' ⟨s0, s1, s2, s3, s4, s5, s6, s7, s8, s9, s10, s11, s12, s13, s14, s15, s16, s17, s18, s19⟩
     go_simp
     with_reducible rfl
    rotate_left
    ·exact p1z
    refine one_ (i := 2) (N := some 67) (tf 5 28) rfl rfl (one_of HT_.out p16z) (by decide) (fun K hK => ?_)
    refine goes_ Try.func35 p16z rfl #[.agg #[.int .i64 cf, .int .i64 cj, .int .u64 bQ, .slice cT bD.length co19, .slice d7 bH.length co20], .agg #[.int .i64 a0_0, .int .i64 a0_1, .int .u64 a1, .slice bX aW.length co11, .slice bX aW.length co11]] (by rfl) rfl rfl p2z ?_
    with_reducible refine (wire_Same.calls kj7 cf cj bQ _ _ bD _ _ bH a0_0 a0_1 a1 _ _ aW _ _ aW iF _ ?side1 ?side2 ?side3 ?side4 ?side5 ?side6 ?side7 ?side8 A61.out).mono ?_
    (case side1 => exact p148z)
    (case side2 => exact (Kd.R_reads' aQ.out).2.1)
    (case side3 => exact p149z)
    (case side4 => exact (Kd.R_reads' aT.out).2.1)
    (case side5 => exact p41z)
    (case side6 => exact (Kd.V_reads' bK.out).2.1)
    (case side7 => exact p41z)
    (case side8 => exact (Kd.V_reads' bK.out).2.1)
    rintro e w75 ⟨rfl, hb⟩
    refine ⟨_, rfl, ?_⟩
    have n0_ := Aside0.mk (Kd.V_below p79z hb)
    have n1_ := Aside0.mk (Kd.R_below p50z hb)
    have n2_ := Aside0.mk (Kd.R_below p51z hb)
    have n3_ := Aside0.mk (Kd.R_below p52z hb)
    have n4_ := Aside0.mk (Kd.R_below p53z hb)
    have n5_ := Aside0.mk (Kd.R_below p92z hb)
    have n6_ := Aside0.mk (Kd.R_below p93z hb)
    have n7_ := Aside0.mk (blk_below (g := br) (o := .cells #[.int .i64 a0_0, .int .i64 a0_1] 52 (0, 0)) p23z hb)
    have n8_ := Aside0.mk (blk_below (g := bp) (o := .cells #[.int .i64 cf, .int .i64 cj, .int .u64 bQ, .slice cT bD.length co19, .slice d7 bH.length co20] 33 (0, 0)) p34z hb)
    have n9_ := Aside0.mk (blk_below (g := bm) (o := .cells #[.int .i64 cg, .int .i64 ck, .int .u64 cp, .slice dr bE.length co27, .slice d8 bI.length co28] 33 (0, 0)) p40z hb)
    have ce := Aside0.mk (blk_below (g := bc) (o := .cells #[.int .i64 cy, .int .i64 cP, .int .u64 cR, .slice dV cA.length co51, .slice dz cM.length co52] 33 (0, 0)) p65z hb)
    have dp := Aside0.mk (blk_below (g := aC) (o := .cells #[.int .i64 a0_0, .int .i64 a0_1, .int .u64 a1, .slice bX aW.length co11, .slice bX aW.length co11] 33 (0, 0)) p66z hb)
    have dq := Aside0.mk (below_step p15z hb)
    clear bK
    clear aQ
    clear aT
    clear aU
    clear aV
    clear dC
    clear dD
    clear aZ
    clear aD
    clear aJ
    clear av
    clear bf
    clear HB
    have bK := n0_
    have aQ := n1_
    have aT := n2_
    have aU := n3_
    have aV := n4_
    have dC := n5_
    have dD := n6_
    have aZ := n7_
    have aD := n8_
    have aJ := n9_
    have av := ce
    have bf := dp
    have HB := dq
    clear n0_ n1_ n2_ n3_ n4_ n5_ n6_ n7_ n8_ n9_ ce dp dq
    (try clear hb)
    (try clear hb2)
    (try clear hk)
    (try clear hi)
    refine hK.out _ _ ⟨(blk_cell aD.out 0).trans rfl, (blk_cell aD.out 1).trans rfl, (blk_cell aD.out 2).trans rfl, (blk_cell aD.out 3).trans rfl, (blk_cell aD.out 4).trans rfl, (blk_cell bf.out 0).trans rfl, (blk_cell bf.out 1).trans rfl, (blk_cell bf.out 2).trans rfl, (blk_cell bf.out 3).trans rfl, (blk_cell bf.out 4).trans rfl, (blk_cell aJ.out 0).trans rfl, (blk_cell aJ.out 1).trans rfl, (blk_cell aJ.out 2).trans rfl, (blk_cell aJ.out 3).trans rfl, (blk_cell aJ.out 4).trans rfl, (blk_cell av.out 0).trans rfl, (blk_cell av.out 1).trans rfl, (blk_cell av.out 2).trans rfl, (blk_cell av.out 3).trans rfl, (blk_cell av.out 4).trans rfl⟩ (fun hHeld => ?_)
    clear hK K
    refine norm_ (a' := ?_) ?_ ?_
    rotate_left
    ·show Act.put _ (some 67) _ = _
     simp only [Act.put, List.setIfInBounds_toArray, List.set_cons_zero, List.set_cons_succ, i64_w, i32_w]
     rfl
    refine one_ (i := 5) (N := some 70) (tf 6 27) rfl rfl (one_of HT_.out p16z) (by decide) (fun K hK => ?_)
    refine goes_ Try.func28 p16z rfl #[.agg #[.int .i64 cg, .int .i64 ck, .int .u64 cp, .slice dr bE.length co27, .slice d8 bI.length co28], .agg #[.int .i64 a0_0, .int .i64 a0_1, .int .u64 a1, .slice bX aW.length co11, .slice bX aW.length co11]] (by rfl) rfl rfl p2z ?_
    with_reducible refine (ai.calls cg ck cp _ _ bE _ _ bI a0_0 a0_1 a1 _ _ aW _ _ aW iw _ ?side1 ?side2 ?side3 ?side4 ?side5 ?side6 ?side7 ?side8 A62.out).mono ?_
    (case side1 => exact p174z)
    (case side2 => exact (Kd.R_reads' aU.out).2.1)
    (case side3 => exact p175z)
    (case side4 => exact (Kd.R_reads' aV.out).2.1)
    (case side5 => exact p41z)
    (case side6 => exact (Kd.V_reads' bK.out).2.1)
    (case side7 => exact p41z)
    (case side8 => exact (Kd.V_reads' bK.out).2.1)
    rintro e w76 ⟨rfl, hb⟩
    refine ⟨_, rfl, ?_⟩
    have n0_ := Aside0.mk (Kd.V_below p79z hb)
    have n1_ := Aside0.mk (Kd.R_below p50z hb)
    have n2_ := Aside0.mk (Kd.R_below p51z hb)
    have n3_ := Aside0.mk (Kd.R_below p52z hb)
    have n4_ := Aside0.mk (Kd.R_below p53z hb)
    have n5_ := Aside0.mk (Kd.R_below p92z hb)
    have n6_ := Aside0.mk (Kd.R_below p93z hb)
    have n7_ := Aside0.mk (blk_below (g := br) (o := .cells #[.int .i64 a0_0, .int .i64 a0_1] 52 (0, 0)) p23z hb)
    have n8_ := Aside0.mk (blk_below (g := bp) (o := .cells #[.int .i64 cf, .int .i64 cj, .int .u64 bQ, .slice cT bD.length co19, .slice d7 bH.length co20] 33 (0, 0)) p34z hb)
    have n9_ := Aside0.mk (blk_below (g := bm) (o := .cells #[.int .i64 cg, .int .i64 ck, .int .u64 cp, .slice dr bE.length co27, .slice d8 bI.length co28] 33 (0, 0)) p40z hb)
    have ce := Aside0.mk (blk_below (g := bc) (o := .cells #[.int .i64 cy, .int .i64 cP, .int .u64 cR, .slice dV cA.length co51, .slice dz cM.length co52] 33 (0, 0)) p65z hb)
    have dp := Aside0.mk (blk_below (g := aC) (o := .cells #[.int .i64 a0_0, .int .i64 a0_1, .int .u64 a1, .slice bX aW.length co11, .slice bX aW.length co11] 33 (0, 0)) p66z hb)
    have dq := Aside0.mk (below_step p15z hb)
    clear bK
    clear aQ
    clear aT
    clear aU
    clear aV
    clear dC
    clear dD
    clear aZ
    clear aD
    clear aJ
    clear av
    clear bf
    clear HB
    have bK := n0_
    have aQ := n1_
    have aT := n2_
    have aU := n3_
    have aV := n4_
    have dC := n5_
    have dD := n6_
    have aZ := n7_
    have aD := n8_
    have aJ := n9_
    have av := ce
    have bf := dp
    have HB := dq
    clear n0_ n1_ n2_ n3_ n4_ n5_ n6_ n7_ n8_ n9_ ce dp dq
    (try clear hb)
    (try clear hb2)
    (try clear hk)
    (try clear hi)
    refine hK.out _ _ ⟨(blk_cell aD.out 0).trans rfl, (blk_cell aD.out 1).trans rfl, (blk_cell aD.out 2).trans rfl, (blk_cell aD.out 3).trans rfl, (blk_cell aD.out 4).trans rfl, (blk_cell bf.out 0).trans rfl, (blk_cell bf.out 1).trans rfl, (blk_cell bf.out 2).trans rfl, (blk_cell bf.out 3).trans rfl, (blk_cell bf.out 4).trans rfl, (blk_cell aJ.out 0).trans rfl, (blk_cell aJ.out 1).trans rfl, (blk_cell aJ.out 2).trans rfl, (blk_cell aJ.out 3).trans rfl, (blk_cell aJ.out 4).trans rfl, (blk_cell av.out 0).trans rfl, (blk_cell av.out 1).trans rfl, (blk_cell av.out 2).trans rfl, (blk_cell av.out 3).trans rfl, (blk_cell av.out 4).trans rfl⟩ (fun hHeld => ?_)
    clear hK K
    refine norm_ (a' := ?_) ?_ ?_
    rotate_left
    ·show Act.put _ (some 70) _ = _
     simp only [Act.put, List.setIfInBounds_toArray, List.set_cons_zero, List.set_cons_succ, i64_w, i32_w]
     rfl
    refine pure_ (i := 6) (N := some 71) (v := ?_) (a' := ?_) (tf 7 26) rfl rfl (any_of HT_.out p16z) (fun _ _ _ h => h) (Or.inl ⟨by rfl, ?_⟩) ?_ ?_
    rotate_left
    ·intro w'
     go_simp
     with_reducible rfl
    rotate_left
    ·exact p1z
    refine pure_ (i := 7) (N := some 72) (v := ?_) (a' := ?_) (tf 8 25) rfl rfl (any_of HT_.out p16z) (fun _ _ _ h => h) (Or.inl ⟨by rfl, ?_⟩) ?_ ?_
    rotate_left
    ·intro w'
     go_simp
     with_reducible rfl
    rotate_left
    ·exact p1z
    refine take_ (i := 8) (N := some 73) (v := ?_) (a' := ?_) (tf 9 24) rfl rfl (take_ofW HT_.out HW_.out p16z) (fun _ _ _ h => h) (Or.inl ⟨by rfl, ?_⟩) hHeld ?_ ?_
    rotate_left
    ·rintro w' ⟨s0, s1, s2, s3, s4, s5, s6, s7, s8, s9, s10, s11, s12, s13, s14, s15, s16, s17, s18, s19⟩
     go_simp
     with_reducible rfl
    rotate_left
    ·exact p1z
    refine take_ (i := 9) (N := some 74) (v := ?_) (a' := ?_) (tf 10 23) rfl rfl (take_ofW HT_.out HW_.out p16z) (fun _ _ _ h => h) (Or.inl ⟨by rfl, ?_⟩) hHeld ?_ ?_
    rotate_left
    ·rintro w' ⟨s0, s1, s2, s3, s4, s5, s6, s7, s8, s9, s10, s11, s12, s13, s14, s15, s16, s17, s18, s19⟩
     go_simp
     with_reducible rfl
    rotate_left
    ·exact p1z
    refine one_ (i := 10) (N := some 75) (tf 11 22) rfl rfl (one_of HT_.out p16z) (by decide) (fun K hK => ?_)
    refine goes_ Try.func35 p16z rfl #[.agg #[.int .i64 a0_0, .int .i64 a0_1, .int .u64 a1, .slice bX aW.length co11, .slice bX aW.length co11], .agg #[.int .i64 a0_0, .int .i64 a0_1, .int .u64 a1, .slice bX aW.length co11, .slice bX aW.length co11]] (by rfl) rfl rfl p2z ?_
    with_reducible refine (wire_Same.calls kj7 a0_0 a0_1 a1 _ _ aW _ _ aW a0_0 a0_1 a1 _ _ aW _ _ aW i5 _ ?side1 ?side2 ?side3 ?side4 ?side5 ?side6 ?side7 ?side8 A64.out).mono ?_
    (case side1 => exact p41z)
    (case side2 => exact (Kd.V_reads' bK.out).2.1)
    (case side3 => exact p41z)
    (case side4 => exact (Kd.V_reads' bK.out).2.1)
    (case side5 => exact p41z)
    (case side6 => exact (Kd.V_reads' bK.out).2.1)
    (case side7 => exact p41z)
    (case side8 => exact (Kd.V_reads' bK.out).2.1)
    rintro e w77 ⟨rfl, hb⟩
    refine ⟨_, rfl, ?_⟩
    have n0_ := Aside0.mk (Kd.V_below p79z hb)
    have n1_ := Aside0.mk (Kd.R_below p50z hb)
    have n2_ := Aside0.mk (Kd.R_below p51z hb)
    have n3_ := Aside0.mk (Kd.R_below p52z hb)
    have n4_ := Aside0.mk (Kd.R_below p53z hb)
    have n5_ := Aside0.mk (Kd.R_below p92z hb)
    have n6_ := Aside0.mk (Kd.R_below p93z hb)
    have n7_ := Aside0.mk (blk_below (g := br) (o := .cells #[.int .i64 a0_0, .int .i64 a0_1] 52 (0, 0)) p23z hb)
    have n8_ := Aside0.mk (blk_below (g := bp) (o := .cells #[.int .i64 cf, .int .i64 cj, .int .u64 bQ, .slice cT bD.length co19, .slice d7 bH.length co20] 33 (0, 0)) p34z hb)
    have n9_ := Aside0.mk (blk_below (g := bm) (o := .cells #[.int .i64 cg, .int .i64 ck, .int .u64 cp, .slice dr bE.length co27, .slice d8 bI.length co28] 33 (0, 0)) p40z hb)
    have ce := Aside0.mk (blk_below (g := bc) (o := .cells #[.int .i64 cy, .int .i64 cP, .int .u64 cR, .slice dV cA.length co51, .slice dz cM.length co52] 33 (0, 0)) p65z hb)
    have dp := Aside0.mk (blk_below (g := aC) (o := .cells #[.int .i64 a0_0, .int .i64 a0_1, .int .u64 a1, .slice bX aW.length co11, .slice bX aW.length co11] 33 (0, 0)) p66z hb)
    have dq := Aside0.mk (below_step p15z hb)
    clear bK
    clear aQ
    clear aT
    clear aU
    clear aV
    clear dC
    clear dD
    clear aZ
    clear aD
    clear aJ
    clear av
    clear bf
    clear HB
    have bK := n0_
    have aQ := n1_
    have aT := n2_
    have aU := n3_
    have aV := n4_
    have dC := n5_
    have dD := n6_
    have aZ := n7_
    have aD := n8_
    have aJ := n9_
    have av := ce
    have bf := dp
    have HB := dq
    clear n0_ n1_ n2_ n3_ n4_ n5_ n6_ n7_ n8_ n9_ ce dp dq
    (try clear hb)
    (try clear hb2)
    (try clear hk)
    (try clear hi)
    refine hK.out _ _ ⟨(blk_cell aD.out 0).trans rfl, (blk_cell aD.out 1).trans rfl, (blk_cell aD.out 2).trans rfl, (blk_cell aD.out 3).trans rfl, (blk_cell aD.out 4).trans rfl, (blk_cell bf.out 0).trans rfl, (blk_cell bf.out 1).trans rfl, (blk_cell bf.out 2).trans rfl, (blk_cell bf.out 3).trans rfl, (blk_cell bf.out 4).trans rfl, (blk_cell aJ.out 0).trans rfl, (blk_cell aJ.out 1).trans rfl, (blk_cell aJ.out 2).trans rfl, (blk_cell aJ.out 3).trans rfl, (blk_cell aJ.out 4).trans rfl, (blk_cell av.out 0).trans rfl, (blk_cell av.out 1).trans rfl, (blk_cell av.out 2).trans rfl, (blk_cell av.out 3).trans rfl, (blk_cell av.out 4).trans rfl⟩ (fun hHeld => ?_)
    clear hK K
    refine norm_ (a' := ?_) ?_ ?_
    rotate_left
    ·show Act.put _ (some 75) _ = _
     simp only [Act.put, List.setIfInBounds_toArray, List.set_cons_zero, List.set_cons_succ, i64_w, i32_w]
     rfl
    refine pure_ (i := 11) (N := some 76) (v := ?_) (a' := ?_) (tf 12 21) rfl rfl (any_of HT_.out p16z) (fun _ _ _ h => h) (Or.inl ⟨by rfl, ?_⟩) ?_ ?_
    rotate_left
    ·intro w'
     go_simp
     with_reducible rfl
    rotate_left
    ·exact p1z
    refine pure_ (i := 12) (N := some 77) (v := ?_) (a' := ?_) (tf 13 20) rfl rfl (any_of HT_.out p16z) (fun _ _ _ h => h) (Or.inl ⟨by rfl, ?_⟩) ?_ ?_
    rotate_left
    ·intro w'
     go_simp
     with_reducible rfl
    rotate_left
    ·exact p1z
    refine pure_ (i := 13) (N := some 78) (v := ?_) (a' := ?_) (tf 14 19) rfl rfl (any_of HT_.out p16z) (fun _ _ _ h => h) (Or.inl ⟨by rfl, ?_⟩) ?_ ?_
    rotate_left
    ·intro w'
     go_simp
     with_reducible rfl
    rotate_left
    ·exact p1z
    refine take_ (i := 14) (N := some 79) (v := ?_) (a' := ?_) (tf 15 18) rfl rfl (take_ofW HT_.out HW_.out p16z) (fun _ _ _ h => h) (Or.inl ⟨by rfl, ?_⟩) hHeld ?_ ?_
    rotate_left
    ·rintro w' ⟨s0, s1, s2, s3, s4, s5, s6, s7, s8, s9, s10, s11, s12, s13, s14, s15, s16, s17, s18, s19⟩
     go_simp
     with_reducible rfl
    rotate_left
    ·exact p1z
    refine take_ (i := 16) (N := some 81) (v := ?_) (a' := ?_) (tfs true [15, 1, 1, 16]) rfl rfl (take_ofW HT_.out HW_.out p16z) (fun _ _ _ h => h) (Or.inl ⟨by rfl, ?_⟩) hHeld ?_ ?_
    rotate_left
    ·rintro w' ⟨s0, s1, s2, s3, s4, s5, s6, s7, s8, s9, s10, s11, s12, s13, s14, s15, s16, s17, s18, s19⟩
     go_simp
     with_reducible rfl
    rotate_left
    ·exact p1z
    refine one_ (i := 15) (N := some 80) (tf 17 16) rfl rfl (one_of HT_.out p16z) (by decide) (fun K hK => ?_)
    refine goes_ Try.func36 p16z rfl #[.agg #[.int .i64 a0_0, .int .i64 a0_1, .int .u64 a1, .slice bX aW.length co11, .slice bX aW.length co11]] (by rfl) rfl rfl p2z ?_
    with_reducible refine (bq.calls kj7 a0_0 a0_1 a1 _ _ aW _ _ aW gN _ ?side1 ?side2 ?side3 ?side4 A66.out).mono ?_
    (case side1 => exact p41z)
    (case side2 => exact (Kd.V_reads' bK.out).2.1)
    (case side3 => exact p41z)
    (case side4 => exact (Kd.V_reads' bK.out).2.1)
    rintro e w78 ⟨rfl, hb⟩
    refine ⟨_, rfl, ?_⟩
    have n0_ := Aside0.mk (Kd.V_below p79z hb)
    have n1_ := Aside0.mk (Kd.R_below p50z hb)
    have n2_ := Aside0.mk (Kd.R_below p51z hb)
    have n3_ := Aside0.mk (Kd.R_below p52z hb)
    have n4_ := Aside0.mk (Kd.R_below p53z hb)
    have n5_ := Aside0.mk (Kd.R_below p92z hb)
    have n6_ := Aside0.mk (Kd.R_below p93z hb)
    have n7_ := Aside0.mk (blk_below (g := br) (o := .cells #[.int .i64 a0_0, .int .i64 a0_1] 52 (0, 0)) p23z hb)
    have n8_ := Aside0.mk (blk_below (g := bp) (o := .cells #[.int .i64 cf, .int .i64 cj, .int .u64 bQ, .slice cT bD.length co19, .slice d7 bH.length co20] 33 (0, 0)) p34z hb)
    have n9_ := Aside0.mk (blk_below (g := bm) (o := .cells #[.int .i64 cg, .int .i64 ck, .int .u64 cp, .slice dr bE.length co27, .slice d8 bI.length co28] 33 (0, 0)) p40z hb)
    have ce := Aside0.mk (blk_below (g := bc) (o := .cells #[.int .i64 cy, .int .i64 cP, .int .u64 cR, .slice dV cA.length co51, .slice dz cM.length co52] 33 (0, 0)) p65z hb)
    have dp := Aside0.mk (blk_below (g := aC) (o := .cells #[.int .i64 a0_0, .int .i64 a0_1, .int .u64 a1, .slice bX aW.length co11, .slice bX aW.length co11] 33 (0, 0)) p66z hb)
    have dq := Aside0.mk (below_step p15z hb)
    clear bK
    clear aQ
    clear aT
    clear aU
    clear aV
    clear dC
    clear dD
    clear aZ
    clear aD
    clear aJ
    clear av
    clear bf
    clear HB
    have bK := n0_
    have aQ := n1_
    have aT := n2_
    have aU := n3_
    have aV := n4_
    have dC := n5_
    have dD := n6_
    have aZ := n7_
    have aD := n8_
    have aJ := n9_
    have av := ce
    have bf := dp
    have HB := dq
    clear n0_ n1_ n2_ n3_ n4_ n5_ n6_ n7_ n8_ n9_ ce dp dq
    (try clear hb)
    (try clear hb2)
    (try clear hk)
    (try clear hi)
    refine hK.out _ _ ⟨(blk_cell aD.out 0).trans rfl, (blk_cell aD.out 1).trans rfl, (blk_cell aD.out 2).trans rfl, (blk_cell aD.out 3).trans rfl, (blk_cell aD.out 4).trans rfl, (blk_cell bf.out 0).trans rfl, (blk_cell bf.out 1).trans rfl, (blk_cell bf.out 2).trans rfl, (blk_cell bf.out 3).trans rfl, (blk_cell bf.out 4).trans rfl, (blk_cell aJ.out 0).trans rfl, (blk_cell aJ.out 1).trans rfl, (blk_cell aJ.out 2).trans rfl, (blk_cell aJ.out 3).trans rfl, (blk_cell aJ.out 4).trans rfl, (blk_cell av.out 0).trans rfl, (blk_cell av.out 1).trans rfl, (blk_cell av.out 2).trans rfl, (blk_cell av.out 3).trans rfl, (blk_cell av.out 4).trans rfl⟩ (fun hHeld => ?_)
    clear hK K
    refine norm_ (a' := ?_) ?_ ?_
    rotate_left
    ·show Act.put _ (some 80) _ = _
     simp only [Act.put, List.setIfInBounds_toArray, List.set_cons_zero, List.set_cons_succ, i64_w, i32_w]
     rfl
    refine one_ (i := 17) (N := some 82) (tf 18 15) rfl rfl (one_of HT_.out p16z) (by decide) (fun K hK => ?_)
    refine goes_ Try.func37 p16z rfl #[.agg #[.int .i64 a0_0, .int .i64 a0_1, .int .u64 a1, .slice bX aW.length co11, .slice bX aW.length co11]] (by rfl) rfl rfl p2z ?_
    with_reducible refine (ar.calls kj7 a0_0 a0_1 a1 _ _ aW _ _ aW gD _ ?side1 ?side2 ?side3 ?side4 A67.out).mono ?_
    (case side1 => exact p41z)
    (case side2 => exact (Kd.V_reads' bK.out).2.1)
    (case side3 => exact p41z)
    (case side4 => exact (Kd.V_reads' bK.out).2.1)
    rintro e w79 ⟨rfl, hb⟩
    refine ⟨_, rfl, ?_⟩
    have n0_ := Aside0.mk (Kd.V_below p79z hb)
    have n1_ := Aside0.mk (Kd.R_below p50z hb)
    have n2_ := Aside0.mk (Kd.R_below p51z hb)
    have n3_ := Aside0.mk (Kd.R_below p52z hb)
    have n4_ := Aside0.mk (Kd.R_below p53z hb)
    have n5_ := Aside0.mk (Kd.R_below p92z hb)
    have n6_ := Aside0.mk (Kd.R_below p93z hb)
    have n7_ := Aside0.mk (blk_below (g := br) (o := .cells #[.int .i64 a0_0, .int .i64 a0_1] 52 (0, 0)) p23z hb)
    have n8_ := Aside0.mk (blk_below (g := bp) (o := .cells #[.int .i64 cf, .int .i64 cj, .int .u64 bQ, .slice cT bD.length co19, .slice d7 bH.length co20] 33 (0, 0)) p34z hb)
    have n9_ := Aside0.mk (blk_below (g := bm) (o := .cells #[.int .i64 cg, .int .i64 ck, .int .u64 cp, .slice dr bE.length co27, .slice d8 bI.length co28] 33 (0, 0)) p40z hb)
    have ce := Aside0.mk (blk_below (g := bc) (o := .cells #[.int .i64 cy, .int .i64 cP, .int .u64 cR, .slice dV cA.length co51, .slice dz cM.length co52] 33 (0, 0)) p65z hb)
    have dp := Aside0.mk (blk_below (g := aC) (o := .cells #[.int .i64 a0_0, .int .i64 a0_1, .int .u64 a1, .slice bX aW.length co11, .slice bX aW.length co11] 33 (0, 0)) p66z hb)
    have dq := Aside0.mk (below_step p15z hb)
    clear bK
    clear aQ
    clear aT
    clear aU
    clear aV
    clear dC
    clear dD
    clear aZ
    clear aD
    clear aJ
    clear av
    clear bf
    clear HB
    have bK := n0_
    have aQ := n1_
    have aT := n2_
    have aU := n3_
    have aV := n4_
    have dC := n5_
    have dD := n6_
    have aZ := n7_
    have aD := n8_
    have aJ := n9_
    have av := ce
    have bf := dp
    have HB := dq
    clear n0_ n1_ n2_ n3_ n4_ n5_ n6_ n7_ n8_ n9_ ce dp dq
    (try clear hb)
    (try clear hb2)
    (try clear hk)
    (try clear hi)
    refine hK.out _ _ ⟨(blk_cell aD.out 0).trans rfl, (blk_cell aD.out 1).trans rfl, (blk_cell aD.out 2).trans rfl, (blk_cell aD.out 3).trans rfl, (blk_cell aD.out 4).trans rfl, (blk_cell bf.out 0).trans rfl, (blk_cell bf.out 1).trans rfl, (blk_cell bf.out 2).trans rfl, (blk_cell bf.out 3).trans rfl, (blk_cell bf.out 4).trans rfl, (blk_cell aJ.out 0).trans rfl, (blk_cell aJ.out 1).trans rfl, (blk_cell aJ.out 2).trans rfl, (blk_cell aJ.out 3).trans rfl, (blk_cell aJ.out 4).trans rfl, (blk_cell av.out 0).trans rfl, (blk_cell av.out 1).trans rfl, (blk_cell av.out 2).trans rfl, (blk_cell av.out 3).trans rfl, (blk_cell av.out 4).trans rfl⟩ (fun hHeld => ?_)
    clear hK K
    refine norm_ (a' := ?_) ?_ ?_
    rotate_left
    ·show Act.put _ (some 82) _ = _
     simp only [Act.put, List.setIfInBounds_toArray, List.set_cons_zero, List.set_cons_succ, i64_w, i32_w]
     rfl
    refine pure_ (i := 18) (N := some 83) (v := ?_) (a' := ?_) (tf 19 14) rfl rfl (any_of HT_.out p16z) (fun _ _ _ h => h) (Or.inl ⟨by rfl, ?_⟩) ?_ ?_
    rotate_left
    ·intro w'
     go_simp
     with_reducible rfl
    rotate_left
    ·exact p1z
    refine pure_ (i := 19) (N := some 84) (v := ?_) (a' := ?_) (tf 20 13) rfl rfl (any_of HT_.out p16z) (fun _ _ _ h => h) (Or.inl ⟨by rfl, ?_⟩) ?_ ?_
    rotate_left
    ·intro w'
     go_simp
     with_reducible rfl
    rotate_left
    ·exact p1z
    refine pure_ (i := 20) (N := some 85) (v := ?_) (a' := ?_) (tf 21 12) rfl rfl (any_of HT_.out p16z) (fun _ _ _ h => h) (Or.inl ⟨by rfl, ?_⟩) ?_ ?_
    rotate_left
    ·intro w'
     go_simp
     with_reducible rfl
    rotate_left
    ·exact p1z
    refine take_ (i := 21) (N := some 86) (v := ?_) (a' := ?_) (tf 22 11) rfl rfl (take_ofW HT_.out HW_.out p16z) (fun _ _ _ h => h) (Or.inl ⟨by rfl, ?_⟩) hHeld ?_ ?_
    rotate_left
    ·rintro w' ⟨s0, s1, s2, s3, s4, s5, s6, s7, s8, s9, s10, s11, s12, s13, s14, s15, s16, s17, s18, s19⟩
     go_simp
     with_reducible rfl
    rotate_left
    ·exact p1z
    refine take_ (i := 23) (N := some 88) (v := ?_) (a' := ?_) (tfs true [22, 1, 1, 9]) rfl rfl (take_ofW HT_.out HW_.out p16z) (fun _ _ _ h => h) (Or.inl ⟨by rfl, ?_⟩) hHeld ?_ ?_
    rotate_left
    ·rintro w' ⟨s0, s1, s2, s3, s4, s5, s6, s7, s8, s9, s10, s11, s12, s13, s14, s15, s16, s17, s18, s19⟩
     go_simp
     with_reducible rfl
    rotate_left
    ·exact p1z
    refine one_ (i := 22) (N := some 87) (tf 24 9) rfl rfl (one_of HT_.out p16z) (by decide) (fun K hK => ?_)
    refine goes_ Try.func36 p16z rfl #[.agg #[.int .i64 cy, .int .i64 cP, .int .u64 cR, .slice dV cA.length co51, .slice dz cM.length co52]] (by rfl) rfl rfl p2z ?_
    with_reducible refine (bq.calls kj7 cy cP cR _ _ cA _ _ cM fZ _ ?side1 ?side2 ?side3 ?side4 A69.out).mono ?_
    (case side1 => exact p234z)
    (case side2 => exact (Kd.R_reads' dC.out).2.1)
    (case side3 => exact p235z)
    (case side4 => exact (Kd.R_reads' dD.out).2.1)
    rintro e w80 ⟨rfl, hb⟩
    refine ⟨_, rfl, ?_⟩
    have n0_ := Aside0.mk (Kd.V_below p79z hb)
    have n1_ := Aside0.mk (Kd.R_below p50z hb)
    have n2_ := Aside0.mk (Kd.R_below p51z hb)
    have n3_ := Aside0.mk (Kd.R_below p52z hb)
    have n4_ := Aside0.mk (Kd.R_below p53z hb)
    have n5_ := Aside0.mk (Kd.R_below p92z hb)
    have n6_ := Aside0.mk (Kd.R_below p93z hb)
    have n7_ := Aside0.mk (blk_below (g := br) (o := .cells #[.int .i64 a0_0, .int .i64 a0_1] 52 (0, 0)) p23z hb)
    have n8_ := Aside0.mk (blk_below (g := bp) (o := .cells #[.int .i64 cf, .int .i64 cj, .int .u64 bQ, .slice cT bD.length co19, .slice d7 bH.length co20] 33 (0, 0)) p34z hb)
    have n9_ := Aside0.mk (blk_below (g := bm) (o := .cells #[.int .i64 cg, .int .i64 ck, .int .u64 cp, .slice dr bE.length co27, .slice d8 bI.length co28] 33 (0, 0)) p40z hb)
    have ce := Aside0.mk (blk_below (g := bc) (o := .cells #[.int .i64 cy, .int .i64 cP, .int .u64 cR, .slice dV cA.length co51, .slice dz cM.length co52] 33 (0, 0)) p65z hb)
    have dp := Aside0.mk (blk_below (g := aC) (o := .cells #[.int .i64 a0_0, .int .i64 a0_1, .int .u64 a1, .slice bX aW.length co11, .slice bX aW.length co11] 33 (0, 0)) p66z hb)
    have dq := Aside0.mk (below_step p15z hb)
    clear bK
    clear aQ
    clear aT
    clear aU
    clear aV
    clear dC
    clear dD
    clear aZ
    clear aD
    clear aJ
    clear av
    clear bf
    clear HB
    have bK := n0_
    have aQ := n1_
    have aT := n2_
    have aU := n3_
    have aV := n4_
    have dC := n5_
    have dD := n6_
    have aZ := n7_
    have aD := n8_
    have aJ := n9_
    have av := ce
    have bf := dp
    have HB := dq
    clear n0_ n1_ n2_ n3_ n4_ n5_ n6_ n7_ n8_ n9_ ce dp dq
    (try clear hb)
    (try clear hb2)
    (try clear hk)
    (try clear hi)
    refine hK.out _ _ ⟨(blk_cell aD.out 0).trans rfl, (blk_cell aD.out 1).trans rfl, (blk_cell aD.out 2).trans rfl, (blk_cell aD.out 3).trans rfl, (blk_cell aD.out 4).trans rfl, (blk_cell bf.out 0).trans rfl, (blk_cell bf.out 1).trans rfl, (blk_cell bf.out 2).trans rfl, (blk_cell bf.out 3).trans rfl, (blk_cell bf.out 4).trans rfl, (blk_cell aJ.out 0).trans rfl, (blk_cell aJ.out 1).trans rfl, (blk_cell aJ.out 2).trans rfl, (blk_cell aJ.out 3).trans rfl, (blk_cell aJ.out 4).trans rfl, (blk_cell av.out 0).trans rfl, (blk_cell av.out 1).trans rfl, (blk_cell av.out 2).trans rfl, (blk_cell av.out 3).trans rfl, (blk_cell av.out 4).trans rfl⟩ (fun hHeld => ?_)
    clear hK K
    refine norm_ (a' := ?_) ?_ ?_
    rotate_left
    ·show Act.put _ (some 87) _ = _
     simp only [Act.put, List.setIfInBounds_toArray, List.set_cons_zero, List.set_cons_succ, i64_w, i32_w]
     rfl
    refine one_ (i := 24) (N := some 89) (tf 25 8) rfl rfl (one_of HT_.out p16z) (by decide) (fun K hK => ?_)
    refine goes_ Try.func37 p16z rfl #[.agg #[.int .i64 cg, .int .i64 ck, .int .u64 cp, .slice dr bE.length co27, .slice d8 bI.length co28]] (by rfl) rfl rfl p2z ?_
    with_reducible refine (ar.calls kj7 cg ck cp _ _ bE _ _ bI fQ _ ?side1 ?side2 ?side3 ?side4 A70.out).mono ?_
    (case side1 => exact p174z)
    (case side2 => exact (Kd.R_reads' aU.out).2.1)
    (case side3 => exact p175z)
    (case side4 => exact (Kd.R_reads' aV.out).2.1)
    rintro e w81 ⟨rfl, hb⟩
    refine ⟨_, rfl, ?_⟩
    have n0_ := Aside0.mk (Kd.V_below p79z hb)
    have n1_ := Aside0.mk (Kd.R_below p50z hb)
    have n2_ := Aside0.mk (Kd.R_below p51z hb)
    have n3_ := Aside0.mk (Kd.R_below p52z hb)
    have n4_ := Aside0.mk (Kd.R_below p53z hb)
    have n5_ := Aside0.mk (Kd.R_below p92z hb)
    have n6_ := Aside0.mk (Kd.R_below p93z hb)
    have n7_ := Aside0.mk (blk_below (g := br) (o := .cells #[.int .i64 a0_0, .int .i64 a0_1] 52 (0, 0)) p23z hb)
    have n8_ := Aside0.mk (blk_below (g := bp) (o := .cells #[.int .i64 cf, .int .i64 cj, .int .u64 bQ, .slice cT bD.length co19, .slice d7 bH.length co20] 33 (0, 0)) p34z hb)
    have n9_ := Aside0.mk (blk_below (g := bm) (o := .cells #[.int .i64 cg, .int .i64 ck, .int .u64 cp, .slice dr bE.length co27, .slice d8 bI.length co28] 33 (0, 0)) p40z hb)
    have ce := Aside0.mk (blk_below (g := bc) (o := .cells #[.int .i64 cy, .int .i64 cP, .int .u64 cR, .slice dV cA.length co51, .slice dz cM.length co52] 33 (0, 0)) p65z hb)
    have dp := Aside0.mk (blk_below (g := aC) (o := .cells #[.int .i64 a0_0, .int .i64 a0_1, .int .u64 a1, .slice bX aW.length co11, .slice bX aW.length co11] 33 (0, 0)) p66z hb)
    have dq := Aside0.mk (below_step p15z hb)
    clear bK
    clear aQ
    clear aT
    clear aU
    clear aV
    clear dC
    clear dD
    clear aZ
    clear aD
    clear aJ
    clear av
    clear bf
    clear HB
    have bK := n0_
    have aQ := n1_
    have aT := n2_
    have aU := n3_
    have aV := n4_
    have dC := n5_
    have dD := n6_
    have aZ := n7_
    have aD := n8_
    have aJ := n9_
    have av := ce
    have bf := dp
    have HB := dq
    clear n0_ n1_ n2_ n3_ n4_ n5_ n6_ n7_ n8_ n9_ ce dp dq
    (try clear hb)
    (try clear hb2)
    (try clear hk)
    (try clear hi)
    refine hK.out _ _ ⟨(blk_cell aD.out 0).trans rfl, (blk_cell aD.out 1).trans rfl, (blk_cell aD.out 2).trans rfl, (blk_cell aD.out 3).trans rfl, (blk_cell aD.out 4).trans rfl, (blk_cell bf.out 0).trans rfl, (blk_cell bf.out 1).trans rfl, (blk_cell bf.out 2).trans rfl, (blk_cell bf.out 3).trans rfl, (blk_cell bf.out 4).trans rfl, (blk_cell aJ.out 0).trans rfl, (blk_cell aJ.out 1).trans rfl, (blk_cell aJ.out 2).trans rfl, (blk_cell aJ.out 3).trans rfl, (blk_cell aJ.out 4).trans rfl, (blk_cell av.out 0).trans rfl, (blk_cell av.out 1).trans rfl, (blk_cell av.out 2).trans rfl, (blk_cell av.out 3).trans rfl, (blk_cell av.out 4).trans rfl⟩ (fun hHeld => ?_)
    clear hK K
    refine norm_ (a' := ?_) ?_ ?_
    rotate_left
    ·show Act.put _ (some 89) _ = _
     simp only [Act.put, List.setIfInBounds_toArray, List.set_cons_zero, List.set_cons_succ, i64_w, i32_w]
     rfl
    refine pure_ (i := 25) (N := some 90) (v := ?_) (a' := ?_) (tf 26 7) rfl rfl (any_of HT_.out p16z) (fun _ _ _ h => h) (Or.inl ⟨by rfl, ?_⟩) ?_ ?_
    rotate_left
    ·intro w'
     go_simp
     with_reducible rfl
    rotate_left
    ·exact p1z
    refine pure_ (i := 26) (N := some 91) (v := ?_) (a' := ?_) (tf 27 6) rfl rfl (any_of HT_.out p16z) (fun _ _ _ h => h) (Or.inl ⟨by rfl, ?_⟩) ?_ ?_
    rotate_left
    ·intro w'
     go_simp
     with_reducible rfl
    rotate_left
    ·exact p1z
    refine pure_ (i := 27) (N := some 92) (v := ?_) (a' := ?_) (tf 28 5) rfl rfl (any_of HT_.out p16z) (fun _ _ _ h => h) (Or.inl ⟨by rfl, ?_⟩) ?_ ?_
    rotate_left
    ·intro w'
     go_simp
     with_reducible rfl
    rotate_left
    ·exact p1z
    refine take_ (i := 28) (N := some 93) (v := ?_) (a' := ?_) (tf 29 4) rfl rfl (take_ofW HT_.out HW_.out p16z) (fun _ _ _ h => h) (Or.inl ⟨by rfl, ?_⟩) hHeld ?_ ?_
    rotate_left
    ·rintro w' ⟨s0, s1, s2, s3, s4, s5, s6, s7, s8, s9, s10, s11, s12, s13, s14, s15, s16, s17, s18, s19⟩
     go_simp
     with_reducible rfl
    rotate_left
    ·exact p1z
    refine take_ (i := 29) (N := some 94) (v := ?_) (a' := ?_) (tf 30 3) rfl rfl (take_ofW HT_.out HW_.out p16z) (fun _ _ _ h => h) (Or.inl ⟨by rfl, ?_⟩) hHeld ?_ ?_
    rotate_left
    ·rintro w' ⟨s0, s1, s2, s3, s4, s5, s6, s7, s8, s9, s10, s11, s12, s13, s14, s15, s16, s17, s18, s19⟩
     go_simp
     with_reducible rfl
    rotate_left
    ·exact p1z
    refine one_ (i := 30) (N := some 95) (tf 31 2) rfl rfl (one_of HT_.out p16z) (by decide) (fun K hK => ?_)
    refine goes_ Try.func35 p16z rfl #[.agg #[.int .i64 cy, .int .i64 cP, .int .u64 cR, .slice dV cA.length co51, .slice dz cM.length co52], .agg #[.int .i64 cf, .int .i64 cj, .int .u64 bQ, .slice cT bD.length co19, .slice d7 bH.length co20]] (by rfl) rfl rfl p2z ?_
    with_reducible refine (wire_Same.calls kj7 cy cP cR _ _ cA _ _ cM cf cj bQ _ _ bD _ _ bH fR _ ?side1 ?side2 ?side3 ?side4 ?side5 ?side6 ?side7 ?side8 A72.out).mono ?_
    (case side1 => exact p234z)
    (case side2 => exact (Kd.R_reads' dC.out).2.1)
    (case side3 => exact p235z)
    (case side4 => exact (Kd.R_reads' dD.out).2.1)
    (case side5 => exact p148z)
    (case side6 => exact (Kd.R_reads' aQ.out).2.1)
    (case side7 => exact p149z)
    (case side8 => exact (Kd.R_reads' aT.out).2.1)
    rintro e w82 ⟨rfl, hb⟩
    refine ⟨_, rfl, ?_⟩
    have n0_ := Aside0.mk (Kd.V_below p79z hb)
    have n1_ := Aside0.mk (Kd.R_below p50z hb)
    have n2_ := Aside0.mk (Kd.R_below p51z hb)
    have n3_ := Aside0.mk (Kd.R_below p52z hb)
    have n4_ := Aside0.mk (Kd.R_below p53z hb)
    have n5_ := Aside0.mk (Kd.R_below p92z hb)
    have n6_ := Aside0.mk (Kd.R_below p93z hb)
    have n7_ := Aside0.mk (blk_below (g := br) (o := .cells #[.int .i64 a0_0, .int .i64 a0_1] 52 (0, 0)) p23z hb)
    have n8_ := Aside0.mk (blk_below (g := bp) (o := .cells #[.int .i64 cf, .int .i64 cj, .int .u64 bQ, .slice cT bD.length co19, .slice d7 bH.length co20] 33 (0, 0)) p34z hb)
    have n9_ := Aside0.mk (blk_below (g := bm) (o := .cells #[.int .i64 cg, .int .i64 ck, .int .u64 cp, .slice dr bE.length co27, .slice d8 bI.length co28] 33 (0, 0)) p40z hb)
    have ce := Aside0.mk (blk_below (g := bc) (o := .cells #[.int .i64 cy, .int .i64 cP, .int .u64 cR, .slice dV cA.length co51, .slice dz cM.length co52] 33 (0, 0)) p65z hb)
    have dp := Aside0.mk (blk_below (g := aC) (o := .cells #[.int .i64 a0_0, .int .i64 a0_1, .int .u64 a1, .slice bX aW.length co11, .slice bX aW.length co11] 33 (0, 0)) p66z hb)
    have dq := Aside0.mk (below_step p15z hb)
    clear bK
    clear aQ
    clear aT
    clear aU
    clear aV
    clear dC
    clear dD
    clear aZ
    clear aD
    clear aJ
    clear av
    clear bf
    clear HB
    have bK := n0_
    have aQ := n1_
    have aT := n2_
    have aU := n3_
    have aV := n4_
    have dC := n5_
    have dD := n6_
    have aZ := n7_
    have aD := n8_
    have aJ := n9_
    have av := ce
    have bf := dp
    have HB := dq
    clear n0_ n1_ n2_ n3_ n4_ n5_ n6_ n7_ n8_ n9_ ce dp dq
    (try clear hb)
    (try clear hb2)
    (try clear hk)
    (try clear hi)
    refine hK.out _ _ ⟨(blk_cell aD.out 0).trans rfl, (blk_cell aD.out 1).trans rfl, (blk_cell aD.out 2).trans rfl, (blk_cell aD.out 3).trans rfl, (blk_cell aD.out 4).trans rfl, (blk_cell bf.out 0).trans rfl, (blk_cell bf.out 1).trans rfl, (blk_cell bf.out 2).trans rfl, (blk_cell bf.out 3).trans rfl, (blk_cell bf.out 4).trans rfl, (blk_cell aJ.out 0).trans rfl, (blk_cell aJ.out 1).trans rfl, (blk_cell aJ.out 2).trans rfl, (blk_cell aJ.out 3).trans rfl, (blk_cell aJ.out 4).trans rfl, (blk_cell av.out 0).trans rfl, (blk_cell av.out 1).trans rfl, (blk_cell av.out 2).trans rfl, (blk_cell av.out 3).trans rfl, (blk_cell av.out 4).trans rfl⟩ (fun hHeld => ?_)
    clear hK K
    refine norm_ (a' := ?_) ?_ ?_
    rotate_left
    ·show Act.put _ (some 95) _ = _
     simp only [Act.put, List.setIfInBounds_toArray, List.set_cons_zero, List.set_cons_succ, i64_w, i32_w]
     rfl
    refine pure_ (i := 31) (N := some 96) (v := ?_) (a' := ?_) (tf 32 1) rfl rfl (any_of HT_.out p16z) (fun _ _ _ h => h) (Or.inl ⟨by rfl, ?_⟩) ?_ ?_
    rotate_left
    ·intro w'
     go_simp
     with_reducible rfl
    rotate_left
    ·exact p1z
    refine pure_ (i := 32) (N := some 97) (v := ?_) (a' := ?_) (tf 33 0) rfl rfl (any_of HT_.out p16z) (fun _ _ _ h => h) (Or.inl ⟨by rfl, ?_⟩) ?_ ?_
    rotate_left
    ·intro w'
     go_simp
     with_reducible rfl
    rotate_left
    ·exact p1z
    refine done_ (done_of HT_.out p16z) ?_
    try go_wp2
    go_meet
    case rel => exact ⟨_, (!fR), p21z, H', ⟨by have := HJ7.out; first | omega | exact Nat.le_refl _⟩, ⟨p50z⟩, ⟨p51z⟩, ⟨p52z⟩, ⟨p53z⟩, ⟨p92z⟩, ⟨p93z⟩, ⟨p79z⟩, ⟨p79z⟩, ⟨p23z⟩, ⟨p34z⟩, ⟨p40z⟩, ⟨p65z⟩, ⟨p66z⟩, ⟨p15z⟩⟩
   case rest =>
    clear HC41
    obtain ⟨kq, k8, rfl, HA, HJ40, aQ, aT, aU, aV, bM, bO, d5, d6, aZ, aD, aJ, av, bf, HB⟩ := hcut
    cases kq with
    | zero => exact absurd HA.out (by simp [a7.j1])
    | succ kj40 =>
     have H := HA.out
     clear HA
     simp only [a7.j1] at H
     by_cases c83 : k8 = true
     case pos =>
      subst c83
      have H1 : (none) = some r := p99z
      clear H
      have H := H1
      clear H1
      exact absurd H (by simp)
     replace c83 := Bool.eq_false_iff.mpr c83
     subst c83
     have H1 : (a7.l0 kj40 0 cf cj bQ bD bH cg ck cp bE bI cy cP cR cA cM) = some r := p42z
     clear H
     have H := H1
     clear H1
     have H' := Aside0.mk H
     clear H
     go_wp2
     go_loopg [14] kj40 (fun kq v14 w' => ∃ (dm : Int) (fD : List Int) (fE : List Int) (fF : List Int) (fG : List Int) (cm : List Int) (fH : List Int) (hP : List Int) (hQ : List Int) (cV : Value) (cW : Value) (cX : Value) (cY : Value) (cG : Value) (cI : Value) (eH : Value) (eI : Value), v14 = .int .i64 dm ∧ Aside0 (a7.l0 kq dm cf cj bQ fD fE cg ck cp fF fG cy cP cR cm fH = some r) ∧ Aside0 (kq ≤ kj40) ∧ Aside0 (Kd.R (Kd.int .u8) 5 w' w.heap.size (fun k_ => some k_ ≠ (cW : Value).ownBlock ∧ some k_ ≠ (cX : Value).ownBlock ∧ some k_ ≠ (cY : Value).ownBlock ∧ some k_ ≠ (cG : Value).ownBlock ∧ some k_ ≠ (cI : Value).ownBlock) cV fD) ∧ Aside0 (Kd.R (Kd.int .u8) 5 w' w.heap.size (fun k_ => some k_ ≠ (cV : Value).ownBlock ∧ some k_ ≠ (cX : Value).ownBlock ∧ some k_ ≠ (cY : Value).ownBlock ∧ some k_ ≠ (cG : Value).ownBlock ∧ some k_ ≠ (cI : Value).ownBlock) cW fE) ∧ Aside0 (Kd.R (Kd.int .u8) 5 w' w.heap.size (fun k_ => some k_ ≠ (cV : Value).ownBlock ∧ some k_ ≠ (cW : Value).ownBlock ∧ some k_ ≠ (cY : Value).ownBlock ∧ some k_ ≠ (cG : Value).ownBlock ∧ some k_ ≠ (cI : Value).ownBlock) cX fF) ∧ Aside0 (Kd.R (Kd.int .u8) 5 w' w.heap.size (fun k_ => some k_ ≠ (cV : Value).ownBlock ∧ some k_ ≠ (cW : Value).ownBlock ∧ some k_ ≠ (cX : Value).ownBlock ∧ some k_ ≠ (cG : Value).ownBlock ∧ some k_ ≠ (cI : Value).ownBlock) cY fG) ∧ Aside0 (Kd.R (Kd.int .u8) 5 w' w.heap.size (fun k_ => some k_ ≠ (cV : Value).ownBlock ∧ some k_ ≠ (cW : Value).ownBlock ∧ some k_ ≠ (cX : Value).ownBlock ∧ some k_ ≠ (cY : Value).ownBlock ∧ some k_ ≠ (cI : Value).ownBlock) cG cm) ∧ Aside0 (Kd.R (Kd.int .u8) 5 w' w.heap.size (fun k_ => some k_ ≠ (cV : Value).ownBlock ∧ some k_ ≠ (cW : Value).ownBlock ∧ some k_ ≠ (cX : Value).ownBlock ∧ some k_ ≠ (cY : Value).ownBlock ∧ some k_ ≠ (cG : Value).ownBlock) cI fH) ∧ Aside0 (Kd.V (Kd.int .u8) 5 w' w.heap.size (fun k_ => some k_ ≠ (cV : Value).ownBlock ∧ some k_ ≠ (cW : Value).ownBlock ∧ some k_ ≠ (cX : Value).ownBlock ∧ some k_ ≠ (cY : Value).ownBlock ∧ some k_ ≠ (cG : Value).ownBlock ∧ some k_ ≠ (cI : Value).ownBlock ∧ k_ ≠ br ∧ k_ ≠ bp ∧ k_ ≠ bm ∧ k_ ≠ bc ∧ k_ ≠ aC) eH hP) ∧ Aside0 (Kd.V (Kd.int .u8) 5 w' w.heap.size (fun k_ => some k_ ≠ (cV : Value).ownBlock ∧ some k_ ≠ (cW : Value).ownBlock ∧ some k_ ≠ (cX : Value).ownBlock ∧ some k_ ≠ (cY : Value).ownBlock ∧ some k_ ≠ (cG : Value).ownBlock ∧ some k_ ≠ (cI : Value).ownBlock ∧ k_ ≠ br ∧ k_ ≠ bp ∧ k_ ≠ bm ∧ k_ ≠ bc ∧ k_ ≠ aC) eI hQ) ∧ Aside0 (w'.heap[br]? = some (.cells #[.int .i64 a0_0, .int .i64 a0_1] 52 (0, 0))) ∧ Aside0 (w'.heap[bp]? = some (.cells #[.int .i64 cf, .int .i64 cj, .int .u64 bQ, cV, cW] 33 (0, 0))) ∧ Aside0 (w'.heap[bm]? = some (.cells #[.int .i64 cg, .int .i64 ck, .int .u64 cp, cX, cY] 33 (0, 0))) ∧ Aside0 (w'.heap[bc]? = some (.cells #[.int .i64 cy, .int .i64 cP, .int .u64 cR, cG, cI] 33 (0, 0))) ∧ Aside0 (w'.heap[aC]? = some (.cells #[.int .i64 a0_0, .int .i64 a0_1, .int .u64 a1, eH, eI] 33 (0, 0))) ∧ Aside0 (Below w.heap.size w w'))
     case atStart => exact ⟨(0), (bD), (bH), (bE), (bI), (cA), (cM), (aW), (aW), (.slice cT bD.length co19), (.slice d7 bH.length co20), (.slice dr bE.length co27), (.slice d8 bI.length co28), (.slice dV cA.length co51), (.slice dz cM.length co52), (.slice bX aW.length co11), (.slice bX aW.length co11), p21z, H', ⟨Nat.le_refl _⟩, ⟨p50z⟩, ⟨p51z⟩, ⟨p52z⟩, ⟨p53z⟩, ⟨p184z⟩, ⟨p185z⟩, ⟨p186z⟩, ⟨p187z⟩, ⟨p23z⟩, ⟨p34z⟩, ⟨p40z⟩, ⟨p65z⟩, ⟨p66z⟩, ⟨p15z⟩⟩
     case round =>
      clear H'
      try clear c83
      obtain ⟨dm, fD, fE, fF, fG, cm, fH, hP, hQ, cV, cW, cX, cY, cG, cI, eH, eI, rfl, HA, HK3, aQ, aT, aU, aV, bM, bO, d5, d6, aZ, aD, aJ, av, bf, HB⟩ := hrel
      cases gk with
      | zero => exact absurd HA.out (by simp [a7.l0])
      | succ k3 =>
       have H := HA.out
       clear HA
       simp only [a7.l0] at H
       by_cases c84 : dm < (cm.length : Int)
       case pos =>
        rw [if_pos c84] at H
        have c84b0 : decide (dm < (cm.length : Int)) = true := decide_eq_true c84
        clear c84
        by_cases c85 : 0 ≤ dm
        case neg =>
         rw [if_neg c85] at H
         exact absurd H (by simp)
        rw [if_pos c85] at H
        have c85b0 : decide (0 ≤ dm) = true := decide_eq_true c85
        clear c85
        obtain ⟨y539, hy539⟩ : ∃ y_ : List Int, y_ = (cm.set (dm : Int).toNat (Go.bits .xor .u8 (rd cm dm) 1)) := ⟨_, rfl⟩
        replace H : (a7.l0 k3 (wrap64 (dm + 1)) cf cj bQ fD fE cg ck cp fF fG cy cP cR y539 fH) = some r := by first | (rw [hy539]; with_reducible exact H) | (have H2_ := (Option.bind_some _ _).symm.trans H; rw [hy539]; with_reducible exact H2_) | (have H2_ := (Option.bind_some _ _).symm.trans H; with_reducible exact H2_) | with_reducible exact H | (rw [hy539]; exact H) | exact H
        have Ny539 := Aside0.mk hy539
        clear hy539
        have H' := Aside0.mk H
        clear H
        have hnb87 := NB528_488.out
        have hnc87 := NB488_528.out
        have hnb88 := NB528_505.out
        have hnc88 := NB505_528.out
        have hnb89 := NB528_516.out
        have hnc89 := NB516_528.out
        have hnb90 := NB528_529.out
        have hnc90 := NB529_528.out
        have hcz91_0 : wr.cell? ⟨bc, 0, none⟩ = some (.int .i64 cy) := (blk_cell av.out 0).trans rfl
        have hcz91_1 : wr.cell? ⟨bc, 1, none⟩ = some (.int .i64 cP) := (blk_cell av.out 1).trans rfl
        have hcz91_2 : wr.cell? ⟨bc, 2, none⟩ = some (.int .u64 cR) := (blk_cell av.out 2).trans rfl
        have hcz91_3 : wr.cell? ⟨bc, 3, none⟩ = some (cG) := (blk_cell av.out 3).trans rfl
        have hcz91_4 : wr.cell? ⟨bc, 4, none⟩ = some (cI) := (blk_cell av.out 4).trans rfl
        have hfz91_0 := blk_frozen av.out 0
        have hfz91_1 := blk_frozen av.out 1
        have hfz91_2 := blk_frozen av.out 2
        have hfz91_3 := blk_frozen av.out 3
        have hfz91_4 := blk_frozen av.out 4
        obtain ⟨Ao92, co92, eo92⟩ := Kd.R_slice bM.out
        subst eo92
        try go_wp2
        have n0_ := Aside0.mk (Kd.R_drew aQ.out)
        have n1_ := Aside0.mk (Kd.R_drew aT.out)
        have n2_ := Aside0.mk (Kd.R_drew aU.out)
        have n3_ := Aside0.mk (Kd.R_drew aV.out)
        have n4_ := Aside0.mk (Kd.R_drew bM.out)
        have n5_ := Aside0.mk (Kd.R_drew bO.out)
        have n6_ := Aside0.mk (Kd.V_drew d5.out)
        have n7_ := Aside0.mk (Kd.V_drew d6.out)
        have n8_ := Aside0.mk (blk_drew aZ.out)
        have n9_ := Aside0.mk (blk_drew aD.out)
        have ce := Aside0.mk (blk_drew aJ.out)
        have dp := Aside0.mk (blk_drew av.out)
        have dq := Aside0.mk (blk_drew bf.out)
        have gu := Aside0.mk (below_drew1 HB.out)
        clear aQ
        clear aT
        clear aU
        clear aV
        clear bM
        clear bO
        clear d5
        clear d6
        clear aZ
        clear aD
        clear aJ
        clear av
        clear bf
        clear HB
        have aQ := n0_
        have aT := n1_
        have aU := n2_
        have aV := n3_
        have bM := n4_
        have bO := n5_
        have d5 := n6_
        have d6 := n7_
        have aZ := n8_
        have aD := n9_
        have aJ := ce
        have av := dp
        have bf := dq
        have HB := gu
        clear n0_ n1_ n2_ n3_ n4_ n5_ n6_ n7_ n8_ n9_ ce dp dq gu
        have p538 : 0 ≤ (dm : Int) := of_decide_eq_true p10z
        have q538 : dm < (cm.length : Int) := of_decide_eq_true p10z
        obtain ⟨ad538, e538, hx538_0⟩ := Kd.at_int (Kd.R_reads' bM.out).2.2 dm p538 q538
        cases e538
        replace p538 := eq_true p538
        replace q538 := eq_true q538
        have p86 : 0 ≤ (dm : Int) := of_decide_eq_true p10z
        have q86 : (dm : Int) < ((cm.length : Int) : Int) := of_decide_eq_true p10z
        obtain ⟨go86, co86, eo86, gb86, gl86, cl86, HG86⟩ := Kd.R_form bM.out (by omega)
        (first | cases eo86 | (injection eo86 with ea_ en_ ec_; (first | subst ea_ | (injection ea_ with ea_; subst ea_)); subst ec_; clear en_))
        have GB86 := Aside0.mk gb86
        have GG86 := Aside0.mk HG86
        clear gb86 gl86 HG86
        (first | simp only [add_plain] at hx538_0 | skip)
        obtain ⟨hx86_0, hf86_0⟩ := Kd.R_celln 0 bM.out (dm : Int) p86 q86
        replace p86 := eq_true p86
        replace q86 := eq_true q86
        have HP94 := Kd.R_putn bM.out (dm : Int) (Go.bits .xor .u8 (rd cm dm) 1)
        rw [← Ny539.out] at HP94
        have HQ94 := Aside0.mk HP94
        clear HP94
        refine start_ (n := 11) (S := fun w' => w'.cell? ⟨bc, 0, none⟩ = some (.int .i64 cy) ∧ w'.cell? ⟨bc, 1, none⟩ = some (.int .i64 cP) ∧ w'.cell? ⟨bc, 2, none⟩ = some (.int .u64 cR) ∧ w'.cell? ⟨bc, 3, none⟩ = some (.slice (some ⟨go86, 0, none⟩) cm.length co92) ∧ w'.cell? ⟨bc, 4, none⟩ = some (cI) ∧ w'.cell? ⟨go86, (dm).toNat, none⟩ = some (.int .u8 (rd cm dm))) (ds := [10]) (tf 0 11) p16z rfl rfl ⟨(blk_cell av.out 0).trans rfl, (blk_cell av.out 1).trans rfl, (blk_cell av.out 2).trans rfl, (blk_cell av.out 3).trans rfl, (blk_cell av.out 4).trans rfl, hx538_0⟩ (fun hHeld => ?_); refine with_tabW a7.tab14 a7.bits14 (fun HT_ HW_ => ?_)
        generalize wr.drew = w93 at aQ aT aU aV bM bO d5 d6 aZ aD aJ av bf HB GG86 HQ94 hf86_0 hx538_0 hx86_0 hHeld ⊢
        refine pure_ (i := 0) (N := some 105) (v := ?_) (a' := ?_) (tf 1 10) rfl rfl (any_of HT_.out p16z) (fun _ _ _ h => h) (Or.inl ⟨by rfl, ?_⟩) ?_ ?_
        rotate_left
        ·intro w'
         go_simp
         with_reducible rfl
        rotate_left
        ·exact p1z
        refine pure_ (i := 2) (N := some 107) (v := ?_) (a' := ?_) (tfs true [1, 1, 1, 8]) rfl rfl (any_of HT_.out p16z) (fun _ _ _ h => h) (Or.inl ⟨by rfl, ?_⟩) ?_ ?_
        rotate_left
        ·intro w'
         go_simp
         with_reducible rfl
        rotate_left
        ·exact p1z
        refine pure_ (i := 3) (N := some 108) (v := ?_) (a' := ?_) (tfs true [1, 1, 2, 7]) rfl rfl (any_of HT_.out p16z) (fun _ _ _ h => h) (Or.inl ⟨by rfl, ?_⟩) ?_ ?_
        rotate_left
        ·intro w'
         go_simp
         with_reducible rfl
        rotate_left
        ·exact p1z
        refine pure_ (i := 5) (N := some 110) (v := ?_) (a' := ?_) (tfs true [1, 1, 2, 1, 1, 5]) rfl rfl (any_of HT_.out p16z) (fun _ _ _ h => h) (Or.inl ⟨by rfl, ?_⟩) ?_ ?_
        rotate_left
        ·intro w'
         go_simp
         with_reducible rfl
        rotate_left
        ·exact p1z
        refine take_ (i := 1) (N := some 106) (v := ?_) (a' := ?_) (tfs true [4, 1, 1, 5]) rfl rfl (take_ofW HT_.out HW_.out p16z) (fun _ _ _ h => h) (Or.inl ⟨by rfl, ?_⟩) hHeld ?_ ?_
        rotate_left
        ·rintro w' ⟨s0, s1, s2, s3, s4, s5⟩
         go_simp
         with_reducible rfl
        rotate_left
        ·exact p1z
        refine take_ (i := 4) (N := some 109) (v := ?_) (a' := ?_) (tf 6 5) rfl rfl (take_ofW HT_.out HW_.out p16z) (fun _ _ _ h => h) (Or.inl ⟨by rfl, ?_⟩) hHeld ?_ ?_
        rotate_left
        ·rintro w' ⟨s0, s1, s2, s3, s4, s5⟩
         go_simp
         with_reducible rfl
        rotate_left
        ·exact p1z
        refine pure_ (i := 6) (N := some 111) (v := ?_) (a' := ?_) (tf 7 4) rfl rfl (any_of HT_.out p16z) (fun _ _ _ h => h) (Or.inl ⟨by rfl, ?_⟩) ?_ ?_
        rotate_left
        ·intro w'
         go_simp
         with_reducible rfl
        rotate_left
        ·exact p1z
        refine take_ (i := 7) (N := some 112) (v := ?_) (a' := ?_) (tf 8 3) rfl rfl (take_ofW HT_.out HW_.out p16z) (fun _ _ _ h => h) (Or.inl ⟨by rfl, ?_⟩) hHeld ?_ ?_
        rotate_left
        ·rintro w' ⟨s0, s1, s2, s3, s4, s5⟩
         go_simp
         with_reducible rfl
        rotate_left
        ·exact p1z
        refine pure_ (i := 8) (N := some 113) (v := ?_) (a' := ?_) (tf 9 2) rfl rfl (any_of HT_.out p16z) (fun _ _ _ h => h) (Or.inl ⟨by rfl, ?_⟩) ?_ ?_
        rotate_left
        ·intro w'
         go_simp
         with_reducible rfl
        rotate_left
        ·exact p1z
        refine pure_ (i := 9) (N := some 114) (v := ?_) (a' := ?_) (tf 10 1) rfl rfl (any_of HT_.out p16z) (fun _ _ _ h => h) (Or.inl ⟨by rfl, ?_⟩) ?_ ?_
        rotate_left
        ·intro w'
         go_simp
         with_reducible rfl
        rotate_left
        ·exact p1z
        refine last_ (i := 10) (N := none) (tf 11 0) rfl rfl (one_of HT_.out p16z) (by decide) (fun K hK => ?_)
        refine skip_ (w1 := ?_) (by rfl) rfl ?_ ?_
        rotate_left
        ·go_simp
         rfl
        refine hK.out _ _ ?_
        clear hK K
        refine done_ (done_of HT_.out p16z) ?_
        try go_wp2
        go_roundg k3
        case measure => have := HJ7.out; have := HJ40.out; have := HK3.out; omega
        case rel => exact ⟨(wrap64 (dm + 1)), (fD), (fE), (fF), (fG), (y539), (fH), (hP), (hQ), (cV), (cW), (cX), (cY), (.slice (some ⟨go86, 0, none⟩) cm.length co92), (cI), (eH), (eI), p21z, H', ⟨by have := HJ7.out; have := HJ40.out; have := HK3.out; omega⟩, ⟨by (with_reducible repeat (first | apply Kd.R_alloc | apply Kd.R_drewN | apply Kd.R_drew)); exact Kd.R_mono (Kd.R_far (p := ⟨go86, (dm : Int).toNat, none⟩) (Kd.R_mono aQ.out (fun k_ hk => (⟨hk, fun e_ => hk.2.2.2.1 p203z⟩ : _ ∧ k_ ≠ go86))) (fun _ hk => hk.2) (.int .u8 (Go.bits .xor .u8 (rd cm dm) 1))) (fun _ hk => ⟨hk.1.1, ⟨hk.1.2.1, ⟨hk.1.2.2.1, ⟨hk.1.2.2.2.1, hk.1.2.2.2.2⟩⟩⟩⟩)⟩, ⟨by (with_reducible repeat (first | apply Kd.R_alloc | apply Kd.R_drewN | apply Kd.R_drew)); exact Kd.R_mono (Kd.R_far (p := ⟨go86, (dm : Int).toNat, none⟩) (Kd.R_mono aT.out (fun k_ hk => (⟨hk, fun e_ => hk.2.2.2.1 p203z⟩ : _ ∧ k_ ≠ go86))) (fun _ hk => hk.2) (.int .u8 (Go.bits .xor .u8 (rd cm dm) 1))) (fun _ hk => ⟨hk.1.1, ⟨hk.1.2.1, ⟨hk.1.2.2.1, ⟨hk.1.2.2.2.1, hk.1.2.2.2.2⟩⟩⟩⟩)⟩, ⟨by (with_reducible repeat (first | apply Kd.R_alloc | apply Kd.R_drewN | apply Kd.R_drew)); exact Kd.R_mono (Kd.R_far (p := ⟨go86, (dm : Int).toNat, none⟩) (Kd.R_mono aU.out (fun k_ hk => (⟨hk, fun e_ => hk.2.2.2.1 p203z⟩ : _ ∧ k_ ≠ go86))) (fun _ hk => hk.2) (.int .u8 (Go.bits .xor .u8 (rd cm dm) 1))) (fun _ hk => ⟨hk.1.1, ⟨hk.1.2.1, ⟨hk.1.2.2.1, ⟨hk.1.2.2.2.1, hk.1.2.2.2.2⟩⟩⟩⟩)⟩, ⟨by (with_reducible repeat (first | apply Kd.R_alloc | apply Kd.R_drewN | apply Kd.R_drew)); exact Kd.R_mono (Kd.R_far (p := ⟨go86, (dm : Int).toNat, none⟩) (Kd.R_mono aV.out (fun k_ hk => (⟨hk, fun e_ => hk.2.2.2.1 p203z⟩ : _ ∧ k_ ≠ go86))) (fun _ hk => hk.2) (.int .u8 (Go.bits .xor .u8 (rd cm dm) 1))) (fun _ hk => ⟨hk.1.1, ⟨hk.1.2.1, ⟨hk.1.2.2.1, ⟨hk.1.2.2.2.1, hk.1.2.2.2.2⟩⟩⟩⟩)⟩, ⟨q0z HQ94.out⟩, ⟨by (with_reducible repeat (first | apply Kd.R_alloc | apply Kd.R_drewN | apply Kd.R_drew)); exact Kd.R_mono (Kd.R_far (p := ⟨go86, (dm : Int).toNat, none⟩) (Kd.R_mono bO.out (fun k_ hk => (⟨hk, fun e_ => hk.2.2.2.2 p203z⟩ : _ ∧ k_ ≠ go86))) (fun _ hk => hk.2) (.int .u8 (Go.bits .xor .u8 (rd cm dm) 1))) (fun _ hk => ⟨hk.1.1, ⟨hk.1.2.1, ⟨hk.1.2.2.1, ⟨hk.1.2.2.2.1, hk.1.2.2.2.2⟩⟩⟩⟩)⟩, ⟨by (with_reducible repeat (first | apply Kd.V_alloc | apply Kd.V_drewN | apply Kd.V_drew)); exact Kd.V_mono (Kd.V_far (p := ⟨go86, (dm : Int).toNat, none⟩) (Kd.V_mono d5.out (fun k_ hk => (⟨hk, fun e_ => hk.2.2.2.2.1 p203z⟩ : _ ∧ k_ ≠ go86))) (fun _ hk => hk.2) (.int .u8 (Go.bits .xor .u8 (rd cm dm) 1))) (fun _ hk => ⟨hk.1.1, ⟨hk.1.2.1, ⟨hk.1.2.2.1, ⟨hk.1.2.2.2.1, ⟨hk.1.2.2.2.2.1, ⟨hk.1.2.2.2.2.2.1, ⟨hk.1.2.2.2.2.2.2.1, ⟨hk.1.2.2.2.2.2.2.2.1, ⟨hk.1.2.2.2.2.2.2.2.2.1, ⟨hk.1.2.2.2.2.2.2.2.2.2.1, hk.1.2.2.2.2.2.2.2.2.2.2⟩⟩⟩⟩⟩⟩⟩⟩⟩⟩)⟩, ⟨by (with_reducible repeat (first | apply Kd.V_alloc | apply Kd.V_drewN | apply Kd.V_drew)); exact Kd.V_mono (Kd.V_far (p := ⟨go86, (dm : Int).toNat, none⟩) (Kd.V_mono d6.out (fun k_ hk => (⟨hk, fun e_ => hk.2.2.2.2.1 p203z⟩ : _ ∧ k_ ≠ go86))) (fun _ hk => hk.2) (.int .u8 (Go.bits .xor .u8 (rd cm dm) 1))) (fun _ hk => ⟨hk.1.1, ⟨hk.1.2.1, ⟨hk.1.2.2.1, ⟨hk.1.2.2.2.1, ⟨hk.1.2.2.2.2.1, ⟨hk.1.2.2.2.2.2.1, ⟨hk.1.2.2.2.2.2.2.1, ⟨hk.1.2.2.2.2.2.2.2.1, ⟨hk.1.2.2.2.2.2.2.2.2.1, ⟨hk.1.2.2.2.2.2.2.2.2.2.1, hk.1.2.2.2.2.2.2.2.2.2.2⟩⟩⟩⟩⟩⟩⟩⟩⟩⟩)⟩, ⟨by (with_reducible repeat (first | refine blk_drewN ?_ _ | refine blk_drew ?_ | refine blk_alloc ?_ _)); refine blk_far ?_ (by have h_ := Kd.R_ne bM.out aZ.out (by decide); intro e_; exact h_ p203z) _; (with_reducible repeat (first | refine blk_drewN ?_ _ | refine blk_drew ?_ | refine blk_alloc ?_ _)); exact aZ.out⟩, ⟨by (with_reducible repeat (first | refine blk_drewN ?_ _ | refine blk_drew ?_ | refine blk_alloc ?_ _)); refine blk_far ?_ (by have h_ := Kd.R_ne bM.out aD.out (by decide); intro e_; exact h_ p203z) _; (with_reducible repeat (first | refine blk_drewN ?_ _ | refine blk_drew ?_ | refine blk_alloc ?_ _)); exact aD.out⟩, ⟨by (with_reducible repeat (first | refine blk_drewN ?_ _ | refine blk_drew ?_ | refine blk_alloc ?_ _)); refine blk_far ?_ (by have h_ := Kd.R_ne bM.out aJ.out (by decide); intro e_; exact h_ p203z) _; (with_reducible repeat (first | refine blk_drewN ?_ _ | refine blk_drew ?_ | refine blk_alloc ?_ _)); exact aJ.out⟩, ⟨by (with_reducible repeat (first | refine blk_drewN ?_ _ | refine blk_drew ?_ | refine blk_alloc ?_ _)); refine blk_far ?_ (by have h_ := Kd.R_ne bM.out av.out (by decide); intro e_; exact h_ p203z) _; (with_reducible repeat (first | refine blk_drewN ?_ _ | refine blk_drew ?_ | refine blk_alloc ?_ _)); exact av.out⟩, ⟨by (with_reducible repeat (first | refine blk_drewN ?_ _ | refine blk_drew ?_ | refine blk_alloc ?_ _)); refine blk_far ?_ (by have h_ := Kd.R_ne bM.out bf.out (by decide); intro e_; exact h_ p203z) _; (with_reducible repeat (first | refine blk_drewN ?_ _ | refine blk_drew ?_ | refine blk_alloc ?_ _)); exact bf.out⟩, ⟨by repeat (first | (with_reducible first | exact HB.out | apply below_alloc | apply pw_below_drewN | apply below_drew1 | refine below_set ?_ GB86.out | refine below_set ?_ iu.out | refine below_set ?_ jO.out | refine below_set ?_ kB.out | refine below_set ?_ ls.out | refine below_set ?_ mu.out) | exact HB.out)⟩⟩
       rw [if_neg c84] at H
       have c84b0 : decide (dm < (cm.length : Int)) = false := decide_eq_false c84
       clear c84
       have H' := Aside0.mk H
       clear H
       have hnb95 := NB528_488.out
       have hnc95 := NB488_528.out
       have hnb96 := NB528_505.out
       have hnc96 := NB505_528.out
       have hnb97 := NB528_516.out
       have hnc97 := NB516_528.out
       have hnb98 := NB528_529.out
       have hnc98 := NB529_528.out
       have hcz99_0 : wr.cell? ⟨bc, 0, none⟩ = some (.int .i64 cy) := (blk_cell av.out 0).trans rfl
       have hcz99_1 : wr.cell? ⟨bc, 1, none⟩ = some (.int .i64 cP) := (blk_cell av.out 1).trans rfl
       have hcz99_2 : wr.cell? ⟨bc, 2, none⟩ = some (.int .u64 cR) := (blk_cell av.out 2).trans rfl
       have hcz99_3 : wr.cell? ⟨bc, 3, none⟩ = some (cG) := (blk_cell av.out 3).trans rfl
       have hcz99_4 : wr.cell? ⟨bc, 4, none⟩ = some (cI) := (blk_cell av.out 4).trans rfl
       have hfz99_0 := blk_frozen av.out 0
       have hfz99_1 := blk_frozen av.out 1
       have hfz99_2 := blk_frozen av.out 2
       have hfz99_3 := blk_frozen av.out 3
       have hfz99_4 := blk_frozen av.out 4
       obtain ⟨mv, co100, eo100⟩ := Kd.R_slice bM.out
       subst eo100
       go_wp2
       go_loopg [15] k3 (fun kq v15 w' => ∃ (dn : Int) (eo : List Int) (ep : List Int) (es : List Int) (et : List Int) (gv : List Int) (cn : List Int) (iG : List Int) (iH : List Int) (cV : Value) (cW : Value) (cX : Value) (cY : Value) (cG : Value) (cI : Value) (eH : Value) (eI : Value), v15 = .int .i64 dn ∧ Aside0 (a7.l1 kq dn cf cj bQ eo ep cg ck cp es et cy cP cR gv cn = some r) ∧ Aside0 (kq ≤ k3) ∧ Aside0 (Kd.R (Kd.int .u8) 5 w' w.heap.size (fun k_ => some k_ ≠ (cW : Value).ownBlock ∧ some k_ ≠ (cX : Value).ownBlock ∧ some k_ ≠ (cY : Value).ownBlock ∧ some k_ ≠ (cG : Value).ownBlock ∧ some k_ ≠ (cI : Value).ownBlock) cV eo) ∧ Aside0 (Kd.R (Kd.int .u8) 5 w' w.heap.size (fun k_ => some k_ ≠ (cV : Value).ownBlock ∧ some k_ ≠ (cX : Value).ownBlock ∧ some k_ ≠ (cY : Value).ownBlock ∧ some k_ ≠ (cG : Value).ownBlock ∧ some k_ ≠ (cI : Value).ownBlock) cW ep) ∧ Aside0 (Kd.R (Kd.int .u8) 5 w' w.heap.size (fun k_ => some k_ ≠ (cV : Value).ownBlock ∧ some k_ ≠ (cW : Value).ownBlock ∧ some k_ ≠ (cY : Value).ownBlock ∧ some k_ ≠ (cG : Value).ownBlock ∧ some k_ ≠ (cI : Value).ownBlock) cX es) ∧ Aside0 (Kd.R (Kd.int .u8) 5 w' w.heap.size (fun k_ => some k_ ≠ (cV : Value).ownBlock ∧ some k_ ≠ (cW : Value).ownBlock ∧ some k_ ≠ (cX : Value).ownBlock ∧ some k_ ≠ (cG : Value).ownBlock ∧ some k_ ≠ (cI : Value).ownBlock) cY et) ∧ Aside0 (Kd.R (Kd.int .u8) 5 w' w.heap.size (fun k_ => some k_ ≠ (cV : Value).ownBlock ∧ some k_ ≠ (cW : Value).ownBlock ∧ some k_ ≠ (cX : Value).ownBlock ∧ some k_ ≠ (cY : Value).ownBlock ∧ some k_ ≠ (cI : Value).ownBlock) cG gv) ∧ Aside0 (Kd.R (Kd.int .u8) 5 w' w.heap.size (fun k_ => some k_ ≠ (cV : Value).ownBlock ∧ some k_ ≠ (cW : Value).ownBlock ∧ some k_ ≠ (cX : Value).ownBlock ∧ some k_ ≠ (cY : Value).ownBlock ∧ some k_ ≠ (cG : Value).ownBlock) cI cn) ∧ Aside0 (Kd.V (Kd.int .u8) 5 w' w.heap.size (fun k_ => some k_ ≠ (cV : Value).ownBlock ∧ some k_ ≠ (cW : Value).ownBlock ∧ some k_ ≠ (cX : Value).ownBlock ∧ some k_ ≠ (cY : Value).ownBlock ∧ some k_ ≠ (cG : Value).ownBlock ∧ some k_ ≠ (cI : Value).ownBlock ∧ k_ ≠ br ∧ k_ ≠ bp ∧ k_ ≠ bm ∧ k_ ≠ bc ∧ k_ ≠ aC) eH iG) ∧ Aside0 (Kd.V (Kd.int .u8) 5 w' w.heap.size (fun k_ => some k_ ≠ (cV : Value).ownBlock ∧ some k_ ≠ (cW : Value).ownBlock ∧ some k_ ≠ (cX : Value).ownBlock ∧ some k_ ≠ (cY : Value).ownBlock ∧ some k_ ≠ (cG : Value).ownBlock ∧ some k_ ≠ (cI : Value).ownBlock ∧ k_ ≠ br ∧ k_ ≠ bp ∧ k_ ≠ bm ∧ k_ ≠ bc ∧ k_ ≠ aC) eI iH) ∧ Aside0 (w'.heap[br]? = some (.cells #[.int .i64 a0_0, .int .i64 a0_1] 52 (0, 0))) ∧ Aside0 (w'.heap[bp]? = some (.cells #[.int .i64 cf, .int .i64 cj, .int .u64 bQ, cV, cW] 33 (0, 0))) ∧ Aside0 (w'.heap[bm]? = some (.cells #[.int .i64 cg, .int .i64 ck, .int .u64 cp, cX, cY] 33 (0, 0))) ∧ Aside0 (w'.heap[bc]? = some (.cells #[.int .i64 cy, .int .i64 cP, .int .u64 cR, cG, cI] 33 (0, 0))) ∧ Aside0 (w'.heap[aC]? = some (.cells #[.int .i64 a0_0, .int .i64 a0_1, .int .u64 a1, eH, eI] 33 (0, 0))) ∧ Aside0 (Below w.heap.size w w'))
       case atStart => exact ⟨(0), (fD), (fE), (fF), (fG), (cm), (fH), (hP), (hQ), (cV), (cW), (cX), (cY), (.slice mv cm.length co100), (cI), (eH), (eI), p21z, H', ⟨Nat.le_refl _⟩, ⟨p50z⟩, ⟨p51z⟩, ⟨p52z⟩, ⟨p53z⟩, ⟨p184z⟩, ⟨p185z⟩, ⟨p186z⟩, ⟨p187z⟩, ⟨p23z⟩, ⟨p34z⟩, ⟨p40z⟩, ⟨p65z⟩, ⟨p66z⟩, ⟨p15z⟩⟩
       case round =>
        clear H'
        try clear c84b0
        try clear hcz99_0
        try clear hcz99_1
        try clear hcz99_2
        try clear hcz99_3
        try clear hcz99_4
        try clear hfz99_0
        try clear hfz99_1
        try clear hfz99_2
        try clear hfz99_3
        try clear hfz99_4
        obtain ⟨dn, eo, ep, es, et, gv, cn, iG, iH, cV, cW, cX, cY, cG, cI, eH, eI, rfl, HA, HK4, aQ, aT, aU, aV, bM, bO, d5, d6, aZ, aD, aJ, av, bf, HB⟩ := hrel
        cases gk with
        | zero => exact absurd HA.out (by simp [a7.l1])
        | succ k4 =>
         have H := HA.out
         clear HA
         simp only [a7.l1] at H
         by_cases c101 : dn < (cn.length : Int)
         case neg =>
          rw [if_neg c101] at H
          have c101b0 : decide (dn < (cn.length : Int)) = false := decide_eq_false c101
          clear c101
          replace H := Option.bind_eq_some_iff.mp H
          obtain ⟨t542, A1120, H⟩ := H
          replace H : (if t542 = true then ((ac.f).bind fun kx => (some kx)) else (none)) = some r := H
          have A112 := Aside0.mk A1120
          clear A1120
          by_cases c113 : t542 = true
          case neg =>
           replace c113 := Bool.eq_false_iff.mpr c113
           subst c113
           have H1 : (none) = some r := p42z
           clear H
           have H := H1
           clear H1
           exact absurd H (by simp)
          subst c113
          have H1 : ((ac.f).bind fun kx => (some kx)) = some r := p99z
          clear H
          have H := H1
          clear H1
          replace H := Option.bind_eq_some_iff.mp H
          obtain ⟨kx, A1140, H⟩ := H
          replace H : (some kx) = some r := H
          have A114 := Aside0.mk A1140
          clear A1140
          obtain rfl := Option.some.inj H
          have hnb115 := NB528_488.out
          have hnc115 := NB488_528.out
          have hnb116 := NB528_505.out
          have hnc116 := NB505_528.out
          have hnb117 := NB528_516.out
          have hnc117 := NB516_528.out
          have hnb118 := NB528_529.out
          have hnc118 := NB529_528.out
          have hcz119_0 : wr.cell? ⟨bc, 0, none⟩ = some (.int .i64 cy) := (blk_cell av.out 0).trans rfl
          have hcz119_1 : wr.cell? ⟨bc, 1, none⟩ = some (.int .i64 cP) := (blk_cell av.out 1).trans rfl
          have hcz119_2 : wr.cell? ⟨bc, 2, none⟩ = some (.int .u64 cR) := (blk_cell av.out 2).trans rfl
          have hcz119_3 : wr.cell? ⟨bc, 3, none⟩ = some (cG) := (blk_cell av.out 3).trans rfl
          have hcz119_4 : wr.cell? ⟨bc, 4, none⟩ = some (cI) := (blk_cell av.out 4).trans rfl
          have hfz119_0 := blk_frozen av.out 0
          have hfz119_1 := blk_frozen av.out 1
          have hfz119_2 := blk_frozen av.out 2
          have hfz119_3 := blk_frozen av.out 3
          have hfz119_4 := blk_frozen av.out 4
          obtain ⟨Ao120, co120, eo120⟩ := Kd.R_slice bO.out
          subst eo120
          have hnb121 := NB505_488.out
          have hnc121 := NB488_505.out
          have hnb122 := NB505_516.out
          have hnc122 := NB516_505.out
          have hnb123 := NB505_529.out
          have hnc123 := NB529_505.out
          have hcz124_0 : wr.cell? ⟨bp, 0, none⟩ = some (.int .i64 cf) := (blk_cell aD.out 0).trans rfl
          have hcz124_1 : wr.cell? ⟨bp, 1, none⟩ = some (.int .i64 cj) := (blk_cell aD.out 1).trans rfl
          have hcz124_2 : wr.cell? ⟨bp, 2, none⟩ = some (.int .u64 bQ) := (blk_cell aD.out 2).trans rfl
          have hcz124_3 : wr.cell? ⟨bp, 3, none⟩ = some (cV) := (blk_cell aD.out 3).trans rfl
          have hcz124_4 : wr.cell? ⟨bp, 4, none⟩ = some (cW) := (blk_cell aD.out 4).trans rfl
          have hfz124_0 := blk_frozen aD.out 0
          have hfz124_1 := blk_frozen aD.out 1
          have hfz124_2 := blk_frozen aD.out 2
          have hfz124_3 := blk_frozen aD.out 3
          have hfz124_4 := blk_frozen aD.out 4
          have hnb125 := NB516_488.out
          have hnc125 := NB488_516.out
          have hnb126 := NB516_529.out
          have hnc126 := NB529_516.out
          have hcz127_0 : wr.cell? ⟨bm, 0, none⟩ = some (.int .i64 cg) := (blk_cell aJ.out 0).trans rfl
          have hcz127_1 : wr.cell? ⟨bm, 1, none⟩ = some (.int .i64 ck) := (blk_cell aJ.out 1).trans rfl
          have hcz127_2 : wr.cell? ⟨bm, 2, none⟩ = some (.int .u64 cp) := (blk_cell aJ.out 2).trans rfl
          have hcz127_3 : wr.cell? ⟨bm, 3, none⟩ = some (cX) := (blk_cell aJ.out 3).trans rfl
          have hcz127_4 : wr.cell? ⟨bm, 4, none⟩ = some (cY) := (blk_cell aJ.out 4).trans rfl
          have hfz127_0 := blk_frozen aJ.out 0
          have hfz127_1 := blk_frozen aJ.out 1
          have hfz127_2 := blk_frozen aJ.out 2
          have hfz127_3 := blk_frozen aJ.out 3
          have hfz127_4 := blk_frozen aJ.out 4
          obtain ⟨mw, co128, eo128⟩ := Kd.R_slice aQ.out
          subst eo128
          obtain ⟨jP, co129, eo129⟩ := Kd.R_slice aT.out
          subst eo129
          obtain ⟨my, co130, eo130⟩ := Kd.R_slice aU.out
          subst eo130
          obtain ⟨mz, co131, eo131⟩ := Kd.R_slice aV.out
          subst eo131
          go_wp2_with (first | ((with_reducible refine gate_callee (f := 28) rfl ?_); refine goesL_ (some 134) rfl rfl Try.func28 p16z rfl #[.agg #[.int .i64 cf, .int .i64 cj, .int .u64 bQ, .slice mw eo.length co128, .slice jP ep.length co129], .agg #[.int .i64 cg, .int .i64 ck, .int .u64 cp, .slice my es.length co130, .slice mz et.length co131]] rfl p2z ?_; (with_reducible refine (ai.calls cf cj bQ _ _ eo _ _ ep cg ck cp _ _ es _ _ et true _ ?side1 ?side2 ?side3 ?side4 ?side5 ?side6 ?side7 ?side8 A112.out).mono ?_); (case side1 => exact p148z); (case side2 => exact (Kd.R_reads' aQ.out).2.1); (case side3 => exact p149z); (case side4 => exact (Kd.R_reads' aT.out).2.1); (case side5 => exact p174z); (case side6 => exact (Kd.R_reads' aU.out).2.1); (case side7 => exact p175z); (case side8 => exact (Kd.R_reads' aV.out).2.1); rintro e w132 ⟨rfl, hb⟩; refine ⟨_, rfl, ?_⟩; have n0_ := Aside0.mk (Kd.R_below p50z hb); have n1_ := Aside0.mk (Kd.R_below p51z hb); have n2_ := Aside0.mk (Kd.R_below p52z hb); have n3_ := Aside0.mk (Kd.R_below p53z hb); have n4_ := Aside0.mk (Kd.R_below p184z hb); have n5_ := Aside0.mk (Kd.R_below p185z hb); have n6_ := Aside0.mk (Kd.V_below p186z hb); have n7_ := Aside0.mk (Kd.V_below p187z hb); have n8_ := Aside0.mk (blk_below (g := br) (o := .cells #[.int .i64 a0_0, .int .i64 a0_1] 52 (0, 0)) p23z hb); have n9_ := Aside0.mk (blk_below (g := bp) (o := .cells #[.int .i64 cf, .int .i64 cj, .int .u64 bQ, .slice mw eo.length co128, .slice jP ep.length co129] 33 (0, 0)) p34z hb); have ce := Aside0.mk (blk_below (g := bm) (o := .cells #[.int .i64 cg, .int .i64 ck, .int .u64 cp, .slice my es.length co130, .slice mz et.length co131] 33 (0, 0)) p40z hb); have dp := Aside0.mk (blk_below (g := bc) (o := .cells #[.int .i64 cy, .int .i64 cP, .int .u64 cR, cG, .slice Ao120 cn.length co120] 33 (0, 0)) p65z hb); have dq := Aside0.mk (blk_below (g := aC) (o := .cells #[.int .i64 a0_0, .int .i64 a0_1, .int .u64 a1, eH, eI] 33 (0, 0)) p66z hb); have gu := Aside0.mk (below_step p15z hb); clear aQ; clear aT; clear aU; clear aV; clear bM; clear bO; clear d5; clear d6; clear aZ; clear aD; clear aJ; clear av; clear bf; clear HB; have aQ := n0_; have aT := n1_; have aU := n2_; have aV := n3_; have bM := n4_; have bO := n5_; have d5 := n6_; have d6 := n7_; have aZ := n8_; have aD := n9_; have aJ := ce; have av := dp; have bf := dq; have HB := gu; clear n0_ n1_ n2_ n3_ n4_ n5_ n6_ n7_ n8_ n9_ ce dp dq gu; (try clear hb)) | (go_at_call 22; (with_reducible refine (ac.calls  kx _ A114.out).mono ?_); rintro e w133 ⟨rfl, hb⟩; have n0_ := Aside0.mk (Kd.R_below p50z hb); have n1_ := Aside0.mk (Kd.R_below p51z hb); have n2_ := Aside0.mk (Kd.R_below p52z hb); have n3_ := Aside0.mk (Kd.R_below p53z hb); have n4_ := Aside0.mk (Kd.R_below p184z hb); have n5_ := Aside0.mk (Kd.R_below p185z hb); have n6_ := Aside0.mk (Kd.V_below p186z hb); have n7_ := Aside0.mk (Kd.V_below p187z hb); have n8_ := Aside0.mk (blk_below (g := br) (o := .cells #[.int .i64 a0_0, .int .i64 a0_1] 52 (0, 0)) p23z hb); have n9_ := Aside0.mk (blk_below (g := bp) (o := .cells #[.int .i64 cf, .int .i64 cj, .int .u64 bQ, .slice mw eo.length co128, .slice jP ep.length co129] 33 (0, 0)) p34z hb); have ce := Aside0.mk (blk_below (g := bm) (o := .cells #[.int .i64 cg, .int .i64 ck, .int .u64 cp, .slice my es.length co130, .slice mz et.length co131] 33 (0, 0)) p40z hb); have dp := Aside0.mk (blk_below (g := bc) (o := .cells #[.int .i64 cy, .int .i64 cP, .int .u64 cR, cG, .slice Ao120 cn.length co120] 33 (0, 0)) p65z hb); have dq := Aside0.mk (blk_below (g := aC) (o := .cells #[.int .i64 a0_0, .int .i64 a0_1, .int .u64 a1, eH, eI] 33 (0, 0)) p66z hb); have gu := Aside0.mk (below_step p15z hb); clear aQ; clear aT; clear aU; clear aV; clear bM; clear bO; clear d5; clear d6; clear aZ; clear aD; clear aJ; clear av; clear bf; clear HB; have aQ := n0_; have aT := n1_; have aU := n2_; have aV := n3_; have bM := n4_; have bO := n5_; have d5 := n6_; have d6 := n7_; have aZ := n8_; have aD := n9_; have aJ := ce; have av := dp; have bf := dq; have HB := gu; clear n0_ n1_ n2_ n3_ n4_ n5_ n6_ n7_ n8_ n9_ ce dp dq gu; (try clear hb)))
          go_ret
          exact ⟨p6z, p15z⟩
         rw [if_pos c101] at H
         have c101b0 : decide (dn < (cn.length : Int)) = true := decide_eq_true c101
         clear c101
         by_cases c102 : 0 ≤ dn
         case neg =>
          rw [if_neg c102] at H
          exact absurd H (by simp)
         rw [if_pos c102] at H
         have c102b0 : decide (0 ≤ dn) = true := decide_eq_true c102
         clear c102
         obtain ⟨y541, hy541⟩ : ∃ y_ : List Int, y_ = (cn.set (dn : Int).toNat (Go.bits .xor .u8 (rd cn dn) 1)) := ⟨_, rfl⟩
         replace H : (a7.l1 k4 (wrap64 (dn + 1)) cf cj bQ eo ep cg ck cp es et cy cP cR gv y541) = some r := by first | (rw [hy541]; with_reducible exact H) | (have H2_ := (Option.bind_some _ _).symm.trans H; rw [hy541]; with_reducible exact H2_) | (have H2_ := (Option.bind_some _ _).symm.trans H; with_reducible exact H2_) | with_reducible exact H | (rw [hy541]; exact H) | exact H
         have Ny541 := Aside0.mk hy541
         clear hy541
         have H' := Aside0.mk H
         clear H
         have hnb104 := NB528_488.out
         have hnc104 := NB488_528.out
         have hnb105 := NB528_505.out
         have hnc105 := NB505_528.out
         have hnb106 := NB528_516.out
         have hnc106 := NB516_528.out
         have hnb107 := NB528_529.out
         have hnc107 := NB529_528.out
         have hcz108_0 : wr.cell? ⟨bc, 0, none⟩ = some (.int .i64 cy) := (blk_cell av.out 0).trans rfl
         have hcz108_1 : wr.cell? ⟨bc, 1, none⟩ = some (.int .i64 cP) := (blk_cell av.out 1).trans rfl
         have hcz108_2 : wr.cell? ⟨bc, 2, none⟩ = some (.int .u64 cR) := (blk_cell av.out 2).trans rfl
         have hcz108_3 : wr.cell? ⟨bc, 3, none⟩ = some (cG) := (blk_cell av.out 3).trans rfl
         have hcz108_4 : wr.cell? ⟨bc, 4, none⟩ = some (cI) := (blk_cell av.out 4).trans rfl
         have hfz108_0 := blk_frozen av.out 0
         have hfz108_1 := blk_frozen av.out 1
         have hfz108_2 := blk_frozen av.out 2
         have hfz108_3 := blk_frozen av.out 3
         have hfz108_4 := blk_frozen av.out 4
         obtain ⟨Ao109, co109, eo109⟩ := Kd.R_slice bO.out
         subst eo109
         try go_wp2
         have n0_ := Aside0.mk (Kd.R_drew aQ.out)
         have n1_ := Aside0.mk (Kd.R_drew aT.out)
         have n2_ := Aside0.mk (Kd.R_drew aU.out)
         have n3_ := Aside0.mk (Kd.R_drew aV.out)
         have n4_ := Aside0.mk (Kd.R_drew bM.out)
         have n5_ := Aside0.mk (Kd.R_drew bO.out)
         have n6_ := Aside0.mk (Kd.V_drew d5.out)
         have n7_ := Aside0.mk (Kd.V_drew d6.out)
         have n8_ := Aside0.mk (blk_drew aZ.out)
         have n9_ := Aside0.mk (blk_drew aD.out)
         have ce := Aside0.mk (blk_drew aJ.out)
         have dp := Aside0.mk (blk_drew av.out)
         have dq := Aside0.mk (blk_drew bf.out)
         have gu := Aside0.mk (below_drew1 HB.out)
         clear aQ
         clear aT
         clear aU
         clear aV
         clear bM
         clear bO
         clear d5
         clear d6
         clear aZ
         clear aD
         clear aJ
         clear av
         clear bf
         clear HB
         have aQ := n0_
         have aT := n1_
         have aU := n2_
         have aV := n3_
         have bM := n4_
         have bO := n5_
         have d5 := n6_
         have d6 := n7_
         have aZ := n8_
         have aD := n9_
         have aJ := ce
         have av := dp
         have bf := dq
         have HB := gu
         clear n0_ n1_ n2_ n3_ n4_ n5_ n6_ n7_ n8_ n9_ ce dp dq gu
         have p540 : 0 ≤ (dn : Int) := of_decide_eq_true p10z
         have q540 : dn < (cn.length : Int) := of_decide_eq_true p10z
         obtain ⟨ad540, e540, hx540_0⟩ := Kd.at_int (Kd.R_reads' bO.out).2.2 dn p540 q540
         cases e540
         replace p540 := eq_true p540
         replace q540 := eq_true q540
         have p103 : 0 ≤ (dn : Int) := of_decide_eq_true p10z
         have q103 : (dn : Int) < ((cn.length : Int) : Int) := of_decide_eq_true p10z
         obtain ⟨go103, co103, eo103, bZ, gl103, cl103, HG103⟩ := Kd.R_form bO.out (by omega)
         (first | cases eo103 | (injection eo103 with ea_ en_ ec_; (first | subst ea_ | (injection ea_ with ea_; subst ea_)); subst ec_; clear en_))
         have GB103 := Aside0.mk bZ
         have GG103 := Aside0.mk HG103
         clear bZ gl103 HG103
         (first | simp only [add_plain] at hx540_0 | skip)
         obtain ⟨hx103_0, hf103_0⟩ := Kd.R_celln 0 bO.out (dn : Int) p103 q103
         replace p103 := eq_true p103
         replace q103 := eq_true q103
         have HP111 := Kd.R_putn bO.out (dn : Int) (Go.bits .xor .u8 (rd cn dn) 1)
         rw [← Ny541.out] at HP111
         have HQ111 := Aside0.mk HP111
         clear HP111
         refine start_ (n := 11) (S := fun w' => w'.cell? ⟨bc, 0, none⟩ = some (.int .i64 cy) ∧ w'.cell? ⟨bc, 1, none⟩ = some (.int .i64 cP) ∧ w'.cell? ⟨bc, 2, none⟩ = some (.int .u64 cR) ∧ w'.cell? ⟨bc, 3, none⟩ = some (cG) ∧ w'.cell? ⟨bc, 4, none⟩ = some (.slice (some ⟨go103, 0, none⟩) cn.length co109) ∧ w'.cell? ⟨go103, (dn).toNat, none⟩ = some (.int .u8 (rd cn dn))) (ds := [10]) (tf 0 11) p16z rfl rfl ⟨(blk_cell av.out 0).trans rfl, (blk_cell av.out 1).trans rfl, (blk_cell av.out 2).trans rfl, (blk_cell av.out 3).trans rfl, (blk_cell av.out 4).trans rfl, hx540_0⟩ (fun hHeld => ?_); refine with_tabW a7.tab18 a7.bits18 (fun HT_ HW_ => ?_)
         generalize wr.drew = w110 at aQ aT aU aV bM bO d5 d6 aZ aD aJ av bf HB GG103 HQ111 hf103_0 hx103_0 hx540_0 hHeld ⊢
         refine pure_ (i := 0) (N := some 122) (v := ?_) (a' := ?_) (tf 1 10) rfl rfl (any_of HT_.out p16z) (fun _ _ _ h => h) (Or.inl ⟨by rfl, ?_⟩) ?_ ?_
         rotate_left
         ·intro w'
          go_simp
          with_reducible rfl
         rotate_left
         ·exact p1z
         refine pure_ (i := 2) (N := some 124) (v := ?_) (a' := ?_) (tfs true [1, 1, 1, 8]) rfl rfl (any_of HT_.out p16z) (fun _ _ _ h => h) (Or.inl ⟨by rfl, ?_⟩) ?_ ?_
         rotate_left
         ·intro w'
          go_simp
          with_reducible rfl
         rotate_left
         ·exact p1z
         refine pure_ (i := 3) (N := some 125) (v := ?_) (a' := ?_) (tfs true [1, 1, 2, 7]) rfl rfl (any_of HT_.out p16z) (fun _ _ _ h => h) (Or.inl ⟨by rfl, ?_⟩) ?_ ?_
         rotate_left
         ·intro w'
          go_simp
          with_reducible rfl
         rotate_left
         ·exact p1z
         refine pure_ (i := 5) (N := some 127) (v := ?_) (a' := ?_) (tfs true [1, 1, 2, 1, 1, 5]) rfl rfl (any_of HT_.out p16z) (fun _ _ _ h => h) (Or.inl ⟨by rfl, ?_⟩) ?_ ?_
         rotate_left
         ·intro w'
          go_simp
          with_reducible rfl
         rotate_left
         ·exact p1z
         refine take_ (i := 1) (N := some 123) (v := ?_) (a' := ?_) (tfs true [4, 1, 1, 5]) rfl rfl (take_ofW HT_.out HW_.out p16z) (fun _ _ _ h => h) (Or.inl ⟨by rfl, ?_⟩) hHeld ?_ ?_
         rotate_left
         ·rintro w' ⟨s0, s1, s2, s3, s4, s5⟩
          go_simp
          with_reducible rfl
         rotate_left
         ·exact p1z
         refine take_ (i := 4) (N := some 126) (v := ?_) (a' := ?_) (tf 6 5) rfl rfl (take_ofW HT_.out HW_.out p16z) (fun _ _ _ h => h) (Or.inl ⟨by rfl, ?_⟩) hHeld ?_ ?_
         rotate_left
         ·rintro w' ⟨s0, s1, s2, s3, s4, s5⟩
          go_simp
          with_reducible rfl
         rotate_left
         ·exact p1z
         refine pure_ (i := 6) (N := some 128) (v := ?_) (a' := ?_) (tf 7 4) rfl rfl (any_of HT_.out p16z) (fun _ _ _ h => h) (Or.inl ⟨by rfl, ?_⟩) ?_ ?_
         rotate_left
         ·intro w'
          go_simp
          with_reducible rfl
         rotate_left
         ·exact p1z
         refine take_ (i := 7) (N := some 129) (v := ?_) (a' := ?_) (tf 8 3) rfl rfl (take_ofW HT_.out HW_.out p16z) (fun _ _ _ h => h) (Or.inl ⟨by rfl, ?_⟩) hHeld ?_ ?_
         rotate_left
         ·rintro w' ⟨s0, s1, s2, s3, s4, s5⟩
          go_simp
          with_reducible rfl
         rotate_left
         ·exact p1z
         refine pure_ (i := 8) (N := some 130) (v := ?_) (a' := ?_) (tf 9 2) rfl rfl (any_of HT_.out p16z) (fun _ _ _ h => h) (Or.inl ⟨by rfl, ?_⟩) ?_ ?_
         rotate_left
         ·intro w'
          go_simp
          with_reducible rfl
         rotate_left
         ·exact p1z
         refine pure_ (i := 9) (N := some 131) (v := ?_) (a' := ?_) (tf 10 1) rfl rfl (any_of HT_.out p16z) (fun _ _ _ h => h) (Or.inl ⟨by rfl, ?_⟩) ?_ ?_
         rotate_left
         ·intro w'
          go_simp
          with_reducible rfl
         rotate_left
         ·exact p1z
         refine last_ (i := 10) (N := none) (tf 11 0) rfl rfl (one_of HT_.out p16z) (by decide) (fun K hK => ?_)
         refine skip_ (w1 := ?_) (by rfl) rfl ?_ ?_
         rotate_left
         ·go_simp
          rfl
         refine hK.out _ _ ?_
         clear hK K
         refine done_ (done_of HT_.out p16z) ?_
         try go_wp2
         go_roundg k4
         case measure => have := HJ7.out; have := HJ40.out; have := HK3.out; have := HK4.out; omega
         case rel => exact ⟨(wrap64 (dn + 1)), (eo), (ep), (es), (et), (gv), (y541), (iG), (iH), (cV), (cW), (cX), (cY), (cG), (.slice (some ⟨go103, 0, none⟩) cn.length co109), (eH), (eI), p21z, H', ⟨by have := HJ7.out; have := HJ40.out; have := HK3.out; have := HK4.out; omega⟩, ⟨by (with_reducible repeat (first | apply Kd.R_alloc | apply Kd.R_drewN | apply Kd.R_drew)); exact Kd.R_mono (Kd.R_far (p := ⟨go103, (dn : Int).toNat, none⟩) (Kd.R_mono aQ.out (fun k_ hk => (⟨hk, fun e_ => hk.2.2.2.2 p203z⟩ : _ ∧ k_ ≠ go103))) (fun _ hk => hk.2) (.int .u8 (Go.bits .xor .u8 (rd cn dn) 1))) (fun _ hk => ⟨hk.1.1, ⟨hk.1.2.1, ⟨hk.1.2.2.1, ⟨hk.1.2.2.2.1, hk.1.2.2.2.2⟩⟩⟩⟩)⟩, ⟨by (with_reducible repeat (first | apply Kd.R_alloc | apply Kd.R_drewN | apply Kd.R_drew)); exact Kd.R_mono (Kd.R_far (p := ⟨go103, (dn : Int).toNat, none⟩) (Kd.R_mono aT.out (fun k_ hk => (⟨hk, fun e_ => hk.2.2.2.2 p203z⟩ : _ ∧ k_ ≠ go103))) (fun _ hk => hk.2) (.int .u8 (Go.bits .xor .u8 (rd cn dn) 1))) (fun _ hk => ⟨hk.1.1, ⟨hk.1.2.1, ⟨hk.1.2.2.1, ⟨hk.1.2.2.2.1, hk.1.2.2.2.2⟩⟩⟩⟩)⟩, ⟨by (with_reducible repeat (first | apply Kd.R_alloc | apply Kd.R_drewN | apply Kd.R_drew)); exact Kd.R_mono (Kd.R_far (p := ⟨go103, (dn : Int).toNat, none⟩) (Kd.R_mono aU.out (fun k_ hk => (⟨hk, fun e_ => hk.2.2.2.2 p203z⟩ : _ ∧ k_ ≠ go103))) (fun _ hk => hk.2) (.int .u8 (Go.bits .xor .u8 (rd cn dn) 1))) (fun _ hk => ⟨hk.1.1, ⟨hk.1.2.1, ⟨hk.1.2.2.1, ⟨hk.1.2.2.2.1, hk.1.2.2.2.2⟩⟩⟩⟩)⟩, ⟨by (with_reducible repeat (first | apply Kd.R_alloc | apply Kd.R_drewN | apply Kd.R_drew)); exact Kd.R_mono (Kd.R_far (p := ⟨go103, (dn : Int).toNat, none⟩) (Kd.R_mono aV.out (fun k_ hk => (⟨hk, fun e_ => hk.2.2.2.2 p203z⟩ : _ ∧ k_ ≠ go103))) (fun _ hk => hk.2) (.int .u8 (Go.bits .xor .u8 (rd cn dn) 1))) (fun _ hk => ⟨hk.1.1, ⟨hk.1.2.1, ⟨hk.1.2.2.1, ⟨hk.1.2.2.2.1, hk.1.2.2.2.2⟩⟩⟩⟩)⟩, ⟨by (with_reducible repeat (first | apply Kd.R_alloc | apply Kd.R_drewN | apply Kd.R_drew)); exact Kd.R_mono (Kd.R_far (p := ⟨go103, (dn : Int).toNat, none⟩) (Kd.R_mono bM.out (fun k_ hk => (⟨hk, fun e_ => hk.2.2.2.2 p203z⟩ : _ ∧ k_ ≠ go103))) (fun _ hk => hk.2) (.int .u8 (Go.bits .xor .u8 (rd cn dn) 1))) (fun _ hk => ⟨hk.1.1, ⟨hk.1.2.1, ⟨hk.1.2.2.1, ⟨hk.1.2.2.2.1, hk.1.2.2.2.2⟩⟩⟩⟩)⟩, ⟨q0z HQ111.out⟩, ⟨by (with_reducible repeat (first | apply Kd.V_alloc | apply Kd.V_drewN | apply Kd.V_drew)); exact Kd.V_mono (Kd.V_far (p := ⟨go103, (dn : Int).toNat, none⟩) (Kd.V_mono d5.out (fun k_ hk => (⟨hk, fun e_ => hk.2.2.2.2.2.1 p203z⟩ : _ ∧ k_ ≠ go103))) (fun _ hk => hk.2) (.int .u8 (Go.bits .xor .u8 (rd cn dn) 1))) (fun _ hk => ⟨hk.1.1, ⟨hk.1.2.1, ⟨hk.1.2.2.1, ⟨hk.1.2.2.2.1, ⟨hk.1.2.2.2.2.1, ⟨hk.1.2.2.2.2.2.1, ⟨hk.1.2.2.2.2.2.2.1, ⟨hk.1.2.2.2.2.2.2.2.1, ⟨hk.1.2.2.2.2.2.2.2.2.1, ⟨hk.1.2.2.2.2.2.2.2.2.2.1, hk.1.2.2.2.2.2.2.2.2.2.2⟩⟩⟩⟩⟩⟩⟩⟩⟩⟩)⟩, ⟨by (with_reducible repeat (first | apply Kd.V_alloc | apply Kd.V_drewN | apply Kd.V_drew)); exact Kd.V_mono (Kd.V_far (p := ⟨go103, (dn : Int).toNat, none⟩) (Kd.V_mono d6.out (fun k_ hk => (⟨hk, fun e_ => hk.2.2.2.2.2.1 p203z⟩ : _ ∧ k_ ≠ go103))) (fun _ hk => hk.2) (.int .u8 (Go.bits .xor .u8 (rd cn dn) 1))) (fun _ hk => ⟨hk.1.1, ⟨hk.1.2.1, ⟨hk.1.2.2.1, ⟨hk.1.2.2.2.1, ⟨hk.1.2.2.2.2.1, ⟨hk.1.2.2.2.2.2.1, ⟨hk.1.2.2.2.2.2.2.1, ⟨hk.1.2.2.2.2.2.2.2.1, ⟨hk.1.2.2.2.2.2.2.2.2.1, ⟨hk.1.2.2.2.2.2.2.2.2.2.1, hk.1.2.2.2.2.2.2.2.2.2.2⟩⟩⟩⟩⟩⟩⟩⟩⟩⟩)⟩, ⟨by (with_reducible repeat (first | refine blk_drewN ?_ _ | refine blk_drew ?_ | refine blk_alloc ?_ _)); refine blk_far ?_ (by have h_ := Kd.R_ne bO.out aZ.out (by decide); intro e_; exact h_ p203z) _; (with_reducible repeat (first | refine blk_drewN ?_ _ | refine blk_drew ?_ | refine blk_alloc ?_ _)); exact aZ.out⟩, ⟨by (with_reducible repeat (first | refine blk_drewN ?_ _ | refine blk_drew ?_ | refine blk_alloc ?_ _)); refine blk_far ?_ (by have h_ := Kd.R_ne bO.out aD.out (by decide); intro e_; exact h_ p203z) _; (with_reducible repeat (first | refine blk_drewN ?_ _ | refine blk_drew ?_ | refine blk_alloc ?_ _)); exact aD.out⟩, ⟨by (with_reducible repeat (first | refine blk_drewN ?_ _ | refine blk_drew ?_ | refine blk_alloc ?_ _)); refine blk_far ?_ (by have h_ := Kd.R_ne bO.out aJ.out (by decide); intro e_; exact h_ p203z) _; (with_reducible repeat (first | refine blk_drewN ?_ _ | refine blk_drew ?_ | refine blk_alloc ?_ _)); exact aJ.out⟩, ⟨by (with_reducible repeat (first | refine blk_drewN ?_ _ | refine blk_drew ?_ | refine blk_alloc ?_ _)); refine blk_far ?_ (by have h_ := Kd.R_ne bO.out av.out (by decide); intro e_; exact h_ p203z) _; (with_reducible repeat (first | refine blk_drewN ?_ _ | refine blk_drew ?_ | refine blk_alloc ?_ _)); exact av.out⟩, ⟨by (with_reducible repeat (first | refine blk_drewN ?_ _ | refine blk_drew ?_ | refine blk_alloc ?_ _)); refine blk_far ?_ (by have h_ := Kd.R_ne bO.out bf.out (by decide); intro e_; exact h_ p203z) _; (with_reducible repeat (first | refine blk_drewN ?_ _ | refine blk_drew ?_ | refine blk_alloc ?_ _)); exact bf.out⟩, ⟨by repeat (first | (with_reducible first | exact HB.out | apply below_alloc | apply pw_below_drewN | apply below_drew1 | refine below_set ?_ GB103.out | refine below_set ?_ iu.out | refine below_set ?_ jO.out | refine below_set ?_ kB.out | refine below_set ?_ ls.out | refine below_set ?_ mu.out) | exact HB.out)⟩⟩
end Go.Proofs.Ytbclejgljegfmaa.PAll
