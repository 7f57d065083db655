-- Written by this repo's program wip/tools/pr.py (over the kit's print) out of the translation. Not trusted: Lean checks it.
import Derived.Test.YtbclejgljegfmaaAp
import Derived.Test.YtbclejgljegfmaaPAllx0
import Derived.Test.YtbclejgljegfmaaGA
import Derived.Test.YtbclejgljegfmaaGE
import Derived.Test.YtbclejgljegfmaaGF
import Derived.Test.YtbclejgljegfmaaGG
import Derived.Test.YtbclejgljegfmaaHandNext
import Derived.Test.YtbclejgljegfmaaHandWorks
set_option maxHeartbeats 8000000
set_option maxRecDepth 100000
namespace Go.Proofs.Ytbclejgljegfmaa.PAll
open Go.Proofs.Ytbclejgljegfmaa.Hand
open Go.RowKit Go.Proofs.YtbclejgljegfmaaW.PrintWords Go.Proofs.YtbclejgljegfmaaW.PrintLast Go.Proofs.YtbclejgljegfmaaW.PrintMore
attribute [local go_sem] max2_int min2_int max_two min_two max_three min_three max_four min_four   -- for this text's walks alone
set_option linter.unusedVariables false
set_option linter.unusedSimpArgs false

/-! ### a8: function 4 -/
mutual
def a8.j0 : Nat → List Int → List (S33) → List (S33) → Bool → Int → Int → Int → List Int → List Int → Int → Int → Int → List Int → List Int → Option (Bool)
  | 0, _, _, _, _, _, _, _, _, _, _, _, _, _, _ => none
  | k + 1, x3, x10, x12, x65, iZ, j3, j4, j5, j6, j7, j8, j9, ja, jb => if x65 = true then (none) else (a8.l0 k x3 x10 x12 0 iZ j3 j4 j5 j6 j7 j8 j9 ja jb)
def a8.l0 : Nat → List Int → List (S33) → List (S33) → Int → Int → Int → Int → List Int → List Int → Int → Int → Int → List Int → List Int → Option (Bool)
  | 0, _, _, _, _, _, _, _, _, _, _, _, _, _, _ => none
  | k + 1, x3, x10, x12, x14, iZ, j3, j4, j5, j6, j7, j8, j9, ja, jb => if x14 < (x3.length : Int) then (if 0 ≤ x14 then (a8.l0 k (x3.set (x14 : Int).toNat (Go.bits .xor .u8 (rd x3 x14) 85)) x10 x12 (wrap64 (x14 + 1)) iZ j3 j4 j5 j6 j7 j8 j9 ja jb) else (none)) else ((ai.f iZ j3 j4 j5 j6 j7 j8 j9 ja jb).bind fun t324 => (if t324 = true then ((ak.f k x10 x12).bind fun kk => (if kk = true then ((ac.f).bind fun iN => (some iN)) else (none))) else (none)))
end
def a8.f (k : Nat) (l0 : List Int) : Option (Bool) := (bA.f l0).bind fun fg => ((ag.f fg).bind fun bC => ((wire_Next.f bC).bind fun aM => ((aa.f k fg).bind fun aq => ((aN.f k bC).bind fun cJ => ((aE.f k fg).bind fun ch => ((ai.f aM.1 aM.2.1 aM.2.2.1 aM.2.2.2.1 aM.2.2.2.2.1 aq.1 aq.2.1 aq.2.2.1 aq.2.2.2.1 aq.2.2.2.2.1).bind fun gL => (if gL = true then (if aM.2.2.2.2.2.1 = aq.2.2.2.2.2.1 then (if aM.2.2.2.2.2.2 = aq.2.2.2.2.2.2 then ((ak.f k cJ.1 ch.1).bind fun fW => (if fW = true then (a8.j0 k bC cJ.1 ch.1 (cJ.2 != ch.2) aM.1 aM.2.1 aM.2.2.1 aM.2.2.2.1 aM.2.2.2.2.1 aq.1 aq.2.1 aq.2.2.1 aq.2.2.2.1 aq.2.2.2.2.1) else (a8.j0 k bC cJ.1 ch.1 true aM.1 aM.2.1 aM.2.2.1 aM.2.2.2.1 aM.2.2.2.2.1 aq.1 aq.2.1 aq.2.2.1 aq.2.2.2.1 aq.2.2.2.2.1))) else (a8.j0 k bC cJ.1 ch.1 true aM.1 aM.2.1 aM.2.2.1 aM.2.2.2.1 aM.2.2.2.2.1 aq.1 aq.2.1 aq.2.2.1 aq.2.2.2.1 aq.2.2.2.2.1)) else (a8.j0 k bC cJ.1 ch.1 true aM.1 aM.2.1 aM.2.2.1 aM.2.2.2.1 aM.2.2.2.2.1 aq.1 aq.2.1 aq.2.2.1 aq.2.2.2.1 aq.2.2.2.2.1)) else (a8.j0 k bC cJ.1 ch.1 true aM.1 aM.2.1 aM.2.2.1 aM.2.2.2.1 aM.2.2.2.2.1 aq.1 aq.2.1 aq.2.2.1 aq.2.2.2.1 aq.2.2.2.2.1))))))))
theorem a8.calls (k : Nat) (A0 : Option Addr) (c0 : Nat) (l0 : List Int) (r : Bool) (w : World) (hr0 : Kd.C (Kd.int .u8) w A0 l0.length l0) (hc0 : l0.length ≤ c0) (h : a8.f k l0 = some r) :
 Calls Try.prog 4 #[.slice A0 l0.length c0] w fun e w' => e = .returned (.bool r) ∧ Below w.heap.size w w' := by
 have hu33 := Try.underlying33
 have HR0 := Aside0.mk hr0
 have HC0 := Aside0.mk hc0
 clear hr0 hc0
 have HB := Aside0.mk (Below.refl w.heap.size w)
 have H : ((bA.f l0).bind fun fg => ((ag.f fg).bind fun bC => ((wire_Next.f bC).bind fun aM => ((aa.f k fg).bind fun aq => ((aN.f k bC).bind fun cJ => ((aE.f k fg).bind fun ch => ((ai.f aM.1 aM.2.1 aM.2.2.1 aM.2.2.2.1 aM.2.2.2.2.1 aq.1 aq.2.1 aq.2.2.1 aq.2.2.2.1 aq.2.2.2.2.1).bind fun gL => (if gL = true then (if aM.2.2.2.2.2.1 = aq.2.2.2.2.2.1 then (if aM.2.2.2.2.2.2 = aq.2.2.2.2.2.2 then ((ak.f k cJ.1 ch.1).bind fun fW => (if fW = true then (a8.j0 k bC cJ.1 ch.1 (cJ.2 != ch.2) aM.1 aM.2.1 aM.2.2.1 aM.2.2.2.1 aM.2.2.2.2.1 aq.1 aq.2.1 aq.2.2.1 aq.2.2.2.1 aq.2.2.2.2.1) else (a8.j0 k bC cJ.1 ch.1 true aM.1 aM.2.1 aM.2.2.1 aM.2.2.2.1 aM.2.2.2.2.1 aq.1 aq.2.1 aq.2.2.1 aq.2.2.2.1 aq.2.2.2.2.1))) else (a8.j0 k bC cJ.1 ch.1 true aM.1 aM.2.1 aM.2.2.1 aM.2.2.2.1 aM.2.2.2.2.1 aq.1 aq.2.1 aq.2.2.1 aq.2.2.2.1 aq.2.2.2.2.1)) else (a8.j0 k bC cJ.1 ch.1 true aM.1 aM.2.1 aM.2.2.1 aM.2.2.2.1 aM.2.2.2.2.1 aq.1 aq.2.1 aq.2.2.1 aq.2.2.2.1 aq.2.2.2.2.1)) else (a8.j0 k bC cJ.1 ch.1 true aM.1 aM.2.1 aM.2.2.1 aM.2.2.2.1 aM.2.2.2.2.1 aq.1 aq.2.1 aq.2.2.1 aq.2.2.2.1 aq.2.2.2.2.1))))))))) = some r := h
 clear h
 replace H := Option.bind_eq_some_iff.mp H
 obtain ⟨fg, A20, H⟩ := H
 replace H : ((ag.f fg).bind fun bC => ((wire_Next.f bC).bind fun aM => ((aa.f k fg).bind fun aq => ((aN.f k bC).bind fun cJ => ((aE.f k fg).bind fun ch => ((ai.f aM.1 aM.2.1 aM.2.2.1 aM.2.2.2.1 aM.2.2.2.2.1 aq.1 aq.2.1 aq.2.2.1 aq.2.2.2.1 aq.2.2.2.2.1).bind fun gL => (if gL = true then (if aM.2.2.2.2.2.1 = aq.2.2.2.2.2.1 then (if aM.2.2.2.2.2.2 = aq.2.2.2.2.2.2 then ((ak.f k cJ.1 ch.1).bind fun fW => (if fW = true then (a8.j0 k bC cJ.1 ch.1 (cJ.2 != ch.2) aM.1 aM.2.1 aM.2.2.1 aM.2.2.2.1 aM.2.2.2.2.1 aq.1 aq.2.1 aq.2.2.1 aq.2.2.2.1 aq.2.2.2.2.1) else (a8.j0 k bC cJ.1 ch.1 true aM.1 aM.2.1 aM.2.2.1 aM.2.2.2.1 aM.2.2.2.2.1 aq.1 aq.2.1 aq.2.2.1 aq.2.2.2.1 aq.2.2.2.2.1))) else (a8.j0 k bC cJ.1 ch.1 true aM.1 aM.2.1 aM.2.2.1 aM.2.2.2.1 aM.2.2.2.2.1 aq.1 aq.2.1 aq.2.2.1 aq.2.2.2.1 aq.2.2.2.2.1)) else (a8.j0 k bC cJ.1 ch.1 true aM.1 aM.2.1 aM.2.2.1 aM.2.2.2.1 aM.2.2.2.2.1 aq.1 aq.2.1 aq.2.2.1 aq.2.2.2.1 aq.2.2.2.2.1)) else (a8.j0 k bC cJ.1 ch.1 true aM.1 aM.2.1 aM.2.2.1 aM.2.2.2.1 aM.2.2.2.2.1 aq.1 aq.2.1 aq.2.2.1 aq.2.2.2.1 aq.2.2.2.2.1)))))))) = some r := H
 have A2 := Aside0.mk A20
 clear A20
 replace H := Option.bind_eq_some_iff.mp H
 obtain ⟨bC, A30, H⟩ := H
 replace H : ((wire_Next.f bC).bind fun aM => ((aa.f k fg).bind fun aq => ((aN.f k bC).bind fun cJ => ((aE.f k fg).bind fun ch => ((ai.f aM.1 aM.2.1 aM.2.2.1 aM.2.2.2.1 aM.2.2.2.2.1 aq.1 aq.2.1 aq.2.2.1 aq.2.2.2.1 aq.2.2.2.2.1).bind fun gL => (if gL = true then (if aM.2.2.2.2.2.1 = aq.2.2.2.2.2.1 then (if aM.2.2.2.2.2.2 = aq.2.2.2.2.2.2 then ((ak.f k cJ.1 ch.1).bind fun fW => (if fW = true then (a8.j0 k bC cJ.1 ch.1 (cJ.2 != ch.2) aM.1 aM.2.1 aM.2.2.1 aM.2.2.2.1 aM.2.2.2.2.1 aq.1 aq.2.1 aq.2.2.1 aq.2.2.2.1 aq.2.2.2.2.1) else (a8.j0 k bC cJ.1 ch.1 true aM.1 aM.2.1 aM.2.2.1 aM.2.2.2.1 aM.2.2.2.2.1 aq.1 aq.2.1 aq.2.2.1 aq.2.2.2.1 aq.2.2.2.2.1))) else (a8.j0 k bC cJ.1 ch.1 true aM.1 aM.2.1 aM.2.2.1 aM.2.2.2.1 aM.2.2.2.2.1 aq.1 aq.2.1 aq.2.2.1 aq.2.2.2.1 aq.2.2.2.2.1)) else (a8.j0 k bC cJ.1 ch.1 true aM.1 aM.2.1 aM.2.2.1 aM.2.2.2.1 aM.2.2.2.2.1 aq.1 aq.2.1 aq.2.2.1 aq.2.2.2.1 aq.2.2.2.2.1)) else (a8.j0 k bC cJ.1 ch.1 true aM.1 aM.2.1 aM.2.2.1 aM.2.2.2.1 aM.2.2.2.2.1 aq.1 aq.2.1 aq.2.2.1 aq.2.2.2.1 aq.2.2.2.2.1))))))) = some r := H
 have A3 := Aside0.mk A30
 clear A30
 replace H := Option.bind_eq_some_iff.mp H
 obtain ⟨⟨bW, bY, ca, bu, bv, iO, iP⟩, A40, H⟩ := H
 replace H : ((aa.f k fg).bind fun aq => ((aN.f k bC).bind fun cJ => ((aE.f k fg).bind fun ch => ((ai.f bW bY ca bu bv aq.1 aq.2.1 aq.2.2.1 aq.2.2.2.1 aq.2.2.2.2.1).bind fun gL => (if gL = true then (if iO = aq.2.2.2.2.2.1 then (if iP = aq.2.2.2.2.2.2 then ((ak.f k cJ.1 ch.1).bind fun fW => (if fW = true then (a8.j0 k bC cJ.1 ch.1 (cJ.2 != ch.2) bW bY ca bu bv aq.1 aq.2.1 aq.2.2.1 aq.2.2.2.1 aq.2.2.2.2.1) else (a8.j0 k bC cJ.1 ch.1 true bW bY ca bu bv aq.1 aq.2.1 aq.2.2.1 aq.2.2.2.1 aq.2.2.2.2.1))) else (a8.j0 k bC cJ.1 ch.1 true bW bY ca bu bv aq.1 aq.2.1 aq.2.2.1 aq.2.2.2.1 aq.2.2.2.2.1)) else (a8.j0 k bC cJ.1 ch.1 true bW bY ca bu bv aq.1 aq.2.1 aq.2.2.1 aq.2.2.2.1 aq.2.2.2.2.1)) else (a8.j0 k bC cJ.1 ch.1 true bW bY ca bu bv aq.1 aq.2.1 aq.2.2.1 aq.2.2.2.1 aq.2.2.2.2.1)))))) = some r := H
 have A4 := Aside0.mk A40
 clear A40
 replace H := Option.bind_eq_some_iff.mp H
 obtain ⟨⟨cd, ci, co, bx, bz, jm, jn⟩, A50, H⟩ := H
 replace H : ((aN.f k bC).bind fun cJ => ((aE.f k fg).bind fun ch => ((ai.f bW bY ca bu bv cd ci co bx bz).bind fun gL => (if gL = true then (if iO = jm then (if iP = jn then ((ak.f k cJ.1 ch.1).bind fun fW => (if fW = true then (a8.j0 k bC cJ.1 ch.1 (cJ.2 != ch.2) bW bY ca bu bv cd ci co bx bz) else (a8.j0 k bC cJ.1 ch.1 true bW bY ca bu bv cd ci co bx bz))) else (a8.j0 k bC cJ.1 ch.1 true bW bY ca bu bv cd ci co bx bz)) else (a8.j0 k bC cJ.1 ch.1 true bW bY ca bu bv cd ci co bx bz)) else (a8.j0 k bC cJ.1 ch.1 true bW bY ca bu bv cd ci co bx bz))))) = some r := H
 have A5 := Aside0.mk A50
 clear A50
 replace H := Option.bind_eq_some_iff.mp H
 obtain ⟨⟨dU, kl⟩, A60, H⟩ := H
 replace H : ((aE.f k fg).bind fun ch => ((ai.f bW bY ca bu bv cd ci co bx bz).bind fun gL => (if gL = true then (if iO = jm then (if iP = jn then ((ak.f k dU ch.1).bind fun fW => (if fW = true then (a8.j0 k bC dU ch.1 (kl != ch.2) bW bY ca bu bv cd ci co bx bz) else (a8.j0 k bC dU ch.1 true bW bY ca bu bv cd ci co bx bz))) else (a8.j0 k bC dU ch.1 true bW bY ca bu bv cd ci co bx bz)) else (a8.j0 k bC dU ch.1 true bW bY ca bu bv cd ci co bx bz)) else (a8.j0 k bC dU ch.1 true bW bY ca bu bv cd ci co bx bz)))) = some r := H
 have A6 := Aside0.mk A60
 clear A60
 replace H := Option.bind_eq_some_iff.mp H
 obtain ⟨⟨en, kO⟩, A70, H⟩ := H
 replace H : ((ai.f bW bY ca bu bv cd ci co bx bz).bind fun gL => (if gL = true then (if iO = jm then (if iP = jn then ((ak.f k dU en).bind fun fW => (if fW = true then (a8.j0 k bC dU en (kl != kO) bW bY ca bu bv cd ci co bx bz) else (a8.j0 k bC dU en true bW bY ca bu bv cd ci co bx bz))) else (a8.j0 k bC dU en true bW bY ca bu bv cd ci co bx bz)) else (a8.j0 k bC dU en true bW bY ca bu bv cd ci co bx bz)) else (a8.j0 k bC dU en true bW bY ca bu bv cd ci co bx bz))) = some r := H
 have A7 := Aside0.mk A70
 clear A70
 have HC8 := Aside0.mk H
 clear H
 go_enter Try.func4, Try.ntmps4
 go_upto_region 7 with (first | ((with_reducible refine gate_callee (f := 23) rfl ?_); refine goesL_ (some 16) rfl rfl Try.func23 p16z rfl #[.slice A0 l0.length c0] rfl p2z ?_; (with_reducible refine (bA.calls (fun k_ => k_ < w.heap.size) _ _ l0 fg _ ?side1 A2.out).mono ?_); (case side1 => exact Kd.V_mk HC0.out (Kd.F_below (Kd.C_F (Kd.heap_int .u8) HR0.out) p0z)); rintro e w9 ⟨v283, rfl, ho0, hb⟩; refine ⟨_, rfl, ?_⟩; have z_ := asi2 (Kd.V_lower (Kd.V_mono (ok' := fun k_ => True) ho0 (fun k_ hk_ => trivial)) (below_size p0z)) (below_step p0z hb); clear HB; obtain ⟨db, HB⟩ := z_; (try clear hb hk ho0); obtain ⟨Ao10, co10, eo10⟩ := Kd.V_slice db.out; subst eo10) | ((with_reducible refine gate_callee (f := 12) rfl ?_); refine goesL_ (some 18) rfl rfl Try.func12 p16z rfl #[.slice Ao10 fg.length co10] rfl p2z ?_; (with_reducible refine (ag.calls _ _ fg bC _ ?side1 ?side2 A3.out).mono ?_); (case side1 => repeat (first | exact (Kd.V_reads' db.out).2.2 | (with_reducible refine Kd.C_alloc ?_ _) | (with_reducible refine Kd.C_drewN ?_ _) | (with_reducible refine Kd.C_drew ?_))); (case side2 => exact (Kd.V_reads' db.out).2.1); rintro e w11 ⟨v286, rfl, ho0, hb⟩; refine ⟨_, rfl, ?_⟩; have z_ := asi3 (Kd.V_elder' p69z (Kd.R_base ho0) hb) (Kd.R_lower ho0 (below_size p0z)) (below_step p0z hb); clear db HB; obtain ⟨db, dv, HB⟩ := z_; (try clear hb hk ho0); obtain ⟨eL, co12, eo12⟩ := Kd.R_slice dv.out; subst eo12) | ((with_reducible refine gate_callee (f := 24) rfl ?_); refine goesL_ (some 21) rfl rfl Try.func24 p16z rfl #[.slice eL bC.length co12] rfl p2z ?_; (with_reducible refine (wire_Next.calls _ _ bC bW bY ca bu bv iO iP _ ?side1 ?side2 A4.out).mono ?_); (case side1 => repeat (first | exact (Kd.R_reads' dv.out).2.2 | (with_reducible refine Kd.C_alloc ?_ _) | (with_reducible refine Kd.C_drewN ?_ _) | (with_reducible refine Kd.C_drew ?_))); (case side2 => exact (Kd.R_reads' dv.out).2.1); rintro e w13 ⟨v292, v295, rfl, ho0, ho1, hb⟩; refine ⟨_, rfl, ?_⟩; have z_ := asi5 (Kd.V_mono (Kd.V_told (Kd.V_told (Kd.V_old p69z hb) (Kd.R_base ho0)) (Kd.R_base ho1)) (fun _ h_ => h_.1)) (Kd.R_mono (Kd.R_told (Kd.R_told (Kd.R_old p39z hb) (Kd.R_base ho0)) (Kd.R_base ho1)) (fun _ h_ => h_.1)) (Kd.R_lower (Kd.R_new' ho0 (Kd.R_lt p39z)) (below_size p0z)) (Kd.R_lower (Kd.R_new' ho1 (Kd.R_lt p39z)) (below_size p0z)) (below_step p0z hb); clear db dv HB; obtain ⟨db, dv, dk, dl, HB⟩ := z_; (try clear hb hk ho0 ho1)) | ((with_reducible refine gate_dst (N := 4) rfl ?_); refine box_event ?hg (N := 4) ?hd (cs := #[.int .i64 0, .int .i64 0, .int .u64 0, .slice none 0 0, .slice none 0 0]) (t := 33) ?hr ?_; (case hd => rfl); (case hg => rfl); (case hr => exact p22z); intro bo hg w14 hbox hb; have z_ := asi8 (Kd.V_below (Kd.V_elderB p69z bo (Nat.le_of_eq hg.symm)) hb) (Kd.R_below p39z hb) (Kd.R_below p45z hb) (Kd.R_below p46z hb) (below_step p0z hb) (hbox) ((p38z : w.heap.size ≤ bo)) ((p38z : w.heap.size ≤ bo)); clear db dv dk dl HB; obtain ⟨db, dv, dk, dl, HB, b8, GW299, GE299⟩ := z_; clear hb hbox hg; have hcz15_0 : w14.cell? ⟨bo, 0, none⟩ = some (.int .i64 0) := (blk_cell b8.out 0).trans rfl; have hcz15_1 : w14.cell? ⟨bo, 1, none⟩ = some (.int .i64 0) := (blk_cell b8.out 1).trans rfl; have hcz15_2 : w14.cell? ⟨bo, 2, none⟩ = some (.int .u64 0) := (blk_cell b8.out 2).trans rfl; have hcz15_3 : w14.cell? ⟨bo, 3, none⟩ = some (.slice none 0 0) := (blk_cell b8.out 3).trans rfl; have hcz15_4 : w14.cell? ⟨bo, 4, none⟩ = some (.slice none 0 0) := (blk_cell b8.out 4).trans rfl; have hfz15_0 := blk_frozen b8.out 0; have hfz15_1 := blk_frozen b8.out 1; have hfz15_2 := blk_frozen b8.out 2; have hfz15_3 := blk_frozen b8.out 3; have hfz15_4 := blk_frozen b8.out 4; obtain ⟨cQ, co16, eo16⟩ := Kd.R_slice dk.out; subst eo16; obtain ⟨cO, co17, eo17⟩ := Kd.R_slice dl.out; subst eo17) | ((with_reducible refine gate_callee (f := 25) rfl ?_); refine goesL_ (some 27) rfl rfl Try.func25 p16z rfl #[.slice Ao10 fg.length co10] rfl p2z ?_; (with_reducible refine (aa.calls k _ _ fg cd ci co bx bz jm jn _ ?side1 ?side2 A5.out).mono ?_); (case side1 => refine (Kd.V_reads' (e := 5) (base := w.heap.size) (ok := fun k_ => ((((True ∧ some k_ ≠ (.slice eL bC.length co12 : Value).ownBlock) ∧ some k_ ≠ (.slice cQ bu.length co16 : Value).ownBlock) ∧ some k_ ≠ (.slice cO bv.length co17 : Value).ownBlock) ∧ k_ ≠ bo)) (n := fg.length) (c := co10) ?_).2.2; exact p128z); (case side2 => exact (Kd.V_reads' db.out).2.1); rintro e w18 ⟨v304, v307, rfl, ho0, ho1, hb⟩; refine ⟨_, rfl, ?_⟩; have z_ := asi8 (Kd.V_mono (Kd.V_told (Kd.V_told (Kd.V_old p128z hb) (Kd.R_base ho0)) (Kd.R_base ho1)) (fun _ h_ => h_.1)) (Kd.R_mono (Kd.R_told (Kd.R_told (Kd.R_old p80z hb) (Kd.R_base ho0)) (Kd.R_base ho1)) (fun _ h_ => h_.1)) (Kd.R_mono (Kd.R_told (Kd.R_told (Kd.R_old p81z hb) (Kd.R_base ho0)) (Kd.R_base ho1)) (fun _ h_ => h_.1)) (Kd.R_mono (Kd.R_told (Kd.R_told (Kd.R_old p82z hb) (Kd.R_base ho0)) (Kd.R_base ho1)) (fun _ h_ => h_.1)) (Kd.R_lower (Kd.R_new' (Kd.R_new' (Kd.R_new' ho0 (Kd.R_lt p80z)) (Kd.R_lt p81z)) (Kd.R_lt p82z)) (below_size p106z)) (Kd.R_lower (Kd.R_new' (Kd.R_new' (Kd.R_new' ho1 (Kd.R_lt p80z)) (Kd.R_lt p81z)) (Kd.R_lt p82z)) (below_size p106z)) (blk_below (g := bo) (o := .cells #[.int .i64 bW, .int .i64 bY, .int .u64 ca, .slice cQ bu.length co16, .slice cO bv.length co17] 33 (0, 0)) (by (with_reducible repeat (first | refine blk_drewN ?_ _ | refine blk_drew ?_ | refine blk_alloc ?_ _)); refine blk_put (cs := #[.int .i64 bW, .int .i64 bY, .int .u64 ca, .slice cQ bu.length co16, .slice none 0 0]) ?_ 4 _ rfl; (with_reducible repeat (first | refine blk_drewN ?_ _ | refine blk_drew ?_ | refine blk_alloc ?_ _)); refine blk_put (cs := #[.int .i64 bW, .int .i64 bY, .int .u64 ca, .slice none 0 0, .slice none 0 0]) ?_ 3 _ rfl; (with_reducible repeat (first | refine blk_drewN ?_ _ | refine blk_drew ?_ | refine blk_alloc ?_ _)); refine blk_put (cs := #[.int .i64 bW, .int .i64 bY, .int .u64 0, .slice none 0 0, .slice none 0 0]) ?_ 2 _ rfl; (with_reducible repeat (first | refine blk_drewN ?_ _ | refine blk_drew ?_ | refine blk_alloc ?_ _)); refine blk_put (cs := #[.int .i64 bW, .int .i64 0, .int .u64 0, .slice none 0 0, .slice none 0 0]) ?_ 1 _ rfl; (with_reducible repeat (first | refine blk_drewN ?_ _ | refine blk_drew ?_ | refine blk_alloc ?_ _)); refine blk_put (cs := #[.int .i64 0, .int .i64 0, .int .u64 0, .slice none 0 0, .slice none 0 0]) ?_ 0 _ rfl; (with_reducible repeat (first | refine blk_drewN ?_ _ | refine blk_drew ?_ | refine blk_alloc ?_ _)); exact b8.out) hb) (below_step p106z hb); clear db dv dk dl b8 HB; obtain ⟨db, dv, dk, dl, dJ, dK, b8, HB⟩ := z_; (try clear hb hk ho0 ho1)) | ((with_reducible refine gate_dst (N := 7) rfl ?_); refine box_event ?hg (N := 7) ?hd (cs := #[.int .i64 0, .int .i64 0, .int .u64 0, .slice none 0 0, .slice none 0 0]) (t := 33) ?hr ?_; (case hd => rfl); (case hg => rfl); (case hr => exact p22z); intro bg hg w19 hbox hb; have n0_ := Aside0.mk (Kd.V_below (Kd.V_elderB p69z bg (Nat.le_of_eq hg.symm)) hb); have n1_ := Aside0.mk (Kd.R_below p39z hb); have n2_ := Aside0.mk (Kd.R_below p45z hb); have n3_ := Aside0.mk (Kd.R_below p46z hb); have n4_ := Aside0.mk (Kd.R_below p54z hb); have n5_ := Aside0.mk (Kd.R_below p55z hb); have n6_ := Aside0.mk (blk_below (g := bo) (o := .cells #[.int .i64 bW, .int .i64 bY, .int .u64 ca, .slice cQ bu.length co16, .slice cO bv.length co17] 33 (0, 0)) p29z hb); have n7_ := Aside0.mk (below_step p106z hb); have n8_ := Aside0.mk (hbox); have n9_ := Aside0.mk ((by rw [hg]; exact (below_size p106z) : w.heap.size ≤ bg)); have ce := Aside0.mk ((by rw [hg]; exact (below_size p106z) : w.heap.size ≤ bg)); have dp := Aside0.mk ((by rw [hg]; exact Nat.ne_of_lt (blk_lt (g := bo) (o := .cells #[.int .i64 bW, .int .i64 bY, .int .u64 ca, .slice cQ bu.length co16, .slice cO bv.length co17] 33 (0, 0)) p29z) : bo ≠ bg)); have dq := Aside0.mk ((by rw [hg]; exact Nat.ne_of_gt (blk_lt (g := bo) (o := .cells #[.int .i64 bW, .int .i64 bY, .int .u64 ca, .slice cQ bu.length co16, .slice cO bv.length co17] 33 (0, 0)) p29z) : bg ≠ bo)); clear db; clear dv; clear dk; clear dl; clear dJ; clear dK; clear b8; clear HB; have db := n0_; have dv := n1_; have dk := n2_; have dl := n3_; have dJ := n4_; have dK := n5_; have b8 := n6_; have HB := n7_; have bb := n8_; have GW311 := n9_; have GE311 := ce; have NB299_311 := dp; have NB311_299 := dq; clear n0_ n1_ n2_ n3_ n4_ n5_ n6_ n7_ n8_ n9_ ce dp dq; clear hb hbox hg; have hnb20 := NB311_299.out; have hnc20 := NB299_311.out; have hcz21_0 : w19.cell? ⟨bg, 0, none⟩ = some (.int .i64 0) := (blk_cell bb.out 0).trans rfl; have hcz21_1 : w19.cell? ⟨bg, 1, none⟩ = some (.int .i64 0) := (blk_cell bb.out 1).trans rfl; have hcz21_2 : w19.cell? ⟨bg, 2, none⟩ = some (.int .u64 0) := (blk_cell bb.out 2).trans rfl; have hcz21_3 : w19.cell? ⟨bg, 3, none⟩ = some (.slice none 0 0) := (blk_cell bb.out 3).trans rfl; have hcz21_4 : w19.cell? ⟨bg, 4, none⟩ = some (.slice none 0 0) := (blk_cell bb.out 4).trans rfl; have hfz21_0 := blk_frozen bb.out 0; have hfz21_1 := blk_frozen bb.out 1; have hfz21_2 := blk_frozen bb.out 2; have hfz21_3 := blk_frozen bb.out 3; have hfz21_4 := blk_frozen bb.out 4; obtain ⟨cU, co22, eo22⟩ := Kd.R_slice dJ.out; subst eo22; obtain ⟨cx, co23, eo23⟩ := Kd.R_slice dK.out; subst eo23) | ((with_reducible refine gate_store (t := 33) (p := 7) rfl ?_); refine store_event (t := 33) (p := 7) (v := ?vo_w24) (w1 := (((((w19.setCell ⟨bg, 0, none⟩ (.int .i64 cd)).setCell ⟨bg, 1, none⟩ (.int .i64 ci)).setCell ⟨bg, 2, none⟩ (.int .u64 co)).setCell ⟨bg, 3, none⟩ (.slice cU bx.length co22)).setCell ⟨bg, 4, none⟩ (.slice cx bz.length co23))) ?hg ?ho ?hn ?hr ?_; (case ho => rfl); (case hg => rfl); (case hn => rfl); (case hr => exact p22z); intro w24 hw; have n0_ : Aside0 (Kd.V (Kd.int .u8) 5 w24 w.heap.size (fun k_ => some k_ ≠ (.slice eL bC.length co12 : Value).ownBlock ∧ some k_ ≠ (.slice cQ bu.length co16 : Value).ownBlock ∧ some k_ ≠ (.slice cO bv.length co17 : Value).ownBlock ∧ some k_ ≠ (.slice cU bx.length co22 : Value).ownBlock ∧ some k_ ≠ (.slice cx bz.length co23 : Value).ownBlock ∧ k_ ≠ bo ∧ k_ ≠ bg) (.slice Ao10 fg.length co10) fg) := ⟨(by rw [hw]; exact (by (with_reducible repeat (first | apply Kd.V_alloc | apply Kd.V_drewN | apply Kd.V_drew)); exact Kd.V_mono (Kd.V_far (p := ⟨bg, 4, none⟩) (Kd.V_far (p := ⟨bg, 3, none⟩) (Kd.V_far (p := ⟨bg, 2, none⟩) (Kd.V_far (p := ⟨bg, 1, none⟩) (Kd.V_far (p := ⟨bg, 0, none⟩) (Kd.V_mono db.out (fun k_ hk => (⟨hk, hk.2⟩ : _ ∧ k_ ≠ bg))) (fun _ hk => hk.2) (.int .i64 cd)) (fun _ hk => hk.2) (.int .i64 ci)) (fun _ hk => hk.2) (.int .u64 co)) (fun _ hk => hk.2) (.slice cU bx.length co22)) (fun _ hk => hk.2) (.slice cx bz.length co23)) (fun _ hk => ⟨hk.1.1.1.1.1.1.1.2, ⟨hk.1.1.1.1.1.1.2, ⟨hk.1.1.1.1.1.2, ⟨hk.1.1.1.2, ⟨hk.1.1.2, ⟨hk.1.1.1.1.2, hk.1.2⟩⟩⟩⟩⟩⟩)))⟩; have n1_ : Aside0 (Kd.R (Kd.int .u8) 5 w24 w.heap.size (fun k_ => some k_ ≠ (.slice cQ bu.length co16 : Value).ownBlock ∧ some k_ ≠ (.slice cO bv.length co17 : Value).ownBlock ∧ some k_ ≠ (.slice cU bx.length co22 : Value).ownBlock ∧ some k_ ≠ (.slice cx bz.length co23 : Value).ownBlock) (.slice eL bC.length co12) bC) := ⟨(by rw [hw]; exact (by (with_reducible repeat (first | apply Kd.R_alloc | apply Kd.R_drewN | apply Kd.R_drew)); exact Kd.R_mono (Kd.R_far (p := ⟨bg, 4, none⟩) (Kd.R_far (p := ⟨bg, 3, none⟩) (Kd.R_far (p := ⟨bg, 2, none⟩) (Kd.R_far (p := ⟨bg, 1, none⟩) (Kd.R_far (p := ⟨bg, 0, none⟩) (Kd.R_types dv.out bb.out (by decide)) (fun _ hk => hk.2) (.int .i64 cd)) (fun _ hk => hk.2) (.int .i64 ci)) (fun _ hk => hk.2) (.int .u64 co)) (fun _ hk => hk.2) (.slice cU bx.length co22)) (fun _ hk => hk.2) (.slice cx bz.length co23)) (fun _ hk => ⟨hk.1.1.1.1.2, ⟨hk.1.1.1.2, ⟨hk.1.1.2, hk.1.2⟩⟩⟩)))⟩; have n2_ : Aside0 (Kd.R (Kd.int .u8) 5 w24 w.heap.size (fun k_ => some k_ ≠ (.slice eL bC.length co12 : Value).ownBlock ∧ some k_ ≠ (.slice cO bv.length co17 : Value).ownBlock ∧ some k_ ≠ (.slice cU bx.length co22 : Value).ownBlock ∧ some k_ ≠ (.slice cx bz.length co23 : Value).ownBlock) (.slice cQ bu.length co16) bu) := ⟨(by rw [hw]; exact (by (with_reducible repeat (first | apply Kd.R_alloc | apply Kd.R_drewN | apply Kd.R_drew)); exact Kd.R_mono (Kd.R_far (p := ⟨bg, 4, none⟩) (Kd.R_far (p := ⟨bg, 3, none⟩) (Kd.R_far (p := ⟨bg, 2, none⟩) (Kd.R_far (p := ⟨bg, 1, none⟩) (Kd.R_far (p := ⟨bg, 0, none⟩) (Kd.R_types dk.out bb.out (by decide)) (fun _ hk => hk.2) (.int .i64 cd)) (fun _ hk => hk.2) (.int .i64 ci)) (fun _ hk => hk.2) (.int .u64 co)) (fun _ hk => hk.2) (.slice cU bx.length co22)) (fun _ hk => hk.2) (.slice cx bz.length co23)) (fun _ hk => ⟨hk.1.1.1.2, ⟨hk.1.1.1.1, ⟨hk.1.1.2, hk.1.2⟩⟩⟩)))⟩; have n3_ : Aside0 (Kd.R (Kd.int .u8) 5 w24 w.heap.size (fun k_ => some k_ ≠ (.slice eL bC.length co12 : Value).ownBlock ∧ some k_ ≠ (.slice cQ bu.length co16 : Value).ownBlock ∧ some k_ ≠ (.slice cU bx.length co22 : Value).ownBlock ∧ some k_ ≠ (.slice cx bz.length co23 : Value).ownBlock) (.slice cO bv.length co17) bv) := ⟨(by rw [hw]; exact (by (with_reducible repeat (first | apply Kd.R_alloc | apply Kd.R_drewN | apply Kd.R_drew)); exact Kd.R_mono (Kd.R_far (p := ⟨bg, 4, none⟩) (Kd.R_far (p := ⟨bg, 3, none⟩) (Kd.R_far (p := ⟨bg, 2, none⟩) (Kd.R_far (p := ⟨bg, 1, none⟩) (Kd.R_far (p := ⟨bg, 0, none⟩) (Kd.R_types dl.out bb.out (by decide)) (fun _ hk => hk.2) (.int .i64 cd)) (fun _ hk => hk.2) (.int .i64 ci)) (fun _ hk => hk.2) (.int .u64 co)) (fun _ hk => hk.2) (.slice cU bx.length co22)) (fun _ hk => hk.2) (.slice cx bz.length co23)) (fun _ hk => ⟨hk.1.1.1.2, ⟨hk.1.1.1.1, ⟨hk.1.1.2, hk.1.2⟩⟩⟩)))⟩; have n4_ : Aside0 (Kd.R (Kd.int .u8) 5 w24 w.heap.size (fun k_ => some k_ ≠ (.slice eL bC.length co12 : Value).ownBlock ∧ some k_ ≠ (.slice cQ bu.length co16 : Value).ownBlock ∧ some k_ ≠ (.slice cO bv.length co17 : Value).ownBlock ∧ some k_ ≠ (.slice cx bz.length co23 : Value).ownBlock) (.slice cU bx.length co22) bx) := ⟨(by rw [hw]; exact (by (with_reducible repeat (first | apply Kd.R_alloc | apply Kd.R_drewN | apply Kd.R_drew)); exact Kd.R_mono (Kd.R_far (p := ⟨bg, 4, none⟩) (Kd.R_far (p := ⟨bg, 3, none⟩) (Kd.R_far (p := ⟨bg, 2, none⟩) (Kd.R_far (p := ⟨bg, 1, none⟩) (Kd.R_far (p := ⟨bg, 0, none⟩) (Kd.R_types dJ.out bb.out (by decide)) (fun _ hk => hk.2) (.int .i64 cd)) (fun _ hk => hk.2) (.int .i64 ci)) (fun _ hk => hk.2) (.int .u64 co)) (fun _ hk => hk.2) (.slice cU bx.length co22)) (fun _ hk => hk.2) (.slice cx bz.length co23)) (fun _ hk => ⟨hk.1.1.1.2, ⟨hk.1.1.2, ⟨hk.1.2, hk.1.1.1.1⟩⟩⟩)))⟩; have n5_ : Aside0 (Kd.R (Kd.int .u8) 5 w24 w.heap.size (fun k_ => some k_ ≠ (.slice eL bC.length co12 : Value).ownBlock ∧ some k_ ≠ (.slice cQ bu.length co16 : Value).ownBlock ∧ some k_ ≠ (.slice cO bv.length co17 : Value).ownBlock ∧ some k_ ≠ (.slice cU bx.length co22 : Value).ownBlock) (.slice cx bz.length co23) bz) := ⟨(by rw [hw]; exact (by (with_reducible repeat (first | apply Kd.R_alloc | apply Kd.R_drewN | apply Kd.R_drew)); exact Kd.R_mono (Kd.R_far (p := ⟨bg, 4, none⟩) (Kd.R_far (p := ⟨bg, 3, none⟩) (Kd.R_far (p := ⟨bg, 2, none⟩) (Kd.R_far (p := ⟨bg, 1, none⟩) (Kd.R_far (p := ⟨bg, 0, none⟩) (Kd.R_types dK.out bb.out (by decide)) (fun _ hk => hk.2) (.int .i64 cd)) (fun _ hk => hk.2) (.int .i64 ci)) (fun _ hk => hk.2) (.int .u64 co)) (fun _ hk => hk.2) (.slice cU bx.length co22)) (fun _ hk => hk.2) (.slice cx bz.length co23)) (fun _ hk => ⟨hk.1.1.1.2, ⟨hk.1.1.2, ⟨hk.1.2, hk.1.1.1.1⟩⟩⟩)))⟩; have n6_ : Aside0 (w24.heap[bo]? = some (.cells #[.int .i64 bW, .int .i64 bY, .int .u64 ca, .slice cQ bu.length co16, .slice cO bv.length co17] 33 (0, 0))) := ⟨(by rw [hw]; exact (by (with_reducible repeat (first | refine blk_drewN ?_ _ | refine blk_drew ?_ | refine blk_alloc ?_ _)); refine blk_far ?_ NB299_311.out _; (with_reducible repeat (first | refine blk_drewN ?_ _ | refine blk_drew ?_ | refine blk_alloc ?_ _)); refine blk_far ?_ NB299_311.out _; (with_reducible repeat (first | refine blk_drewN ?_ _ | refine blk_drew ?_ | refine blk_alloc ?_ _)); refine blk_far ?_ NB299_311.out _; (with_reducible repeat (first | refine blk_drewN ?_ _ | refine blk_drew ?_ | refine blk_alloc ?_ _)); refine blk_far ?_ NB299_311.out _; (with_reducible repeat (first | refine blk_drewN ?_ _ | refine blk_drew ?_ | refine blk_alloc ?_ _)); refine blk_far ?_ NB299_311.out _; (with_reducible repeat (first | refine blk_drewN ?_ _ | refine blk_drew ?_ | refine blk_alloc ?_ _)); exact b8.out))⟩; have n7_ : Aside0 (w24.heap[bg]? = some (.cells #[.int .i64 cd, .int .i64 ci, .int .u64 co, .slice cU bx.length co22, .slice cx bz.length co23] 33 (0, 0))) := ⟨(by rw [hw]; exact (by (with_reducible repeat (first | refine blk_drewN ?_ _ | refine blk_drew ?_ | refine blk_alloc ?_ _)); refine blk_put (cs := #[.int .i64 cd, .int .i64 ci, .int .u64 co, .slice cU bx.length co22, .slice none 0 0]) ?_ 4 _ rfl; (with_reducible repeat (first | refine blk_drewN ?_ _ | refine blk_drew ?_ | refine blk_alloc ?_ _)); refine blk_put (cs := #[.int .i64 cd, .int .i64 ci, .int .u64 co, .slice none 0 0, .slice none 0 0]) ?_ 3 _ rfl; (with_reducible repeat (first | refine blk_drewN ?_ _ | refine blk_drew ?_ | refine blk_alloc ?_ _)); refine blk_put (cs := #[.int .i64 cd, .int .i64 ci, .int .u64 0, .slice none 0 0, .slice none 0 0]) ?_ 2 _ rfl; (with_reducible repeat (first | refine blk_drewN ?_ _ | refine blk_drew ?_ | refine blk_alloc ?_ _)); refine blk_put (cs := #[.int .i64 cd, .int .i64 0, .int .u64 0, .slice none 0 0, .slice none 0 0]) ?_ 1 _ rfl; (with_reducible repeat (first | refine blk_drewN ?_ _ | refine blk_drew ?_ | refine blk_alloc ?_ _)); refine blk_put (cs := #[.int .i64 0, .int .i64 0, .int .u64 0, .slice none 0 0, .slice none 0 0]) ?_ 0 _ rfl; (with_reducible repeat (first | refine blk_drewN ?_ _ | refine blk_drew ?_ | refine blk_alloc ?_ _)); exact bb.out))⟩; have n8_ : Aside0 (Below w.heap.size w w24) := ⟨(by rw [hw]; exact p14z)⟩; clear hw; clear db; clear dv; clear dk; clear dl; clear dJ; clear dK; clear b8; clear bb; clear HB; have db := n0_; have dv := n1_; have dk := n2_; have dl := n3_; have dJ := n4_; have dK := n5_; have b8 := n6_; have bb := n7_; have HB := n8_; clear n0_ n1_ n2_ n3_ n4_ n5_ n6_ n7_ n8_) | ((with_reducible refine gate_callee (f := 26) rfl ?_); refine goesL_ (some 33) rfl rfl Try.func26 p16z rfl #[.slice eL bC.length co12] rfl p2z ?_; (with_reducible refine (aN.calls k (fun k_ => some k_ = (.slice eL bC.length co12 : Value).ownBlock) _ _ bC dU kl _ ?side1 A6.out).mono ?_); (case side1 => exact Kd.R_V (Kd.R_tight rfl (Kd.R_types (Kd.R_types (dv.out) b8.out (by decide)) bb.out (by decide)))); rintro e w25 ⟨lI, rfl, ho0, hb⟩; refine ⟨_, rfl, ?_⟩; have z_ := asi10 (Kd.V_elder' p69z (Kd.S_base ho0) hb) (Kd.R_below p39z hb) (Kd.R_below p45z hb) (Kd.R_below p46z hb) (Kd.R_below p54z hb) (Kd.R_below p55z hb) (Kd.S_lower (Kd.S_newB (Kd.S_newB (Kd.S_new' (Kd.S_new' (Kd.S_new' (Kd.S_new' (Kd.S_new' (Kd.S_mono (ok' := fun k_ => True) ho0 (fun _ hk_ => trivial)) (Kd.R_lt p39z)) (Kd.R_lt p45z)) (Kd.R_lt p46z)) (Kd.R_lt p54z)) (Kd.R_lt p55z)) (g := bo) (o := .cells #[.int .i64 bW, .int .i64 bY, .int .u64 ca, .slice cQ bu.length co16, .slice cO bv.length co17] 33 (0, 0)) p29z) (g := bg) (o := .cells #[.int .i64 cd, .int .i64 ci, .int .u64 co, .slice cU bx.length co22, .slice cx bz.length co23] 33 (0, 0)) p33z) (below_size p14z)) (blk_below (g := bo) (o := .cells #[.int .i64 bW, .int .i64 bY, .int .u64 ca, .slice cQ bu.length co16, .slice cO bv.length co17] 33 (0, 0)) p29z hb) (blk_below (g := bg) (o := .cells #[.int .i64 cd, .int .i64 ci, .int .u64 co, .slice cU bx.length co22, .slice cx bz.length co23] 33 (0, 0)) p33z hb) (below_step p14z hb); clear db dv dk dl dJ dK b8 bb HB; obtain ⟨db, dv, dk, dl, dJ, dK, ei, b8, bb, HB⟩ := z_; (try clear hb hk ho0)) | ((with_reducible refine gate_callee (f := 27) rfl ?_); refine goesL_ (some 38) rfl rfl Try.func27 p16z rfl #[.slice Ao10 fg.length co10] rfl p2z ?_; (with_reducible refine (aE.calls k (fun k_ => ((some k_ ≠ (.slice eL bC.length co12 : Value).ownBlock ∧ (some k_ ≠ (.slice cQ bu.length co16 : Value).ownBlock ∧ (some k_ ≠ (.slice cO bv.length co17 : Value).ownBlock ∧ (some k_ ≠ (.slice cU bx.length co22 : Value).ownBlock ∧ (some k_ ≠ (.slice cx bz.length co23 : Value).ownBlock ∧ (k_ ≠ bo ∧ k_ ≠ bg)))))) ∧ some k_ ≠ (lI : Value).ownBlock)) _ _ fg en kO _ ?side1 A7.out).mono ?_); (case side1 => exact db.out); rintro e w26 ⟨mf, rfl, ho0, hb⟩; refine ⟨_, rfl, ?_⟩; have n0_ := Aside0.mk (Kd.V_elder' p69z (Kd.S_base ho0) hb); have n1_ := Aside0.mk (Kd.R_below p39z hb); have n2_ := Aside0.mk (Kd.R_below p45z hb); have n3_ := Aside0.mk (Kd.R_below p46z hb); have n4_ := Aside0.mk (Kd.R_below p54z hb); have n5_ := Aside0.mk (Kd.R_below p55z hb); have n6_ := Aside0.mk (Kd.S_elder' p102z (Kd.S_base ho0) hb); have n7_ := Aside0.mk (Kd.S_lower (Kd.S_newB (Kd.S_newB (Kd.S_new' (Kd.S_new' (Kd.S_new' (Kd.S_new' (Kd.S_new' (Kd.S_new' (Kd.S_mono (ok' := fun k_ => True) ho0 (fun _ hk_ => trivial)) (Kd.R_lt p39z)) (Kd.R_lt p45z)) (Kd.R_lt p46z)) (Kd.R_lt p54z)) (Kd.R_lt p55z)) (Kd.S_lt p102z)) (g := bo) (o := .cells #[.int .i64 bW, .int .i64 bY, .int .u64 ca, .slice cQ bu.length co16, .slice cO bv.length co17] 33 (0, 0)) p29z) (g := bg) (o := .cells #[.int .i64 cd, .int .i64 ci, .int .u64 co, .slice cU bx.length co22, .slice cx bz.length co23] 33 (0, 0)) p33z) (below_size p14z)); have n8_ := Aside0.mk (blk_below (g := bo) (o := .cells #[.int .i64 bW, .int .i64 bY, .int .u64 ca, .slice cQ bu.length co16, .slice cO bv.length co17] 33 (0, 0)) p29z hb); have n9_ := Aside0.mk (blk_below (g := bg) (o := .cells #[.int .i64 cd, .int .i64 ci, .int .u64 co, .slice cU bx.length co22, .slice cx bz.length co23] 33 (0, 0)) p33z hb); have ce := Aside0.mk (below_step p14z hb); clear db; clear dv; clear dk; clear dl; clear dJ; clear dK; clear ei; clear b8; clear bb; clear HB; have db := n0_; have dv := n1_; have dk := n2_; have dl := n3_; have dJ := n4_; have dK := n5_; have ei := n6_; have ez := n7_; have b8 := n8_; have bb := n9_; have HB := ce; clear n0_ n1_ n2_ n3_ n4_ n5_ n6_ n7_ n8_ n9_ ce; (try clear hb hk ho0)))
 (try simp only [Act.put, List.setIfInBounds_toArray, List.set_cons_zero, List.set_cons_succ])
 go_cut [65] (fun v65 wc => ∃ (kq : Nat) (li : Bool), v65 = .bool li ∧ Aside0 (a8.j0 kq bC dU en li bW bY ca bu bv cd ci co bx bz = some r) ∧ Aside0 (kq ≤ k) ∧ Aside0 (Kd.R (Kd.int .u8) 5 wc w.heap.size (fun k_ => some k_ ≠ ((.slice cQ bu.length co16) : Value).ownBlock ∧ some k_ ≠ ((.slice cO bv.length co17) : Value).ownBlock ∧ some k_ ≠ ((.slice cU bx.length co22) : Value).ownBlock ∧ some k_ ≠ ((.slice cx bz.length co23) : Value).ownBlock) (.slice eL bC.length co12) bC) ∧ Aside0 (Kd.S k33 33 wc w.heap.size (fun k_ => some k_ ≠ ((.slice eL bC.length co12) : Value).ownBlock ∧ some k_ ≠ (mf : Value).ownBlock ∧ some k_ ≠ ((.slice cQ bu.length co16) : Value).ownBlock ∧ some k_ ≠ ((.slice cO bv.length co17) : Value).ownBlock ∧ some k_ ≠ ((.slice cU bx.length co22) : Value).ownBlock ∧ some k_ ≠ ((.slice cx bz.length co23) : Value).ownBlock ∧ k_ ≠ bo ∧ k_ ≠ bg) lI dU) ∧ Aside0 (Kd.S k33 33 wc w.heap.size (fun k_ => some k_ ≠ ((.slice eL bC.length co12) : Value).ownBlock ∧ some k_ ≠ (lI : Value).ownBlock ∧ some k_ ≠ ((.slice cQ bu.length co16) : Value).ownBlock ∧ some k_ ≠ ((.slice cO bv.length co17) : Value).ownBlock ∧ some k_ ≠ ((.slice cU bx.length co22) : Value).ownBlock ∧ some k_ ≠ ((.slice cx bz.length co23) : Value).ownBlock ∧ k_ ≠ bo ∧ k_ ≠ bg) mf en) ∧ Aside0 (Kd.R (Kd.int .u8) 5 wc w.heap.size (fun k_ => some k_ ≠ ((.slice eL bC.length co12) : Value).ownBlock ∧ some k_ ≠ ((.slice cO bv.length co17) : Value).ownBlock ∧ some k_ ≠ ((.slice cU bx.length co22) : Value).ownBlock ∧ some k_ ≠ ((.slice cx bz.length co23) : Value).ownBlock) (.slice cQ bu.length co16) bu) ∧ Aside0 (Kd.R (Kd.int .u8) 5 wc w.heap.size (fun k_ => some k_ ≠ ((.slice eL bC.length co12) : Value).ownBlock ∧ some k_ ≠ ((.slice cQ bu.length co16) : Value).ownBlock ∧ some k_ ≠ ((.slice cU bx.length co22) : Value).ownBlock ∧ some k_ ≠ ((.slice cx bz.length co23) : Value).ownBlock) (.slice cO bv.length co17) bv) ∧ Aside0 (Kd.R (Kd.int .u8) 5 wc w.heap.size (fun k_ => some k_ ≠ ((.slice eL bC.length co12) : Value).ownBlock ∧ some k_ ≠ ((.slice cQ bu.length co16) : Value).ownBlock ∧ some k_ ≠ ((.slice cO bv.length co17) : Value).ownBlock ∧ some k_ ≠ ((.slice cx bz.length co23) : Value).ownBlock) (.slice cU bx.length co22) bx) ∧ Aside0 (Kd.R (Kd.int .u8) 5 wc w.heap.size (fun k_ => some k_ ≠ ((.slice eL bC.length co12) : Value).ownBlock ∧ some k_ ≠ ((.slice cQ bu.length co16) : Value).ownBlock ∧ some k_ ≠ ((.slice cO bv.length co17) : Value).ownBlock ∧ some k_ ≠ ((.slice cU bx.length co22) : Value).ownBlock) (.slice cx bz.length co23) bz) ∧ Aside0 (wc.heap[bo]? = some (.cells #[.int .i64 bW, .int .i64 bY, .int .u64 ca, (.slice cQ bu.length co16), (.slice cO bv.length co17)] 33 (0, 0))) ∧ Aside0 (wc.heap[bg]? = some (.cells #[.int .i64 cd, .int .i64 ci, .int .u64 co, (.slice cU bx.length co22), (.slice cx bz.length co23)] 33 (0, 0))) ∧ Aside0 (Below w.heap.size w wc))
 case first =>
  have H := HC8.out
  clear HC8
  replace H := Option.bind_eq_some_iff.mp H
  obtain ⟨gL, A270, H⟩ := H
  replace H : (if gL = true then (if iO = jm then (if iP = jn then ((ak.f k dU en).bind fun fW => (if fW = true then (a8.j0 k bC dU en (kl != kO) bW bY ca bu bv cd ci co bx bz) else (a8.j0 k bC dU en true bW bY ca bu bv cd ci co bx bz))) else (a8.j0 k bC dU en true bW bY ca bu bv cd ci co bx bz)) else (a8.j0 k bC dU en true bW bY ca bu bv cd ci co bx bz)) else (a8.j0 k bC dU en true bW bY ca bu bv cd ci co bx bz)) = some r := H
  have A27 := Aside0.mk A270
  clear A270
  by_cases c28 : gL = true
  case neg =>
   replace c28 := Bool.eq_false_iff.mpr c28
   subst c28
   have H1 : (a8.j0 k bC dU en true bW bY ca bu bv cd ci co bx bz) = some r := p42z
   clear H
   have H := H1
   clear H1
   have H' := Aside0.mk H
   clear H
   have hnb55 := NB299_311.out
   have hnc55 := NB311_299.out
   have hcz56_0 : w26.cell? ⟨bo, 0, none⟩ = some (.int .i64 bW) := (blk_cell b8.out 0).trans rfl
   have hcz56_1 : w26.cell? ⟨bo, 1, none⟩ = some (.int .i64 bY) := (blk_cell b8.out 1).trans rfl
   have hcz56_2 : w26.cell? ⟨bo, 2, none⟩ = some (.int .u64 ca) := (blk_cell b8.out 2).trans rfl
   have hcz56_3 : w26.cell? ⟨bo, 3, none⟩ = some (.slice cQ bu.length co16) := (blk_cell b8.out 3).trans rfl
   have hcz56_4 : w26.cell? ⟨bo, 4, none⟩ = some (.slice cO bv.length co17) := (blk_cell b8.out 4).trans rfl
   have hfz56_0 := blk_frozen b8.out 0
   have hfz56_1 := blk_frozen b8.out 1
   have hfz56_2 := blk_frozen b8.out 2
   have hfz56_3 := blk_frozen b8.out 3
   have hfz56_4 := blk_frozen b8.out 4
   have hcz57_0 : w26.cell? ⟨bg, 0, none⟩ = some (.int .i64 cd) := (blk_cell bb.out 0).trans rfl
   have hcz57_1 : w26.cell? ⟨bg, 1, none⟩ = some (.int .i64 ci) := (blk_cell bb.out 1).trans rfl
   have hcz57_2 : w26.cell? ⟨bg, 2, none⟩ = some (.int .u64 co) := (blk_cell bb.out 2).trans rfl
   have hcz57_3 : w26.cell? ⟨bg, 3, none⟩ = some (.slice cU bx.length co22) := (blk_cell bb.out 3).trans rfl
   have hcz57_4 : w26.cell? ⟨bg, 4, none⟩ = some (.slice cx bz.length co23) := (blk_cell bb.out 4).trans rfl
   have hfz57_0 := blk_frozen bb.out 0
   have hfz57_1 := blk_frozen bb.out 1
   have hfz57_2 := blk_frozen bb.out 2
   have hfz57_3 := blk_frozen bb.out 3
   have hfz57_4 := blk_frozen bb.out 4
   go_wp2_with (first | ((with_reducible refine gate_callee (f := 28) rfl ?_); refine goesL_ (some 43) rfl rfl Try.func28 p16z rfl #[.agg #[.int .i64 bW, .int .i64 bY, .int .u64 ca, .slice cQ bu.length co16, .slice cO bv.length co17], .agg #[.int .i64 cd, .int .i64 ci, .int .u64 co, .slice cU bx.length co22, .slice cx bz.length co23]] rfl p2z ?_; (with_reducible refine (ai.calls bW bY ca _ _ bu _ _ bv cd ci co _ _ bx _ _ bz false _ ?side1 ?side2 ?side3 ?side4 ?side5 ?side6 ?side7 ?side8 A27.out).mono ?_); (case side1 => exact p118z); (case side2 => exact (Kd.R_reads' dk.out).2.1); (case side3 => exact p119z); (case side4 => exact (Kd.R_reads' dl.out).2.1); (case side5 => exact p120z); (case side6 => exact (Kd.R_reads' dJ.out).2.1); (case side7 => exact p121z); (case side8 => exact (Kd.R_reads' dK.out).2.1); rintro e w58 ⟨rfl, hb⟩; refine ⟨_, rfl, ?_⟩; have n0_ := Aside0.mk (Kd.V_below p69z hb); have n1_ := Aside0.mk (Kd.R_below p39z hb); have n2_ := Aside0.mk (Kd.R_below p45z hb); have n3_ := Aside0.mk (Kd.R_below p46z hb); have n4_ := Aside0.mk (Kd.R_below p54z hb); have n5_ := Aside0.mk (Kd.R_below p55z hb); have n6_ := Aside0.mk (Kd.S_below p102z hb); have n7_ := Aside0.mk (Kd.S_below p125z hb); have n8_ := Aside0.mk (blk_below (g := bo) (o := .cells #[.int .i64 bW, .int .i64 bY, .int .u64 ca, .slice cQ bu.length co16, .slice cO bv.length co17] 33 (0, 0)) p29z hb); have n9_ := Aside0.mk (blk_below (g := bg) (o := .cells #[.int .i64 cd, .int .i64 ci, .int .u64 co, .slice cU bx.length co22, .slice cx bz.length co23] 33 (0, 0)) p33z hb); have ce := Aside0.mk (below_step p14z hb); clear db; clear dv; clear dk; clear dl; clear dJ; clear dK; clear ei; clear ez; clear b8; clear bb; clear HB; have db := n0_; have dv := n1_; have dk := n2_; have dl := n3_; have dJ := n4_; have dK := n5_; have ei := n6_; have ez := n7_; have b8 := n8_; have bb := n9_; have HB := ce; clear n0_ n1_ n2_ n3_ n4_ n5_ n6_ n7_ n8_ n9_ ce; (try clear hb)))
   go_meet
   case rel => exact ⟨_, (true), p21z, H', ⟨p160z⟩, ⟨p39z⟩, ⟨p88z⟩, ⟨p89z⟩, ⟨p45z⟩, ⟨p46z⟩, ⟨p54z⟩, ⟨p55z⟩, ⟨p29z⟩, ⟨p33z⟩, ⟨p14z⟩⟩
  subst c28
  have H1 : (if iO = jm then (if iP = jn then ((ak.f k dU en).bind fun fW => (if fW = true then (a8.j0 k bC dU en (kl != kO) bW bY ca bu bv cd ci co bx bz) else (a8.j0 k bC dU en true bW bY ca bu bv cd ci co bx bz))) else (a8.j0 k bC dU en true bW bY ca bu bv cd ci co bx bz)) else (a8.j0 k bC dU en true bW bY ca bu bv cd ci co bx bz)) = some r := p99z
  clear H
  have H := H1
  clear H1
  by_cases c29 : iO = jm
  case neg =>
   rw [if_neg c29] at H
   have gS : (iO == jm) = false := beq_eq_false_iff_ne.mpr c29
   have l9 : (iO != jm) = true := bne_iff_ne.mpr c29
   (first | rw [gS] | (simp only [i64_w, i32_w]; rw [gS]) | skip)
   have H' := Aside0.mk H
   clear H
   have hnb51 := NB299_311.out
   have hnc51 := NB311_299.out
   have hcz52_0 : w26.cell? ⟨bo, 0, none⟩ = some (.int .i64 bW) := (blk_cell b8.out 0).trans rfl
   have hcz52_1 : w26.cell? ⟨bo, 1, none⟩ = some (.int .i64 bY) := (blk_cell b8.out 1).trans rfl
   have hcz52_2 : w26.cell? ⟨bo, 2, none⟩ = some (.int .u64 ca) := (blk_cell b8.out 2).trans rfl
   have hcz52_3 : w26.cell? ⟨bo, 3, none⟩ = some (.slice cQ bu.length co16) := (blk_cell b8.out 3).trans rfl
   have hcz52_4 : w26.cell? ⟨bo, 4, none⟩ = some (.slice cO bv.length co17) := (blk_cell b8.out 4).trans rfl
   have hfz52_0 := blk_frozen b8.out 0
   have hfz52_1 := blk_frozen b8.out 1
   have hfz52_2 := blk_frozen b8.out 2
   have hfz52_3 := blk_frozen b8.out 3
   have hfz52_4 := blk_frozen b8.out 4
   have hcz53_0 : w26.cell? ⟨bg, 0, none⟩ = some (.int .i64 cd) := (blk_cell bb.out 0).trans rfl
   have hcz53_1 : w26.cell? ⟨bg, 1, none⟩ = some (.int .i64 ci) := (blk_cell bb.out 1).trans rfl
   have hcz53_2 : w26.cell? ⟨bg, 2, none⟩ = some (.int .u64 co) := (blk_cell bb.out 2).trans rfl
   have hcz53_3 : w26.cell? ⟨bg, 3, none⟩ = some (.slice cU bx.length co22) := (blk_cell bb.out 3).trans rfl
   have hcz53_4 : w26.cell? ⟨bg, 4, none⟩ = some (.slice cx bz.length co23) := (blk_cell bb.out 4).trans rfl
   have hfz53_0 := blk_frozen bb.out 0
   have hfz53_1 := blk_frozen bb.out 1
   have hfz53_2 := blk_frozen bb.out 2
   have hfz53_3 := blk_frozen bb.out 3
   have hfz53_4 := blk_frozen bb.out 4
   go_wp2_with (first | ((with_reducible refine gate_callee (f := 28) rfl ?_); refine goesL_ (some 43) rfl rfl Try.func28 p16z rfl #[.agg #[.int .i64 bW, .int .i64 bY, .int .u64 ca, .slice cQ bu.length co16, .slice cO bv.length co17], .agg #[.int .i64 cd, .int .i64 ci, .int .u64 co, .slice cU bx.length co22, .slice cx bz.length co23]] rfl p2z ?_; (with_reducible refine (ai.calls bW bY ca _ _ bu _ _ bv cd ci co _ _ bx _ _ bz true _ ?side1 ?side2 ?side3 ?side4 ?side5 ?side6 ?side7 ?side8 A27.out).mono ?_); (case side1 => exact p118z); (case side2 => exact (Kd.R_reads' dk.out).2.1); (case side3 => exact p119z); (case side4 => exact (Kd.R_reads' dl.out).2.1); (case side5 => exact p120z); (case side6 => exact (Kd.R_reads' dJ.out).2.1); (case side7 => exact p121z); (case side8 => exact (Kd.R_reads' dK.out).2.1); rintro e w54 ⟨rfl, hb⟩; refine ⟨_, rfl, ?_⟩; have n0_ := Aside0.mk (Kd.V_below p69z hb); have n1_ := Aside0.mk (Kd.R_below p39z hb); have n2_ := Aside0.mk (Kd.R_below p45z hb); have n3_ := Aside0.mk (Kd.R_below p46z hb); have n4_ := Aside0.mk (Kd.R_below p54z hb); have n5_ := Aside0.mk (Kd.R_below p55z hb); have n6_ := Aside0.mk (Kd.S_below p102z hb); have n7_ := Aside0.mk (Kd.S_below p125z hb); have n8_ := Aside0.mk (blk_below (g := bo) (o := .cells #[.int .i64 bW, .int .i64 bY, .int .u64 ca, .slice cQ bu.length co16, .slice cO bv.length co17] 33 (0, 0)) p29z hb); have n9_ := Aside0.mk (blk_below (g := bg) (o := .cells #[.int .i64 cd, .int .i64 ci, .int .u64 co, .slice cU bx.length co22, .slice cx bz.length co23] 33 (0, 0)) p33z hb); have ce := Aside0.mk (below_step p14z hb); clear db; clear dv; clear dk; clear dl; clear dJ; clear dK; clear ei; clear ez; clear b8; clear bb; clear HB; have db := n0_; have dv := n1_; have dk := n2_; have dl := n3_; have dJ := n4_; have dK := n5_; have ei := n6_; have ez := n7_; have b8 := n8_; have bb := n9_; have HB := ce; clear n0_ n1_ n2_ n3_ n4_ n5_ n6_ n7_ n8_ n9_ ce; (try clear hb)))
   go_meet
   case rel => exact ⟨_, (true), p21z, H', ⟨p160z⟩, ⟨p39z⟩, ⟨p88z⟩, ⟨p89z⟩, ⟨p45z⟩, ⟨p46z⟩, ⟨p54z⟩, ⟨p55z⟩, ⟨p29z⟩, ⟨p33z⟩, ⟨p14z⟩⟩
  rw [if_pos c29] at H
  have gS : (iO == jm) = true := beq_iff_eq.mpr c29
  have l9 : (iO != jm) = false := bne_eq_false_iff_eq.mpr c29
  clear c29
  (first | rw [gS] | (simp only [i64_w, i32_w]; rw [gS]) | skip)
  by_cases c30 : iP = jn
  case neg =>
   rw [if_neg c30] at H
   have c30b0 : (iP == jn) = false := beq_eq_false_iff_ne.mpr c30
   have c30b1 : (iP != jn) = true := bne_iff_ne.mpr c30
   have H' := Aside0.mk H
   clear H
   have hnb47 := NB299_311.out
   have hnc47 := NB311_299.out
   have hcz48_0 : w26.cell? ⟨bo, 0, none⟩ = some (.int .i64 bW) := (blk_cell b8.out 0).trans rfl
   have hcz48_1 : w26.cell? ⟨bo, 1, none⟩ = some (.int .i64 bY) := (blk_cell b8.out 1).trans rfl
   have hcz48_2 : w26.cell? ⟨bo, 2, none⟩ = some (.int .u64 ca) := (blk_cell b8.out 2).trans rfl
   have hcz48_3 : w26.cell? ⟨bo, 3, none⟩ = some (.slice cQ bu.length co16) := (blk_cell b8.out 3).trans rfl
   have hcz48_4 : w26.cell? ⟨bo, 4, none⟩ = some (.slice cO bv.length co17) := (blk_cell b8.out 4).trans rfl
   have hfz48_0 := blk_frozen b8.out 0
   have hfz48_1 := blk_frozen b8.out 1
   have hfz48_2 := blk_frozen b8.out 2
   have hfz48_3 := blk_frozen b8.out 3
   have hfz48_4 := blk_frozen b8.out 4
   have hcz49_0 : w26.cell? ⟨bg, 0, none⟩ = some (.int .i64 cd) := (blk_cell bb.out 0).trans rfl
   have hcz49_1 : w26.cell? ⟨bg, 1, none⟩ = some (.int .i64 ci) := (blk_cell bb.out 1).trans rfl
   have hcz49_2 : w26.cell? ⟨bg, 2, none⟩ = some (.int .u64 co) := (blk_cell bb.out 2).trans rfl
   have hcz49_3 : w26.cell? ⟨bg, 3, none⟩ = some (.slice cU bx.length co22) := (blk_cell bb.out 3).trans rfl
   have hcz49_4 : w26.cell? ⟨bg, 4, none⟩ = some (.slice cx bz.length co23) := (blk_cell bb.out 4).trans rfl
   have hfz49_0 := blk_frozen bb.out 0
   have hfz49_1 := blk_frozen bb.out 1
   have hfz49_2 := blk_frozen bb.out 2
   have hfz49_3 := blk_frozen bb.out 3
   have hfz49_4 := blk_frozen bb.out 4
   go_wp2_with (first | ((with_reducible refine gate_callee (f := 28) rfl ?_); refine goesL_ (some 43) rfl rfl Try.func28 p16z rfl #[.agg #[.int .i64 bW, .int .i64 bY, .int .u64 ca, .slice cQ bu.length co16, .slice cO bv.length co17], .agg #[.int .i64 cd, .int .i64 ci, .int .u64 co, .slice cU bx.length co22, .slice cx bz.length co23]] rfl p2z ?_; (with_reducible refine (ai.calls bW bY ca _ _ bu _ _ bv cd ci co _ _ bx _ _ bz true _ ?side1 ?side2 ?side3 ?side4 ?side5 ?side6 ?side7 ?side8 A27.out).mono ?_); (case side1 => exact p118z); (case side2 => exact (Kd.R_reads' dk.out).2.1); (case side3 => exact p119z); (case side4 => exact (Kd.R_reads' dl.out).2.1); (case side5 => exact p120z); (case side6 => exact (Kd.R_reads' dJ.out).2.1); (case side7 => exact p121z); (case side8 => exact (Kd.R_reads' dK.out).2.1); rintro e w50 ⟨rfl, hb⟩; refine ⟨_, rfl, ?_⟩; have n0_ := Aside0.mk (Kd.V_below p69z hb); have n1_ := Aside0.mk (Kd.R_below p39z hb); have n2_ := Aside0.mk (Kd.R_below p45z hb); have n3_ := Aside0.mk (Kd.R_below p46z hb); have n4_ := Aside0.mk (Kd.R_below p54z hb); have n5_ := Aside0.mk (Kd.R_below p55z hb); have n6_ := Aside0.mk (Kd.S_below p102z hb); have n7_ := Aside0.mk (Kd.S_below p125z hb); have n8_ := Aside0.mk (blk_below (g := bo) (o := .cells #[.int .i64 bW, .int .i64 bY, .int .u64 ca, .slice cQ bu.length co16, .slice cO bv.length co17] 33 (0, 0)) p29z hb); have n9_ := Aside0.mk (blk_below (g := bg) (o := .cells #[.int .i64 cd, .int .i64 ci, .int .u64 co, .slice cU bx.length co22, .slice cx bz.length co23] 33 (0, 0)) p33z hb); have ce := Aside0.mk (below_step p14z hb); clear db; clear dv; clear dk; clear dl; clear dJ; clear dK; clear ei; clear ez; clear b8; clear bb; clear HB; have db := n0_; have dv := n1_; have dk := n2_; have dl := n3_; have dJ := n4_; have dK := n5_; have ei := n6_; have ez := n7_; have b8 := n8_; have bb := n9_; have HB := ce; clear n0_ n1_ n2_ n3_ n4_ n5_ n6_ n7_ n8_ n9_ ce; (try clear hb)))
   go_meet
   case rel => exact ⟨_, (true), p21z, H', ⟨p160z⟩, ⟨p39z⟩, ⟨p88z⟩, ⟨p89z⟩, ⟨p45z⟩, ⟨p46z⟩, ⟨p54z⟩, ⟨p55z⟩, ⟨p29z⟩, ⟨p33z⟩, ⟨p14z⟩⟩
  rw [if_pos c30] at H
  have c30b0 : (iP == jn) = true := beq_iff_eq.mpr c30
  have c30b1 : (iP != jn) = false := bne_eq_false_iff_eq.mpr c30
  clear c30
  replace H := Option.bind_eq_some_iff.mp H
  obtain ⟨fW, A310, H⟩ := H
  replace H : (if fW = true then (a8.j0 k bC dU en (kl != kO) bW bY ca bu bv cd ci co bx bz) else (a8.j0 k bC dU en true bW bY ca bu bv cd ci co bx bz)) = some r := H
  have A31 := Aside0.mk A310
  clear A310
  by_cases c32 : fW = true
  case pos =>
   subst c32
   have H1 : (a8.j0 k bC dU en (kl != kO) bW bY ca bu bv cd ci co bx bz) = some r := p99z
   clear H
   have H := H1
   clear H1
   have H' := Aside0.mk H
   clear H
   have hnb33 := NB299_311.out
   have hnc33 := NB311_299.out
   have hcz34_0 : w26.cell? ⟨bo, 0, none⟩ = some (.int .i64 bW) := (blk_cell b8.out 0).trans rfl
   have hcz34_1 : w26.cell? ⟨bo, 1, none⟩ = some (.int .i64 bY) := (blk_cell b8.out 1).trans rfl
   have hcz34_2 : w26.cell? ⟨bo, 2, none⟩ = some (.int .u64 ca) := (blk_cell b8.out 2).trans rfl
   have hcz34_3 : w26.cell? ⟨bo, 3, none⟩ = some (.slice cQ bu.length co16) := (blk_cell b8.out 3).trans rfl
   have hcz34_4 : w26.cell? ⟨bo, 4, none⟩ = some (.slice cO bv.length co17) := (blk_cell b8.out 4).trans rfl
   have hfz34_0 := blk_frozen b8.out 0
   have hfz34_1 := blk_frozen b8.out 1
   have hfz34_2 := blk_frozen b8.out 2
   have hfz34_3 := blk_frozen b8.out 3
   have hfz34_4 := blk_frozen b8.out 4
   have hcz35_0 : w26.cell? ⟨bg, 0, none⟩ = some (.int .i64 cd) := (blk_cell bb.out 0).trans rfl
   have hcz35_1 : w26.cell? ⟨bg, 1, none⟩ = some (.int .i64 ci) := (blk_cell bb.out 1).trans rfl
   have hcz35_2 : w26.cell? ⟨bg, 2, none⟩ = some (.int .u64 co) := (blk_cell bb.out 2).trans rfl
   have hcz35_3 : w26.cell? ⟨bg, 3, none⟩ = some (.slice cU bx.length co22) := (blk_cell bb.out 3).trans rfl
   have hcz35_4 : w26.cell? ⟨bg, 4, none⟩ = some (.slice cx bz.length co23) := (blk_cell bb.out 4).trans rfl
   have hfz35_0 := blk_frozen bb.out 0
   have hfz35_1 := blk_frozen bb.out 1
   have hfz35_2 := blk_frozen bb.out 2
   have hfz35_3 := blk_frozen bb.out 3
   have hfz35_4 := blk_frozen bb.out 4
   go_wp2_with (first | ((with_reducible refine gate_callee (f := 28) rfl ?_); refine goesL_ (some 43) rfl rfl Try.func28 p16z rfl #[.agg #[.int .i64 bW, .int .i64 bY, .int .u64 ca, .slice cQ bu.length co16, .slice cO bv.length co17], .agg #[.int .i64 cd, .int .i64 ci, .int .u64 co, .slice cU bx.length co22, .slice cx bz.length co23]] rfl p2z ?_; (with_reducible refine (ai.calls bW bY ca _ _ bu _ _ bv cd ci co _ _ bx _ _ bz true _ ?side1 ?side2 ?side3 ?side4 ?side5 ?side6 ?side7 ?side8 A27.out).mono ?_); (case side1 => exact p118z); (case side2 => exact (Kd.R_reads' dk.out).2.1); (case side3 => exact p119z); (case side4 => exact (Kd.R_reads' dl.out).2.1); (case side5 => exact p120z); (case side6 => exact (Kd.R_reads' dJ.out).2.1); (case side7 => exact p121z); (case side8 => exact (Kd.R_reads' dK.out).2.1); rintro e w36 ⟨rfl, hb⟩; refine ⟨_, rfl, ?_⟩; have n0_ := Aside0.mk (Kd.V_below p69z hb); have n1_ := Aside0.mk (Kd.R_below p39z hb); have n2_ := Aside0.mk (Kd.R_below p45z hb); have n3_ := Aside0.mk (Kd.R_below p46z hb); have n4_ := Aside0.mk (Kd.R_below p54z hb); have n5_ := Aside0.mk (Kd.R_below p55z hb); have n6_ := Aside0.mk (Kd.S_below p102z hb); have n7_ := Aside0.mk (Kd.S_below p125z hb); have n8_ := Aside0.mk (blk_below (g := bo) (o := .cells #[.int .i64 bW, .int .i64 bY, .int .u64 ca, .slice cQ bu.length co16, .slice cO bv.length co17] 33 (0, 0)) p29z hb); have n9_ := Aside0.mk (blk_below (g := bg) (o := .cells #[.int .i64 cd, .int .i64 ci, .int .u64 co, .slice cU bx.length co22, .slice cx bz.length co23] 33 (0, 0)) p33z hb); have ce := Aside0.mk (below_step p14z hb); clear db; clear dv; clear dk; clear dl; clear dJ; clear dK; clear ei; clear ez; clear b8; clear bb; clear HB; have db := n0_; have dv := n1_; have dk := n2_; have dl := n3_; have dJ := n4_; have dK := n5_; have ei := n6_; have ez := n7_; have b8 := n8_; have bb := n9_; have HB := ce; clear n0_ n1_ n2_ n3_ n4_ n5_ n6_ n7_ n8_ n9_ ce; (try clear hb); obtain ⟨Ao37, co37, eo37⟩ := Kd.S_slice ei.out; subst eo37; obtain ⟨Ao38, co38, eo38⟩ := Kd.S_slice ez.out; subst eo38) | (go_at_call 29; (with_reducible refine (ak.calls k _ _ dU _ _ en true _ ?side1 ?side2 ?side3 ?side4 A31.out).mono ?_); (case side1 => exact p230z); (case side2 => exact (Kd.S_reads' ei.out).2.1); (case side3 => exact p231z); (case side4 => exact (Kd.S_reads' ez.out).2.1); rintro e w39 ⟨rfl, hb⟩; have n0_ := Aside0.mk (Kd.V_below p69z hb); have n1_ := Aside0.mk (Kd.R_below p39z hb); have n2_ := Aside0.mk (Kd.R_below p45z hb); have n3_ := Aside0.mk (Kd.R_below p46z hb); have n4_ := Aside0.mk (Kd.R_below p54z hb); have n5_ := Aside0.mk (Kd.R_below p55z hb); have n6_ := Aside0.mk (Kd.S_below p102z hb); have n7_ := Aside0.mk (Kd.S_below p125z hb); have n8_ := Aside0.mk (blk_below (g := bo) (o := .cells #[.int .i64 bW, .int .i64 bY, .int .u64 ca, .slice cQ bu.length co16, .slice cO bv.length co17] 33 (0, 0)) p29z hb); have n9_ := Aside0.mk (blk_below (g := bg) (o := .cells #[.int .i64 cd, .int .i64 ci, .int .u64 co, .slice cU bx.length co22, .slice cx bz.length co23] 33 (0, 0)) p33z hb); have ce := Aside0.mk (below_step p14z hb); clear db; clear dv; clear dk; clear dl; clear dJ; clear dK; clear ei; clear ez; clear b8; clear bb; clear HB; have db := n0_; have dv := n1_; have dk := n2_; have dl := n3_; have dJ := n4_; have dK := n5_; have ei := n6_; have ez := n7_; have b8 := n8_; have bb := n9_; have HB := ce; clear n0_ n1_ n2_ n3_ n4_ n5_ n6_ n7_ n8_ n9_ ce; (try clear hb)))
   go_meet
   case rel => exact ⟨_, ((kl != kO)), p21z, H', ⟨p160z⟩, ⟨p39z⟩, ⟨p88z⟩, ⟨p89z⟩, ⟨p45z⟩, ⟨p46z⟩, ⟨p54z⟩, ⟨p55z⟩, ⟨p29z⟩, ⟨p33z⟩, ⟨p14z⟩⟩
  replace c32 := Bool.eq_false_iff.mpr c32
  subst c32
  have H1 : (a8.j0 k bC dU en true bW bY ca bu bv cd ci co bx bz) = some r := p42z
  clear H
  have H := H1
  clear H1
  have H' := Aside0.mk H
  clear H
  have hnb40 := NB299_311.out
  have hnc40 := NB311_299.out
  have hcz41_0 : w26.cell? ⟨bo, 0, none⟩ = some (.int .i64 bW) := (blk_cell b8.out 0).trans rfl
  have hcz41_1 : w26.cell? ⟨bo, 1, none⟩ = some (.int .i64 bY) := (blk_cell b8.out 1).trans rfl
  have hcz41_2 : w26.cell? ⟨bo, 2, none⟩ = some (.int .u64 ca) := (blk_cell b8.out 2).trans rfl
  have hcz41_3 : w26.cell? ⟨bo, 3, none⟩ = some (.slice cQ bu.length co16) := (blk_cell b8.out 3).trans rfl
  have hcz41_4 : w26.cell? ⟨bo, 4, none⟩ = some (.slice cO bv.length co17) := (blk_cell b8.out 4).trans rfl
  have hfz41_0 := blk_frozen b8.out 0
  have hfz41_1 := blk_frozen b8.out 1
  have hfz41_2 := blk_frozen b8.out 2
  have hfz41_3 := blk_frozen b8.out 3
  have hfz41_4 := blk_frozen b8.out 4
  have hcz42_0 : w26.cell? ⟨bg, 0, none⟩ = some (.int .i64 cd) := (blk_cell bb.out 0).trans rfl
  have hcz42_1 : w26.cell? ⟨bg, 1, none⟩ = some (.int .i64 ci) := (blk_cell bb.out 1).trans rfl
  have hcz42_2 : w26.cell? ⟨bg, 2, none⟩ = some (.int .u64 co) := (blk_cell bb.out 2).trans rfl
  have hcz42_3 : w26.cell? ⟨bg, 3, none⟩ = some (.slice cU bx.length co22) := (blk_cell bb.out 3).trans rfl
  have hcz42_4 : w26.cell? ⟨bg, 4, none⟩ = some (.slice cx bz.length co23) := (blk_cell bb.out 4).trans rfl
  have hfz42_0 := blk_frozen bb.out 0
  have hfz42_1 := blk_frozen bb.out 1
  have hfz42_2 := blk_frozen bb.out 2
  have hfz42_3 := blk_frozen bb.out 3
  have hfz42_4 := blk_frozen bb.out 4
  go_wp2_with (first | ((with_reducible refine gate_callee (f := 28) rfl ?_); refine goesL_ (some 43) rfl rfl Try.func28 p16z rfl #[.agg #[.int .i64 bW, .int .i64 bY, .int .u64 ca, .slice cQ bu.length co16, .slice cO bv.length co17], .agg #[.int .i64 cd, .int .i64 ci, .int .u64 co, .slice cU bx.length co22, .slice cx bz.length co23]] rfl p2z ?_; (with_reducible refine (ai.calls bW bY ca _ _ bu _ _ bv cd ci co _ _ bx _ _ bz true _ ?side1 ?side2 ?side3 ?side4 ?side5 ?side6 ?side7 ?side8 A27.out).mono ?_); (case side1 => exact p118z); (case side2 => exact (Kd.R_reads' dk.out).2.1); (case side3 => exact p119z); (case side4 => exact (Kd.R_reads' dl.out).2.1); (case side5 => exact p120z); (case side6 => exact (Kd.R_reads' dJ.out).2.1); (case side7 => exact p121z); (case side8 => exact (Kd.R_reads' dK.out).2.1); rintro e w43 ⟨rfl, hb⟩; refine ⟨_, rfl, ?_⟩; have n0_ := Aside0.mk (Kd.V_below p69z hb); have n1_ := Aside0.mk (Kd.R_below p39z hb); have n2_ := Aside0.mk (Kd.R_below p45z hb); have n3_ := Aside0.mk (Kd.R_below p46z hb); have n4_ := Aside0.mk (Kd.R_below p54z hb); have n5_ := Aside0.mk (Kd.R_below p55z hb); have n6_ := Aside0.mk (Kd.S_below p102z hb); have n7_ := Aside0.mk (Kd.S_below p125z hb); have n8_ := Aside0.mk (blk_below (g := bo) (o := .cells #[.int .i64 bW, .int .i64 bY, .int .u64 ca, .slice cQ bu.length co16, .slice cO bv.length co17] 33 (0, 0)) p29z hb); have n9_ := Aside0.mk (blk_below (g := bg) (o := .cells #[.int .i64 cd, .int .i64 ci, .int .u64 co, .slice cU bx.length co22, .slice cx bz.length co23] 33 (0, 0)) p33z hb); have ce := Aside0.mk (below_step p14z hb); clear db; clear dv; clear dk; clear dl; clear dJ; clear dK; clear ei; clear ez; clear b8; clear bb; clear HB; have db := n0_; have dv := n1_; have dk := n2_; have dl := n3_; have dJ := n4_; have dK := n5_; have ei := n6_; have ez := n7_; have b8 := n8_; have bb := n9_; have HB := ce; clear n0_ n1_ n2_ n3_ n4_ n5_ n6_ n7_ n8_ n9_ ce; (try clear hb); obtain ⟨Ao44, co44, eo44⟩ := Kd.S_slice ei.out; subst eo44; obtain ⟨lV, co45, eo45⟩ := Kd.S_slice ez.out; subst eo45) | (go_at_call 29; (with_reducible refine (ak.calls k _ _ dU _ _ en false _ ?side1 ?side2 ?side3 ?side4 A31.out).mono ?_); (case side1 => exact p230z); (case side2 => exact (Kd.S_reads' ei.out).2.1); (case side3 => exact p231z); (case side4 => exact (Kd.S_reads' ez.out).2.1); rintro e w46 ⟨rfl, hb⟩; have n0_ := Aside0.mk (Kd.V_below p69z hb); have n1_ := Aside0.mk (Kd.R_below p39z hb); have n2_ := Aside0.mk (Kd.R_below p45z hb); have n3_ := Aside0.mk (Kd.R_below p46z hb); have n4_ := Aside0.mk (Kd.R_below p54z hb); have n5_ := Aside0.mk (Kd.R_below p55z hb); have n6_ := Aside0.mk (Kd.S_below p102z hb); have n7_ := Aside0.mk (Kd.S_below p125z hb); have n8_ := Aside0.mk (blk_below (g := bo) (o := .cells #[.int .i64 bW, .int .i64 bY, .int .u64 ca, .slice cQ bu.length co16, .slice cO bv.length co17] 33 (0, 0)) p29z hb); have n9_ := Aside0.mk (blk_below (g := bg) (o := .cells #[.int .i64 cd, .int .i64 ci, .int .u64 co, .slice cU bx.length co22, .slice cx bz.length co23] 33 (0, 0)) p33z hb); have ce := Aside0.mk (below_step p14z hb); clear db; clear dv; clear dk; clear dl; clear dJ; clear dK; clear ei; clear ez; clear b8; clear bb; clear HB; have db := n0_; have dv := n1_; have dk := n2_; have dl := n3_; have dJ := n4_; have dK := n5_; have ei := n6_; have ez := n7_; have b8 := n8_; have bb := n9_; have HB := ce; clear n0_ n1_ n2_ n3_ n4_ n5_ n6_ n7_ n8_ n9_ ce; (try clear hb)))
  go_meet
  case rel => exact ⟨_, (true), p21z, H', ⟨p160z⟩, ⟨p39z⟩, ⟨p88z⟩, ⟨p89z⟩, ⟨p45z⟩, ⟨p46z⟩, ⟨p54z⟩, ⟨p55z⟩, ⟨p29z⟩, ⟨p33z⟩, ⟨p14z⟩⟩
 case rest =>
  clear HC8
  try clear hcz15_0
  try clear hcz15_1
  try clear hcz15_2
  try clear hcz15_3
  try clear hcz15_4
  try clear hcz21_0
  try clear hcz21_1
  try clear hcz21_2
  try clear hcz21_3
  try clear hcz21_4
  try clear hfz15_0
  try clear hfz15_1
  try clear hfz15_2
  try clear hfz15_3
  try clear hfz15_4
  try clear hfz21_0
  try clear hfz21_1
  try clear hfz21_2
  try clear hfz21_3
  try clear hfz21_4
  obtain ⟨kq, li, rfl, HA, HJ7, cv, fw, fx, dg, dh, di, dj, b8, bb, HB⟩ := hcut
  cases kq with
  | zero => exact absurd HA.out (by simp [a8.j0])
  | succ kj7 =>
   have H := HA.out
   clear HA
   simp only [a8.j0] at H
   by_cases c59 : li = true
   case pos =>
    subst c59
    have H1 : (none) = some r := p99z
    clear H
    have H := H1
    clear H1
    exact absurd H (by simp)
   replace c59 := Bool.eq_false_iff.mpr c59
   subst c59
   have H1 : (a8.l0 kj7 bC dU en 0 bW bY ca bu bv cd ci co bx bz) = some r := p42z
   clear H
   have H := H1
   clear H1
   have H' := Aside0.mk H
   clear H
   go_wp2
   go_loopg [14] kj7 (fun kq v14 w' => ∃ (fu : List Int) (eu : Int), v14 = .int .i64 eu ∧ Aside0 (a8.l0 kq fu dU en eu bW bY ca bu bv cd ci co bx bz = some r) ∧ Aside0 (kq ≤ kj7) ∧ Aside0 (Kd.R (Kd.int .u8) 5 w' w.heap.size (fun k_ => some k_ ≠ ((.slice cQ bu.length co16) : Value).ownBlock ∧ some k_ ≠ ((.slice cO bv.length co17) : Value).ownBlock ∧ some k_ ≠ ((.slice cU bx.length co22) : Value).ownBlock ∧ some k_ ≠ ((.slice cx bz.length co23) : Value).ownBlock) (.slice eL bC.length co12) fu) ∧ Aside0 (Kd.S k33 33 w' w.heap.size (fun k_ => some k_ ≠ ((.slice eL bC.length co12) : Value).ownBlock ∧ some k_ ≠ (mf : Value).ownBlock ∧ some k_ ≠ ((.slice cQ bu.length co16) : Value).ownBlock ∧ some k_ ≠ ((.slice cO bv.length co17) : Value).ownBlock ∧ some k_ ≠ ((.slice cU bx.length co22) : Value).ownBlock ∧ some k_ ≠ ((.slice cx bz.length co23) : Value).ownBlock ∧ k_ ≠ bo ∧ k_ ≠ bg) lI dU) ∧ Aside0 (Kd.S k33 33 w' w.heap.size (fun k_ => some k_ ≠ ((.slice eL bC.length co12) : Value).ownBlock ∧ some k_ ≠ (lI : Value).ownBlock ∧ some k_ ≠ ((.slice cQ bu.length co16) : Value).ownBlock ∧ some k_ ≠ ((.slice cO bv.length co17) : Value).ownBlock ∧ some k_ ≠ ((.slice cU bx.length co22) : Value).ownBlock ∧ some k_ ≠ ((.slice cx bz.length co23) : Value).ownBlock ∧ k_ ≠ bo ∧ k_ ≠ bg) mf en) ∧ Aside0 (Kd.R (Kd.int .u8) 5 w' w.heap.size (fun k_ => some k_ ≠ ((.slice eL bC.length co12) : Value).ownBlock ∧ some k_ ≠ ((.slice cO bv.length co17) : Value).ownBlock ∧ some k_ ≠ ((.slice cU bx.length co22) : Value).ownBlock ∧ some k_ ≠ ((.slice cx bz.length co23) : Value).ownBlock) (.slice cQ bu.length co16) bu) ∧ Aside0 (Kd.R (Kd.int .u8) 5 w' w.heap.size (fun k_ => some k_ ≠ ((.slice eL bC.length co12) : Value).ownBlock ∧ some k_ ≠ ((.slice cQ bu.length co16) : Value).ownBlock ∧ some k_ ≠ ((.slice cU bx.length co22) : Value).ownBlock ∧ some k_ ≠ ((.slice cx bz.length co23) : Value).ownBlock) (.slice cO bv.length co17) bv) ∧ Aside0 (Kd.R (Kd.int .u8) 5 w' w.heap.size (fun k_ => some k_ ≠ ((.slice eL bC.length co12) : Value).ownBlock ∧ some k_ ≠ ((.slice cQ bu.length co16) : Value).ownBlock ∧ some k_ ≠ ((.slice cO bv.length co17) : Value).ownBlock ∧ some k_ ≠ ((.slice cx bz.length co23) : Value).ownBlock) (.slice cU bx.length co22) bx) ∧ Aside0 (Kd.R (Kd.int .u8) 5 w' w.heap.size (fun k_ => some k_ ≠ ((.slice eL bC.length co12) : Value).ownBlock ∧ some k_ ≠ ((.slice cQ bu.length co16) : Value).ownBlock ∧ some k_ ≠ ((.slice cO bv.length co17) : Value).ownBlock ∧ some k_ ≠ ((.slice cU bx.length co22) : Value).ownBlock) (.slice cx bz.length co23) bz) ∧ Aside0 (w'.heap[bo]? = some (.cells #[.int .i64 bW, .int .i64 bY, .int .u64 ca, (.slice cQ bu.length co16), (.slice cO bv.length co17)] 33 (0, 0))) ∧ Aside0 (w'.heap[bg]? = some (.cells #[.int .i64 cd, .int .i64 ci, .int .u64 co, (.slice cU bx.length co22), (.slice cx bz.length co23)] 33 (0, 0))) ∧ Aside0 (Below w.heap.size w w'))
   case atStart => exact ⟨(bC), (0), p21z, H', ⟨Nat.le_refl _⟩, ⟨p56z⟩, ⟨p190z⟩, ⟨p191z⟩, ⟨p180z⟩, ⟨p181z⟩, ⟨p182z⟩, ⟨p183z⟩, ⟨p29z⟩, ⟨p33z⟩, ⟨p14z⟩⟩
   case round =>
    clear H'
    try clear c59
    obtain ⟨fu, eu, rfl, HA, HK2, cv, fw, fx, dg, dh, di, dj, b8, bb, HB⟩ := hrel
    have hl3_2 := (Kd.R_reads' cv.out).1
    rw [hl3_2] at cv
    (try simp only [hl3_2])
    (try simp only [hl3_2] at b8)
    (try simp only [hl3_2] at bb)
    (try simp only [hl3_2] at fw)
    (try simp only [hl3_2] at fx)
    (try simp only [hl3_2] at dg)
    (try simp only [hl3_2] at dh)
    (try simp only [hl3_2] at di)
    (try simp only [hl3_2] at dj)
    cases gk with
    | zero => exact absurd HA.out (by simp [a8.l0])
    | succ k2 =>
     have H := HA.out
     clear HA
     simp only [a8.l0] at H
     by_cases c60 : eu < (fu.length : Int)
     case neg =>
      rw [if_neg c60] at H
      have mg : decide (eu < (fu.length : Int)) = false := decide_eq_false c60
      clear c60
      replace H := Option.bind_eq_some_iff.mp H
      obtain ⟨t324, A650, H⟩ := H
      replace H : (if t324 = true then ((ak.f k2 dU en).bind fun kk => (if kk = true then ((ac.f).bind fun iN => (some iN)) else (none))) else (none)) = some r := H
      have A65 := Aside0.mk A650
      clear A650
      by_cases c66 : t324 = true
      case neg =>
       replace c66 := Bool.eq_false_iff.mpr c66
       subst c66
       have H1 : (none) = some r := p42z
       clear H
       have H := H1
       clear H1
       exact absurd H (by simp)

      subst c66
      have H1 : ((ak.f k2 dU en).bind fun kk => (if kk = true then ((ac.f).bind fun iN => (some iN)) else (none))) = some r := p99z
      clear H
      have H := H1
      clear H1
      replace H := Option.bind_eq_some_iff.mp H
      obtain ⟨kk, A670, H⟩ := H
      replace H : (if kk = true then ((ac.f).bind fun iN => (some iN)) else (none)) = some r := H
      have A67 := Aside0.mk A670
      clear A670
      by_cases c68 : kk = true
      case neg =>
       replace c68 := Bool.eq_false_iff.mpr c68
       subst c68
       have H1 : (none) = some r := p42z
       clear H
       have H := H1
       clear H1
       exact absurd H (by simp)
      subst c68
      have H1 : ((ac.f).bind fun iN => (some iN)) = some r := p99z
      clear H
      have H := H1
      clear H1
      replace H := Option.bind_eq_some_iff.mp H
      obtain ⟨iN, A690, H⟩ := H
      replace H : (some iN) = some r := H
      have A69 := Aside0.mk A690
      clear A690
      obtain rfl := Option.some.inj H
      have hnb70 := NB299_311.out
      have hnc70 := NB311_299.out
      have hcz71_0 : wr.cell? ⟨bo, 0, none⟩ = some (.int .i64 bW) := (blk_cell b8.out 0).trans rfl
      have hcz71_1 : wr.cell? ⟨bo, 1, none⟩ = some (.int .i64 bY) := (blk_cell b8.out 1).trans rfl
      have hcz71_2 : wr.cell? ⟨bo, 2, none⟩ = some (.int .u64 ca) := (blk_cell b8.out 2).trans rfl
      have hcz71_3 : wr.cell? ⟨bo, 3, none⟩ = some (.slice cQ bu.length co16) := (blk_cell b8.out 3).trans rfl
      have hcz71_4 : wr.cell? ⟨bo, 4, none⟩ = some (.slice cO bv.length co17) := (blk_cell b8.out 4).trans rfl
      have hfz71_0 := blk_frozen b8.out 0
      have hfz71_1 := blk_frozen b8.out 1
      have hfz71_2 := blk_frozen b8.out 2
      have hfz71_3 := blk_frozen b8.out 3
      have hfz71_4 := blk_frozen b8.out 4
      have hcz72_0 : wr.cell? ⟨bg, 0, none⟩ = some (.int .i64 cd) := (blk_cell bb.out 0).trans rfl
      have hcz72_1 : wr.cell? ⟨bg, 1, none⟩ = some (.int .i64 ci) := (blk_cell bb.out 1).trans rfl
      have hcz72_2 : wr.cell? ⟨bg, 2, none⟩ = some (.int .u64 co) := (blk_cell bb.out 2).trans rfl
      have hcz72_3 : wr.cell? ⟨bg, 3, none⟩ = some (.slice cU bx.length co22) := (blk_cell bb.out 3).trans rfl
      have hcz72_4 : wr.cell? ⟨bg, 4, none⟩ = some (.slice cx bz.length co23) := (blk_cell bb.out 4).trans rfl
      have hfz72_0 := blk_frozen bb.out 0
      have hfz72_1 := blk_frozen bb.out 1
      have hfz72_2 := blk_frozen bb.out 2
      have hfz72_3 := blk_frozen bb.out 3
      have hfz72_4 := blk_frozen bb.out 4
      go_wp2_with (first | ((with_reducible refine gate_callee (f := 28) rfl ?_); refine goesL_ (some 82) rfl rfl Try.func28 p16z rfl #[.agg #[.int .i64 bW, .int .i64 bY, .int .u64 ca, .slice cQ bu.length co16, .slice cO bv.length co17], .agg #[.int .i64 cd, .int .i64 ci, .int .u64 co, .slice cU bx.length co22, .slice cx bz.length co23]] rfl p2z ?_; (with_reducible refine (ai.calls bW bY ca _ _ bu _ _ bv cd ci co _ _ bx _ _ bz true _ ?side1 ?side2 ?side3 ?side4 ?side5 ?side6 ?side7 ?side8 A65.out).mono ?_); (case side1 => repeat (first | exact (Kd.R_reads' dg.out).2.2 | (with_reducible refine Kd.C_alloc ?_ _) | (with_reducible refine Kd.C_drewN ?_ _) | (with_reducible refine Kd.C_drew ?_))); (case side2 => exact (Kd.R_reads' dg.out).2.1); (case side3 => repeat (first | exact (Kd.R_reads' dh.out).2.2 | (with_reducible refine Kd.C_alloc ?_ _) | (with_reducible refine Kd.C_drewN ?_ _) | (with_reducible refine Kd.C_drew ?_))); (case side4 => exact (Kd.R_reads' dh.out).2.1); (case side5 => repeat (first | exact (Kd.R_reads' di.out).2.2 | (with_reducible refine Kd.C_alloc ?_ _) | (with_reducible refine Kd.C_drewN ?_ _) | (with_reducible refine Kd.C_drew ?_))); (case side6 => exact (Kd.R_reads' di.out).2.1); (case side7 => repeat (first | exact (Kd.R_reads' dj.out).2.2 | (with_reducible refine Kd.C_alloc ?_ _) | (with_reducible refine Kd.C_drewN ?_ _) | (with_reducible refine Kd.C_drew ?_))); (case side8 => exact (Kd.R_reads' dj.out).2.1); rintro e w73 ⟨rfl, hb⟩; refine ⟨_, rfl, ?_⟩; have z_ := asi10 (Kd.R_below p56z hb) (Kd.S_below p190z hb) (Kd.S_below p191z hb) (Kd.R_below p180z hb) (Kd.R_below p181z hb) (Kd.R_below p182z hb) (Kd.R_below p183z hb) (blk_below (g := bo) (o := .cells #[.int .i64 bW, .int .i64 bY, .int .u64 ca, .slice cQ bu.length co16, .slice cO bv.length co17] 33 (0, 0)) p29z hb) (blk_below (g := bg) (o := .cells #[.int .i64 cd, .int .i64 ci, .int .u64 co, .slice cU bx.length co22, .slice cx bz.length co23] 33 (0, 0)) p33z hb) (below_step p14z hb); clear cv fw fx dg dh di dj b8 bb HB; obtain ⟨cv, fw, fx, dg, dh, di, dj, b8, bb, HB⟩ := z_; (try clear hb); obtain ⟨Ao74, co74, eo74⟩ := Kd.S_slice fw.out; subst eo74; obtain ⟨lC, co75, eo75⟩ := Kd.S_slice fx.out; subst eo75) | (go_at_call 29; (with_reducible refine (ak.calls k2 _ _ dU _ _ en true _ ?side1 ?side2 ?side3 ?side4 A67.out).mono ?_); (case side1 => repeat (first | exact (Kd.S_reads' fw.out).2.2 | (with_reducible refine Kd.C_alloc ?_ _) | (with_reducible refine Kd.C_drewN ?_ _) | (with_reducible refine Kd.C_drew ?_))); (case side2 => exact (Kd.S_reads' fw.out).2.1); (case side3 => repeat (first | exact (Kd.S_reads' fx.out).2.2 | (with_reducible refine Kd.C_alloc ?_ _) | (with_reducible refine Kd.C_drewN ?_ _) | (with_reducible refine Kd.C_drew ?_))); (case side4 => exact (Kd.S_reads' fx.out).2.1); rintro e w76 ⟨rfl, hb⟩; have z_ := asi10 (Kd.R_below p56z hb) (Kd.S_below p190z hb) (Kd.S_below p191z hb) (Kd.R_below p180z hb) (Kd.R_below p181z hb) (Kd.R_below p182z hb) (Kd.R_below p183z hb) (blk_below (g := bo) (o := .cells #[.int .i64 bW, .int .i64 bY, .int .u64 ca, .slice cQ bu.length co16, .slice cO bv.length co17] 33 (0, 0)) p29z hb) (blk_below (g := bg) (o := .cells #[.int .i64 cd, .int .i64 ci, .int .u64 co, .slice cU bx.length co22, .slice cx bz.length co23] 33 (0, 0)) p33z hb) (below_step p14z hb); clear cv fw fx dg dh di dj b8 bb HB; obtain ⟨cv, fw, fx, dg, dh, di, dj, b8, bb, HB⟩ := z_; (try clear hb)) | (go_at_call 22; (with_reducible refine (ac.calls  iN _ A69.out).mono ?_); rintro e w77 ⟨rfl, hb⟩; have z_ := asi10 (Kd.R_below p56z hb) (Kd.S_below p190z hb) (Kd.S_below p191z hb) (Kd.R_below p180z hb) (Kd.R_below p181z hb) (Kd.R_below p182z hb) (Kd.R_below p183z hb) (blk_below (g := bo) (o := .cells #[.int .i64 bW, .int .i64 bY, .int .u64 ca, .slice cQ bu.length co16, .slice cO bv.length co17] 33 (0, 0)) p29z hb) (blk_below (g := bg) (o := .cells #[.int .i64 cd, .int .i64 ci, .int .u64 co, .slice cU bx.length co22, .slice cx bz.length co23] 33 (0, 0)) p33z hb) (below_step p14z hb); clear cv fw fx dg dh di dj b8 bb HB; obtain ⟨cv, fw, fx, dg, dh, di, dj, b8, bb, HB⟩ := z_; (try clear hb)))
      go_ret
      exact ⟨p6z, p14z⟩
     rw [if_pos c60] at H
     have mg : decide (eu < (fu.length : Int)) = true := decide_eq_true c60
     clear c60
     by_cases c61 : 0 ≤ eu
     case neg =>
      rw [if_neg c61] at H
      exact absurd H (by simp)
     rw [if_pos c61] at H
     have c61b0 : decide (0 ≤ eu) = true := decide_eq_true c61
     clear c61
     obtain ⟨y323, hy323⟩ : ∃ y_ : List Int, y_ = (fu.set (eu : Int).toNat (Go.bits .xor .u8 (rd fu eu) 85)) := ⟨_, rfl⟩
     replace H : (a8.l0 k2 y323 dU en (wrap64 (eu + 1)) bW bY ca bu bv cd ci co bx bz) = some r := by first | (rw [hy323]; with_reducible exact H) | (have H2_ := (Option.bind_some _ _).symm.trans H; rw [hy323]; with_reducible exact H2_) | (have H2_ := (Option.bind_some _ _).symm.trans H; with_reducible exact H2_) | with_reducible exact H | (rw [hy323]; exact H) | exact H
     have Ny323 := Aside0.mk hy323
     clear hy323
     have H' := Aside0.mk H
     clear H
     have p322 : 0 ≤ (eu : Int) := of_decide_eq_true p10z
     have q322 : eu < (fu.length : Int) := of_decide_eq_true p10z
     obtain ⟨ad322, e322, hx322_0⟩ := Kd.at_int (Kd.R_reads' cv.out).2.2 eu p322 q322
     cases e322
     replace p322 := eq_true p322
     replace q322 := eq_true q322
     have p62 : 0 ≤ (eu : Int) := of_decide_eq_true p10z
     have q62 : (eu : Int) < ((fu.length : Int) : Int) := of_decide_eq_true p10z
     obtain ⟨go62, co62, eo62, gb62, gl62, cl62, HG62⟩ := Kd.R_form cv.out (by omega)
     (first | cases eo62 | (injection eo62 with ea_ en_ ec_; (first | subst ea_ | (injection ea_ with ea_; subst ea_)); subst ec_; clear en_))
     have GB62 := Aside0.mk gb62
     have GG62 := Aside0.mk HG62
     clear gb62 gl62 HG62
     (first | simp only [add_plain] at hx322_0 | skip)
     obtain ⟨hx62_0, hf62_0⟩ := Kd.R_celln 0 cv.out (eu : Int) p62 q62
     replace p62 := eq_true p62
     replace q62 := eq_true q62
     have HP63 := Kd.R_putg cv.out (eu : Int) (Go.bits .xor .u8 (rd fu eu) 85)
     go_wp2_with (first | ((with_reducible refine gate_store (t := 5) (p := 79) rfl ?_); refine store_event (t := 5) (p := 79) (v := ?vo_w64) (w1 := (wr.setCell ⟨go62, (eu : Int).toNat, none⟩ (.int .u8 (Go.bits .xor .u8 (rd fu eu) 85)))) ?hg ?ho ?hn ?hr ?_; (case ho => rfl); (case hg => rfl); (case hn => rfl); (case hr => exact p22z); intro w64 hw; have hg : wr.grownBy w64 (some go62) := (by rw [hw]; exact HP63.2); have hp_ : Kd.R (Kd.int .u8) 5 w64 w.heap.size (fun k_ => some k_ ≠ (.slice cQ bu.length co16 : Value).ownBlock ∧ some k_ ≠ (.slice cO bv.length co17 : Value).ownBlock ∧ some k_ ≠ (.slice cU bx.length co22 : Value).ownBlock ∧ some k_ ≠ (.slice cx bz.length co23 : Value).ownBlock) (.slice (some ⟨go62, 0, none⟩) fu.length co12) y323 := (by rw [hw, Ny323.out]; exact HP63.1); clear HP63; have z_ := asi10 (hp_) (Kd.S_after (v := (.slice (some ⟨go62, 0, none⟩) fu.length co12)) (v1 := (.slice (some ⟨go62, 0, none⟩) fu.length co12)) (ok := (fun k_ => some k_ ≠ (mf : Value).ownBlock ∧ some k_ ≠ (.slice cQ bu.length co16 : Value).ownBlock ∧ some k_ ≠ (.slice cO bv.length co17 : Value).ownBlock ∧ some k_ ≠ (.slice cU bx.length co22 : Value).ownBlock ∧ some k_ ≠ (.slice cx bz.length co23 : Value).ownBlock ∧ k_ ≠ bo ∧ k_ ≠ bg)) (by (with_reducible repeat (first | apply Kd.S_alloc | apply Kd.S_drewN | apply Kd.S_drew)); exact Kd.S_mono fw.out (fun _ hk => ⟨⟨hk.2.1, ⟨hk.2.2.1, ⟨hk.2.2.2.1, ⟨hk.2.2.2.2.1, ⟨hk.2.2.2.2.2.1, ⟨hk.2.2.2.2.2.2.1, hk.2.2.2.2.2.2.2⟩⟩⟩⟩⟩⟩, hk.1⟩)) hg (.inl rfl)) (Kd.S_after (v := (.slice (some ⟨go62, 0, none⟩) fu.length co12)) (v1 := (.slice (some ⟨go62, 0, none⟩) fu.length co12)) (ok := (fun k_ => some k_ ≠ (lI : Value).ownBlock ∧ some k_ ≠ (.slice cQ bu.length co16 : Value).ownBlock ∧ some k_ ≠ (.slice cO bv.length co17 : Value).ownBlock ∧ some k_ ≠ (.slice cU bx.length co22 : Value).ownBlock ∧ some k_ ≠ (.slice cx bz.length co23 : Value).ownBlock ∧ k_ ≠ bo ∧ k_ ≠ bg)) (by (with_reducible repeat (first | apply Kd.S_alloc | apply Kd.S_drewN | apply Kd.S_drew)); exact Kd.S_mono fx.out (fun _ hk => ⟨⟨hk.2.1, ⟨hk.2.2.1, ⟨hk.2.2.2.1, ⟨hk.2.2.2.2.1, ⟨hk.2.2.2.2.2.1, ⟨hk.2.2.2.2.2.2.1, hk.2.2.2.2.2.2.2⟩⟩⟩⟩⟩⟩, hk.1⟩)) hg (.inl rfl)) (Kd.R_after (v := (.slice (some ⟨go62, 0, none⟩) fu.length co12)) (v1 := (.slice (some ⟨go62, 0, none⟩) fu.length co12)) (ok := (fun k_ => some k_ ≠ (.slice cO bv.length co17 : Value).ownBlock ∧ some k_ ≠ (.slice cU bx.length co22 : Value).ownBlock ∧ some k_ ≠ (.slice cx bz.length co23 : Value).ownBlock)) (by (with_reducible repeat (first | apply Kd.R_alloc | apply Kd.R_drewN | apply Kd.R_drew)); exact Kd.R_mono dg.out (fun _ hk => ⟨⟨hk.2.1, ⟨hk.2.2.1, hk.2.2.2⟩⟩, hk.1⟩)) hg (.inl rfl)) (Kd.R_after (v := (.slice (some ⟨go62, 0, none⟩) fu.length co12)) (v1 := (.slice (some ⟨go62, 0, none⟩) fu.length co12)) (ok := (fun k_ => some k_ ≠ (.slice cQ bu.length co16 : Value).ownBlock ∧ some k_ ≠ (.slice cU bx.length co22 : Value).ownBlock ∧ some k_ ≠ (.slice cx bz.length co23 : Value).ownBlock)) (by (with_reducible repeat (first | apply Kd.R_alloc | apply Kd.R_drewN | apply Kd.R_drew)); exact Kd.R_mono dh.out (fun _ hk => ⟨⟨hk.2.1, ⟨hk.2.2.1, hk.2.2.2⟩⟩, hk.1⟩)) hg (.inl rfl)) (Kd.R_after (v := (.slice (some ⟨go62, 0, none⟩) fu.length co12)) (v1 := (.slice (some ⟨go62, 0, none⟩) fu.length co12)) (ok := (fun k_ => some k_ ≠ (.slice cQ bu.length co16 : Value).ownBlock ∧ some k_ ≠ (.slice cO bv.length co17 : Value).ownBlock ∧ some k_ ≠ (.slice cx bz.length co23 : Value).ownBlock)) (by (with_reducible repeat (first | apply Kd.R_alloc | apply Kd.R_drewN | apply Kd.R_drew)); exact Kd.R_mono di.out (fun _ hk => ⟨⟨hk.2.1, ⟨hk.2.2.1, hk.2.2.2⟩⟩, hk.1⟩)) hg (.inl rfl)) (Kd.R_after (v := (.slice (some ⟨go62, 0, none⟩) fu.length co12)) (v1 := (.slice (some ⟨go62, 0, none⟩) fu.length co12)) (ok := (fun k_ => some k_ ≠ (.slice cQ bu.length co16 : Value).ownBlock ∧ some k_ ≠ (.slice cO bv.length co17 : Value).ownBlock ∧ some k_ ≠ (.slice cU bx.length co22 : Value).ownBlock)) (by (with_reducible repeat (first | apply Kd.R_alloc | apply Kd.R_drewN | apply Kd.R_drew)); exact Kd.R_mono dj.out (fun _ hk => ⟨⟨hk.2.1, ⟨hk.2.2.1, hk.2.2.2⟩⟩, hk.1⟩)) hg (.inl rfl)) (blk_grown (g := bo) (o := .cells #[.int .i64 bW, .int .i64 bY, .int .u64 ca, .slice cQ bu.length co16, .slice cO bv.length co17] 33 (0, 0)) p29z hg (Kd.R_ne cv.out b8.out (by decide))) (blk_grown (g := bg) (o := .cells #[.int .i64 cd, .int .i64 ci, .int .u64 co, .slice cU bx.length co22, .slice cx bz.length co23] 33 (0, 0)) p33z hg (Kd.R_ne cv.out bb.out (by decide))) ((by rw [hw]; exact below_set (HB.out) GB62.out : Below w.heap.size w w64)); clear cv fw fx dg dh di dj b8 bb HB; obtain ⟨cv, fw, fx, dg, dh, di, dj, b8, bb, HB⟩ := z_; clear hg hw hp_))
     (try simp only [← hl3_2])
     go_roundg k2
     case measure => have := HJ7.out; have := HK2.out; omega
     case rel => exact ⟨(y323), (wrap64 (eu + 1)), p21z, H', ⟨by have := HJ7.out; have := HK2.out; omega⟩, ⟨by (try simp only [hl3_2]); (with_reducible repeat (first | apply Kd.R_alloc | apply Kd.R_drewN | apply Kd.R_drew)); exact cv.out⟩, ⟨by (try simp only [hl3_2]); (with_reducible repeat (first | apply Kd.S_alloc | apply Kd.S_drewN | apply Kd.S_drew)); exact Kd.S_mono fw.out (fun _ hk => ⟨hk.2, ⟨hk.1.1, ⟨hk.1.2.1, ⟨hk.1.2.2.1, ⟨hk.1.2.2.2.1, ⟨hk.1.2.2.2.2.1, ⟨hk.1.2.2.2.2.2.1, hk.1.2.2.2.2.2.2⟩⟩⟩⟩⟩⟩⟩)⟩, ⟨by (try simp only [hl3_2]); (with_reducible repeat (first | apply Kd.S_alloc | apply Kd.S_drewN | apply Kd.S_drew)); exact Kd.S_mono fx.out (fun _ hk => ⟨hk.2, ⟨hk.1.1, ⟨hk.1.2.1, ⟨hk.1.2.2.1, ⟨hk.1.2.2.2.1, ⟨hk.1.2.2.2.2.1, ⟨hk.1.2.2.2.2.2.1, hk.1.2.2.2.2.2.2⟩⟩⟩⟩⟩⟩⟩)⟩, ⟨by (try simp only [hl3_2]); (with_reducible repeat (first | apply Kd.R_alloc | apply Kd.R_drewN | apply Kd.R_drew)); exact Kd.R_mono dg.out (fun _ hk => ⟨hk.2, ⟨hk.1.1, ⟨hk.1.2.1, hk.1.2.2⟩⟩⟩)⟩, ⟨by (try simp only [hl3_2]); (with_reducible repeat (first | apply Kd.R_alloc | apply Kd.R_drewN | apply Kd.R_drew)); exact Kd.R_mono dh.out (fun _ hk => ⟨hk.2, ⟨hk.1.1, ⟨hk.1.2.1, hk.1.2.2⟩⟩⟩)⟩, ⟨by (try simp only [hl3_2]); (with_reducible repeat (first | apply Kd.R_alloc | apply Kd.R_drewN | apply Kd.R_drew)); exact Kd.R_mono di.out (fun _ hk => ⟨hk.2, ⟨hk.1.1, ⟨hk.1.2.1, hk.1.2.2⟩⟩⟩)⟩, ⟨by (try simp only [hl3_2]); (with_reducible repeat (first | apply Kd.R_alloc | apply Kd.R_drewN | apply Kd.R_drew)); exact Kd.R_mono dj.out (fun _ hk => ⟨hk.2, ⟨hk.1.1, ⟨hk.1.2.1, hk.1.2.2⟩⟩⟩)⟩, ⟨by (try simp only [hl3_2]); (with_reducible repeat (first | refine blk_drewN ?_ _ | refine blk_drew ?_ | refine blk_alloc ?_ _)); exact b8.out⟩, ⟨by (try simp only [hl3_2]); (with_reducible repeat (first | refine blk_drewN ?_ _ | refine blk_drew ?_ | refine blk_alloc ?_ _)); exact bb.out⟩, ⟨p14z⟩⟩
/-- THE ONE PURE STATEMENT of a8: yours. -/
def a8.Pure : Prop := ∀ (l0 : List Int), l0.length ≤ maxLen → l0.length * 1 ≤ 140737488351232 → (∀ x ∈ l0, (Lit.int .u8 x).wf = true) → ∃ k, a8.f k l0 = some true
end Go.Proofs.Ytbclejgljegfmaa.PAll
