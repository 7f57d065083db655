/- WireSizes: a number has a byte for each seven bits, one at least; Make's bytes are the fewest: the row. -/
import Derived.Test.YtbclejgljegfmaaRows
import Derived.Test.YtbclejgljegfmaaLSizes
import Derived.Test.YtbclejgljegfmaaPureWireSizes
import Derived.Test.YtbclejgljegfmaaHandAgg
import Derived.WalkKit
import Derived.ProofKit
import Derived.OpenShut
import Derived.ShutString
import Derived.ChangeOld
import Derived.Below
import Derived.SizedLaws
import Derived.Test.YtbclejgljegfmaaWSized
namespace Go.Proofs.Ytbclejgljegfmaa.wireSizes
open Go.ChangeShapes Go.WideShapes Go.ChangeAt Go.RowKit
open Go.ChangeMaps (open_string shut_string)
open Go.Proofs.YtbclejgljegfmaaW.PrintWords
set_option linter.unusedVariables false
theorem own : ownKnob Try.prog.godebug = none := by kernel_rfl
theorem laidOut : laidOutB Try.prog = true := by kernel_rfl
set_option maxRecDepth 100000 in
theorem lifted (os : Os) (started : os.Started) (H : Type) (enc : TypeId × Value → H) :
    ReturnsInHanded {} Try.checked os 6 .any (Rows.wireSizesSpec.pre6 enc Try.prog Try.f6 Rows.wireSizesRow.domain false) (Rows.wireSizesSpec.post enc Try.prog Try.f6 false true false false) := by
  refine returnsInHanded_of_change_sized (C := Try.checked) own started (by kernel_rfl) Try.func6
    (ChangeSpec.witness6 (enc := enc) (C := Try.checked) false ⟨#[], #[.int .u64 0, .int .i64 0, .agg #[.int .i64 0, .int .i64 0, .int .u64 0, .slice none 0 0, .int .i64 0]], []⟩ 8 (by kernel_rfl) (by kernel_rfl) (by kernel_rfl) (by kernel_rfl)) ?_
  intro W base args ds gs before hval0 hW hcnd hsz0 _
  have hsz : (DataW.weightsEach Try.prog (Try.f6.params.toList ++ Rows.wireSizesSpec.plain.varTypes Try.prog) (ds ++ gs)).all (· ≤ reachBytes) = true := hsz0
  have hval : ∀ (j : Nat) t v, Try.f6.params[j]? = some t → args[j]? = some v → Value.okWide Try.prog W .any base t v := hval0
  have hW' := hW
  obtain ⟨p, q, hA0, hV, rfl, hfz, hnd⟩ := hW
  have hA : DataW.TrodAll enc Try.prog W 0 (fun _ => true) true Try.f6.params.toList args.toList ds p := hA0
  rw [Try.params6] at hA hval hsz
  obtain ⟨v0, vs0, d0, ds0, p0, q0, hargs, rfl, rfl, h0, r0⟩ := trodAll_cons hA
  obtain ⟨v1, vs1, d1, ds1, p1, q1, rfl, rfl, rfl, h1, r1⟩ := trodAll_cons r0
  obtain ⟨v2, vs2, d2, ds2, p2, q2, rfl, rfl, rfl, h2, r2⟩ := trodAll_cons r1
  obtain ⟨rfl, rfl, rfl⟩ := trodAll_nil r2
  obtain rfl : args = #[v0, v1, v2] := by cases args; simp_all
  obtain ⟨rfl, rfl⟩ := trodVars_none hV
  obtain ⟨a0, rfl, rfl, rfl, w0⟩ := open_int Try.underlying23 (hval 0 23 v0 rfl rfl) h0
  obtain ⟨a1, rfl, rfl, rfl, w1⟩ := open_int Try.underlying3 (hval 1 3 v1 rfl rfl) h1
  have k2 := h2
  have lt2 : ∀ x ∈ p2, x.block < W.heap.size := by obtain ⟨m, hm⟩ := k2; exact DataW.trod_lt m _ _ _ hm
  obtain ⟨x0, x1, x2, A3, c3, l3, x4, rfl, q3, g3, u2, u3⟩ : ∃ (x0 x1 x2 : Int) (A3 : Option Addr) (c3 : Nat) (l3 : List Int) (x4 : Int), v2 = .agg #[.int .i64 x0, .int .i64 x1, .int .u64 x2, .slice A3 l3.length c3, .int .i64 x4] ∧ l3.length ≤ c3 ∧ Kd.C (Kd.int .u8) W A3 l3.length l3 ∧ (Lit.int .u64 x2).wf = true ∧ ∀ y ∈ l3, (Lit.int .u8 y).wf = true := by
    obtain ⟨e0, e1, e2, e3, e4, y0, y1, y2, y3, y4, n, rfl, _, _, t0, t1, t2, t3, t4⟩ := Hand.open_agg5 Try.underlying45 (by kernel_rfl) (by kernel_rfl) (hval 2 45 v2 rfl rfl) h2
    obtain ⟨n0, z0, _, _⟩ := DataW.trod_int Try.underlying3 t0
    obtain ⟨n1, z1, _, _⟩ := DataW.trod_int Try.underlying3 t1
    obtain ⟨n2, z2, _, w2⟩ := DataW.trod_int Try.underlying23 t2
    obtain ⟨n4, z4, _, _⟩ := DataW.trod_int Try.underlying3 t4
    simp only [List.cons.injEq, and_true] at z0 z1 z2 z4
    subst z0 z1 z2 z4
    obtain ⟨A3, c3, l3, z3, q3, g3, u3⟩ := Hand.open_bytes t3
    try simp only [List.cons.injEq, and_true] at z3
    subst z3
    exact ⟨n0, n1, n2, A3, c3, l3, n4, rfl, q3, g3, w2, u3⟩
  clear hA0 hval0 hsz0 hsz
  obtain ⟨b0, b1⟩ := Plain.u64_of w0
  obtain ⟨b2, b3⟩ := Plain.u64_of u2
  refine (PAll.signetrylaw01_WireSizes.calls 2100 a0 a1 x0 x1 x2 A3 c3 l3 x4 true W g3 q3 (Pure.WireSizes a0 a1 x0 x1 x2 l3 x4 b0 b1 b2 b3 (Plain.isB_of u3))).mono fun e W' ⟨he, bel⟩ => ?_
  subst he
  exact ⟨_, rfl, _, _, _, [], _, [], hW', trodAll_mk1 (shut_bool Try.underlying4 _), (trodAll_cons_mk (shut_int Try.underlying23 w0) (trodAll_cons_mk (shut_int Try.underlying3 w1) (trodAll_cons_mk (Below.trod laidOut (by kernel_rfl) (of_decide_eq_true (by kernel_rfl)) k2 bel lt2) trodAll_mk0))), rfl, bel.frame _, fun h => by cases h⟩
theorem over : Rows.wireSizesRow.holds Try.pinned (OpenSpec.ofChange Rows.wireSizesSpec) :=
  OpenClaim.holds_of_wide 6 Try.f6 rfl rfl rfl rfl rfl rfl rfl ⟨rfl, rfl, rfl, rfl, rfl⟩ rfl rfl rfl rfl rfl (by kernel_rfl) Try.func6 (by kernel_rfl)
    (of_decide_eq_true (by kernel_rfl)) (by unfold Func.isWrapper; first | (rw [if_pos (by decide +kernel)]; kernel_rfl) | (rw [if_neg (by decide +kernel)]; exact ⟨rfl, rfl⟩))
    (fun os started H enc _ => lifted os started H enc)
theorem proved : Rows.WireSizesSaid := over
#print axioms proved
end Go.Proofs.Ytbclejgljegfmaa.wireSizes
namespace Go.Proofs.Ytbclejgljegfmaa
/-- The row, under a short name, for the claim. -/
theorem wireSizes_holds : Rows.WireSizesSaid := wireSizes.proved
end Go.Proofs.Ytbclejgljegfmaa
