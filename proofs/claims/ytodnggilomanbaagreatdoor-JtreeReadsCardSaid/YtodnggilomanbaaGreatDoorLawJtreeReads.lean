-- Written by this repo's program wip/tools/pr.py (over the kit's print) out of the translation. Not trusted: Lean checks it.
import Derived.Test.YtodnggilomanbaaGreatDoorAp
import Derived.Test.YtodnggilomanbaaGreatDoorRows
import Derived.Test.YtodnggilomanbaaGreatDoorLReads
import Derived.Test.YtodnggilomanbaaGreatDoorPureReads
import Derived.WalkKit
import Derived.ProofKit
import Derived.OpenShut
import Derived.ShutString
import Derived.ChangeOld
import Derived.Below
import Derived.SizedLaws
import Derived.Test.YtodnggilomanbaaGreatDoorCards
import Derived.Test.YtodnggilomanbaaGreatDoorTie
import Derived.Test.YtodnggilomanbaaGreatDoorHandLaid
import Derived.Deep.DeepHandedRow
import Derived.SevenTiedAt
set_option maxRecDepth 100000
namespace Go.Proofs.YtodnggilomanbaaGreatDoor.jtreeReads
open Go.ChangeShapes Go.WideShapes Go.ChangeAt Go.RowKit
open Go.ChangeMaps (open_string shut_string)
set_option linter.unusedVariables false
theorem own : ownKnob Tryz.prog.godebug = none := p8z
theorem witness_row (os : Os) {H : Type} (enc : TypeId × Value → H) :
    (OpenSpec.ofChange Rows.jtreeReadsSpec).preRow enc Tryz.prog Tryz.f5 Rows.jtreeReadsRow.domain false Rows.jtreeReadsRow.laid ((Hand.laidWorld os).forCall (fun _ _ => 0) ⟨#[], #[.string ByteArray.empty], []⟩).memory #[.string ByteArray.empty] := by
  have hw : (DataW.whole enc Tryz.prog ((Hand.laidWorld os).forCall (fun _ _ => 0) ⟨#[], #[.string ByteArray.empty], []⟩).memory Tryz.f5.params.toList (OpenSpec.ofChange Rows.jtreeReadsSpec).vars false (#[.string ByteArray.empty] : Array Value).toList 8).map (fun x => (x.1, x.2.1)) =
      some ([.lit (.string [])], []) := p8z
  obtain ⟨⟨x1, x2, x3⟩, hx, hx1⟩ := Option.map_eq_some_iff.1 hw
  simp only [Prod.mk.injEq] at hx1
  obtain ⟨rfl, rfl⟩ := hx1
  exact OpenSpec.preRow_of_cond 8 hx p8z (fun k hk => by cases hk) p8z (Hand.laid_met os _)
theorem lifted (os : Os) (started : os.Started) (H : Type) (enc : TypeId × Value → H) (F : Stop.Interp) :
 ReturnsInHanded {} Tryz.checked os 5 .any ((OpenSpec.ofChange Rows.jtreeReadsSpec).preRow enc Tryz.prog Tryz.f5 Rows.jtreeReadsRow.domain false Rows.jtreeReadsRow.laid) (((OpenSpec.ofChange Rows.jtreeReadsSpec).at F).post enc Tryz.prog Tryz.f5 false true false false) := by
 refine returnsInHanded_of_row (C := Tryz.checked) (s := OpenSpec.ofChange Rows.jtreeReadsSpec) own started p8z Tryz.func5
  (Hand.witness_row_ref (enc := enc) (C := Tryz.checked) false (Hand.laidWorld os) #[.string ByteArray.empty] rfl p8z p8z p8z (witness_row os enc)) ?_
 intro W base args ds gs before hval0 hW hcnd _ hsz0 hL hsh _
 have htabs : Hand.Tabs W := Hand.tabs_of hL
 clear hL hsh hcnd
 have hsz : (DataW.weightsEach Tryz.prog (Tryz.f5.params.toList ++ Rows.jtreeReadsSpec.plain.varTypes Tryz.prog) (ds ++ gs)).all (· ≤ reachBytes) = true := hsz0
 have hval : ∀ (j : Nat) t v, Tryz.f5.params[j]? = some t → args[j]? = some v → Value.okWide Tryz.prog W .any base t v := hval0
 have hW' := hW
 obtain ⟨p, q, hA0, hV, rfl, hfz, hnd⟩ := hW
 have hA : DataW.TrodAll enc Tryz.prog W 0 (fun _ => true) true Tryz.f5.params.toList args.toList ds p := hA0
 rw [Tryz.params5] at hA hval hsz
 obtain ⟨v0, vs0, d0, ds0, p0, q0, hargs, rfl, rfl, h0, r0⟩ := trodAll_cons hA
 obtain ⟨rfl, rfl, rfl⟩ := trodAll_nil r0
 obtain rfl : args = #[v0] := by cases args; simp_all
 obtain ⟨rfl, rfl⟩ := trodVars_none hV
 obtain ⟨a0, rfl, rfl, rfl, y0⟩ := open_string Tryz.underlying9 (hval 0 9 v0 rfl rfl) h0
 have w0 : a0.size ≤ 140737488351232 := by
  have z := sized_string hsz (j := 0) (t := 9) rfl rfl
  rw [Array.length_toList] at z
  exact z
 clear hA0 hval0 hsz0 hsz
 refine (PAll.signetrylaw14_JtreeReads.walk Pure.JtreeReads a0 W w0 htabs).mono fun e W' ⟨he, bel⟩ => ?_
 subst he
 exact ⟨_, rfl, _, _, _, [], _, [], hW', trodAll_mk1 (shut_bool Tryz.underlying4 _), (trodAll_cons_mk (shut_string Tryz.underlying9 y0) trodAll_mk0), rfl, bel.frame _, fun h => by cases h⟩
theorem over : Rows.jtreeReadsRow.holds Tryz.pinned (OpenSpec.ofChange Rows.jtreeReadsSpec) :=
  OpenClaim.holds_of_cond 5 Tryz.f5 rfl rfl rfl rfl rfl rfl rfl ⟨rfl, rfl, rfl, rfl, rfl⟩ rfl rfl rfl rfl rfl p8z Tryz.func5 p8z
    (of_decide_eq_true p8z) (by unfold Func.isWrapper; first | (rw [if_pos (by decide +kernel)]; kernel_rfl) | (rw [if_neg (by decide +kernel)]; exact ⟨rfl, rfl⟩))
    (fun os started H enc _ F0 => by rw [OpenClaim.pre_eq_preRow]; exact lifted os started H enc F0)
theorem noStand : ∀ t ∈ Tryz.f5.params.toList, Tryz.prog.wantsStandIn t = false := by
  have h : (Tryz.f5.params.toList.all fun t => !Tryz.prog.wantsStandIn t) = true := p8z
  intro t ht
  simpa using List.all_eq_true.1 h t ht
theorem proved : Rows.JtreeReadsCardSaid :=
  Claim7.holds_tied_plain_at .later [] [.data, .pinned, .pinned] true Rows.jtreeReadsCard.stood.harness true
    over (fun _ h => by cases h) p8z (fun _ h => by cases h) jtreeReads_row_tie rfl ⟨rfl, rfl⟩ p8z rfl
    (fun f fn hf hfn => by
      obtain rfl : f = 5 := Option.some.inj ((show Tryz.prog.funcNamed "signetry/signetrylaw14.JtreeReads" = some 5 from p8z).symm.trans hf) |>.symm
      obtain rfl : fn = Tryz.f5 := (Option.some.inj (Tryz.func5.symm.trans hfn)).symm
      exact ⟨p8z, fun j t ht => noStand t (by rw [← Array.getElem?_toList] at ht; exact List.mem_of_getElem? ht)⟩)
    p8z
#print axioms proved
end Go.Proofs.YtodnggilomanbaaGreatDoor.jtreeReads
namespace Go.Proofs.YtodnggilomanbaaGreatDoor
/-- The card, under a short name, for the claim. -/
theorem jtreeReads_holds : Rows.JtreeReadsCardSaid := jtreeReads.proved
end Go.Proofs.YtodnggilomanbaaGreatDoor
