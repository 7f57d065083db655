/-
  JtreeTells: the card.
-/
import Derived.Test.YtodnggilomanbaaGreatDoorAp
import Derived.Test.YtodnggilomanbaaGreatDoorRows
import Derived.Test.YtodnggilomanbaaGreatDoorLTells
import Derived.Test.YtodnggilomanbaaGreatDoorHandOpenN
import Derived.WalkKit
import Derived.ProofKit
import Derived.OpenShut
import Derived.ShutString
import Derived.ChangeOld
import Derived.Below
import Derived.SizedLaws
import Derived.Test.YtodnggilomanbaaGreatDoorCards
import Derived.Test.YtodnggilomanbaaGreatDoorTie
import Derived.Test.YtodnggilomanbaaGreatDoorHandLaid
import Derived.Deep.DeepHandedRow
import Derived.SevenTiedAt
set_option maxRecDepth 100000
namespace Go.Proofs.YtodnggilomanbaaGreatDoor.jtreeTells
open Go.ChangeShapes Go.WideShapes Go.ChangeAt Go.RowKit
open Go.ChangeMaps (open_string shut_string)
set_option linter.unusedVariables false
theorem laidOut : laidOutB Tryz.prog = true := p12z
theorem own : ownKnob Tryz.prog.godebug = none := p12z
theorem hH (os : Os) {H : Type} (enc : TypeId × Value → H) :
    (OpenSpec.ofChange Rows.jtreeTellsSpec).preRow enc Tryz.prog Tryz.f4 Rows.jtreeTellsRow.domain false Rows.jtreeTellsRow.laid ((Hand.laidWorld os).forCall (fun _ _ => 0) ⟨#[], #[.agg #[.int .i64 0, .string ByteArray.empty, .slice none 0 0, .slice none 0 0], .agg #[.int .i64 0, .string ByteArray.empty, .slice none 0 0, .slice none 0 0], .string ByteArray.empty], []⟩).memory #[.agg #[.int .i64 0, .string ByteArray.empty, .slice none 0 0, .slice none 0 0], .agg #[.int .i64 0, .string ByteArray.empty, .slice none 0 0, .slice none 0 0], .string ByteArray.empty] := by
  have hw : (DataW.whole enc Tryz.prog ((Hand.laidWorld os).forCall (fun _ _ => 0) ⟨#[], #[.agg #[.int .i64 0, .string ByteArray.empty, .slice none 0 0, .slice none 0 0], .agg #[.int .i64 0, .string ByteArray.empty, .slice none 0 0, .slice none 0 0], .string ByteArray.empty], []⟩).memory Tryz.f4.params.toList (OpenSpec.ofChange Rows.jtreeTellsSpec).vars false (#[.agg #[.int .i64 0, .string ByteArray.empty, .slice none 0 0, .slice none 0 0], .agg #[.int .i64 0, .string ByteArray.empty, .slice none 0 0, .slice none 0 0], .string ByteArray.empty] : Array Value).toList 8).map (fun x => (x.1, x.2.1)) =
      some ([.agg [.lit (.int .i64 0), .lit (.string []), .nil, .nil], .agg [.lit (.int .i64 0), .lit (.string []), .nil, .nil], .lit (.string [])], []) := p12z
  obtain ⟨⟨x1, x2, x3⟩, hx, hx1⟩ := Option.map_eq_some_iff.1 hw
  simp only [Prod.mk.injEq] at hx1
  obtain ⟨rfl, rfl⟩ := hx1
  exact OpenSpec.preRow_of_cond 8 hx p12z (fun k hk => by cases hk) p12z (Hand.laid_met os _)
theorem lifted (os : Os) (started : os.Started) (H : Type) (enc : TypeId × Value → H) (F : Stop.Interp) :
 ReturnsInHanded {} Tryz.checked os 4 .any ((OpenSpec.ofChange Rows.jtreeTellsSpec).preRow enc Tryz.prog Tryz.f4 Rows.jtreeTellsRow.domain false Rows.jtreeTellsRow.laid) (((OpenSpec.ofChange Rows.jtreeTellsSpec).at F).post enc Tryz.prog Tryz.f4 false true false false) := by
 refine returnsInHanded_of_row (C := Tryz.checked) (s := OpenSpec.ofChange Rows.jtreeTellsSpec) own started p12z Tryz.func4
  (Hand.eS (enc := enc) (C := Tryz.checked) false (Hand.laidWorld os) #[.agg #[.int .i64 0, .string ByteArray.empty, .slice none 0 0, .slice none 0 0], .agg #[.int .i64 0, .string ByteArray.empty, .slice none 0 0, .slice none 0 0], .string ByteArray.empty] rfl p12z p12z p12z (hH os enc)) ?_
 intro W base args ds gs before hval0 hW hcnd _ hsz0 hL hsh _
 have htabs : Hand.Tabs W := Hand.tabs_of hL
 clear hL hsh hcnd
 have hsz : (DataW.weightsEach Tryz.prog (Tryz.f4.params.toList ++ Rows.jtreeTellsSpec.plain.varTypes Tryz.prog) (ds ++ gs)).all (· ≤ reachBytes) = true := hsz0
 have hval : ∀ (j : Nat) t v, Tryz.f4.params[j]? = some t → args[j]? = some v → Value.okWide Tryz.prog W .any base t v := hval0
 have hW' := hW
 obtain ⟨p, q, hA0, hV, rfl, hfz, hnd⟩ := hW
 have hA : DataW.TrodAll enc Tryz.prog W 0 (fun _ => true) true Tryz.f4.params.toList args.toList ds p := hA0
 rw [Tryz.params4] at hA hval hsz
 obtain ⟨v0, vs0, d0, ds0, p0, q0, hargs, rfl, rfl, h0, r0⟩ := trodAll_cons hA
 obtain ⟨v1, vs1, d1, ds1, p1, q1, rfl, rfl, rfl, h1, r1⟩ := trodAll_cons r0
 obtain ⟨v2, vs2, d2, ds2, p2, q2, rfl, rfl, rfl, h2, r2⟩ := trodAll_cons r1
 obtain ⟨rfl, rfl, rfl⟩ := trodAll_nil r2
 obtain rfl : args = #[v0, v1, v2] := by cases args; simp_all
 obtain ⟨rfl, rfl⟩ := trodVars_none hV
 obtain ⟨cs0, hv0, _⟩ := okWide_struct Tryz.underlying28 (hval 0 28 v0 rfl rfl)
 obtain ⟨cs1, hv1, _⟩ := okWide_struct Tryz.underlying28 (hval 1 28 v1 rfl rfl)
 have k0 := h0
 have k1 := h1
 have lt0 : ∀ x ∈ p0, x.block < W.heap.size := by obtain ⟨m, hm⟩ := k0; exact DataW.trod_lt m _ _ _ hm
 have lt1 : ∀ x ∈ p1, x.block < W.heap.size := by obtain ⟨m, hm⟩ := k1; exact DataW.trod_lt m _ _ _ hm
 obtain ⟨n, A2, c2, A3, c3, rfl, hn⟩ := Hand.open_node hv0 h0
 obtain ⟨m, B2, d2, B3, d3, rfl, hm⟩ := Hand.open_node hv1 h1
 obtain ⟨key, rfl, rfl, rfl, y2⟩ := open_string Tryz.underlying9 (hval 2 9 v2 rfl rfl) h2
 clear hA0 hval0 hsz0 hsz hval hA
 refine (Pure.iE n m key A2 c2 A3 c3 B2 d2 B3 d3 W hn hm htabs).mono fun e W' ⟨he, bel⟩ => ?_
 subst he
 exact ⟨_, rfl, _, _, _, [], _, [], hW', trodAll_mk1 (shut_bool Tryz.underlying4 _), (trodAll_cons_mk (Below.trod laidOut p12z (of_decide_eq_true p12z) k0 bel lt0) (trodAll_cons_mk (Below.trod laidOut p12z (of_decide_eq_true p12z) k1 bel lt1) (trodAll_cons_mk (shut_string Tryz.underlying9 y2) trodAll_mk0))), rfl, bel.frame _, fun h => by cases h⟩
theorem over : Rows.jtreeTellsRow.holds Tryz.pinned (OpenSpec.ofChange Rows.jtreeTellsSpec) :=
  OpenClaim.holds_of_cond 4 Tryz.f4 rfl rfl rfl rfl rfl rfl rfl ⟨rfl, rfl, rfl, rfl, rfl⟩ rfl rfl rfl rfl rfl p12z Tryz.func4 p12z
    (of_decide_eq_true p12z) (by unfold Func.isWrapper; first | (rw [if_pos p103z]; kernel_rfl) | (rw [if_neg p103z]; exact ⟨rfl, rfl⟩))
    (fun os started H enc _ F0 => by rw [OpenClaim.pre_eq_preRow]; exact lifted os started H enc F0)
theorem noStand : ∀ t ∈ Tryz.f4.params.toList, Tryz.prog.wantsStandIn t = false := by
  have h : (Tryz.f4.params.toList.all fun t => !Tryz.prog.wantsStandIn t) = true := p12z
  intro t ht
  simpa using List.all_eq_true.1 h t ht
theorem proved : Rows.JtreeTellsCardSaid :=
  Claim7.holds_tied_plain_at .later [] [.data, .pinned, .pinned] true Rows.jtreeTellsCard.stood.harness true
    over (fun _ h => by cases h) p12z (fun _ h => by cases h) jtreeTells_row_tie rfl ⟨rfl, rfl⟩ p12z rfl
    (fun f fn hf hfn => by
      obtain rfl : f = 4 := Option.some.inj ((show Tryz.prog.funcNamed "signetry/signetrylaw14.JtreeTells" = some 4 from p12z).symm.trans hf) |>.symm
      obtain rfl : fn = Tryz.f4 := (Option.some.inj (Tryz.func4.symm.trans hfn)).symm
      exact ⟨p12z, fun j t ht => noStand t (by rw [← Array.getElem?_toList] at ht; exact List.mem_of_getElem? ht)⟩)
    p12z
#print axioms proved
end Go.Proofs.YtodnggilomanbaaGreatDoor.jtreeTells
namespace Go.Proofs.YtodnggilomanbaaGreatDoor
/-- The card, under a short name, for the claim. -/
theorem jtreeTells_holds : Rows.JtreeTellsCardSaid := jtreeTells.proved
end Go.Proofs.YtodnggilomanbaaGreatDoor
