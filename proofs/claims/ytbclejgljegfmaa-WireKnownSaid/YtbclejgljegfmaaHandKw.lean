/-
  The laws that WireKnown calls, as functions that answer true: out of their walks and their plain laws.
-/
import Derived.Test.YtbclejgljegfmaaPureWireReads
import Derived.Test.YtbclejgljegfmaaPureWireNumbers
import Derived.Test.YtbclejgljegfmaaPureWireZigs
import Derived.Test.YtbclejgljegfmaaPureWireMakes
import Derived.Test.YtbclejgljegfmaaPureWireJoins
namespace Go.Proofs.Ytbclejgljegfmaa.Hand
open Go.RowKit Go.Proofs.Ytbclejgljegfmaa.PAll Go.Proofs.YtbclejgljegfmaaW.PrintWords Go.Proofs.YtbclejgljegfmaaW.PrintLast Go.Proofs.YtbclejgljegfmaaW.PrintMore
set_option linter.unusedVariables false

theorem wf_u8 {l : List Int} (h : isB l = true) : ∀ x ∈ l, (Lit.int .u8 x).wf = true := by
  intro x hx
  simp only [isB, List.all_eq_true, Bool.and_eq_true, decide_eq_true_eq] at h
  obtain ⟨h0, h1⟩ := h x hx
  show (decide (0 ≤ x) && decide (x ≤ 255)) = true
  rw [decide_eq_true h0, decide_eq_true h1]
  rfl
def kIn (lo hi x : Int) : Bool := decide (lo ≤ x) && decide (x ≤ hi)
def kU (x : Int) : Bool := kIn 0 18446744073709551615 x
def kI (x : Int) : Bool := kIn (-9223372036854775808) 9223372036854775807 x
theorem wf_u64 {x : Int} (h : kU x = true) : (Lit.int .u64 x).wf = true := by
  show (decide (0 ≤ x) && decide (x ≤ 18446744073709551615)) = true
  exact h
theorem wf_i64 {x : Int} (h : kI x = true) : (Lit.int .i64 x).wf = true := by
  show (decide (-9223372036854775808 ≤ x) && decide (x ≤ 9223372036854775807)) = true
  exact h

def kReads.f (l0 : List Int) : Option Bool := if isB l0 = true ∧ l0.length ≤ 1000 then some true else none
theorem kReads.calls (A0 : Option Addr) (c0 : Nat) (l0 : List Int) (r : Bool) (w : World) (hr0 : Kd.C (Kd.int .u8) w A0 l0.length l0) (hc0 : l0.length ≤ c0) (h : kReads.f l0 = some r) :
 Calls Try.prog 4 #[.slice A0 l0.length c0] w fun e w' => e = .returned (.bool r) ∧ Below w.heap.size w w' := by
 unfold kReads.f at h
 split at h
 ·rename_i hB
  obtain rfl := Option.some.inj h
  obtain ⟨k, hk⟩ := PureR.WireReads l0 (Nat.le_trans hB.2 (by decide)) (by omega) (wf_u8 hB.1)
  exact a8.calls k A0 c0 l0 true w hr0 hc0 hk
 ·cases h
def kNumbers.f (l0 : List Int) (a1 a2 : Int) : Option Bool := if isB l0 = true ∧ l0.length ≤ 1000 ∧ kU a1 = true ∧ kI a2 = true then some true else none
theorem kNumbers.calls (A0 : Option Addr) (c0 : Nat) (l0 : List Int) (a1 : Int) (a2 : Int) (r : Bool) (w : World) (hr0 : Kd.C (Kd.int .u8) w A0 l0.length l0) (hc0 : l0.length ≤ c0) (h : kNumbers.f l0 a1 a2 = some r) :
 Calls Try.prog 3 #[.slice A0 l0.length c0, .int .u64 a1, .int .i64 a2] w fun e w' => e = .returned (.bool r) ∧ Below w.heap.size w w' := by
 unfold kNumbers.f at h
 split at h
 ·rename_i hB
  obtain rfl := Option.some.inj h
  obtain ⟨k, hk⟩ := Pure.WireNumbers l0 a1 a2 (Nat.le_trans hB.2.1 (by decide)) (by omega) (wf_u8 hB.1) (wf_u64 hB.2.2.1) (wf_i64 hB.2.2.2)
  exact bs.calls k A0 c0 l0 a1 a2 true w hr0 hc0 hk
 ·cases h
def kZigs.f (a0 a1 a2 : Int) : Option Bool := if kI a0 = true ∧ kI a1 = true ∧ kU a2 = true then some true else none
theorem kZigs.calls (a0 : Int) (a1 : Int) (a2 : Int) (r : Bool) (w : World) (h : kZigs.f a0 a1 a2 = some r) :
 Calls Try.prog 5 #[.int .i64 a0, .int .i64 a1, .int .u64 a2] w fun e w' => e = .returned (.bool r) ∧ Below w.heap.size w w' := by
 unfold kZigs.f at h
 split at h
 ·rename_i hB
  obtain rfl := Option.some.inj h
  obtain ⟨k, hk⟩ := Pure.WireZigs a0 a1 a2 (wf_i64 hB.1) (wf_i64 hB.2.1) (wf_u64 hB.2.2)
  exact ae.calls k a0 a1 a2 true w hk
 ·cases h
def kMakes.f (a0_0 a0_1 a1 : Int) (l2 : List Int) : Option Bool := if isB l2 = true ∧ kU a1 = true then some true else none
theorem kMakes.calls (a0_0 : Int) (a0_1 : Int) (a1 : Int) (A2 : Option Addr) (c2 : Nat) (l2 : List Int) (r : Bool) (w : World) (hr2 : Kd.C (Kd.int .u8) w A2 l2.length l2) (hc2 : l2.length ≤ c2) (h : kMakes.f a0_0 a0_1 a1 l2 = some r) :
 Calls Try.prog 7 #[.agg #[.int .i64 a0_0, .int .i64 a0_1], .int .u64 a1, .slice A2 l2.length c2] w fun e w' => e = .returned (.bool r) ∧ Below w.heap.size w w' := by
 unfold kMakes.f at h
 split at h
 ·rename_i hB
  obtain rfl := Option.some.inj h
  obtain ⟨h0, h1⟩ : 0 ≤ a1 ∧ a1 ≤ 18446744073709551615 := by simpa only [kU, kIn, Bool.and_eq_true, decide_eq_true_eq] using hB.2
  exact a7.calls 5000 a0_0 a0_1 a1 A2 c2 l2 true w hr2 hc2 (Pure.WireMakes a0_0 a0_1 a1 l2 h0 h1 hB.1)
 ·cases h
def kJoins.f (l0 : List S33) : Option Bool := if l0.length = 0 then some true else none
theorem kJoins.calls (A0 : Option Addr) (c0 : Nat) (l0 : List S33) (r : Bool) (w : World) (hr0 : Kd.C k33 w A0 l0.length l0) (hc0 : l0.length ≤ c0) (h : kJoins.f l0 = some r) :
 Calls Try.prog 8 #[.slice A0 l0.length c0] w fun e w' => e = .returned (.bool r) ∧ Below w.heap.size w w' := by
 unfold kJoins.f at h
 split at h
 ·rename_i hB
  obtain rfl := Option.some.inj h
  refine ah.calls 500 A0 c0 l0 true w hr0 hc0 (Pure.WireJoins l0 (fun x hx => ?_))
  rw [List.length_eq_zero_iff.1 hB] at hx
  cases hx
 ·cases h
end Go.Proofs.Ytbclejgljegfmaa.Hand
