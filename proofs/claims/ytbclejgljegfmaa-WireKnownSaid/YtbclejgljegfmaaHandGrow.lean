/-
  slices.Grow at bytes, of no slice at all: the walk.
-/
import Derived.Test.YtbclejgljegfmaaAp
import Derived.Test.YtbclejgljegfmaaHandVar
import Derived.Lib.AppendZerosOnto
set_option maxHeartbeats 8000000
set_option maxRecDepth 100000
namespace Go.Proofs.Ytbclejgljegfmaa.Hand
open Go.RowKit Go.Lib Go.Proofs.YtbclejgljegfmaaW.PrintWords

theorem own_zeros (w : World) (n G : Nat) (hG : n ≤ G) (hM : G ≤ maxLen) : (w.alloc (.cells (Builtin.zeroCells #[Value.int .u8 0] n ++ Builtin.zeroCells #[Value.int .u8 0] (G - n)) 5)).drew.ownsRow w.heap.size 5 1 (.slice (some ⟨w.heap.size, 0, none⟩) 0 G) 0 [] := by
 have hz : ∀ k, (Builtin.zeroCells #[Value.int .u8 0] k).size = k := fun k => by simp [Builtin.zeroCells]
 refine ⟨rfl, .inr ⟨w.heap.size, G, Builtin.zeroCells #[Value.int .u8 0] n ++ Builtin.zeroCells #[Value.int .u8 0] (G - n), rfl, Nat.le_refl _, ?_, Nat.zero_le _, hM, ?_, by simp⟩⟩
 ·show (w.heap.push _)[w.heap.size]? = _
  simp
 ·rw [Array.size_append, hz, hz]
  omega
theorem grow_nil (n : Nat) (w : World) (hn : n ≤ 1048576) : Calls Try.prog 58 #[.slice none 0 0, .int .i64 n] w fun e w' => ∃ v : Value, e = .returned v ∧ Kd.R (Kd.int .u8) 5 w' w.heap.size (fun _ => True) v [] ∧ Below w.heap.size w w' := by
 have h1 : ¬ ((n : Int) < 0) := by omega
 have h2 : wrap64 (((0 : Nat) : Int) - ((0 : Nat) : Int)) = 0 := p236z
 have h3 : wrap64 ((n : Int) - 0) = (n : Int) := p236z
 have h2b : wrap64 0 = 0 := p236z
 have h3b : wrap64 (n : Int) = (n : Int) := p236z
 by_cases hz : n = 0
 case pos =>
  subst hz
  have h4 : ¬ (((0 : Nat) : Int) > 0) := by omega
  go_enter Try.func58, Try.ntmps58
  go_wp2
  go_ret
  exact ⟨_, rfl, Kd.R_nil _ _ _ _ _, Below.refl _ _⟩
 have h4 : (n : Int) > 0 := by omega
 obtain ⟨i0, hi, hz0, hz1, hz2⟩ := info_parts hinfo5
 have hrz : ∀ ty, (Builtin.append_ #[22, 3] ty #[.slice none 0 0, .int .i64 (n : Int)]).run Try.prog w =
  .ok (.slice (some ⟨w.heap.size, 0, none⟩) n (grownCap w n 0 5)) (w.drew.alloc (.cells (([] : List Value).toArray ++ Builtin.zeroCells (Value.int .u8 0).cells n ++ Builtin.zeroCells (Value.int .u8 0).cells (grownCap w n 0 5 - n)) 5)) := fun ty => by
  have h := Lib.run_append_grow_zeros (P := Try.prog) w 22 3 ty 5 i0 (.int .u8 0) .i64 .i64 Try.underlying22 Try.underlying3 hi hz0 none 0 0 [] (run_firstCells_none w.drew i0.size 0 0 0) n (by omega) (by omega) (by omega) (by omega) (by rw [hz2]; omega) (by rw [Nat.zero_add]; exact growslice_fits (by omega) (by rw [hz2]; omega))
  rw [Nat.zero_add] at h
  exact h
 have hGn : n ≤ grownCap w n 0 5 := grownCap_ge w _ _ _
 have hGM := grownCap_le_maxLen w n 0 5 (by unfold maxLen; omega)
 obtain ⟨G, hG⟩ : ∃ G, G = grownCap w n 0 5 := ⟨_, rfl⟩
 rw [← hG] at hrz hGn hGM
 have hG63 : G ≤ 9223372036854775807 := by
  unfold maxLen at hGM
  omega
 clear hG
 go_enter Try.func58, Try.ntmps58
 go_wp2_with (at_builtin; refine Lib.wpList_append_run _ rfl _ _ _ _ rfl _ _ rfl rfl _ _ (hrz _) ?_)
 all_goals (go_ret; exact ⟨_, rfl, Kd.R_of_own (enc := Value.int .u8) (h1 := fun _ => rfl) (own_zeros w n G hGn hGM) (fun _ _ => trivial), ((Below.refl _ w).alloc (Nat.le_refl _) _).drew⟩)
/-- What the print asks of slices.Grow: nothing is said but of no bytes (the print calls it so; the call's own slice is taken up in HandCat). -/
def dd.f (l0 : List Int) (a1 : Int) : Option (List Int) := if l0 = [] ∧ 0 ≤ a1 ∧ a1 ≤ 1048576 then some [] else none
theorem kT (a1 : Int) (r : List Int) (w : World) (h : dd.f [] a1 = some r) : Calls Try.prog 58 #[.slice none 0 0, .int .i64 a1] w fun e w' => ∃ v0_ : Value, e = .returned v0_ ∧ Kd.R (Kd.int .u8) 5 w' w.heap.size (fun _ => True) v0_ r ∧ Below w.heap.size w w' := by
 unfold dd.f at h
 split at h
 ·rename_i hh
  obtain rfl := Option.some.inj h
  obtain ⟨n, rfl⟩ : ∃ n : Nat, a1 = n := ⟨a1.toNat, by omega⟩
  exact grow_nil n w (by omega)
 ·cases h
end Go.Proofs.Ytbclejgljegfmaa.Hand
