/-
  text.Rune: the walk.
-/
import Derived.Test.YtodnggilomanbaaGreatDoorHandAa
import Derived.OwnWalk
import Derived.Outline
import Derived.Lib.Hide
import Derived.Test.YtodnggilomanbaaGreatDoorShelf
set_option maxRecDepth 100000
set_option maxHeartbeats 4000000
namespace Go.Proofs.YtodnggilomanbaaGreatDoor.Hand
open Go.RowKit Go.Proofs.YtodnggilomanbaaGreatDoorW.PrintWords
set_option linter.unusedVariables false
set_option linter.unusedSimpArgs false

def isRn (n : Int) : Bool := decide (0 ≤ n ∧ n < 55296) || decide (57343 < n ∧ n ≤ 1114111)
def text_Rune.f (l0 : List Int) (n : Int) : Option (List Int × Int) := if isRn n = true then (if l0.length ≤ 1099511627776 then some (l0 ++ Lib.encodeRuneZ n, 0) else none) else some ([], 20)
theorem runeCells_eq (n : Int) : Lib.runeCells n = nums .u8 (Lib.encodeRuneZ n) := rfl
theorem text_Rune.calls (A0 : Option Addr) (c0 : Nat) (l0 : List Int) (a1 : Int) (r1 : List Int) (r2 : Int) (w : World) (hr0 : Kd.C (Kd.int .u8) w A0 l0.length l0) (hc0 : l0.length ≤ c0) (h : text_Rune.f l0 a1 = some (r1, r2)) :
 Calls Tryz.prog 116 #[.slice A0 l0.length c0, .int .i64 a1] w fun e w' => ∃ v0_ : Value, e = .returned (.tuple #[v0_, .int .i64 r2]) ∧ Kd.R (Kd.int .u8) 5 w' w.heap.size (fun _ => True) v0_ r1 ∧ Below w.heap.size w w' := by
 unfold text_Rune.f at h
 by_cases hn : isRn a1 = true
 case neg =>
  rw [if_neg hn] at h
  simp only [Option.some.injEq, Prod.mk.injEq] at h
  obtain ⟨rfl, rfl⟩ := h
  simp only [isRn, Bool.or_eq_true, decide_eq_true_eq] at hn
  by_cases h0 : a1 < 0
  case pos =>
   go_enter Tryz.func116, Tryz.ntmps116
   go_wp2
   go_ret2
   exact ⟨_, rfl, Kd.R_nil _ _ _ _ _, Below.refl _ _⟩
  by_cases h1 : 1114111 < a1
  case pos =>
   go_enter Tryz.func116, Tryz.ntmps116
   go_wp2
   go_ret2
   exact ⟨_, rfl, Kd.R_nil _ _ _ _ _, Below.refl _ _⟩
  have b0 : 0 ≤ a1 := by omega
  have b1 : a1 ≤ 1114111 := by omega
  have hv : Lib.validRune a1 = false := by unfold Lib.validRune; exact decide_eq_false (by omega)
  go_enter Tryz.func116, Tryz.ntmps116
  go_wp2_with (go_at_call 128; refine (Tryz.utf8_ValidRune a1 w).mono ?_; rintro e w1 ⟨rfl, hw1⟩; rw [hw1]; clear hw1)
  go_ret2
  exact ⟨_, rfl, Kd.R_nil _ _ _ _ _, Below.refl _ _⟩
 rw [if_pos hn] at h
 split at h
 ·rename_i hl
  simp only [Option.some.injEq, Prod.mk.injEq] at h
  obtain ⟨rfl, rfl⟩ := h
  have hn' := hn
  simp only [isRn, Bool.or_eq_true, decide_eq_true_eq] at hn'
  have hv : Lib.validRune a1 = true := by unfold Lib.validRune; exact decide_eq_true (by omega)
  have hcl := hid (slices_Clone_byte_byte.calls A0 c0 l0 l0 w hr0 hc0 (by rw [slices_Clone_byte_byte.f, if_pos (by omega)]))
  have h0 : ¬ a1 < 0 := by omega
  have h1 : ¬ 1114111 < a1 := by omega
  have b0 : 0 ≤ a1 := by omega
  have b1 : a1 ≤ 1114111 := by omega
  have hzl := Lib.encodeRuneZ_length a1
  go_enter Tryz.func116, Tryz.ntmps116
  go_wp2_with (first
   | (go_at_call 128; refine (Tryz.utf8_ValidRune a1 w).mono ?_; rintro e w1 ⟨rfl, hw1⟩; rw [hw1]; clear hw1)
   | (go_at_call 130; refine hcl.out.mono ?_; rintro e w2 ⟨v, rfl, ho, hB⟩)
   | (go_at_call 129; refine (Tryz.utf8_AppendRune_plain w.heap.size v l0.length (nums .u8 l0) a1 (by omega) (by omega) _ (Kd.own_of_R ho) (by omega) hB.size).mono ?_; rintro e w3 ⟨v', rfl, ho3, o, hg⟩))
  go_ret2
  refine ⟨v', rfl, ?_, (hB.alloc hB.size o).grown hg (by simp; have := hB.size; omega) (own_base (Kd.own_of_R ho))⟩
  refine Kd.R_of_own (enc := Value.int .u8) (h1 := fun _ => rfl) ?_ (fun _ _ => trivial)
  rw [List.length_append]
  rw [runeCells_eq, nums_length, ← nums_append] at ho3
  exact ho3
 ·cases h
end Go.Proofs.YtodnggilomanbaaGreatDoor.Hand
