-- Written by this repo's program wip/tools/pr.py (over the kit's print) out of the translation. Not trusted: Lean checks it.
import Derived.Test.YtodnggilomanbaaDoorPX0
namespace Go.Proofs.YtodnggilomanbaaDoor.PAll
open Go.Proofs.YtodnggilomanbaaDoor.Hand
open Go.RowKit Go.Proofs.YtodnggilomanbaaDoorW.PrintWords Go.Proofs.YtodnggilomanbaaDoorW.PrintLast Go.Proofs.YtodnggilomanbaaDoorW.PrintMore
attribute [local go_sem] max2_int min2_int max_two min_two max_three min_three max_four min_four   -- for this text's walks alone
set_option linter.unusedVariables false
set_option linter.unusedSimpArgs false
attribute [-simp] List.length_take List.length_drop ByteArray.size_extract

/-! ### signetrylaw14_four: function 9 -/
def signetrylaw14_four.f (a0 : Int) (a1 : ByteArray) : Option (ByteArray) := if 0 ≤ (wrap64 (Int.tdiv a0 4096)) then (if (wrap64 (Int.tdiv a0 4096)) ≤ (wrap64 ((wrap64 (Int.tdiv a0 4096)) + 1)) then (if (wrap64 ((wrap64 (Int.tdiv a0 4096)) + 1)) ≤ (a1.size : Int) then (if 2 + (a1.extract ((wrap64 (Int.tdiv a0 4096)) : Int).toNat ((wrap64 ((wrap64 (Int.tdiv a0 4096)) + 1)) : Int).toNat).size ≤ 9223372036854775807 then (if 0 ≤ (Int.tmod (wrap64 (Int.tdiv a0 256)) 16) then (if (Int.tmod (wrap64 (Int.tdiv a0 256)) 16) ≤ (wrap64 ((Int.tmod (wrap64 (Int.tdiv a0 256)) 16) + 1)) then (if (wrap64 ((Int.tmod (wrap64 (Int.tdiv a0 256)) 16) + 1)) ≤ (a1.size : Int) then (if ((⟨#[92, 117]⟩ : ByteArray) ++ (a1.extract ((wrap64 (Int.tdiv a0 4096)) : Int).toNat ((wrap64 ((wrap64 (Int.tdiv a0 4096)) + 1)) : Int).toNat)).size + (a1.extract ((Int.tmod (wrap64 (Int.tdiv a0 256)) 16) : Int).toNat ((wrap64 ((Int.tmod (wrap64 (Int.tdiv a0 256)) 16) + 1)) : Int).toNat).size ≤ 9223372036854775807 then (if 0 ≤ (Int.tmod (wrap64 (Int.tdiv a0 16)) 16) then (if (Int.tmod (wrap64 (Int.tdiv a0 16)) 16) ≤ (wrap64 ((Int.tmod (wrap64 (Int.tdiv a0 16)) 16) + 1)) then (if (wrap64 ((Int.tmod (wrap64 (Int.tdiv a0 16)) 16) + 1)) ≤ (a1.size : Int) then (if (((⟨#[92, 117]⟩ : ByteArray) ++ (a1.extract ((wrap64 (Int.tdiv a0 4096)) : Int).toNat ((wrap64 ((wrap64 (Int.tdiv a0 4096)) + 1)) : Int).toNat)) ++ (a1.extract ((Int.tmod (wrap64 (Int.tdiv a0 256)) 16) : Int).toNat ((wrap64 ((Int.tmod (wrap64 (Int.tdiv a0 256)) 16) + 1)) : Int).toNat)).size + (a1.extract ((Int.tmod (wrap64 (Int.tdiv a0 16)) 16) : Int).toNat ((wrap64 ((Int.tmod (wrap64 (Int.tdiv a0 16)) 16) + 1)) : Int).toNat).size ≤ 9223372036854775807 then (if 0 ≤ (Int.tmod a0 16) then (if (Int.tmod a0 16) ≤ (wrap64 ((Int.tmod a0 16) + 1)) then (if (wrap64 ((Int.tmod a0 16) + 1)) ≤ (a1.size : Int) then (if ((((⟨#[92, 117]⟩ : ByteArray) ++ (a1.extract ((wrap64 (Int.tdiv a0 4096)) : Int).toNat ((wrap64 ((wrap64 (Int.tdiv a0 4096)) + 1)) : Int).toNat)) ++ (a1.extract ((Int.tmod (wrap64 (Int.tdiv a0 256)) 16) : Int).toNat ((wrap64 ((Int.tmod (wrap64 (Int.tdiv a0 256)) 16) + 1)) : Int).toNat)) ++ (a1.extract ((Int.tmod (wrap64 (Int.tdiv a0 16)) 16) : Int).toNat ((wrap64 ((Int.tmod (wrap64 (Int.tdiv a0 16)) 16) + 1)) : Int).toNat)).size + (a1.extract ((Int.tmod a0 16) : Int).toNat ((wrap64 ((Int.tmod a0 16) + 1)) : Int).toNat).size ≤ 9223372036854775807 then (some (((((⟨#[92, 117]⟩ : ByteArray) ++ (a1.extract ((wrap64 (Int.tdiv a0 4096)) : Int).toNat ((wrap64 ((wrap64 (Int.tdiv a0 4096)) + 1)) : Int).toNat)) ++ (a1.extract ((Int.tmod (wrap64 (Int.tdiv a0 256)) 16) : Int).toNat ((wrap64 ((Int.tmod (wrap64 (Int.tdiv a0 256)) 16) + 1)) : Int).toNat)) ++ (a1.extract ((Int.tmod (wrap64 (Int.tdiv a0 16)) 16) : Int).toNat ((wrap64 ((Int.tmod (wrap64 (Int.tdiv a0 16)) 16) + 1)) : Int).toNat)) ++ (a1.extract ((Int.tmod a0 16) : Int).toNat ((wrap64 ((Int.tmod a0 16) + 1)) : Int).toNat))) else (none)) else (none)) else (none)) else (none)) else (none)) else (none)) else (none)) else (none)) else (none)) else (none)) else (none)) else (none)) else (none)) else (none)) else (none)) else (none)
set_option maxHeartbeats 8000000 in
set_option maxRecDepth 100000 in
theorem signetrylaw14_four.calls (a0 : Int) (a1 : ByteArray) (r : ByteArray) (w : World) (h : signetrylaw14_four.f a0 a1 = some r) :
    Calls Tryd.prog 9 #[.int .i64 a0, .string a1] w fun e w' => e = .returned (.string r) ∧ Drawn0 w w' := by
  have H : (if 0 ≤ (wrap64 (Int.tdiv a0 4096)) then (if (wrap64 (Int.tdiv a0 4096)) ≤ (wrap64 ((wrap64 (Int.tdiv a0 4096)) + 1)) then (if (wrap64 ((wrap64 (Int.tdiv a0 4096)) + 1)) ≤ (a1.size : Int) then (if 2 + (a1.extract ((wrap64 (Int.tdiv a0 4096)) : Int).toNat ((wrap64 ((wrap64 (Int.tdiv a0 4096)) + 1)) : Int).toNat).size ≤ 9223372036854775807 then (if 0 ≤ (Int.tmod (wrap64 (Int.tdiv a0 256)) 16) then (if (Int.tmod (wrap64 (Int.tdiv a0 256)) 16) ≤ (wrap64 ((Int.tmod (wrap64 (Int.tdiv a0 256)) 16) + 1)) then (if (wrap64 ((Int.tmod (wrap64 (Int.tdiv a0 256)) 16) + 1)) ≤ (a1.size : Int) then (if ((⟨#[92, 117]⟩ : ByteArray) ++ (a1.extract ((wrap64 (Int.tdiv a0 4096)) : Int).toNat ((wrap64 ((wrap64 (Int.tdiv a0 4096)) + 1)) : Int).toNat)).size + (a1.extract ((Int.tmod (wrap64 (Int.tdiv a0 256)) 16) : Int).toNat ((wrap64 ((Int.tmod (wrap64 (Int.tdiv a0 256)) 16) + 1)) : Int).toNat).size ≤ 9223372036854775807 then (if 0 ≤ (Int.tmod (wrap64 (Int.tdiv a0 16)) 16) then (if (Int.tmod (wrap64 (Int.tdiv a0 16)) 16) ≤ (wrap64 ((Int.tmod (wrap64 (Int.tdiv a0 16)) 16) + 1)) then (if (wrap64 ((Int.tmod (wrap64 (Int.tdiv a0 16)) 16) + 1)) ≤ (a1.size : Int) then (if (((⟨#[92, 117]⟩ : ByteArray) ++ (a1.extract ((wrap64 (Int.tdiv a0 4096)) : Int).toNat ((wrap64 ((wrap64 (Int.tdiv a0 4096)) + 1)) : Int).toNat)) ++ (a1.extract ((Int.tmod (wrap64 (Int.tdiv a0 256)) 16) : Int).toNat ((wrap64 ((Int.tmod (wrap64 (Int.tdiv a0 256)) 16) + 1)) : Int).toNat)).size + (a1.extract ((Int.tmod (wrap64 (Int.tdiv a0 16)) 16) : Int).toNat ((wrap64 ((Int.tmod (wrap64 (Int.tdiv a0 16)) 16) + 1)) : Int).toNat).size ≤ 9223372036854775807 then (if 0 ≤ (Int.tmod a0 16) then (if (Int.tmod a0 16) ≤ (wrap64 ((Int.tmod a0 16) + 1)) then (if (wrap64 ((Int.tmod a0 16) + 1)) ≤ (a1.size : Int) then (if ((((⟨#[92, 117]⟩ : ByteArray) ++ (a1.extract ((wrap64 (Int.tdiv a0 4096)) : Int).toNat ((wrap64 ((wrap64 (Int.tdiv a0 4096)) + 1)) : Int).toNat)) ++ (a1.extract ((Int.tmod (wrap64 (Int.tdiv a0 256)) 16) : Int).toNat ((wrap64 ((Int.tmod (wrap64 (Int.tdiv a0 256)) 16) + 1)) : Int).toNat)) ++ (a1.extract ((Int.tmod (wrap64 (Int.tdiv a0 16)) 16) : Int).toNat ((wrap64 ((Int.tmod (wrap64 (Int.tdiv a0 16)) 16) + 1)) : Int).toNat)).size + (a1.extract ((Int.tmod a0 16) : Int).toNat ((wrap64 ((Int.tmod a0 16) + 1)) : Int).toNat).size ≤ 9223372036854775807 then (some (((((⟨#[92, 117]⟩ : ByteArray) ++ (a1.extract ((wrap64 (Int.tdiv a0 4096)) : Int).toNat ((wrap64 ((wrap64 (Int.tdiv a0 4096)) + 1)) : Int).toNat)) ++ (a1.extract ((Int.tmod (wrap64 (Int.tdiv a0 256)) 16) : Int).toNat ((wrap64 ((Int.tmod (wrap64 (Int.tdiv a0 256)) 16) + 1)) : Int).toNat)) ++ (a1.extract ((Int.tmod (wrap64 (Int.tdiv a0 16)) 16) : Int).toNat ((wrap64 ((Int.tmod (wrap64 (Int.tdiv a0 16)) 16) + 1)) : Int).toNat)) ++ (a1.extract ((Int.tmod a0 16) : Int).toNat ((wrap64 ((Int.tmod a0 16) + 1)) : Int).toNat))) else (none)) else (none)) else (none)) else (none)) else (none)) else (none)) else (none)) else (none)) else (none)) else (none)) else (none)) else (none)) else (none)) else (none)) else (none)) else (none)) = some r := h
  clear h
  obtain ⟨ji3, hji3⟩ : ∃ j_ : Int, (wrap64 (Int.tdiv a0 4096)) = j_ := ⟨_, rfl⟩
  replace H : (if 0 ≤ (ji3) then (if (ji3) ≤ (wrap64 ((ji3) + 1)) then (if (wrap64 ((ji3) + 1)) ≤ (a1.size : Int) then (if 2 + (a1.extract ((ji3) : Int).toNat ((wrap64 ((ji3) + 1)) : Int).toNat).size ≤ 9223372036854775807 then (if 0 ≤ (Int.tmod (wrap64 (Int.tdiv a0 256)) 16) then (if (Int.tmod (wrap64 (Int.tdiv a0 256)) 16) ≤ (wrap64 ((Int.tmod (wrap64 (Int.tdiv a0 256)) 16) + 1)) then (if (wrap64 ((Int.tmod (wrap64 (Int.tdiv a0 256)) 16) + 1)) ≤ (a1.size : Int) then (if ((⟨#[92, 117]⟩ : ByteArray) ++ (a1.extract ((ji3) : Int).toNat ((wrap64 ((ji3) + 1)) : Int).toNat)).size + (a1.extract ((Int.tmod (wrap64 (Int.tdiv a0 256)) 16) : Int).toNat ((wrap64 ((Int.tmod (wrap64 (Int.tdiv a0 256)) 16) + 1)) : Int).toNat).size ≤ 9223372036854775807 then (if 0 ≤ (Int.tmod (wrap64 (Int.tdiv a0 16)) 16) then (if (Int.tmod (wrap64 (Int.tdiv a0 16)) 16) ≤ (wrap64 ((Int.tmod (wrap64 (Int.tdiv a0 16)) 16) + 1)) then (if (wrap64 ((Int.tmod (wrap64 (Int.tdiv a0 16)) 16) + 1)) ≤ (a1.size : Int) then (if (((⟨#[92, 117]⟩ : ByteArray) ++ (a1.extract ((ji3) : Int).toNat ((wrap64 ((ji3) + 1)) : Int).toNat)) ++ (a1.extract ((Int.tmod (wrap64 (Int.tdiv a0 256)) 16) : Int).toNat ((wrap64 ((Int.tmod (wrap64 (Int.tdiv a0 256)) 16) + 1)) : Int).toNat)).size + (a1.extract ((Int.tmod (wrap64 (Int.tdiv a0 16)) 16) : Int).toNat ((wrap64 ((Int.tmod (wrap64 (Int.tdiv a0 16)) 16) + 1)) : Int).toNat).size ≤ 9223372036854775807 then (if 0 ≤ (Int.tmod a0 16) then (if (Int.tmod a0 16) ≤ (wrap64 ((Int.tmod a0 16) + 1)) then (if (wrap64 ((Int.tmod a0 16) + 1)) ≤ (a1.size : Int) then (if ((((⟨#[92, 117]⟩ : ByteArray) ++ (a1.extract ((ji3) : Int).toNat ((wrap64 ((ji3) + 1)) : Int).toNat)) ++ (a1.extract ((Int.tmod (wrap64 (Int.tdiv a0 256)) 16) : Int).toNat ((wrap64 ((Int.tmod (wrap64 (Int.tdiv a0 256)) 16) + 1)) : Int).toNat)) ++ (a1.extract ((Int.tmod (wrap64 (Int.tdiv a0 16)) 16) : Int).toNat ((wrap64 ((Int.tmod (wrap64 (Int.tdiv a0 16)) 16) + 1)) : Int).toNat)).size + (a1.extract ((Int.tmod a0 16) : Int).toNat ((wrap64 ((Int.tmod a0 16) + 1)) : Int).toNat).size ≤ 9223372036854775807 then (some (((((⟨#[92, 117]⟩ : ByteArray) ++ (a1.extract ((ji3) : Int).toNat ((wrap64 ((ji3) + 1)) : Int).toNat)) ++ (a1.extract ((Int.tmod (wrap64 (Int.tdiv a0 256)) 16) : Int).toNat ((wrap64 ((Int.tmod (wrap64 (Int.tdiv a0 256)) 16) + 1)) : Int).toNat)) ++ (a1.extract ((Int.tmod (wrap64 (Int.tdiv a0 16)) 16) : Int).toNat ((wrap64 ((Int.tmod (wrap64 (Int.tdiv a0 16)) 16) + 1)) : Int).toNat)) ++ (a1.extract ((Int.tmod a0 16) : Int).toNat ((wrap64 ((Int.tmod a0 16) + 1)) : Int).toNat))) else (none)) else (none)) else (none)) else (none)) else (none)) else (none)) else (none)) else (none)) else (none)) else (none)) else (none)) else (none)) else (none)) else (none)) else (none)) else (none)) = some r := by first | (rw [hji3] at H; exact H) | (simp only [hji3] at H ⊢; exact H)
  have hji3w : (IntKind.i64.wrap (Int.tdiv a0 4096)) = ji3 := (i64_w _).trans hji3
  by_cases c4 : 0 ≤ (ji3)
  · rw [if_pos c4] at H
    have c4b0 := eq_true c4
    have c4b1 : decide (0 ≤ (ji3)) = true := decide_eq_true c4
    clear c4
    by_cases c5 : (ji3) ≤ (wrap64 ((ji3) + 1))
    · rw [if_pos c5] at H
      have c5b0 := eq_true c5
      have c5b1 : decide ((ji3) ≤ (wrap64 ((ji3) + 1))) = true := decide_eq_true c5
      by_cases c6 : (wrap64 ((ji3) + 1)) ≤ (a1.size : Int)
      · rw [if_pos c6] at H
        have c6b0 := eq_true c6
        have c6b1 : decide ((wrap64 ((ji3) + 1)) ≤ (a1.size : Int)) = true := decide_eq_true c6
        by_cases c7 : 2 + (a1.extract ((ji3) : Int).toNat ((wrap64 ((ji3) + 1)) : Int).toNat).size ≤ 9223372036854775807
        · rw [if_pos c7] at H
          have c7b0 := eq_true c7
          have c7b1 : decide (2 + (a1.extract ((ji3) : Int).toNat ((wrap64 ((ji3) + 1)) : Int).toNat).size ≤ 9223372036854775807) = true := decide_eq_true c7
          try have c7b2 : (9223372036854775807 < 2 + (a1.extract ((ji3) : Int).toNat ((wrap64 ((ji3) + 1)) : Int).toNat).size) = False := eq_false (Nat.not_lt.2 c7)
          obtain ⟨ji8, hji8⟩ : ∃ j_ : Int, (Int.tmod (wrap64 (Int.tdiv a0 256)) 16) = j_ := ⟨_, rfl⟩
          replace H : (if 0 ≤ (ji8) then (if (ji8) ≤ (wrap64 ((ji8) + 1)) then (if (wrap64 ((ji8) + 1)) ≤ (a1.size : Int) then (if ((⟨#[92, 117]⟩ : ByteArray) ++ (a1.extract ((ji3) : Int).toNat ((wrap64 ((ji3) + 1)) : Int).toNat)).size + (a1.extract ((ji8) : Int).toNat ((wrap64 ((ji8) + 1)) : Int).toNat).size ≤ 9223372036854775807 then (if 0 ≤ (Int.tmod (wrap64 (Int.tdiv a0 16)) 16) then (if (Int.tmod (wrap64 (Int.tdiv a0 16)) 16) ≤ (wrap64 ((Int.tmod (wrap64 (Int.tdiv a0 16)) 16) + 1)) then (if (wrap64 ((Int.tmod (wrap64 (Int.tdiv a0 16)) 16) + 1)) ≤ (a1.size : Int) then (if (((⟨#[92, 117]⟩ : ByteArray) ++ (a1.extract ((ji3) : Int).toNat ((wrap64 ((ji3) + 1)) : Int).toNat)) ++ (a1.extract ((ji8) : Int).toNat ((wrap64 ((ji8) + 1)) : Int).toNat)).size + (a1.extract ((Int.tmod (wrap64 (Int.tdiv a0 16)) 16) : Int).toNat ((wrap64 ((Int.tmod (wrap64 (Int.tdiv a0 16)) 16) + 1)) : Int).toNat).size ≤ 9223372036854775807 then (if 0 ≤ (Int.tmod a0 16) then (if (Int.tmod a0 16) ≤ (wrap64 ((Int.tmod a0 16) + 1)) then (if (wrap64 ((Int.tmod a0 16) + 1)) ≤ (a1.size : Int) then (if ((((⟨#[92, 117]⟩ : ByteArray) ++ (a1.extract ((ji3) : Int).toNat ((wrap64 ((ji3) + 1)) : Int).toNat)) ++ (a1.extract ((ji8) : Int).toNat ((wrap64 ((ji8) + 1)) : Int).toNat)) ++ (a1.extract ((Int.tmod (wrap64 (Int.tdiv a0 16)) 16) : Int).toNat ((wrap64 ((Int.tmod (wrap64 (Int.tdiv a0 16)) 16) + 1)) : Int).toNat)).size + (a1.extract ((Int.tmod a0 16) : Int).toNat ((wrap64 ((Int.tmod a0 16) + 1)) : Int).toNat).size ≤ 9223372036854775807 then (some (((((⟨#[92, 117]⟩ : ByteArray) ++ (a1.extract ((ji3) : Int).toNat ((wrap64 ((ji3) + 1)) : Int).toNat)) ++ (a1.extract ((ji8) : Int).toNat ((wrap64 ((ji8) + 1)) : Int).toNat)) ++ (a1.extract ((Int.tmod (wrap64 (Int.tdiv a0 16)) 16) : Int).toNat ((wrap64 ((Int.tmod (wrap64 (Int.tdiv a0 16)) 16) + 1)) : Int).toNat)) ++ (a1.extract ((Int.tmod a0 16) : Int).toNat ((wrap64 ((Int.tmod a0 16) + 1)) : Int).toNat))) else (none)) else (none)) else (none)) else (none)) else (none)) else (none)) else (none)) else (none)) else (none)) else (none)) else (none)) else (none)) = some r := by first | (rw [hji8] at H; exact H) | (simp only [hji8] at H ⊢; exact H)
          by_cases c9 : 0 ≤ (ji8)
          · rw [if_pos c9] at H
            have c9b0 := eq_true c9
            have c9b1 : decide (0 ≤ (ji8)) = true := decide_eq_true c9
            clear c9
            by_cases c10 : (ji8) ≤ (wrap64 ((ji8) + 1))
            · rw [if_pos c10] at H
              have c10b0 := eq_true c10
              have c10b1 : decide ((ji8) ≤ (wrap64 ((ji8) + 1))) = true := decide_eq_true c10
              by_cases c11 : (wrap64 ((ji8) + 1)) ≤ (a1.size : Int)
              · rw [if_pos c11] at H
                have c11b0 := eq_true c11
                have c11b1 : decide ((wrap64 ((ji8) + 1)) ≤ (a1.size : Int)) = true := decide_eq_true c11
                by_cases c12 : ((⟨#[92, 117]⟩ : ByteArray) ++ (a1.extract ((ji3) : Int).toNat ((wrap64 ((ji3) + 1)) : Int).toNat)).size + (a1.extract ((ji8) : Int).toNat ((wrap64 ((ji8) + 1)) : Int).toNat).size ≤ 9223372036854775807
                · rw [if_pos c12] at H
                  have c12b0 := eq_true c12
                  have c12b1 : decide (((⟨#[92, 117]⟩ : ByteArray) ++ (a1.extract ((ji3) : Int).toNat ((wrap64 ((ji3) + 1)) : Int).toNat)).size + (a1.extract ((ji8) : Int).toNat ((wrap64 ((ji8) + 1)) : Int).toNat).size ≤ 9223372036854775807) = true := decide_eq_true c12
                  try have c12b2 : (9223372036854775807 < ((⟨#[92, 117]⟩ : ByteArray) ++ (a1.extract ((ji3) : Int).toNat ((wrap64 ((ji3) + 1)) : Int).toNat)).size + (a1.extract ((ji8) : Int).toNat ((wrap64 ((ji8) + 1)) : Int).toNat).size) = False := eq_false (Nat.not_lt.2 c12)
                  try have c12b3 : (9223372036854775807 < (⟨#[92, 117]⟩ : ByteArray).size + (a1.extract ((ji3) : Int).toNat ((wrap64 ((ji3) + 1)) : Int).toNat).size + (a1.extract ((ji8) : Int).toNat ((wrap64 ((ji8) + 1)) : Int).toNat).size) = False := by rw [← ByteArray.size_append]; exact c12b2
                  obtain ⟨ji13, hji13⟩ : ∃ j_ : Int, (Int.tmod (wrap64 (Int.tdiv a0 16)) 16) = j_ := ⟨_, rfl⟩
                  replace H : (if 0 ≤ (ji13) then (if (ji13) ≤ (wrap64 ((ji13) + 1)) then (if (wrap64 ((ji13) + 1)) ≤ (a1.size : Int) then (if (((⟨#[92, 117]⟩ : ByteArray) ++ (a1.extract ((ji3) : Int).toNat ((wrap64 ((ji3) + 1)) : Int).toNat)) ++ (a1.extract ((ji8) : Int).toNat ((wrap64 ((ji8) + 1)) : Int).toNat)).size + (a1.extract ((ji13) : Int).toNat ((wrap64 ((ji13) + 1)) : Int).toNat).size ≤ 9223372036854775807 then (if 0 ≤ (Int.tmod a0 16) then (if (Int.tmod a0 16) ≤ (wrap64 ((Int.tmod a0 16) + 1)) then (if (wrap64 ((Int.tmod a0 16) + 1)) ≤ (a1.size : Int) then (if ((((⟨#[92, 117]⟩ : ByteArray) ++ (a1.extract ((ji3) : Int).toNat ((wrap64 ((ji3) + 1)) : Int).toNat)) ++ (a1.extract ((ji8) : Int).toNat ((wrap64 ((ji8) + 1)) : Int).toNat)) ++ (a1.extract ((ji13) : Int).toNat ((wrap64 ((ji13) + 1)) : Int).toNat)).size + (a1.extract ((Int.tmod a0 16) : Int).toNat ((wrap64 ((Int.tmod a0 16) + 1)) : Int).toNat).size ≤ 9223372036854775807 then (some (((((⟨#[92, 117]⟩ : ByteArray) ++ (a1.extract ((ji3) : Int).toNat ((wrap64 ((ji3) + 1)) : Int).toNat)) ++ (a1.extract ((ji8) : Int).toNat ((wrap64 ((ji8) + 1)) : Int).toNat)) ++ (a1.extract ((ji13) : Int).toNat ((wrap64 ((ji13) + 1)) : Int).toNat)) ++ (a1.extract ((Int.tmod a0 16) : Int).toNat ((wrap64 ((Int.tmod a0 16) + 1)) : Int).toNat))) else (none)) else (none)) else (none)) else (none)) else (none)) else (none)) else (none)) else (none)) = some r := by first | (rw [hji13] at H; exact H) | (simp only [hji13] at H ⊢; exact H)
                  by_cases c14 : 0 ≤ (ji13)
                  · rw [if_pos c14] at H
                    have c14b0 := eq_true c14
                    have c14b1 : decide (0 ≤ (ji13)) = true := decide_eq_true c14
                    clear c14
                    by_cases c15 : (ji13) ≤ (wrap64 ((ji13) + 1))
                    · rw [if_pos c15] at H
                      have c15b0 := eq_true c15
                      have c15b1 : decide ((ji13) ≤ (wrap64 ((ji13) + 1))) = true := decide_eq_true c15
                      by_cases c16 : (wrap64 ((ji13) + 1)) ≤ (a1.size : Int)
                      · rw [if_pos c16] at H
                        have c16b0 := eq_true c16
                        have c16b1 : decide ((wrap64 ((ji13) + 1)) ≤ (a1.size : Int)) = true := decide_eq_true c16
                        by_cases c17 : (((⟨#[92, 117]⟩ : ByteArray) ++ (a1.extract ((ji3) : Int).toNat ((wrap64 ((ji3) + 1)) : Int).toNat)) ++ (a1.extract ((ji8) : Int).toNat ((wrap64 ((ji8) + 1)) : Int).toNat)).size + (a1.extract ((ji13) : Int).toNat ((wrap64 ((ji13) + 1)) : Int).toNat).size ≤ 9223372036854775807
                        · rw [if_pos c17] at H
                          have c17b0 := eq_true c17
                          have c17b1 : decide ((((⟨#[92, 117]⟩ : ByteArray) ++ (a1.extract ((ji3) : Int).toNat ((wrap64 ((ji3) + 1)) : Int).toNat)) ++ (a1.extract ((ji8) : Int).toNat ((wrap64 ((ji8) + 1)) : Int).toNat)).size + (a1.extract ((ji13) : Int).toNat ((wrap64 ((ji13) + 1)) : Int).toNat).size ≤ 9223372036854775807) = true := decide_eq_true c17
                          try have c17b2 : (9223372036854775807 < (((⟨#[92, 117]⟩ : ByteArray) ++ (a1.extract ((ji3) : Int).toNat ((wrap64 ((ji3) + 1)) : Int).toNat)) ++ (a1.extract ((ji8) : Int).toNat ((wrap64 ((ji8) + 1)) : Int).toNat)).size + (a1.extract ((ji13) : Int).toNat ((wrap64 ((ji13) + 1)) : Int).toNat).size) = False := eq_false (Nat.not_lt.2 c17)
                          try have c17b3 : (9223372036854775807 < ((⟨#[92, 117]⟩ : ByteArray) ++ (a1.extract ((ji3) : Int).toNat ((wrap64 ((ji3) + 1)) : Int).toNat)).size + (a1.extract ((ji8) : Int).toNat ((wrap64 ((ji8) + 1)) : Int).toNat).size + (a1.extract ((ji13) : Int).toNat ((wrap64 ((ji13) + 1)) : Int).toNat).size) = False := by rw [← ByteArray.size_append]; exact c17b2
                          obtain ⟨ji18, hji18⟩ : ∃ j_ : Int, (Int.tmod a0 16) = j_ := ⟨_, rfl⟩
                          replace H : (if 0 ≤ (ji18) then (if (ji18) ≤ (wrap64 ((ji18) + 1)) then (if (wrap64 ((ji18) + 1)) ≤ (a1.size : Int) then (if ((((⟨#[92, 117]⟩ : ByteArray) ++ (a1.extract ((ji3) : Int).toNat ((wrap64 ((ji3) + 1)) : Int).toNat)) ++ (a1.extract ((ji8) : Int).toNat ((wrap64 ((ji8) + 1)) : Int).toNat)) ++ (a1.extract ((ji13) : Int).toNat ((wrap64 ((ji13) + 1)) : Int).toNat)).size + (a1.extract ((ji18) : Int).toNat ((wrap64 ((ji18) + 1)) : Int).toNat).size ≤ 9223372036854775807 then (some (((((⟨#[92, 117]⟩ : ByteArray) ++ (a1.extract ((ji3) : Int).toNat ((wrap64 ((ji3) + 1)) : Int).toNat)) ++ (a1.extract ((ji8) : Int).toNat ((wrap64 ((ji8) + 1)) : Int).toNat)) ++ (a1.extract ((ji13) : Int).toNat ((wrap64 ((ji13) + 1)) : Int).toNat)) ++ (a1.extract ((ji18) : Int).toNat ((wrap64 ((ji18) + 1)) : Int).toNat))) else (none)) else (none)) else (none)) else (none)) = some r := by first | (rw [hji18] at H; exact H) | (simp only [hji18] at H ⊢; exact H)
                          by_cases c19 : 0 ≤ (ji18)
                          · rw [if_pos c19] at H
                            have c19b0 := eq_true c19
                            have c19b1 : decide (0 ≤ (ji18)) = true := decide_eq_true c19
                            clear c19
                            by_cases c20 : (ji18) ≤ (wrap64 ((ji18) + 1))
                            · rw [if_pos c20] at H
                              have c20b0 := eq_true c20
                              have c20b1 : decide ((ji18) ≤ (wrap64 ((ji18) + 1))) = true := decide_eq_true c20
                              by_cases c21 : (wrap64 ((ji18) + 1)) ≤ (a1.size : Int)
                              · rw [if_pos c21] at H
                                have c21b0 := eq_true c21
                                have c21b1 : decide ((wrap64 ((ji18) + 1)) ≤ (a1.size : Int)) = true := decide_eq_true c21
                                by_cases c22 : ((((⟨#[92, 117]⟩ : ByteArray) ++ (a1.extract ((ji3) : Int).toNat ((wrap64 ((ji3) + 1)) : Int).toNat)) ++ (a1.extract ((ji8) : Int).toNat ((wrap64 ((ji8) + 1)) : Int).toNat)) ++ (a1.extract ((ji13) : Int).toNat ((wrap64 ((ji13) + 1)) : Int).toNat)).size + (a1.extract ((ji18) : Int).toNat ((wrap64 ((ji18) + 1)) : Int).toNat).size ≤ 9223372036854775807
                                · rw [if_pos c22] at H
                                  have c22b0 := eq_true c22
                                  have c22b1 : decide (((((⟨#[92, 117]⟩ : ByteArray) ++ (a1.extract ((ji3) : Int).toNat ((wrap64 ((ji3) + 1)) : Int).toNat)) ++ (a1.extract ((ji8) : Int).toNat ((wrap64 ((ji8) + 1)) : Int).toNat)) ++ (a1.extract ((ji13) : Int).toNat ((wrap64 ((ji13) + 1)) : Int).toNat)).size + (a1.extract ((ji18) : Int).toNat ((wrap64 ((ji18) + 1)) : Int).toNat).size ≤ 9223372036854775807) = true := decide_eq_true c22
                                  try have c22b2 : (9223372036854775807 < ((((⟨#[92, 117]⟩ : ByteArray) ++ (a1.extract ((ji3) : Int).toNat ((wrap64 ((ji3) + 1)) : Int).toNat)) ++ (a1.extract ((ji8) : Int).toNat ((wrap64 ((ji8) + 1)) : Int).toNat)) ++ (a1.extract ((ji13) : Int).toNat ((wrap64 ((ji13) + 1)) : Int).toNat)).size + (a1.extract ((ji18) : Int).toNat ((wrap64 ((ji18) + 1)) : Int).toNat).size) = False := eq_false (Nat.not_lt.2 c22)
                                  try have c22b3 : (9223372036854775807 < (((⟨#[92, 117]⟩ : ByteArray) ++ (a1.extract ((ji3) : Int).toNat ((wrap64 ((ji3) + 1)) : Int).toNat)) ++ (a1.extract ((ji8) : Int).toNat ((wrap64 ((ji8) + 1)) : Int).toNat)).size + (a1.extract ((ji13) : Int).toNat ((wrap64 ((ji13) + 1)) : Int).toNat).size + (a1.extract ((ji18) : Int).toNat ((wrap64 ((ji18) + 1)) : Int).toNat).size) = False := by rw [← ByteArray.size_append]; exact c22b2
                                  obtain rfl := Option.some.inj H
                                  go_enter Tryd.func9, Tryd.ntmps9
                                  go_wp2
                                  repeat (go_quiet (fail); try go_wp2)
                                  go_ret
                                  exact ⟨by first | rfl | (simp; done) | (simp only [← hji3, ← hji8, ← hji13, ← hji18] <;> (first | rfl | simp)) | (simp [*]; done), by repeat (first | exact Drawn0.refl _ | apply Drawn0.step)⟩
                                · rw [if_neg c22] at H
                                  exact absurd H (by simp)
                              · rw [if_neg c21] at H
                                exact absurd H (by simp)
                            · rw [if_neg c20] at H
                              exact absurd H (by simp)
                          · rw [if_neg c19] at H
                            exact absurd H (by simp)
                        · rw [if_neg c17] at H
                          exact absurd H (by simp)
                      · rw [if_neg c16] at H
                        exact absurd H (by simp)
                    · rw [if_neg c15] at H
                      exact absurd H (by simp)
                  · rw [if_neg c14] at H
                    exact absurd H (by simp)
                · rw [if_neg c12] at H
                  exact absurd H (by simp)
              · rw [if_neg c11] at H
                exact absurd H (by simp)
            · rw [if_neg c10] at H
              exact absurd H (by simp)
          · rw [if_neg c9] at H
            exact absurd H (by simp)
        · rw [if_neg c7] at H
          exact absurd H (by simp)
      · rw [if_neg c6] at H
        exact absurd H (by simp)
    · rw [if_neg c5] at H
      exact absurd H (by simp)
  · rw [if_neg c4] at H
    exact absurd H (by simp)
end Go.Proofs.YtodnggilomanbaaDoor.PAll
