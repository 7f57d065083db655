-- Written by this repo's program wip/tools/pr.py (over the kit's print) out of the translation. Not trusted: Lean checks it.
import Derived.Test.YtbclejgljegfmaaAp
import Derived.Test.YtbclejgljegfmaaPAllx0
import Derived.Test.YtbclejgljegfmaaGA
import Derived.Test.YtbclejgljegfmaaGC
import Derived.Test.YtbclejgljegfmaaGVz
import Derived.Test.YtbclejgljegfmaaHandVar
import Derived.Test.YtbclejgljegfmaaHandWorks
set_option maxHeartbeats 8000000
set_option maxRecDepth 100000
namespace Go.Proofs.Ytbclejgljegfmaa.PAll
open Go.Proofs.Ytbclejgljegfmaa.Hand
open Go.RowKit Go.Proofs.YtbclejgljegfmaaW.PrintWords Go.Proofs.YtbclejgljegfmaaW.PrintLast Go.Proofs.YtbclejgljegfmaaW.PrintMore
attribute [local go_sem] max2_int min2_int max_two min_two max_three min_three max_four min_four   -- for this text's walks alone
attribute [-simp] List.length_take List.length_drop ByteArray.size_extract
set_option linter.unusedVariables false
set_option linter.unusedSimpArgs false

/-! ### bs: function 3 -/
theorem cut_up {P : Program} (t e : TypeId) (kh : IntKind) {i : TypeInfo} (ht : P.underlying t = some (.slice e)) (hi : P.info? e = some i) (A : Option Addr) (n c : Nat) (j : Int) (h0 : 0 ≤ j) (hm : j ≤ c) :
    ∀ W : World, (Instr.slice t (.slice A n c) none (some (.int kh j)) none).run P W = .ok (.slice A j.toNat c) W := by
  intro W
  have hel : P.elem t = e := by simp [Program.elem, ht]
  have hu : P.underlying t = some (.slice (P.elem t)) := by rw [hel]; exact ht
  have ha : (A.map fun x => x.add 0) = A := by cases A <;> simp [Addr.add]
  rw [run_slice_h W t A n c hu kh j h0 (by omega), hel]
  simp [sizeOf, typeInfo, hi, sliced, Result.andThen, ha]
def bs.f (k : Nat) (l0 : List Int) (a1 : Int) (a2 : Int) : Option (Bool) := if 0 ≤ (mn (l0.length : Int) 40) then (if (mn (l0.length : Int) 40) ≤ (l0.length : Int) then ((ag.f (l0.take ((mn (l0.length : Int) 40) : Int).toNat)).bind fun gV => ((some (([7, 7, 7] : List Int) : List Int)).bind fun y351 => (if gV.length + y351.length < 140737488355328 then ((some (gV ++ y351 : List Int)).bind fun y354 => (if 0 ≤ ((l0.take ((mn (l0.length : Int) 40) : Int).toNat).length : Int) then (if ((l0.take ((mn (l0.length : Int) 40) : Int).toNat).length : Int) ≤ (y354.length : Int) then ((some (y354.take (((l0.take ((mn (l0.length : Int) 40) : Int).toNat).length : Int) : Int).toNat : List Int)).bind fun y357 => ((wire_Var.f y357 a1).bind fun gA => ((aj.f k (l0.take ((mn (l0.length : Int) 40) : Int).toNat) a1).bind fun gn => ((ab.f gA gn).bind fun gp => (if gp = true then (if 0 ≤ (wrap64 (((l0.take ((mn (l0.length : Int) 40) : Int).toNat).length : Int) + 3)) then (if (wrap64 (((l0.take ((mn (l0.length : Int) 40) : Int).toNat).length : Int) + 3)) ≤ (y354.length : Int) then ((some (y354.take ((wrap64 (((l0.take ((mn (l0.length : Int) 40) : Int).toNat).length : Int) + 3)) : Int).toNat : List Int)).bind fun y368 => (if ((l0.take ((mn (l0.length : Int) 40) : Int).toNat).length : Int) ≤ (y368.length : Int) then ((ab.f (y368.drop (((l0.take ((mn (l0.length : Int) 40) : Int).toNat).length : Int) : Int).toNat) (([7, 7, 7] : List Int))).bind fun eA => (if eA = true then ((ab.f y357 (l0.take ((mn (l0.length : Int) 40) : Int).toNat)).bind fun eg => (if eg = true then ((wire_Size.f a1).bind fun dP => ((aA.f k a1).bind fun dO => (if dP = dO then ((wire_Zig.f a2).bind fun dI => ((az.f a2).bind fun dE => (if dI = dE then ((wire_Zag.f a1).bind fun dx => ((au.f a1).bind fun dw => (if dx = dw then ((ac.f).bind fun dy => (some dy)) else (none)))) else (none)))) else (none)))) else (none))) else (none))) else (none))) else (none)) else (none)) else (none)))))) else (none)) else (none))) else (none)))) else (none)) else (none)
theorem bs.calls (k : Nat) (A0 : Option Addr) (c0 : Nat) (l0 : List Int) (a1 : Int) (a2 : Int) (r : Bool) (w : World) (hr0 : Kd.C (Kd.int .u8) w A0 l0.length l0) (hc0 : l0.length ≤ c0) (h : bs.f k l0 a1 a2 = some r) :
 Calls Try.prog 3 #[.slice A0 l0.length c0, .int .u64 a1, .int .i64 a2] w fun e w' => e = .returned (.bool r) ∧ Below w.heap.size w w' := by
 have HR0 := Aside0.mk hr0
 have HC0 := Aside0.mk hc0
 clear hr0 hc0
 have HB := Aside0.mk (Below.refl w.heap.size w)
 have H : (if 0 ≤ (mn (l0.length : Int) 40) then (if (mn (l0.length : Int) 40) ≤ (l0.length : Int) then ((ag.f (l0.take ((mn (l0.length : Int) 40) : Int).toNat)).bind fun gV => ((some (([7, 7, 7] : List Int) : List Int)).bind fun y351 => (if gV.length + y351.length < 140737488355328 then ((some (gV ++ y351 : List Int)).bind fun y354 => (if 0 ≤ ((l0.take ((mn (l0.length : Int) 40) : Int).toNat).length : Int) then (if ((l0.take ((mn (l0.length : Int) 40) : Int).toNat).length : Int) ≤ (y354.length : Int) then ((some (y354.take (((l0.take ((mn (l0.length : Int) 40) : Int).toNat).length : Int) : Int).toNat : List Int)).bind fun y357 => ((wire_Var.f y357 a1).bind fun gA => ((aj.f k (l0.take ((mn (l0.length : Int) 40) : Int).toNat) a1).bind fun gn => ((ab.f gA gn).bind fun gp => (if gp = true then (if 0 ≤ (wrap64 (((l0.take ((mn (l0.length : Int) 40) : Int).toNat).length : Int) + 3)) then (if (wrap64 (((l0.take ((mn (l0.length : Int) 40) : Int).toNat).length : Int) + 3)) ≤ (y354.length : Int) then ((some (y354.take ((wrap64 (((l0.take ((mn (l0.length : Int) 40) : Int).toNat).length : Int) + 3)) : Int).toNat : List Int)).bind fun y368 => (if ((l0.take ((mn (l0.length : Int) 40) : Int).toNat).length : Int) ≤ (y368.length : Int) then ((ab.f (y368.drop (((l0.take ((mn (l0.length : Int) 40) : Int).toNat).length : Int) : Int).toNat) (([7, 7, 7] : List Int))).bind fun eA => (if eA = true then ((ab.f y357 (l0.take ((mn (l0.length : Int) 40) : Int).toNat)).bind fun eg => (if eg = true then ((wire_Size.f a1).bind fun dP => ((aA.f k a1).bind fun dO => (if dP = dO then ((wire_Zig.f a2).bind fun dI => ((az.f a2).bind fun dE => (if dI = dE then ((wire_Zag.f a1).bind fun dx => ((au.f a1).bind fun dw => (if dx = dw then ((ac.f).bind fun dy => (some dy)) else (none)))) else (none)))) else (none)))) else (none))) else (none))) else (none))) else (none)) else (none)) else (none)))))) else (none)) else (none))) else (none)))) else (none)) else (none)) = some r := h
 clear h
 obtain ⟨ji4, hji4⟩ : ∃ j_ : Int, (mn (l0.length : Int) 40) = j_ := ⟨_, rfl⟩
 replace H : (if 0 ≤ (ji4) then (if (ji4) ≤ (l0.length : Int) then ((ag.f (l0.take ((ji4) : Int).toNat)).bind fun gV => ((some (([7, 7, 7] : List Int) : List Int)).bind fun y351 => (if gV.length + y351.length < 140737488355328 then ((some (gV ++ y351 : List Int)).bind fun y354 => (if 0 ≤ ((l0.take ((ji4) : Int).toNat).length : Int) then (if ((l0.take ((ji4) : Int).toNat).length : Int) ≤ (y354.length : Int) then ((some (y354.take (((l0.take ((ji4) : Int).toNat).length : Int) : Int).toNat : List Int)).bind fun y357 => ((wire_Var.f y357 a1).bind fun gA => ((aj.f k (l0.take ((ji4) : Int).toNat) a1).bind fun gn => ((ab.f gA gn).bind fun gp => (if gp = true then (if 0 ≤ (wrap64 (((l0.take ((ji4) : Int).toNat).length : Int) + 3)) then (if (wrap64 (((l0.take ((ji4) : Int).toNat).length : Int) + 3)) ≤ (y354.length : Int) then ((some (y354.take ((wrap64 (((l0.take ((ji4) : Int).toNat).length : Int) + 3)) : Int).toNat : List Int)).bind fun y368 => (if ((l0.take ((ji4) : Int).toNat).length : Int) ≤ (y368.length : Int) then ((ab.f (y368.drop (((l0.take ((ji4) : Int).toNat).length : Int) : Int).toNat) (([7, 7, 7] : List Int))).bind fun eA => (if eA = true then ((ab.f y357 (l0.take ((ji4) : Int).toNat)).bind fun eg => (if eg = true then ((wire_Size.f a1).bind fun dP => ((aA.f k a1).bind fun dO => (if dP = dO then ((wire_Zig.f a2).bind fun dI => ((az.f a2).bind fun dE => (if dI = dE then ((wire_Zag.f a1).bind fun dx => ((au.f a1).bind fun dw => (if dx = dw then ((ac.f).bind fun dy => (some dy)) else (none)))) else (none)))) else (none)))) else (none))) else (none))) else (none))) else (none)) else (none)) else (none)))))) else (none)) else (none))) else (none)))) else (none)) else (none)) = some r := by first | (rw [hji4] at H; exact H) | (simp only [hji4] at H ⊢; exact H)
 (try (have hji4h : ji4 ≤ 40 := by (rw [← hji4]; unfold mn; (repeat' split) <;> omega)))
 (try (have hji4g : ji4 ≤ 64 := by omega))
 (try (have hji4l : 0 ≤ ji4 := by (rw [← hji4]; unfold mn; (repeat' split) <;> omega)))
 (try (have hji4m : 0 ≤ ji4 := by omega))
 have hji4_ : (if 40 < (l0.length : Int) then 40 else (l0.length : Int)) = ji4 := hji4
 by_cases c5 : 0 ≤ (ji4)
 case neg =>
  rw [if_neg c5] at H
  exact absurd H (by simp)

 rw [if_pos c5] at H
 have gI := eq_true c5
 have jv : decide (0 ≤ (ji4)) = true := decide_eq_true c5
 clear c5
 by_cases c6 : (ji4) ≤ (l0.length : Int)
 case neg =>
  rw [if_neg c6] at H
  exact absurd H (by simp)
 rw [if_pos c6] at H
 have js := eq_true c6
 have c6b1 : decide ((ji4) ≤ (l0.length : Int)) = true := decide_eq_true c6
 clear c6
 replace H := Option.bind_eq_some_iff.mp H
 obtain ⟨gV, A70, H⟩ := H
 replace H : ((some (([7, 7, 7] : List Int) : List Int)).bind fun y351 => (if gV.length + y351.length < 140737488355328 then ((some (gV ++ y351 : List Int)).bind fun y354 => (if 0 ≤ ((l0.take ((ji4) : Int).toNat).length : Int) then (if ((l0.take ((ji4) : Int).toNat).length : Int) ≤ (y354.length : Int) then ((some (y354.take (((l0.take ((ji4) : Int).toNat).length : Int) : Int).toNat : List Int)).bind fun y357 => ((wire_Var.f y357 a1).bind fun gA => ((aj.f k (l0.take ((ji4) : Int).toNat) a1).bind fun gn => ((ab.f gA gn).bind fun gp => (if gp = true then (if 0 ≤ (wrap64 (((l0.take ((ji4) : Int).toNat).length : Int) + 3)) then (if (wrap64 (((l0.take ((ji4) : Int).toNat).length : Int) + 3)) ≤ (y354.length : Int) then ((some (y354.take ((wrap64 (((l0.take ((ji4) : Int).toNat).length : Int) + 3)) : Int).toNat : List Int)).bind fun y368 => (if ((l0.take ((ji4) : Int).toNat).length : Int) ≤ (y368.length : Int) then ((ab.f (y368.drop (((l0.take ((ji4) : Int).toNat).length : Int) : Int).toNat) (([7, 7, 7] : List Int))).bind fun eA => (if eA = true then ((ab.f y357 (l0.take ((ji4) : Int).toNat)).bind fun eg => (if eg = true then ((wire_Size.f a1).bind fun dP => ((aA.f k a1).bind fun dO => (if dP = dO then ((wire_Zig.f a2).bind fun dI => ((az.f a2).bind fun dE => (if dI = dE then ((wire_Zag.f a1).bind fun dx => ((au.f a1).bind fun dw => (if dx = dw then ((ac.f).bind fun dy => (some dy)) else (none)))) else (none)))) else (none)))) else (none))) else (none))) else (none))) else (none)) else (none)) else (none)))))) else (none)) else (none))) else (none))) = some r := H
 have A7 := Aside0.mk A70
 clear A70
 obtain ⟨y351, hy351⟩ : ∃ y_ : List Int, y_ = (([7, 7, 7] : List Int)) := ⟨_, rfl⟩
 replace H : (if gV.length + y351.length < 140737488355328 then ((some (gV ++ y351 : List Int)).bind fun y354 => (if 0 ≤ ((l0.take ((ji4) : Int).toNat).length : Int) then (if ((l0.take ((ji4) : Int).toNat).length : Int) ≤ (y354.length : Int) then ((some (y354.take (((l0.take ((ji4) : Int).toNat).length : Int) : Int).toNat : List Int)).bind fun y357 => ((wire_Var.f y357 a1).bind fun gA => ((aj.f k (l0.take ((ji4) : Int).toNat) a1).bind fun gn => ((ab.f gA gn).bind fun gp => (if gp = true then (if 0 ≤ (wrap64 (((l0.take ((ji4) : Int).toNat).length : Int) + 3)) then (if (wrap64 (((l0.take ((ji4) : Int).toNat).length : Int) + 3)) ≤ (y354.length : Int) then ((some (y354.take ((wrap64 (((l0.take ((ji4) : Int).toNat).length : Int) + 3)) : Int).toNat : List Int)).bind fun y368 => (if ((l0.take ((ji4) : Int).toNat).length : Int) ≤ (y368.length : Int) then ((ab.f (y368.drop (((l0.take ((ji4) : Int).toNat).length : Int) : Int).toNat) (([7, 7, 7] : List Int))).bind fun eA => (if eA = true then ((ab.f y357 (l0.take ((ji4) : Int).toNat)).bind fun eg => (if eg = true then ((wire_Size.f a1).bind fun dP => ((aA.f k a1).bind fun dO => (if dP = dO then ((wire_Zig.f a2).bind fun dI => ((az.f a2).bind fun dE => (if dI = dE then ((wire_Zag.f a1).bind fun dx => ((au.f a1).bind fun dw => (if dx = dw then ((ac.f).bind fun dy => (some dy)) else (none)))) else (none)))) else (none)))) else (none))) else (none))) else (none))) else (none)) else (none)) else (none)))))) else (none)) else (none))) else (none)) = some r := by first | (rw [hy351]; with_reducible exact H) | (have H2_ := (Option.bind_some _ _).symm.trans H; rw [hy351]; with_reducible exact H2_) | (have H2_ := (Option.bind_some _ _).symm.trans H; with_reducible exact H2_) | with_reducible exact H | (rw [hy351]; exact H) | exact H
 have Ny351 := Aside0.mk hy351
 clear hy351
 by_cases c8 : gV.length + y351.length < 140737488355328
 case neg =>
  rw [if_neg c8] at H
  exact absurd H (by simp)
 rw [if_pos c8] at H
 have LMc8 := Aside0.mk c8
 clear c8
 obtain ⟨y354, hy354⟩ : ∃ y_ : List Int, y_ = (gV ++ y351) := ⟨_, rfl⟩
 replace H : (if 0 ≤ ((l0.take ((ji4) : Int).toNat).length : Int) then (if ((l0.take ((ji4) : Int).toNat).length : Int) ≤ (y354.length : Int) then ((some (y354.take (((l0.take ((ji4) : Int).toNat).length : Int) : Int).toNat : List Int)).bind fun y357 => ((wire_Var.f y357 a1).bind fun gA => ((aj.f k (l0.take ((ji4) : Int).toNat) a1).bind fun gn => ((ab.f gA gn).bind fun gp => (if gp = true then (if 0 ≤ (wrap64 (((l0.take ((ji4) : Int).toNat).length : Int) + 3)) then (if (wrap64 (((l0.take ((ji4) : Int).toNat).length : Int) + 3)) ≤ (y354.length : Int) then ((some (y354.take ((wrap64 (((l0.take ((ji4) : Int).toNat).length : Int) + 3)) : Int).toNat : List Int)).bind fun y368 => (if ((l0.take ((ji4) : Int).toNat).length : Int) ≤ (y368.length : Int) then ((ab.f (y368.drop (((l0.take ((ji4) : Int).toNat).length : Int) : Int).toNat) (([7, 7, 7] : List Int))).bind fun eA => (if eA = true then ((ab.f y357 (l0.take ((ji4) : Int).toNat)).bind fun eg => (if eg = true then ((wire_Size.f a1).bind fun dP => ((aA.f k a1).bind fun dO => (if dP = dO then ((wire_Zig.f a2).bind fun dI => ((az.f a2).bind fun dE => (if dI = dE then ((wire_Zag.f a1).bind fun dx => ((au.f a1).bind fun dw => (if dx = dw then ((ac.f).bind fun dy => (some dy)) else (none)))) else (none)))) else (none)))) else (none))) else (none))) else (none))) else (none)) else (none)) else (none)))))) else (none)) else (none)) = some r := by first | (rw [hy354]; with_reducible exact H) | (have H2_ := (Option.bind_some _ _).symm.trans H; rw [hy354]; with_reducible exact H2_) | (have H2_ := (Option.bind_some _ _).symm.trans H; with_reducible exact H2_) | with_reducible exact H | (rw [hy354]; exact H) | exact H
 have Ny354 := Aside0.mk hy354
 clear hy354
 by_cases c9 : 0 ≤ ((l0.take ((ji4) : Int).toNat).length : Int)
 case neg =>
  rw [if_neg c9] at H
  exact absurd H (by simp)
 rw [if_pos c9] at H
 have mi := eq_true c9
 have c9b1 : decide (0 ≤ ((l0.take ((ji4) : Int).toNat).length : Int)) = true := decide_eq_true c9
 clear c9
 by_cases c10 : ((l0.take ((ji4) : Int).toNat).length : Int) ≤ (y354.length : Int)
 case neg =>
  rw [if_neg c10] at H
  exact absurd H (by simp)
 rw [if_pos c10] at H
 have mj := eq_true c10
 have c10b1 : decide (((l0.take ((ji4) : Int).toNat).length : Int) ≤ (y354.length : Int)) = true := decide_eq_true c10
 clear c10
 obtain ⟨y357, hy357⟩ : ∃ y_ : List Int, y_ = (y354.take (((l0.take ((ji4) : Int).toNat).length : Int) : Int).toNat) := ⟨_, rfl⟩
 replace H : ((wire_Var.f y357 a1).bind fun gA => ((aj.f k (l0.take ((ji4) : Int).toNat) a1).bind fun gn => ((ab.f gA gn).bind fun gp => (if gp = true then (if 0 ≤ (wrap64 (((l0.take ((ji4) : Int).toNat).length : Int) + 3)) then (if (wrap64 (((l0.take ((ji4) : Int).toNat).length : Int) + 3)) ≤ (y354.length : Int) then ((some (y354.take ((wrap64 (((l0.take ((ji4) : Int).toNat).length : Int) + 3)) : Int).toNat : List Int)).bind fun y368 => (if ((l0.take ((ji4) : Int).toNat).length : Int) ≤ (y368.length : Int) then ((ab.f (y368.drop (((l0.take ((ji4) : Int).toNat).length : Int) : Int).toNat) (([7, 7, 7] : List Int))).bind fun eA => (if eA = true then ((ab.f y357 (l0.take ((ji4) : Int).toNat)).bind fun eg => (if eg = true then ((wire_Size.f a1).bind fun dP => ((aA.f k a1).bind fun dO => (if dP = dO then ((wire_Zig.f a2).bind fun dI => ((az.f a2).bind fun dE => (if dI = dE then ((wire_Zag.f a1).bind fun dx => ((au.f a1).bind fun dw => (if dx = dw then ((ac.f).bind fun dy => (some dy)) else (none)))) else (none)))) else (none)))) else (none))) else (none))) else (none))) else (none)) else (none)) else (none))))) = some r := by first | (rw [hy357]; with_reducible exact H) | (have H2_ := (Option.bind_some _ _).symm.trans H; rw [hy357]; with_reducible exact H2_) | (have H2_ := (Option.bind_some _ _).symm.trans H; with_reducible exact H2_) | with_reducible exact H | (rw [hy357]; exact H) | exact H
 have Ny357 := Aside0.mk hy357
 clear hy357
 replace H := Option.bind_eq_some_iff.mp H
 obtain ⟨gA, A110, H⟩ := H
 replace H : ((aj.f k (l0.take ((ji4) : Int).toNat) a1).bind fun gn => ((ab.f gA gn).bind fun gp => (if gp = true then (if 0 ≤ (wrap64 (((l0.take ((ji4) : Int).toNat).length : Int) + 3)) then (if (wrap64 (((l0.take ((ji4) : Int).toNat).length : Int) + 3)) ≤ (y354.length : Int) then ((some (y354.take ((wrap64 (((l0.take ((ji4) : Int).toNat).length : Int) + 3)) : Int).toNat : List Int)).bind fun y368 => (if ((l0.take ((ji4) : Int).toNat).length : Int) ≤ (y368.length : Int) then ((ab.f (y368.drop (((l0.take ((ji4) : Int).toNat).length : Int) : Int).toNat) (([7, 7, 7] : List Int))).bind fun eA => (if eA = true then ((ab.f y357 (l0.take ((ji4) : Int).toNat)).bind fun eg => (if eg = true then ((wire_Size.f a1).bind fun dP => ((aA.f k a1).bind fun dO => (if dP = dO then ((wire_Zig.f a2).bind fun dI => ((az.f a2).bind fun dE => (if dI = dE then ((wire_Zag.f a1).bind fun dx => ((au.f a1).bind fun dw => (if dx = dw then ((ac.f).bind fun dy => (some dy)) else (none)))) else (none)))) else (none)))) else (none))) else (none))) else (none))) else (none)) else (none)) else (none)))) = some r := H
 have A11 := Aside0.mk A110
 clear A110
 replace H := Option.bind_eq_some_iff.mp H
 obtain ⟨gn, A120, H⟩ := H
 replace H : ((ab.f gA gn).bind fun gp => (if gp = true then (if 0 ≤ (wrap64 (((l0.take ((ji4) : Int).toNat).length : Int) + 3)) then (if (wrap64 (((l0.take ((ji4) : Int).toNat).length : Int) + 3)) ≤ (y354.length : Int) then ((some (y354.take ((wrap64 (((l0.take ((ji4) : Int).toNat).length : Int) + 3)) : Int).toNat : List Int)).bind fun y368 => (if ((l0.take ((ji4) : Int).toNat).length : Int) ≤ (y368.length : Int) then ((ab.f (y368.drop (((l0.take ((ji4) : Int).toNat).length : Int) : Int).toNat) (([7, 7, 7] : List Int))).bind fun eA => (if eA = true then ((ab.f y357 (l0.take ((ji4) : Int).toNat)).bind fun eg => (if eg = true then ((wire_Size.f a1).bind fun dP => ((aA.f k a1).bind fun dO => (if dP = dO then ((wire_Zig.f a2).bind fun dI => ((az.f a2).bind fun dE => (if dI = dE then ((wire_Zag.f a1).bind fun dx => ((au.f a1).bind fun dw => (if dx = dw then ((ac.f).bind fun dy => (some dy)) else (none)))) else (none)))) else (none)))) else (none))) else (none))) else (none))) else (none)) else (none)) else (none))) = some r := H
 have A12 := Aside0.mk A120
 clear A120
 replace H := Option.bind_eq_some_iff.mp H
 obtain ⟨gp, A130, H⟩ := H
 replace H : (if gp = true then (if 0 ≤ (wrap64 (((l0.take ((ji4) : Int).toNat).length : Int) + 3)) then (if (wrap64 (((l0.take ((ji4) : Int).toNat).length : Int) + 3)) ≤ (y354.length : Int) then ((some (y354.take ((wrap64 (((l0.take ((ji4) : Int).toNat).length : Int) + 3)) : Int).toNat : List Int)).bind fun y368 => (if ((l0.take ((ji4) : Int).toNat).length : Int) ≤ (y368.length : Int) then ((ab.f (y368.drop (((l0.take ((ji4) : Int).toNat).length : Int) : Int).toNat) (([7, 7, 7] : List Int))).bind fun eA => (if eA = true then ((ab.f y357 (l0.take ((ji4) : Int).toNat)).bind fun eg => (if eg = true then ((wire_Size.f a1).bind fun dP => ((aA.f k a1).bind fun dO => (if dP = dO then ((wire_Zig.f a2).bind fun dI => ((az.f a2).bind fun dE => (if dI = dE then ((wire_Zag.f a1).bind fun dx => ((au.f a1).bind fun dw => (if dx = dw then ((ac.f).bind fun dy => (some dy)) else (none)))) else (none)))) else (none)))) else (none))) else (none))) else (none))) else (none)) else (none)) else (none)) = some r := H
 have A13 := Aside0.mk A130
 clear A130
 by_cases c14 : gp = true
 case neg =>
  replace c14 := Bool.eq_false_iff.mpr c14
  subst c14
  have H1 : (none) = some r := p42z
  clear H
  have H := H1
  clear H1
  exact absurd H (by simp)
 subst c14
 have H1 : (if 0 ≤ (wrap64 (((l0.take ((ji4) : Int).toNat).length : Int) + 3)) then (if (wrap64 (((l0.take ((ji4) : Int).toNat).length : Int) + 3)) ≤ (y354.length : Int) then ((some (y354.take ((wrap64 (((l0.take ((ji4) : Int).toNat).length : Int) + 3)) : Int).toNat : List Int)).bind fun y368 => (if ((l0.take ((ji4) : Int).toNat).length : Int) ≤ (y368.length : Int) then ((ab.f (y368.drop (((l0.take ((ji4) : Int).toNat).length : Int) : Int).toNat) (([7, 7, 7] : List Int))).bind fun eA => (if eA = true then ((ab.f y357 (l0.take ((ji4) : Int).toNat)).bind fun eg => (if eg = true then ((wire_Size.f a1).bind fun dP => ((aA.f k a1).bind fun dO => (if dP = dO then ((wire_Zig.f a2).bind fun dI => ((az.f a2).bind fun dE => (if dI = dE then ((wire_Zag.f a1).bind fun dx => ((au.f a1).bind fun dw => (if dx = dw then ((ac.f).bind fun dy => (some dy)) else (none)))) else (none)))) else (none)))) else (none))) else (none))) else (none))) else (none)) else (none)) = some r := p99z
 clear H
 have H := H1
 clear H1
 obtain ⟨ji15, hji15⟩ : ∃ j_ : Int, (wrap64 (((l0.take ((ji4) : Int).toNat).length : Int) + 3)) = j_ := ⟨_, rfl⟩
 replace H : (if 0 ≤ (ji15) then (if (ji15) ≤ (y354.length : Int) then ((some (y354.take ((ji15) : Int).toNat : List Int)).bind fun y368 => (if ((l0.take ((ji4) : Int).toNat).length : Int) ≤ (y368.length : Int) then ((ab.f (y368.drop (((l0.take ((ji4) : Int).toNat).length : Int) : Int).toNat) (([7, 7, 7] : List Int))).bind fun eA => (if eA = true then ((ab.f y357 (l0.take ((ji4) : Int).toNat)).bind fun eg => (if eg = true then ((wire_Size.f a1).bind fun dP => ((aA.f k a1).bind fun dO => (if dP = dO then ((wire_Zig.f a2).bind fun dI => ((az.f a2).bind fun dE => (if dI = dE then ((wire_Zag.f a1).bind fun dx => ((au.f a1).bind fun dw => (if dx = dw then ((ac.f).bind fun dy => (some dy)) else (none)))) else (none)))) else (none)))) else (none))) else (none))) else (none))) else (none)) else (none)) = some r := by first | (rw [hji15] at H; exact H) | (simp only [hji15] at H ⊢; exact H)
 (try rw [hji15] at A7)
 (try rw [hji15] at A11)
 (try rw [hji15] at A12)
 (try rw [hji15] at A13)
 have hji15w : (IntKind.i64.wrap (((l0.take ((ji4) : Int).toNat).length : Int) + 3)) = ji15 := (i64_w _).trans hji15
 by_cases c16 : 0 ≤ (ji15)
 case neg =>
  rw [if_neg c16] at H
  exact absurd H (by simp)
 rw [if_pos c16] at H
 have jJ := eq_true c16
 have c16b1 : decide (0 ≤ (ji15)) = true := decide_eq_true c16
 clear c16
 by_cases c17 : (ji15) ≤ (y354.length : Int)
 case neg =>
  rw [if_neg c17] at H
  exact absurd H (by simp)
 rw [if_pos c17] at H
 have ml := eq_true c17
 have c17b1 : decide ((ji15) ≤ (y354.length : Int)) = true := decide_eq_true c17
 clear c17
 obtain ⟨y368, hy368⟩ : ∃ y_ : List Int, y_ = (y354.take ((ji15) : Int).toNat) := ⟨_, rfl⟩
 replace H : (if ((l0.take ((ji4) : Int).toNat).length : Int) ≤ (y368.length : Int) then ((ab.f (y368.drop (((l0.take ((ji4) : Int).toNat).length : Int) : Int).toNat) (([7, 7, 7] : List Int))).bind fun eA => (if eA = true then ((ab.f y357 (l0.take ((ji4) : Int).toNat)).bind fun eg => (if eg = true then ((wire_Size.f a1).bind fun dP => ((aA.f k a1).bind fun dO => (if dP = dO then ((wire_Zig.f a2).bind fun dI => ((az.f a2).bind fun dE => (if dI = dE then ((wire_Zag.f a1).bind fun dx => ((au.f a1).bind fun dw => (if dx = dw then ((ac.f).bind fun dy => (some dy)) else (none)))) else (none)))) else (none)))) else (none))) else (none))) else (none)) = some r := by first | (rw [hy368]; with_reducible exact H) | (have H2_ := (Option.bind_some _ _).symm.trans H; rw [hy368]; with_reducible exact H2_) | (have H2_ := (Option.bind_some _ _).symm.trans H; with_reducible exact H2_) | with_reducible exact H | (rw [hy368]; exact H) | exact H
 have Ny368 := Aside0.mk hy368
 clear hy368
 have mm := eq_true (of_decide_eq_true p10z : 0 ≤ ((l0.take ((ji4) : Int).toNat).length : Int))
 by_cases c19 : ((l0.take ((ji4) : Int).toNat).length : Int) ≤ (y368.length : Int)
 case neg =>
  rw [if_neg c19] at H
  exact absurd H (by simp)
 rw [if_pos c19] at H
 have c19b0 := eq_true c19
 have c19b1 : decide (((l0.take ((ji4) : Int).toNat).length : Int) ≤ (y368.length : Int)) = true := decide_eq_true c19
 clear c19
 obtain ⟨y372, hy372⟩ : ∃ y_ : List Int, y_ = (y368.drop (((l0.take ((ji4) : Int).toNat).length : Int) : Int).toNat) := ⟨_, rfl⟩
 replace H : ((ab.f y372 (([7, 7, 7] : List Int))).bind fun eA => (if eA = true then ((ab.f y357 (l0.take ((ji4) : Int).toNat)).bind fun eg => (if eg = true then ((wire_Size.f a1).bind fun dP => ((aA.f k a1).bind fun dO => (if dP = dO then ((wire_Zig.f a2).bind fun dI => ((az.f a2).bind fun dE => (if dI = dE then ((wire_Zag.f a1).bind fun dx => ((au.f a1).bind fun dw => (if dx = dw then ((ac.f).bind fun dy => (some dy)) else (none)))) else (none)))) else (none)))) else (none))) else (none))) = some r := by first | (rw [hy372]; with_reducible exact H) | (have H2_ := (Option.bind_some _ _).symm.trans H; rw [hy372]; with_reducible exact H2_) | (have H2_ := (Option.bind_some _ _).symm.trans H; with_reducible exact H2_) | with_reducible exact H | (rw [hy372]; exact H) | exact H
 have Ny372 := Aside0.mk hy372
 clear hy372
 obtain ⟨y376, hy376⟩ : ∃ y_ : List Int, y_ = (([7, 7, 7] : List Int)) := ⟨_, rfl⟩
 replace H : ((ab.f y372 y376).bind fun eA => (if eA = true then ((ab.f y357 (l0.take ((ji4) : Int).toNat)).bind fun eg => (if eg = true then ((wire_Size.f a1).bind fun dP => ((aA.f k a1).bind fun dO => (if dP = dO then ((wire_Zig.f a2).bind fun dI => ((az.f a2).bind fun dE => (if dI = dE then ((wire_Zag.f a1).bind fun dx => ((au.f a1).bind fun dw => (if dx = dw then ((ac.f).bind fun dy => (some dy)) else (none)))) else (none)))) else (none)))) else (none))) else (none))) = some r := by first | (rw [hy376]; with_reducible exact H) | (have H2_ := (Option.bind_some _ _).symm.trans H; rw [hy376]; with_reducible exact H2_) | (have H2_ := (Option.bind_some _ _).symm.trans H; with_reducible exact H2_) | with_reducible exact H | (rw [hy376]; exact H) | exact H
 have Ny376 := Aside0.mk hy376
 clear hy376
 replace H := Option.bind_eq_some_iff.mp H
 obtain ⟨eA, A200, H⟩ := H
 replace H : (if eA = true then ((ab.f y357 (l0.take ((ji4) : Int).toNat)).bind fun eg => (if eg = true then ((wire_Size.f a1).bind fun dP => ((aA.f k a1).bind fun dO => (if dP = dO then ((wire_Zig.f a2).bind fun dI => ((az.f a2).bind fun dE => (if dI = dE then ((wire_Zag.f a1).bind fun dx => ((au.f a1).bind fun dw => (if dx = dw then ((ac.f).bind fun dy => (some dy)) else (none)))) else (none)))) else (none)))) else (none))) else (none)) = some r := H
 have A20 := Aside0.mk A200
 clear A200
 by_cases c21 : eA = true
 case neg =>
  replace c21 := Bool.eq_false_iff.mpr c21
  subst c21
  have H1 : (none) = some r := p42z
  clear H
  have H := H1
  clear H1
  exact absurd H (by simp)
 subst c21
 have H1 : ((ab.f y357 (l0.take ((ji4) : Int).toNat)).bind fun eg => (if eg = true then ((wire_Size.f a1).bind fun dP => ((aA.f k a1).bind fun dO => (if dP = dO then ((wire_Zig.f a2).bind fun dI => ((az.f a2).bind fun dE => (if dI = dE then ((wire_Zag.f a1).bind fun dx => ((au.f a1).bind fun dw => (if dx = dw then ((ac.f).bind fun dy => (some dy)) else (none)))) else (none)))) else (none)))) else (none))) = some r := p99z
 clear H
 have H := H1
 clear H1
 replace H := Option.bind_eq_some_iff.mp H
 obtain ⟨eg, A220, H⟩ := H
 replace H : (if eg = true then ((wire_Size.f a1).bind fun dP => ((aA.f k a1).bind fun dO => (if dP = dO then ((wire_Zig.f a2).bind fun dI => ((az.f a2).bind fun dE => (if dI = dE then ((wire_Zag.f a1).bind fun dx => ((au.f a1).bind fun dw => (if dx = dw then ((ac.f).bind fun dy => (some dy)) else (none)))) else (none)))) else (none)))) else (none)) = some r := H
 have A22 := Aside0.mk A220
 clear A220
 by_cases c23 : eg = true
 case neg =>
  replace c23 := Bool.eq_false_iff.mpr c23
  subst c23
  have H1 : (none) = some r := p42z
  clear H
  have H := H1
  clear H1
  exact absurd H (by simp)
 subst c23
 have H1 : ((wire_Size.f a1).bind fun dP => ((aA.f k a1).bind fun dO => (if dP = dO then ((wire_Zig.f a2).bind fun dI => ((az.f a2).bind fun dE => (if dI = dE then ((wire_Zag.f a1).bind fun dx => ((au.f a1).bind fun dw => (if dx = dw then ((ac.f).bind fun dy => (some dy)) else (none)))) else (none)))) else (none)))) = some r := p99z
 clear H
 have H := H1
 clear H1
 replace H := Option.bind_eq_some_iff.mp H
 obtain ⟨dP, A240, H⟩ := H
 replace H : ((aA.f k a1).bind fun dO => (if dP = dO then ((wire_Zig.f a2).bind fun dI => ((az.f a2).bind fun dE => (if dI = dE then ((wire_Zag.f a1).bind fun dx => ((au.f a1).bind fun dw => (if dx = dw then ((ac.f).bind fun dy => (some dy)) else (none)))) else (none)))) else (none))) = some r := H
 have A24 := Aside0.mk A240
 clear A240
 replace H := Option.bind_eq_some_iff.mp H
 obtain ⟨dO, A250, H⟩ := H
 replace H : (if dP = dO then ((wire_Zig.f a2).bind fun dI => ((az.f a2).bind fun dE => (if dI = dE then ((wire_Zag.f a1).bind fun dx => ((au.f a1).bind fun dw => (if dx = dw then ((ac.f).bind fun dy => (some dy)) else (none)))) else (none)))) else (none)) = some r := H
 have A25 := Aside0.mk A250
 clear A250
 by_cases c26 : dP = dO
 case neg =>
  rw [if_neg c26] at H
  exact absurd H (by simp)
 rw [if_pos c26] at H
 have c26b0 : (dP == dO) = true := beq_iff_eq.mpr c26
 have c26b1 : (dP != dO) = false := bne_eq_false_iff_eq.mpr c26
 clear c26
 replace H := Option.bind_eq_some_iff.mp H
 obtain ⟨dI, A270, H⟩ := H
 replace H : ((az.f a2).bind fun dE => (if dI = dE then ((wire_Zag.f a1).bind fun dx => ((au.f a1).bind fun dw => (if dx = dw then ((ac.f).bind fun dy => (some dy)) else (none)))) else (none))) = some r := H
 have A27 := Aside0.mk A270
 clear A270
 replace H := Option.bind_eq_some_iff.mp H
 obtain ⟨dE, A280, H⟩ := H
 replace H : (if dI = dE then ((wire_Zag.f a1).bind fun dx => ((au.f a1).bind fun dw => (if dx = dw then ((ac.f).bind fun dy => (some dy)) else (none)))) else (none)) = some r := H
 have A28 := Aside0.mk A280
 clear A280
 by_cases c29 : dI = dE
 case neg =>
  rw [if_neg c29] at H
  exact absurd H (by simp)
 rw [if_pos c29] at H
 have gS : (dI == dE) = true := beq_iff_eq.mpr c29
 have l9 : (dI != dE) = false := bne_eq_false_iff_eq.mpr c29
 clear c29
 replace H := Option.bind_eq_some_iff.mp H
 obtain ⟨dx, A300, H⟩ := H
 replace H : ((au.f a1).bind fun dw => (if dx = dw then ((ac.f).bind fun dy => (some dy)) else (none))) = some r := H
 have A30 := Aside0.mk A300
 clear A300
 replace H := Option.bind_eq_some_iff.mp H
 obtain ⟨dw, A310, H⟩ := H
 replace H : (if dx = dw then ((ac.f).bind fun dy => (some dy)) else (none)) = some r := H
 have A31 := Aside0.mk A310
 clear A310
 by_cases c32 : dx = dw
 case neg =>
  rw [if_neg c32] at H
  exact absurd H (by simp)
 rw [if_pos c32] at H
 have la : (dx == dw) = true := beq_iff_eq.mpr c32
 have c32b1 : (dx != dw) = false := bne_eq_false_iff_eq.mpr c32
 clear c32
 replace H := Option.bind_eq_some_iff.mp H
 obtain ⟨dy, A330, H⟩ := H
 replace H : (some dy) = some r := H
 have A33 := Aside0.mk A330
 clear A330
 obtain rfl := Option.some.inj H
 obtain ⟨i034, hi034, _, hsz34, _⟩ := info_parts info5
 obtain ⟨hcut34, hA34, hC34⟩ := print_take_of (P := Try.prog) (Value.int .u8) 0 22 5 .i64 Try.underlying22 hi034 hsz34 A0 c0 l0 (ji4) (of_decide_eq_true p10z) (of_decide_eq_true p10z) HC0.out
 have HR347 := Aside0.mk (Kd.C_of_reads (h1 := fun _ => rfl) (hA34 _ (Kd.reads_of_C HR0.out)))
 have HC347 := Aside0.mk hC34
 clear hA34 hC34 hi034 hsz34
 go_enter Try.func3, Try.ntmps3
 go_wp2_with (first | ((with_reducible refine gate_callee (f := 12) rfl ?_); refine goesL_ (some 15) rfl rfl Try.func12 p16z rfl #[.slice A0 (l0.take ((ji4) : Int).toNat).length c0] rfl p122z ?_; (with_reducible refine (ag.calls _ _ (l0.take ((ji4) : Int).toNat) gV _ ?side1 ?side2 A7.out).mono ?_); (case side1 => repeat (first | exact HR347.out | (with_reducible refine Kd.C_alloc ?_ _) | (with_reducible refine Kd.C_drewN ?_ _) | (with_reducible refine Kd.C_drew ?_))); (case side2 => exact HC347.out); rintro e w35 ⟨v349, rfl, ho0, hb⟩; refine ⟨_, rfl, ?_⟩; have z_ := asi2 (Kd.R_lower ho0 (below_size p0z)) (below_step p0z hb); clear HB; obtain ⟨jK, HB⟩ := z_; (try clear hb hk ho0)) | ((with_reducible refine gate_dst (N := 16) rfl ?_); (try (refine gate_guard (by rfl) ?_; dsimp only)); refine Kd.R_lit (Kd.int .u8) _ 5 ?hg (N := 16) ?hd (xs := ([7, 7, 7] : List Int)) (inner := [.int .u8 7, .int .u8 7, .int .u8 7]) (ok := fun _ => True) (okp := fun _ => True) ?hr ?hp (fun _ hk => hk) trivial (Below.refl _ _) (Nat.le_refl _) (by simp) ?_; (case hd => rfl); (case hg => rfl); (case hr => exact p22z); (case hp => exact (Reps.one (show Kd.M (Kd.int .u8) _ _ _ 7 [.int .u8 7] from rfl) (Reps.one (show Kd.M (Kd.int .u8) _ _ _ 7 [.int .u8 7] from rfl) (Reps.one (show Kd.M (Kd.int .u8) _ _ _ 7 [.int .u8 7] from rfl) (Reps.none _ _))))); intro v352 w36 ho37 hb hg_ hnew_; clear hg_ hnew_; (first | rw [← Ny351.out] at ho37 | (simp only [Int.reduceToNat] at ho37; rw [← Ny351.out] at ho37)); have z_ := asi3 (Kd.R_elder' (q0z jK.out) (Kd.R_base ho37) hb) (Kd.R_lower (Kd.R_new' ho37 (Kd.R_lt (q0z jK.out))) (below_size p0z)) (below_step p0z hb); clear jK HB; obtain ⟨jK, fo, HB⟩ := z_; clear hb ho37; obtain ⟨Ao39, co39, eo39⟩ := Kd.R_slice fo.out; subst eo39) | ((with_reducible refine gate_builtin (b := .append) (xs := #[.tmp 15, .tmp 16]) rfl ?_); (try (refine gate_guard (by rfl) ?_; dsimp only)); at_builtin; refine Kd.R_append_rows (Kd.int .u8) (w0 := w) w.heap.size rfl (.tmp 15) (.tmp 16) 22 5 (.int .u8 0) 1 rfl Try.underlying22 info5 rfl (by decide) (by omega) v349 gV y351 _ _ _ (fun k_ => some k_ ≠ (.slice Ao39 y351.length co39 : Value).ownBlock) (fun _ => False) rfl rfl ?aO ?aR (fun _ _ h => h) (fun _ h => h.elim) ?aF ?aB ?aS ?aL ?_; (case aR => repeat (first | exact (Kd.R_reads' fo.out).2.2 | (with_reducible refine Kd.C_alloc ?_ _) | (with_reducible refine Kd.C_drewN ?_ _) | (with_reducible refine Kd.C_drew ?_))); (case aB => exact p0z); (case aF => exact (fun k_ hk => Kd.fresh' (Kd.R_lt p86z) k_ hk)); (case aO => exact (by (with_reducible repeat (first | apply Kd.R_alloc | apply Kd.R_drewN | apply Kd.R_drew)); exact Kd.R_mono jK.out (fun _ hk => hk.2))); (case aS => exact (below_size p0z)); (case aL => have := LMc8.out; omega); intro v355 w38 ho hb hg hat; rw [← Ny354.out] at ho; have z_ := asi3 (Kd.R_after (ok := (fun _ => True)) p86z hg hat) (hb) (ho); clear fo HB jK; obtain ⟨fo, HB, f6⟩ := z_; clear ho hb hg hat; obtain ⟨jB, co41, eo41⟩ := Kd.R_slice f6.out; subst eo41; have q40 : (((l0.take ((ji4) : Int).toNat).length : Int) : Int) ≤ ((y354.length : Int) : Int) := of_decide_eq_true p10z; obtain ⟨i040, hi040, _, hsz40, _⟩ := info_parts info5; have hroom40 : y354.length ≤ co41 := (Kd.R_reads' f6.out).2.1; have hC40 : Kd.C (Kd.int .u8) _ jB y354.length y354 := (Kd.R_reads' f6.out).2.2; have hcut40 := cut_to (P := Try.prog) 22 5 .i64 Try.underlying22 hi040 jB y354.length co41 ((l0.take ((ji4) : Int).toNat).length : Int) (of_decide_eq_true p10z) q40 hroom40; have hr40 := Kd.C_take (m := (((l0.take ((ji4) : Int).toNat).length : Int) : Int).toNat) hC40 (by omega); have hy40 : y357.length = (((l0.take ((ji4) : Int).toNat).length : Int) : Int).toNat := (by rw [Ny357.out, List.length_take]; omega); rw [← Ny357.out] at hr40; rw [← hy40] at hcut40; have HR360 := Aside0.mk hr40; have HC360 := Aside0.mk (show y357.length ≤ co41 from by omega); clear hr40 hC40 hroom40 hi040 hsz40; have KY40 := Aside0.mk hy40; clear hy40; have KL40 := Aside0.mk (show (((l0.take ((ji4) : Int).toNat).length : Int) : Int).toNat ≤ y354.length from by omega); replace q40 := eq_true q40) | ((with_reducible refine gate_callee (f := 13) rfl ?_); refine goesL_ (some 23) rfl rfl Try.func13 p16z rfl #[.slice jB y357.length co41, .int .u64 a1] rfl p2z ?_; (with_reducible refine (wire_Var.calls _ _ y357 a1 gA _ ?side1 ?side2 A11.out).mono ?_); (case side1 => exact p244z); (case side2 => exact HC360.out); rintro e w42 ⟨v362, rfl, ho0, hb⟩; refine ⟨_, rfl, ?_⟩; have z_ := asi5 (Kd.R_elder' p86z (Kd.R_base ho0) hb) (Kd.R_elder' p103z (Kd.R_base ho0) hb) (Kd.R_lower (Kd.R_new' (Kd.R_new' ho0 (Kd.R_lt p86z)) (Kd.R_lt p103z)) (below_size p0z)) (Kd.C_below p67z hb) (below_step p0z hb); clear fo f6 HR360 HB; obtain ⟨fo, f6, g5, HR360, HB⟩ := z_; (try clear hb hk ho0)) | ((with_reducible refine gate_callee (f := 15) rfl ?_); refine goesL_ (some 27) rfl rfl Try.func15 p16z rfl #[.slice A0 (l0.take ((ji4) : Int).toNat).length c0, .int .u64 a1] rfl p122z ?_; (with_reducible refine (aj.calls k _ _ (l0.take ((ji4) : Int).toNat) a1 gn _ ?side1 ?side2 A12.out).mono ?_); (case side1 => repeat (first | exact (Kd.C_below HR347.out HB.out) | (with_reducible refine Kd.C_alloc ?_ _) | (with_reducible refine Kd.C_drewN ?_ _) | (with_reducible refine Kd.C_drew ?_))); (case side2 => exact HC347.out); rintro e w43 ⟨v365, rfl, ho0, hb⟩; refine ⟨_, rfl, ?_⟩; have z_ := asi6 (Kd.R_elder' p86z (Kd.R_base ho0) hb) (Kd.R_elder' p103z (Kd.R_base ho0) hb) (Kd.R_elder' p126z (Kd.R_base ho0) hb) (Kd.R_lower (Kd.R_new' (Kd.R_new' (Kd.R_new' ho0 (Kd.R_lt p86z)) (Kd.R_lt p103z)) (Kd.R_lt p126z)) (below_size p0z)) (Kd.C_below p67z hb) (below_step p0z hb); clear fo f6 g5 HR360 HB; obtain ⟨fo, f6, g5, gG, HR360, HB⟩ := z_; (try clear hb hk ho0); obtain ⟨Ao44, co44, eo44⟩ := Kd.R_slice g5.out; subst eo44; obtain ⟨lV, co45, eo45⟩ := Kd.R_slice gG.out; subst eo45) | ((with_reducible refine gate_callee (f := 14) rfl ?_); refine goesL_ (some 28) rfl rfl Try.func14 p16z rfl #[.slice Ao44 gA.length co44, .slice lV gn.length co45] rfl p2z ?_; (with_reducible refine (ab.calls _ _ gA _ _ gn true _ ?side1 ?side2 ?side3 ?side4 A13.out).mono ?_); (case side1 => repeat (first | exact (Kd.R_reads' g5.out).2.2 | (with_reducible refine Kd.C_alloc ?_ _) | (with_reducible refine Kd.C_drewN ?_ _) | (with_reducible refine Kd.C_drew ?_))); (case side2 => exact (Kd.R_reads' g5.out).2.1); (case side3 => repeat (first | exact (Kd.R_reads' gG.out).2.2 | (with_reducible refine Kd.C_alloc ?_ _) | (with_reducible refine Kd.C_drewN ?_ _) | (with_reducible refine Kd.C_drew ?_))); (case side4 => exact (Kd.R_reads' gG.out).2.1); rintro e w' ⟨rfl, ⟨nd, rfl⟩⟩; refine ⟨_, rfl, ?_⟩; have q46 : ((ji15) : Int) ≤ ((y354.length : Int) : Int) := of_decide_eq_true p10z; obtain ⟨i046, hi046, _, hsz46, _⟩ := info_parts info5; have hroom46 : y354.length ≤ co41 := (Kd.R_reads' f6.out).2.1; have hC46 : Kd.C (Kd.int .u8) _ jB y354.length y354 := (Kd.R_reads' f6.out).2.2; have hcut46 := cut_up (P := Try.prog) 22 5 .i64 Try.underlying22 hi046 jB y357.length co41 (ji15) (of_decide_eq_true p10z) (by have h1_ := q46; have h2_ := hroom46; omega); have hr46 := Kd.C_take (m := ((ji15) : Int).toNat) hC46 (by omega); have hy46 : y368.length = ((ji15) : Int).toNat := (by rw [Ny368.out, List.length_take]; omega); rw [← Ny368.out] at hr46; rw [← hy46] at hcut46; have HR371 := Aside0.mk hr46; have HC371 := Aside0.mk (show y368.length ≤ co41 from by omega); clear hr46 hC46 hroom46 hi046 hsz46; have KY46 := Aside0.mk hy46; clear hy46; replace q46 := eq_true q46; have q47 : (((l0.take ((ji4) : Int).toNat).length : Int) : Int) ≤ ((y368.length : Int) : Int) := of_decide_eq_true p10z; obtain ⟨i047, hi047, _, hsz47, _⟩ := info_parts info5; have hroom47 : y368.length ≤ co41 := HC371.out; have hC47 : Kd.C (Kd.int .u8) _ jB y368.length y368 := p111z; have q047 : (0 : Int) ≤ (((l0.take ((ji4) : Int).toNat).length : Int) : Int) := of_decide_eq_true p10z; have hcut47 := cut_from (P := Try.prog) 22 5 .i64 Try.underlying22 hi047 1 hsz47 jB y368.length co41 ((l0.take ((ji4) : Int).toNat).length : Int) q047 q47; have hr47 := Kd.C_drop (m := (((l0.take ((ji4) : Int).toNat).length : Int) : Int).toNat) (c := co41) hC47 (by omega) hroom47; obtain ⟨A47, hA47⟩ : ∃ A1, A1 = (if co41 = (((l0.take ((ji4) : Int).toNat).length : Int) : Int).toNat then jB else (jB : Option Addr).map (·.add ((((l0.take ((ji4) : Int).toNat).length : Int) : Int).toNat * 1))) := ⟨_, rfl⟩; obtain ⟨c47, hc47⟩ : ∃ c1, c1 = co41 - (((l0.take ((ji4) : Int).toNat).length : Int) : Int).toNat := ⟨_, rfl⟩; have hy47 : y372.length = y368.length - (((l0.take ((ji4) : Int).toNat).length : Int) : Int).toNat := (by rw [Ny372.out, List.length_drop] <;> omega); rw [show (y368).drop (((l0.take ((ji4) : Int).toNat).length : Int) : Int).toNat = y372 from Ny372.out.symm] at hr47; replace hr47 : Kd.C (Kd.int .u8) _ A47 y372.length y372 := (by rw [hA47]; exact hr47); rw [← hy47, ← hA47, ← hc47] at hcut47; have HR375 := Aside0.mk hr47; have HC375 := Aside0.mk (show y372.length ≤ c47 from by rw [hy47, hc47]; exact Nat.sub_le_sub_right hroom47 _); clear hr47 hC47 hroom47 hi047 hsz47 hc47; have KY47 := Aside0.mk hy47; have KA47 := Aside0.mk hA47; clear hy47 hA47; replace q47 := eq_true q47) | ((with_reducible refine gate_dst (N := 38) rfl ?_); (try (refine gate_guard (by rfl) ?_; dsimp only)); refine Kd.R_lit (Kd.int .u8) _ 5 ?hg (N := 38) ?hd (xs := ([7, 7, 7] : List Int)) (inner := [.int .u8 7, .int .u8 7, .int .u8 7]) (ok := fun _ => True) (okp := fun _ => True) ?hr ?hp (fun _ hk => hk) trivial (Below.refl _ _) (Nat.le_refl _) (by simp) ?_; (case hd => rfl); (case hg => rfl); (case hr => exact p22z); (case hp => exact (Reps.one (show Kd.M (Kd.int .u8) _ _ _ 7 [.int .u8 7] from rfl) (Reps.one (show Kd.M (Kd.int .u8) _ _ _ 7 [.int .u8 7] from rfl) (Reps.one (show Kd.M (Kd.int .u8) _ _ _ 7 [.int .u8 7] from rfl) (Reps.none _ _))))); intro v377 w48 ho49 hb hg_ hnew_; clear hg_ hnew_; (first | rw [← Ny376.out] at ho49 | (simp only [Int.reduceToNat] at ho49; rw [← Ny376.out] at ho49)); have z_ := asi9 (Kd.R_elder' p86z (Kd.R_base ho49) hb) (Kd.R_elder' p103z (Kd.R_base ho49) hb) (Kd.R_elder' p126z (Kd.R_base ho49) hb) (Kd.R_elder' p164z (Kd.R_base ho49) hb) (Kd.R_lower (Kd.R_new' (Kd.R_new' (Kd.R_new' (Kd.R_new' ho49 (Kd.R_lt p86z)) (Kd.R_lt p103z)) (Kd.R_lt p126z)) (Kd.R_lt p164z)) (below_size p0z)) (Kd.C_below p67z hb) (Kd.C_below p111z hb) (Kd.C_below p112z hb) (below_step p0z hb); clear fo f6 g5 gG HR360 HR371 HR375 HB; obtain ⟨fo, f6, g5, gG, i9, HR360, HR371, HR375, HB⟩ := z_; clear hb ho49; obtain ⟨Ao50, co50, eo50⟩ := Kd.R_slice i9.out; subst eo50) | (go_at_call 14; (with_reducible refine (ab.calls _ _ y372 _ _ y376 true _ ?side1 ?side2 ?side3 ?side4 A20.out).mono ?_); (case side1 => repeat (first | exact p112z | (with_reducible refine Kd.C_alloc ?_ _) | (with_reducible refine Kd.C_drewN ?_ _) | (with_reducible refine Kd.C_drew ?_))); (case side2 => exact HC375.out); (case side3 => repeat (first | exact (Kd.R_reads' i9.out).2.2 | (with_reducible refine Kd.C_alloc ?_ _) | (with_reducible refine Kd.C_drewN ?_ _) | (with_reducible refine Kd.C_drew ?_))); (case side4 => exact (Kd.R_reads' i9.out).2.1); rintro e w' ⟨rfl, ⟨nd, rfl⟩⟩) | (go_at_call 14; refine calls_of_args (args' := #[.slice jB y357.length co41, .slice A0 (l0.take ((ji4) : Int).toNat).length c0]) (by first | (rw [show (l0.take ((ji4) : Int).toNat).length = (ji4).toNat from (by rw [List.length_take]; have h_ : ((ji4) : Int) ≤ (l0.length : Int) := of_decide_eq_true p10z; omega)] <;> rfl) | ((try have hl0_ := (show (l0.take ((ji4) : Int).toNat).length = (ji4).toNat from (by rw [List.length_take]; have h_ : ((ji4) : Int) ≤ (l0.length : Int) := of_decide_eq_true p10z; omega))); (try simp only [wrap64] at hji4); simp only [Array.mk.injEq, List.cons.injEq, Value.int.injEq, Value.slice.injEq, and_true, true_and]; omega) | rfl) ?_; (with_reducible refine (ab.calls _ _ y357 _ _ (l0.take ((ji4) : Int).toNat) true _ ?side1 ?side2 ?side3 ?side4 A22.out).mono ?_); (case side1 => exact p244z); (case side2 => exact HC360.out); (case side3 => repeat (first | exact (Kd.C_below HR347.out p0z) | (with_reducible refine Kd.C_alloc ?_ _) | (with_reducible refine Kd.C_drewN ?_ _) | (with_reducible refine Kd.C_drew ?_))); (case side4 => exact HC347.out); rintro e w' ⟨rfl, ⟨nd, rfl⟩⟩) | (go_at_call 16; (with_reducible refine (wire_Size.calls a1 dP _ A24.out).mono ?_); rintro e w51 ⟨rfl, hb⟩; have z_ := asi9 (Kd.R_below p86z hb) (Kd.R_below p103z hb) (Kd.R_below p126z hb) (Kd.R_below p164z hb) (Kd.R_below p211z hb) (Kd.C_below p67z hb) (Kd.C_below p111z hb) (Kd.C_below p112z hb) (below_step p0z hb); clear fo f6 g5 gG i9 HR360 HR371 HR375 HB; obtain ⟨fo, f6, g5, gG, i9, HR360, HR371, HR375, HB⟩ := z_; (try clear hb hk)) | (go_at_call 17; (with_reducible refine (aA.calls k a1 dO _ A25.out).mono ?_); rintro e w52 ⟨rfl, hb⟩; have z_ := asi9 (Kd.R_below p86z hb) (Kd.R_below p103z hb) (Kd.R_below p126z hb) (Kd.R_below p164z hb) (Kd.R_below p211z hb) (Kd.C_below p67z hb) (Kd.C_below p111z hb) (Kd.C_below p112z hb) (below_step p0z hb); clear fo f6 g5 gG i9 HR360 HR371 HR375 HB; obtain ⟨fo, f6, g5, gG, i9, HR360, HR371, HR375, HB⟩ := z_; (try clear hb hk)) | (go_at_call 18; (with_reducible refine (wire_Zig.calls a2 dI _ A27.out).mono ?_); rintro e w' ⟨rfl, ⟨nd, rfl⟩⟩) | (go_at_call 19; (with_reducible refine (az.calls a2 dE _ A28.out).mono ?_); rintro e w' ⟨rfl, ⟨nd, rfl⟩⟩) | (go_at_call 20; (with_reducible refine (wire_Zag.calls a1 dx _ A30.out).mono ?_); rintro e w' ⟨rfl, ⟨nd, rfl⟩⟩) | (go_at_call 21; (with_reducible refine (au.calls a1 dw _ A31.out).mono ?_); rintro e w' ⟨rfl, ⟨nd, rfl⟩⟩) | (go_at_call 22; (with_reducible refine (ac.calls  dy _ A33.out).mono ?_); rintro e w53 ⟨rfl, hb⟩; have z_ := asi9 (Kd.R_below p86z hb) (Kd.R_below p103z hb) (Kd.R_below p126z hb) (Kd.R_below p164z hb) (Kd.R_below p211z hb) (Kd.C_below p67z hb) (Kd.C_below p111z hb) (Kd.C_below p112z hb) (below_step p0z hb); clear fo f6 g5 gG i9 HR360 HR371 HR375 HB; obtain ⟨fo, f6, g5, gG, i9, HR360, HR371, HR375, HB⟩ := z_; (try clear hb hk)))
 go_ret
 exact ⟨by first | rfl | (simp [errW_none, errW_some] <;> rfl) | (simp only [← hji4, ← hji15]; first | rfl | (simp [errW_none, errW_some] <;> rfl)) | (simp [*, errW_none, errW_some] <;> rfl), p0z⟩
/-- THE ONE PURE STATEMENT of bs: yours. -/
def bs.Pure : Prop := ∀ (l0 : List Int) (a1 : Int) (a2 : Int), l0.length ≤ maxLen → l0.length * 1 ≤ 140737488351232 → (∀ x ∈ l0, (Lit.int .u8 x).wf = true) → (Lit.int .u64 a1).wf = true → (Lit.int .i64 a2).wf = true → ∃ k, bs.f k l0 a1 a2 = some true
end Go.Proofs.Ytbclejgljegfmaa.PAll
