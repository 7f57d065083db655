-- Written by this repo's program wip/tools/pr.py (over the kit's print) out of the translation. Not trusted: Lean checks it.
import Derived.Test.YtbclejgljegfmaaPAllx0
import Derived.Test.YtbclejgljegfmaaGA
import Derived.Test.YtbclejgljegfmaaGB
import Derived.Test.YtbclejgljegfmaaGC
import Derived.Test.YtbclejgljegfmaaGK
import Derived.Test.YtbclejgljegfmaaGM
import Derived.Test.YtbclejgljegfmaaGO
import Derived.Test.YtbclejgljegfmaaGS
import Derived.Test.YtbclejgljegfmaaHandWorks
namespace Go.Proofs.Ytbclejgljegfmaa.PAll
open Go.Proofs.Ytbclejgljegfmaa.Hand
open Go.RowKit Go.Proofs.YtbclejgljegfmaaW.PrintWords Go.Proofs.YtbclejgljegfmaaW.PrintLast Go.Proofs.YtbclejgljegfmaaW.PrintMore
attribute [local go_sem] max2_int min2_int max_two min_two max_three min_three max_four min_four   -- for this text's walks alone
set_option linter.unusedVariables false
set_option linter.unusedSimpArgs false

/-! ### signetrylaw01_WireMakes: function 7 -/
mutual
def signetrylaw01_WireMakes.j0 : Nat → Int → List Int → Bool → Int → Int → Int → Int → Int → List Int → List Int → Int → Int → Int → List Int → List Int → Option (Bool)
  | 0, _, _, _, _, _, _, _, _, _, _, _, _, _, _, _ => none
  | k + 1, x1, x2, x54, x489000, x489001, x506000, x506001, x506002, x506003, x506004, x517000, x517001, x517002, x517003, x517004 => if x54 = true then (none) else ((wire_Copy.f x506000 x506001 x506002 x506003 x506004).bind fun bt519 => ((wire_Same.f k x506000 x506001 x506002 x506003 x506004 x489000 x489001 x1 x2 x2).bind fun t530 => ((signetryref01_Same.f x517000 x517001 x517002 x517003 x517004 x489000 x489001 x1 x2 x2).bind fun t531 => (if (t530 != t531) = true then (none) else ((wire_Same.f k x489000 x489001 x1 x2 x2 x489000 x489001 x1 x2 x2).bind fun t532 => (if (t532 != true) = true then (none) else ((wire_Check.f k x489000 x489001 x1 x2 x2).bind fun t533 => ((signetryref01_Check.f k x489000 x489001 x1 x2 x2).bind fun t534 => (if t533 = t534 then ((wire_Check.f k bt519.1 bt519.2.1 bt519.2.2.1 bt519.2.2.2.1 bt519.2.2.2.2).bind fun t535 => ((signetryref01_Check.f k x517000 x517001 x517002 x517003 x517004).bind fun t536 => (if t535 = t536 then ((wire_Same.f k bt519.1 bt519.2.1 bt519.2.2.1 bt519.2.2.2.1 bt519.2.2.2.2 x506000 x506001 x506002 x506003 x506004).bind fun t537 => (signetrylaw01_WireMakes.j1 k (!t537) x506000 x506001 x506002 x506003 x506004 x517000 x517001 x517002 x517003 x517004 bt519.1 bt519.2.1 bt519.2.2.1 bt519.2.2.2.1 bt519.2.2.2.2)) else (none)))) else (none))))))))))
def signetrylaw01_WireMakes.j1 : Nat → Bool → Int → Int → Int → List Int → List Int → Int → Int → Int → List Int → List Int → Int → Int → Int → List Int → List Int → Option (Bool)
  | 0, _, _, _, _, _, _, _, _, _, _, _, _, _, _, _, _ => none
  | k + 1, x97, x506000, x506001, x506002, x506003, x506004, x517000, x517001, x517002, x517003, x517004, x529000, x529001, x529002, x529003, x529004 => if x97 = true then (none) else (signetrylaw01_WireMakes.l0 k 0 x506000 x506001 x506002 x506003 x506004 x517000 x517001 x517002 x517003 x517004 x529000 x529001 x529002 x529003 x529004)
def signetrylaw01_WireMakes.l0 : Nat → Int → Int → Int → Int → List Int → List Int → Int → Int → Int → List Int → List Int → Int → Int → Int → List Int → List Int → Option (Bool)
  | 0, _, _, _, _, _, _, _, _, _, _, _, _, _, _, _, _ => none
  | k + 1, x14, x506000, x506001, x506002, x506003, x506004, x517000, x517001, x517002, x517003, x517004, x529000, x529001, x529002, x529003, x529004 => if x14 < (x529003.length : Int) then (if 0 ≤ x14 then (signetrylaw01_WireMakes.l0 k (wrap64 (x14 + 1)) x506000 x506001 x506002 x506003 x506004 x517000 x517001 x517002 x517003 x517004 x529000 x529001 x529002 (x529003.set (x14 : Int).toNat (Go.bits .xor .u8 (rd x529003 x14) 1)) x529004) else (none)) else (signetrylaw01_WireMakes.l1 k 0 x506000 x506001 x506002 x506003 x506004 x517000 x517001 x517002 x517003 x517004 x529000 x529001 x529002 x529003 x529004)
def signetrylaw01_WireMakes.l1 : Nat → Int → Int → Int → Int → List Int → List Int → Int → Int → Int → List Int → List Int → Int → Int → Int → List Int → List Int → Option (Bool)
  | 0, _, _, _, _, _, _, _, _, _, _, _, _, _, _, _, _ => none
  | k + 1, x15, x506000, x506001, x506002, x506003, x506004, x517000, x517001, x517002, x517003, x517004, x529000, x529001, x529002, x529003, x529004 => if x15 < (x529004.length : Int) then (if 0 ≤ x15 then (signetrylaw01_WireMakes.l1 k (wrap64 (x15 + 1)) x506000 x506001 x506002 x506003 x506004 x517000 x517001 x517002 x517003 x517004 x529000 x529001 x529002 x529003 (x529004.set (x15 : Int).toNat (Go.bits .xor .u8 (rd x529004 x15) 1))) else (none)) else ((signetryref01_Same.f x506000 x506001 x506002 x506003 x506004 x517000 x517001 x517002 x517003 x517004).bind fun t542 => (if t542 = true then ((signetrylaw01_works.f).bind fun t543 => (some t543)) else (none)))
end
def signetrylaw01_WireMakes.f (k : Nat) (a0_0 : Int) (a0_1 : Int) (a1 : Int) (l2 : List Int) : Option (Bool) := (signetrylaw01_cut.f l2).bind fun t489 => ((signetryref00_CopyBytes.f t489).bind fun t492 => ((wire_Make.f k a0_0 a0_1 a1 t492).bind fun bt495 => ((signetryref01_Make.f k a0_0 a0_1 a1 t489).bind fun bt506 => ((signetryref01_Same.f bt495.1 bt495.2.1 bt495.2.2.1 bt495.2.2.2.1 bt495.2.2.2.2.1 bt506.1 bt506.2.1 bt506.2.2.1 bt506.2.2.2.1 bt506.2.2.2.2.1).bind fun t517 => (if t517 = true then (if bt495.2.2.2.2.2 = bt506.2.2.2.2.2 then ((signetryref00_EqBytes.f t492 t489).bind fun t518 => (signetrylaw01_WireMakes.j0 k a1 t489 (!t518) a0_0 a0_1 bt495.1 bt495.2.1 bt495.2.2.1 bt495.2.2.2.1 bt495.2.2.2.2.1 bt506.1 bt506.2.1 bt506.2.2.1 bt506.2.2.2.1 bt506.2.2.2.2.1)) else (none)) else (none))))))
theorem signetrylaw01_WireMakes.mono_l : ∀ k, (∀ y0 y1 y2 y3 y4 y5 y6 y7 y8 y9 y10 y11 y12 y13 y14, LeO (signetrylaw01_WireMakes.j0 k y0 y1 y2 y3 y4 y5 y6 y7 y8 y9 y10 y11 y12 y13 y14) (signetrylaw01_WireMakes.j0 (k + 1) y0 y1 y2 y3 y4 y5 y6 y7 y8 y9 y10 y11 y12 y13 y14)) ∧ (∀ y0 y1 y2 y3 y4 y5 y6 y7 y8 y9 y10 y11 y12 y13 y14 y15, LeO (signetrylaw01_WireMakes.j1 k y0 y1 y2 y3 y4 y5 y6 y7 y8 y9 y10 y11 y12 y13 y14 y15) (signetrylaw01_WireMakes.j1 (k + 1) y0 y1 y2 y3 y4 y5 y6 y7 y8 y9 y10 y11 y12 y13 y14 y15)) ∧ (∀ y0 y1 y2 y3 y4 y5 y6 y7 y8 y9 y10 y11 y12 y13 y14 y15, LeO (signetrylaw01_WireMakes.l0 k y0 y1 y2 y3 y4 y5 y6 y7 y8 y9 y10 y11 y12 y13 y14 y15) (signetrylaw01_WireMakes.l0 (k + 1) y0 y1 y2 y3 y4 y5 y6 y7 y8 y9 y10 y11 y12 y13 y14 y15)) ∧ (∀ y0 y1 y2 y3 y4 y5 y6 y7 y8 y9 y10 y11 y12 y13 y14 y15, LeO (signetrylaw01_WireMakes.l1 k y0 y1 y2 y3 y4 y5 y6 y7 y8 y9 y10 y11 y12 y13 y14 y15) (signetrylaw01_WireMakes.l1 (k + 1) y0 y1 y2 y3 y4 y5 y6 y7 y8 y9 y10 y11 y12 y13 y14 y15))
  | 0 => ⟨fun _ _ _ _ _ _ _ _ _ _ _ _ _ _ _ r h => by simp [signetrylaw01_WireMakes.j0] at h, fun _ _ _ _ _ _ _ _ _ _ _ _ _ _ _ _ r h => by simp [signetrylaw01_WireMakes.j1] at h, fun _ _ _ _ _ _ _ _ _ _ _ _ _ _ _ _ r h => by simp [signetrylaw01_WireMakes.l0] at h, fun _ _ _ _ _ _ _ _ _ _ _ _ _ _ _ _ r h => by simp [signetrylaw01_WireMakes.l1] at h⟩
  | k + 1 => by
    obtain ⟨ih0, ih1, ih2, ih3⟩ := signetrylaw01_WireMakes.mono_l k
    refine ⟨?_, ?_, ?_, ?_⟩
    · intro y0 y1 y2 y3 y4 y5 y6 y7 y8 y9 y10 y11 y12 y13 y14
      unfold signetrylaw01_WireMakes.j0
      repeat' first
      | (with_reducible exact ih0 _ _ _ _ _ _ _ _ _ _ _ _ _ _ _)
      | (with_reducible exact ih1 _ _ _ _ _ _ _ _ _ _ _ _ _ _ _ _)
      | (with_reducible exact ih2 _ _ _ _ _ _ _ _ _ _ _ _ _ _ _ _)
      | (with_reducible exact ih3 _ _ _ _ _ _ _ _ _ _ _ _ _ _ _ _)
      | (with_reducible exact signetryref01_Check.mono _ _ _ _ _ _)
      | (with_reducible exact signetryref01_Make.mono _ _ _ _ _)
      | (with_reducible exact wire_Check.mono _ _ _ _ _ _)
      | (with_reducible exact wire_Make.mono _ _ _ _ _)
      | (with_reducible exact wire_Same.mono _ _ _ _ _ _ _ _ _ _ _)
      | (with_reducible exact LeO.refl _)
      | (with_reducible exact LeO.none _)
      | (with_reducible refine LeO.ite ?_ ?_)
      | (with_reducible refine LeO.bind ?_ (fun _ => ?_))
      | exact ih0 _ _ _ _ _ _ _ _ _ _ _ _ _ _ _
      | exact ih1 _ _ _ _ _ _ _ _ _ _ _ _ _ _ _ _
      | exact ih2 _ _ _ _ _ _ _ _ _ _ _ _ _ _ _ _
      | exact ih3 _ _ _ _ _ _ _ _ _ _ _ _ _ _ _ _
      | exact signetryref01_Check.mono _ _ _ _ _ _
      | exact signetryref01_Make.mono _ _ _ _ _
      | exact wire_Check.mono _ _ _ _ _ _
      | exact wire_Make.mono _ _ _ _ _
      | exact wire_Same.mono _ _ _ _ _ _ _ _ _ _ _
      | exact LeO.none _
      | refine LeO.ite ?_ ?_
      | refine LeO.bind ?_ (fun _ => ?_)
    · intro y0 y1 y2 y3 y4 y5 y6 y7 y8 y9 y10 y11 y12 y13 y14 y15
      unfold signetrylaw01_WireMakes.j1
      repeat' first
      | (with_reducible exact ih0 _ _ _ _ _ _ _ _ _ _ _ _ _ _ _)
      | (with_reducible exact ih1 _ _ _ _ _ _ _ _ _ _ _ _ _ _ _ _)
      | (with_reducible exact ih2 _ _ _ _ _ _ _ _ _ _ _ _ _ _ _ _)
      | (with_reducible exact ih3 _ _ _ _ _ _ _ _ _ _ _ _ _ _ _ _)
      | (with_reducible exact signetryref01_Check.mono _ _ _ _ _ _)
      | (with_reducible exact signetryref01_Make.mono _ _ _ _ _)
      | (with_reducible exact wire_Check.mono _ _ _ _ _ _)
      | (with_reducible exact wire_Make.mono _ _ _ _ _)
      | (with_reducible exact wire_Same.mono _ _ _ _ _ _ _ _ _ _ _)
      | (with_reducible exact LeO.refl _)
      | (with_reducible exact LeO.none _)
      | (with_reducible refine LeO.ite ?_ ?_)
      | (with_reducible refine LeO.bind ?_ (fun _ => ?_))
      | exact ih0 _ _ _ _ _ _ _ _ _ _ _ _ _ _ _
      | exact ih1 _ _ _ _ _ _ _ _ _ _ _ _ _ _ _ _
      | exact ih2 _ _ _ _ _ _ _ _ _ _ _ _ _ _ _ _
      | exact ih3 _ _ _ _ _ _ _ _ _ _ _ _ _ _ _ _
      | exact signetryref01_Check.mono _ _ _ _ _ _
      | exact signetryref01_Make.mono _ _ _ _ _
      | exact wire_Check.mono _ _ _ _ _ _
      | exact wire_Make.mono _ _ _ _ _
      | exact wire_Same.mono _ _ _ _ _ _ _ _ _ _ _
      | exact LeO.none _
      | refine LeO.ite ?_ ?_
      | refine LeO.bind ?_ (fun _ => ?_)
    · intro y0 y1 y2 y3 y4 y5 y6 y7 y8 y9 y10 y11 y12 y13 y14 y15
      unfold signetrylaw01_WireMakes.l0
      repeat' first
      | (with_reducible exact ih0 _ _ _ _ _ _ _ _ _ _ _ _ _ _ _)
      | (with_reducible exact ih1 _ _ _ _ _ _ _ _ _ _ _ _ _ _ _ _)
      | (with_reducible exact ih2 _ _ _ _ _ _ _ _ _ _ _ _ _ _ _ _)
      | (with_reducible exact ih3 _ _ _ _ _ _ _ _ _ _ _ _ _ _ _ _)
      | (with_reducible exact signetryref01_Check.mono _ _ _ _ _ _)
      | (with_reducible exact signetryref01_Make.mono _ _ _ _ _)
      | (with_reducible exact wire_Check.mono _ _ _ _ _ _)
      | (with_reducible exact wire_Make.mono _ _ _ _ _)
      | (with_reducible exact wire_Same.mono _ _ _ _ _ _ _ _ _ _ _)
      | (with_reducible exact LeO.refl _)
      | (with_reducible exact LeO.none _)
      | (with_reducible refine LeO.ite ?_ ?_)
      | (with_reducible refine LeO.bind ?_ (fun _ => ?_))
      | exact ih0 _ _ _ _ _ _ _ _ _ _ _ _ _ _ _
      | exact ih1 _ _ _ _ _ _ _ _ _ _ _ _ _ _ _ _
      | exact ih2 _ _ _ _ _ _ _ _ _ _ _ _ _ _ _ _
      | exact ih3 _ _ _ _ _ _ _ _ _ _ _ _ _ _ _ _
      | exact signetryref01_Check.mono _ _ _ _ _ _
      | exact signetryref01_Make.mono _ _ _ _ _
      | exact wire_Check.mono _ _ _ _ _ _
      | exact wire_Make.mono _ _ _ _ _
      | exact wire_Same.mono _ _ _ _ _ _ _ _ _ _ _
      | exact LeO.none _
      | refine LeO.ite ?_ ?_
      | refine LeO.bind ?_ (fun _ => ?_)
    · intro y0 y1 y2 y3 y4 y5 y6 y7 y8 y9 y10 y11 y12 y13 y14 y15
      unfold signetrylaw01_WireMakes.l1
      repeat' first
      | (with_reducible exact ih0 _ _ _ _ _ _ _ _ _ _ _ _ _ _ _)
      | (with_reducible exact ih1 _ _ _ _ _ _ _ _ _ _ _ _ _ _ _ _)
      | (with_reducible exact ih2 _ _ _ _ _ _ _ _ _ _ _ _ _ _ _ _)
      | (with_reducible exact ih3 _ _ _ _ _ _ _ _ _ _ _ _ _ _ _ _)
      | (with_reducible exact signetryref01_Check.mono _ _ _ _ _ _)
      | (with_reducible exact signetryref01_Make.mono _ _ _ _ _)
      | (with_reducible exact wire_Check.mono _ _ _ _ _ _)
      | (with_reducible exact wire_Make.mono _ _ _ _ _)
      | (with_reducible exact wire_Same.mono _ _ _ _ _ _ _ _ _ _ _)
      | (with_reducible exact LeO.refl _)
      | (with_reducible exact LeO.none _)
      | (with_reducible refine LeO.ite ?_ ?_)
      | (with_reducible refine LeO.bind ?_ (fun _ => ?_))
      | exact ih0 _ _ _ _ _ _ _ _ _ _ _ _ _ _ _
      | exact ih1 _ _ _ _ _ _ _ _ _ _ _ _ _ _ _ _
      | exact ih2 _ _ _ _ _ _ _ _ _ _ _ _ _ _ _ _
      | exact ih3 _ _ _ _ _ _ _ _ _ _ _ _ _ _ _ _
      | exact signetryref01_Check.mono _ _ _ _ _ _
      | exact signetryref01_Make.mono _ _ _ _ _
      | exact wire_Check.mono _ _ _ _ _ _
      | exact wire_Make.mono _ _ _ _ _
      | exact wire_Same.mono _ _ _ _ _ _ _ _ _ _ _
      | exact LeO.none _
      | refine LeO.ite ?_ ?_
      | refine LeO.bind ?_ (fun _ => ?_)
theorem signetrylaw01_WireMakes.mono : ∀ a0 a1 a2 a3 k, LeO (signetrylaw01_WireMakes.f k a0 a1 a2 a3) (signetrylaw01_WireMakes.f (k + 1) a0 a1 a2 a3) := by
  intro a0 a1 a2 a3 k
  obtain ⟨ih0, ih1, ih2, ih3⟩ := signetrylaw01_WireMakes.mono_l k
  unfold signetrylaw01_WireMakes.f
  repeat' first
      | (with_reducible exact ih0 _ _ _ _ _ _ _ _ _ _ _ _ _ _ _)
      | (with_reducible exact ih1 _ _ _ _ _ _ _ _ _ _ _ _ _ _ _ _)
      | (with_reducible exact ih2 _ _ _ _ _ _ _ _ _ _ _ _ _ _ _ _)
      | (with_reducible exact ih3 _ _ _ _ _ _ _ _ _ _ _ _ _ _ _ _)
      | (with_reducible exact signetryref01_Check.mono _ _ _ _ _ _)
      | (with_reducible exact signetryref01_Make.mono _ _ _ _ _)
      | (with_reducible exact wire_Check.mono _ _ _ _ _ _)
      | (with_reducible exact wire_Make.mono _ _ _ _ _)
      | (with_reducible exact wire_Same.mono _ _ _ _ _ _ _ _ _ _ _)
      | (with_reducible exact LeO.refl _)
      | (with_reducible exact LeO.none _)
      | (with_reducible refine LeO.ite ?_ ?_)
      | (with_reducible refine LeO.bind ?_ (fun _ => ?_))
      | exact ih0 _ _ _ _ _ _ _ _ _ _ _ _ _ _ _
      | exact ih1 _ _ _ _ _ _ _ _ _ _ _ _ _ _ _ _
      | exact ih2 _ _ _ _ _ _ _ _ _ _ _ _ _ _ _ _
      | exact ih3 _ _ _ _ _ _ _ _ _ _ _ _ _ _ _ _
      | exact signetryref01_Check.mono _ _ _ _ _ _
      | exact signetryref01_Make.mono _ _ _ _ _
      | exact wire_Check.mono _ _ _ _ _ _
      | exact wire_Make.mono _ _ _ _ _
      | exact wire_Same.mono _ _ _ _ _ _ _ _ _ _ _
      | exact LeO.none _
      | refine LeO.ite ?_ ?_
      | refine LeO.bind ?_ (fun _ => ?_)
def signetrylaw01_WireMakes.T9 : Bool × List (List Nat × List Nat) := (true, [([], []), ([], []), ([0, 1], [0, 1]), ([], []), ([], []), ([3, 4, 2], [3, 4]), ([2, 5], [2, 5]), ([6, 5], [6]), ([7], [7]), ([7], [7]), ([8, 9, 7, 7], [7, 8, 9]), ([10, 7], [7, 10]), ([7, 11], [7, 11]), ([12, 10], [12]), ([13], [13]), ([14, 13, 13], [13, 14]), ([13], [13]), ([16, 15, 13], [13, 16]), ([15, 17, 13], [13, 15, 17]), ([13, 18], [13, 18]), ([19, 17], [19]), ([20], [20]), ([21, 20, 20], [20, 21]), ([20], [20]), ([23, 22, 20], [20, 23]), ([22, 24, 20], [20, 22, 24]), ([20, 25], [20, 25]), ([26, 24], [26]), ([27], [27]), ([27], [27]), ([28, 29, 27, 27], [27, 28, 29]), ([30, 27], [27, 30]), ([27, 31], [27, 31])])
def signetrylaw01_WireMakes.B9 : List Nat := [0, 0, 3, 0, 0, 31, 63, 127, 255, 255, 1023, 2047, 4095, 8191, 16383, 32767, 16383, 131071, 262143, 524287, 1048575, 2097151, 4194303, 2097151, 16777215, 33554431, 67108863, 134217727, 268435455, 268435455, 1073741823, 2147483647, 4294967295]
theorem signetrylaw01_WireMakes.tab9 : rtab .any (opsOf Try.f7 9) = signetrylaw01_WireMakes.T9 := by kernel_rfl
theorem signetrylaw01_WireMakes.bits9 : waitsOk signetrylaw01_WireMakes.T9.2 signetrylaw01_WireMakes.B9 = true := by kernel_rfl
def signetrylaw01_WireMakes.T14 : Bool × List (List Nat × List Nat) := (true, [([], []), ([0], [0]), ([], []), ([], []), ([3], [3]), ([], []), ([4, 5], [4, 5]), ([6], [6]), ([7], [7]), ([1, 2, 0, 1, 2, 3, 4, 5, 6, 7, 8], [1, 2]), ([9, 8, 0, 1, 2, 3, 4, 5, 6, 7, 8], [8, 9])])
def signetrylaw01_WireMakes.B14 : List Nat := [0, 1, 0, 0, 8, 0, 56, 120, 248, 511, 1023]
theorem signetrylaw01_WireMakes.tab14 : rtab .any (opsOf Try.f7 14) = signetrylaw01_WireMakes.T14 := by kernel_rfl
theorem signetrylaw01_WireMakes.bits14 : waitsOk signetrylaw01_WireMakes.T14.2 signetrylaw01_WireMakes.B14 = true := by kernel_rfl
def signetrylaw01_WireMakes.T18 : Bool × List (List Nat × List Nat) := (true, [([], []), ([0], [0]), ([], []), ([], []), ([3], [3]), ([], []), ([4, 5], [4, 5]), ([6], [6]), ([7], [7]), ([1, 2, 0, 1, 2, 3, 4, 5, 6, 7, 8], [1, 2]), ([9, 8, 0, 1, 2, 3, 4, 5, 6, 7, 8], [8, 9])])
def signetrylaw01_WireMakes.B18 : List Nat := [0, 1, 0, 0, 8, 0, 56, 120, 248, 511, 1023]
theorem signetrylaw01_WireMakes.tab18 : rtab .any (opsOf Try.f7 18) = signetrylaw01_WireMakes.T18 := by kernel_rfl
theorem signetrylaw01_WireMakes.bits18 : waitsOk signetrylaw01_WireMakes.T18.2 signetrylaw01_WireMakes.B18 = true := by kernel_rfl
set_option maxHeartbeats 8000000 in
set_option maxRecDepth 100000 in
theorem signetrylaw01_WireMakes.calls (k : Nat) (a0_0 : Int) (a0_1 : Int) (a1 : Int) (A2 : Option Addr) (c2 : Nat) (l2 : List Int) (r : Bool) (w : World) (hr2 : Kd.C (Kd.int .u8) w A2 l2.length l2) (hc2 : l2.length ≤ c2) (h : signetrylaw01_WireMakes.f k a0_0 a0_1 a1 l2 = some r) :
    Calls Try.prog 7 #[.agg #[.int .i64 a0_0, .int .i64 a0_1], .int .u64 a1, .slice A2 l2.length c2] w fun e w' => e = .returned (.bool r) ∧ Below w.heap.size w w' := by
  have hu52 := Try.underlying52
  have hu33 := Try.underlying33
  have HR2 := Aside0.mk hr2
  have HC2 := Aside0.mk hc2
  clear hr2 hc2
  have HB := Aside0.mk (Below.refl w.heap.size w)
  have H : ((signetrylaw01_cut.f l2).bind fun t489 => ((signetryref00_CopyBytes.f t489).bind fun t492 => ((wire_Make.f k a0_0 a0_1 a1 t492).bind fun bt495 => ((signetryref01_Make.f k a0_0 a0_1 a1 t489).bind fun bt506 => ((signetryref01_Same.f bt495.1 bt495.2.1 bt495.2.2.1 bt495.2.2.2.1 bt495.2.2.2.2.1 bt506.1 bt506.2.1 bt506.2.2.1 bt506.2.2.2.1 bt506.2.2.2.2.1).bind fun t517 => (if t517 = true then (if bt495.2.2.2.2.2 = bt506.2.2.2.2.2 then ((signetryref00_EqBytes.f t492 t489).bind fun t518 => (signetrylaw01_WireMakes.j0 k a1 t489 (!t518) a0_0 a0_1 bt495.1 bt495.2.1 bt495.2.2.1 bt495.2.2.2.1 bt495.2.2.2.2.1 bt506.1 bt506.2.1 bt506.2.2.1 bt506.2.2.2.1 bt506.2.2.2.2.1)) else (none)) else (none))))))) = some r := h
  clear h
  replace H := Option.bind_eq_some_iff.mp H
  obtain ⟨t489, A40, H⟩ := H
  replace H : ((signetryref00_CopyBytes.f t489).bind fun t492 => ((wire_Make.f k a0_0 a0_1 a1 t492).bind fun bt495 => ((signetryref01_Make.f k a0_0 a0_1 a1 t489).bind fun bt506 => ((signetryref01_Same.f bt495.1 bt495.2.1 bt495.2.2.1 bt495.2.2.2.1 bt495.2.2.2.2.1 bt506.1 bt506.2.1 bt506.2.2.1 bt506.2.2.2.1 bt506.2.2.2.2.1).bind fun t517 => (if t517 = true then (if bt495.2.2.2.2.2 = bt506.2.2.2.2.2 then ((signetryref00_EqBytes.f t492 t489).bind fun t518 => (signetrylaw01_WireMakes.j0 k a1 t489 (!t518) a0_0 a0_1 bt495.1 bt495.2.1 bt495.2.2.1 bt495.2.2.2.1 bt495.2.2.2.2.1 bt506.1 bt506.2.1 bt506.2.2.1 bt506.2.2.2.1 bt506.2.2.2.2.1)) else (none)) else (none)))))) = some r := H
  have A4 := Aside0.mk A40
  clear A40
  replace H := Option.bind_eq_some_iff.mp H
  obtain ⟨t492, A50, H⟩ := H
  replace H : ((wire_Make.f k a0_0 a0_1 a1 t492).bind fun bt495 => ((signetryref01_Make.f k a0_0 a0_1 a1 t489).bind fun bt506 => ((signetryref01_Same.f bt495.1 bt495.2.1 bt495.2.2.1 bt495.2.2.2.1 bt495.2.2.2.2.1 bt506.1 bt506.2.1 bt506.2.2.1 bt506.2.2.2.1 bt506.2.2.2.2.1).bind fun t517 => (if t517 = true then (if bt495.2.2.2.2.2 = bt506.2.2.2.2.2 then ((signetryref00_EqBytes.f t492 t489).bind fun t518 => (signetrylaw01_WireMakes.j0 k a1 t489 (!t518) a0_0 a0_1 bt495.1 bt495.2.1 bt495.2.2.1 bt495.2.2.2.1 bt495.2.2.2.2.1 bt506.1 bt506.2.1 bt506.2.2.1 bt506.2.2.2.1 bt506.2.2.2.2.1)) else (none)) else (none))))) = some r := H
  have A5 := Aside0.mk A50
  clear A50
  replace H := Option.bind_eq_some_iff.mp H
  obtain ⟨⟨t495, t496, t497, t498, t501, t504⟩, A60, H⟩ := H
  replace H : ((signetryref01_Make.f k a0_0 a0_1 a1 t489).bind fun bt506 => ((signetryref01_Same.f t495 t496 t497 t498 t501 bt506.1 bt506.2.1 bt506.2.2.1 bt506.2.2.2.1 bt506.2.2.2.2.1).bind fun t517 => (if t517 = true then (if t504 = bt506.2.2.2.2.2 then ((signetryref00_EqBytes.f t492 t489).bind fun t518 => (signetrylaw01_WireMakes.j0 k a1 t489 (!t518) a0_0 a0_1 t495 t496 t497 t498 t501 bt506.1 bt506.2.1 bt506.2.2.1 bt506.2.2.2.1 bt506.2.2.2.2.1)) else (none)) else (none)))) = some r := H
  have A6 := Aside0.mk A60
  clear A60
  replace H := Option.bind_eq_some_iff.mp H
  obtain ⟨⟨t506, t507, t508, t509, t512, t515⟩, A70, H⟩ := H
  replace H : ((signetryref01_Same.f t495 t496 t497 t498 t501 t506 t507 t508 t509 t512).bind fun t517 => (if t517 = true then (if t504 = t515 then ((signetryref00_EqBytes.f t492 t489).bind fun t518 => (signetrylaw01_WireMakes.j0 k a1 t489 (!t518) a0_0 a0_1 t495 t496 t497 t498 t501 t506 t507 t508 t509 t512)) else (none)) else (none))) = some r := H
  have A7 := Aside0.mk A70
  clear A70
  have HC8 := Aside0.mk H
  clear H
  go_enter Try.func7, Try.ntmps7
  go_upto_region 5 with (first | ((with_reducible refine gate_dst (N := 3) rfl ?_); refine box_event ?hg (N := 3) ?hd (cs := #[.int .i64 a0_0, .int .i64 a0_1]) (t := 52) ?hr ?_; (case hd => rfl); (case hg => rfl); (case hr => first | (go_simp; done) | (go_simp; rfl)); intro gb488 hg w9 hbox hb; have n0_ := Aside0.mk (below_step (by repeat (first | (with_reducible first | exact HB.out | apply below_alloc | apply pw_below_drewN | apply below_drew1) | exact HB.out)) hb); have n1_ := Aside0.mk (hbox); have n2_ := Aside0.mk ((by rw [hg]; exact (below_size (by repeat (first | (with_reducible first | exact HB.out | apply below_alloc | apply pw_below_drewN | apply below_drew1) | exact HB.out))) : w.heap.size ≤ gb488)); have n3_ := Aside0.mk ((by rw [hg]; exact (below_size (by repeat (first | (with_reducible first | exact HB.out | apply below_alloc | apply pw_below_drewN | apply below_drew1) | exact HB.out))) : w.heap.size ≤ gb488)); clear HB; have HB := n0_; have BK488 := n1_; have GW488 := n2_; have GE488 := n3_; clear n0_ n1_ n2_ n3_; clear hb hbox hg) | ((with_reducible refine gate_callee (f := 23) rfl ?_); refine goesL_ (some 17) rfl rfl Try.func23 (by kernel_rfl) rfl #[.slice A2 l2.length c2] rfl (by (try simp only [List.map_toArray, List.map_cons, List.map_nil]); first | done | rfl | (simp only [List.length_drop, List.length_take]; rfl)) ?_; (with_reducible refine (signetrylaw01_cut.calls (fun k_ => k_ < w.heap.size) _ _ l2 t489 _ ?side1 A4.out).mono ?_); (case side1 => exact Kd.V_mk HC2.out (Kd.F_below (Kd.C_F (Kd.heap_int .u8) HR2.out) (by repeat (first | (with_reducible first | exact HB.out | apply below_alloc | apply pw_below_drewN | apply below_drew1 | refine below_set ?_ GE488.out) | exact HB.out)))); rintro e w10 ⟨v490, rfl, ho0, hb⟩; refine ⟨_, rfl, ?_⟩; have n0_ := Aside0.mk (Kd.V_lower (Kd.V_mono (ok' := fun k_ => k_ ≠ gb488) ho0 (fun k_ hk_ => Or.elim hk_ (fun hs_ => fun e_ => Nat.not_le.2 hs_ (by rw [e_]; exact GW488.out)) (fun hn_ => (Kd.freshB (g := gb488) (o := .cells #[.int .i64 a0_0, .int .i64 a0_1] 52 (0, 0)) (by (with_reducible repeat (first | refine blk_drewN ?_ _ | refine blk_drew ?_ | refine blk_alloc ?_ _)); exact BK488.out) k_ hn_)))) (below_size (by repeat (first | (with_reducible first | exact HB.out | apply below_alloc | apply pw_below_drewN | apply below_drew1 | refine below_set ?_ GE488.out) | exact HB.out)))); have n1_ := Aside0.mk (blk_below (g := gb488) (o := .cells #[.int .i64 a0_0, .int .i64 a0_1] 52 (0, 0)) (by (with_reducible repeat (first | refine blk_drewN ?_ _ | refine blk_drew ?_ | refine blk_alloc ?_ _)); exact BK488.out) hb); have n2_ := Aside0.mk (below_step (by repeat (first | (with_reducible first | exact HB.out | apply below_alloc | apply pw_below_drewN | apply below_drew1 | refine below_set ?_ GE488.out) | exact HB.out)) hb); clear BK488; clear HB; have HO491 := n0_; have BK488 := n1_; have HB := n2_; clear n0_ n1_ n2_; (try clear hb); (try clear hb2); (try clear hk); (try clear hi); (try clear ho0); obtain ⟨Ao11, co11, eo11⟩ := Kd.V_slice HO491.out; subst eo11) | ((with_reducible refine gate_callee (f := 12) rfl ?_); refine goesL_ (some 19) rfl rfl Try.func12 (by kernel_rfl) rfl #[.slice Ao11 t489.length co11] rfl (by (try simp only [List.map_toArray, List.map_cons, List.map_nil]); first | done | rfl | (simp only [List.length_drop, List.length_take]; rfl)) ?_; (with_reducible refine (signetryref00_CopyBytes.calls _ _ t489 t492 _ ?side1 ?side2 A5.out).mono ?_); (case side1 => repeat (first | exact (Kd.V_reads' HO491.out).2.2 | (with_reducible refine Kd.C_alloc ?_ _) | (with_reducible refine Kd.C_drewN ?_ _) | (with_reducible refine Kd.C_drew ?_))); (case side2 => exact (Kd.V_reads' HO491.out).2.1); rintro e w12 ⟨v493, rfl, ho0, hb⟩; refine ⟨_, rfl, ?_⟩; have n0_ := Aside0.mk (Kd.V_elder' (by (with_reducible repeat (first | apply Kd.V_alloc | apply Kd.V_drewN | apply Kd.V_drew)); exact HO491.out) (Kd.R_base ho0) hb); have n1_ := Aside0.mk (Kd.R_lower ho0 (below_size (by repeat (first | (with_reducible first | exact HB.out | apply below_alloc | apply pw_below_drewN | apply below_drew1 | refine below_set ?_ GE488.out) | exact HB.out)))); have n2_ := Aside0.mk (blk_below (g := gb488) (o := .cells #[.int .i64 a0_0, .int .i64 a0_1] 52 (0, 0)) (by (with_reducible repeat (first | refine blk_drewN ?_ _ | refine blk_drew ?_ | refine blk_alloc ?_ _)); exact BK488.out) hb); have n3_ := Aside0.mk (below_step (by repeat (first | (with_reducible first | exact HB.out | apply below_alloc | apply pw_below_drewN | apply below_drew1 | refine below_set ?_ GE488.out) | exact HB.out)) hb); clear HO491; clear BK488; clear HB; have HO491 := n0_; have HO494 := n1_; have BK488 := n2_; have HB := n3_; clear n0_ n1_ n2_ n3_; (try clear hb); (try clear hb2); (try clear hk); (try clear hi); (try clear ho0); have hcz13_0 : w12.cell? ⟨gb488, 0, none⟩ = some (.int .i64 a0_0) := (blk_cell BK488.out 0).trans rfl; have hcz13_1 : w12.cell? ⟨gb488, 1, none⟩ = some (.int .i64 a0_1) := (blk_cell BK488.out 1).trans rfl; have hfz13_0 := blk_frozen BK488.out 0; have hfz13_1 := blk_frozen BK488.out 1; obtain ⟨Ao14, co14, eo14⟩ := Kd.R_slice HO494.out; subst eo14) | ((with_reducible refine gate_callee (f := 32) rfl ?_); refine goesL_ (some 27) rfl rfl Try.func32 (by kernel_rfl) rfl #[.int .i64 a0_0, .int .i64 a0_1, .int .u64 a1, .slice Ao14 t492.length co14] rfl (by (try simp only [List.map_toArray, List.map_cons, List.map_nil]); first | done | rfl | (simp only [List.length_drop, List.length_take]; rfl)) ?_; (with_reducible refine (wire_Make.calls k a0_0 a0_1 a1 _ _ t492 t495 t496 t497 t498 t501 t504 _ ?side1 ?side2 A6.out).mono ?_); (case side1 => repeat (first | exact (Kd.R_reads' HO494.out).2.2 | (with_reducible refine Kd.C_alloc ?_ _) | (with_reducible refine Kd.C_drewN ?_ _) | (with_reducible refine Kd.C_drew ?_))); (case side2 => exact (Kd.R_reads' HO494.out).2.1); rintro e w15 ⟨v499, v502, rfl, ho0, ho1, hb⟩; refine ⟨_, rfl, ?_⟩; have n0_ := Aside0.mk (Kd.V_mono (Kd.V_told (Kd.V_told (Kd.V_old (by (with_reducible repeat (first | apply Kd.V_alloc | apply Kd.V_drewN | apply Kd.V_drew)); exact HO491.out) hb) (Kd.R_base ho0)) (Kd.R_base ho1)) (fun _ h_ => h_.1)); have n1_ := Aside0.mk (Kd.R_mono (Kd.R_told (Kd.R_told (Kd.R_old (by (with_reducible repeat (first | apply Kd.R_alloc | apply Kd.R_drewN | apply Kd.R_drew)); exact HO494.out) hb) (Kd.R_base ho0)) (Kd.R_base ho1)) (fun _ h_ => h_.1)); have n2_ := Aside0.mk (Kd.R_lower (Kd.R_new' ho0 (Kd.R_lt (by (with_reducible repeat (first | apply Kd.R_alloc | apply Kd.R_drewN | apply Kd.R_drew)); exact HO494.out))) (below_size (by repeat (first | (with_reducible first | exact HB.out | apply below_alloc | apply pw_below_drewN | apply below_drew1 | refine below_set ?_ GE488.out) | exact HB.out)))); have n3_ := Aside0.mk (Kd.R_lower (Kd.R_new' ho1 (Kd.R_lt (by (with_reducible repeat (first | apply Kd.R_alloc | apply Kd.R_drewN | apply Kd.R_drew)); exact HO494.out))) (below_size (by repeat (first | (with_reducible first | exact HB.out | apply below_alloc | apply pw_below_drewN | apply below_drew1 | refine below_set ?_ GE488.out) | exact HB.out)))); have n4_ := Aside0.mk (blk_below (g := gb488) (o := .cells #[.int .i64 a0_0, .int .i64 a0_1] 52 (0, 0)) (by (with_reducible repeat (first | refine blk_drewN ?_ _ | refine blk_drew ?_ | refine blk_alloc ?_ _)); exact BK488.out) hb); have n5_ := Aside0.mk (below_step (by repeat (first | (with_reducible first | exact HB.out | apply below_alloc | apply pw_below_drewN | apply below_drew1 | refine below_set ?_ GE488.out) | exact HB.out)) hb); clear HO491; clear HO494; clear BK488; clear HB; have HO491 := n0_; have HO494 := n1_; have HO500 := n2_; have HO503 := n3_; have BK488 := n4_; have HB := n5_; clear n0_ n1_ n2_ n3_ n4_ n5_; (try clear hb); (try clear hb2); (try clear hk); (try clear hi); (try clear ho0); (try clear ho1)) | ((with_reducible refine gate_dst (N := 8) rfl ?_); refine box_event ?hg (N := 8) ?hd (cs := #[.int .i64 0, .int .i64 0, .int .u64 0, .slice none 0 0, .slice none 0 0]) (t := 33) ?hr ?_; (case hd => rfl); (case hg => rfl); (case hr => first | (go_simp; done) | (go_simp; rfl)); intro gb505 hg w16 hbox hb; have n0_ := Aside0.mk (Kd.V_below (Kd.V_elderB (by (with_reducible repeat (first | apply Kd.V_alloc | apply Kd.V_drewN | apply Kd.V_drew)); exact HO491.out) gb505 (Nat.le_of_eq hg.symm)) hb); have n1_ := Aside0.mk (Kd.R_below (by (with_reducible repeat (first | apply Kd.R_alloc | apply Kd.R_drewN | apply Kd.R_drew)); exact HO494.out) hb); have n2_ := Aside0.mk (Kd.R_below (by (with_reducible repeat (first | apply Kd.R_alloc | apply Kd.R_drewN | apply Kd.R_drew)); exact HO500.out) hb); have n3_ := Aside0.mk (Kd.R_below (by (with_reducible repeat (first | apply Kd.R_alloc | apply Kd.R_drewN | apply Kd.R_drew)); exact HO503.out) hb); have n4_ := Aside0.mk (blk_below (g := gb488) (o := .cells #[.int .i64 a0_0, .int .i64 a0_1] 52 (0, 0)) (by (with_reducible repeat (first | refine blk_drewN ?_ _ | refine blk_drew ?_ | refine blk_alloc ?_ _)); exact BK488.out) hb); have n5_ := Aside0.mk (below_step (by repeat (first | (with_reducible first | exact HB.out | apply below_alloc | apply pw_below_drewN | apply below_drew1 | refine below_set ?_ GE488.out) | exact HB.out)) hb); have n6_ := Aside0.mk (hbox); have n7_ := Aside0.mk ((by rw [hg]; exact (below_size (by repeat (first | (with_reducible first | exact HB.out | apply below_alloc | apply pw_below_drewN | apply below_drew1 | refine below_set ?_ GE488.out) | exact HB.out))) : w.heap.size ≤ gb505)); have n8_ := Aside0.mk ((by rw [hg]; exact (below_size (by repeat (first | (with_reducible first | exact HB.out | apply below_alloc | apply pw_below_drewN | apply below_drew1 | refine below_set ?_ GE488.out) | exact HB.out))) : w.heap.size ≤ gb505)); have n9_ := Aside0.mk ((by rw [hg]; exact Nat.ne_of_lt (blk_lt (g := gb488) (o := .cells #[.int .i64 a0_0, .int .i64 a0_1] 52 (0, 0)) (by (with_reducible repeat (first | refine blk_drewN ?_ _ | refine blk_drew ?_ | refine blk_alloc ?_ _)); exact BK488.out)) : gb488 ≠ gb505)); have n10_ := Aside0.mk ((by rw [hg]; exact Nat.ne_of_gt (blk_lt (g := gb488) (o := .cells #[.int .i64 a0_0, .int .i64 a0_1] 52 (0, 0)) (by (with_reducible repeat (first | refine blk_drewN ?_ _ | refine blk_drew ?_ | refine blk_alloc ?_ _)); exact BK488.out)) : gb505 ≠ gb488)); clear HO491; clear HO494; clear HO500; clear HO503; clear BK488; clear HB; have HO491 := n0_; have HO494 := n1_; have HO500 := n2_; have HO503 := n3_; have BK488 := n4_; have HB := n5_; have BK505 := n6_; have GW505 := n7_; have GE505 := n8_; have NB488_505 := n9_; have NB505_488 := n10_; clear n0_ n1_ n2_ n3_ n4_ n5_ n6_ n7_ n8_ n9_ n10_; clear hb hbox hg; have hnb17 := NB505_488.out; have hnc17 := NB488_505.out; have hcz18_0 : w16.cell? ⟨gb505, 0, none⟩ = some (.int .i64 0) := (blk_cell BK505.out 0).trans rfl; have hcz18_1 : w16.cell? ⟨gb505, 1, none⟩ = some (.int .i64 0) := (blk_cell BK505.out 1).trans rfl; have hcz18_2 : w16.cell? ⟨gb505, 2, none⟩ = some (.int .u64 0) := (blk_cell BK505.out 2).trans rfl; have hcz18_3 : w16.cell? ⟨gb505, 3, none⟩ = some (.slice none 0 0) := (blk_cell BK505.out 3).trans rfl; have hcz18_4 : w16.cell? ⟨gb505, 4, none⟩ = some (.slice none 0 0) := (blk_cell BK505.out 4).trans rfl; have hfz18_0 := blk_frozen BK505.out 0; have hfz18_1 := blk_frozen BK505.out 1; have hfz18_2 := blk_frozen BK505.out 2; have hfz18_3 := blk_frozen BK505.out 3; have hfz18_4 := blk_frozen BK505.out 4; obtain ⟨Ao19, co19, eo19⟩ := Kd.R_slice HO500.out; subst eo19; obtain ⟨Ao20, co20, eo20⟩ := Kd.R_slice HO503.out; subst eo20; have hcz21_0 : w16.cell? ⟨gb488, 0, none⟩ = some (.int .i64 a0_0) := (blk_cell BK488.out 0).trans rfl; have hcz21_1 : w16.cell? ⟨gb488, 1, none⟩ = some (.int .i64 a0_1) := (blk_cell BK488.out 1).trans rfl; have hfz21_0 := blk_frozen BK488.out 0; have hfz21_1 := blk_frozen BK488.out 1) | ((with_reducible refine gate_callee (f := 33) rfl ?_); refine goesL_ (some 37) rfl rfl Try.func33 (by kernel_rfl) rfl #[.int .i64 a0_0, .int .i64 a0_1, .int .u64 a1, .slice Ao11 t489.length co11] rfl (by (try simp only [List.map_toArray, List.map_cons, List.map_nil]); first | done | rfl | (simp only [List.length_drop, List.length_take]; rfl)) ?_; (with_reducible refine (signetryref01_Make.calls k a0_0 a0_1 a1 _ _ t489 t506 t507 t508 t509 t512 t515 _ ?side1 ?side2 A7.out).mono ?_); (case side1 => refine (Kd.V_reads' (e := 5) (base := w.heap.size) (ok := fun k_ => ((((k_ ≠ gb488 ∧ some k_ ≠ (.slice Ao14 t492.length co14 : Value).ownBlock) ∧ some k_ ≠ (.slice Ao19 t498.length co19 : Value).ownBlock) ∧ some k_ ≠ (.slice Ao20 t501.length co20 : Value).ownBlock) ∧ k_ ≠ gb505)) (n := t489.length) (c := co11) ?_).2.2; exact (by (with_reducible repeat (first | apply Kd.V_alloc | apply Kd.V_drewN | apply Kd.V_drew)); exact (Kd.V_mono (Kd.V_far (p := ⟨gb505, 4, none⟩) (Kd.V_far (p := ⟨gb505, 3, none⟩) (Kd.V_far (p := ⟨gb505, 2, none⟩) (Kd.V_far (p := ⟨gb505, 1, none⟩) (Kd.V_far (p := ⟨gb505, 0, none⟩) (Kd.V_mono HO491.out (fun k_ hk => (⟨hk, hk.2⟩ : _ ∧ k_ ≠ gb505))) (fun _ hk => hk.2) (.int .i64 t495)) (fun _ hk => hk.2) (.int .i64 t496)) (fun _ hk => hk.2) (.int .u64 t497)) (fun _ hk => hk.2) (.slice Ao19 t498.length co19)) (fun _ hk => hk.2) (.slice Ao20 t501.length co20)) (fun _ h_ => h_.1)))); (case side2 => exact (Kd.V_reads' HO491.out).2.1); rintro e w22 ⟨v510, v513, rfl, ho0, ho1, hb⟩; refine ⟨_, rfl, ?_⟩; have n0_ := Aside0.mk (Kd.V_mono (Kd.V_told (Kd.V_told (Kd.V_old (by (with_reducible repeat (first | apply Kd.V_alloc | apply Kd.V_drewN | apply Kd.V_drew)); exact (Kd.V_mono (Kd.V_far (p := ⟨gb505, 4, none⟩) (Kd.V_far (p := ⟨gb505, 3, none⟩) (Kd.V_far (p := ⟨gb505, 2, none⟩) (Kd.V_far (p := ⟨gb505, 1, none⟩) (Kd.V_far (p := ⟨gb505, 0, none⟩) (Kd.V_mono HO491.out (fun k_ hk => (⟨hk, hk.2⟩ : _ ∧ k_ ≠ gb505))) (fun _ hk => hk.2) (.int .i64 t495)) (fun _ hk => hk.2) (.int .i64 t496)) (fun _ hk => hk.2) (.int .u64 t497)) (fun _ hk => hk.2) (.slice Ao19 t498.length co19)) (fun _ hk => hk.2) (.slice Ao20 t501.length co20)) (fun _ h_ => h_.1))) hb) (Kd.R_base ho0)) (Kd.R_base ho1)) (fun _ h_ => h_.1)); have n1_ := Aside0.mk (Kd.R_mono (Kd.R_told (Kd.R_told (Kd.R_old (by (with_reducible repeat (first | apply Kd.R_alloc | apply Kd.R_drewN | apply Kd.R_drew)); exact (Kd.R_mono (Kd.R_far (p := ⟨gb505, 4, none⟩) (Kd.R_far (p := ⟨gb505, 3, none⟩) (Kd.R_far (p := ⟨gb505, 2, none⟩) (Kd.R_far (p := ⟨gb505, 1, none⟩) (Kd.R_far (p := ⟨gb505, 0, none⟩) (Kd.R_types HO494.out BK505.out (by decide)) (fun _ hk => hk.2) (.int .i64 t495)) (fun _ hk => hk.2) (.int .i64 t496)) (fun _ hk => hk.2) (.int .u64 t497)) (fun _ hk => hk.2) (.slice Ao19 t498.length co19)) (fun _ hk => hk.2) (.slice Ao20 t501.length co20)) (fun _ h_ => h_.1))) hb) (Kd.R_base ho0)) (Kd.R_base ho1)) (fun _ h_ => h_.1)); have n2_ := Aside0.mk (Kd.R_mono (Kd.R_told (Kd.R_told (Kd.R_old (by (with_reducible repeat (first | apply Kd.R_alloc | apply Kd.R_drewN | apply Kd.R_drew)); exact (Kd.R_mono (Kd.R_far (p := ⟨gb505, 4, none⟩) (Kd.R_far (p := ⟨gb505, 3, none⟩) (Kd.R_far (p := ⟨gb505, 2, none⟩) (Kd.R_far (p := ⟨gb505, 1, none⟩) (Kd.R_far (p := ⟨gb505, 0, none⟩) (Kd.R_types HO500.out BK505.out (by decide)) (fun _ hk => hk.2) (.int .i64 t495)) (fun _ hk => hk.2) (.int .i64 t496)) (fun _ hk => hk.2) (.int .u64 t497)) (fun _ hk => hk.2) (.slice Ao19 t498.length co19)) (fun _ hk => hk.2) (.slice Ao20 t501.length co20)) (fun _ h_ => h_.1))) hb) (Kd.R_base ho0)) (Kd.R_base ho1)) (fun _ h_ => h_.1)); have n3_ := Aside0.mk (Kd.R_mono (Kd.R_told (Kd.R_told (Kd.R_old (by (with_reducible repeat (first | apply Kd.R_alloc | apply Kd.R_drewN | apply Kd.R_drew)); exact (Kd.R_mono (Kd.R_far (p := ⟨gb505, 4, none⟩) (Kd.R_far (p := ⟨gb505, 3, none⟩) (Kd.R_far (p := ⟨gb505, 2, none⟩) (Kd.R_far (p := ⟨gb505, 1, none⟩) (Kd.R_far (p := ⟨gb505, 0, none⟩) (Kd.R_types HO503.out BK505.out (by decide)) (fun _ hk => hk.2) (.int .i64 t495)) (fun _ hk => hk.2) (.int .i64 t496)) (fun _ hk => hk.2) (.int .u64 t497)) (fun _ hk => hk.2) (.slice Ao19 t498.length co19)) (fun _ hk => hk.2) (.slice Ao20 t501.length co20)) (fun _ h_ => h_.1))) hb) (Kd.R_base ho0)) (Kd.R_base ho1)) (fun _ h_ => h_.1)); have n4_ := Aside0.mk (Kd.R_lower (Kd.R_new' (Kd.R_new' (Kd.R_new' ho0 (Kd.R_lt (by (with_reducible repeat (first | apply Kd.R_alloc | apply Kd.R_drewN | apply Kd.R_drew)); exact (Kd.R_mono (Kd.R_far (p := ⟨gb505, 4, none⟩) (Kd.R_far (p := ⟨gb505, 3, none⟩) (Kd.R_far (p := ⟨gb505, 2, none⟩) (Kd.R_far (p := ⟨gb505, 1, none⟩) (Kd.R_far (p := ⟨gb505, 0, none⟩) (Kd.R_types HO494.out BK505.out (by decide)) (fun _ hk => hk.2) (.int .i64 t495)) (fun _ hk => hk.2) (.int .i64 t496)) (fun _ hk => hk.2) (.int .u64 t497)) (fun _ hk => hk.2) (.slice Ao19 t498.length co19)) (fun _ hk => hk.2) (.slice Ao20 t501.length co20)) (fun _ h_ => h_.1))))) (Kd.R_lt (by (with_reducible repeat (first | apply Kd.R_alloc | apply Kd.R_drewN | apply Kd.R_drew)); exact (Kd.R_mono (Kd.R_far (p := ⟨gb505, 4, none⟩) (Kd.R_far (p := ⟨gb505, 3, none⟩) (Kd.R_far (p := ⟨gb505, 2, none⟩) (Kd.R_far (p := ⟨gb505, 1, none⟩) (Kd.R_far (p := ⟨gb505, 0, none⟩) (Kd.R_types HO500.out BK505.out (by decide)) (fun _ hk => hk.2) (.int .i64 t495)) (fun _ hk => hk.2) (.int .i64 t496)) (fun _ hk => hk.2) (.int .u64 t497)) (fun _ hk => hk.2) (.slice Ao19 t498.length co19)) (fun _ hk => hk.2) (.slice Ao20 t501.length co20)) (fun _ h_ => h_.1))))) (Kd.R_lt (by (with_reducible repeat (first | apply Kd.R_alloc | apply Kd.R_drewN | apply Kd.R_drew)); exact (Kd.R_mono (Kd.R_far (p := ⟨gb505, 4, none⟩) (Kd.R_far (p := ⟨gb505, 3, none⟩) (Kd.R_far (p := ⟨gb505, 2, none⟩) (Kd.R_far (p := ⟨gb505, 1, none⟩) (Kd.R_far (p := ⟨gb505, 0, none⟩) (Kd.R_types HO503.out BK505.out (by decide)) (fun _ hk => hk.2) (.int .i64 t495)) (fun _ hk => hk.2) (.int .i64 t496)) (fun _ hk => hk.2) (.int .u64 t497)) (fun _ hk => hk.2) (.slice Ao19 t498.length co19)) (fun _ hk => hk.2) (.slice Ao20 t501.length co20)) (fun _ h_ => h_.1))))) (below_size (by repeat (first | (with_reducible first | exact HB.out | apply below_alloc | apply pw_below_drewN | apply below_drew1 | refine below_set ?_ GE488.out | refine below_set ?_ GE505.out) | exact HB.out)))); have n5_ := Aside0.mk (Kd.R_lower (Kd.R_new' (Kd.R_new' (Kd.R_new' ho1 (Kd.R_lt (by (with_reducible repeat (first | apply Kd.R_alloc | apply Kd.R_drewN | apply Kd.R_drew)); exact (Kd.R_mono (Kd.R_far (p := ⟨gb505, 4, none⟩) (Kd.R_far (p := ⟨gb505, 3, none⟩) (Kd.R_far (p := ⟨gb505, 2, none⟩) (Kd.R_far (p := ⟨gb505, 1, none⟩) (Kd.R_far (p := ⟨gb505, 0, none⟩) (Kd.R_types HO494.out BK505.out (by decide)) (fun _ hk => hk.2) (.int .i64 t495)) (fun _ hk => hk.2) (.int .i64 t496)) (fun _ hk => hk.2) (.int .u64 t497)) (fun _ hk => hk.2) (.slice Ao19 t498.length co19)) (fun _ hk => hk.2) (.slice Ao20 t501.length co20)) (fun _ h_ => h_.1))))) (Kd.R_lt (by (with_reducible repeat (first | apply Kd.R_alloc | apply Kd.R_drewN | apply Kd.R_drew)); exact (Kd.R_mono (Kd.R_far (p := ⟨gb505, 4, none⟩) (Kd.R_far (p := ⟨gb505, 3, none⟩) (Kd.R_far (p := ⟨gb505, 2, none⟩) (Kd.R_far (p := ⟨gb505, 1, none⟩) (Kd.R_far (p := ⟨gb505, 0, none⟩) (Kd.R_types HO500.out BK505.out (by decide)) (fun _ hk => hk.2) (.int .i64 t495)) (fun _ hk => hk.2) (.int .i64 t496)) (fun _ hk => hk.2) (.int .u64 t497)) (fun _ hk => hk.2) (.slice Ao19 t498.length co19)) (fun _ hk => hk.2) (.slice Ao20 t501.length co20)) (fun _ h_ => h_.1))))) (Kd.R_lt (by (with_reducible repeat (first | apply Kd.R_alloc | apply Kd.R_drewN | apply Kd.R_drew)); exact (Kd.R_mono (Kd.R_far (p := ⟨gb505, 4, none⟩) (Kd.R_far (p := ⟨gb505, 3, none⟩) (Kd.R_far (p := ⟨gb505, 2, none⟩) (Kd.R_far (p := ⟨gb505, 1, none⟩) (Kd.R_far (p := ⟨gb505, 0, none⟩) (Kd.R_types HO503.out BK505.out (by decide)) (fun _ hk => hk.2) (.int .i64 t495)) (fun _ hk => hk.2) (.int .i64 t496)) (fun _ hk => hk.2) (.int .u64 t497)) (fun _ hk => hk.2) (.slice Ao19 t498.length co19)) (fun _ hk => hk.2) (.slice Ao20 t501.length co20)) (fun _ h_ => h_.1))))) (below_size (by repeat (first | (with_reducible first | exact HB.out | apply below_alloc | apply pw_below_drewN | apply below_drew1 | refine below_set ?_ GE488.out | refine below_set ?_ GE505.out) | exact HB.out)))); have n6_ := Aside0.mk (blk_below (g := gb488) (o := .cells #[.int .i64 a0_0, .int .i64 a0_1] 52 (0, 0)) (by (with_reducible repeat (first | refine blk_drewN ?_ _ | refine blk_drew ?_ | refine blk_alloc ?_ _)); refine blk_far ?_ NB488_505.out _; (with_reducible repeat (first | refine blk_drewN ?_ _ | refine blk_drew ?_ | refine blk_alloc ?_ _)); refine blk_far ?_ NB488_505.out _; (with_reducible repeat (first | refine blk_drewN ?_ _ | refine blk_drew ?_ | refine blk_alloc ?_ _)); refine blk_far ?_ NB488_505.out _; (with_reducible repeat (first | refine blk_drewN ?_ _ | refine blk_drew ?_ | refine blk_alloc ?_ _)); refine blk_far ?_ NB488_505.out _; (with_reducible repeat (first | refine blk_drewN ?_ _ | refine blk_drew ?_ | refine blk_alloc ?_ _)); refine blk_far ?_ NB488_505.out _; (with_reducible repeat (first | refine blk_drewN ?_ _ | refine blk_drew ?_ | refine blk_alloc ?_ _)); exact BK488.out) hb); have n7_ := Aside0.mk (blk_below (g := gb505) (o := .cells #[.int .i64 t495, .int .i64 t496, .int .u64 t497, .slice Ao19 t498.length co19, .slice Ao20 t501.length co20] 33 (0, 0)) (by (with_reducible repeat (first | refine blk_drewN ?_ _ | refine blk_drew ?_ | refine blk_alloc ?_ _)); refine blk_put (cs := #[.int .i64 t495, .int .i64 t496, .int .u64 t497, .slice Ao19 t498.length co19, .slice none 0 0]) ?_ 4 _ rfl; (with_reducible repeat (first | refine blk_drewN ?_ _ | refine blk_drew ?_ | refine blk_alloc ?_ _)); refine blk_put (cs := #[.int .i64 t495, .int .i64 t496, .int .u64 t497, .slice none 0 0, .slice none 0 0]) ?_ 3 _ rfl; (with_reducible repeat (first | refine blk_drewN ?_ _ | refine blk_drew ?_ | refine blk_alloc ?_ _)); refine blk_put (cs := #[.int .i64 t495, .int .i64 t496, .int .u64 0, .slice none 0 0, .slice none 0 0]) ?_ 2 _ rfl; (with_reducible repeat (first | refine blk_drewN ?_ _ | refine blk_drew ?_ | refine blk_alloc ?_ _)); refine blk_put (cs := #[.int .i64 t495, .int .i64 0, .int .u64 0, .slice none 0 0, .slice none 0 0]) ?_ 1 _ rfl; (with_reducible repeat (first | refine blk_drewN ?_ _ | refine blk_drew ?_ | refine blk_alloc ?_ _)); refine blk_put (cs := #[.int .i64 0, .int .i64 0, .int .u64 0, .slice none 0 0, .slice none 0 0]) ?_ 0 _ rfl; (with_reducible repeat (first | refine blk_drewN ?_ _ | refine blk_drew ?_ | refine blk_alloc ?_ _)); exact BK505.out) hb); have n8_ := Aside0.mk (below_step (by repeat (first | (with_reducible first | exact HB.out | apply below_alloc | apply pw_below_drewN | apply below_drew1 | refine below_set ?_ GE488.out | refine below_set ?_ GE505.out) | exact HB.out)) hb); clear HO491; clear HO494; clear HO500; clear HO503; clear BK488; clear BK505; clear HB; have HO491 := n0_; have HO494 := n1_; have HO500 := n2_; have HO503 := n3_; have HO511 := n4_; have HO514 := n5_; have BK488 := n6_; have BK505 := n7_; have HB := n8_; clear n0_ n1_ n2_ n3_ n4_ n5_ n6_ n7_ n8_; (try clear hb); (try clear hb2); (try clear hk); (try clear hi); (try clear ho0); (try clear ho1)) | ((with_reducible refine gate_dst (N := 10) rfl ?_); refine box_event ?hg (N := 10) ?hd (cs := #[.int .i64 0, .int .i64 0, .int .u64 0, .slice none 0 0, .slice none 0 0]) (t := 33) ?hr ?_; (case hd => rfl); (case hg => rfl); (case hr => first | (go_simp; done) | (go_simp; rfl)); intro gb516 hg w23 hbox hb; have n0_ := Aside0.mk (Kd.V_below (Kd.V_elderB (by (with_reducible repeat (first | apply Kd.V_alloc | apply Kd.V_drewN | apply Kd.V_drew)); exact HO491.out) gb516 (Nat.le_of_eq hg.symm)) hb); have n1_ := Aside0.mk (Kd.R_below (by (with_reducible repeat (first | apply Kd.R_alloc | apply Kd.R_drewN | apply Kd.R_drew)); exact HO494.out) hb); have n2_ := Aside0.mk (Kd.R_below (by (with_reducible repeat (first | apply Kd.R_alloc | apply Kd.R_drewN | apply Kd.R_drew)); exact HO500.out) hb); have n3_ := Aside0.mk (Kd.R_below (by (with_reducible repeat (first | apply Kd.R_alloc | apply Kd.R_drewN | apply Kd.R_drew)); exact HO503.out) hb); have n4_ := Aside0.mk (Kd.R_below (by (with_reducible repeat (first | apply Kd.R_alloc | apply Kd.R_drewN | apply Kd.R_drew)); exact HO511.out) hb); have n5_ := Aside0.mk (Kd.R_below (by (with_reducible repeat (first | apply Kd.R_alloc | apply Kd.R_drewN | apply Kd.R_drew)); exact HO514.out) hb); have n6_ := Aside0.mk (blk_below (g := gb488) (o := .cells #[.int .i64 a0_0, .int .i64 a0_1] 52 (0, 0)) (by (with_reducible repeat (first | refine blk_drewN ?_ _ | refine blk_drew ?_ | refine blk_alloc ?_ _)); exact BK488.out) hb); have n7_ := Aside0.mk (blk_below (g := gb505) (o := .cells #[.int .i64 t495, .int .i64 t496, .int .u64 t497, .slice Ao19 t498.length co19, .slice Ao20 t501.length co20] 33 (0, 0)) (by (with_reducible repeat (first | refine blk_drewN ?_ _ | refine blk_drew ?_ | refine blk_alloc ?_ _)); exact BK505.out) hb); have n8_ := Aside0.mk (below_step (by repeat (first | (with_reducible first | exact HB.out | apply below_alloc | apply pw_below_drewN | apply below_drew1 | refine below_set ?_ GE488.out | refine below_set ?_ GE505.out) | exact HB.out)) hb); have n9_ := Aside0.mk (hbox); have n10_ := Aside0.mk ((by rw [hg]; exact (below_size (by repeat (first | (with_reducible first | exact HB.out | apply below_alloc | apply pw_below_drewN | apply below_drew1 | refine below_set ?_ GE488.out | refine below_set ?_ GE505.out) | exact HB.out))) : w.heap.size ≤ gb516)); have n11_ := Aside0.mk ((by rw [hg]; exact (below_size (by repeat (first | (with_reducible first | exact HB.out | apply below_alloc | apply pw_below_drewN | apply below_drew1 | refine below_set ?_ GE488.out | refine below_set ?_ GE505.out) | exact HB.out))) : w.heap.size ≤ gb516)); have n12_ := Aside0.mk ((by rw [hg]; exact Nat.ne_of_lt (blk_lt (g := gb488) (o := .cells #[.int .i64 a0_0, .int .i64 a0_1] 52 (0, 0)) (by (with_reducible repeat (first | refine blk_drewN ?_ _ | refine blk_drew ?_ | refine blk_alloc ?_ _)); exact BK488.out)) : gb488 ≠ gb516)); have n13_ := Aside0.mk ((by rw [hg]; exact Nat.ne_of_gt (blk_lt (g := gb488) (o := .cells #[.int .i64 a0_0, .int .i64 a0_1] 52 (0, 0)) (by (with_reducible repeat (first | refine blk_drewN ?_ _ | refine blk_drew ?_ | refine blk_alloc ?_ _)); exact BK488.out)) : gb516 ≠ gb488)); have n14_ := Aside0.mk ((by rw [hg]; exact Nat.ne_of_lt (blk_lt (g := gb505) (o := .cells #[.int .i64 t495, .int .i64 t496, .int .u64 t497, .slice Ao19 t498.length co19, .slice Ao20 t501.length co20] 33 (0, 0)) (by (with_reducible repeat (first | refine blk_drewN ?_ _ | refine blk_drew ?_ | refine blk_alloc ?_ _)); exact BK505.out)) : gb505 ≠ gb516)); have n15_ := Aside0.mk ((by rw [hg]; exact Nat.ne_of_gt (blk_lt (g := gb505) (o := .cells #[.int .i64 t495, .int .i64 t496, .int .u64 t497, .slice Ao19 t498.length co19, .slice Ao20 t501.length co20] 33 (0, 0)) (by (with_reducible repeat (first | refine blk_drewN ?_ _ | refine blk_drew ?_ | refine blk_alloc ?_ _)); exact BK505.out)) : gb516 ≠ gb505)); clear HO491; clear HO494; clear HO500; clear HO503; clear HO511; clear HO514; clear BK488; clear BK505; clear HB; have HO491 := n0_; have HO494 := n1_; have HO500 := n2_; have HO503 := n3_; have HO511 := n4_; have HO514 := n5_; have BK488 := n6_; have BK505 := n7_; have HB := n8_; have BK516 := n9_; have GW516 := n10_; have GE516 := n11_; have NB488_516 := n12_; have NB516_488 := n13_; have NB505_516 := n14_; have NB516_505 := n15_; clear n0_ n1_ n2_ n3_ n4_ n5_ n6_ n7_ n8_ n9_ n10_ n11_ n12_ n13_ n14_ n15_; clear hb hbox hg; have hnb24 := NB516_488.out; have hnc24 := NB488_516.out; have hnb25 := NB516_505.out; have hnc25 := NB505_516.out; have hcz26_0 : w23.cell? ⟨gb516, 0, none⟩ = some (.int .i64 0) := (blk_cell BK516.out 0).trans rfl; have hcz26_1 : w23.cell? ⟨gb516, 1, none⟩ = some (.int .i64 0) := (blk_cell BK516.out 1).trans rfl; have hcz26_2 : w23.cell? ⟨gb516, 2, none⟩ = some (.int .u64 0) := (blk_cell BK516.out 2).trans rfl; have hcz26_3 : w23.cell? ⟨gb516, 3, none⟩ = some (.slice none 0 0) := (blk_cell BK516.out 3).trans rfl; have hcz26_4 : w23.cell? ⟨gb516, 4, none⟩ = some (.slice none 0 0) := (blk_cell BK516.out 4).trans rfl; have hfz26_0 := blk_frozen BK516.out 0; have hfz26_1 := blk_frozen BK516.out 1; have hfz26_2 := blk_frozen BK516.out 2; have hfz26_3 := blk_frozen BK516.out 3; have hfz26_4 := blk_frozen BK516.out 4; obtain ⟨Ao27, co27, eo27⟩ := Kd.R_slice HO511.out; subst eo27; obtain ⟨Ao28, co28, eo28⟩ := Kd.R_slice HO514.out; subst eo28))
  (try simp only [Act.put, List.setIfInBounds_toArray, List.set_cons_zero, List.set_cons_succ])
  go_cut [54] (fun v54 wc => ∃ (kq : Nat) (x54_7 : Bool), v54 = .bool x54_7 ∧ Aside0 (signetrylaw01_WireMakes.j0 kq a1 t489 x54_7 a0_0 a0_1 t495 t496 t497 t498 t501 t506 t507 t508 t509 t512 = some r) ∧ Aside0 (kq ≤ k) ∧ Aside0 (Kd.V (Kd.int .u8) 5 wc w.heap.size (fun k_ => some k_ ≠ ((.slice Ao19 t498.length co19) : Value).ownBlock ∧ some k_ ≠ ((.slice Ao20 t501.length co20) : Value).ownBlock ∧ some k_ ≠ ((.slice Ao27 t509.length co27) : Value).ownBlock ∧ some k_ ≠ ((.slice Ao28 t512.length co28) : Value).ownBlock ∧ k_ ≠ gb488 ∧ k_ ≠ gb505 ∧ k_ ≠ gb516) (.slice Ao11 t489.length co11) t489) ∧ Aside0 (Kd.R (Kd.int .u8) 5 wc w.heap.size (fun k_ => some k_ ≠ ((.slice Ao20 t501.length co20) : Value).ownBlock ∧ some k_ ≠ ((.slice Ao27 t509.length co27) : Value).ownBlock ∧ some k_ ≠ ((.slice Ao28 t512.length co28) : Value).ownBlock) (.slice Ao19 t498.length co19) t498) ∧ Aside0 (Kd.R (Kd.int .u8) 5 wc w.heap.size (fun k_ => some k_ ≠ ((.slice Ao19 t498.length co19) : Value).ownBlock ∧ some k_ ≠ ((.slice Ao27 t509.length co27) : Value).ownBlock ∧ some k_ ≠ ((.slice Ao28 t512.length co28) : Value).ownBlock) (.slice Ao20 t501.length co20) t501) ∧ Aside0 (Kd.R (Kd.int .u8) 5 wc w.heap.size (fun k_ => some k_ ≠ ((.slice Ao19 t498.length co19) : Value).ownBlock ∧ some k_ ≠ ((.slice Ao20 t501.length co20) : Value).ownBlock ∧ some k_ ≠ ((.slice Ao28 t512.length co28) : Value).ownBlock) (.slice Ao27 t509.length co27) t509) ∧ Aside0 (Kd.R (Kd.int .u8) 5 wc w.heap.size (fun k_ => some k_ ≠ ((.slice Ao19 t498.length co19) : Value).ownBlock ∧ some k_ ≠ ((.slice Ao20 t501.length co20) : Value).ownBlock ∧ some k_ ≠ ((.slice Ao27 t509.length co27) : Value).ownBlock) (.slice Ao28 t512.length co28) t512) ∧ Aside0 (wc.heap[gb488]? = some (.cells #[.int .i64 a0_0, .int .i64 a0_1] 52 (0, 0))) ∧ Aside0 (wc.heap[gb505]? = some (.cells #[.int .i64 t495, .int .i64 t496, .int .u64 t497, (.slice Ao19 t498.length co19), (.slice Ao20 t501.length co20)] 33 (0, 0))) ∧ Aside0 (wc.heap[gb516]? = some (.cells #[.int .i64 t506, .int .i64 t507, .int .u64 t508, (.slice Ao27 t509.length co27), (.slice Ao28 t512.length co28)] 33 (0, 0))) ∧ Aside0 (Below w.heap.size w wc))
  case first =>
    have H := HC8.out
    clear HC8
    replace H := Option.bind_eq_some_iff.mp H
    obtain ⟨t517, A290, H⟩ := H
    replace H : (if t517 = true then (if t504 = t515 then ((signetryref00_EqBytes.f t492 t489).bind fun t518 => (signetrylaw01_WireMakes.j0 k a1 t489 (!t518) a0_0 a0_1 t495 t496 t497 t498 t501 t506 t507 t508 t509 t512)) else (none)) else (none)) = some r := H
    have A29 := Aside0.mk A290
    clear A290
    by_cases c30 : t517 = true
    · subst c30
      have H1 : (if t504 = t515 then ((signetryref00_EqBytes.f t492 t489).bind fun t518 => (signetrylaw01_WireMakes.j0 k a1 t489 (!t518) a0_0 a0_1 t495 t496 t497 t498 t501 t506 t507 t508 t509 t512)) else (none)) = some r := by rw [if_pos rfl] at H; exact H
      clear H
      have H := H1
      clear H1
      by_cases c31 : t504 = t515
      · rw [if_pos c31] at H
        have c31b0 : (t504 == t515) = true := beq_iff_eq.mpr c31
        have c31b1 : (t504 != t515) = false := bne_eq_false_iff_eq.mpr c31
        clear c31
        (first | rw [c31b0] | (simp only [i64_w, i32_w]; rw [c31b0]) | skip)
        replace H := Option.bind_eq_some_iff.mp H
        obtain ⟨t518, A320, H⟩ := H
        replace H : (signetrylaw01_WireMakes.j0 k a1 t489 (!t518) a0_0 a0_1 t495 t496 t497 t498 t501 t506 t507 t508 t509 t512) = some r := H
        have A32 := Aside0.mk A320
        clear A320
        have H' := Aside0.mk H
        clear H
        have hnb33 := NB505_488.out
        have hnc33 := NB488_505.out
        have hnb34 := NB505_516.out
        have hnc34 := NB516_505.out
        have hcz35_0 : w23.cell? ⟨gb505, 0, none⟩ = some (.int .i64 t495) := (blk_cell BK505.out 0).trans rfl
        have hcz35_1 : w23.cell? ⟨gb505, 1, none⟩ = some (.int .i64 t496) := (blk_cell BK505.out 1).trans rfl
        have hcz35_2 : w23.cell? ⟨gb505, 2, none⟩ = some (.int .u64 t497) := (blk_cell BK505.out 2).trans rfl
        have hcz35_3 : w23.cell? ⟨gb505, 3, none⟩ = some (.slice Ao19 t498.length co19) := (blk_cell BK505.out 3).trans rfl
        have hcz35_4 : w23.cell? ⟨gb505, 4, none⟩ = some (.slice Ao20 t501.length co20) := (blk_cell BK505.out 4).trans rfl
        have hfz35_0 := blk_frozen BK505.out 0
        have hfz35_1 := blk_frozen BK505.out 1
        have hfz35_2 := blk_frozen BK505.out 2
        have hfz35_3 := blk_frozen BK505.out 3
        have hfz35_4 := blk_frozen BK505.out 4
        have hnb36 := NB516_488.out
        have hnc36 := NB488_516.out
        have hcz37_0 : w23.cell? ⟨gb516, 0, none⟩ = some (.int .i64 0) := (blk_cell BK516.out 0).trans rfl
        have hcz37_1 : w23.cell? ⟨gb516, 1, none⟩ = some (.int .i64 0) := (blk_cell BK516.out 1).trans rfl
        have hcz37_2 : w23.cell? ⟨gb516, 2, none⟩ = some (.int .u64 0) := (blk_cell BK516.out 2).trans rfl
        have hcz37_3 : w23.cell? ⟨gb516, 3, none⟩ = some (.slice none 0 0) := (blk_cell BK516.out 3).trans rfl
        have hcz37_4 : w23.cell? ⟨gb516, 4, none⟩ = some (.slice none 0 0) := (blk_cell BK516.out 4).trans rfl
        have hfz37_0 := blk_frozen BK516.out 0
        have hfz37_1 := blk_frozen BK516.out 1
        have hfz37_2 := blk_frozen BK516.out 2
        have hfz37_3 := blk_frozen BK516.out 3
        have hfz37_4 := blk_frozen BK516.out 4
        go_wp2_with (first | ((with_reducible refine gate_callee (f := 28) rfl ?_); refine goesL_ (some 42) rfl rfl Try.func28 (by kernel_rfl) rfl #[.agg #[.int .i64 t495, .int .i64 t496, .int .u64 t497, .slice Ao19 t498.length co19, .slice Ao20 t501.length co20], .agg #[.int .i64 t506, .int .i64 t507, .int .u64 t508, .slice Ao27 t509.length co27, .slice Ao28 t512.length co28]] rfl (by (try simp only [List.map_toArray, List.map_cons, List.map_nil]); first | done | rfl | (simp only [List.length_drop, List.length_take]; rfl)) ?_; (with_reducible refine (signetryref01_Same.calls t495 t496 t497 _ _ t498 _ _ t501 t506 t507 t508 _ _ t509 _ _ t512 true _ ?side1 ?side2 ?side3 ?side4 ?side5 ?side6 ?side7 ?side8 A29.out).mono ?_); (case side1 => refine (Kd.R_reads' (e := 5) (base := w.heap.size) (ok := fun k_ => (((some k_ ≠ (.slice Ao20 t501.length co20 : Value).ownBlock ∧ some k_ ≠ (.slice Ao14 t492.length co14 : Value).ownBlock) ∧ some k_ ≠ (.slice Ao27 t509.length co27 : Value).ownBlock) ∧ some k_ ≠ (.slice Ao28 t512.length co28 : Value).ownBlock)) (n := t498.length) (c := co19) ?_).2.2; exact (by (with_reducible repeat (first | apply Kd.R_alloc | apply Kd.R_drewN | apply Kd.R_drew)); exact (Kd.R_mono (Kd.R_far (p := ⟨gb516, 4, none⟩) (Kd.R_far (p := ⟨gb516, 3, none⟩) (Kd.R_far (p := ⟨gb516, 2, none⟩) (Kd.R_far (p := ⟨gb516, 1, none⟩) (Kd.R_far (p := ⟨gb516, 0, none⟩) (Kd.R_types HO500.out BK516.out (by decide)) (fun _ hk => hk.2) (.int .i64 t506)) (fun _ hk => hk.2) (.int .i64 t507)) (fun _ hk => hk.2) (.int .u64 t508)) (fun _ hk => hk.2) (.slice Ao27 t509.length co27)) (fun _ hk => hk.2) (.slice Ao28 t512.length co28)) (fun _ h_ => h_.1)))); (case side2 => exact (Kd.R_reads' HO500.out).2.1); (case side3 => refine (Kd.R_reads' (e := 5) (base := w.heap.size) (ok := fun k_ => (((some k_ ≠ (.slice Ao19 t498.length co19 : Value).ownBlock ∧ some k_ ≠ (.slice Ao14 t492.length co14 : Value).ownBlock) ∧ some k_ ≠ (.slice Ao27 t509.length co27 : Value).ownBlock) ∧ some k_ ≠ (.slice Ao28 t512.length co28 : Value).ownBlock)) (n := t501.length) (c := co20) ?_).2.2; exact (by (with_reducible repeat (first | apply Kd.R_alloc | apply Kd.R_drewN | apply Kd.R_drew)); exact (Kd.R_mono (Kd.R_far (p := ⟨gb516, 4, none⟩) (Kd.R_far (p := ⟨gb516, 3, none⟩) (Kd.R_far (p := ⟨gb516, 2, none⟩) (Kd.R_far (p := ⟨gb516, 1, none⟩) (Kd.R_far (p := ⟨gb516, 0, none⟩) (Kd.R_types HO503.out BK516.out (by decide)) (fun _ hk => hk.2) (.int .i64 t506)) (fun _ hk => hk.2) (.int .i64 t507)) (fun _ hk => hk.2) (.int .u64 t508)) (fun _ hk => hk.2) (.slice Ao27 t509.length co27)) (fun _ hk => hk.2) (.slice Ao28 t512.length co28)) (fun _ h_ => h_.1)))); (case side4 => exact (Kd.R_reads' HO503.out).2.1); (case side5 => refine (Kd.R_reads' (e := 5) (base := w.heap.size) (ok := fun k_ => (((some k_ ≠ (.slice Ao28 t512.length co28 : Value).ownBlock ∧ some k_ ≠ (.slice Ao14 t492.length co14 : Value).ownBlock) ∧ some k_ ≠ (.slice Ao19 t498.length co19 : Value).ownBlock) ∧ some k_ ≠ (.slice Ao20 t501.length co20 : Value).ownBlock)) (n := t509.length) (c := co27) ?_).2.2; exact (by (with_reducible repeat (first | apply Kd.R_alloc | apply Kd.R_drewN | apply Kd.R_drew)); exact (Kd.R_mono (Kd.R_far (p := ⟨gb516, 4, none⟩) (Kd.R_far (p := ⟨gb516, 3, none⟩) (Kd.R_far (p := ⟨gb516, 2, none⟩) (Kd.R_far (p := ⟨gb516, 1, none⟩) (Kd.R_far (p := ⟨gb516, 0, none⟩) (Kd.R_types HO511.out BK516.out (by decide)) (fun _ hk => hk.2) (.int .i64 t506)) (fun _ hk => hk.2) (.int .i64 t507)) (fun _ hk => hk.2) (.int .u64 t508)) (fun _ hk => hk.2) (.slice Ao27 t509.length co27)) (fun _ hk => hk.2) (.slice Ao28 t512.length co28)) (fun _ h_ => h_.1)))); (case side6 => exact (Kd.R_reads' HO511.out).2.1); (case side7 => refine (Kd.R_reads' (e := 5) (base := w.heap.size) (ok := fun k_ => (((some k_ ≠ (.slice Ao27 t509.length co27 : Value).ownBlock ∧ some k_ ≠ (.slice Ao14 t492.length co14 : Value).ownBlock) ∧ some k_ ≠ (.slice Ao19 t498.length co19 : Value).ownBlock) ∧ some k_ ≠ (.slice Ao20 t501.length co20 : Value).ownBlock)) (n := t512.length) (c := co28) ?_).2.2; exact (by (with_reducible repeat (first | apply Kd.R_alloc | apply Kd.R_drewN | apply Kd.R_drew)); exact (Kd.R_mono (Kd.R_far (p := ⟨gb516, 4, none⟩) (Kd.R_far (p := ⟨gb516, 3, none⟩) (Kd.R_far (p := ⟨gb516, 2, none⟩) (Kd.R_far (p := ⟨gb516, 1, none⟩) (Kd.R_far (p := ⟨gb516, 0, none⟩) (Kd.R_types HO514.out BK516.out (by decide)) (fun _ hk => hk.2) (.int .i64 t506)) (fun _ hk => hk.2) (.int .i64 t507)) (fun _ hk => hk.2) (.int .u64 t508)) (fun _ hk => hk.2) (.slice Ao27 t509.length co27)) (fun _ hk => hk.2) (.slice Ao28 t512.length co28)) (fun _ h_ => h_.1)))); (case side8 => exact (Kd.R_reads' HO514.out).2.1); rintro e w38 ⟨rfl, hb⟩; refine ⟨_, rfl, ?_⟩; have n0_ := Aside0.mk (Kd.V_below (by (with_reducible repeat (first | apply Kd.V_alloc | apply Kd.V_drewN | apply Kd.V_drew)); exact (Kd.V_mono (Kd.V_far (p := ⟨gb516, 4, none⟩) (Kd.V_far (p := ⟨gb516, 3, none⟩) (Kd.V_far (p := ⟨gb516, 2, none⟩) (Kd.V_far (p := ⟨gb516, 1, none⟩) (Kd.V_far (p := ⟨gb516, 0, none⟩) (Kd.V_mono HO491.out (fun k_ hk => (⟨hk, hk.2⟩ : _ ∧ k_ ≠ gb516))) (fun _ hk => hk.2) (.int .i64 t506)) (fun _ hk => hk.2) (.int .i64 t507)) (fun _ hk => hk.2) (.int .u64 t508)) (fun _ hk => hk.2) (.slice Ao27 t509.length co27)) (fun _ hk => hk.2) (.slice Ao28 t512.length co28)) (fun _ h_ => h_.1))) hb); have n1_ := Aside0.mk (Kd.R_below (by (with_reducible repeat (first | apply Kd.R_alloc | apply Kd.R_drewN | apply Kd.R_drew)); exact (Kd.R_mono (Kd.R_far (p := ⟨gb516, 4, none⟩) (Kd.R_far (p := ⟨gb516, 3, none⟩) (Kd.R_far (p := ⟨gb516, 2, none⟩) (Kd.R_far (p := ⟨gb516, 1, none⟩) (Kd.R_far (p := ⟨gb516, 0, none⟩) (Kd.R_types HO494.out BK516.out (by decide)) (fun _ hk => hk.2) (.int .i64 t506)) (fun _ hk => hk.2) (.int .i64 t507)) (fun _ hk => hk.2) (.int .u64 t508)) (fun _ hk => hk.2) (.slice Ao27 t509.length co27)) (fun _ hk => hk.2) (.slice Ao28 t512.length co28)) (fun _ h_ => h_.1))) hb); have n2_ := Aside0.mk (Kd.R_below (by (with_reducible repeat (first | apply Kd.R_alloc | apply Kd.R_drewN | apply Kd.R_drew)); exact (Kd.R_mono (Kd.R_far (p := ⟨gb516, 4, none⟩) (Kd.R_far (p := ⟨gb516, 3, none⟩) (Kd.R_far (p := ⟨gb516, 2, none⟩) (Kd.R_far (p := ⟨gb516, 1, none⟩) (Kd.R_far (p := ⟨gb516, 0, none⟩) (Kd.R_types HO500.out BK516.out (by decide)) (fun _ hk => hk.2) (.int .i64 t506)) (fun _ hk => hk.2) (.int .i64 t507)) (fun _ hk => hk.2) (.int .u64 t508)) (fun _ hk => hk.2) (.slice Ao27 t509.length co27)) (fun _ hk => hk.2) (.slice Ao28 t512.length co28)) (fun _ h_ => h_.1))) hb); have n3_ := Aside0.mk (Kd.R_below (by (with_reducible repeat (first | apply Kd.R_alloc | apply Kd.R_drewN | apply Kd.R_drew)); exact (Kd.R_mono (Kd.R_far (p := ⟨gb516, 4, none⟩) (Kd.R_far (p := ⟨gb516, 3, none⟩) (Kd.R_far (p := ⟨gb516, 2, none⟩) (Kd.R_far (p := ⟨gb516, 1, none⟩) (Kd.R_far (p := ⟨gb516, 0, none⟩) (Kd.R_types HO503.out BK516.out (by decide)) (fun _ hk => hk.2) (.int .i64 t506)) (fun _ hk => hk.2) (.int .i64 t507)) (fun _ hk => hk.2) (.int .u64 t508)) (fun _ hk => hk.2) (.slice Ao27 t509.length co27)) (fun _ hk => hk.2) (.slice Ao28 t512.length co28)) (fun _ h_ => h_.1))) hb); have n4_ := Aside0.mk (Kd.R_below (by (with_reducible repeat (first | apply Kd.R_alloc | apply Kd.R_drewN | apply Kd.R_drew)); exact (Kd.R_mono (Kd.R_far (p := ⟨gb516, 4, none⟩) (Kd.R_far (p := ⟨gb516, 3, none⟩) (Kd.R_far (p := ⟨gb516, 2, none⟩) (Kd.R_far (p := ⟨gb516, 1, none⟩) (Kd.R_far (p := ⟨gb516, 0, none⟩) (Kd.R_types HO511.out BK516.out (by decide)) (fun _ hk => hk.2) (.int .i64 t506)) (fun _ hk => hk.2) (.int .i64 t507)) (fun _ hk => hk.2) (.int .u64 t508)) (fun _ hk => hk.2) (.slice Ao27 t509.length co27)) (fun _ hk => hk.2) (.slice Ao28 t512.length co28)) (fun _ h_ => h_.1))) hb); have n5_ := Aside0.mk (Kd.R_below (by (with_reducible repeat (first | apply Kd.R_alloc | apply Kd.R_drewN | apply Kd.R_drew)); exact (Kd.R_mono (Kd.R_far (p := ⟨gb516, 4, none⟩) (Kd.R_far (p := ⟨gb516, 3, none⟩) (Kd.R_far (p := ⟨gb516, 2, none⟩) (Kd.R_far (p := ⟨gb516, 1, none⟩) (Kd.R_far (p := ⟨gb516, 0, none⟩) (Kd.R_types HO514.out BK516.out (by decide)) (fun _ hk => hk.2) (.int .i64 t506)) (fun _ hk => hk.2) (.int .i64 t507)) (fun _ hk => hk.2) (.int .u64 t508)) (fun _ hk => hk.2) (.slice Ao27 t509.length co27)) (fun _ hk => hk.2) (.slice Ao28 t512.length co28)) (fun _ h_ => h_.1))) hb); have n6_ := Aside0.mk (blk_below (g := gb488) (o := .cells #[.int .i64 a0_0, .int .i64 a0_1] 52 (0, 0)) (by (with_reducible repeat (first | refine blk_drewN ?_ _ | refine blk_drew ?_ | refine blk_alloc ?_ _)); refine blk_far ?_ NB488_516.out _; (with_reducible repeat (first | refine blk_drewN ?_ _ | refine blk_drew ?_ | refine blk_alloc ?_ _)); refine blk_far ?_ NB488_516.out _; (with_reducible repeat (first | refine blk_drewN ?_ _ | refine blk_drew ?_ | refine blk_alloc ?_ _)); refine blk_far ?_ NB488_516.out _; (with_reducible repeat (first | refine blk_drewN ?_ _ | refine blk_drew ?_ | refine blk_alloc ?_ _)); refine blk_far ?_ NB488_516.out _; (with_reducible repeat (first | refine blk_drewN ?_ _ | refine blk_drew ?_ | refine blk_alloc ?_ _)); refine blk_far ?_ NB488_516.out _; (with_reducible repeat (first | refine blk_drewN ?_ _ | refine blk_drew ?_ | refine blk_alloc ?_ _)); exact BK488.out) hb); have n7_ := Aside0.mk (blk_below (g := gb505) (o := .cells #[.int .i64 t495, .int .i64 t496, .int .u64 t497, .slice Ao19 t498.length co19, .slice Ao20 t501.length co20] 33 (0, 0)) (by (with_reducible repeat (first | refine blk_drewN ?_ _ | refine blk_drew ?_ | refine blk_alloc ?_ _)); refine blk_far ?_ NB505_516.out _; (with_reducible repeat (first | refine blk_drewN ?_ _ | refine blk_drew ?_ | refine blk_alloc ?_ _)); refine blk_far ?_ NB505_516.out _; (with_reducible repeat (first | refine blk_drewN ?_ _ | refine blk_drew ?_ | refine blk_alloc ?_ _)); refine blk_far ?_ NB505_516.out _; (with_reducible repeat (first | refine blk_drewN ?_ _ | refine blk_drew ?_ | refine blk_alloc ?_ _)); refine blk_far ?_ NB505_516.out _; (with_reducible repeat (first | refine blk_drewN ?_ _ | refine blk_drew ?_ | refine blk_alloc ?_ _)); refine blk_far ?_ NB505_516.out _; (with_reducible repeat (first | refine blk_drewN ?_ _ | refine blk_drew ?_ | refine blk_alloc ?_ _)); exact BK505.out) hb); have n8_ := Aside0.mk (blk_below (g := gb516) (o := .cells #[.int .i64 t506, .int .i64 t507, .int .u64 t508, .slice Ao27 t509.length co27, .slice Ao28 t512.length co28] 33 (0, 0)) (by (with_reducible repeat (first | refine blk_drewN ?_ _ | refine blk_drew ?_ | refine blk_alloc ?_ _)); refine blk_put (cs := #[.int .i64 t506, .int .i64 t507, .int .u64 t508, .slice Ao27 t509.length co27, .slice none 0 0]) ?_ 4 _ rfl; (with_reducible repeat (first | refine blk_drewN ?_ _ | refine blk_drew ?_ | refine blk_alloc ?_ _)); refine blk_put (cs := #[.int .i64 t506, .int .i64 t507, .int .u64 t508, .slice none 0 0, .slice none 0 0]) ?_ 3 _ rfl; (with_reducible repeat (first | refine blk_drewN ?_ _ | refine blk_drew ?_ | refine blk_alloc ?_ _)); refine blk_put (cs := #[.int .i64 t506, .int .i64 t507, .int .u64 0, .slice none 0 0, .slice none 0 0]) ?_ 2 _ rfl; (with_reducible repeat (first | refine blk_drewN ?_ _ | refine blk_drew ?_ | refine blk_alloc ?_ _)); refine blk_put (cs := #[.int .i64 t506, .int .i64 0, .int .u64 0, .slice none 0 0, .slice none 0 0]) ?_ 1 _ rfl; (with_reducible repeat (first | refine blk_drewN ?_ _ | refine blk_drew ?_ | refine blk_alloc ?_ _)); refine blk_put (cs := #[.int .i64 0, .int .i64 0, .int .u64 0, .slice none 0 0, .slice none 0 0]) ?_ 0 _ rfl; (with_reducible repeat (first | refine blk_drewN ?_ _ | refine blk_drew ?_ | refine blk_alloc ?_ _)); exact BK516.out) hb); have n9_ := Aside0.mk (below_step (by repeat (first | (with_reducible first | exact HB.out | apply below_alloc | apply pw_below_drewN | apply below_drew1 | refine below_set ?_ GE488.out | refine below_set ?_ GE505.out | refine below_set ?_ GE516.out) | exact HB.out)) hb); clear HO491; clear HO494; clear HO500; clear HO503; clear HO511; clear HO514; clear BK488; clear BK505; clear BK516; clear HB; have HO491 := n0_; have HO494 := n1_; have HO500 := n2_; have HO503 := n3_; have HO511 := n4_; have HO514 := n5_; have BK488 := n6_; have BK505 := n7_; have BK516 := n8_; have HB := n9_; clear n0_ n1_ n2_ n3_ n4_ n5_ n6_ n7_ n8_ n9_; (try clear hb); (try clear hb2); (try clear hk); (try clear hi)) | (go_at_call 14; (with_reducible refine (signetryref00_EqBytes.calls _ _ t492 _ _ t489 t518 _ ?side1 ?side2 ?side3 ?side4 A32.out).mono ?_); (case side1 => repeat (first | exact (Kd.R_reads' HO494.out).2.2 | (with_reducible refine Kd.C_alloc ?_ _) | (with_reducible refine Kd.C_drewN ?_ _) | (with_reducible refine Kd.C_drew ?_))); (case side2 => exact (Kd.R_reads' HO494.out).2.1); (case side3 => repeat (first | exact (Kd.V_reads' HO491.out).2.2 | (with_reducible refine Kd.C_alloc ?_ _) | (with_reducible refine Kd.C_drewN ?_ _) | (with_reducible refine Kd.C_drew ?_))); (case side4 => exact (Kd.V_reads' HO491.out).2.1); rintro e w' ⟨rfl, ⟨nd, rfl⟩⟩))
        go_meet
        case rel => exact ⟨_, (!t518), (by first | rfl | (simp; done) | (simp [*]; done)), H', ⟨by first | omega | exact Nat.le_refl _⟩, ⟨by (with_reducible repeat (first | apply Kd.V_alloc | apply Kd.V_drewN | apply Kd.V_drew)); exact Kd.V_mono HO491.out (fun _ hk => ⟨hk.1.1.1.1.1.2, ⟨hk.1.1.1.1.2, ⟨hk.1.1.2, ⟨hk.1.2, ⟨hk.1.1.1.1.1.1.1, ⟨hk.1.1.1.2, hk.2⟩⟩⟩⟩⟩⟩)⟩, ⟨by (with_reducible repeat (first | apply Kd.R_alloc | apply Kd.R_drewN | apply Kd.R_drew)); exact Kd.R_mono HO500.out (fun _ hk => ⟨hk.1.1.1, ⟨hk.1.2, hk.2⟩⟩)⟩, ⟨by (with_reducible repeat (first | apply Kd.R_alloc | apply Kd.R_drewN | apply Kd.R_drew)); exact Kd.R_mono HO503.out (fun _ hk => ⟨hk.1.1.1, ⟨hk.1.2, hk.2⟩⟩)⟩, ⟨by (with_reducible repeat (first | apply Kd.R_alloc | apply Kd.R_drewN | apply Kd.R_drew)); exact Kd.R_mono HO511.out (fun _ hk => ⟨hk.1.2, ⟨hk.2, hk.1.1.1⟩⟩)⟩, ⟨by (with_reducible repeat (first | apply Kd.R_alloc | apply Kd.R_drewN | apply Kd.R_drew)); exact Kd.R_mono HO514.out (fun _ hk => ⟨hk.1.2, ⟨hk.2, hk.1.1.1⟩⟩)⟩, ⟨by (with_reducible repeat (first | refine blk_drewN ?_ _ | refine blk_drew ?_ | refine blk_alloc ?_ _)); exact BK488.out⟩, ⟨by (with_reducible repeat (first | refine blk_drewN ?_ _ | refine blk_drew ?_ | refine blk_alloc ?_ _)); exact BK505.out⟩, ⟨by (with_reducible repeat (first | refine blk_drewN ?_ _ | refine blk_drew ?_ | refine blk_alloc ?_ _)); exact BK516.out⟩, ⟨by repeat (first | (with_reducible first | exact HB.out | apply below_alloc | apply pw_below_drewN | apply below_drew1 | refine below_set ?_ GE488.out | refine below_set ?_ GE505.out | refine below_set ?_ GE516.out) | exact HB.out)⟩⟩
      · rw [if_neg c31] at H
        exact absurd H (by simp)
    · replace c30 := Bool.eq_false_iff.mpr c30
      subst c30
      have H1 : (none) = some r := by rw [if_neg (show ¬ (false = true) by decide)] at H; exact H
      clear H
      have H := H1
      clear H1
      exact absurd H (by simp)
  case rest =>
    clear HC8
    try clear c1
    try clear c2
    try clear p2
    try clear c3
    try clear c7
    try clear c12
    try clear c17
    try clear c23
    try clear c24
    try clear c25
    try clear c28
    try clear c30
    try clear c31
    try clear c31b0
    try clear c31b1
    try clear c32
    try clear c33
    try clear c34
    try clear c36
    try clear hcz13_0
    try clear hcz13_1
    try clear hcz18_0
    try clear hcz18_1
    try clear hcz18_2
    try clear hcz18_3
    try clear hcz18_4
    try clear hcz21_0
    try clear hcz21_1
    try clear hcz26_0
    try clear hcz26_1
    try clear hcz26_2
    try clear hcz26_3
    try clear hcz26_4
    try clear hcz35_0
    try clear hcz35_1
    try clear hcz35_2
    try clear hcz35_3
    try clear hcz35_4
    try clear hcz37_0
    try clear hcz37_1
    try clear hcz37_2
    try clear hcz37_3
    try clear hcz37_4
    try clear hfz13_0
    try clear hfz13_1
    try clear hfz18_0
    try clear hfz18_1
    try clear hfz18_2
    try clear hfz18_3
    try clear hfz18_4
    try clear hfz21_0
    try clear hfz21_1
    try clear hfz26_0
    try clear hfz26_1
    try clear hfz26_2
    try clear hfz26_3
    try clear hfz26_4
    try clear hfz35_0
    try clear hfz35_1
    try clear hfz35_2
    try clear hfz35_3
    try clear hfz35_4
    try clear hfz37_0
    try clear hfz37_1
    try clear hfz37_2
    try clear hfz37_3
    try clear hfz37_4
    obtain ⟨kq, x54_7, rfl, HA, HJ7, HO_2, HO_506003, HO_506004, HO_517003, HO_517004, BK488, BK505, BK516, HB⟩ := hcut
    cases kq with
    | zero => exact absurd HA.out (by simp [signetrylaw01_WireMakes.j0])
    | succ kj7 =>
      have H := HA.out
      clear HA
      simp only [signetrylaw01_WireMakes.j0] at H
      by_cases c39 : x54_7 = true
      · subst c39
        have H1 : (none) = some r := by rw [if_pos rfl] at H; exact H
        clear H
        have H := H1
        clear H1
        exact absurd H (by simp)
      · replace c39 := Bool.eq_false_iff.mpr c39
        subst c39
        have H1 : ((wire_Copy.f t495 t496 t497 t498 t501).bind fun bt519 => ((wire_Same.f kj7 t495 t496 t497 t498 t501 a0_0 a0_1 a1 t489 t489).bind fun t530 => ((signetryref01_Same.f t506 t507 t508 t509 t512 a0_0 a0_1 a1 t489 t489).bind fun t531 => (if (t530 != t531) = true then (none) else ((wire_Same.f kj7 a0_0 a0_1 a1 t489 t489 a0_0 a0_1 a1 t489 t489).bind fun t532 => (if (t532 != true) = true then (none) else ((wire_Check.f kj7 a0_0 a0_1 a1 t489 t489).bind fun t533 => ((signetryref01_Check.f kj7 a0_0 a0_1 a1 t489 t489).bind fun t534 => (if t533 = t534 then ((wire_Check.f kj7 bt519.1 bt519.2.1 bt519.2.2.1 bt519.2.2.2.1 bt519.2.2.2.2).bind fun t535 => ((signetryref01_Check.f kj7 t506 t507 t508 t509 t512).bind fun t536 => (if t535 = t536 then ((wire_Same.f kj7 bt519.1 bt519.2.1 bt519.2.2.1 bt519.2.2.2.1 bt519.2.2.2.2 t495 t496 t497 t498 t501).bind fun t537 => (signetrylaw01_WireMakes.j1 kj7 (!t537) t495 t496 t497 t498 t501 t506 t507 t508 t509 t512 bt519.1 bt519.2.1 bt519.2.2.1 bt519.2.2.2.1 bt519.2.2.2.2)) else (none)))) else (none)))))))))) = some r := by rw [if_neg (show ¬ (false = true) by decide)] at H; exact H
        clear H
        have H := H1
        clear H1
        replace H := Option.bind_eq_some_iff.mp H
        obtain ⟨⟨t519, t520, t521, t522, t525⟩, A400, H⟩ := H
        replace H : ((wire_Same.f kj7 t495 t496 t497 t498 t501 a0_0 a0_1 a1 t489 t489).bind fun t530 => ((signetryref01_Same.f t506 t507 t508 t509 t512 a0_0 a0_1 a1 t489 t489).bind fun t531 => (if (t530 != t531) = true then (none) else ((wire_Same.f kj7 a0_0 a0_1 a1 t489 t489 a0_0 a0_1 a1 t489 t489).bind fun t532 => (if (t532 != true) = true then (none) else ((wire_Check.f kj7 a0_0 a0_1 a1 t489 t489).bind fun t533 => ((signetryref01_Check.f kj7 a0_0 a0_1 a1 t489 t489).bind fun t534 => (if t533 = t534 then ((wire_Check.f kj7 t519 t520 t521 t522 t525).bind fun t535 => ((signetryref01_Check.f kj7 t506 t507 t508 t509 t512).bind fun t536 => (if t535 = t536 then ((wire_Same.f kj7 t519 t520 t521 t522 t525 t495 t496 t497 t498 t501).bind fun t537 => (signetrylaw01_WireMakes.j1 kj7 (!t537) t495 t496 t497 t498 t501 t506 t507 t508 t509 t512 t519 t520 t521 t522 t525)) else (none)))) else (none))))))))) = some r := H
        have A40 := Aside0.mk A400
        clear A400
        have HC41 := Aside0.mk H
        clear H
        have hnb42 := NB505_488.out
        have hnc42 := NB488_505.out
        have hnb43 := NB505_516.out
        have hnc43 := NB516_505.out
        have hcz44_0 : wc.cell? ⟨gb505, 0, none⟩ = some (.int .i64 t495) := (blk_cell BK505.out 0).trans rfl
        have hcz44_1 : wc.cell? ⟨gb505, 1, none⟩ = some (.int .i64 t496) := (blk_cell BK505.out 1).trans rfl
        have hcz44_2 : wc.cell? ⟨gb505, 2, none⟩ = some (.int .u64 t497) := (blk_cell BK505.out 2).trans rfl
        have hcz44_3 : wc.cell? ⟨gb505, 3, none⟩ = some (.slice Ao19 t498.length co19) := (blk_cell BK505.out 3).trans rfl
        have hcz44_4 : wc.cell? ⟨gb505, 4, none⟩ = some (.slice Ao20 t501.length co20) := (blk_cell BK505.out 4).trans rfl
        have hfz44_0 := blk_frozen BK505.out 0
        have hfz44_1 := blk_frozen BK505.out 1
        have hfz44_2 := blk_frozen BK505.out 2
        have hfz44_3 := blk_frozen BK505.out 3
        have hfz44_4 := blk_frozen BK505.out 4
        go_upto_region 9 with (first | ((with_reducible refine gate_callee (f := 34) rfl ?_); refine goesL_ (some 56) rfl rfl Try.func34 (by kernel_rfl) rfl #[.agg #[.int .i64 t495, .int .i64 t496, .int .u64 t497, .slice Ao19 t498.length co19, .slice Ao20 t501.length co20]] rfl (by (try simp only [List.map_toArray, List.map_cons, List.map_nil]); first | done | rfl | (simp only [List.length_drop, List.length_take]; rfl)) ?_; (with_reducible refine (wire_Copy.calls t495 t496 t497 _ _ t498 _ _ t501 t519 t520 t521 t522 t525 _ ?side1 ?side2 ?side3 ?side4 A40.out).mono ?_); (case side1 => repeat (first | exact (Kd.R_reads' HO_506003.out).2.2 | (with_reducible refine Kd.C_alloc ?_ _) | (with_reducible refine Kd.C_drewN ?_ _) | (with_reducible refine Kd.C_drew ?_))); (case side2 => exact (Kd.R_reads' HO_506003.out).2.1); (case side3 => repeat (first | exact (Kd.R_reads' HO_506004.out).2.2 | (with_reducible refine Kd.C_alloc ?_ _) | (with_reducible refine Kd.C_drewN ?_ _) | (with_reducible refine Kd.C_drew ?_))); (case side4 => exact (Kd.R_reads' HO_506004.out).2.1); rintro e w45 ⟨v523, v526, rfl, ho0, ho1, hb⟩; refine ⟨_, rfl, ?_⟩; have n0_ := Aside0.mk (Kd.V_mono (Kd.V_told (Kd.V_told (Kd.V_old (by (with_reducible repeat (first | apply Kd.V_alloc | apply Kd.V_drewN | apply Kd.V_drew)); exact HO_2.out) hb) (Kd.R_base ho0)) (Kd.R_base ho1)) (fun _ h_ => h_.1)); have n1_ := Aside0.mk (Kd.R_mono (Kd.R_told (Kd.R_told (Kd.R_old (by (with_reducible repeat (first | apply Kd.R_alloc | apply Kd.R_drewN | apply Kd.R_drew)); exact HO_506003.out) hb) (Kd.R_base ho0)) (Kd.R_base ho1)) (fun _ h_ => h_.1)); have n2_ := Aside0.mk (Kd.R_mono (Kd.R_told (Kd.R_told (Kd.R_old (by (with_reducible repeat (first | apply Kd.R_alloc | apply Kd.R_drewN | apply Kd.R_drew)); exact HO_506004.out) hb) (Kd.R_base ho0)) (Kd.R_base ho1)) (fun _ h_ => h_.1)); have n3_ := Aside0.mk (Kd.R_mono (Kd.R_told (Kd.R_told (Kd.R_old (by (with_reducible repeat (first | apply Kd.R_alloc | apply Kd.R_drewN | apply Kd.R_drew)); exact HO_517003.out) hb) (Kd.R_base ho0)) (Kd.R_base ho1)) (fun _ h_ => h_.1)); have n4_ := Aside0.mk (Kd.R_mono (Kd.R_told (Kd.R_told (Kd.R_old (by (with_reducible repeat (first | apply Kd.R_alloc | apply Kd.R_drewN | apply Kd.R_drew)); exact HO_517004.out) hb) (Kd.R_base ho0)) (Kd.R_base ho1)) (fun _ h_ => h_.1)); have n5_ := Aside0.mk (Kd.R_lower (Kd.R_new' (Kd.R_new' (Kd.R_new' (Kd.R_new' ho0 (Kd.R_lt (by (with_reducible repeat (first | apply Kd.R_alloc | apply Kd.R_drewN | apply Kd.R_drew)); exact HO_506003.out))) (Kd.R_lt (by (with_reducible repeat (first | apply Kd.R_alloc | apply Kd.R_drewN | apply Kd.R_drew)); exact HO_506004.out))) (Kd.R_lt (by (with_reducible repeat (first | apply Kd.R_alloc | apply Kd.R_drewN | apply Kd.R_drew)); exact HO_517003.out))) (Kd.R_lt (by (with_reducible repeat (first | apply Kd.R_alloc | apply Kd.R_drewN | apply Kd.R_drew)); exact HO_517004.out))) (below_size (by repeat (first | (with_reducible first | exact HB.out | apply below_alloc | apply pw_below_drewN | apply below_drew1 | refine below_set ?_ GE488.out | refine below_set ?_ GE505.out | refine below_set ?_ GE516.out) | exact HB.out)))); have n6_ := Aside0.mk (Kd.R_lower (Kd.R_new' (Kd.R_new' (Kd.R_new' (Kd.R_new' ho1 (Kd.R_lt (by (with_reducible repeat (first | apply Kd.R_alloc | apply Kd.R_drewN | apply Kd.R_drew)); exact HO_506003.out))) (Kd.R_lt (by (with_reducible repeat (first | apply Kd.R_alloc | apply Kd.R_drewN | apply Kd.R_drew)); exact HO_506004.out))) (Kd.R_lt (by (with_reducible repeat (first | apply Kd.R_alloc | apply Kd.R_drewN | apply Kd.R_drew)); exact HO_517003.out))) (Kd.R_lt (by (with_reducible repeat (first | apply Kd.R_alloc | apply Kd.R_drewN | apply Kd.R_drew)); exact HO_517004.out))) (below_size (by repeat (first | (with_reducible first | exact HB.out | apply below_alloc | apply pw_below_drewN | apply below_drew1 | refine below_set ?_ GE488.out | refine below_set ?_ GE505.out | refine below_set ?_ GE516.out) | exact HB.out)))); have n7_ := Aside0.mk (blk_below (g := gb488) (o := .cells #[.int .i64 a0_0, .int .i64 a0_1] 52 (0, 0)) (by (with_reducible repeat (first | refine blk_drewN ?_ _ | refine blk_drew ?_ | refine blk_alloc ?_ _)); exact BK488.out) hb); have n8_ := Aside0.mk (blk_below (g := gb505) (o := .cells #[.int .i64 t495, .int .i64 t496, .int .u64 t497, .slice Ao19 t498.length co19, .slice Ao20 t501.length co20] 33 (0, 0)) (by (with_reducible repeat (first | refine blk_drewN ?_ _ | refine blk_drew ?_ | refine blk_alloc ?_ _)); exact BK505.out) hb); have n9_ := Aside0.mk (blk_below (g := gb516) (o := .cells #[.int .i64 t506, .int .i64 t507, .int .u64 t508, .slice Ao27 t509.length co27, .slice Ao28 t512.length co28] 33 (0, 0)) (by (with_reducible repeat (first | refine blk_drewN ?_ _ | refine blk_drew ?_ | refine blk_alloc ?_ _)); exact BK516.out) hb); have n10_ := Aside0.mk (below_step (by repeat (first | (with_reducible first | exact HB.out | apply below_alloc | apply pw_below_drewN | apply below_drew1 | refine below_set ?_ GE488.out | refine below_set ?_ GE505.out | refine below_set ?_ GE516.out) | exact HB.out)) hb); clear HO_2; clear HO_506003; clear HO_506004; clear HO_517003; clear HO_517004; clear BK488; clear BK505; clear BK516; clear HB; have HO_2 := n0_; have HO_506003 := n1_; have HO_506004 := n2_; have HO_517003 := n3_; have HO_517004 := n4_; have HO524 := n5_; have HO527 := n6_; have BK488 := n7_; have BK505 := n8_; have BK516 := n9_; have HB := n10_; clear n0_ n1_ n2_ n3_ n4_ n5_ n6_ n7_ n8_ n9_ n10_; (try clear hb); (try clear hb2); (try clear hk); (try clear hi); (try clear ho0); (try clear ho1)) | ((with_reducible refine gate_dst (N := 12) rfl ?_); refine box_event ?hg (N := 12) ?hd (cs := #[.int .i64 0, .int .i64 0, .int .u64 0, .slice none 0 0, .slice none 0 0]) (t := 33) ?hr ?_; (case hd => rfl); (case hg => rfl); (case hr => first | (go_simp; done) | (go_simp; rfl)); intro gb528 hg w46 hbox hb; have n0_ := Aside0.mk (Kd.V_below (Kd.V_elderB (by (with_reducible repeat (first | apply Kd.V_alloc | apply Kd.V_drewN | apply Kd.V_drew)); exact HO_2.out) gb528 (Nat.le_of_eq hg.symm)) hb); have n1_ := Aside0.mk (Kd.R_below (by (with_reducible repeat (first | apply Kd.R_alloc | apply Kd.R_drewN | apply Kd.R_drew)); exact HO_506003.out) hb); have n2_ := Aside0.mk (Kd.R_below (by (with_reducible repeat (first | apply Kd.R_alloc | apply Kd.R_drewN | apply Kd.R_drew)); exact HO_506004.out) hb); have n3_ := Aside0.mk (Kd.R_below (by (with_reducible repeat (first | apply Kd.R_alloc | apply Kd.R_drewN | apply Kd.R_drew)); exact HO_517003.out) hb); have n4_ := Aside0.mk (Kd.R_below (by (with_reducible repeat (first | apply Kd.R_alloc | apply Kd.R_drewN | apply Kd.R_drew)); exact HO_517004.out) hb); have n5_ := Aside0.mk (Kd.R_below (by (with_reducible repeat (first | apply Kd.R_alloc | apply Kd.R_drewN | apply Kd.R_drew)); exact HO524.out) hb); have n6_ := Aside0.mk (Kd.R_below (by (with_reducible repeat (first | apply Kd.R_alloc | apply Kd.R_drewN | apply Kd.R_drew)); exact HO527.out) hb); have n7_ := Aside0.mk (blk_below (g := gb488) (o := .cells #[.int .i64 a0_0, .int .i64 a0_1] 52 (0, 0)) (by (with_reducible repeat (first | refine blk_drewN ?_ _ | refine blk_drew ?_ | refine blk_alloc ?_ _)); exact BK488.out) hb); have n8_ := Aside0.mk (blk_below (g := gb505) (o := .cells #[.int .i64 t495, .int .i64 t496, .int .u64 t497, .slice Ao19 t498.length co19, .slice Ao20 t501.length co20] 33 (0, 0)) (by (with_reducible repeat (first | refine blk_drewN ?_ _ | refine blk_drew ?_ | refine blk_alloc ?_ _)); exact BK505.out) hb); have n9_ := Aside0.mk (blk_below (g := gb516) (o := .cells #[.int .i64 t506, .int .i64 t507, .int .u64 t508, .slice Ao27 t509.length co27, .slice Ao28 t512.length co28] 33 (0, 0)) (by (with_reducible repeat (first | refine blk_drewN ?_ _ | refine blk_drew ?_ | refine blk_alloc ?_ _)); exact BK516.out) hb); have n10_ := Aside0.mk (below_step (by repeat (first | (with_reducible first | exact HB.out | apply below_alloc | apply pw_below_drewN | apply below_drew1 | refine below_set ?_ GE488.out | refine below_set ?_ GE505.out | refine below_set ?_ GE516.out) | exact HB.out)) hb); have n11_ := Aside0.mk (hbox); have n12_ := Aside0.mk ((by rw [hg]; exact (below_size (by repeat (first | (with_reducible first | exact HB.out | apply below_alloc | apply pw_below_drewN | apply below_drew1 | refine below_set ?_ GE488.out | refine below_set ?_ GE505.out | refine below_set ?_ GE516.out) | exact HB.out))) : w.heap.size ≤ gb528)); have n13_ := Aside0.mk ((by rw [hg]; exact (below_size (by repeat (first | (with_reducible first | exact HB.out | apply below_alloc | apply pw_below_drewN | apply below_drew1 | refine below_set ?_ GE488.out | refine below_set ?_ GE505.out | refine below_set ?_ GE516.out) | exact HB.out))) : w.heap.size ≤ gb528)); have n14_ := Aside0.mk ((by rw [hg]; exact Nat.ne_of_lt (blk_lt (g := gb488) (o := .cells #[.int .i64 a0_0, .int .i64 a0_1] 52 (0, 0)) (by (with_reducible repeat (first | refine blk_drewN ?_ _ | refine blk_drew ?_ | refine blk_alloc ?_ _)); exact BK488.out)) : gb488 ≠ gb528)); have n15_ := Aside0.mk ((by rw [hg]; exact Nat.ne_of_gt (blk_lt (g := gb488) (o := .cells #[.int .i64 a0_0, .int .i64 a0_1] 52 (0, 0)) (by (with_reducible repeat (first | refine blk_drewN ?_ _ | refine blk_drew ?_ | refine blk_alloc ?_ _)); exact BK488.out)) : gb528 ≠ gb488)); have n16_ := Aside0.mk ((by rw [hg]; exact Nat.ne_of_lt (blk_lt (g := gb505) (o := .cells #[.int .i64 t495, .int .i64 t496, .int .u64 t497, .slice Ao19 t498.length co19, .slice Ao20 t501.length co20] 33 (0, 0)) (by (with_reducible repeat (first | refine blk_drewN ?_ _ | refine blk_drew ?_ | refine blk_alloc ?_ _)); exact BK505.out)) : gb505 ≠ gb528)); have n17_ := Aside0.mk ((by rw [hg]; exact Nat.ne_of_gt (blk_lt (g := gb505) (o := .cells #[.int .i64 t495, .int .i64 t496, .int .u64 t497, .slice Ao19 t498.length co19, .slice Ao20 t501.length co20] 33 (0, 0)) (by (with_reducible repeat (first | refine blk_drewN ?_ _ | refine blk_drew ?_ | refine blk_alloc ?_ _)); exact BK505.out)) : gb528 ≠ gb505)); have n18_ := Aside0.mk ((by rw [hg]; exact Nat.ne_of_lt (blk_lt (g := gb516) (o := .cells #[.int .i64 t506, .int .i64 t507, .int .u64 t508, .slice Ao27 t509.length co27, .slice Ao28 t512.length co28] 33 (0, 0)) (by (with_reducible repeat (first | refine blk_drewN ?_ _ | refine blk_drew ?_ | refine blk_alloc ?_ _)); exact BK516.out)) : gb516 ≠ gb528)); have n19_ := Aside0.mk ((by rw [hg]; exact Nat.ne_of_gt (blk_lt (g := gb516) (o := .cells #[.int .i64 t506, .int .i64 t507, .int .u64 t508, .slice Ao27 t509.length co27, .slice Ao28 t512.length co28] 33 (0, 0)) (by (with_reducible repeat (first | refine blk_drewN ?_ _ | refine blk_drew ?_ | refine blk_alloc ?_ _)); exact BK516.out)) : gb528 ≠ gb516)); clear HO_2; clear HO_506003; clear HO_506004; clear HO_517003; clear HO_517004; clear HO524; clear HO527; clear BK488; clear BK505; clear BK516; clear HB; have HO_2 := n0_; have HO_506003 := n1_; have HO_506004 := n2_; have HO_517003 := n3_; have HO_517004 := n4_; have HO524 := n5_; have HO527 := n6_; have BK488 := n7_; have BK505 := n8_; have BK516 := n9_; have HB := n10_; have BK528 := n11_; have GW528 := n12_; have GE528 := n13_; have NB488_528 := n14_; have NB528_488 := n15_; have NB505_528 := n16_; have NB528_505 := n17_; have NB516_528 := n18_; have NB528_516 := n19_; clear n0_ n1_ n2_ n3_ n4_ n5_ n6_ n7_ n8_ n9_ n10_ n11_ n12_ n13_ n14_ n15_ n16_ n17_ n18_ n19_; clear hb hbox hg; have hnb47 := NB528_488.out; have hnc47 := NB488_528.out; have hnb48 := NB528_505.out; have hnc48 := NB505_528.out; have hnb49 := NB528_516.out; have hnc49 := NB516_528.out; have hcz50_0 : w46.cell? ⟨gb528, 0, none⟩ = some (.int .i64 0) := (blk_cell BK528.out 0).trans rfl; have hcz50_1 : w46.cell? ⟨gb528, 1, none⟩ = some (.int .i64 0) := (blk_cell BK528.out 1).trans rfl; have hcz50_2 : w46.cell? ⟨gb528, 2, none⟩ = some (.int .u64 0) := (blk_cell BK528.out 2).trans rfl; have hcz50_3 : w46.cell? ⟨gb528, 3, none⟩ = some (.slice none 0 0) := (blk_cell BK528.out 3).trans rfl; have hcz50_4 : w46.cell? ⟨gb528, 4, none⟩ = some (.slice none 0 0) := (blk_cell BK528.out 4).trans rfl; have hfz50_0 := blk_frozen BK528.out 0; have hfz50_1 := blk_frozen BK528.out 1; have hfz50_2 := blk_frozen BK528.out 2; have hfz50_3 := blk_frozen BK528.out 3; have hfz50_4 := blk_frozen BK528.out 4; obtain ⟨Ao51, co51, eo51⟩ := Kd.R_slice HO524.out; subst eo51; obtain ⟨Ao52, co52, eo52⟩ := Kd.R_slice HO527.out; subst eo52; have hnb53 := NB488_516.out; have hnc53 := NB516_488.out; have hcz54_0 : w46.cell? ⟨gb488, 0, none⟩ = some (.int .i64 a0_0) := (blk_cell BK488.out 0).trans rfl; have hcz54_1 : w46.cell? ⟨gb488, 1, none⟩ = some (.int .i64 a0_1) := (blk_cell BK488.out 1).trans rfl; have hfz54_0 := blk_frozen BK488.out 0; have hfz54_1 := blk_frozen BK488.out 1) | ((with_reducible refine gate_dst (N := 13) rfl ?_); refine box_event ?hg (N := 13) ?hd (cs := #[.int .i64 0, .int .i64 0, .int .u64 0, .slice none 0 0, .slice none 0 0]) (t := 33) ?hr ?_; (case hd => rfl); (case hg => rfl); (case hr => first | (go_simp; done) | (go_simp; rfl)); intro gb529 hg w55 hbox hb; have n0_ := Aside0.mk (Kd.V_below (Kd.V_elderB (by (with_reducible repeat (first | apply Kd.V_alloc | apply Kd.V_drewN | apply Kd.V_drew)); exact (Kd.V_mono (Kd.V_far (p := ⟨gb528, 4, none⟩) (Kd.V_far (p := ⟨gb528, 3, none⟩) (Kd.V_far (p := ⟨gb528, 2, none⟩) (Kd.V_far (p := ⟨gb528, 1, none⟩) (Kd.V_far (p := ⟨gb528, 0, none⟩) (Kd.V_mono HO_2.out (fun k_ hk => (⟨hk, hk.2⟩ : _ ∧ k_ ≠ gb528))) (fun _ hk => hk.2) (.int .i64 t519)) (fun _ hk => hk.2) (.int .i64 t520)) (fun _ hk => hk.2) (.int .u64 t521)) (fun _ hk => hk.2) (.slice Ao51 t522.length co51)) (fun _ hk => hk.2) (.slice Ao52 t525.length co52)) (fun _ h_ => h_.1))) gb529 (Nat.le_of_eq hg.symm)) hb); have n1_ := Aside0.mk (Kd.R_below (by (with_reducible repeat (first | apply Kd.R_alloc | apply Kd.R_drewN | apply Kd.R_drew)); exact (Kd.R_mono (Kd.R_far (p := ⟨gb528, 4, none⟩) (Kd.R_far (p := ⟨gb528, 3, none⟩) (Kd.R_far (p := ⟨gb528, 2, none⟩) (Kd.R_far (p := ⟨gb528, 1, none⟩) (Kd.R_far (p := ⟨gb528, 0, none⟩) (Kd.R_types HO_506003.out BK528.out (by decide)) (fun _ hk => hk.2) (.int .i64 t519)) (fun _ hk => hk.2) (.int .i64 t520)) (fun _ hk => hk.2) (.int .u64 t521)) (fun _ hk => hk.2) (.slice Ao51 t522.length co51)) (fun _ hk => hk.2) (.slice Ao52 t525.length co52)) (fun _ h_ => h_.1))) hb); have n2_ := Aside0.mk (Kd.R_below (by (with_reducible repeat (first | apply Kd.R_alloc | apply Kd.R_drewN | apply Kd.R_drew)); exact (Kd.R_mono (Kd.R_far (p := ⟨gb528, 4, none⟩) (Kd.R_far (p := ⟨gb528, 3, none⟩) (Kd.R_far (p := ⟨gb528, 2, none⟩) (Kd.R_far (p := ⟨gb528, 1, none⟩) (Kd.R_far (p := ⟨gb528, 0, none⟩) (Kd.R_types HO_506004.out BK528.out (by decide)) (fun _ hk => hk.2) (.int .i64 t519)) (fun _ hk => hk.2) (.int .i64 t520)) (fun _ hk => hk.2) (.int .u64 t521)) (fun _ hk => hk.2) (.slice Ao51 t522.length co51)) (fun _ hk => hk.2) (.slice Ao52 t525.length co52)) (fun _ h_ => h_.1))) hb); have n3_ := Aside0.mk (Kd.R_below (by (with_reducible repeat (first | apply Kd.R_alloc | apply Kd.R_drewN | apply Kd.R_drew)); exact (Kd.R_mono (Kd.R_far (p := ⟨gb528, 4, none⟩) (Kd.R_far (p := ⟨gb528, 3, none⟩) (Kd.R_far (p := ⟨gb528, 2, none⟩) (Kd.R_far (p := ⟨gb528, 1, none⟩) (Kd.R_far (p := ⟨gb528, 0, none⟩) (Kd.R_types HO_517003.out BK528.out (by decide)) (fun _ hk => hk.2) (.int .i64 t519)) (fun _ hk => hk.2) (.int .i64 t520)) (fun _ hk => hk.2) (.int .u64 t521)) (fun _ hk => hk.2) (.slice Ao51 t522.length co51)) (fun _ hk => hk.2) (.slice Ao52 t525.length co52)) (fun _ h_ => h_.1))) hb); have n4_ := Aside0.mk (Kd.R_below (by (with_reducible repeat (first | apply Kd.R_alloc | apply Kd.R_drewN | apply Kd.R_drew)); exact (Kd.R_mono (Kd.R_far (p := ⟨gb528, 4, none⟩) (Kd.R_far (p := ⟨gb528, 3, none⟩) (Kd.R_far (p := ⟨gb528, 2, none⟩) (Kd.R_far (p := ⟨gb528, 1, none⟩) (Kd.R_far (p := ⟨gb528, 0, none⟩) (Kd.R_types HO_517004.out BK528.out (by decide)) (fun _ hk => hk.2) (.int .i64 t519)) (fun _ hk => hk.2) (.int .i64 t520)) (fun _ hk => hk.2) (.int .u64 t521)) (fun _ hk => hk.2) (.slice Ao51 t522.length co51)) (fun _ hk => hk.2) (.slice Ao52 t525.length co52)) (fun _ h_ => h_.1))) hb); have n5_ := Aside0.mk (Kd.R_below (by (with_reducible repeat (first | apply Kd.R_alloc | apply Kd.R_drewN | apply Kd.R_drew)); exact (Kd.R_mono (Kd.R_far (p := ⟨gb528, 4, none⟩) (Kd.R_far (p := ⟨gb528, 3, none⟩) (Kd.R_far (p := ⟨gb528, 2, none⟩) (Kd.R_far (p := ⟨gb528, 1, none⟩) (Kd.R_far (p := ⟨gb528, 0, none⟩) (Kd.R_types HO524.out BK528.out (by decide)) (fun _ hk => hk.2) (.int .i64 t519)) (fun _ hk => hk.2) (.int .i64 t520)) (fun _ hk => hk.2) (.int .u64 t521)) (fun _ hk => hk.2) (.slice Ao51 t522.length co51)) (fun _ hk => hk.2) (.slice Ao52 t525.length co52)) (fun _ h_ => h_.1))) hb); have n6_ := Aside0.mk (Kd.R_below (by (with_reducible repeat (first | apply Kd.R_alloc | apply Kd.R_drewN | apply Kd.R_drew)); exact (Kd.R_mono (Kd.R_far (p := ⟨gb528, 4, none⟩) (Kd.R_far (p := ⟨gb528, 3, none⟩) (Kd.R_far (p := ⟨gb528, 2, none⟩) (Kd.R_far (p := ⟨gb528, 1, none⟩) (Kd.R_far (p := ⟨gb528, 0, none⟩) (Kd.R_types HO527.out BK528.out (by decide)) (fun _ hk => hk.2) (.int .i64 t519)) (fun _ hk => hk.2) (.int .i64 t520)) (fun _ hk => hk.2) (.int .u64 t521)) (fun _ hk => hk.2) (.slice Ao51 t522.length co51)) (fun _ hk => hk.2) (.slice Ao52 t525.length co52)) (fun _ h_ => h_.1))) hb); have n7_ := Aside0.mk (blk_below (g := gb488) (o := .cells #[.int .i64 a0_0, .int .i64 a0_1] 52 (0, 0)) (by (with_reducible repeat (first | refine blk_drewN ?_ _ | refine blk_drew ?_ | refine blk_alloc ?_ _)); refine blk_far ?_ NB488_528.out _; (with_reducible repeat (first | refine blk_drewN ?_ _ | refine blk_drew ?_ | refine blk_alloc ?_ _)); refine blk_far ?_ NB488_528.out _; (with_reducible repeat (first | refine blk_drewN ?_ _ | refine blk_drew ?_ | refine blk_alloc ?_ _)); refine blk_far ?_ NB488_528.out _; (with_reducible repeat (first | refine blk_drewN ?_ _ | refine blk_drew ?_ | refine blk_alloc ?_ _)); refine blk_far ?_ NB488_528.out _; (with_reducible repeat (first | refine blk_drewN ?_ _ | refine blk_drew ?_ | refine blk_alloc ?_ _)); refine blk_far ?_ NB488_528.out _; (with_reducible repeat (first | refine blk_drewN ?_ _ | refine blk_drew ?_ | refine blk_alloc ?_ _)); exact BK488.out) hb); have n8_ := Aside0.mk (blk_below (g := gb505) (o := .cells #[.int .i64 t495, .int .i64 t496, .int .u64 t497, .slice Ao19 t498.length co19, .slice Ao20 t501.length co20] 33 (0, 0)) (by (with_reducible repeat (first | refine blk_drewN ?_ _ | refine blk_drew ?_ | refine blk_alloc ?_ _)); refine blk_far ?_ NB505_528.out _; (with_reducible repeat (first | refine blk_drewN ?_ _ | refine blk_drew ?_ | refine blk_alloc ?_ _)); refine blk_far ?_ NB505_528.out _; (with_reducible repeat (first | refine blk_drewN ?_ _ | refine blk_drew ?_ | refine blk_alloc ?_ _)); refine blk_far ?_ NB505_528.out _; (with_reducible repeat (first | refine blk_drewN ?_ _ | refine blk_drew ?_ | refine blk_alloc ?_ _)); refine blk_far ?_ NB505_528.out _; (with_reducible repeat (first | refine blk_drewN ?_ _ | refine blk_drew ?_ | refine blk_alloc ?_ _)); refine blk_far ?_ NB505_528.out _; (with_reducible repeat (first | refine blk_drewN ?_ _ | refine blk_drew ?_ | refine blk_alloc ?_ _)); exact BK505.out) hb); have n9_ := Aside0.mk (blk_below (g := gb516) (o := .cells #[.int .i64 t506, .int .i64 t507, .int .u64 t508, .slice Ao27 t509.length co27, .slice Ao28 t512.length co28] 33 (0, 0)) (by (with_reducible repeat (first | refine blk_drewN ?_ _ | refine blk_drew ?_ | refine blk_alloc ?_ _)); refine blk_far ?_ NB516_528.out _; (with_reducible repeat (first | refine blk_drewN ?_ _ | refine blk_drew ?_ | refine blk_alloc ?_ _)); refine blk_far ?_ NB516_528.out _; (with_reducible repeat (first | refine blk_drewN ?_ _ | refine blk_drew ?_ | refine blk_alloc ?_ _)); refine blk_far ?_ NB516_528.out _; (with_reducible repeat (first | refine blk_drewN ?_ _ | refine blk_drew ?_ | refine blk_alloc ?_ _)); refine blk_far ?_ NB516_528.out _; (with_reducible repeat (first | refine blk_drewN ?_ _ | refine blk_drew ?_ | refine blk_alloc ?_ _)); refine blk_far ?_ NB516_528.out _; (with_reducible repeat (first | refine blk_drewN ?_ _ | refine blk_drew ?_ | refine blk_alloc ?_ _)); exact BK516.out) hb); have n10_ := Aside0.mk (blk_below (g := gb528) (o := .cells #[.int .i64 t519, .int .i64 t520, .int .u64 t521, .slice Ao51 t522.length co51, .slice Ao52 t525.length co52] 33 (0, 0)) (by (with_reducible repeat (first | refine blk_drewN ?_ _ | refine blk_drew ?_ | refine blk_alloc ?_ _)); refine blk_put (cs := #[.int .i64 t519, .int .i64 t520, .int .u64 t521, .slice Ao51 t522.length co51, .slice none 0 0]) ?_ 4 _ rfl; (with_reducible repeat (first | refine blk_drewN ?_ _ | refine blk_drew ?_ | refine blk_alloc ?_ _)); refine blk_put (cs := #[.int .i64 t519, .int .i64 t520, .int .u64 t521, .slice none 0 0, .slice none 0 0]) ?_ 3 _ rfl; (with_reducible repeat (first | refine blk_drewN ?_ _ | refine blk_drew ?_ | refine blk_alloc ?_ _)); refine blk_put (cs := #[.int .i64 t519, .int .i64 t520, .int .u64 0, .slice none 0 0, .slice none 0 0]) ?_ 2 _ rfl; (with_reducible repeat (first | refine blk_drewN ?_ _ | refine blk_drew ?_ | refine blk_alloc ?_ _)); refine blk_put (cs := #[.int .i64 t519, .int .i64 0, .int .u64 0, .slice none 0 0, .slice none 0 0]) ?_ 1 _ rfl; (with_reducible repeat (first | refine blk_drewN ?_ _ | refine blk_drew ?_ | refine blk_alloc ?_ _)); refine blk_put (cs := #[.int .i64 0, .int .i64 0, .int .u64 0, .slice none 0 0, .slice none 0 0]) ?_ 0 _ rfl; (with_reducible repeat (first | refine blk_drewN ?_ _ | refine blk_drew ?_ | refine blk_alloc ?_ _)); exact BK528.out) hb); have n11_ := Aside0.mk (below_step (by repeat (first | (with_reducible first | exact HB.out | apply below_alloc | apply pw_below_drewN | apply below_drew1 | refine below_set ?_ GE488.out | refine below_set ?_ GE505.out | refine below_set ?_ GE516.out | refine below_set ?_ GE528.out) | exact HB.out)) hb); have n12_ := Aside0.mk (hbox); have n13_ := Aside0.mk ((by rw [hg]; exact (below_size (by repeat (first | (with_reducible first | exact HB.out | apply below_alloc | apply pw_below_drewN | apply below_drew1 | refine below_set ?_ GE488.out | refine below_set ?_ GE505.out | refine below_set ?_ GE516.out | refine below_set ?_ GE528.out) | exact HB.out))) : w.heap.size ≤ gb529)); have n14_ := Aside0.mk ((by rw [hg]; exact (below_size (by repeat (first | (with_reducible first | exact HB.out | apply below_alloc | apply pw_below_drewN | apply below_drew1 | refine below_set ?_ GE488.out | refine below_set ?_ GE505.out | refine below_set ?_ GE516.out | refine below_set ?_ GE528.out) | exact HB.out))) : w.heap.size ≤ gb529)); have n15_ := Aside0.mk ((by rw [hg]; exact Nat.ne_of_lt (blk_lt (g := gb488) (o := .cells #[.int .i64 a0_0, .int .i64 a0_1] 52 (0, 0)) (by (with_reducible repeat (first | refine blk_drewN ?_ _ | refine blk_drew ?_ | refine blk_alloc ?_ _)); refine blk_far ?_ NB488_528.out _; (with_reducible repeat (first | refine blk_drewN ?_ _ | refine blk_drew ?_ | refine blk_alloc ?_ _)); refine blk_far ?_ NB488_528.out _; (with_reducible repeat (first | refine blk_drewN ?_ _ | refine blk_drew ?_ | refine blk_alloc ?_ _)); refine blk_far ?_ NB488_528.out _; (with_reducible repeat (first | refine blk_drewN ?_ _ | refine blk_drew ?_ | refine blk_alloc ?_ _)); refine blk_far ?_ NB488_528.out _; (with_reducible repeat (first | refine blk_drewN ?_ _ | refine blk_drew ?_ | refine blk_alloc ?_ _)); refine blk_far ?_ NB488_528.out _; (with_reducible repeat (first | refine blk_drewN ?_ _ | refine blk_drew ?_ | refine blk_alloc ?_ _)); exact BK488.out)) : gb488 ≠ gb529)); have n16_ := Aside0.mk ((by rw [hg]; exact Nat.ne_of_gt (blk_lt (g := gb488) (o := .cells #[.int .i64 a0_0, .int .i64 a0_1] 52 (0, 0)) (by (with_reducible repeat (first | refine blk_drewN ?_ _ | refine blk_drew ?_ | refine blk_alloc ?_ _)); refine blk_far ?_ NB488_528.out _; (with_reducible repeat (first | refine blk_drewN ?_ _ | refine blk_drew ?_ | refine blk_alloc ?_ _)); refine blk_far ?_ NB488_528.out _; (with_reducible repeat (first | refine blk_drewN ?_ _ | refine blk_drew ?_ | refine blk_alloc ?_ _)); refine blk_far ?_ NB488_528.out _; (with_reducible repeat (first | refine blk_drewN ?_ _ | refine blk_drew ?_ | refine blk_alloc ?_ _)); refine blk_far ?_ NB488_528.out _; (with_reducible repeat (first | refine blk_drewN ?_ _ | refine blk_drew ?_ | refine blk_alloc ?_ _)); refine blk_far ?_ NB488_528.out _; (with_reducible repeat (first | refine blk_drewN ?_ _ | refine blk_drew ?_ | refine blk_alloc ?_ _)); exact BK488.out)) : gb529 ≠ gb488)); have n17_ := Aside0.mk ((by rw [hg]; exact Nat.ne_of_lt (blk_lt (g := gb505) (o := .cells #[.int .i64 t495, .int .i64 t496, .int .u64 t497, .slice Ao19 t498.length co19, .slice Ao20 t501.length co20] 33 (0, 0)) (by (with_reducible repeat (first | refine blk_drewN ?_ _ | refine blk_drew ?_ | refine blk_alloc ?_ _)); refine blk_far ?_ NB505_528.out _; (with_reducible repeat (first | refine blk_drewN ?_ _ | refine blk_drew ?_ | refine blk_alloc ?_ _)); refine blk_far ?_ NB505_528.out _; (with_reducible repeat (first | refine blk_drewN ?_ _ | refine blk_drew ?_ | refine blk_alloc ?_ _)); refine blk_far ?_ NB505_528.out _; (with_reducible repeat (first | refine blk_drewN ?_ _ | refine blk_drew ?_ | refine blk_alloc ?_ _)); refine blk_far ?_ NB505_528.out _; (with_reducible repeat (first | refine blk_drewN ?_ _ | refine blk_drew ?_ | refine blk_alloc ?_ _)); refine blk_far ?_ NB505_528.out _; (with_reducible repeat (first | refine blk_drewN ?_ _ | refine blk_drew ?_ | refine blk_alloc ?_ _)); exact BK505.out)) : gb505 ≠ gb529)); have n18_ := Aside0.mk ((by rw [hg]; exact Nat.ne_of_gt (blk_lt (g := gb505) (o := .cells #[.int .i64 t495, .int .i64 t496, .int .u64 t497, .slice Ao19 t498.length co19, .slice Ao20 t501.length co20] 33 (0, 0)) (by (with_reducible repeat (first | refine blk_drewN ?_ _ | refine blk_drew ?_ | refine blk_alloc ?_ _)); refine blk_far ?_ NB505_528.out _; (with_reducible repeat (first | refine blk_drewN ?_ _ | refine blk_drew ?_ | refine blk_alloc ?_ _)); refine blk_far ?_ NB505_528.out _; (with_reducible repeat (first | refine blk_drewN ?_ _ | refine blk_drew ?_ | refine blk_alloc ?_ _)); refine blk_far ?_ NB505_528.out _; (with_reducible repeat (first | refine blk_drewN ?_ _ | refine blk_drew ?_ | refine blk_alloc ?_ _)); refine blk_far ?_ NB505_528.out _; (with_reducible repeat (first | refine blk_drewN ?_ _ | refine blk_drew ?_ | refine blk_alloc ?_ _)); refine blk_far ?_ NB505_528.out _; (with_reducible repeat (first | refine blk_drewN ?_ _ | refine blk_drew ?_ | refine blk_alloc ?_ _)); exact BK505.out)) : gb529 ≠ gb505)); have n19_ := Aside0.mk ((by rw [hg]; exact Nat.ne_of_lt (blk_lt (g := gb516) (o := .cells #[.int .i64 t506, .int .i64 t507, .int .u64 t508, .slice Ao27 t509.length co27, .slice Ao28 t512.length co28] 33 (0, 0)) (by (with_reducible repeat (first | refine blk_drewN ?_ _ | refine blk_drew ?_ | refine blk_alloc ?_ _)); refine blk_far ?_ NB516_528.out _; (with_reducible repeat (first | refine blk_drewN ?_ _ | refine blk_drew ?_ | refine blk_alloc ?_ _)); refine blk_far ?_ NB516_528.out _; (with_reducible repeat (first | refine blk_drewN ?_ _ | refine blk_drew ?_ | refine blk_alloc ?_ _)); refine blk_far ?_ NB516_528.out _; (with_reducible repeat (first | refine blk_drewN ?_ _ | refine blk_drew ?_ | refine blk_alloc ?_ _)); refine blk_far ?_ NB516_528.out _; (with_reducible repeat (first | refine blk_drewN ?_ _ | refine blk_drew ?_ | refine blk_alloc ?_ _)); refine blk_far ?_ NB516_528.out _; (with_reducible repeat (first | refine blk_drewN ?_ _ | refine blk_drew ?_ | refine blk_alloc ?_ _)); exact BK516.out)) : gb516 ≠ gb529)); have n20_ := Aside0.mk ((by rw [hg]; exact Nat.ne_of_gt (blk_lt (g := gb516) (o := .cells #[.int .i64 t506, .int .i64 t507, .int .u64 t508, .slice Ao27 t509.length co27, .slice Ao28 t512.length co28] 33 (0, 0)) (by (with_reducible repeat (first | refine blk_drewN ?_ _ | refine blk_drew ?_ | refine blk_alloc ?_ _)); refine blk_far ?_ NB516_528.out _; (with_reducible repeat (first | refine blk_drewN ?_ _ | refine blk_drew ?_ | refine blk_alloc ?_ _)); refine blk_far ?_ NB516_528.out _; (with_reducible repeat (first | refine blk_drewN ?_ _ | refine blk_drew ?_ | refine blk_alloc ?_ _)); refine blk_far ?_ NB516_528.out _; (with_reducible repeat (first | refine blk_drewN ?_ _ | refine blk_drew ?_ | refine blk_alloc ?_ _)); refine blk_far ?_ NB516_528.out _; (with_reducible repeat (first | refine blk_drewN ?_ _ | refine blk_drew ?_ | refine blk_alloc ?_ _)); refine blk_far ?_ NB516_528.out _; (with_reducible repeat (first | refine blk_drewN ?_ _ | refine blk_drew ?_ | refine blk_alloc ?_ _)); exact BK516.out)) : gb529 ≠ gb516)); have n21_ := Aside0.mk ((by rw [hg]; exact Nat.ne_of_lt (blk_lt (g := gb528) (o := .cells #[.int .i64 t519, .int .i64 t520, .int .u64 t521, .slice Ao51 t522.length co51, .slice Ao52 t525.length co52] 33 (0, 0)) (by (with_reducible repeat (first | refine blk_drewN ?_ _ | refine blk_drew ?_ | refine blk_alloc ?_ _)); refine blk_put (cs := #[.int .i64 t519, .int .i64 t520, .int .u64 t521, .slice Ao51 t522.length co51, .slice none 0 0]) ?_ 4 _ rfl; (with_reducible repeat (first | refine blk_drewN ?_ _ | refine blk_drew ?_ | refine blk_alloc ?_ _)); refine blk_put (cs := #[.int .i64 t519, .int .i64 t520, .int .u64 t521, .slice none 0 0, .slice none 0 0]) ?_ 3 _ rfl; (with_reducible repeat (first | refine blk_drewN ?_ _ | refine blk_drew ?_ | refine blk_alloc ?_ _)); refine blk_put (cs := #[.int .i64 t519, .int .i64 t520, .int .u64 0, .slice none 0 0, .slice none 0 0]) ?_ 2 _ rfl; (with_reducible repeat (first | refine blk_drewN ?_ _ | refine blk_drew ?_ | refine blk_alloc ?_ _)); refine blk_put (cs := #[.int .i64 t519, .int .i64 0, .int .u64 0, .slice none 0 0, .slice none 0 0]) ?_ 1 _ rfl; (with_reducible repeat (first | refine blk_drewN ?_ _ | refine blk_drew ?_ | refine blk_alloc ?_ _)); refine blk_put (cs := #[.int .i64 0, .int .i64 0, .int .u64 0, .slice none 0 0, .slice none 0 0]) ?_ 0 _ rfl; (with_reducible repeat (first | refine blk_drewN ?_ _ | refine blk_drew ?_ | refine blk_alloc ?_ _)); exact BK528.out)) : gb528 ≠ gb529)); have n22_ := Aside0.mk ((by rw [hg]; exact Nat.ne_of_gt (blk_lt (g := gb528) (o := .cells #[.int .i64 t519, .int .i64 t520, .int .u64 t521, .slice Ao51 t522.length co51, .slice Ao52 t525.length co52] 33 (0, 0)) (by (with_reducible repeat (first | refine blk_drewN ?_ _ | refine blk_drew ?_ | refine blk_alloc ?_ _)); refine blk_put (cs := #[.int .i64 t519, .int .i64 t520, .int .u64 t521, .slice Ao51 t522.length co51, .slice none 0 0]) ?_ 4 _ rfl; (with_reducible repeat (first | refine blk_drewN ?_ _ | refine blk_drew ?_ | refine blk_alloc ?_ _)); refine blk_put (cs := #[.int .i64 t519, .int .i64 t520, .int .u64 t521, .slice none 0 0, .slice none 0 0]) ?_ 3 _ rfl; (with_reducible repeat (first | refine blk_drewN ?_ _ | refine blk_drew ?_ | refine blk_alloc ?_ _)); refine blk_put (cs := #[.int .i64 t519, .int .i64 t520, .int .u64 0, .slice none 0 0, .slice none 0 0]) ?_ 2 _ rfl; (with_reducible repeat (first | refine blk_drewN ?_ _ | refine blk_drew ?_ | refine blk_alloc ?_ _)); refine blk_put (cs := #[.int .i64 t519, .int .i64 0, .int .u64 0, .slice none 0 0, .slice none 0 0]) ?_ 1 _ rfl; (with_reducible repeat (first | refine blk_drewN ?_ _ | refine blk_drew ?_ | refine blk_alloc ?_ _)); refine blk_put (cs := #[.int .i64 0, .int .i64 0, .int .u64 0, .slice none 0 0, .slice none 0 0]) ?_ 0 _ rfl; (with_reducible repeat (first | refine blk_drewN ?_ _ | refine blk_drew ?_ | refine blk_alloc ?_ _)); exact BK528.out)) : gb529 ≠ gb528)); clear HO_2; clear HO_506003; clear HO_506004; clear HO_517003; clear HO_517004; clear HO524; clear HO527; clear BK488; clear BK505; clear BK516; clear BK528; clear HB; have HO_2 := n0_; have HO_506003 := n1_; have HO_506004 := n2_; have HO_517003 := n3_; have HO_517004 := n4_; have HO524 := n5_; have HO527 := n6_; have BK488 := n7_; have BK505 := n8_; have BK516 := n9_; have BK528 := n10_; have HB := n11_; have BK529 := n12_; have GW529 := n13_; have GE529 := n14_; have NB488_529 := n15_; have NB529_488 := n16_; have NB505_529 := n17_; have NB529_505 := n18_; have NB516_529 := n19_; have NB529_516 := n20_; have NB528_529 := n21_; have NB529_528 := n22_; clear n0_ n1_ n2_ n3_ n4_ n5_ n6_ n7_ n8_ n9_ n10_ n11_ n12_ n13_ n14_ n15_ n16_ n17_ n18_ n19_ n20_ n21_ n22_; clear hb hbox hg; have hnb56 := NB529_488.out; have hnc56 := NB488_529.out; have hnb57 := NB529_505.out; have hnc57 := NB505_529.out; have hnb58 := NB529_516.out; have hnc58 := NB516_529.out; have hnb59 := NB529_528.out; have hnc59 := NB528_529.out; have hcz60_0 : w55.cell? ⟨gb529, 0, none⟩ = some (.int .i64 0) := (blk_cell BK529.out 0).trans rfl; have hcz60_1 : w55.cell? ⟨gb529, 1, none⟩ = some (.int .i64 0) := (blk_cell BK529.out 1).trans rfl; have hcz60_2 : w55.cell? ⟨gb529, 2, none⟩ = some (.int .u64 0) := (blk_cell BK529.out 2).trans rfl; have hcz60_3 : w55.cell? ⟨gb529, 3, none⟩ = some (.slice none 0 0) := (blk_cell BK529.out 3).trans rfl; have hcz60_4 : w55.cell? ⟨gb529, 4, none⟩ = some (.slice none 0 0) := (blk_cell BK529.out 4).trans rfl; have hfz60_0 := blk_frozen BK529.out 0; have hfz60_1 := blk_frozen BK529.out 1; have hfz60_2 := blk_frozen BK529.out 2; have hfz60_3 := blk_frozen BK529.out 3; have hfz60_4 := blk_frozen BK529.out 4))
        (try simp only [Act.put, List.setIfInBounds_toArray, List.set_cons_zero, List.set_cons_succ])
        go_cut [97] (fun v97 wc => ∃ (kq : Nat) (x97_40 : Bool), v97 = .bool x97_40 ∧ Aside0 (signetrylaw01_WireMakes.j1 kq x97_40 t495 t496 t497 t498 t501 t506 t507 t508 t509 t512 t519 t520 t521 t522 t525 = some r) ∧ Aside0 (kq ≤ kj7) ∧ Aside0 (Kd.R (Kd.int .u8) 5 wc w.heap.size (fun k_ => some k_ ≠ ((.slice Ao20 t501.length co20) : Value).ownBlock ∧ some k_ ≠ ((.slice Ao27 t509.length co27) : Value).ownBlock ∧ some k_ ≠ ((.slice Ao28 t512.length co28) : Value).ownBlock ∧ some k_ ≠ ((.slice Ao51 t522.length co51) : Value).ownBlock ∧ some k_ ≠ ((.slice Ao52 t525.length co52) : Value).ownBlock) (.slice Ao19 t498.length co19) t498) ∧ Aside0 (Kd.R (Kd.int .u8) 5 wc w.heap.size (fun k_ => some k_ ≠ ((.slice Ao19 t498.length co19) : Value).ownBlock ∧ some k_ ≠ ((.slice Ao27 t509.length co27) : Value).ownBlock ∧ some k_ ≠ ((.slice Ao28 t512.length co28) : Value).ownBlock ∧ some k_ ≠ ((.slice Ao51 t522.length co51) : Value).ownBlock ∧ some k_ ≠ ((.slice Ao52 t525.length co52) : Value).ownBlock) (.slice Ao20 t501.length co20) t501) ∧ Aside0 (Kd.R (Kd.int .u8) 5 wc w.heap.size (fun k_ => some k_ ≠ ((.slice Ao19 t498.length co19) : Value).ownBlock ∧ some k_ ≠ ((.slice Ao20 t501.length co20) : Value).ownBlock ∧ some k_ ≠ ((.slice Ao28 t512.length co28) : Value).ownBlock ∧ some k_ ≠ ((.slice Ao51 t522.length co51) : Value).ownBlock ∧ some k_ ≠ ((.slice Ao52 t525.length co52) : Value).ownBlock) (.slice Ao27 t509.length co27) t509) ∧ Aside0 (Kd.R (Kd.int .u8) 5 wc w.heap.size (fun k_ => some k_ ≠ ((.slice Ao19 t498.length co19) : Value).ownBlock ∧ some k_ ≠ ((.slice Ao20 t501.length co20) : Value).ownBlock ∧ some k_ ≠ ((.slice Ao27 t509.length co27) : Value).ownBlock ∧ some k_ ≠ ((.slice Ao51 t522.length co51) : Value).ownBlock ∧ some k_ ≠ ((.slice Ao52 t525.length co52) : Value).ownBlock) (.slice Ao28 t512.length co28) t512) ∧ Aside0 (Kd.R (Kd.int .u8) 5 wc w.heap.size (fun k_ => some k_ ≠ ((.slice Ao19 t498.length co19) : Value).ownBlock ∧ some k_ ≠ ((.slice Ao20 t501.length co20) : Value).ownBlock ∧ some k_ ≠ ((.slice Ao27 t509.length co27) : Value).ownBlock ∧ some k_ ≠ ((.slice Ao28 t512.length co28) : Value).ownBlock ∧ some k_ ≠ ((.slice Ao52 t525.length co52) : Value).ownBlock) (.slice Ao51 t522.length co51) t522) ∧ Aside0 (Kd.R (Kd.int .u8) 5 wc w.heap.size (fun k_ => some k_ ≠ ((.slice Ao19 t498.length co19) : Value).ownBlock ∧ some k_ ≠ ((.slice Ao20 t501.length co20) : Value).ownBlock ∧ some k_ ≠ ((.slice Ao27 t509.length co27) : Value).ownBlock ∧ some k_ ≠ ((.slice Ao28 t512.length co28) : Value).ownBlock ∧ some k_ ≠ ((.slice Ao51 t522.length co51) : Value).ownBlock) (.slice Ao52 t525.length co52) t525) ∧ Aside0 (Kd.V (Kd.int .u8) 5 wc w.heap.size (fun k_ => some k_ ≠ ((.slice Ao19 t498.length co19) : Value).ownBlock ∧ some k_ ≠ ((.slice Ao20 t501.length co20) : Value).ownBlock ∧ some k_ ≠ ((.slice Ao27 t509.length co27) : Value).ownBlock ∧ some k_ ≠ ((.slice Ao28 t512.length co28) : Value).ownBlock ∧ some k_ ≠ ((.slice Ao51 t522.length co51) : Value).ownBlock ∧ some k_ ≠ ((.slice Ao52 t525.length co52) : Value).ownBlock ∧ k_ ≠ gb488 ∧ k_ ≠ gb505 ∧ k_ ≠ gb516 ∧ k_ ≠ gb528 ∧ k_ ≠ gb529) (.slice Ao11 t489.length co11) t489) ∧ Aside0 (Kd.V (Kd.int .u8) 5 wc w.heap.size (fun k_ => some k_ ≠ ((.slice Ao19 t498.length co19) : Value).ownBlock ∧ some k_ ≠ ((.slice Ao20 t501.length co20) : Value).ownBlock ∧ some k_ ≠ ((.slice Ao27 t509.length co27) : Value).ownBlock ∧ some k_ ≠ ((.slice Ao28 t512.length co28) : Value).ownBlock ∧ some k_ ≠ ((.slice Ao51 t522.length co51) : Value).ownBlock ∧ some k_ ≠ ((.slice Ao52 t525.length co52) : Value).ownBlock ∧ k_ ≠ gb488 ∧ k_ ≠ gb505 ∧ k_ ≠ gb516 ∧ k_ ≠ gb528 ∧ k_ ≠ gb529) (.slice Ao11 t489.length co11) t489) ∧ Aside0 (wc.heap[gb488]? = some (.cells #[.int .i64 a0_0, .int .i64 a0_1] 52 (0, 0))) ∧ Aside0 (wc.heap[gb505]? = some (.cells #[.int .i64 t495, .int .i64 t496, .int .u64 t497, (.slice Ao19 t498.length co19), (.slice Ao20 t501.length co20)] 33 (0, 0))) ∧ Aside0 (wc.heap[gb516]? = some (.cells #[.int .i64 t506, .int .i64 t507, .int .u64 t508, (.slice Ao27 t509.length co27), (.slice Ao28 t512.length co28)] 33 (0, 0))) ∧ Aside0 (wc.heap[gb528]? = some (.cells #[.int .i64 t519, .int .i64 t520, .int .u64 t521, (.slice Ao51 t522.length co51), (.slice Ao52 t525.length co52)] 33 (0, 0))) ∧ Aside0 (wc.heap[gb529]? = some (.cells #[.int .i64 a0_0, .int .i64 a0_1, .int .u64 a1, (.slice Ao11 t489.length co11), (.slice Ao11 t489.length co11)] 33 (0, 0))) ∧ Aside0 (Below w.heap.size w wc))
        case first =>
          have H := HC41.out
          clear HC41
          replace H := Option.bind_eq_some_iff.mp H
          obtain ⟨t530, A610, H⟩ := H
          replace H : ((signetryref01_Same.f t506 t507 t508 t509 t512 a0_0 a0_1 a1 t489 t489).bind fun t531 => (if (t530 != t531) = true then (none) else ((wire_Same.f kj7 a0_0 a0_1 a1 t489 t489 a0_0 a0_1 a1 t489 t489).bind fun t532 => (if (t532 != true) = true then (none) else ((wire_Check.f kj7 a0_0 a0_1 a1 t489 t489).bind fun t533 => ((signetryref01_Check.f kj7 a0_0 a0_1 a1 t489 t489).bind fun t534 => (if t533 = t534 then ((wire_Check.f kj7 t519 t520 t521 t522 t525).bind fun t535 => ((signetryref01_Check.f kj7 t506 t507 t508 t509 t512).bind fun t536 => (if t535 = t536 then ((wire_Same.f kj7 t519 t520 t521 t522 t525 t495 t496 t497 t498 t501).bind fun t537 => (signetrylaw01_WireMakes.j1 kj7 (!t537) t495 t496 t497 t498 t501 t506 t507 t508 t509 t512 t519 t520 t521 t522 t525)) else (none)))) else (none)))))))) = some r := H
          have A61 := Aside0.mk A610
          clear A610
          replace H := Option.bind_eq_some_iff.mp H
          obtain ⟨t531, A620, H⟩ := H
          replace H : (if (t530 != t531) = true then (none) else ((wire_Same.f kj7 a0_0 a0_1 a1 t489 t489 a0_0 a0_1 a1 t489 t489).bind fun t532 => (if (t532 != true) = true then (none) else ((wire_Check.f kj7 a0_0 a0_1 a1 t489 t489).bind fun t533 => ((signetryref01_Check.f kj7 a0_0 a0_1 a1 t489 t489).bind fun t534 => (if t533 = t534 then ((wire_Check.f kj7 t519 t520 t521 t522 t525).bind fun t535 => ((signetryref01_Check.f kj7 t506 t507 t508 t509 t512).bind fun t536 => (if t535 = t536 then ((wire_Same.f kj7 t519 t520 t521 t522 t525 t495 t496 t497 t498 t501).bind fun t537 => (signetrylaw01_WireMakes.j1 kj7 (!t537) t495 t496 t497 t498 t501 t506 t507 t508 t509 t512 t519 t520 t521 t522 t525)) else (none)))) else (none))))))) = some r := H
          have A62 := Aside0.mk A620
          clear A620
          by_cases c63 : (t530 != t531) = true
          · rw [if_pos c63] at H
            exact absurd H (by simp)
          · rw [if_neg c63] at H
            have c63b0 : (t530 != t531) = false := by simpa using c63
            (try (have c63b1 : decide (t530 = t531) = true := by simpa using c63))
            (try (have c63b2 : (t530 == t531) = true := by simpa using c63))
            clear c63
            (first | rw [c63b0] | (simp only [i64_w, i32_w]; rw [c63b0]) | skip)
            replace H := Option.bind_eq_some_iff.mp H
            obtain ⟨t532, A640, H⟩ := H
            replace H : (if (t532 != true) = true then (none) else ((wire_Check.f kj7 a0_0 a0_1 a1 t489 t489).bind fun t533 => ((signetryref01_Check.f kj7 a0_0 a0_1 a1 t489 t489).bind fun t534 => (if t533 = t534 then ((wire_Check.f kj7 t519 t520 t521 t522 t525).bind fun t535 => ((signetryref01_Check.f kj7 t506 t507 t508 t509 t512).bind fun t536 => (if t535 = t536 then ((wire_Same.f kj7 t519 t520 t521 t522 t525 t495 t496 t497 t498 t501).bind fun t537 => (signetrylaw01_WireMakes.j1 kj7 (!t537) t495 t496 t497 t498 t501 t506 t507 t508 t509 t512 t519 t520 t521 t522 t525)) else (none)))) else (none))))) = some r := H
            have A64 := Aside0.mk A640
            clear A640
            by_cases c65 : (t532 != true) = true
            · rw [if_pos c65] at H
              exact absurd H (by simp)
            · rw [if_neg c65] at H
              have c65b0 : (t532 != true) = false := by simpa using c65
              (try (have c65b1 : decide (t532 = true) = true := by simpa using c65))
              (try (have c65b2 : (t532 == true) = true := by simpa using c65))
              clear c65
              replace H := Option.bind_eq_some_iff.mp H
              obtain ⟨t533, A660, H⟩ := H
              replace H : ((signetryref01_Check.f kj7 a0_0 a0_1 a1 t489 t489).bind fun t534 => (if t533 = t534 then ((wire_Check.f kj7 t519 t520 t521 t522 t525).bind fun t535 => ((signetryref01_Check.f kj7 t506 t507 t508 t509 t512).bind fun t536 => (if t535 = t536 then ((wire_Same.f kj7 t519 t520 t521 t522 t525 t495 t496 t497 t498 t501).bind fun t537 => (signetrylaw01_WireMakes.j1 kj7 (!t537) t495 t496 t497 t498 t501 t506 t507 t508 t509 t512 t519 t520 t521 t522 t525)) else (none)))) else (none))) = some r := H
              have A66 := Aside0.mk A660
              clear A660
              replace H := Option.bind_eq_some_iff.mp H
              obtain ⟨t534, A670, H⟩ := H
              replace H : (if t533 = t534 then ((wire_Check.f kj7 t519 t520 t521 t522 t525).bind fun t535 => ((signetryref01_Check.f kj7 t506 t507 t508 t509 t512).bind fun t536 => (if t535 = t536 then ((wire_Same.f kj7 t519 t520 t521 t522 t525 t495 t496 t497 t498 t501).bind fun t537 => (signetrylaw01_WireMakes.j1 kj7 (!t537) t495 t496 t497 t498 t501 t506 t507 t508 t509 t512 t519 t520 t521 t522 t525)) else (none)))) else (none)) = some r := H
              have A67 := Aside0.mk A670
              clear A670
              by_cases c68 : t533 = t534
              · rw [if_pos c68] at H
                have c68b0 : (t533 == t534) = true := beq_iff_eq.mpr c68
                have c68b1 : (t533 != t534) = false := bne_eq_false_iff_eq.mpr c68
                clear c68
                replace H := Option.bind_eq_some_iff.mp H
                obtain ⟨t535, A690, H⟩ := H
                replace H : ((signetryref01_Check.f kj7 t506 t507 t508 t509 t512).bind fun t536 => (if t535 = t536 then ((wire_Same.f kj7 t519 t520 t521 t522 t525 t495 t496 t497 t498 t501).bind fun t537 => (signetrylaw01_WireMakes.j1 kj7 (!t537) t495 t496 t497 t498 t501 t506 t507 t508 t509 t512 t519 t520 t521 t522 t525)) else (none))) = some r := H
                have A69 := Aside0.mk A690
                clear A690
                replace H := Option.bind_eq_some_iff.mp H
                obtain ⟨t536, A700, H⟩ := H
                replace H : (if t535 = t536 then ((wire_Same.f kj7 t519 t520 t521 t522 t525 t495 t496 t497 t498 t501).bind fun t537 => (signetrylaw01_WireMakes.j1 kj7 (!t537) t495 t496 t497 t498 t501 t506 t507 t508 t509 t512 t519 t520 t521 t522 t525)) else (none)) = some r := H
                have A70 := Aside0.mk A700
                clear A700
                by_cases c71 : t535 = t536
                · rw [if_pos c71] at H
                  have c71b0 : (t535 == t536) = true := beq_iff_eq.mpr c71
                  have c71b1 : (t535 != t536) = false := bne_eq_false_iff_eq.mpr c71
                  clear c71
                  replace H := Option.bind_eq_some_iff.mp H
                  obtain ⟨t537, A720, H⟩ := H
                  replace H : (signetrylaw01_WireMakes.j1 kj7 (!t537) t495 t496 t497 t498 t501 t506 t507 t508 t509 t512 t519 t520 t521 t522 t525) = some r := H
                  have A72 := Aside0.mk A720
                  clear A720
                  have H' := Aside0.mk H
                  clear H
                  try go_wp2
                  have n0_ : Aside0 (Kd.V (Kd.int .u8) 5 (((((w55.setCell ⟨gb529, 0, none⟩ (.int .i64 a0_0)).setCell ⟨gb529, 1, none⟩ (.int .i64 a0_1)).setCell ⟨gb529, 2, none⟩ (.int .u64 a1)).setCell ⟨gb529, 3, none⟩ (.slice Ao11 t489.length co11)).setCell ⟨gb529, 4, none⟩ (.slice Ao11 t489.length co11)) w.heap.size (fun k_ => some k_ ≠ (.slice Ao19 t498.length co19 : Value).ownBlock ∧ some k_ ≠ (.slice Ao20 t501.length co20 : Value).ownBlock ∧ some k_ ≠ (.slice Ao27 t509.length co27 : Value).ownBlock ∧ some k_ ≠ (.slice Ao28 t512.length co28 : Value).ownBlock ∧ some k_ ≠ (.slice Ao51 t522.length co51 : Value).ownBlock ∧ some k_ ≠ (.slice Ao52 t525.length co52 : Value).ownBlock ∧ k_ ≠ gb488 ∧ k_ ≠ gb505 ∧ k_ ≠ gb516 ∧ k_ ≠ gb528 ∧ k_ ≠ gb529) (.slice Ao11 t489.length co11) t489) := ⟨by (with_reducible repeat (first | apply Kd.V_alloc | apply Kd.V_drewN | apply Kd.V_drew)); exact Kd.V_mono (Kd.V_far (p := ⟨gb529, 4, none⟩) (Kd.V_far (p := ⟨gb529, 3, none⟩) (Kd.V_far (p := ⟨gb529, 2, none⟩) (Kd.V_far (p := ⟨gb529, 1, none⟩) (Kd.V_far (p := ⟨gb529, 0, none⟩) (Kd.V_mono HO_2.out (fun k_ hk => (⟨hk, hk.2⟩ : _ ∧ k_ ≠ gb529))) (fun _ hk => hk.2) (.int .i64 a0_0)) (fun _ hk => hk.2) (.int .i64 a0_1)) (fun _ hk => hk.2) (.int .u64 a1)) (fun _ hk => hk.2) (.slice Ao11 t489.length co11)) (fun _ hk => hk.2) (.slice Ao11 t489.length co11)) (fun _ hk => ⟨hk.1.1.1.1.1.1, ⟨hk.1.1.1.1.1.2.1, ⟨hk.1.1.1.1.1.2.2.1, ⟨hk.1.1.1.1.1.2.2.2.1, ⟨hk.1.1.1.1.2, ⟨hk.1.1.1.2, ⟨hk.1.1.1.1.1.2.2.2.2.1, ⟨hk.1.1.1.1.1.2.2.2.2.2.1, ⟨hk.1.1.1.1.1.2.2.2.2.2.2, ⟨hk.1.1.2, hk.1.2⟩⟩⟩⟩⟩⟩⟩⟩⟩⟩)⟩
                  have n1_ : Aside0 (Kd.R (Kd.int .u8) 5 (((((w55.setCell ⟨gb529, 0, none⟩ (.int .i64 a0_0)).setCell ⟨gb529, 1, none⟩ (.int .i64 a0_1)).setCell ⟨gb529, 2, none⟩ (.int .u64 a1)).setCell ⟨gb529, 3, none⟩ (.slice Ao11 t489.length co11)).setCell ⟨gb529, 4, none⟩ (.slice Ao11 t489.length co11)) w.heap.size (fun k_ => some k_ ≠ (.slice Ao20 t501.length co20 : Value).ownBlock ∧ some k_ ≠ (.slice Ao27 t509.length co27 : Value).ownBlock ∧ some k_ ≠ (.slice Ao28 t512.length co28 : Value).ownBlock ∧ some k_ ≠ (.slice Ao51 t522.length co51 : Value).ownBlock ∧ some k_ ≠ (.slice Ao52 t525.length co52 : Value).ownBlock) (.slice Ao19 t498.length co19) t498) := ⟨by (with_reducible repeat (first | apply Kd.R_alloc | apply Kd.R_drewN | apply Kd.R_drew)); exact Kd.R_mono (Kd.R_far (p := ⟨gb529, 4, none⟩) (Kd.R_far (p := ⟨gb529, 3, none⟩) (Kd.R_far (p := ⟨gb529, 2, none⟩) (Kd.R_far (p := ⟨gb529, 1, none⟩) (Kd.R_far (p := ⟨gb529, 0, none⟩) (Kd.R_types HO_506003.out BK529.out (by decide)) (fun _ hk => hk.2) (.int .i64 a0_0)) (fun _ hk => hk.2) (.int .i64 a0_1)) (fun _ hk => hk.2) (.int .u64 a1)) (fun _ hk => hk.2) (.slice Ao11 t489.length co11)) (fun _ hk => hk.2) (.slice Ao11 t489.length co11)) (fun _ hk => ⟨hk.1.1.1.1, ⟨hk.1.1.1.2.1, ⟨hk.1.1.1.2.2, ⟨hk.1.1.2, hk.1.2⟩⟩⟩⟩)⟩
                  have n2_ : Aside0 (Kd.R (Kd.int .u8) 5 (((((w55.setCell ⟨gb529, 0, none⟩ (.int .i64 a0_0)).setCell ⟨gb529, 1, none⟩ (.int .i64 a0_1)).setCell ⟨gb529, 2, none⟩ (.int .u64 a1)).setCell ⟨gb529, 3, none⟩ (.slice Ao11 t489.length co11)).setCell ⟨gb529, 4, none⟩ (.slice Ao11 t489.length co11)) w.heap.size (fun k_ => some k_ ≠ (.slice Ao19 t498.length co19 : Value).ownBlock ∧ some k_ ≠ (.slice Ao27 t509.length co27 : Value).ownBlock ∧ some k_ ≠ (.slice Ao28 t512.length co28 : Value).ownBlock ∧ some k_ ≠ (.slice Ao51 t522.length co51 : Value).ownBlock ∧ some k_ ≠ (.slice Ao52 t525.length co52 : Value).ownBlock) (.slice Ao20 t501.length co20) t501) := ⟨by (with_reducible repeat (first | apply Kd.R_alloc | apply Kd.R_drewN | apply Kd.R_drew)); exact Kd.R_mono (Kd.R_far (p := ⟨gb529, 4, none⟩) (Kd.R_far (p := ⟨gb529, 3, none⟩) (Kd.R_far (p := ⟨gb529, 2, none⟩) (Kd.R_far (p := ⟨gb529, 1, none⟩) (Kd.R_far (p := ⟨gb529, 0, none⟩) (Kd.R_types HO_506004.out BK529.out (by decide)) (fun _ hk => hk.2) (.int .i64 a0_0)) (fun _ hk => hk.2) (.int .i64 a0_1)) (fun _ hk => hk.2) (.int .u64 a1)) (fun _ hk => hk.2) (.slice Ao11 t489.length co11)) (fun _ hk => hk.2) (.slice Ao11 t489.length co11)) (fun _ hk => ⟨hk.1.1.1.1, ⟨hk.1.1.1.2.1, ⟨hk.1.1.1.2.2, ⟨hk.1.1.2, hk.1.2⟩⟩⟩⟩)⟩
                  have n3_ : Aside0 (Kd.R (Kd.int .u8) 5 (((((w55.setCell ⟨gb529, 0, none⟩ (.int .i64 a0_0)).setCell ⟨gb529, 1, none⟩ (.int .i64 a0_1)).setCell ⟨gb529, 2, none⟩ (.int .u64 a1)).setCell ⟨gb529, 3, none⟩ (.slice Ao11 t489.length co11)).setCell ⟨gb529, 4, none⟩ (.slice Ao11 t489.length co11)) w.heap.size (fun k_ => some k_ ≠ (.slice Ao19 t498.length co19 : Value).ownBlock ∧ some k_ ≠ (.slice Ao20 t501.length co20 : Value).ownBlock ∧ some k_ ≠ (.slice Ao28 t512.length co28 : Value).ownBlock ∧ some k_ ≠ (.slice Ao51 t522.length co51 : Value).ownBlock ∧ some k_ ≠ (.slice Ao52 t525.length co52 : Value).ownBlock) (.slice Ao27 t509.length co27) t509) := ⟨by (with_reducible repeat (first | apply Kd.R_alloc | apply Kd.R_drewN | apply Kd.R_drew)); exact Kd.R_mono (Kd.R_far (p := ⟨gb529, 4, none⟩) (Kd.R_far (p := ⟨gb529, 3, none⟩) (Kd.R_far (p := ⟨gb529, 2, none⟩) (Kd.R_far (p := ⟨gb529, 1, none⟩) (Kd.R_far (p := ⟨gb529, 0, none⟩) (Kd.R_types HO_517003.out BK529.out (by decide)) (fun _ hk => hk.2) (.int .i64 a0_0)) (fun _ hk => hk.2) (.int .i64 a0_1)) (fun _ hk => hk.2) (.int .u64 a1)) (fun _ hk => hk.2) (.slice Ao11 t489.length co11)) (fun _ hk => hk.2) (.slice Ao11 t489.length co11)) (fun _ hk => ⟨hk.1.1.1.1, ⟨hk.1.1.1.2.1, ⟨hk.1.1.1.2.2, ⟨hk.1.1.2, hk.1.2⟩⟩⟩⟩)⟩
                  have n4_ : Aside0 (Kd.R (Kd.int .u8) 5 (((((w55.setCell ⟨gb529, 0, none⟩ (.int .i64 a0_0)).setCell ⟨gb529, 1, none⟩ (.int .i64 a0_1)).setCell ⟨gb529, 2, none⟩ (.int .u64 a1)).setCell ⟨gb529, 3, none⟩ (.slice Ao11 t489.length co11)).setCell ⟨gb529, 4, none⟩ (.slice Ao11 t489.length co11)) w.heap.size (fun k_ => some k_ ≠ (.slice Ao19 t498.length co19 : Value).ownBlock ∧ some k_ ≠ (.slice Ao20 t501.length co20 : Value).ownBlock ∧ some k_ ≠ (.slice Ao27 t509.length co27 : Value).ownBlock ∧ some k_ ≠ (.slice Ao51 t522.length co51 : Value).ownBlock ∧ some k_ ≠ (.slice Ao52 t525.length co52 : Value).ownBlock) (.slice Ao28 t512.length co28) t512) := ⟨by (with_reducible repeat (first | apply Kd.R_alloc | apply Kd.R_drewN | apply Kd.R_drew)); exact Kd.R_mono (Kd.R_far (p := ⟨gb529, 4, none⟩) (Kd.R_far (p := ⟨gb529, 3, none⟩) (Kd.R_far (p := ⟨gb529, 2, none⟩) (Kd.R_far (p := ⟨gb529, 1, none⟩) (Kd.R_far (p := ⟨gb529, 0, none⟩) (Kd.R_types HO_517004.out BK529.out (by decide)) (fun _ hk => hk.2) (.int .i64 a0_0)) (fun _ hk => hk.2) (.int .i64 a0_1)) (fun _ hk => hk.2) (.int .u64 a1)) (fun _ hk => hk.2) (.slice Ao11 t489.length co11)) (fun _ hk => hk.2) (.slice Ao11 t489.length co11)) (fun _ hk => ⟨hk.1.1.1.1, ⟨hk.1.1.1.2.1, ⟨hk.1.1.1.2.2, ⟨hk.1.1.2, hk.1.2⟩⟩⟩⟩)⟩
                  have n5_ : Aside0 (Kd.R (Kd.int .u8) 5 (((((w55.setCell ⟨gb529, 0, none⟩ (.int .i64 a0_0)).setCell ⟨gb529, 1, none⟩ (.int .i64 a0_1)).setCell ⟨gb529, 2, none⟩ (.int .u64 a1)).setCell ⟨gb529, 3, none⟩ (.slice Ao11 t489.length co11)).setCell ⟨gb529, 4, none⟩ (.slice Ao11 t489.length co11)) w.heap.size (fun k_ => some k_ ≠ (.slice Ao19 t498.length co19 : Value).ownBlock ∧ some k_ ≠ (.slice Ao20 t501.length co20 : Value).ownBlock ∧ some k_ ≠ (.slice Ao27 t509.length co27 : Value).ownBlock ∧ some k_ ≠ (.slice Ao28 t512.length co28 : Value).ownBlock ∧ some k_ ≠ (.slice Ao52 t525.length co52 : Value).ownBlock) (.slice Ao51 t522.length co51) t522) := ⟨by (with_reducible repeat (first | apply Kd.R_alloc | apply Kd.R_drewN | apply Kd.R_drew)); exact Kd.R_mono (Kd.R_far (p := ⟨gb529, 4, none⟩) (Kd.R_far (p := ⟨gb529, 3, none⟩) (Kd.R_far (p := ⟨gb529, 2, none⟩) (Kd.R_far (p := ⟨gb529, 1, none⟩) (Kd.R_far (p := ⟨gb529, 0, none⟩) (Kd.R_types HO524.out BK529.out (by decide)) (fun _ hk => hk.2) (.int .i64 a0_0)) (fun _ hk => hk.2) (.int .i64 a0_1)) (fun _ hk => hk.2) (.int .u64 a1)) (fun _ hk => hk.2) (.slice Ao11 t489.length co11)) (fun _ hk => hk.2) (.slice Ao11 t489.length co11)) (fun _ hk => ⟨hk.1.1.1.1.2, ⟨hk.1.1.1.2, ⟨hk.1.1.2, ⟨hk.1.2, hk.1.1.1.1.1⟩⟩⟩⟩)⟩
                  have n6_ : Aside0 (Kd.R (Kd.int .u8) 5 (((((w55.setCell ⟨gb529, 0, none⟩ (.int .i64 a0_0)).setCell ⟨gb529, 1, none⟩ (.int .i64 a0_1)).setCell ⟨gb529, 2, none⟩ (.int .u64 a1)).setCell ⟨gb529, 3, none⟩ (.slice Ao11 t489.length co11)).setCell ⟨gb529, 4, none⟩ (.slice Ao11 t489.length co11)) w.heap.size (fun k_ => some k_ ≠ (.slice Ao19 t498.length co19 : Value).ownBlock ∧ some k_ ≠ (.slice Ao20 t501.length co20 : Value).ownBlock ∧ some k_ ≠ (.slice Ao27 t509.length co27 : Value).ownBlock ∧ some k_ ≠ (.slice Ao28 t512.length co28 : Value).ownBlock ∧ some k_ ≠ (.slice Ao51 t522.length co51 : Value).ownBlock) (.slice Ao52 t525.length co52) t525) := ⟨by (with_reducible repeat (first | apply Kd.R_alloc | apply Kd.R_drewN | apply Kd.R_drew)); exact Kd.R_mono (Kd.R_far (p := ⟨gb529, 4, none⟩) (Kd.R_far (p := ⟨gb529, 3, none⟩) (Kd.R_far (p := ⟨gb529, 2, none⟩) (Kd.R_far (p := ⟨gb529, 1, none⟩) (Kd.R_far (p := ⟨gb529, 0, none⟩) (Kd.R_types HO527.out BK529.out (by decide)) (fun _ hk => hk.2) (.int .i64 a0_0)) (fun _ hk => hk.2) (.int .i64 a0_1)) (fun _ hk => hk.2) (.int .u64 a1)) (fun _ hk => hk.2) (.slice Ao11 t489.length co11)) (fun _ hk => hk.2) (.slice Ao11 t489.length co11)) (fun _ hk => ⟨hk.1.1.1.1.2, ⟨hk.1.1.1.2, ⟨hk.1.1.2, ⟨hk.1.2, hk.1.1.1.1.1⟩⟩⟩⟩)⟩
                  have n7_ : Aside0 ((((((w55.setCell ⟨gb529, 0, none⟩ (.int .i64 a0_0)).setCell ⟨gb529, 1, none⟩ (.int .i64 a0_1)).setCell ⟨gb529, 2, none⟩ (.int .u64 a1)).setCell ⟨gb529, 3, none⟩ (.slice Ao11 t489.length co11)).setCell ⟨gb529, 4, none⟩ (.slice Ao11 t489.length co11)).heap[gb488]? = some (.cells #[.int .i64 a0_0, .int .i64 a0_1] 52 (0, 0))) := ⟨by (with_reducible repeat (first | refine blk_drewN ?_ _ | refine blk_drew ?_ | refine blk_alloc ?_ _)); refine blk_far ?_ NB488_529.out _; (with_reducible repeat (first | refine blk_drewN ?_ _ | refine blk_drew ?_ | refine blk_alloc ?_ _)); refine blk_far ?_ NB488_529.out _; (with_reducible repeat (first | refine blk_drewN ?_ _ | refine blk_drew ?_ | refine blk_alloc ?_ _)); refine blk_far ?_ NB488_529.out _; (with_reducible repeat (first | refine blk_drewN ?_ _ | refine blk_drew ?_ | refine blk_alloc ?_ _)); refine blk_far ?_ NB488_529.out _; (with_reducible repeat (first | refine blk_drewN ?_ _ | refine blk_drew ?_ | refine blk_alloc ?_ _)); refine blk_far ?_ NB488_529.out _; (with_reducible repeat (first | refine blk_drewN ?_ _ | refine blk_drew ?_ | refine blk_alloc ?_ _)); exact BK488.out⟩
                  have n8_ : Aside0 ((((((w55.setCell ⟨gb529, 0, none⟩ (.int .i64 a0_0)).setCell ⟨gb529, 1, none⟩ (.int .i64 a0_1)).setCell ⟨gb529, 2, none⟩ (.int .u64 a1)).setCell ⟨gb529, 3, none⟩ (.slice Ao11 t489.length co11)).setCell ⟨gb529, 4, none⟩ (.slice Ao11 t489.length co11)).heap[gb505]? = some (.cells #[.int .i64 t495, .int .i64 t496, .int .u64 t497, .slice Ao19 t498.length co19, .slice Ao20 t501.length co20] 33 (0, 0))) := ⟨by (with_reducible repeat (first | refine blk_drewN ?_ _ | refine blk_drew ?_ | refine blk_alloc ?_ _)); refine blk_far ?_ NB505_529.out _; (with_reducible repeat (first | refine blk_drewN ?_ _ | refine blk_drew ?_ | refine blk_alloc ?_ _)); refine blk_far ?_ NB505_529.out _; (with_reducible repeat (first | refine blk_drewN ?_ _ | refine blk_drew ?_ | refine blk_alloc ?_ _)); refine blk_far ?_ NB505_529.out _; (with_reducible repeat (first | refine blk_drewN ?_ _ | refine blk_drew ?_ | refine blk_alloc ?_ _)); refine blk_far ?_ NB505_529.out _; (with_reducible repeat (first | refine blk_drewN ?_ _ | refine blk_drew ?_ | refine blk_alloc ?_ _)); refine blk_far ?_ NB505_529.out _; (with_reducible repeat (first | refine blk_drewN ?_ _ | refine blk_drew ?_ | refine blk_alloc ?_ _)); exact BK505.out⟩
                  have n9_ : Aside0 ((((((w55.setCell ⟨gb529, 0, none⟩ (.int .i64 a0_0)).setCell ⟨gb529, 1, none⟩ (.int .i64 a0_1)).setCell ⟨gb529, 2, none⟩ (.int .u64 a1)).setCell ⟨gb529, 3, none⟩ (.slice Ao11 t489.length co11)).setCell ⟨gb529, 4, none⟩ (.slice Ao11 t489.length co11)).heap[gb516]? = some (.cells #[.int .i64 t506, .int .i64 t507, .int .u64 t508, .slice Ao27 t509.length co27, .slice Ao28 t512.length co28] 33 (0, 0))) := ⟨by (with_reducible repeat (first | refine blk_drewN ?_ _ | refine blk_drew ?_ | refine blk_alloc ?_ _)); refine blk_far ?_ NB516_529.out _; (with_reducible repeat (first | refine blk_drewN ?_ _ | refine blk_drew ?_ | refine blk_alloc ?_ _)); refine blk_far ?_ NB516_529.out _; (with_reducible repeat (first | refine blk_drewN ?_ _ | refine blk_drew ?_ | refine blk_alloc ?_ _)); refine blk_far ?_ NB516_529.out _; (with_reducible repeat (first | refine blk_drewN ?_ _ | refine blk_drew ?_ | refine blk_alloc ?_ _)); refine blk_far ?_ NB516_529.out _; (with_reducible repeat (first | refine blk_drewN ?_ _ | refine blk_drew ?_ | refine blk_alloc ?_ _)); refine blk_far ?_ NB516_529.out _; (with_reducible repeat (first | refine blk_drewN ?_ _ | refine blk_drew ?_ | refine blk_alloc ?_ _)); exact BK516.out⟩
                  have n10_ : Aside0 ((((((w55.setCell ⟨gb529, 0, none⟩ (.int .i64 a0_0)).setCell ⟨gb529, 1, none⟩ (.int .i64 a0_1)).setCell ⟨gb529, 2, none⟩ (.int .u64 a1)).setCell ⟨gb529, 3, none⟩ (.slice Ao11 t489.length co11)).setCell ⟨gb529, 4, none⟩ (.slice Ao11 t489.length co11)).heap[gb528]? = some (.cells #[.int .i64 t519, .int .i64 t520, .int .u64 t521, .slice Ao51 t522.length co51, .slice Ao52 t525.length co52] 33 (0, 0))) := ⟨by (with_reducible repeat (first | refine blk_drewN ?_ _ | refine blk_drew ?_ | refine blk_alloc ?_ _)); refine blk_far ?_ NB528_529.out _; (with_reducible repeat (first | refine blk_drewN ?_ _ | refine blk_drew ?_ | refine blk_alloc ?_ _)); refine blk_far ?_ NB528_529.out _; (with_reducible repeat (first | refine blk_drewN ?_ _ | refine blk_drew ?_ | refine blk_alloc ?_ _)); refine blk_far ?_ NB528_529.out _; (with_reducible repeat (first | refine blk_drewN ?_ _ | refine blk_drew ?_ | refine blk_alloc ?_ _)); refine blk_far ?_ NB528_529.out _; (with_reducible repeat (first | refine blk_drewN ?_ _ | refine blk_drew ?_ | refine blk_alloc ?_ _)); refine blk_far ?_ NB528_529.out _; (with_reducible repeat (first | refine blk_drewN ?_ _ | refine blk_drew ?_ | refine blk_alloc ?_ _)); exact BK528.out⟩
                  have n11_ : Aside0 ((((((w55.setCell ⟨gb529, 0, none⟩ (.int .i64 a0_0)).setCell ⟨gb529, 1, none⟩ (.int .i64 a0_1)).setCell ⟨gb529, 2, none⟩ (.int .u64 a1)).setCell ⟨gb529, 3, none⟩ (.slice Ao11 t489.length co11)).setCell ⟨gb529, 4, none⟩ (.slice Ao11 t489.length co11)).heap[gb529]? = some (.cells #[.int .i64 a0_0, .int .i64 a0_1, .int .u64 a1, .slice Ao11 t489.length co11, .slice Ao11 t489.length co11] 33 (0, 0))) := ⟨by (with_reducible repeat (first | refine blk_drewN ?_ _ | refine blk_drew ?_ | refine blk_alloc ?_ _)); refine blk_put (cs := #[.int .i64 a0_0, .int .i64 a0_1, .int .u64 a1, .slice Ao11 t489.length co11, .slice none 0 0]) ?_ 4 _ rfl; (with_reducible repeat (first | refine blk_drewN ?_ _ | refine blk_drew ?_ | refine blk_alloc ?_ _)); refine blk_put (cs := #[.int .i64 a0_0, .int .i64 a0_1, .int .u64 a1, .slice none 0 0, .slice none 0 0]) ?_ 3 _ rfl; (with_reducible repeat (first | refine blk_drewN ?_ _ | refine blk_drew ?_ | refine blk_alloc ?_ _)); refine blk_put (cs := #[.int .i64 a0_0, .int .i64 a0_1, .int .u64 0, .slice none 0 0, .slice none 0 0]) ?_ 2 _ rfl; (with_reducible repeat (first | refine blk_drewN ?_ _ | refine blk_drew ?_ | refine blk_alloc ?_ _)); refine blk_put (cs := #[.int .i64 a0_0, .int .i64 0, .int .u64 0, .slice none 0 0, .slice none 0 0]) ?_ 1 _ rfl; (with_reducible repeat (first | refine blk_drewN ?_ _ | refine blk_drew ?_ | refine blk_alloc ?_ _)); refine blk_put (cs := #[.int .i64 0, .int .i64 0, .int .u64 0, .slice none 0 0, .slice none 0 0]) ?_ 0 _ rfl; (with_reducible repeat (first | refine blk_drewN ?_ _ | refine blk_drew ?_ | refine blk_alloc ?_ _)); exact BK529.out⟩
                  have n12_ : Aside0 (Below w.heap.size w (((((w55.setCell ⟨gb529, 0, none⟩ (.int .i64 a0_0)).setCell ⟨gb529, 1, none⟩ (.int .i64 a0_1)).setCell ⟨gb529, 2, none⟩ (.int .u64 a1)).setCell ⟨gb529, 3, none⟩ (.slice Ao11 t489.length co11)).setCell ⟨gb529, 4, none⟩ (.slice Ao11 t489.length co11))) := ⟨by repeat (first | (with_reducible first | exact HB.out | apply below_alloc | apply pw_below_drewN | apply below_drew1 | refine below_set ?_ GE488.out | refine below_set ?_ GE505.out | refine below_set ?_ GE516.out | refine below_set ?_ GE528.out | refine below_set ?_ GE529.out) | exact HB.out)⟩
                  (try clear HO_2)
                  (try clear HO_506003)
                  (try clear HO_506004)
                  (try clear HO_517003)
                  (try clear HO_517004)
                  (try clear HO524)
                  (try clear HO527)
                  (try clear BK488)
                  (try clear BK505)
                  (try clear BK516)
                  (try clear BK528)
                  (try clear BK529)
                  (try clear HB)
                  generalize (((((w55.setCell ⟨gb529, 0, none⟩ (.int .i64 a0_0)).setCell ⟨gb529, 1, none⟩ (.int .i64 a0_1)).setCell ⟨gb529, 2, none⟩ (.int .u64 a1)).setCell ⟨gb529, 3, none⟩ (.slice Ao11 t489.length co11)).setCell ⟨gb529, 4, none⟩ (.slice Ao11 t489.length co11)) = w73 at n0_ n1_ n2_ n3_ n4_ n5_ n6_ n7_ n8_ n9_ n10_ n11_ n12_ ⊢
                  have HO_2 := n0_
                  have HO_506003 := n1_
                  have HO_506004 := n2_
                  have HO_517003 := n3_
                  have HO_517004 := n4_
                  have HO524 := n5_
                  have HO527 := n6_
                  have BK488 := n7_
                  have BK505 := n8_
                  have BK516 := n9_
                  have BK528 := n10_
                  have BK529 := n11_
                  have HB := n12_
                  clear n0_ n1_ n2_ n3_ n4_ n5_ n6_ n7_ n8_ n9_ n10_ n11_ n12_
                  have n0_ := Aside0.mk (Kd.V_drew HO_2.out)
                  have n1_ := Aside0.mk (Kd.R_drew HO_506003.out)
                  have n2_ := Aside0.mk (Kd.R_drew HO_506004.out)
                  have n3_ := Aside0.mk (Kd.R_drew HO_517003.out)
                  have n4_ := Aside0.mk (Kd.R_drew HO_517004.out)
                  have n5_ := Aside0.mk (Kd.R_drew HO524.out)
                  have n6_ := Aside0.mk (Kd.R_drew HO527.out)
                  have n7_ := Aside0.mk (blk_drew BK488.out)
                  have n8_ := Aside0.mk (blk_drew BK505.out)
                  have n9_ := Aside0.mk (blk_drew BK516.out)
                  have n10_ := Aside0.mk (blk_drew BK528.out)
                  have n11_ := Aside0.mk (blk_drew BK529.out)
                  have n12_ := Aside0.mk (below_drew1 HB.out)
                  clear HO_2
                  clear HO_506003
                  clear HO_506004
                  clear HO_517003
                  clear HO_517004
                  clear HO524
                  clear HO527
                  clear BK488
                  clear BK505
                  clear BK516
                  clear BK528
                  clear BK529
                  clear HB
                  have HO_2 := n0_
                  have HO_506003 := n1_
                  have HO_506004 := n2_
                  have HO_517003 := n3_
                  have HO_517004 := n4_
                  have HO524 := n5_
                  have HO527 := n6_
                  have BK488 := n7_
                  have BK505 := n8_
                  have BK516 := n9_
                  have BK528 := n10_
                  have BK529 := n11_
                  have HB := n12_
                  clear n0_ n1_ n2_ n3_ n4_ n5_ n6_ n7_ n8_ n9_ n10_ n11_ n12_
                  refine start_ (n := 33) (S := fun w' => w'.cell? ⟨gb505, 0, none⟩ = some (.int .i64 t495) ∧ w'.cell? ⟨gb505, 1, none⟩ = some (.int .i64 t496) ∧ w'.cell? ⟨gb505, 2, none⟩ = some (.int .u64 t497) ∧ w'.cell? ⟨gb505, 3, none⟩ = some (.slice Ao19 t498.length co19) ∧ w'.cell? ⟨gb505, 4, none⟩ = some (.slice Ao20 t501.length co20) ∧ w'.cell? ⟨gb529, 0, none⟩ = some (.int .i64 a0_0) ∧ w'.cell? ⟨gb529, 1, none⟩ = some (.int .i64 a0_1) ∧ w'.cell? ⟨gb529, 2, none⟩ = some (.int .u64 a1) ∧ w'.cell? ⟨gb529, 3, none⟩ = some (.slice Ao11 t489.length co11) ∧ w'.cell? ⟨gb529, 4, none⟩ = some (.slice Ao11 t489.length co11) ∧ w'.cell? ⟨gb516, 0, none⟩ = some (.int .i64 t506) ∧ w'.cell? ⟨gb516, 1, none⟩ = some (.int .i64 t507) ∧ w'.cell? ⟨gb516, 2, none⟩ = some (.int .u64 t508) ∧ w'.cell? ⟨gb516, 3, none⟩ = some (.slice Ao27 t509.length co27) ∧ w'.cell? ⟨gb516, 4, none⟩ = some (.slice Ao28 t512.length co28) ∧ w'.cell? ⟨gb528, 0, none⟩ = some (.int .i64 t519) ∧ w'.cell? ⟨gb528, 1, none⟩ = some (.int .i64 t520) ∧ w'.cell? ⟨gb528, 2, none⟩ = some (.int .u64 t521) ∧ w'.cell? ⟨gb528, 3, none⟩ = some (.slice Ao51 t522.length co51) ∧ w'.cell? ⟨gb528, 4, none⟩ = some (.slice Ao52 t525.length co52)) (ds := []) #[false, false, false, false, false, false, false, false, false, false, false, false, false, false, false, false, false, false, false, false, false, false, false, false, false, false, false, false, false, false, false, false, false] (by kernel_rfl) rfl rfl ⟨(blk_cell BK505.out 0).trans rfl, (blk_cell BK505.out 1).trans rfl, (blk_cell BK505.out 2).trans rfl, (blk_cell BK505.out 3).trans rfl, (blk_cell BK505.out 4).trans rfl, (blk_cell BK529.out 0).trans rfl, (blk_cell BK529.out 1).trans rfl, (blk_cell BK529.out 2).trans rfl, (blk_cell BK529.out 3).trans rfl, (blk_cell BK529.out 4).trans rfl, (blk_cell BK516.out 0).trans rfl, (blk_cell BK516.out 1).trans rfl, (blk_cell BK516.out 2).trans rfl, (blk_cell BK516.out 3).trans rfl, (blk_cell BK516.out 4).trans rfl, (blk_cell BK528.out 0).trans rfl, (blk_cell BK528.out 1).trans rfl, (blk_cell BK528.out 2).trans rfl, (blk_cell BK528.out 3).trans rfl, (blk_cell BK528.out 4).trans rfl⟩ (fun hHeld => ?_); refine with_tabW signetrylaw01_WireMakes.tab9 signetrylaw01_WireMakes.bits9 (fun HT_ HW_ => ?_)
                  generalize w73.drew = w74 at HO_2 HO_506003 HO_506004 HO_517003 HO_517004 HO524 HO527 BK488 BK505 BK516 BK528 BK529 HB hHeld ⊢
                  refine take_ (i := 0) (N := some 65) (v := ?_) (a' := ?_) #[true, false, false, false, false, false, false, false, false, false, false, false, false, false, false, false, false, false, false, false, false, false, false, false, false, false, false, false, false, false, false, false, false] rfl rfl (take_ofW HT_.out HW_.out (by kernel_rfl)) (fun _ _ _ h => h) (Or.inl ⟨by rfl, ?_⟩) hHeld ?_ ?_
                  rotate_left
                  · rintro w' ⟨s0, s1, s2, s3, s4, s5, s6, s7, s8, s9, s10, s11, s12, s13, s14, s15, s16, s17, s18, s19⟩
                    go_simp
                    with_reducible rfl
                  rotate_left
                  · simp only [Act.put, List.setIfInBounds_toArray, List.set_cons_zero, List.set_cons_succ, i64_w, i32_w]
                    rfl
                  refine take_ (i := 1) (N := some 66) (v := ?_) (a' := ?_) #[true, true, false, false, false, false, false, false, false, false, false, false, false, false, false, false, false, false, false, false, false, false, false, false, false, false, false, false, false, false, false, false, false] rfl rfl (take_ofW HT_.out HW_.out (by kernel_rfl)) (fun _ _ _ h => h) (Or.inl ⟨by rfl, ?_⟩) hHeld ?_ ?_
                  rotate_left
                  · rintro w' ⟨s0, s1, s2, s3, s4, s5, s6, s7, s8, s9, s10, s11, s12, s13, s14, s15, s16, s17, s18, s19⟩
                    go_simp
                    with_reducible rfl
                  rotate_left
                  · simp only [Act.put, List.setIfInBounds_toArray, List.set_cons_zero, List.set_cons_succ, i64_w, i32_w]
                    rfl
                  refine take_ (i := 3) (N := some 68) (v := ?_) (a' := ?_) #[true, true, false, true, false, false, false, false, false, false, false, false, false, false, false, false, false, false, false, false, false, false, false, false, false, false, false, false, false, false, false, false, false] rfl rfl (take_ofW HT_.out HW_.out (by kernel_rfl)) (fun _ _ _ h => h) (Or.inl ⟨by rfl, ?_⟩) hHeld ?_ ?_
                  rotate_left
                  · rintro w' ⟨s0, s1, s2, s3, s4, s5, s6, s7, s8, s9, s10, s11, s12, s13, s14, s15, s16, s17, s18, s19⟩
                    go_simp
                    with_reducible rfl
                  rotate_left
                  · simp only [Act.put, List.setIfInBounds_toArray, List.set_cons_zero, List.set_cons_succ, i64_w, i32_w]
                    rfl
                  refine take_ (i := 4) (N := some 69) (v := ?_) (a' := ?_) #[true, true, false, true, true, false, false, false, false, false, false, false, false, false, false, false, false, false, false, false, false, false, false, false, false, false, false, false, false, false, false, false, false] rfl rfl (take_ofW HT_.out HW_.out (by kernel_rfl)) (fun _ _ _ h => h) (Or.inl ⟨by rfl, ?_⟩) hHeld ?_ ?_
                  rotate_left
                  · rintro w' ⟨s0, s1, s2, s3, s4, s5, s6, s7, s8, s9, s10, s11, s12, s13, s14, s15, s16, s17, s18, s19⟩
                    go_simp
                    with_reducible rfl
                  rotate_left
                  · simp only [Act.put, List.setIfInBounds_toArray, List.set_cons_zero, List.set_cons_succ, i64_w, i32_w]
                    rfl
                  refine one_ (i := 2) (N := some 67) #[true, true, true, true, true, false, false, false, false, false, false, false, false, false, false, false, false, false, false, false, false, false, false, false, false, false, false, false, false, false, false, false, false] rfl rfl (one_of HT_.out (by kernel_rfl)) (by decide) (fun K hK => ?_)
                  refine goes_ Try.func35 (by kernel_rfl) rfl #[.agg #[.int .i64 t495, .int .i64 t496, .int .u64 t497, .slice Ao19 t498.length co19, .slice Ao20 t501.length co20], .agg #[.int .i64 a0_0, .int .i64 a0_1, .int .u64 a1, .slice Ao11 t489.length co11, .slice Ao11 t489.length co11]] (by rfl) rfl rfl (by (try simp only [List.map_toArray, List.map_cons, List.map_nil]); first | done | rfl | (simp only [List.length_drop, List.length_take]; rfl)) ?_
                  with_reducible refine (wire_Same.calls kj7 t495 t496 t497 _ _ t498 _ _ t501 a0_0 a0_1 a1 _ _ t489 _ _ t489 t530 _ ?side1 ?side2 ?side3 ?side4 ?side5 ?side6 ?side7 ?side8 A61.out).mono ?_
                  (case side1 => repeat (first | exact (Kd.R_reads' HO_506003.out).2.2 | (with_reducible refine Kd.C_alloc ?_ _) | (with_reducible refine Kd.C_drewN ?_ _) | (with_reducible refine Kd.C_drew ?_)))
                  (case side2 => exact (Kd.R_reads' HO_506003.out).2.1)
                  (case side3 => repeat (first | exact (Kd.R_reads' HO_506004.out).2.2 | (with_reducible refine Kd.C_alloc ?_ _) | (with_reducible refine Kd.C_drewN ?_ _) | (with_reducible refine Kd.C_drew ?_)))
                  (case side4 => exact (Kd.R_reads' HO_506004.out).2.1)
                  (case side5 => repeat (first | exact (Kd.V_reads' HO_2.out).2.2 | (with_reducible refine Kd.C_alloc ?_ _) | (with_reducible refine Kd.C_drewN ?_ _) | (with_reducible refine Kd.C_drew ?_)))
                  (case side6 => exact (Kd.V_reads' HO_2.out).2.1)
                  (case side7 => repeat (first | exact (Kd.V_reads' HO_2.out).2.2 | (with_reducible refine Kd.C_alloc ?_ _) | (with_reducible refine Kd.C_drewN ?_ _) | (with_reducible refine Kd.C_drew ?_)))
                  (case side8 => exact (Kd.V_reads' HO_2.out).2.1)
                  rintro e w75 ⟨rfl, hb⟩
                  refine ⟨_, rfl, ?_⟩
                  have n0_ := Aside0.mk (Kd.V_below (by (with_reducible repeat (first | apply Kd.V_alloc | apply Kd.V_drewN | apply Kd.V_drew)); exact HO_2.out) hb)
                  have n1_ := Aside0.mk (Kd.R_below (by (with_reducible repeat (first | apply Kd.R_alloc | apply Kd.R_drewN | apply Kd.R_drew)); exact HO_506003.out) hb)
                  have n2_ := Aside0.mk (Kd.R_below (by (with_reducible repeat (first | apply Kd.R_alloc | apply Kd.R_drewN | apply Kd.R_drew)); exact HO_506004.out) hb)
                  have n3_ := Aside0.mk (Kd.R_below (by (with_reducible repeat (first | apply Kd.R_alloc | apply Kd.R_drewN | apply Kd.R_drew)); exact HO_517003.out) hb)
                  have n4_ := Aside0.mk (Kd.R_below (by (with_reducible repeat (first | apply Kd.R_alloc | apply Kd.R_drewN | apply Kd.R_drew)); exact HO_517004.out) hb)
                  have n5_ := Aside0.mk (Kd.R_below (by (with_reducible repeat (first | apply Kd.R_alloc | apply Kd.R_drewN | apply Kd.R_drew)); exact HO524.out) hb)
                  have n6_ := Aside0.mk (Kd.R_below (by (with_reducible repeat (first | apply Kd.R_alloc | apply Kd.R_drewN | apply Kd.R_drew)); exact HO527.out) hb)
                  have n7_ := Aside0.mk (blk_below (g := gb488) (o := .cells #[.int .i64 a0_0, .int .i64 a0_1] 52 (0, 0)) (by (with_reducible repeat (first | refine blk_drewN ?_ _ | refine blk_drew ?_ | refine blk_alloc ?_ _)); exact BK488.out) hb)
                  have n8_ := Aside0.mk (blk_below (g := gb505) (o := .cells #[.int .i64 t495, .int .i64 t496, .int .u64 t497, .slice Ao19 t498.length co19, .slice Ao20 t501.length co20] 33 (0, 0)) (by (with_reducible repeat (first | refine blk_drewN ?_ _ | refine blk_drew ?_ | refine blk_alloc ?_ _)); exact BK505.out) hb)
                  have n9_ := Aside0.mk (blk_below (g := gb516) (o := .cells #[.int .i64 t506, .int .i64 t507, .int .u64 t508, .slice Ao27 t509.length co27, .slice Ao28 t512.length co28] 33 (0, 0)) (by (with_reducible repeat (first | refine blk_drewN ?_ _ | refine blk_drew ?_ | refine blk_alloc ?_ _)); exact BK516.out) hb)
                  have n10_ := Aside0.mk (blk_below (g := gb528) (o := .cells #[.int .i64 t519, .int .i64 t520, .int .u64 t521, .slice Ao51 t522.length co51, .slice Ao52 t525.length co52] 33 (0, 0)) (by (with_reducible repeat (first | refine blk_drewN ?_ _ | refine blk_drew ?_ | refine blk_alloc ?_ _)); exact BK528.out) hb)
                  have n11_ := Aside0.mk (blk_below (g := gb529) (o := .cells #[.int .i64 a0_0, .int .i64 a0_1, .int .u64 a1, .slice Ao11 t489.length co11, .slice Ao11 t489.length co11] 33 (0, 0)) (by (with_reducible repeat (first | refine blk_drewN ?_ _ | refine blk_drew ?_ | refine blk_alloc ?_ _)); exact BK529.out) hb)
                  have n12_ := Aside0.mk (below_step (by repeat (first | (with_reducible first | exact HB.out | apply below_alloc | apply pw_below_drewN | apply below_drew1 | refine below_set ?_ GE488.out | refine below_set ?_ GE505.out | refine below_set ?_ GE516.out | refine below_set ?_ GE528.out | refine below_set ?_ GE529.out) | exact HB.out)) hb)
                  clear HO_2
                  clear HO_506003
                  clear HO_506004
                  clear HO_517003
                  clear HO_517004
                  clear HO524
                  clear HO527
                  clear BK488
                  clear BK505
                  clear BK516
                  clear BK528
                  clear BK529
                  clear HB
                  have HO_2 := n0_
                  have HO_506003 := n1_
                  have HO_506004 := n2_
                  have HO_517003 := n3_
                  have HO_517004 := n4_
                  have HO524 := n5_
                  have HO527 := n6_
                  have BK488 := n7_
                  have BK505 := n8_
                  have BK516 := n9_
                  have BK528 := n10_
                  have BK529 := n11_
                  have HB := n12_
                  clear n0_ n1_ n2_ n3_ n4_ n5_ n6_ n7_ n8_ n9_ n10_ n11_ n12_
                  (try clear hb)
                  (try clear hb2)
                  (try clear hk)
                  (try clear hi)
                  refine hK.out _ _ ⟨(blk_cell BK505.out 0).trans rfl, (blk_cell BK505.out 1).trans rfl, (blk_cell BK505.out 2).trans rfl, (blk_cell BK505.out 3).trans rfl, (blk_cell BK505.out 4).trans rfl, (blk_cell BK529.out 0).trans rfl, (blk_cell BK529.out 1).trans rfl, (blk_cell BK529.out 2).trans rfl, (blk_cell BK529.out 3).trans rfl, (blk_cell BK529.out 4).trans rfl, (blk_cell BK516.out 0).trans rfl, (blk_cell BK516.out 1).trans rfl, (blk_cell BK516.out 2).trans rfl, (blk_cell BK516.out 3).trans rfl, (blk_cell BK516.out 4).trans rfl, (blk_cell BK528.out 0).trans rfl, (blk_cell BK528.out 1).trans rfl, (blk_cell BK528.out 2).trans rfl, (blk_cell BK528.out 3).trans rfl, (blk_cell BK528.out 4).trans rfl⟩ (fun hHeld => ?_)
                  clear hK K
                  refine norm_ (a' := ?_) ?_ ?_
                  rotate_left
                  · show Act.put _ (some 67) _ = _
                    simp only [Act.put, List.setIfInBounds_toArray, List.set_cons_zero, List.set_cons_succ, i64_w, i32_w]
                    rfl
                  refine one_ (i := 5) (N := some 70) #[true, true, true, true, true, true, false, false, false, false, false, false, false, false, false, false, false, false, false, false, false, false, false, false, false, false, false, false, false, false, false, false, false] rfl rfl (one_of HT_.out (by kernel_rfl)) (by decide) (fun K hK => ?_)
                  refine goes_ Try.func28 (by kernel_rfl) rfl #[.agg #[.int .i64 t506, .int .i64 t507, .int .u64 t508, .slice Ao27 t509.length co27, .slice Ao28 t512.length co28], .agg #[.int .i64 a0_0, .int .i64 a0_1, .int .u64 a1, .slice Ao11 t489.length co11, .slice Ao11 t489.length co11]] (by rfl) rfl rfl (by (try simp only [List.map_toArray, List.map_cons, List.map_nil]); first | done | rfl | (simp only [List.length_drop, List.length_take]; rfl)) ?_
                  with_reducible refine (signetryref01_Same.calls t506 t507 t508 _ _ t509 _ _ t512 a0_0 a0_1 a1 _ _ t489 _ _ t489 t531 _ ?side1 ?side2 ?side3 ?side4 ?side5 ?side6 ?side7 ?side8 A62.out).mono ?_
                  (case side1 => repeat (first | exact (Kd.R_reads' HO_517003.out).2.2 | (with_reducible refine Kd.C_alloc ?_ _) | (with_reducible refine Kd.C_drewN ?_ _) | (with_reducible refine Kd.C_drew ?_)))
                  (case side2 => exact (Kd.R_reads' HO_517003.out).2.1)
                  (case side3 => repeat (first | exact (Kd.R_reads' HO_517004.out).2.2 | (with_reducible refine Kd.C_alloc ?_ _) | (with_reducible refine Kd.C_drewN ?_ _) | (with_reducible refine Kd.C_drew ?_)))
                  (case side4 => exact (Kd.R_reads' HO_517004.out).2.1)
                  (case side5 => repeat (first | exact (Kd.V_reads' HO_2.out).2.2 | (with_reducible refine Kd.C_alloc ?_ _) | (with_reducible refine Kd.C_drewN ?_ _) | (with_reducible refine Kd.C_drew ?_)))
                  (case side6 => exact (Kd.V_reads' HO_2.out).2.1)
                  (case side7 => repeat (first | exact (Kd.V_reads' HO_2.out).2.2 | (with_reducible refine Kd.C_alloc ?_ _) | (with_reducible refine Kd.C_drewN ?_ _) | (with_reducible refine Kd.C_drew ?_)))
                  (case side8 => exact (Kd.V_reads' HO_2.out).2.1)
                  rintro e w76 ⟨rfl, hb⟩
                  refine ⟨_, rfl, ?_⟩
                  have n0_ := Aside0.mk (Kd.V_below (by (with_reducible repeat (first | apply Kd.V_alloc | apply Kd.V_drewN | apply Kd.V_drew)); exact HO_2.out) hb)
                  have n1_ := Aside0.mk (Kd.R_below (by (with_reducible repeat (first | apply Kd.R_alloc | apply Kd.R_drewN | apply Kd.R_drew)); exact HO_506003.out) hb)
                  have n2_ := Aside0.mk (Kd.R_below (by (with_reducible repeat (first | apply Kd.R_alloc | apply Kd.R_drewN | apply Kd.R_drew)); exact HO_506004.out) hb)
                  have n3_ := Aside0.mk (Kd.R_below (by (with_reducible repeat (first | apply Kd.R_alloc | apply Kd.R_drewN | apply Kd.R_drew)); exact HO_517003.out) hb)
                  have n4_ := Aside0.mk (Kd.R_below (by (with_reducible repeat (first | apply Kd.R_alloc | apply Kd.R_drewN | apply Kd.R_drew)); exact HO_517004.out) hb)
                  have n5_ := Aside0.mk (Kd.R_below (by (with_reducible repeat (first | apply Kd.R_alloc | apply Kd.R_drewN | apply Kd.R_drew)); exact HO524.out) hb)
                  have n6_ := Aside0.mk (Kd.R_below (by (with_reducible repeat (first | apply Kd.R_alloc | apply Kd.R_drewN | apply Kd.R_drew)); exact HO527.out) hb)
                  have n7_ := Aside0.mk (blk_below (g := gb488) (o := .cells #[.int .i64 a0_0, .int .i64 a0_1] 52 (0, 0)) (by (with_reducible repeat (first | refine blk_drewN ?_ _ | refine blk_drew ?_ | refine blk_alloc ?_ _)); exact BK488.out) hb)
                  have n8_ := Aside0.mk (blk_below (g := gb505) (o := .cells #[.int .i64 t495, .int .i64 t496, .int .u64 t497, .slice Ao19 t498.length co19, .slice Ao20 t501.length co20] 33 (0, 0)) (by (with_reducible repeat (first | refine blk_drewN ?_ _ | refine blk_drew ?_ | refine blk_alloc ?_ _)); exact BK505.out) hb)
                  have n9_ := Aside0.mk (blk_below (g := gb516) (o := .cells #[.int .i64 t506, .int .i64 t507, .int .u64 t508, .slice Ao27 t509.length co27, .slice Ao28 t512.length co28] 33 (0, 0)) (by (with_reducible repeat (first | refine blk_drewN ?_ _ | refine blk_drew ?_ | refine blk_alloc ?_ _)); exact BK516.out) hb)
                  have n10_ := Aside0.mk (blk_below (g := gb528) (o := .cells #[.int .i64 t519, .int .i64 t520, .int .u64 t521, .slice Ao51 t522.length co51, .slice Ao52 t525.length co52] 33 (0, 0)) (by (with_reducible repeat (first | refine blk_drewN ?_ _ | refine blk_drew ?_ | refine blk_alloc ?_ _)); exact BK528.out) hb)
                  have n11_ := Aside0.mk (blk_below (g := gb529) (o := .cells #[.int .i64 a0_0, .int .i64 a0_1, .int .u64 a1, .slice Ao11 t489.length co11, .slice Ao11 t489.length co11] 33 (0, 0)) (by (with_reducible repeat (first | refine blk_drewN ?_ _ | refine blk_drew ?_ | refine blk_alloc ?_ _)); exact BK529.out) hb)
                  have n12_ := Aside0.mk (below_step (by repeat (first | (with_reducible first | exact HB.out | apply below_alloc | apply pw_below_drewN | apply below_drew1 | refine below_set ?_ GE488.out | refine below_set ?_ GE505.out | refine below_set ?_ GE516.out | refine below_set ?_ GE528.out | refine below_set ?_ GE529.out) | exact HB.out)) hb)
                  clear HO_2
                  clear HO_506003
                  clear HO_506004
                  clear HO_517003
                  clear HO_517004
                  clear HO524
                  clear HO527
                  clear BK488
                  clear BK505
                  clear BK516
                  clear BK528
                  clear BK529
                  clear HB
                  have HO_2 := n0_
                  have HO_506003 := n1_
                  have HO_506004 := n2_
                  have HO_517003 := n3_
                  have HO_517004 := n4_
                  have HO524 := n5_
                  have HO527 := n6_
                  have BK488 := n7_
                  have BK505 := n8_
                  have BK516 := n9_
                  have BK528 := n10_
                  have BK529 := n11_
                  have HB := n12_
                  clear n0_ n1_ n2_ n3_ n4_ n5_ n6_ n7_ n8_ n9_ n10_ n11_ n12_
                  (try clear hb)
                  (try clear hb2)
                  (try clear hk)
                  (try clear hi)
                  refine hK.out _ _ ⟨(blk_cell BK505.out 0).trans rfl, (blk_cell BK505.out 1).trans rfl, (blk_cell BK505.out 2).trans rfl, (blk_cell BK505.out 3).trans rfl, (blk_cell BK505.out 4).trans rfl, (blk_cell BK529.out 0).trans rfl, (blk_cell BK529.out 1).trans rfl, (blk_cell BK529.out 2).trans rfl, (blk_cell BK529.out 3).trans rfl, (blk_cell BK529.out 4).trans rfl, (blk_cell BK516.out 0).trans rfl, (blk_cell BK516.out 1).trans rfl, (blk_cell BK516.out 2).trans rfl, (blk_cell BK516.out 3).trans rfl, (blk_cell BK516.out 4).trans rfl, (blk_cell BK528.out 0).trans rfl, (blk_cell BK528.out 1).trans rfl, (blk_cell BK528.out 2).trans rfl, (blk_cell BK528.out 3).trans rfl, (blk_cell BK528.out 4).trans rfl⟩ (fun hHeld => ?_)
                  clear hK K
                  refine norm_ (a' := ?_) ?_ ?_
                  rotate_left
                  · show Act.put _ (some 70) _ = _
                    simp only [Act.put, List.setIfInBounds_toArray, List.set_cons_zero, List.set_cons_succ, i64_w, i32_w]
                    rfl
                  refine pure_ (i := 6) (N := some 71) (v := ?_) (a' := ?_) #[true, true, true, true, true, true, true, false, false, false, false, false, false, false, false, false, false, false, false, false, false, false, false, false, false, false, false, false, false, false, false, false, false] rfl rfl (any_of HT_.out (by kernel_rfl)) (fun _ _ _ h => h) (Or.inl ⟨by rfl, ?_⟩) ?_ ?_
                  rotate_left
                  · intro w'
                    go_simp
                    with_reducible rfl
                  rotate_left
                  · simp only [Act.put, List.setIfInBounds_toArray, List.set_cons_zero, List.set_cons_succ, i64_w, i32_w]
                    rfl
                  refine pure_ (i := 7) (N := some 72) (v := ?_) (a' := ?_) #[true, true, true, true, true, true, true, true, false, false, false, false, false, false, false, false, false, false, false, false, false, false, false, false, false, false, false, false, false, false, false, false, false] rfl rfl (any_of HT_.out (by kernel_rfl)) (fun _ _ _ h => h) (Or.inl ⟨by rfl, ?_⟩) ?_ ?_
                  rotate_left
                  · intro w'
                    go_simp
                    with_reducible rfl
                  rotate_left
                  · simp only [Act.put, List.setIfInBounds_toArray, List.set_cons_zero, List.set_cons_succ, i64_w, i32_w]
                    rfl
                  refine take_ (i := 8) (N := some 73) (v := ?_) (a' := ?_) #[true, true, true, true, true, true, true, true, true, false, false, false, false, false, false, false, false, false, false, false, false, false, false, false, false, false, false, false, false, false, false, false, false] rfl rfl (take_ofW HT_.out HW_.out (by kernel_rfl)) (fun _ _ _ h => h) (Or.inl ⟨by rfl, ?_⟩) hHeld ?_ ?_
                  rotate_left
                  · rintro w' ⟨s0, s1, s2, s3, s4, s5, s6, s7, s8, s9, s10, s11, s12, s13, s14, s15, s16, s17, s18, s19⟩
                    go_simp
                    with_reducible rfl
                  rotate_left
                  · simp only [Act.put, List.setIfInBounds_toArray, List.set_cons_zero, List.set_cons_succ, i64_w, i32_w]
                    rfl
                  refine take_ (i := 9) (N := some 74) (v := ?_) (a' := ?_) #[true, true, true, true, true, true, true, true, true, true, false, false, false, false, false, false, false, false, false, false, false, false, false, false, false, false, false, false, false, false, false, false, false] rfl rfl (take_ofW HT_.out HW_.out (by kernel_rfl)) (fun _ _ _ h => h) (Or.inl ⟨by rfl, ?_⟩) hHeld ?_ ?_
                  rotate_left
                  · rintro w' ⟨s0, s1, s2, s3, s4, s5, s6, s7, s8, s9, s10, s11, s12, s13, s14, s15, s16, s17, s18, s19⟩
                    go_simp
                    with_reducible rfl
                  rotate_left
                  · simp only [Act.put, List.setIfInBounds_toArray, List.set_cons_zero, List.set_cons_succ, i64_w, i32_w]
                    rfl
                  refine one_ (i := 10) (N := some 75) #[true, true, true, true, true, true, true, true, true, true, true, false, false, false, false, false, false, false, false, false, false, false, false, false, false, false, false, false, false, false, false, false, false] rfl rfl (one_of HT_.out (by kernel_rfl)) (by decide) (fun K hK => ?_)
                  refine goes_ Try.func35 (by kernel_rfl) rfl #[.agg #[.int .i64 a0_0, .int .i64 a0_1, .int .u64 a1, .slice Ao11 t489.length co11, .slice Ao11 t489.length co11], .agg #[.int .i64 a0_0, .int .i64 a0_1, .int .u64 a1, .slice Ao11 t489.length co11, .slice Ao11 t489.length co11]] (by rfl) rfl rfl (by (try simp only [List.map_toArray, List.map_cons, List.map_nil]); first | done | rfl | (simp only [List.length_drop, List.length_take]; rfl)) ?_
                  with_reducible refine (wire_Same.calls kj7 a0_0 a0_1 a1 _ _ t489 _ _ t489 a0_0 a0_1 a1 _ _ t489 _ _ t489 t532 _ ?side1 ?side2 ?side3 ?side4 ?side5 ?side6 ?side7 ?side8 A64.out).mono ?_
                  (case side1 => repeat (first | exact (Kd.V_reads' HO_2.out).2.2 | (with_reducible refine Kd.C_alloc ?_ _) | (with_reducible refine Kd.C_drewN ?_ _) | (with_reducible refine Kd.C_drew ?_)))
                  (case side2 => exact (Kd.V_reads' HO_2.out).2.1)
                  (case side3 => repeat (first | exact (Kd.V_reads' HO_2.out).2.2 | (with_reducible refine Kd.C_alloc ?_ _) | (with_reducible refine Kd.C_drewN ?_ _) | (with_reducible refine Kd.C_drew ?_)))
                  (case side4 => exact (Kd.V_reads' HO_2.out).2.1)
                  (case side5 => repeat (first | exact (Kd.V_reads' HO_2.out).2.2 | (with_reducible refine Kd.C_alloc ?_ _) | (with_reducible refine Kd.C_drewN ?_ _) | (with_reducible refine Kd.C_drew ?_)))
                  (case side6 => exact (Kd.V_reads' HO_2.out).2.1)
                  (case side7 => repeat (first | exact (Kd.V_reads' HO_2.out).2.2 | (with_reducible refine Kd.C_alloc ?_ _) | (with_reducible refine Kd.C_drewN ?_ _) | (with_reducible refine Kd.C_drew ?_)))
                  (case side8 => exact (Kd.V_reads' HO_2.out).2.1)
                  rintro e w77 ⟨rfl, hb⟩
                  refine ⟨_, rfl, ?_⟩
                  have n0_ := Aside0.mk (Kd.V_below (by (with_reducible repeat (first | apply Kd.V_alloc | apply Kd.V_drewN | apply Kd.V_drew)); exact HO_2.out) hb)
                  have n1_ := Aside0.mk (Kd.R_below (by (with_reducible repeat (first | apply Kd.R_alloc | apply Kd.R_drewN | apply Kd.R_drew)); exact HO_506003.out) hb)
                  have n2_ := Aside0.mk (Kd.R_below (by (with_reducible repeat (first | apply Kd.R_alloc | apply Kd.R_drewN | apply Kd.R_drew)); exact HO_506004.out) hb)
                  have n3_ := Aside0.mk (Kd.R_below (by (with_reducible repeat (first | apply Kd.R_alloc | apply Kd.R_drewN | apply Kd.R_drew)); exact HO_517003.out) hb)
                  have n4_ := Aside0.mk (Kd.R_below (by (with_reducible repeat (first | apply Kd.R_alloc | apply Kd.R_drewN | apply Kd.R_drew)); exact HO_517004.out) hb)
                  have n5_ := Aside0.mk (Kd.R_below (by (with_reducible repeat (first | apply Kd.R_alloc | apply Kd.R_drewN | apply Kd.R_drew)); exact HO524.out) hb)
                  have n6_ := Aside0.mk (Kd.R_below (by (with_reducible repeat (first | apply Kd.R_alloc | apply Kd.R_drewN | apply Kd.R_drew)); exact HO527.out) hb)
                  have n7_ := Aside0.mk (blk_below (g := gb488) (o := .cells #[.int .i64 a0_0, .int .i64 a0_1] 52 (0, 0)) (by (with_reducible repeat (first | refine blk_drewN ?_ _ | refine blk_drew ?_ | refine blk_alloc ?_ _)); exact BK488.out) hb)
                  have n8_ := Aside0.mk (blk_below (g := gb505) (o := .cells #[.int .i64 t495, .int .i64 t496, .int .u64 t497, .slice Ao19 t498.length co19, .slice Ao20 t501.length co20] 33 (0, 0)) (by (with_reducible repeat (first | refine blk_drewN ?_ _ | refine blk_drew ?_ | refine blk_alloc ?_ _)); exact BK505.out) hb)
                  have n9_ := Aside0.mk (blk_below (g := gb516) (o := .cells #[.int .i64 t506, .int .i64 t507, .int .u64 t508, .slice Ao27 t509.length co27, .slice Ao28 t512.length co28] 33 (0, 0)) (by (with_reducible repeat (first | refine blk_drewN ?_ _ | refine blk_drew ?_ | refine blk_alloc ?_ _)); exact BK516.out) hb)
                  have n10_ := Aside0.mk (blk_below (g := gb528) (o := .cells #[.int .i64 t519, .int .i64 t520, .int .u64 t521, .slice Ao51 t522.length co51, .slice Ao52 t525.length co52] 33 (0, 0)) (by (with_reducible repeat (first | refine blk_drewN ?_ _ | refine blk_drew ?_ | refine blk_alloc ?_ _)); exact BK528.out) hb)
                  have n11_ := Aside0.mk (blk_below (g := gb529) (o := .cells #[.int .i64 a0_0, .int .i64 a0_1, .int .u64 a1, .slice Ao11 t489.length co11, .slice Ao11 t489.length co11] 33 (0, 0)) (by (with_reducible repeat (first | refine blk_drewN ?_ _ | refine blk_drew ?_ | refine blk_alloc ?_ _)); exact BK529.out) hb)
                  have n12_ := Aside0.mk (below_step (by repeat (first | (with_reducible first | exact HB.out | apply below_alloc | apply pw_below_drewN | apply below_drew1 | refine below_set ?_ GE488.out | refine below_set ?_ GE505.out | refine below_set ?_ GE516.out | refine below_set ?_ GE528.out | refine below_set ?_ GE529.out) | exact HB.out)) hb)
                  clear HO_2
                  clear HO_506003
                  clear HO_506004
                  clear HO_517003
                  clear HO_517004
                  clear HO524
                  clear HO527
                  clear BK488
                  clear BK505
                  clear BK516
                  clear BK528
                  clear BK529
                  clear HB
                  have HO_2 := n0_
                  have HO_506003 := n1_
                  have HO_506004 := n2_
                  have HO_517003 := n3_
                  have HO_517004 := n4_
                  have HO524 := n5_
                  have HO527 := n6_
                  have BK488 := n7_
                  have BK505 := n8_
                  have BK516 := n9_
                  have BK528 := n10_
                  have BK529 := n11_
                  have HB := n12_
                  clear n0_ n1_ n2_ n3_ n4_ n5_ n6_ n7_ n8_ n9_ n10_ n11_ n12_
                  (try clear hb)
                  (try clear hb2)
                  (try clear hk)
                  (try clear hi)
                  refine hK.out _ _ ⟨(blk_cell BK505.out 0).trans rfl, (blk_cell BK505.out 1).trans rfl, (blk_cell BK505.out 2).trans rfl, (blk_cell BK505.out 3).trans rfl, (blk_cell BK505.out 4).trans rfl, (blk_cell BK529.out 0).trans rfl, (blk_cell BK529.out 1).trans rfl, (blk_cell BK529.out 2).trans rfl, (blk_cell BK529.out 3).trans rfl, (blk_cell BK529.out 4).trans rfl, (blk_cell BK516.out 0).trans rfl, (blk_cell BK516.out 1).trans rfl, (blk_cell BK516.out 2).trans rfl, (blk_cell BK516.out 3).trans rfl, (blk_cell BK516.out 4).trans rfl, (blk_cell BK528.out 0).trans rfl, (blk_cell BK528.out 1).trans rfl, (blk_cell BK528.out 2).trans rfl, (blk_cell BK528.out 3).trans rfl, (blk_cell BK528.out 4).trans rfl⟩ (fun hHeld => ?_)
                  clear hK K
                  refine norm_ (a' := ?_) ?_ ?_
                  rotate_left
                  · show Act.put _ (some 75) _ = _
                    simp only [Act.put, List.setIfInBounds_toArray, List.set_cons_zero, List.set_cons_succ, i64_w, i32_w]
                    rfl
                  refine pure_ (i := 11) (N := some 76) (v := ?_) (a' := ?_) #[true, true, true, true, true, true, true, true, true, true, true, true, false, false, false, false, false, false, false, false, false, false, false, false, false, false, false, false, false, false, false, false, false] rfl rfl (any_of HT_.out (by kernel_rfl)) (fun _ _ _ h => h) (Or.inl ⟨by rfl, ?_⟩) ?_ ?_
                  rotate_left
                  · intro w'
                    go_simp
                    with_reducible rfl
                  rotate_left
                  · simp only [Act.put, List.setIfInBounds_toArray, List.set_cons_zero, List.set_cons_succ, i64_w, i32_w]
                    rfl
                  refine pure_ (i := 12) (N := some 77) (v := ?_) (a' := ?_) #[true, true, true, true, true, true, true, true, true, true, true, true, true, false, false, false, false, false, false, false, false, false, false, false, false, false, false, false, false, false, false, false, false] rfl rfl (any_of HT_.out (by kernel_rfl)) (fun _ _ _ h => h) (Or.inl ⟨by rfl, ?_⟩) ?_ ?_
                  rotate_left
                  · intro w'
                    go_simp
                    with_reducible rfl
                  rotate_left
                  · simp only [Act.put, List.setIfInBounds_toArray, List.set_cons_zero, List.set_cons_succ, i64_w, i32_w]
                    rfl
                  refine pure_ (i := 13) (N := some 78) (v := ?_) (a' := ?_) #[true, true, true, true, true, true, true, true, true, true, true, true, true, true, false, false, false, false, false, false, false, false, false, false, false, false, false, false, false, false, false, false, false] rfl rfl (any_of HT_.out (by kernel_rfl)) (fun _ _ _ h => h) (Or.inl ⟨by rfl, ?_⟩) ?_ ?_
                  rotate_left
                  · intro w'
                    go_simp
                    with_reducible rfl
                  rotate_left
                  · simp only [Act.put, List.setIfInBounds_toArray, List.set_cons_zero, List.set_cons_succ, i64_w, i32_w]
                    rfl
                  refine take_ (i := 14) (N := some 79) (v := ?_) (a' := ?_) #[true, true, true, true, true, true, true, true, true, true, true, true, true, true, true, false, false, false, false, false, false, false, false, false, false, false, false, false, false, false, false, false, false] rfl rfl (take_ofW HT_.out HW_.out (by kernel_rfl)) (fun _ _ _ h => h) (Or.inl ⟨by rfl, ?_⟩) hHeld ?_ ?_
                  rotate_left
                  · rintro w' ⟨s0, s1, s2, s3, s4, s5, s6, s7, s8, s9, s10, s11, s12, s13, s14, s15, s16, s17, s18, s19⟩
                    go_simp
                    with_reducible rfl
                  rotate_left
                  · simp only [Act.put, List.setIfInBounds_toArray, List.set_cons_zero, List.set_cons_succ, i64_w, i32_w]
                    rfl
                  refine take_ (i := 16) (N := some 81) (v := ?_) (a' := ?_) #[true, true, true, true, true, true, true, true, true, true, true, true, true, true, true, false, true, false, false, false, false, false, false, false, false, false, false, false, false, false, false, false, false] rfl rfl (take_ofW HT_.out HW_.out (by kernel_rfl)) (fun _ _ _ h => h) (Or.inl ⟨by rfl, ?_⟩) hHeld ?_ ?_
                  rotate_left
                  · rintro w' ⟨s0, s1, s2, s3, s4, s5, s6, s7, s8, s9, s10, s11, s12, s13, s14, s15, s16, s17, s18, s19⟩
                    go_simp
                    with_reducible rfl
                  rotate_left
                  · simp only [Act.put, List.setIfInBounds_toArray, List.set_cons_zero, List.set_cons_succ, i64_w, i32_w]
                    rfl
                  refine one_ (i := 15) (N := some 80) #[true, true, true, true, true, true, true, true, true, true, true, true, true, true, true, true, true, false, false, false, false, false, false, false, false, false, false, false, false, false, false, false, false] rfl rfl (one_of HT_.out (by kernel_rfl)) (by decide) (fun K hK => ?_)
                  refine goes_ Try.func36 (by kernel_rfl) rfl #[.agg #[.int .i64 a0_0, .int .i64 a0_1, .int .u64 a1, .slice Ao11 t489.length co11, .slice Ao11 t489.length co11]] (by rfl) rfl rfl (by (try simp only [List.map_toArray, List.map_cons, List.map_nil]); first | done | rfl | (simp only [List.length_drop, List.length_take]; rfl)) ?_
                  with_reducible refine (wire_Check.calls kj7 a0_0 a0_1 a1 _ _ t489 _ _ t489 t533 _ ?side1 ?side2 ?side3 ?side4 A66.out).mono ?_
                  (case side1 => repeat (first | exact (Kd.V_reads' HO_2.out).2.2 | (with_reducible refine Kd.C_alloc ?_ _) | (with_reducible refine Kd.C_drewN ?_ _) | (with_reducible refine Kd.C_drew ?_)))
                  (case side2 => exact (Kd.V_reads' HO_2.out).2.1)
                  (case side3 => repeat (first | exact (Kd.V_reads' HO_2.out).2.2 | (with_reducible refine Kd.C_alloc ?_ _) | (with_reducible refine Kd.C_drewN ?_ _) | (with_reducible refine Kd.C_drew ?_)))
                  (case side4 => exact (Kd.V_reads' HO_2.out).2.1)
                  rintro e w78 ⟨rfl, hb⟩
                  refine ⟨_, rfl, ?_⟩
                  have n0_ := Aside0.mk (Kd.V_below (by (with_reducible repeat (first | apply Kd.V_alloc | apply Kd.V_drewN | apply Kd.V_drew)); exact HO_2.out) hb)
                  have n1_ := Aside0.mk (Kd.R_below (by (with_reducible repeat (first | apply Kd.R_alloc | apply Kd.R_drewN | apply Kd.R_drew)); exact HO_506003.out) hb)
                  have n2_ := Aside0.mk (Kd.R_below (by (with_reducible repeat (first | apply Kd.R_alloc | apply Kd.R_drewN | apply Kd.R_drew)); exact HO_506004.out) hb)
                  have n3_ := Aside0.mk (Kd.R_below (by (with_reducible repeat (first | apply Kd.R_alloc | apply Kd.R_drewN | apply Kd.R_drew)); exact HO_517003.out) hb)
                  have n4_ := Aside0.mk (Kd.R_below (by (with_reducible repeat (first | apply Kd.R_alloc | apply Kd.R_drewN | apply Kd.R_drew)); exact HO_517004.out) hb)
                  have n5_ := Aside0.mk (Kd.R_below (by (with_reducible repeat (first | apply Kd.R_alloc | apply Kd.R_drewN | apply Kd.R_drew)); exact HO524.out) hb)
                  have n6_ := Aside0.mk (Kd.R_below (by (with_reducible repeat (first | apply Kd.R_alloc | apply Kd.R_drewN | apply Kd.R_drew)); exact HO527.out) hb)
                  have n7_ := Aside0.mk (blk_below (g := gb488) (o := .cells #[.int .i64 a0_0, .int .i64 a0_1] 52 (0, 0)) (by (with_reducible repeat (first | refine blk_drewN ?_ _ | refine blk_drew ?_ | refine blk_alloc ?_ _)); exact BK488.out) hb)
                  have n8_ := Aside0.mk (blk_below (g := gb505) (o := .cells #[.int .i64 t495, .int .i64 t496, .int .u64 t497, .slice Ao19 t498.length co19, .slice Ao20 t501.length co20] 33 (0, 0)) (by (with_reducible repeat (first | refine blk_drewN ?_ _ | refine blk_drew ?_ | refine blk_alloc ?_ _)); exact BK505.out) hb)
                  have n9_ := Aside0.mk (blk_below (g := gb516) (o := .cells #[.int .i64 t506, .int .i64 t507, .int .u64 t508, .slice Ao27 t509.length co27, .slice Ao28 t512.length co28] 33 (0, 0)) (by (with_reducible repeat (first | refine blk_drewN ?_ _ | refine blk_drew ?_ | refine blk_alloc ?_ _)); exact BK516.out) hb)
                  have n10_ := Aside0.mk (blk_below (g := gb528) (o := .cells #[.int .i64 t519, .int .i64 t520, .int .u64 t521, .slice Ao51 t522.length co51, .slice Ao52 t525.length co52] 33 (0, 0)) (by (with_reducible repeat (first | refine blk_drewN ?_ _ | refine blk_drew ?_ | refine blk_alloc ?_ _)); exact BK528.out) hb)
                  have n11_ := Aside0.mk (blk_below (g := gb529) (o := .cells #[.int .i64 a0_0, .int .i64 a0_1, .int .u64 a1, .slice Ao11 t489.length co11, .slice Ao11 t489.length co11] 33 (0, 0)) (by (with_reducible repeat (first | refine blk_drewN ?_ _ | refine blk_drew ?_ | refine blk_alloc ?_ _)); exact BK529.out) hb)
                  have n12_ := Aside0.mk (below_step (by repeat (first | (with_reducible first | exact HB.out | apply below_alloc | apply pw_below_drewN | apply below_drew1 | refine below_set ?_ GE488.out | refine below_set ?_ GE505.out | refine below_set ?_ GE516.out | refine below_set ?_ GE528.out | refine below_set ?_ GE529.out) | exact HB.out)) hb)
                  clear HO_2
                  clear HO_506003
                  clear HO_506004
                  clear HO_517003
                  clear HO_517004
                  clear HO524
                  clear HO527
                  clear BK488
                  clear BK505
                  clear BK516
                  clear BK528
                  clear BK529
                  clear HB
                  have HO_2 := n0_
                  have HO_506003 := n1_
                  have HO_506004 := n2_
                  have HO_517003 := n3_
                  have HO_517004 := n4_
                  have HO524 := n5_
                  have HO527 := n6_
                  have BK488 := n7_
                  have BK505 := n8_
                  have BK516 := n9_
                  have BK528 := n10_
                  have BK529 := n11_
                  have HB := n12_
                  clear n0_ n1_ n2_ n3_ n4_ n5_ n6_ n7_ n8_ n9_ n10_ n11_ n12_
                  (try clear hb)
                  (try clear hb2)
                  (try clear hk)
                  (try clear hi)
                  refine hK.out _ _ ⟨(blk_cell BK505.out 0).trans rfl, (blk_cell BK505.out 1).trans rfl, (blk_cell BK505.out 2).trans rfl, (blk_cell BK505.out 3).trans rfl, (blk_cell BK505.out 4).trans rfl, (blk_cell BK529.out 0).trans rfl, (blk_cell BK529.out 1).trans rfl, (blk_cell BK529.out 2).trans rfl, (blk_cell BK529.out 3).trans rfl, (blk_cell BK529.out 4).trans rfl, (blk_cell BK516.out 0).trans rfl, (blk_cell BK516.out 1).trans rfl, (blk_cell BK516.out 2).trans rfl, (blk_cell BK516.out 3).trans rfl, (blk_cell BK516.out 4).trans rfl, (blk_cell BK528.out 0).trans rfl, (blk_cell BK528.out 1).trans rfl, (blk_cell BK528.out 2).trans rfl, (blk_cell BK528.out 3).trans rfl, (blk_cell BK528.out 4).trans rfl⟩ (fun hHeld => ?_)
                  clear hK K
                  refine norm_ (a' := ?_) ?_ ?_
                  rotate_left
                  · show Act.put _ (some 80) _ = _
                    simp only [Act.put, List.setIfInBounds_toArray, List.set_cons_zero, List.set_cons_succ, i64_w, i32_w]
                    rfl
                  refine one_ (i := 17) (N := some 82) #[true, true, true, true, true, true, true, true, true, true, true, true, true, true, true, true, true, true, false, false, false, false, false, false, false, false, false, false, false, false, false, false, false] rfl rfl (one_of HT_.out (by kernel_rfl)) (by decide) (fun K hK => ?_)
                  refine goes_ Try.func37 (by kernel_rfl) rfl #[.agg #[.int .i64 a0_0, .int .i64 a0_1, .int .u64 a1, .slice Ao11 t489.length co11, .slice Ao11 t489.length co11]] (by rfl) rfl rfl (by (try simp only [List.map_toArray, List.map_cons, List.map_nil]); first | done | rfl | (simp only [List.length_drop, List.length_take]; rfl)) ?_
                  with_reducible refine (signetryref01_Check.calls kj7 a0_0 a0_1 a1 _ _ t489 _ _ t489 t534 _ ?side1 ?side2 ?side3 ?side4 A67.out).mono ?_
                  (case side1 => repeat (first | exact (Kd.V_reads' HO_2.out).2.2 | (with_reducible refine Kd.C_alloc ?_ _) | (with_reducible refine Kd.C_drewN ?_ _) | (with_reducible refine Kd.C_drew ?_)))
                  (case side2 => exact (Kd.V_reads' HO_2.out).2.1)
                  (case side3 => repeat (first | exact (Kd.V_reads' HO_2.out).2.2 | (with_reducible refine Kd.C_alloc ?_ _) | (with_reducible refine Kd.C_drewN ?_ _) | (with_reducible refine Kd.C_drew ?_)))
                  (case side4 => exact (Kd.V_reads' HO_2.out).2.1)
                  rintro e w79 ⟨rfl, hb⟩
                  refine ⟨_, rfl, ?_⟩
                  have n0_ := Aside0.mk (Kd.V_below (by (with_reducible repeat (first | apply Kd.V_alloc | apply Kd.V_drewN | apply Kd.V_drew)); exact HO_2.out) hb)
                  have n1_ := Aside0.mk (Kd.R_below (by (with_reducible repeat (first | apply Kd.R_alloc | apply Kd.R_drewN | apply Kd.R_drew)); exact HO_506003.out) hb)
                  have n2_ := Aside0.mk (Kd.R_below (by (with_reducible repeat (first | apply Kd.R_alloc | apply Kd.R_drewN | apply Kd.R_drew)); exact HO_506004.out) hb)
                  have n3_ := Aside0.mk (Kd.R_below (by (with_reducible repeat (first | apply Kd.R_alloc | apply Kd.R_drewN | apply Kd.R_drew)); exact HO_517003.out) hb)
                  have n4_ := Aside0.mk (Kd.R_below (by (with_reducible repeat (first | apply Kd.R_alloc | apply Kd.R_drewN | apply Kd.R_drew)); exact HO_517004.out) hb)
                  have n5_ := Aside0.mk (Kd.R_below (by (with_reducible repeat (first | apply Kd.R_alloc | apply Kd.R_drewN | apply Kd.R_drew)); exact HO524.out) hb)
                  have n6_ := Aside0.mk (Kd.R_below (by (with_reducible repeat (first | apply Kd.R_alloc | apply Kd.R_drewN | apply Kd.R_drew)); exact HO527.out) hb)
                  have n7_ := Aside0.mk (blk_below (g := gb488) (o := .cells #[.int .i64 a0_0, .int .i64 a0_1] 52 (0, 0)) (by (with_reducible repeat (first | refine blk_drewN ?_ _ | refine blk_drew ?_ | refine blk_alloc ?_ _)); exact BK488.out) hb)
                  have n8_ := Aside0.mk (blk_below (g := gb505) (o := .cells #[.int .i64 t495, .int .i64 t496, .int .u64 t497, .slice Ao19 t498.length co19, .slice Ao20 t501.length co20] 33 (0, 0)) (by (with_reducible repeat (first | refine blk_drewN ?_ _ | refine blk_drew ?_ | refine blk_alloc ?_ _)); exact BK505.out) hb)
                  have n9_ := Aside0.mk (blk_below (g := gb516) (o := .cells #[.int .i64 t506, .int .i64 t507, .int .u64 t508, .slice Ao27 t509.length co27, .slice Ao28 t512.length co28] 33 (0, 0)) (by (with_reducible repeat (first | refine blk_drewN ?_ _ | refine blk_drew ?_ | refine blk_alloc ?_ _)); exact BK516.out) hb)
                  have n10_ := Aside0.mk (blk_below (g := gb528) (o := .cells #[.int .i64 t519, .int .i64 t520, .int .u64 t521, .slice Ao51 t522.length co51, .slice Ao52 t525.length co52] 33 (0, 0)) (by (with_reducible repeat (first | refine blk_drewN ?_ _ | refine blk_drew ?_ | refine blk_alloc ?_ _)); exact BK528.out) hb)
                  have n11_ := Aside0.mk (blk_below (g := gb529) (o := .cells #[.int .i64 a0_0, .int .i64 a0_1, .int .u64 a1, .slice Ao11 t489.length co11, .slice Ao11 t489.length co11] 33 (0, 0)) (by (with_reducible repeat (first | refine blk_drewN ?_ _ | refine blk_drew ?_ | refine blk_alloc ?_ _)); exact BK529.out) hb)
                  have n12_ := Aside0.mk (below_step (by repeat (first | (with_reducible first | exact HB.out | apply below_alloc | apply pw_below_drewN | apply below_drew1 | refine below_set ?_ GE488.out | refine below_set ?_ GE505.out | refine below_set ?_ GE516.out | refine below_set ?_ GE528.out | refine below_set ?_ GE529.out) | exact HB.out)) hb)
                  clear HO_2
                  clear HO_506003
                  clear HO_506004
                  clear HO_517003
                  clear HO_517004
                  clear HO524
                  clear HO527
                  clear BK488
                  clear BK505
                  clear BK516
                  clear BK528
                  clear BK529
                  clear HB
                  have HO_2 := n0_
                  have HO_506003 := n1_
                  have HO_506004 := n2_
                  have HO_517003 := n3_
                  have HO_517004 := n4_
                  have HO524 := n5_
                  have HO527 := n6_
                  have BK488 := n7_
                  have BK505 := n8_
                  have BK516 := n9_
                  have BK528 := n10_
                  have BK529 := n11_
                  have HB := n12_
                  clear n0_ n1_ n2_ n3_ n4_ n5_ n6_ n7_ n8_ n9_ n10_ n11_ n12_
                  (try clear hb)
                  (try clear hb2)
                  (try clear hk)
                  (try clear hi)
                  refine hK.out _ _ ⟨(blk_cell BK505.out 0).trans rfl, (blk_cell BK505.out 1).trans rfl, (blk_cell BK505.out 2).trans rfl, (blk_cell BK505.out 3).trans rfl, (blk_cell BK505.out 4).trans rfl, (blk_cell BK529.out 0).trans rfl, (blk_cell BK529.out 1).trans rfl, (blk_cell BK529.out 2).trans rfl, (blk_cell BK529.out 3).trans rfl, (blk_cell BK529.out 4).trans rfl, (blk_cell BK516.out 0).trans rfl, (blk_cell BK516.out 1).trans rfl, (blk_cell BK516.out 2).trans rfl, (blk_cell BK516.out 3).trans rfl, (blk_cell BK516.out 4).trans rfl, (blk_cell BK528.out 0).trans rfl, (blk_cell BK528.out 1).trans rfl, (blk_cell BK528.out 2).trans rfl, (blk_cell BK528.out 3).trans rfl, (blk_cell BK528.out 4).trans rfl⟩ (fun hHeld => ?_)
                  clear hK K
                  refine norm_ (a' := ?_) ?_ ?_
                  rotate_left
                  · show Act.put _ (some 82) _ = _
                    simp only [Act.put, List.setIfInBounds_toArray, List.set_cons_zero, List.set_cons_succ, i64_w, i32_w]
                    rfl
                  refine pure_ (i := 18) (N := some 83) (v := ?_) (a' := ?_) #[true, true, true, true, true, true, true, true, true, true, true, true, true, true, true, true, true, true, true, false, false, false, false, false, false, false, false, false, false, false, false, false, false] rfl rfl (any_of HT_.out (by kernel_rfl)) (fun _ _ _ h => h) (Or.inl ⟨by rfl, ?_⟩) ?_ ?_
                  rotate_left
                  · intro w'
                    go_simp
                    with_reducible rfl
                  rotate_left
                  · simp only [Act.put, List.setIfInBounds_toArray, List.set_cons_zero, List.set_cons_succ, i64_w, i32_w]
                    rfl
                  refine pure_ (i := 19) (N := some 84) (v := ?_) (a' := ?_) #[true, true, true, true, true, true, true, true, true, true, true, true, true, true, true, true, true, true, true, true, false, false, false, false, false, false, false, false, false, false, false, false, false] rfl rfl (any_of HT_.out (by kernel_rfl)) (fun _ _ _ h => h) (Or.inl ⟨by rfl, ?_⟩) ?_ ?_
                  rotate_left
                  · intro w'
                    go_simp
                    with_reducible rfl
                  rotate_left
                  · simp only [Act.put, List.setIfInBounds_toArray, List.set_cons_zero, List.set_cons_succ, i64_w, i32_w]
                    rfl
                  refine pure_ (i := 20) (N := some 85) (v := ?_) (a' := ?_) #[true, true, true, true, true, true, true, true, true, true, true, true, true, true, true, true, true, true, true, true, true, false, false, false, false, false, false, false, false, false, false, false, false] rfl rfl (any_of HT_.out (by kernel_rfl)) (fun _ _ _ h => h) (Or.inl ⟨by rfl, ?_⟩) ?_ ?_
                  rotate_left
                  · intro w'
                    go_simp
                    with_reducible rfl
                  rotate_left
                  · simp only [Act.put, List.setIfInBounds_toArray, List.set_cons_zero, List.set_cons_succ, i64_w, i32_w]
                    rfl
                  refine take_ (i := 21) (N := some 86) (v := ?_) (a' := ?_) #[true, true, true, true, true, true, true, true, true, true, true, true, true, true, true, true, true, true, true, true, true, true, false, false, false, false, false, false, false, false, false, false, false] rfl rfl (take_ofW HT_.out HW_.out (by kernel_rfl)) (fun _ _ _ h => h) (Or.inl ⟨by rfl, ?_⟩) hHeld ?_ ?_
                  rotate_left
                  · rintro w' ⟨s0, s1, s2, s3, s4, s5, s6, s7, s8, s9, s10, s11, s12, s13, s14, s15, s16, s17, s18, s19⟩
                    go_simp
                    with_reducible rfl
                  rotate_left
                  · simp only [Act.put, List.setIfInBounds_toArray, List.set_cons_zero, List.set_cons_succ, i64_w, i32_w]
                    rfl
                  refine take_ (i := 23) (N := some 88) (v := ?_) (a' := ?_) #[true, true, true, true, true, true, true, true, true, true, true, true, true, true, true, true, true, true, true, true, true, true, false, true, false, false, false, false, false, false, false, false, false] rfl rfl (take_ofW HT_.out HW_.out (by kernel_rfl)) (fun _ _ _ h => h) (Or.inl ⟨by rfl, ?_⟩) hHeld ?_ ?_
                  rotate_left
                  · rintro w' ⟨s0, s1, s2, s3, s4, s5, s6, s7, s8, s9, s10, s11, s12, s13, s14, s15, s16, s17, s18, s19⟩
                    go_simp
                    with_reducible rfl
                  rotate_left
                  · simp only [Act.put, List.setIfInBounds_toArray, List.set_cons_zero, List.set_cons_succ, i64_w, i32_w]
                    rfl
                  refine one_ (i := 22) (N := some 87) #[true, true, true, true, true, true, true, true, true, true, true, true, true, true, true, true, true, true, true, true, true, true, true, true, false, false, false, false, false, false, false, false, false] rfl rfl (one_of HT_.out (by kernel_rfl)) (by decide) (fun K hK => ?_)
                  refine goes_ Try.func36 (by kernel_rfl) rfl #[.agg #[.int .i64 t519, .int .i64 t520, .int .u64 t521, .slice Ao51 t522.length co51, .slice Ao52 t525.length co52]] (by rfl) rfl rfl (by (try simp only [List.map_toArray, List.map_cons, List.map_nil]); first | done | rfl | (simp only [List.length_drop, List.length_take]; rfl)) ?_
                  with_reducible refine (wire_Check.calls kj7 t519 t520 t521 _ _ t522 _ _ t525 t535 _ ?side1 ?side2 ?side3 ?side4 A69.out).mono ?_
                  (case side1 => repeat (first | exact (Kd.R_reads' HO524.out).2.2 | (with_reducible refine Kd.C_alloc ?_ _) | (with_reducible refine Kd.C_drewN ?_ _) | (with_reducible refine Kd.C_drew ?_)))
                  (case side2 => exact (Kd.R_reads' HO524.out).2.1)
                  (case side3 => repeat (first | exact (Kd.R_reads' HO527.out).2.2 | (with_reducible refine Kd.C_alloc ?_ _) | (with_reducible refine Kd.C_drewN ?_ _) | (with_reducible refine Kd.C_drew ?_)))
                  (case side4 => exact (Kd.R_reads' HO527.out).2.1)
                  rintro e w80 ⟨rfl, hb⟩
                  refine ⟨_, rfl, ?_⟩
                  have n0_ := Aside0.mk (Kd.V_below (by (with_reducible repeat (first | apply Kd.V_alloc | apply Kd.V_drewN | apply Kd.V_drew)); exact HO_2.out) hb)
                  have n1_ := Aside0.mk (Kd.R_below (by (with_reducible repeat (first | apply Kd.R_alloc | apply Kd.R_drewN | apply Kd.R_drew)); exact HO_506003.out) hb)
                  have n2_ := Aside0.mk (Kd.R_below (by (with_reducible repeat (first | apply Kd.R_alloc | apply Kd.R_drewN | apply Kd.R_drew)); exact HO_506004.out) hb)
                  have n3_ := Aside0.mk (Kd.R_below (by (with_reducible repeat (first | apply Kd.R_alloc | apply Kd.R_drewN | apply Kd.R_drew)); exact HO_517003.out) hb)
                  have n4_ := Aside0.mk (Kd.R_below (by (with_reducible repeat (first | apply Kd.R_alloc | apply Kd.R_drewN | apply Kd.R_drew)); exact HO_517004.out) hb)
                  have n5_ := Aside0.mk (Kd.R_below (by (with_reducible repeat (first | apply Kd.R_alloc | apply Kd.R_drewN | apply Kd.R_drew)); exact HO524.out) hb)
                  have n6_ := Aside0.mk (Kd.R_below (by (with_reducible repeat (first | apply Kd.R_alloc | apply Kd.R_drewN | apply Kd.R_drew)); exact HO527.out) hb)
                  have n7_ := Aside0.mk (blk_below (g := gb488) (o := .cells #[.int .i64 a0_0, .int .i64 a0_1] 52 (0, 0)) (by (with_reducible repeat (first | refine blk_drewN ?_ _ | refine blk_drew ?_ | refine blk_alloc ?_ _)); exact BK488.out) hb)
                  have n8_ := Aside0.mk (blk_below (g := gb505) (o := .cells #[.int .i64 t495, .int .i64 t496, .int .u64 t497, .slice Ao19 t498.length co19, .slice Ao20 t501.length co20] 33 (0, 0)) (by (with_reducible repeat (first | refine blk_drewN ?_ _ | refine blk_drew ?_ | refine blk_alloc ?_ _)); exact BK505.out) hb)
                  have n9_ := Aside0.mk (blk_below (g := gb516) (o := .cells #[.int .i64 t506, .int .i64 t507, .int .u64 t508, .slice Ao27 t509.length co27, .slice Ao28 t512.length co28] 33 (0, 0)) (by (with_reducible repeat (first | refine blk_drewN ?_ _ | refine blk_drew ?_ | refine blk_alloc ?_ _)); exact BK516.out) hb)
                  have n10_ := Aside0.mk (blk_below (g := gb528) (o := .cells #[.int .i64 t519, .int .i64 t520, .int .u64 t521, .slice Ao51 t522.length co51, .slice Ao52 t525.length co52] 33 (0, 0)) (by (with_reducible repeat (first | refine blk_drewN ?_ _ | refine blk_drew ?_ | refine blk_alloc ?_ _)); exact BK528.out) hb)
                  have n11_ := Aside0.mk (blk_below (g := gb529) (o := .cells #[.int .i64 a0_0, .int .i64 a0_1, .int .u64 a1, .slice Ao11 t489.length co11, .slice Ao11 t489.length co11] 33 (0, 0)) (by (with_reducible repeat (first | refine blk_drewN ?_ _ | refine blk_drew ?_ | refine blk_alloc ?_ _)); exact BK529.out) hb)
                  have n12_ := Aside0.mk (below_step (by repeat (first | (with_reducible first | exact HB.out | apply below_alloc | apply pw_below_drewN | apply below_drew1 | refine below_set ?_ GE488.out | refine below_set ?_ GE505.out | refine below_set ?_ GE516.out | refine below_set ?_ GE528.out | refine below_set ?_ GE529.out) | exact HB.out)) hb)
                  clear HO_2
                  clear HO_506003
                  clear HO_506004
                  clear HO_517003
                  clear HO_517004
                  clear HO524
                  clear HO527
                  clear BK488
                  clear BK505
                  clear BK516
                  clear BK528
                  clear BK529
                  clear HB
                  have HO_2 := n0_
                  have HO_506003 := n1_
                  have HO_506004 := n2_
                  have HO_517003 := n3_
                  have HO_517004 := n4_
                  have HO524 := n5_
                  have HO527 := n6_
                  have BK488 := n7_
                  have BK505 := n8_
                  have BK516 := n9_
                  have BK528 := n10_
                  have BK529 := n11_
                  have HB := n12_
                  clear n0_ n1_ n2_ n3_ n4_ n5_ n6_ n7_ n8_ n9_ n10_ n11_ n12_
                  (try clear hb)
                  (try clear hb2)
                  (try clear hk)
                  (try clear hi)
                  refine hK.out _ _ ⟨(blk_cell BK505.out 0).trans rfl, (blk_cell BK505.out 1).trans rfl, (blk_cell BK505.out 2).trans rfl, (blk_cell BK505.out 3).trans rfl, (blk_cell BK505.out 4).trans rfl, (blk_cell BK529.out 0).trans rfl, (blk_cell BK529.out 1).trans rfl, (blk_cell BK529.out 2).trans rfl, (blk_cell BK529.out 3).trans rfl, (blk_cell BK529.out 4).trans rfl, (blk_cell BK516.out 0).trans rfl, (blk_cell BK516.out 1).trans rfl, (blk_cell BK516.out 2).trans rfl, (blk_cell BK516.out 3).trans rfl, (blk_cell BK516.out 4).trans rfl, (blk_cell BK528.out 0).trans rfl, (blk_cell BK528.out 1).trans rfl, (blk_cell BK528.out 2).trans rfl, (blk_cell BK528.out 3).trans rfl, (blk_cell BK528.out 4).trans rfl⟩ (fun hHeld => ?_)
                  clear hK K
                  refine norm_ (a' := ?_) ?_ ?_
                  rotate_left
                  · show Act.put _ (some 87) _ = _
                    simp only [Act.put, List.setIfInBounds_toArray, List.set_cons_zero, List.set_cons_succ, i64_w, i32_w]
                    rfl
                  refine one_ (i := 24) (N := some 89) #[true, true, true, true, true, true, true, true, true, true, true, true, true, true, true, true, true, true, true, true, true, true, true, true, true, false, false, false, false, false, false, false, false] rfl rfl (one_of HT_.out (by kernel_rfl)) (by decide) (fun K hK => ?_)
                  refine goes_ Try.func37 (by kernel_rfl) rfl #[.agg #[.int .i64 t506, .int .i64 t507, .int .u64 t508, .slice Ao27 t509.length co27, .slice Ao28 t512.length co28]] (by rfl) rfl rfl (by (try simp only [List.map_toArray, List.map_cons, List.map_nil]); first | done | rfl | (simp only [List.length_drop, List.length_take]; rfl)) ?_
                  with_reducible refine (signetryref01_Check.calls kj7 t506 t507 t508 _ _ t509 _ _ t512 t536 _ ?side1 ?side2 ?side3 ?side4 A70.out).mono ?_
                  (case side1 => repeat (first | exact (Kd.R_reads' HO_517003.out).2.2 | (with_reducible refine Kd.C_alloc ?_ _) | (with_reducible refine Kd.C_drewN ?_ _) | (with_reducible refine Kd.C_drew ?_)))
                  (case side2 => exact (Kd.R_reads' HO_517003.out).2.1)
                  (case side3 => repeat (first | exact (Kd.R_reads' HO_517004.out).2.2 | (with_reducible refine Kd.C_alloc ?_ _) | (with_reducible refine Kd.C_drewN ?_ _) | (with_reducible refine Kd.C_drew ?_)))
                  (case side4 => exact (Kd.R_reads' HO_517004.out).2.1)
                  rintro e w81 ⟨rfl, hb⟩
                  refine ⟨_, rfl, ?_⟩
                  have n0_ := Aside0.mk (Kd.V_below (by (with_reducible repeat (first | apply Kd.V_alloc | apply Kd.V_drewN | apply Kd.V_drew)); exact HO_2.out) hb)
                  have n1_ := Aside0.mk (Kd.R_below (by (with_reducible repeat (first | apply Kd.R_alloc | apply Kd.R_drewN | apply Kd.R_drew)); exact HO_506003.out) hb)
                  have n2_ := Aside0.mk (Kd.R_below (by (with_reducible repeat (first | apply Kd.R_alloc | apply Kd.R_drewN | apply Kd.R_drew)); exact HO_506004.out) hb)
                  have n3_ := Aside0.mk (Kd.R_below (by (with_reducible repeat (first | apply Kd.R_alloc | apply Kd.R_drewN | apply Kd.R_drew)); exact HO_517003.out) hb)
                  have n4_ := Aside0.mk (Kd.R_below (by (with_reducible repeat (first | apply Kd.R_alloc | apply Kd.R_drewN | apply Kd.R_drew)); exact HO_517004.out) hb)
                  have n5_ := Aside0.mk (Kd.R_below (by (with_reducible repeat (first | apply Kd.R_alloc | apply Kd.R_drewN | apply Kd.R_drew)); exact HO524.out) hb)
                  have n6_ := Aside0.mk (Kd.R_below (by (with_reducible repeat (first | apply Kd.R_alloc | apply Kd.R_drewN | apply Kd.R_drew)); exact HO527.out) hb)
                  have n7_ := Aside0.mk (blk_below (g := gb488) (o := .cells #[.int .i64 a0_0, .int .i64 a0_1] 52 (0, 0)) (by (with_reducible repeat (first | refine blk_drewN ?_ _ | refine blk_drew ?_ | refine blk_alloc ?_ _)); exact BK488.out) hb)
                  have n8_ := Aside0.mk (blk_below (g := gb505) (o := .cells #[.int .i64 t495, .int .i64 t496, .int .u64 t497, .slice Ao19 t498.length co19, .slice Ao20 t501.length co20] 33 (0, 0)) (by (with_reducible repeat (first | refine blk_drewN ?_ _ | refine blk_drew ?_ | refine blk_alloc ?_ _)); exact BK505.out) hb)
                  have n9_ := Aside0.mk (blk_below (g := gb516) (o := .cells #[.int .i64 t506, .int .i64 t507, .int .u64 t508, .slice Ao27 t509.length co27, .slice Ao28 t512.length co28] 33 (0, 0)) (by (with_reducible repeat (first | refine blk_drewN ?_ _ | refine blk_drew ?_ | refine blk_alloc ?_ _)); exact BK516.out) hb)
                  have n10_ := Aside0.mk (blk_below (g := gb528) (o := .cells #[.int .i64 t519, .int .i64 t520, .int .u64 t521, .slice Ao51 t522.length co51, .slice Ao52 t525.length co52] 33 (0, 0)) (by (with_reducible repeat (first | refine blk_drewN ?_ _ | refine blk_drew ?_ | refine blk_alloc ?_ _)); exact BK528.out) hb)
                  have n11_ := Aside0.mk (blk_below (g := gb529) (o := .cells #[.int .i64 a0_0, .int .i64 a0_1, .int .u64 a1, .slice Ao11 t489.length co11, .slice Ao11 t489.length co11] 33 (0, 0)) (by (with_reducible repeat (first | refine blk_drewN ?_ _ | refine blk_drew ?_ | refine blk_alloc ?_ _)); exact BK529.out) hb)
                  have n12_ := Aside0.mk (below_step (by repeat (first | (with_reducible first | exact HB.out | apply below_alloc | apply pw_below_drewN | apply below_drew1 | refine below_set ?_ GE488.out | refine below_set ?_ GE505.out | refine below_set ?_ GE516.out | refine below_set ?_ GE528.out | refine below_set ?_ GE529.out) | exact HB.out)) hb)
                  clear HO_2
                  clear HO_506003
                  clear HO_506004
                  clear HO_517003
                  clear HO_517004
                  clear HO524
                  clear HO527
                  clear BK488
                  clear BK505
                  clear BK516
                  clear BK528
                  clear BK529
                  clear HB
                  have HO_2 := n0_
                  have HO_506003 := n1_
                  have HO_506004 := n2_
                  have HO_517003 := n3_
                  have HO_517004 := n4_
                  have HO524 := n5_
                  have HO527 := n6_
                  have BK488 := n7_
                  have BK505 := n8_
                  have BK516 := n9_
                  have BK528 := n10_
                  have BK529 := n11_
                  have HB := n12_
                  clear n0_ n1_ n2_ n3_ n4_ n5_ n6_ n7_ n8_ n9_ n10_ n11_ n12_
                  (try clear hb)
                  (try clear hb2)
                  (try clear hk)
                  (try clear hi)
                  refine hK.out _ _ ⟨(blk_cell BK505.out 0).trans rfl, (blk_cell BK505.out 1).trans rfl, (blk_cell BK505.out 2).trans rfl, (blk_cell BK505.out 3).trans rfl, (blk_cell BK505.out 4).trans rfl, (blk_cell BK529.out 0).trans rfl, (blk_cell BK529.out 1).trans rfl, (blk_cell BK529.out 2).trans rfl, (blk_cell BK529.out 3).trans rfl, (blk_cell BK529.out 4).trans rfl, (blk_cell BK516.out 0).trans rfl, (blk_cell BK516.out 1).trans rfl, (blk_cell BK516.out 2).trans rfl, (blk_cell BK516.out 3).trans rfl, (blk_cell BK516.out 4).trans rfl, (blk_cell BK528.out 0).trans rfl, (blk_cell BK528.out 1).trans rfl, (blk_cell BK528.out 2).trans rfl, (blk_cell BK528.out 3).trans rfl, (blk_cell BK528.out 4).trans rfl⟩ (fun hHeld => ?_)
                  clear hK K
                  refine norm_ (a' := ?_) ?_ ?_
                  rotate_left
                  · show Act.put _ (some 89) _ = _
                    simp only [Act.put, List.setIfInBounds_toArray, List.set_cons_zero, List.set_cons_succ, i64_w, i32_w]
                    rfl
                  refine pure_ (i := 25) (N := some 90) (v := ?_) (a' := ?_) #[true, true, true, true, true, true, true, true, true, true, true, true, true, true, true, true, true, true, true, true, true, true, true, true, true, true, false, false, false, false, false, false, false] rfl rfl (any_of HT_.out (by kernel_rfl)) (fun _ _ _ h => h) (Or.inl ⟨by rfl, ?_⟩) ?_ ?_
                  rotate_left
                  · intro w'
                    go_simp
                    with_reducible rfl
                  rotate_left
                  · simp only [Act.put, List.setIfInBounds_toArray, List.set_cons_zero, List.set_cons_succ, i64_w, i32_w]
                    rfl
                  refine pure_ (i := 26) (N := some 91) (v := ?_) (a' := ?_) #[true, true, true, true, true, true, true, true, true, true, true, true, true, true, true, true, true, true, true, true, true, true, true, true, true, true, true, false, false, false, false, false, false] rfl rfl (any_of HT_.out (by kernel_rfl)) (fun _ _ _ h => h) (Or.inl ⟨by rfl, ?_⟩) ?_ ?_
                  rotate_left
                  · intro w'
                    go_simp
                    with_reducible rfl
                  rotate_left
                  · simp only [Act.put, List.setIfInBounds_toArray, List.set_cons_zero, List.set_cons_succ, i64_w, i32_w]
                    rfl
                  refine pure_ (i := 27) (N := some 92) (v := ?_) (a' := ?_) #[true, true, true, true, true, true, true, true, true, true, true, true, true, true, true, true, true, true, true, true, true, true, true, true, true, true, true, true, false, false, false, false, false] rfl rfl (any_of HT_.out (by kernel_rfl)) (fun _ _ _ h => h) (Or.inl ⟨by rfl, ?_⟩) ?_ ?_
                  rotate_left
                  · intro w'
                    go_simp
                    with_reducible rfl
                  rotate_left
                  · simp only [Act.put, List.setIfInBounds_toArray, List.set_cons_zero, List.set_cons_succ, i64_w, i32_w]
                    rfl
                  refine take_ (i := 28) (N := some 93) (v := ?_) (a' := ?_) #[true, true, true, true, true, true, true, true, true, true, true, true, true, true, true, true, true, true, true, true, true, true, true, true, true, true, true, true, true, false, false, false, false] rfl rfl (take_ofW HT_.out HW_.out (by kernel_rfl)) (fun _ _ _ h => h) (Or.inl ⟨by rfl, ?_⟩) hHeld ?_ ?_
                  rotate_left
                  · rintro w' ⟨s0, s1, s2, s3, s4, s5, s6, s7, s8, s9, s10, s11, s12, s13, s14, s15, s16, s17, s18, s19⟩
                    go_simp
                    with_reducible rfl
                  rotate_left
                  · simp only [Act.put, List.setIfInBounds_toArray, List.set_cons_zero, List.set_cons_succ, i64_w, i32_w]
                    rfl
                  refine take_ (i := 29) (N := some 94) (v := ?_) (a' := ?_) #[true, true, true, true, true, true, true, true, true, true, true, true, true, true, true, true, true, true, true, true, true, true, true, true, true, true, true, true, true, true, false, false, false] rfl rfl (take_ofW HT_.out HW_.out (by kernel_rfl)) (fun _ _ _ h => h) (Or.inl ⟨by rfl, ?_⟩) hHeld ?_ ?_
                  rotate_left
                  · rintro w' ⟨s0, s1, s2, s3, s4, s5, s6, s7, s8, s9, s10, s11, s12, s13, s14, s15, s16, s17, s18, s19⟩
                    go_simp
                    with_reducible rfl
                  rotate_left
                  · simp only [Act.put, List.setIfInBounds_toArray, List.set_cons_zero, List.set_cons_succ, i64_w, i32_w]
                    rfl
                  refine one_ (i := 30) (N := some 95) #[true, true, true, true, true, true, true, true, true, true, true, true, true, true, true, true, true, true, true, true, true, true, true, true, true, true, true, true, true, true, true, false, false] rfl rfl (one_of HT_.out (by kernel_rfl)) (by decide) (fun K hK => ?_)
                  refine goes_ Try.func35 (by kernel_rfl) rfl #[.agg #[.int .i64 t519, .int .i64 t520, .int .u64 t521, .slice Ao51 t522.length co51, .slice Ao52 t525.length co52], .agg #[.int .i64 t495, .int .i64 t496, .int .u64 t497, .slice Ao19 t498.length co19, .slice Ao20 t501.length co20]] (by rfl) rfl rfl (by (try simp only [List.map_toArray, List.map_cons, List.map_nil]); first | done | rfl | (simp only [List.length_drop, List.length_take]; rfl)) ?_
                  with_reducible refine (wire_Same.calls kj7 t519 t520 t521 _ _ t522 _ _ t525 t495 t496 t497 _ _ t498 _ _ t501 t537 _ ?side1 ?side2 ?side3 ?side4 ?side5 ?side6 ?side7 ?side8 A72.out).mono ?_
                  (case side1 => repeat (first | exact (Kd.R_reads' HO524.out).2.2 | (with_reducible refine Kd.C_alloc ?_ _) | (with_reducible refine Kd.C_drewN ?_ _) | (with_reducible refine Kd.C_drew ?_)))
                  (case side2 => exact (Kd.R_reads' HO524.out).2.1)
                  (case side3 => repeat (first | exact (Kd.R_reads' HO527.out).2.2 | (with_reducible refine Kd.C_alloc ?_ _) | (with_reducible refine Kd.C_drewN ?_ _) | (with_reducible refine Kd.C_drew ?_)))
                  (case side4 => exact (Kd.R_reads' HO527.out).2.1)
                  (case side5 => repeat (first | exact (Kd.R_reads' HO_506003.out).2.2 | (with_reducible refine Kd.C_alloc ?_ _) | (with_reducible refine Kd.C_drewN ?_ _) | (with_reducible refine Kd.C_drew ?_)))
                  (case side6 => exact (Kd.R_reads' HO_506003.out).2.1)
                  (case side7 => repeat (first | exact (Kd.R_reads' HO_506004.out).2.2 | (with_reducible refine Kd.C_alloc ?_ _) | (with_reducible refine Kd.C_drewN ?_ _) | (with_reducible refine Kd.C_drew ?_)))
                  (case side8 => exact (Kd.R_reads' HO_506004.out).2.1)
                  rintro e w82 ⟨rfl, hb⟩
                  refine ⟨_, rfl, ?_⟩
                  have n0_ := Aside0.mk (Kd.V_below (by (with_reducible repeat (first | apply Kd.V_alloc | apply Kd.V_drewN | apply Kd.V_drew)); exact HO_2.out) hb)
                  have n1_ := Aside0.mk (Kd.R_below (by (with_reducible repeat (first | apply Kd.R_alloc | apply Kd.R_drewN | apply Kd.R_drew)); exact HO_506003.out) hb)
                  have n2_ := Aside0.mk (Kd.R_below (by (with_reducible repeat (first | apply Kd.R_alloc | apply Kd.R_drewN | apply Kd.R_drew)); exact HO_506004.out) hb)
                  have n3_ := Aside0.mk (Kd.R_below (by (with_reducible repeat (first | apply Kd.R_alloc | apply Kd.R_drewN | apply Kd.R_drew)); exact HO_517003.out) hb)
                  have n4_ := Aside0.mk (Kd.R_below (by (with_reducible repeat (first | apply Kd.R_alloc | apply Kd.R_drewN | apply Kd.R_drew)); exact HO_517004.out) hb)
                  have n5_ := Aside0.mk (Kd.R_below (by (with_reducible repeat (first | apply Kd.R_alloc | apply Kd.R_drewN | apply Kd.R_drew)); exact HO524.out) hb)
                  have n6_ := Aside0.mk (Kd.R_below (by (with_reducible repeat (first | apply Kd.R_alloc | apply Kd.R_drewN | apply Kd.R_drew)); exact HO527.out) hb)
                  have n7_ := Aside0.mk (blk_below (g := gb488) (o := .cells #[.int .i64 a0_0, .int .i64 a0_1] 52 (0, 0)) (by (with_reducible repeat (first | refine blk_drewN ?_ _ | refine blk_drew ?_ | refine blk_alloc ?_ _)); exact BK488.out) hb)
                  have n8_ := Aside0.mk (blk_below (g := gb505) (o := .cells #[.int .i64 t495, .int .i64 t496, .int .u64 t497, .slice Ao19 t498.length co19, .slice Ao20 t501.length co20] 33 (0, 0)) (by (with_reducible repeat (first | refine blk_drewN ?_ _ | refine blk_drew ?_ | refine blk_alloc ?_ _)); exact BK505.out) hb)
                  have n9_ := Aside0.mk (blk_below (g := gb516) (o := .cells #[.int .i64 t506, .int .i64 t507, .int .u64 t508, .slice Ao27 t509.length co27, .slice Ao28 t512.length co28] 33 (0, 0)) (by (with_reducible repeat (first | refine blk_drewN ?_ _ | refine blk_drew ?_ | refine blk_alloc ?_ _)); exact BK516.out) hb)
                  have n10_ := Aside0.mk (blk_below (g := gb528) (o := .cells #[.int .i64 t519, .int .i64 t520, .int .u64 t521, .slice Ao51 t522.length co51, .slice Ao52 t525.length co52] 33 (0, 0)) (by (with_reducible repeat (first | refine blk_drewN ?_ _ | refine blk_drew ?_ | refine blk_alloc ?_ _)); exact BK528.out) hb)
                  have n11_ := Aside0.mk (blk_below (g := gb529) (o := .cells #[.int .i64 a0_0, .int .i64 a0_1, .int .u64 a1, .slice Ao11 t489.length co11, .slice Ao11 t489.length co11] 33 (0, 0)) (by (with_reducible repeat (first | refine blk_drewN ?_ _ | refine blk_drew ?_ | refine blk_alloc ?_ _)); exact BK529.out) hb)
                  have n12_ := Aside0.mk (below_step (by repeat (first | (with_reducible first | exact HB.out | apply below_alloc | apply pw_below_drewN | apply below_drew1 | refine below_set ?_ GE488.out | refine below_set ?_ GE505.out | refine below_set ?_ GE516.out | refine below_set ?_ GE528.out | refine below_set ?_ GE529.out) | exact HB.out)) hb)
                  clear HO_2
                  clear HO_506003
                  clear HO_506004
                  clear HO_517003
                  clear HO_517004
                  clear HO524
                  clear HO527
                  clear BK488
                  clear BK505
                  clear BK516
                  clear BK528
                  clear BK529
                  clear HB
                  have HO_2 := n0_
                  have HO_506003 := n1_
                  have HO_506004 := n2_
                  have HO_517003 := n3_
                  have HO_517004 := n4_
                  have HO524 := n5_
                  have HO527 := n6_
                  have BK488 := n7_
                  have BK505 := n8_
                  have BK516 := n9_
                  have BK528 := n10_
                  have BK529 := n11_
                  have HB := n12_
                  clear n0_ n1_ n2_ n3_ n4_ n5_ n6_ n7_ n8_ n9_ n10_ n11_ n12_
                  (try clear hb)
                  (try clear hb2)
                  (try clear hk)
                  (try clear hi)
                  refine hK.out _ _ ⟨(blk_cell BK505.out 0).trans rfl, (blk_cell BK505.out 1).trans rfl, (blk_cell BK505.out 2).trans rfl, (blk_cell BK505.out 3).trans rfl, (blk_cell BK505.out 4).trans rfl, (blk_cell BK529.out 0).trans rfl, (blk_cell BK529.out 1).trans rfl, (blk_cell BK529.out 2).trans rfl, (blk_cell BK529.out 3).trans rfl, (blk_cell BK529.out 4).trans rfl, (blk_cell BK516.out 0).trans rfl, (blk_cell BK516.out 1).trans rfl, (blk_cell BK516.out 2).trans rfl, (blk_cell BK516.out 3).trans rfl, (blk_cell BK516.out 4).trans rfl, (blk_cell BK528.out 0).trans rfl, (blk_cell BK528.out 1).trans rfl, (blk_cell BK528.out 2).trans rfl, (blk_cell BK528.out 3).trans rfl, (blk_cell BK528.out 4).trans rfl⟩ (fun hHeld => ?_)
                  clear hK K
                  refine norm_ (a' := ?_) ?_ ?_
                  rotate_left
                  · show Act.put _ (some 95) _ = _
                    simp only [Act.put, List.setIfInBounds_toArray, List.set_cons_zero, List.set_cons_succ, i64_w, i32_w]
                    rfl
                  refine pure_ (i := 31) (N := some 96) (v := ?_) (a' := ?_) #[true, true, true, true, true, true, true, true, true, true, true, true, true, true, true, true, true, true, true, true, true, true, true, true, true, true, true, true, true, true, true, true, false] rfl rfl (any_of HT_.out (by kernel_rfl)) (fun _ _ _ h => h) (Or.inl ⟨by rfl, ?_⟩) ?_ ?_
                  rotate_left
                  · intro w'
                    go_simp
                    with_reducible rfl
                  rotate_left
                  · simp only [Act.put, List.setIfInBounds_toArray, List.set_cons_zero, List.set_cons_succ, i64_w, i32_w]
                    rfl
                  refine pure_ (i := 32) (N := some 97) (v := ?_) (a' := ?_) #[true, true, true, true, true, true, true, true, true, true, true, true, true, true, true, true, true, true, true, true, true, true, true, true, true, true, true, true, true, true, true, true, true] rfl rfl (any_of HT_.out (by kernel_rfl)) (fun _ _ _ h => h) (Or.inl ⟨by rfl, ?_⟩) ?_ ?_
                  rotate_left
                  · intro w'
                    go_simp
                    with_reducible rfl
                  rotate_left
                  · simp only [Act.put, List.setIfInBounds_toArray, List.set_cons_zero, List.set_cons_succ, i64_w, i32_w]
                    rfl
                  refine done_ (done_of HT_.out (by kernel_rfl)) ?_
                  try go_wp2
                  go_meet
                  case rel => exact ⟨_, (!t537), (by first | rfl | (simp; done) | (simp [*]; done)), H', ⟨by have := HJ7.out; first | omega | exact Nat.le_refl _⟩, ⟨by (with_reducible repeat (first | apply Kd.R_alloc | apply Kd.R_drewN | apply Kd.R_drew)); exact HO_506003.out⟩, ⟨by (with_reducible repeat (first | apply Kd.R_alloc | apply Kd.R_drewN | apply Kd.R_drew)); exact HO_506004.out⟩, ⟨by (with_reducible repeat (first | apply Kd.R_alloc | apply Kd.R_drewN | apply Kd.R_drew)); exact HO_517003.out⟩, ⟨by (with_reducible repeat (first | apply Kd.R_alloc | apply Kd.R_drewN | apply Kd.R_drew)); exact HO_517004.out⟩, ⟨by (with_reducible repeat (first | apply Kd.R_alloc | apply Kd.R_drewN | apply Kd.R_drew)); exact HO524.out⟩, ⟨by (with_reducible repeat (first | apply Kd.R_alloc | apply Kd.R_drewN | apply Kd.R_drew)); exact HO527.out⟩, ⟨by (with_reducible repeat (first | apply Kd.V_alloc | apply Kd.V_drewN | apply Kd.V_drew)); exact HO_2.out⟩, ⟨by (with_reducible repeat (first | apply Kd.V_alloc | apply Kd.V_drewN | apply Kd.V_drew)); exact HO_2.out⟩, ⟨by (with_reducible repeat (first | refine blk_drewN ?_ _ | refine blk_drew ?_ | refine blk_alloc ?_ _)); exact BK488.out⟩, ⟨by (with_reducible repeat (first | refine blk_drewN ?_ _ | refine blk_drew ?_ | refine blk_alloc ?_ _)); exact BK505.out⟩, ⟨by (with_reducible repeat (first | refine blk_drewN ?_ _ | refine blk_drew ?_ | refine blk_alloc ?_ _)); exact BK516.out⟩, ⟨by (with_reducible repeat (first | refine blk_drewN ?_ _ | refine blk_drew ?_ | refine blk_alloc ?_ _)); exact BK528.out⟩, ⟨by (with_reducible repeat (first | refine blk_drewN ?_ _ | refine blk_drew ?_ | refine blk_alloc ?_ _)); exact BK529.out⟩, ⟨by repeat (first | (with_reducible first | exact HB.out | apply below_alloc | apply pw_below_drewN | apply below_drew1 | refine below_set ?_ GE488.out | refine below_set ?_ GE505.out | refine below_set ?_ GE516.out | refine below_set ?_ GE528.out | refine below_set ?_ GE529.out) | exact HB.out)⟩⟩
                · rw [if_neg c71] at H
                  exact absurd H (by simp)
              · rw [if_neg c68] at H
                exact absurd H (by simp)
        case rest =>
          clear HC41
          try clear p2
          try clear c3
          try clear c6
          try clear c7
          try clear c35
          try clear c36
          try clear c37
          try clear c68
          try clear c71
          obtain ⟨kq, x97_40, rfl, HA, HJ40, HO_506003, HO_506004, HO_517003, HO_517004, HO_529003, HO_529004, HO_530003, HO_530004, BK488, BK505, BK516, BK528, BK529, HB⟩ := hcut
          cases kq with
          | zero => exact absurd HA.out (by simp [signetrylaw01_WireMakes.j1])
          | succ kj40 =>
            have H := HA.out
            clear HA
            simp only [signetrylaw01_WireMakes.j1] at H
            by_cases c83 : x97_40 = true
            · subst c83
              have H1 : (none) = some r := by rw [if_pos rfl] at H; exact H
              clear H
              have H := H1
              clear H1
              exact absurd H (by simp)
            · replace c83 := Bool.eq_false_iff.mpr c83
              subst c83
              have H1 : (signetrylaw01_WireMakes.l0 kj40 0 t495 t496 t497 t498 t501 t506 t507 t508 t509 t512 t519 t520 t521 t522 t525) = some r := by rw [if_neg (show ¬ (false = true) by decide)] at H; exact H
              clear H
              have H := H1
              clear H1
              have H' := Aside0.mk H
              clear H
              go_wp2
              go_loopg [14] kj40 (fun kq v14 w' => ∃ (x14_3 : Int) (x506003_3 : List Int) (x506004_3 : List Int) (x517003_3 : List Int) (x517004_3 : List Int) (x529003_3 : List Int) (x529004_3 : List Int) (x530003_3 : List Int) (x530004_3 : List Int) (u506003 : Value) (u506004 : Value) (u517003 : Value) (u517004 : Value) (u529003 : Value) (u529004 : Value) (u530003 : Value) (u530004 : Value), v14 = .int .i64 x14_3 ∧ Aside0 (signetrylaw01_WireMakes.l0 kq x14_3 t495 t496 t497 x506003_3 x506004_3 t506 t507 t508 x517003_3 x517004_3 t519 t520 t521 x529003_3 x529004_3 = some r) ∧ Aside0 (kq ≤ kj40) ∧ Aside0 (Kd.R (Kd.int .u8) 5 w' w.heap.size (fun k_ => some k_ ≠ (u506004 : Value).ownBlock ∧ some k_ ≠ (u517003 : Value).ownBlock ∧ some k_ ≠ (u517004 : Value).ownBlock ∧ some k_ ≠ (u529003 : Value).ownBlock ∧ some k_ ≠ (u529004 : Value).ownBlock) u506003 x506003_3) ∧ Aside0 (Kd.R (Kd.int .u8) 5 w' w.heap.size (fun k_ => some k_ ≠ (u506003 : Value).ownBlock ∧ some k_ ≠ (u517003 : Value).ownBlock ∧ some k_ ≠ (u517004 : Value).ownBlock ∧ some k_ ≠ (u529003 : Value).ownBlock ∧ some k_ ≠ (u529004 : Value).ownBlock) u506004 x506004_3) ∧ Aside0 (Kd.R (Kd.int .u8) 5 w' w.heap.size (fun k_ => some k_ ≠ (u506003 : Value).ownBlock ∧ some k_ ≠ (u506004 : Value).ownBlock ∧ some k_ ≠ (u517004 : Value).ownBlock ∧ some k_ ≠ (u529003 : Value).ownBlock ∧ some k_ ≠ (u529004 : Value).ownBlock) u517003 x517003_3) ∧ Aside0 (Kd.R (Kd.int .u8) 5 w' w.heap.size (fun k_ => some k_ ≠ (u506003 : Value).ownBlock ∧ some k_ ≠ (u506004 : Value).ownBlock ∧ some k_ ≠ (u517003 : Value).ownBlock ∧ some k_ ≠ (u529003 : Value).ownBlock ∧ some k_ ≠ (u529004 : Value).ownBlock) u517004 x517004_3) ∧ Aside0 (Kd.R (Kd.int .u8) 5 w' w.heap.size (fun k_ => some k_ ≠ (u506003 : Value).ownBlock ∧ some k_ ≠ (u506004 : Value).ownBlock ∧ some k_ ≠ (u517003 : Value).ownBlock ∧ some k_ ≠ (u517004 : Value).ownBlock ∧ some k_ ≠ (u529004 : Value).ownBlock) u529003 x529003_3) ∧ Aside0 (Kd.R (Kd.int .u8) 5 w' w.heap.size (fun k_ => some k_ ≠ (u506003 : Value).ownBlock ∧ some k_ ≠ (u506004 : Value).ownBlock ∧ some k_ ≠ (u517003 : Value).ownBlock ∧ some k_ ≠ (u517004 : Value).ownBlock ∧ some k_ ≠ (u529003 : Value).ownBlock) u529004 x529004_3) ∧ Aside0 (Kd.V (Kd.int .u8) 5 w' w.heap.size (fun k_ => some k_ ≠ (u506003 : Value).ownBlock ∧ some k_ ≠ (u506004 : Value).ownBlock ∧ some k_ ≠ (u517003 : Value).ownBlock ∧ some k_ ≠ (u517004 : Value).ownBlock ∧ some k_ ≠ (u529003 : Value).ownBlock ∧ some k_ ≠ (u529004 : Value).ownBlock ∧ k_ ≠ gb488 ∧ k_ ≠ gb505 ∧ k_ ≠ gb516 ∧ k_ ≠ gb528 ∧ k_ ≠ gb529) u530003 x530003_3) ∧ Aside0 (Kd.V (Kd.int .u8) 5 w' w.heap.size (fun k_ => some k_ ≠ (u506003 : Value).ownBlock ∧ some k_ ≠ (u506004 : Value).ownBlock ∧ some k_ ≠ (u517003 : Value).ownBlock ∧ some k_ ≠ (u517004 : Value).ownBlock ∧ some k_ ≠ (u529003 : Value).ownBlock ∧ some k_ ≠ (u529004 : Value).ownBlock ∧ k_ ≠ gb488 ∧ k_ ≠ gb505 ∧ k_ ≠ gb516 ∧ k_ ≠ gb528 ∧ k_ ≠ gb529) u530004 x530004_3) ∧ Aside0 (w'.heap[gb488]? = some (.cells #[.int .i64 a0_0, .int .i64 a0_1] 52 (0, 0))) ∧ Aside0 (w'.heap[gb505]? = some (.cells #[.int .i64 t495, .int .i64 t496, .int .u64 t497, u506003, u506004] 33 (0, 0))) ∧ Aside0 (w'.heap[gb516]? = some (.cells #[.int .i64 t506, .int .i64 t507, .int .u64 t508, u517003, u517004] 33 (0, 0))) ∧ Aside0 (w'.heap[gb528]? = some (.cells #[.int .i64 t519, .int .i64 t520, .int .u64 t521, u529003, u529004] 33 (0, 0))) ∧ Aside0 (w'.heap[gb529]? = some (.cells #[.int .i64 a0_0, .int .i64 a0_1, .int .u64 a1, u530003, u530004] 33 (0, 0))) ∧ Aside0 (Below w.heap.size w w'))
              case atStart => exact ⟨(0), (t498), (t501), (t509), (t512), (t522), (t525), (t489), (t489), (.slice Ao19 t498.length co19), (.slice Ao20 t501.length co20), (.slice Ao27 t509.length co27), (.slice Ao28 t512.length co28), (.slice Ao51 t522.length co51), (.slice Ao52 t525.length co52), (.slice Ao11 t489.length co11), (.slice Ao11 t489.length co11), (by first | rfl | (simp; done) | (simp [*]; done)), H', ⟨Nat.le_refl _⟩, ⟨by (with_reducible repeat (first | apply Kd.R_alloc | apply Kd.R_drewN | apply Kd.R_drew)); exact HO_506003.out⟩, ⟨by (with_reducible repeat (first | apply Kd.R_alloc | apply Kd.R_drewN | apply Kd.R_drew)); exact HO_506004.out⟩, ⟨by (with_reducible repeat (first | apply Kd.R_alloc | apply Kd.R_drewN | apply Kd.R_drew)); exact HO_517003.out⟩, ⟨by (with_reducible repeat (first | apply Kd.R_alloc | apply Kd.R_drewN | apply Kd.R_drew)); exact HO_517004.out⟩, ⟨by (with_reducible repeat (first | apply Kd.R_alloc | apply Kd.R_drewN | apply Kd.R_drew)); exact HO_529003.out⟩, ⟨by (with_reducible repeat (first | apply Kd.R_alloc | apply Kd.R_drewN | apply Kd.R_drew)); exact HO_529004.out⟩, ⟨by (with_reducible repeat (first | apply Kd.V_alloc | apply Kd.V_drewN | apply Kd.V_drew)); exact HO_530003.out⟩, ⟨by (with_reducible repeat (first | apply Kd.V_alloc | apply Kd.V_drewN | apply Kd.V_drew)); exact HO_530004.out⟩, ⟨by (with_reducible repeat (first | refine blk_drewN ?_ _ | refine blk_drew ?_ | refine blk_alloc ?_ _)); exact BK488.out⟩, ⟨by (with_reducible repeat (first | refine blk_drewN ?_ _ | refine blk_drew ?_ | refine blk_alloc ?_ _)); exact BK505.out⟩, ⟨by (with_reducible repeat (first | refine blk_drewN ?_ _ | refine blk_drew ?_ | refine blk_alloc ?_ _)); exact BK516.out⟩, ⟨by (with_reducible repeat (first | refine blk_drewN ?_ _ | refine blk_drew ?_ | refine blk_alloc ?_ _)); exact BK528.out⟩, ⟨by (with_reducible repeat (first | refine blk_drewN ?_ _ | refine blk_drew ?_ | refine blk_alloc ?_ _)); exact BK529.out⟩, ⟨by repeat (first | (with_reducible first | exact HB.out | apply below_alloc | apply pw_below_drewN | apply below_drew1 | refine below_set ?_ GE488.out | refine below_set ?_ GE505.out | refine below_set ?_ GE516.out | refine below_set ?_ GE528.out | refine below_set ?_ GE529.out) | exact HB.out)⟩⟩
              case round =>
                clear H'
                try clear p2
                try clear c3
                try clear c6
                try clear c7
                try clear c8
                try clear c35
                try clear c36
                try clear c37
                try clear c68
                try clear c71
                try clear c83
                try clear p2
                obtain ⟨x14_3, x506003_3, x506004_3, x517003_3, x517004_3, x529003_3, x529004_3, x530003_3, x530004_3, u506003, u506004, u517003, u517004, u529003, u529004, u530003, u530004, rfl, HA, HK3, HO_506003, HO_506004, HO_517003, HO_517004, HO_529003, HO_529004, HO_530003, HO_530004, BK488, BK505, BK516, BK528, BK529, HB⟩ := hrel
                cases gk with
                | zero => exact absurd HA.out (by simp [signetrylaw01_WireMakes.l0])
                | succ k3 =>
                  have H := HA.out
                  clear HA
                  simp only [signetrylaw01_WireMakes.l0] at H
                  by_cases c84 : x14_3 < (x529003_3.length : Int)
                  · rw [if_pos c84] at H
                    have c84b0 : decide (x14_3 < (x529003_3.length : Int)) = true := decide_eq_true c84
                    clear c84
                    by_cases c85 : 0 ≤ x14_3
                    · rw [if_pos c85] at H
                      have c85b0 : decide (0 ≤ x14_3) = true := decide_eq_true c85
                      clear c85
                      obtain ⟨y539, hy539⟩ : ∃ y_ : List Int, y_ = (x529003_3.set (x14_3 : Int).toNat (Go.bits .xor .u8 (rd x529003_3 x14_3) 1)) := ⟨_, rfl⟩
                      replace H : (signetrylaw01_WireMakes.l0 k3 (wrap64 (x14_3 + 1)) t495 t496 t497 x506003_3 x506004_3 t506 t507 t508 x517003_3 x517004_3 t519 t520 t521 y539 x529004_3) = some r := by first | (rw [hy539]; with_reducible exact H) | (have H2_ := (Option.bind_some _ _).symm.trans H; rw [hy539]; with_reducible exact H2_) | (have H2_ := (Option.bind_some _ _).symm.trans H; with_reducible exact H2_) | with_reducible exact H | (rw [hy539]; exact H) | exact H
                      have Ny539 := Aside0.mk hy539
                      clear hy539
                      have H' := Aside0.mk H
                      clear H
                      have hnb87 := NB528_488.out
                      have hnc87 := NB488_528.out
                      have hnb88 := NB528_505.out
                      have hnc88 := NB505_528.out
                      have hnb89 := NB528_516.out
                      have hnc89 := NB516_528.out
                      have hnb90 := NB528_529.out
                      have hnc90 := NB529_528.out
                      have hcz91_0 : wr.cell? ⟨gb528, 0, none⟩ = some (.int .i64 t519) := (blk_cell BK528.out 0).trans rfl
                      have hcz91_1 : wr.cell? ⟨gb528, 1, none⟩ = some (.int .i64 t520) := (blk_cell BK528.out 1).trans rfl
                      have hcz91_2 : wr.cell? ⟨gb528, 2, none⟩ = some (.int .u64 t521) := (blk_cell BK528.out 2).trans rfl
                      have hcz91_3 : wr.cell? ⟨gb528, 3, none⟩ = some (u529003) := (blk_cell BK528.out 3).trans rfl
                      have hcz91_4 : wr.cell? ⟨gb528, 4, none⟩ = some (u529004) := (blk_cell BK528.out 4).trans rfl
                      have hfz91_0 := blk_frozen BK528.out 0
                      have hfz91_1 := blk_frozen BK528.out 1
                      have hfz91_2 := blk_frozen BK528.out 2
                      have hfz91_3 := blk_frozen BK528.out 3
                      have hfz91_4 := blk_frozen BK528.out 4
                      obtain ⟨Ao92, co92, eo92⟩ := Kd.R_slice HO_529003.out
                      subst eo92
                      try go_wp2
                      have n0_ := Aside0.mk (Kd.R_drew HO_506003.out)
                      have n1_ := Aside0.mk (Kd.R_drew HO_506004.out)
                      have n2_ := Aside0.mk (Kd.R_drew HO_517003.out)
                      have n3_ := Aside0.mk (Kd.R_drew HO_517004.out)
                      have n4_ := Aside0.mk (Kd.R_drew HO_529003.out)
                      have n5_ := Aside0.mk (Kd.R_drew HO_529004.out)
                      have n6_ := Aside0.mk (Kd.V_drew HO_530003.out)
                      have n7_ := Aside0.mk (Kd.V_drew HO_530004.out)
                      have n8_ := Aside0.mk (blk_drew BK488.out)
                      have n9_ := Aside0.mk (blk_drew BK505.out)
                      have n10_ := Aside0.mk (blk_drew BK516.out)
                      have n11_ := Aside0.mk (blk_drew BK528.out)
                      have n12_ := Aside0.mk (blk_drew BK529.out)
                      have n13_ := Aside0.mk (below_drew1 HB.out)
                      clear HO_506003
                      clear HO_506004
                      clear HO_517003
                      clear HO_517004
                      clear HO_529003
                      clear HO_529004
                      clear HO_530003
                      clear HO_530004
                      clear BK488
                      clear BK505
                      clear BK516
                      clear BK528
                      clear BK529
                      clear HB
                      have HO_506003 := n0_
                      have HO_506004 := n1_
                      have HO_517003 := n2_
                      have HO_517004 := n3_
                      have HO_529003 := n4_
                      have HO_529004 := n5_
                      have HO_530003 := n6_
                      have HO_530004 := n7_
                      have BK488 := n8_
                      have BK505 := n9_
                      have BK516 := n10_
                      have BK528 := n11_
                      have BK529 := n12_
                      have HB := n13_
                      clear n0_ n1_ n2_ n3_ n4_ n5_ n6_ n7_ n8_ n9_ n10_ n11_ n12_ n13_
                      have p538 : 0 ≤ (x14_3 : Int) := of_decide_eq_true (by first | (with_reducible assumption) | assumption)
                      have q538 : x14_3 < (x529003_3.length : Int) := of_decide_eq_true (by first | (with_reducible assumption) | assumption)
                      obtain ⟨ad538, e538, hx538_0⟩ := Kd.at_int (Kd.R_reads' HO_529003.out).2.2 x14_3 p538 q538
                      cases e538
                      replace p538 := eq_true p538
                      replace q538 := eq_true q538
                      have p86 : 0 ≤ (x14_3 : Int) := of_decide_eq_true (by first | (with_reducible assumption) | assumption)
                      have q86 : (x14_3 : Int) < ((x529003_3.length : Int) : Int) := of_decide_eq_true (by first | (with_reducible assumption) | assumption)
                      obtain ⟨go86, co86, eo86, gb86, gl86, cl86, HG86⟩ := Kd.R_form HO_529003.out (by omega)
                      (first | cases eo86 | (injection eo86 with ea_ en_ ec_; (first | subst ea_ | (injection ea_ with ea_; subst ea_)); subst ec_; clear en_))
                      have GB86 := Aside0.mk gb86
                      have GG86 := Aside0.mk HG86
                      clear gb86 gl86 HG86
                      (first | simp only [add_plain] at hx538_0 | skip)
                      obtain ⟨hx86_0, hf86_0⟩ := Kd.R_celln 0 HO_529003.out (x14_3 : Int) p86 q86
                      replace p86 := eq_true p86
                      replace q86 := eq_true q86
                      have HP94 := Kd.R_putn HO_529003.out (x14_3 : Int) (Go.bits .xor .u8 (rd x529003_3 x14_3) 1)
                      rw [← Ny539.out] at HP94
                      have HQ94 := Aside0.mk HP94
                      clear HP94
                      refine start_ (n := 11) (S := fun w' => w'.cell? ⟨gb528, 0, none⟩ = some (.int .i64 t519) ∧ w'.cell? ⟨gb528, 1, none⟩ = some (.int .i64 t520) ∧ w'.cell? ⟨gb528, 2, none⟩ = some (.int .u64 t521) ∧ w'.cell? ⟨gb528, 3, none⟩ = some (.slice (some ⟨go86, 0, none⟩) x529003_3.length co92) ∧ w'.cell? ⟨gb528, 4, none⟩ = some (u529004) ∧ w'.cell? ⟨go86, (x14_3).toNat, none⟩ = some (.int .u8 (rd x529003_3 x14_3))) (ds := [10]) #[false, false, false, false, false, false, false, false, false, false, false] (by kernel_rfl) rfl rfl ⟨(blk_cell BK528.out 0).trans rfl, (blk_cell BK528.out 1).trans rfl, (blk_cell BK528.out 2).trans rfl, (blk_cell BK528.out 3).trans rfl, (blk_cell BK528.out 4).trans rfl, hx538_0⟩ (fun hHeld => ?_); refine with_tabW signetrylaw01_WireMakes.tab14 signetrylaw01_WireMakes.bits14 (fun HT_ HW_ => ?_)
                      generalize wr.drew = w93 at HO_506003 HO_506004 HO_517003 HO_517004 HO_529003 HO_529004 HO_530003 HO_530004 BK488 BK505 BK516 BK528 BK529 HB GG86 HQ94 hf86_0 hx538_0 hx86_0 hHeld ⊢
                      refine pure_ (i := 0) (N := some 105) (v := ?_) (a' := ?_) #[true, false, false, false, false, false, false, false, false, false, false] rfl rfl (any_of HT_.out (by kernel_rfl)) (fun _ _ _ h => h) (Or.inl ⟨by rfl, ?_⟩) ?_ ?_
                      rotate_left
                      · intro w'
                        go_simp
                        with_reducible rfl
                      rotate_left
                      · simp only [Act.put, List.setIfInBounds_toArray, List.set_cons_zero, List.set_cons_succ, i64_w, i32_w]
                        rfl
                      refine pure_ (i := 2) (N := some 107) (v := ?_) (a' := ?_) #[true, false, true, false, false, false, false, false, false, false, false] rfl rfl (any_of HT_.out (by kernel_rfl)) (fun _ _ _ h => h) (Or.inl ⟨by rfl, ?_⟩) ?_ ?_
                      rotate_left
                      · intro w'
                        go_simp
                        with_reducible rfl
                      rotate_left
                      · simp only [Act.put, List.setIfInBounds_toArray, List.set_cons_zero, List.set_cons_succ, i64_w, i32_w]
                        rfl
                      refine pure_ (i := 3) (N := some 108) (v := ?_) (a' := ?_) #[true, false, true, true, false, false, false, false, false, false, false] rfl rfl (any_of HT_.out (by kernel_rfl)) (fun _ _ _ h => h) (Or.inl ⟨by rfl, ?_⟩) ?_ ?_
                      rotate_left
                      · intro w'
                        go_simp
                        with_reducible rfl
                      rotate_left
                      · simp only [Act.put, List.setIfInBounds_toArray, List.set_cons_zero, List.set_cons_succ, i64_w, i32_w]
                        rfl
                      refine pure_ (i := 5) (N := some 110) (v := ?_) (a' := ?_) #[true, false, true, true, false, true, false, false, false, false, false] rfl rfl (any_of HT_.out (by kernel_rfl)) (fun _ _ _ h => h) (Or.inl ⟨by rfl, ?_⟩) ?_ ?_
                      rotate_left
                      · intro w'
                        go_simp
                        with_reducible rfl
                      rotate_left
                      · simp only [Act.put, List.setIfInBounds_toArray, List.set_cons_zero, List.set_cons_succ, i64_w, i32_w]
                        rfl
                      refine take_ (i := 1) (N := some 106) (v := ?_) (a' := ?_) #[true, true, true, true, false, true, false, false, false, false, false] rfl rfl (take_ofW HT_.out HW_.out (by kernel_rfl)) (fun _ _ _ h => h) (Or.inl ⟨by rfl, ?_⟩) hHeld ?_ ?_
                      rotate_left
                      · rintro w' ⟨s0, s1, s2, s3, s4, s5⟩
                        go_simp
                        with_reducible rfl
                      rotate_left
                      · simp only [Act.put, List.setIfInBounds_toArray, List.set_cons_zero, List.set_cons_succ, i64_w, i32_w]
                        rfl
                      refine take_ (i := 4) (N := some 109) (v := ?_) (a' := ?_) #[true, true, true, true, true, true, false, false, false, false, false] rfl rfl (take_ofW HT_.out HW_.out (by kernel_rfl)) (fun _ _ _ h => h) (Or.inl ⟨by rfl, ?_⟩) hHeld ?_ ?_
                      rotate_left
                      · rintro w' ⟨s0, s1, s2, s3, s4, s5⟩
                        go_simp
                        with_reducible rfl
                      rotate_left
                      · simp only [Act.put, List.setIfInBounds_toArray, List.set_cons_zero, List.set_cons_succ, i64_w, i32_w]
                        rfl
                      refine pure_ (i := 6) (N := some 111) (v := ?_) (a' := ?_) #[true, true, true, true, true, true, true, false, false, false, false] rfl rfl (any_of HT_.out (by kernel_rfl)) (fun _ _ _ h => h) (Or.inl ⟨by rfl, ?_⟩) ?_ ?_
                      rotate_left
                      · intro w'
                        go_simp
                        with_reducible rfl
                      rotate_left
                      · simp only [Act.put, List.setIfInBounds_toArray, List.set_cons_zero, List.set_cons_succ, i64_w, i32_w]
                        rfl
                      refine take_ (i := 7) (N := some 112) (v := ?_) (a' := ?_) #[true, true, true, true, true, true, true, true, false, false, false] rfl rfl (take_ofW HT_.out HW_.out (by kernel_rfl)) (fun _ _ _ h => h) (Or.inl ⟨by rfl, ?_⟩) hHeld ?_ ?_
                      rotate_left
                      · rintro w' ⟨s0, s1, s2, s3, s4, s5⟩
                        go_simp
                        with_reducible rfl
                      rotate_left
                      · simp only [Act.put, List.setIfInBounds_toArray, List.set_cons_zero, List.set_cons_succ, i64_w, i32_w]
                        rfl
                      refine pure_ (i := 8) (N := some 113) (v := ?_) (a' := ?_) #[true, true, true, true, true, true, true, true, true, false, false] rfl rfl (any_of HT_.out (by kernel_rfl)) (fun _ _ _ h => h) (Or.inl ⟨by rfl, ?_⟩) ?_ ?_
                      rotate_left
                      · intro w'
                        go_simp
                        with_reducible rfl
                      rotate_left
                      · simp only [Act.put, List.setIfInBounds_toArray, List.set_cons_zero, List.set_cons_succ, i64_w, i32_w]
                        rfl
                      refine pure_ (i := 9) (N := some 114) (v := ?_) (a' := ?_) #[true, true, true, true, true, true, true, true, true, true, false] rfl rfl (any_of HT_.out (by kernel_rfl)) (fun _ _ _ h => h) (Or.inl ⟨by rfl, ?_⟩) ?_ ?_
                      rotate_left
                      · intro w'
                        go_simp
                        with_reducible rfl
                      rotate_left
                      · simp only [Act.put, List.setIfInBounds_toArray, List.set_cons_zero, List.set_cons_succ, i64_w, i32_w]
                        rfl
                      refine last_ (i := 10) (N := none) #[true, true, true, true, true, true, true, true, true, true, true] rfl rfl (one_of HT_.out (by kernel_rfl)) (by decide) (fun K hK => ?_)
                      refine skip_ (w1 := ?_) (by rfl) rfl ?_ ?_
                      rotate_left
                      · go_simp
                        rfl
                      refine hK.out _ _ ?_
                      clear hK K
                      refine done_ (done_of HT_.out (by kernel_rfl)) ?_
                      try go_wp2
                      go_roundg k3
                      case measure => have := HJ7.out; have := HJ40.out; have := HK3.out; omega
                      case rel => exact ⟨(wrap64 (x14_3 + 1)), (x506003_3), (x506004_3), (x517003_3), (x517004_3), (y539), (x529004_3), (x530003_3), (x530004_3), (u506003), (u506004), (u517003), (u517004), (.slice (some ⟨go86, 0, none⟩) x529003_3.length co92), (u529004), (u530003), (u530004), (by first | rfl | (simp; done) | (simp [*]; done)), H', ⟨by have := HJ7.out; have := HJ40.out; have := HK3.out; omega⟩, ⟨by (with_reducible repeat (first | apply Kd.R_alloc | apply Kd.R_drewN | apply Kd.R_drew)); exact Kd.R_mono (Kd.R_far (p := ⟨go86, (x14_3 : Int).toNat, none⟩) (Kd.R_mono HO_506003.out (fun k_ hk => (⟨hk, fun e_ => hk.2.2.2.1 (by rw [e_]; rfl)⟩ : _ ∧ k_ ≠ go86))) (fun _ hk => hk.2) (.int .u8 (Go.bits .xor .u8 (rd x529003_3 x14_3) 1))) (fun _ hk => ⟨hk.1.1, ⟨hk.1.2.1, ⟨hk.1.2.2.1, ⟨hk.1.2.2.2.1, hk.1.2.2.2.2⟩⟩⟩⟩)⟩, ⟨by (with_reducible repeat (first | apply Kd.R_alloc | apply Kd.R_drewN | apply Kd.R_drew)); exact Kd.R_mono (Kd.R_far (p := ⟨go86, (x14_3 : Int).toNat, none⟩) (Kd.R_mono HO_506004.out (fun k_ hk => (⟨hk, fun e_ => hk.2.2.2.1 (by rw [e_]; rfl)⟩ : _ ∧ k_ ≠ go86))) (fun _ hk => hk.2) (.int .u8 (Go.bits .xor .u8 (rd x529003_3 x14_3) 1))) (fun _ hk => ⟨hk.1.1, ⟨hk.1.2.1, ⟨hk.1.2.2.1, ⟨hk.1.2.2.2.1, hk.1.2.2.2.2⟩⟩⟩⟩)⟩, ⟨by (with_reducible repeat (first | apply Kd.R_alloc | apply Kd.R_drewN | apply Kd.R_drew)); exact Kd.R_mono (Kd.R_far (p := ⟨go86, (x14_3 : Int).toNat, none⟩) (Kd.R_mono HO_517003.out (fun k_ hk => (⟨hk, fun e_ => hk.2.2.2.1 (by rw [e_]; rfl)⟩ : _ ∧ k_ ≠ go86))) (fun _ hk => hk.2) (.int .u8 (Go.bits .xor .u8 (rd x529003_3 x14_3) 1))) (fun _ hk => ⟨hk.1.1, ⟨hk.1.2.1, ⟨hk.1.2.2.1, ⟨hk.1.2.2.2.1, hk.1.2.2.2.2⟩⟩⟩⟩)⟩, ⟨by (with_reducible repeat (first | apply Kd.R_alloc | apply Kd.R_drewN | apply Kd.R_drew)); exact Kd.R_mono (Kd.R_far (p := ⟨go86, (x14_3 : Int).toNat, none⟩) (Kd.R_mono HO_517004.out (fun k_ hk => (⟨hk, fun e_ => hk.2.2.2.1 (by rw [e_]; rfl)⟩ : _ ∧ k_ ≠ go86))) (fun _ hk => hk.2) (.int .u8 (Go.bits .xor .u8 (rd x529003_3 x14_3) 1))) (fun _ hk => ⟨hk.1.1, ⟨hk.1.2.1, ⟨hk.1.2.2.1, ⟨hk.1.2.2.2.1, hk.1.2.2.2.2⟩⟩⟩⟩)⟩, ⟨by (with_reducible repeat (first | apply Kd.R_alloc | apply Kd.R_drewN | apply Kd.R_drew)); exact HQ94.out⟩, ⟨by (with_reducible repeat (first | apply Kd.R_alloc | apply Kd.R_drewN | apply Kd.R_drew)); exact Kd.R_mono (Kd.R_far (p := ⟨go86, (x14_3 : Int).toNat, none⟩) (Kd.R_mono HO_529004.out (fun k_ hk => (⟨hk, fun e_ => hk.2.2.2.2 (by rw [e_]; rfl)⟩ : _ ∧ k_ ≠ go86))) (fun _ hk => hk.2) (.int .u8 (Go.bits .xor .u8 (rd x529003_3 x14_3) 1))) (fun _ hk => ⟨hk.1.1, ⟨hk.1.2.1, ⟨hk.1.2.2.1, ⟨hk.1.2.2.2.1, hk.1.2.2.2.2⟩⟩⟩⟩)⟩, ⟨by (with_reducible repeat (first | apply Kd.V_alloc | apply Kd.V_drewN | apply Kd.V_drew)); exact Kd.V_mono (Kd.V_far (p := ⟨go86, (x14_3 : Int).toNat, none⟩) (Kd.V_mono HO_530003.out (fun k_ hk => (⟨hk, fun e_ => hk.2.2.2.2.1 (by rw [e_]; rfl)⟩ : _ ∧ k_ ≠ go86))) (fun _ hk => hk.2) (.int .u8 (Go.bits .xor .u8 (rd x529003_3 x14_3) 1))) (fun _ hk => ⟨hk.1.1, ⟨hk.1.2.1, ⟨hk.1.2.2.1, ⟨hk.1.2.2.2.1, ⟨hk.1.2.2.2.2.1, ⟨hk.1.2.2.2.2.2.1, ⟨hk.1.2.2.2.2.2.2.1, ⟨hk.1.2.2.2.2.2.2.2.1, ⟨hk.1.2.2.2.2.2.2.2.2.1, ⟨hk.1.2.2.2.2.2.2.2.2.2.1, hk.1.2.2.2.2.2.2.2.2.2.2⟩⟩⟩⟩⟩⟩⟩⟩⟩⟩)⟩, ⟨by (with_reducible repeat (first | apply Kd.V_alloc | apply Kd.V_drewN | apply Kd.V_drew)); exact Kd.V_mono (Kd.V_far (p := ⟨go86, (x14_3 : Int).toNat, none⟩) (Kd.V_mono HO_530004.out (fun k_ hk => (⟨hk, fun e_ => hk.2.2.2.2.1 (by rw [e_]; rfl)⟩ : _ ∧ k_ ≠ go86))) (fun _ hk => hk.2) (.int .u8 (Go.bits .xor .u8 (rd x529003_3 x14_3) 1))) (fun _ hk => ⟨hk.1.1, ⟨hk.1.2.1, ⟨hk.1.2.2.1, ⟨hk.1.2.2.2.1, ⟨hk.1.2.2.2.2.1, ⟨hk.1.2.2.2.2.2.1, ⟨hk.1.2.2.2.2.2.2.1, ⟨hk.1.2.2.2.2.2.2.2.1, ⟨hk.1.2.2.2.2.2.2.2.2.1, ⟨hk.1.2.2.2.2.2.2.2.2.2.1, hk.1.2.2.2.2.2.2.2.2.2.2⟩⟩⟩⟩⟩⟩⟩⟩⟩⟩)⟩, ⟨by (with_reducible repeat (first | refine blk_drewN ?_ _ | refine blk_drew ?_ | refine blk_alloc ?_ _)); refine blk_far ?_ (by have h_ := Kd.R_ne HO_529003.out BK488.out (by decide); intro e_; exact h_ (by rw [e_]; rfl)) _; (with_reducible repeat (first | refine blk_drewN ?_ _ | refine blk_drew ?_ | refine blk_alloc ?_ _)); exact BK488.out⟩, ⟨by (with_reducible repeat (first | refine blk_drewN ?_ _ | refine blk_drew ?_ | refine blk_alloc ?_ _)); refine blk_far ?_ (by have h_ := Kd.R_ne HO_529003.out BK505.out (by decide); intro e_; exact h_ (by rw [e_]; rfl)) _; (with_reducible repeat (first | refine blk_drewN ?_ _ | refine blk_drew ?_ | refine blk_alloc ?_ _)); exact BK505.out⟩, ⟨by (with_reducible repeat (first | refine blk_drewN ?_ _ | refine blk_drew ?_ | refine blk_alloc ?_ _)); refine blk_far ?_ (by have h_ := Kd.R_ne HO_529003.out BK516.out (by decide); intro e_; exact h_ (by rw [e_]; rfl)) _; (with_reducible repeat (first | refine blk_drewN ?_ _ | refine blk_drew ?_ | refine blk_alloc ?_ _)); exact BK516.out⟩, ⟨by (with_reducible repeat (first | refine blk_drewN ?_ _ | refine blk_drew ?_ | refine blk_alloc ?_ _)); refine blk_far ?_ (by have h_ := Kd.R_ne HO_529003.out BK528.out (by decide); intro e_; exact h_ (by rw [e_]; rfl)) _; (with_reducible repeat (first | refine blk_drewN ?_ _ | refine blk_drew ?_ | refine blk_alloc ?_ _)); exact BK528.out⟩, ⟨by (with_reducible repeat (first | refine blk_drewN ?_ _ | refine blk_drew ?_ | refine blk_alloc ?_ _)); refine blk_far ?_ (by have h_ := Kd.R_ne HO_529003.out BK529.out (by decide); intro e_; exact h_ (by rw [e_]; rfl)) _; (with_reducible repeat (first | refine blk_drewN ?_ _ | refine blk_drew ?_ | refine blk_alloc ?_ _)); exact BK529.out⟩, ⟨by repeat (first | (with_reducible first | exact HB.out | apply below_alloc | apply pw_below_drewN | apply below_drew1 | refine below_set ?_ GB86.out | refine below_set ?_ GE488.out | refine below_set ?_ GE505.out | refine below_set ?_ GE516.out | refine below_set ?_ GE528.out | refine below_set ?_ GE529.out) | exact HB.out)⟩⟩
                    · rw [if_neg c85] at H
                      exact absurd H (by simp)
                  · rw [if_neg c84] at H
                    have c84b0 : decide (x14_3 < (x529003_3.length : Int)) = false := decide_eq_false c84
                    clear c84
                    have H' := Aside0.mk H
                    clear H
                    have hnb95 := NB528_488.out
                    have hnc95 := NB488_528.out
                    have hnb96 := NB528_505.out
                    have hnc96 := NB505_528.out
                    have hnb97 := NB528_516.out
                    have hnc97 := NB516_528.out
                    have hnb98 := NB528_529.out
                    have hnc98 := NB529_528.out
                    have hcz99_0 : wr.cell? ⟨gb528, 0, none⟩ = some (.int .i64 t519) := (blk_cell BK528.out 0).trans rfl
                    have hcz99_1 : wr.cell? ⟨gb528, 1, none⟩ = some (.int .i64 t520) := (blk_cell BK528.out 1).trans rfl
                    have hcz99_2 : wr.cell? ⟨gb528, 2, none⟩ = some (.int .u64 t521) := (blk_cell BK528.out 2).trans rfl
                    have hcz99_3 : wr.cell? ⟨gb528, 3, none⟩ = some (u529003) := (blk_cell BK528.out 3).trans rfl
                    have hcz99_4 : wr.cell? ⟨gb528, 4, none⟩ = some (u529004) := (blk_cell BK528.out 4).trans rfl
                    have hfz99_0 := blk_frozen BK528.out 0
                    have hfz99_1 := blk_frozen BK528.out 1
                    have hfz99_2 := blk_frozen BK528.out 2
                    have hfz99_3 := blk_frozen BK528.out 3
                    have hfz99_4 := blk_frozen BK528.out 4
                    obtain ⟨Ao100, co100, eo100⟩ := Kd.R_slice HO_529003.out
                    subst eo100
                    go_wp2
                    go_loopg [15] k3 (fun kq v15 w' => ∃ (x15_4 : Int) (x506003_4 : List Int) (x506004_4 : List Int) (x517003_4 : List Int) (x517004_4 : List Int) (x529003_4 : List Int) (x529004_4 : List Int) (x530003_4 : List Int) (x530004_4 : List Int) (u506003 : Value) (u506004 : Value) (u517003 : Value) (u517004 : Value) (u529003 : Value) (u529004 : Value) (u530003 : Value) (u530004 : Value), v15 = .int .i64 x15_4 ∧ Aside0 (signetrylaw01_WireMakes.l1 kq x15_4 t495 t496 t497 x506003_4 x506004_4 t506 t507 t508 x517003_4 x517004_4 t519 t520 t521 x529003_4 x529004_4 = some r) ∧ Aside0 (kq ≤ k3) ∧ Aside0 (Kd.R (Kd.int .u8) 5 w' w.heap.size (fun k_ => some k_ ≠ (u506004 : Value).ownBlock ∧ some k_ ≠ (u517003 : Value).ownBlock ∧ some k_ ≠ (u517004 : Value).ownBlock ∧ some k_ ≠ (u529003 : Value).ownBlock ∧ some k_ ≠ (u529004 : Value).ownBlock) u506003 x506003_4) ∧ Aside0 (Kd.R (Kd.int .u8) 5 w' w.heap.size (fun k_ => some k_ ≠ (u506003 : Value).ownBlock ∧ some k_ ≠ (u517003 : Value).ownBlock ∧ some k_ ≠ (u517004 : Value).ownBlock ∧ some k_ ≠ (u529003 : Value).ownBlock ∧ some k_ ≠ (u529004 : Value).ownBlock) u506004 x506004_4) ∧ Aside0 (Kd.R (Kd.int .u8) 5 w' w.heap.size (fun k_ => some k_ ≠ (u506003 : Value).ownBlock ∧ some k_ ≠ (u506004 : Value).ownBlock ∧ some k_ ≠ (u517004 : Value).ownBlock ∧ some k_ ≠ (u529003 : Value).ownBlock ∧ some k_ ≠ (u529004 : Value).ownBlock) u517003 x517003_4) ∧ Aside0 (Kd.R (Kd.int .u8) 5 w' w.heap.size (fun k_ => some k_ ≠ (u506003 : Value).ownBlock ∧ some k_ ≠ (u506004 : Value).ownBlock ∧ some k_ ≠ (u517003 : Value).ownBlock ∧ some k_ ≠ (u529003 : Value).ownBlock ∧ some k_ ≠ (u529004 : Value).ownBlock) u517004 x517004_4) ∧ Aside0 (Kd.R (Kd.int .u8) 5 w' w.heap.size (fun k_ => some k_ ≠ (u506003 : Value).ownBlock ∧ some k_ ≠ (u506004 : Value).ownBlock ∧ some k_ ≠ (u517003 : Value).ownBlock ∧ some k_ ≠ (u517004 : Value).ownBlock ∧ some k_ ≠ (u529004 : Value).ownBlock) u529003 x529003_4) ∧ Aside0 (Kd.R (Kd.int .u8) 5 w' w.heap.size (fun k_ => some k_ ≠ (u506003 : Value).ownBlock ∧ some k_ ≠ (u506004 : Value).ownBlock ∧ some k_ ≠ (u517003 : Value).ownBlock ∧ some k_ ≠ (u517004 : Value).ownBlock ∧ some k_ ≠ (u529003 : Value).ownBlock) u529004 x529004_4) ∧ Aside0 (Kd.V (Kd.int .u8) 5 w' w.heap.size (fun k_ => some k_ ≠ (u506003 : Value).ownBlock ∧ some k_ ≠ (u506004 : Value).ownBlock ∧ some k_ ≠ (u517003 : Value).ownBlock ∧ some k_ ≠ (u517004 : Value).ownBlock ∧ some k_ ≠ (u529003 : Value).ownBlock ∧ some k_ ≠ (u529004 : Value).ownBlock ∧ k_ ≠ gb488 ∧ k_ ≠ gb505 ∧ k_ ≠ gb516 ∧ k_ ≠ gb528 ∧ k_ ≠ gb529) u530003 x530003_4) ∧ Aside0 (Kd.V (Kd.int .u8) 5 w' w.heap.size (fun k_ => some k_ ≠ (u506003 : Value).ownBlock ∧ some k_ ≠ (u506004 : Value).ownBlock ∧ some k_ ≠ (u517003 : Value).ownBlock ∧ some k_ ≠ (u517004 : Value).ownBlock ∧ some k_ ≠ (u529003 : Value).ownBlock ∧ some k_ ≠ (u529004 : Value).ownBlock ∧ k_ ≠ gb488 ∧ k_ ≠ gb505 ∧ k_ ≠ gb516 ∧ k_ ≠ gb528 ∧ k_ ≠ gb529) u530004 x530004_4) ∧ Aside0 (w'.heap[gb488]? = some (.cells #[.int .i64 a0_0, .int .i64 a0_1] 52 (0, 0))) ∧ Aside0 (w'.heap[gb505]? = some (.cells #[.int .i64 t495, .int .i64 t496, .int .u64 t497, u506003, u506004] 33 (0, 0))) ∧ Aside0 (w'.heap[gb516]? = some (.cells #[.int .i64 t506, .int .i64 t507, .int .u64 t508, u517003, u517004] 33 (0, 0))) ∧ Aside0 (w'.heap[gb528]? = some (.cells #[.int .i64 t519, .int .i64 t520, .int .u64 t521, u529003, u529004] 33 (0, 0))) ∧ Aside0 (w'.heap[gb529]? = some (.cells #[.int .i64 a0_0, .int .i64 a0_1, .int .u64 a1, u530003, u530004] 33 (0, 0))) ∧ Aside0 (Below w.heap.size w w'))
                    case atStart => exact ⟨(0), (x506003_3), (x506004_3), (x517003_3), (x517004_3), (x529003_3), (x529004_3), (x530003_3), (x530004_3), (u506003), (u506004), (u517003), (u517004), (.slice Ao100 x529003_3.length co100), (u529004), (u530003), (u530004), (by first | rfl | (simp; done) | (simp [*]; done)), H', ⟨Nat.le_refl _⟩, ⟨by (with_reducible repeat (first | apply Kd.R_alloc | apply Kd.R_drewN | apply Kd.R_drew)); exact HO_506003.out⟩, ⟨by (with_reducible repeat (first | apply Kd.R_alloc | apply Kd.R_drewN | apply Kd.R_drew)); exact HO_506004.out⟩, ⟨by (with_reducible repeat (first | apply Kd.R_alloc | apply Kd.R_drewN | apply Kd.R_drew)); exact HO_517003.out⟩, ⟨by (with_reducible repeat (first | apply Kd.R_alloc | apply Kd.R_drewN | apply Kd.R_drew)); exact HO_517004.out⟩, ⟨by (with_reducible repeat (first | apply Kd.R_alloc | apply Kd.R_drewN | apply Kd.R_drew)); exact HO_529003.out⟩, ⟨by (with_reducible repeat (first | apply Kd.R_alloc | apply Kd.R_drewN | apply Kd.R_drew)); exact HO_529004.out⟩, ⟨by (with_reducible repeat (first | apply Kd.V_alloc | apply Kd.V_drewN | apply Kd.V_drew)); exact HO_530003.out⟩, ⟨by (with_reducible repeat (first | apply Kd.V_alloc | apply Kd.V_drewN | apply Kd.V_drew)); exact HO_530004.out⟩, ⟨by (with_reducible repeat (first | refine blk_drewN ?_ _ | refine blk_drew ?_ | refine blk_alloc ?_ _)); exact BK488.out⟩, ⟨by (with_reducible repeat (first | refine blk_drewN ?_ _ | refine blk_drew ?_ | refine blk_alloc ?_ _)); exact BK505.out⟩, ⟨by (with_reducible repeat (first | refine blk_drewN ?_ _ | refine blk_drew ?_ | refine blk_alloc ?_ _)); exact BK516.out⟩, ⟨by (with_reducible repeat (first | refine blk_drewN ?_ _ | refine blk_drew ?_ | refine blk_alloc ?_ _)); exact BK528.out⟩, ⟨by (with_reducible repeat (first | refine blk_drewN ?_ _ | refine blk_drew ?_ | refine blk_alloc ?_ _)); exact BK529.out⟩, ⟨by repeat (first | (with_reducible first | exact HB.out | apply below_alloc | apply pw_below_drewN | apply below_drew1 | refine below_set ?_ GE488.out | refine below_set ?_ GE505.out | refine below_set ?_ GE516.out | refine below_set ?_ GE528.out | refine below_set ?_ GE529.out) | exact HB.out)⟩⟩
                    case round =>
                      clear H'
                      try clear p2
                      try clear c3
                      try clear p5
                      try clear q5
                      try clear hx5
                      try clear c6
                      try clear p6
                      try clear c7
                      try clear c8
                      try clear p8
                      try clear q8
                      try clear hx8
                      try clear hf8
                      try clear c9
                      try clear c35
                      try clear c36
                      try clear c37
                      try clear p53
                      try clear q53
                      try clear hx53
                      try clear p64
                      try clear c68
                      try clear c71
                      try clear c83
                      try clear c84
                      try clear c84b0
                      try clear c85
                      try clear c85b0
                      try clear p86
                      try clear q86
                      try clear hx86
                      try clear hf86
                      try clear c87
                      try clear c88
                      try clear c89
                      try clear c90
                      try clear c95
                      try clear c96
                      try clear c97
                      try clear c98
                      try clear hcz91_0
                      try clear hcz91_1
                      try clear hcz91_2
                      try clear hcz91_3
                      try clear hcz91_4
                      try clear hcz99_0
                      try clear hcz99_1
                      try clear hcz99_2
                      try clear hcz99_3
                      try clear hcz99_4
                      try clear hfz91_0
                      try clear hfz91_1
                      try clear hfz91_2
                      try clear hfz91_3
                      try clear hfz91_4
                      try clear hfz99_0
                      try clear hfz99_1
                      try clear hfz99_2
                      try clear hfz99_3
                      try clear hfz99_4
                      try clear hx538_0
                      try clear hx86_0
                      try clear p2
                      try clear p538
                      try clear p86
                      try clear q538
                      try clear q86
                      obtain ⟨x15_4, x506003_4, x506004_4, x517003_4, x517004_4, x529003_4, x529004_4, x530003_4, x530004_4, u506003, u506004, u517003, u517004, u529003, u529004, u530003, u530004, rfl, HA, HK4, HO_506003, HO_506004, HO_517003, HO_517004, HO_529003, HO_529004, HO_530003, HO_530004, BK488, BK505, BK516, BK528, BK529, HB⟩ := hrel
                      cases gk with
                      | zero => exact absurd HA.out (by simp [signetrylaw01_WireMakes.l1])
                      | succ k4 =>
                        have H := HA.out
                        clear HA
                        simp only [signetrylaw01_WireMakes.l1] at H
                        by_cases c101 : x15_4 < (x529004_4.length : Int)
                        · rw [if_pos c101] at H
                          have c101b0 : decide (x15_4 < (x529004_4.length : Int)) = true := decide_eq_true c101
                          clear c101
                          by_cases c102 : 0 ≤ x15_4
                          · rw [if_pos c102] at H
                            have c102b0 : decide (0 ≤ x15_4) = true := decide_eq_true c102
                            clear c102
                            obtain ⟨y541, hy541⟩ : ∃ y_ : List Int, y_ = (x529004_4.set (x15_4 : Int).toNat (Go.bits .xor .u8 (rd x529004_4 x15_4) 1)) := ⟨_, rfl⟩
                            replace H : (signetrylaw01_WireMakes.l1 k4 (wrap64 (x15_4 + 1)) t495 t496 t497 x506003_4 x506004_4 t506 t507 t508 x517003_4 x517004_4 t519 t520 t521 x529003_4 y541) = some r := by first | (rw [hy541]; with_reducible exact H) | (have H2_ := (Option.bind_some _ _).symm.trans H; rw [hy541]; with_reducible exact H2_) | (have H2_ := (Option.bind_some _ _).symm.trans H; with_reducible exact H2_) | with_reducible exact H | (rw [hy541]; exact H) | exact H
                            have Ny541 := Aside0.mk hy541
                            clear hy541
                            have H' := Aside0.mk H
                            clear H
                            have hnb104 := NB528_488.out
                            have hnc104 := NB488_528.out
                            have hnb105 := NB528_505.out
                            have hnc105 := NB505_528.out
                            have hnb106 := NB528_516.out
                            have hnc106 := NB516_528.out
                            have hnb107 := NB528_529.out
                            have hnc107 := NB529_528.out
                            have hcz108_0 : wr.cell? ⟨gb528, 0, none⟩ = some (.int .i64 t519) := (blk_cell BK528.out 0).trans rfl
                            have hcz108_1 : wr.cell? ⟨gb528, 1, none⟩ = some (.int .i64 t520) := (blk_cell BK528.out 1).trans rfl
                            have hcz108_2 : wr.cell? ⟨gb528, 2, none⟩ = some (.int .u64 t521) := (blk_cell BK528.out 2).trans rfl
                            have hcz108_3 : wr.cell? ⟨gb528, 3, none⟩ = some (u529003) := (blk_cell BK528.out 3).trans rfl
                            have hcz108_4 : wr.cell? ⟨gb528, 4, none⟩ = some (u529004) := (blk_cell BK528.out 4).trans rfl
                            have hfz108_0 := blk_frozen BK528.out 0
                            have hfz108_1 := blk_frozen BK528.out 1
                            have hfz108_2 := blk_frozen BK528.out 2
                            have hfz108_3 := blk_frozen BK528.out 3
                            have hfz108_4 := blk_frozen BK528.out 4
                            obtain ⟨Ao109, co109, eo109⟩ := Kd.R_slice HO_529004.out
                            subst eo109
                            try go_wp2
                            have n0_ := Aside0.mk (Kd.R_drew HO_506003.out)
                            have n1_ := Aside0.mk (Kd.R_drew HO_506004.out)
                            have n2_ := Aside0.mk (Kd.R_drew HO_517003.out)
                            have n3_ := Aside0.mk (Kd.R_drew HO_517004.out)
                            have n4_ := Aside0.mk (Kd.R_drew HO_529003.out)
                            have n5_ := Aside0.mk (Kd.R_drew HO_529004.out)
                            have n6_ := Aside0.mk (Kd.V_drew HO_530003.out)
                            have n7_ := Aside0.mk (Kd.V_drew HO_530004.out)
                            have n8_ := Aside0.mk (blk_drew BK488.out)
                            have n9_ := Aside0.mk (blk_drew BK505.out)
                            have n10_ := Aside0.mk (blk_drew BK516.out)
                            have n11_ := Aside0.mk (blk_drew BK528.out)
                            have n12_ := Aside0.mk (blk_drew BK529.out)
                            have n13_ := Aside0.mk (below_drew1 HB.out)
                            clear HO_506003
                            clear HO_506004
                            clear HO_517003
                            clear HO_517004
                            clear HO_529003
                            clear HO_529004
                            clear HO_530003
                            clear HO_530004
                            clear BK488
                            clear BK505
                            clear BK516
                            clear BK528
                            clear BK529
                            clear HB
                            have HO_506003 := n0_
                            have HO_506004 := n1_
                            have HO_517003 := n2_
                            have HO_517004 := n3_
                            have HO_529003 := n4_
                            have HO_529004 := n5_
                            have HO_530003 := n6_
                            have HO_530004 := n7_
                            have BK488 := n8_
                            have BK505 := n9_
                            have BK516 := n10_
                            have BK528 := n11_
                            have BK529 := n12_
                            have HB := n13_
                            clear n0_ n1_ n2_ n3_ n4_ n5_ n6_ n7_ n8_ n9_ n10_ n11_ n12_ n13_
                            have p540 : 0 ≤ (x15_4 : Int) := of_decide_eq_true (by first | (with_reducible assumption) | assumption)
                            have q540 : x15_4 < (x529004_4.length : Int) := of_decide_eq_true (by first | (with_reducible assumption) | assumption)
                            obtain ⟨ad540, e540, hx540_0⟩ := Kd.at_int (Kd.R_reads' HO_529004.out).2.2 x15_4 p540 q540
                            cases e540
                            replace p540 := eq_true p540
                            replace q540 := eq_true q540
                            have p103 : 0 ≤ (x15_4 : Int) := of_decide_eq_true (by first | (with_reducible assumption) | assumption)
                            have q103 : (x15_4 : Int) < ((x529004_4.length : Int) : Int) := of_decide_eq_true (by first | (with_reducible assumption) | assumption)
                            obtain ⟨go103, co103, eo103, gb103, gl103, cl103, HG103⟩ := Kd.R_form HO_529004.out (by omega)
                            (first | cases eo103 | (injection eo103 with ea_ en_ ec_; (first | subst ea_ | (injection ea_ with ea_; subst ea_)); subst ec_; clear en_))
                            have GB103 := Aside0.mk gb103
                            have GG103 := Aside0.mk HG103
                            clear gb103 gl103 HG103
                            (first | simp only [add_plain] at hx540_0 | skip)
                            obtain ⟨hx103_0, hf103_0⟩ := Kd.R_celln 0 HO_529004.out (x15_4 : Int) p103 q103
                            replace p103 := eq_true p103
                            replace q103 := eq_true q103
                            have HP111 := Kd.R_putn HO_529004.out (x15_4 : Int) (Go.bits .xor .u8 (rd x529004_4 x15_4) 1)
                            rw [← Ny541.out] at HP111
                            have HQ111 := Aside0.mk HP111
                            clear HP111
                            refine start_ (n := 11) (S := fun w' => w'.cell? ⟨gb528, 0, none⟩ = some (.int .i64 t519) ∧ w'.cell? ⟨gb528, 1, none⟩ = some (.int .i64 t520) ∧ w'.cell? ⟨gb528, 2, none⟩ = some (.int .u64 t521) ∧ w'.cell? ⟨gb528, 3, none⟩ = some (u529003) ∧ w'.cell? ⟨gb528, 4, none⟩ = some (.slice (some ⟨go103, 0, none⟩) x529004_4.length co109) ∧ w'.cell? ⟨go103, (x15_4).toNat, none⟩ = some (.int .u8 (rd x529004_4 x15_4))) (ds := [10]) #[false, false, false, false, false, false, false, false, false, false, false] (by kernel_rfl) rfl rfl ⟨(blk_cell BK528.out 0).trans rfl, (blk_cell BK528.out 1).trans rfl, (blk_cell BK528.out 2).trans rfl, (blk_cell BK528.out 3).trans rfl, (blk_cell BK528.out 4).trans rfl, hx540_0⟩ (fun hHeld => ?_); refine with_tabW signetrylaw01_WireMakes.tab18 signetrylaw01_WireMakes.bits18 (fun HT_ HW_ => ?_)
                            generalize wr.drew = w110 at HO_506003 HO_506004 HO_517003 HO_517004 HO_529003 HO_529004 HO_530003 HO_530004 BK488 BK505 BK516 BK528 BK529 HB GG103 HQ111 hf103_0 hx103_0 hx540_0 hHeld ⊢
                            refine pure_ (i := 0) (N := some 122) (v := ?_) (a' := ?_) #[true, false, false, false, false, false, false, false, false, false, false] rfl rfl (any_of HT_.out (by kernel_rfl)) (fun _ _ _ h => h) (Or.inl ⟨by rfl, ?_⟩) ?_ ?_
                            rotate_left
                            · intro w'
                              go_simp
                              with_reducible rfl
                            rotate_left
                            · simp only [Act.put, List.setIfInBounds_toArray, List.set_cons_zero, List.set_cons_succ, i64_w, i32_w]
                              rfl
                            refine pure_ (i := 2) (N := some 124) (v := ?_) (a' := ?_) #[true, false, true, false, false, false, false, false, false, false, false] rfl rfl (any_of HT_.out (by kernel_rfl)) (fun _ _ _ h => h) (Or.inl ⟨by rfl, ?_⟩) ?_ ?_
                            rotate_left
                            · intro w'
                              go_simp
                              with_reducible rfl
                            rotate_left
                            · simp only [Act.put, List.setIfInBounds_toArray, List.set_cons_zero, List.set_cons_succ, i64_w, i32_w]
                              rfl
                            refine pure_ (i := 3) (N := some 125) (v := ?_) (a' := ?_) #[true, false, true, true, false, false, false, false, false, false, false] rfl rfl (any_of HT_.out (by kernel_rfl)) (fun _ _ _ h => h) (Or.inl ⟨by rfl, ?_⟩) ?_ ?_
                            rotate_left
                            · intro w'
                              go_simp
                              with_reducible rfl
                            rotate_left
                            · simp only [Act.put, List.setIfInBounds_toArray, List.set_cons_zero, List.set_cons_succ, i64_w, i32_w]
                              rfl
                            refine pure_ (i := 5) (N := some 127) (v := ?_) (a' := ?_) #[true, false, true, true, false, true, false, false, false, false, false] rfl rfl (any_of HT_.out (by kernel_rfl)) (fun _ _ _ h => h) (Or.inl ⟨by rfl, ?_⟩) ?_ ?_
                            rotate_left
                            · intro w'
                              go_simp
                              with_reducible rfl
                            rotate_left
                            · simp only [Act.put, List.setIfInBounds_toArray, List.set_cons_zero, List.set_cons_succ, i64_w, i32_w]
                              rfl
                            refine take_ (i := 1) (N := some 123) (v := ?_) (a' := ?_) #[true, true, true, true, false, true, false, false, false, false, false] rfl rfl (take_ofW HT_.out HW_.out (by kernel_rfl)) (fun _ _ _ h => h) (Or.inl ⟨by rfl, ?_⟩) hHeld ?_ ?_
                            rotate_left
                            · rintro w' ⟨s0, s1, s2, s3, s4, s5⟩
                              go_simp
                              with_reducible rfl
                            rotate_left
                            · simp only [Act.put, List.setIfInBounds_toArray, List.set_cons_zero, List.set_cons_succ, i64_w, i32_w]
                              rfl
                            refine take_ (i := 4) (N := some 126) (v := ?_) (a' := ?_) #[true, true, true, true, true, true, false, false, false, false, false] rfl rfl (take_ofW HT_.out HW_.out (by kernel_rfl)) (fun _ _ _ h => h) (Or.inl ⟨by rfl, ?_⟩) hHeld ?_ ?_
                            rotate_left
                            · rintro w' ⟨s0, s1, s2, s3, s4, s5⟩
                              go_simp
                              with_reducible rfl
                            rotate_left
                            · simp only [Act.put, List.setIfInBounds_toArray, List.set_cons_zero, List.set_cons_succ, i64_w, i32_w]
                              rfl
                            refine pure_ (i := 6) (N := some 128) (v := ?_) (a' := ?_) #[true, true, true, true, true, true, true, false, false, false, false] rfl rfl (any_of HT_.out (by kernel_rfl)) (fun _ _ _ h => h) (Or.inl ⟨by rfl, ?_⟩) ?_ ?_
                            rotate_left
                            · intro w'
                              go_simp
                              with_reducible rfl
                            rotate_left
                            · simp only [Act.put, List.setIfInBounds_toArray, List.set_cons_zero, List.set_cons_succ, i64_w, i32_w]
                              rfl
                            refine take_ (i := 7) (N := some 129) (v := ?_) (a' := ?_) #[true, true, true, true, true, true, true, true, false, false, false] rfl rfl (take_ofW HT_.out HW_.out (by kernel_rfl)) (fun _ _ _ h => h) (Or.inl ⟨by rfl, ?_⟩) hHeld ?_ ?_
                            rotate_left
                            · rintro w' ⟨s0, s1, s2, s3, s4, s5⟩
                              go_simp
                              with_reducible rfl
                            rotate_left
                            · simp only [Act.put, List.setIfInBounds_toArray, List.set_cons_zero, List.set_cons_succ, i64_w, i32_w]
                              rfl
                            refine pure_ (i := 8) (N := some 130) (v := ?_) (a' := ?_) #[true, true, true, true, true, true, true, true, true, false, false] rfl rfl (any_of HT_.out (by kernel_rfl)) (fun _ _ _ h => h) (Or.inl ⟨by rfl, ?_⟩) ?_ ?_
                            rotate_left
                            · intro w'
                              go_simp
                              with_reducible rfl
                            rotate_left
                            · simp only [Act.put, List.setIfInBounds_toArray, List.set_cons_zero, List.set_cons_succ, i64_w, i32_w]
                              rfl
                            refine pure_ (i := 9) (N := some 131) (v := ?_) (a' := ?_) #[true, true, true, true, true, true, true, true, true, true, false] rfl rfl (any_of HT_.out (by kernel_rfl)) (fun _ _ _ h => h) (Or.inl ⟨by rfl, ?_⟩) ?_ ?_
                            rotate_left
                            · intro w'
                              go_simp
                              with_reducible rfl
                            rotate_left
                            · simp only [Act.put, List.setIfInBounds_toArray, List.set_cons_zero, List.set_cons_succ, i64_w, i32_w]
                              rfl
                            refine last_ (i := 10) (N := none) #[true, true, true, true, true, true, true, true, true, true, true] rfl rfl (one_of HT_.out (by kernel_rfl)) (by decide) (fun K hK => ?_)
                            refine skip_ (w1 := ?_) (by rfl) rfl ?_ ?_
                            rotate_left
                            · go_simp
                              rfl
                            refine hK.out _ _ ?_
                            clear hK K
                            refine done_ (done_of HT_.out (by kernel_rfl)) ?_
                            try go_wp2
                            go_roundg k4
                            case measure => have := HJ7.out; have := HJ40.out; have := HK3.out; have := HK4.out; omega
                            case rel => exact ⟨(wrap64 (x15_4 + 1)), (x506003_4), (x506004_4), (x517003_4), (x517004_4), (x529003_4), (y541), (x530003_4), (x530004_4), (u506003), (u506004), (u517003), (u517004), (u529003), (.slice (some ⟨go103, 0, none⟩) x529004_4.length co109), (u530003), (u530004), (by first | rfl | (simp; done) | (simp [*]; done)), H', ⟨by have := HJ7.out; have := HJ40.out; have := HK3.out; have := HK4.out; omega⟩, ⟨by (with_reducible repeat (first | apply Kd.R_alloc | apply Kd.R_drewN | apply Kd.R_drew)); exact Kd.R_mono (Kd.R_far (p := ⟨go103, (x15_4 : Int).toNat, none⟩) (Kd.R_mono HO_506003.out (fun k_ hk => (⟨hk, fun e_ => hk.2.2.2.2 (by rw [e_]; rfl)⟩ : _ ∧ k_ ≠ go103))) (fun _ hk => hk.2) (.int .u8 (Go.bits .xor .u8 (rd x529004_4 x15_4) 1))) (fun _ hk => ⟨hk.1.1, ⟨hk.1.2.1, ⟨hk.1.2.2.1, ⟨hk.1.2.2.2.1, hk.1.2.2.2.2⟩⟩⟩⟩)⟩, ⟨by (with_reducible repeat (first | apply Kd.R_alloc | apply Kd.R_drewN | apply Kd.R_drew)); exact Kd.R_mono (Kd.R_far (p := ⟨go103, (x15_4 : Int).toNat, none⟩) (Kd.R_mono HO_506004.out (fun k_ hk => (⟨hk, fun e_ => hk.2.2.2.2 (by rw [e_]; rfl)⟩ : _ ∧ k_ ≠ go103))) (fun _ hk => hk.2) (.int .u8 (Go.bits .xor .u8 (rd x529004_4 x15_4) 1))) (fun _ hk => ⟨hk.1.1, ⟨hk.1.2.1, ⟨hk.1.2.2.1, ⟨hk.1.2.2.2.1, hk.1.2.2.2.2⟩⟩⟩⟩)⟩, ⟨by (with_reducible repeat (first | apply Kd.R_alloc | apply Kd.R_drewN | apply Kd.R_drew)); exact Kd.R_mono (Kd.R_far (p := ⟨go103, (x15_4 : Int).toNat, none⟩) (Kd.R_mono HO_517003.out (fun k_ hk => (⟨hk, fun e_ => hk.2.2.2.2 (by rw [e_]; rfl)⟩ : _ ∧ k_ ≠ go103))) (fun _ hk => hk.2) (.int .u8 (Go.bits .xor .u8 (rd x529004_4 x15_4) 1))) (fun _ hk => ⟨hk.1.1, ⟨hk.1.2.1, ⟨hk.1.2.2.1, ⟨hk.1.2.2.2.1, hk.1.2.2.2.2⟩⟩⟩⟩)⟩, ⟨by (with_reducible repeat (first | apply Kd.R_alloc | apply Kd.R_drewN | apply Kd.R_drew)); exact Kd.R_mono (Kd.R_far (p := ⟨go103, (x15_4 : Int).toNat, none⟩) (Kd.R_mono HO_517004.out (fun k_ hk => (⟨hk, fun e_ => hk.2.2.2.2 (by rw [e_]; rfl)⟩ : _ ∧ k_ ≠ go103))) (fun _ hk => hk.2) (.int .u8 (Go.bits .xor .u8 (rd x529004_4 x15_4) 1))) (fun _ hk => ⟨hk.1.1, ⟨hk.1.2.1, ⟨hk.1.2.2.1, ⟨hk.1.2.2.2.1, hk.1.2.2.2.2⟩⟩⟩⟩)⟩, ⟨by (with_reducible repeat (first | apply Kd.R_alloc | apply Kd.R_drewN | apply Kd.R_drew)); exact Kd.R_mono (Kd.R_far (p := ⟨go103, (x15_4 : Int).toNat, none⟩) (Kd.R_mono HO_529003.out (fun k_ hk => (⟨hk, fun e_ => hk.2.2.2.2 (by rw [e_]; rfl)⟩ : _ ∧ k_ ≠ go103))) (fun _ hk => hk.2) (.int .u8 (Go.bits .xor .u8 (rd x529004_4 x15_4) 1))) (fun _ hk => ⟨hk.1.1, ⟨hk.1.2.1, ⟨hk.1.2.2.1, ⟨hk.1.2.2.2.1, hk.1.2.2.2.2⟩⟩⟩⟩)⟩, ⟨by (with_reducible repeat (first | apply Kd.R_alloc | apply Kd.R_drewN | apply Kd.R_drew)); exact HQ111.out⟩, ⟨by (with_reducible repeat (first | apply Kd.V_alloc | apply Kd.V_drewN | apply Kd.V_drew)); exact Kd.V_mono (Kd.V_far (p := ⟨go103, (x15_4 : Int).toNat, none⟩) (Kd.V_mono HO_530003.out (fun k_ hk => (⟨hk, fun e_ => hk.2.2.2.2.2.1 (by rw [e_]; rfl)⟩ : _ ∧ k_ ≠ go103))) (fun _ hk => hk.2) (.int .u8 (Go.bits .xor .u8 (rd x529004_4 x15_4) 1))) (fun _ hk => ⟨hk.1.1, ⟨hk.1.2.1, ⟨hk.1.2.2.1, ⟨hk.1.2.2.2.1, ⟨hk.1.2.2.2.2.1, ⟨hk.1.2.2.2.2.2.1, ⟨hk.1.2.2.2.2.2.2.1, ⟨hk.1.2.2.2.2.2.2.2.1, ⟨hk.1.2.2.2.2.2.2.2.2.1, ⟨hk.1.2.2.2.2.2.2.2.2.2.1, hk.1.2.2.2.2.2.2.2.2.2.2⟩⟩⟩⟩⟩⟩⟩⟩⟩⟩)⟩, ⟨by (with_reducible repeat (first | apply Kd.V_alloc | apply Kd.V_drewN | apply Kd.V_drew)); exact Kd.V_mono (Kd.V_far (p := ⟨go103, (x15_4 : Int).toNat, none⟩) (Kd.V_mono HO_530004.out (fun k_ hk => (⟨hk, fun e_ => hk.2.2.2.2.2.1 (by rw [e_]; rfl)⟩ : _ ∧ k_ ≠ go103))) (fun _ hk => hk.2) (.int .u8 (Go.bits .xor .u8 (rd x529004_4 x15_4) 1))) (fun _ hk => ⟨hk.1.1, ⟨hk.1.2.1, ⟨hk.1.2.2.1, ⟨hk.1.2.2.2.1, ⟨hk.1.2.2.2.2.1, ⟨hk.1.2.2.2.2.2.1, ⟨hk.1.2.2.2.2.2.2.1, ⟨hk.1.2.2.2.2.2.2.2.1, ⟨hk.1.2.2.2.2.2.2.2.2.1, ⟨hk.1.2.2.2.2.2.2.2.2.2.1, hk.1.2.2.2.2.2.2.2.2.2.2⟩⟩⟩⟩⟩⟩⟩⟩⟩⟩)⟩, ⟨by (with_reducible repeat (first | refine blk_drewN ?_ _ | refine blk_drew ?_ | refine blk_alloc ?_ _)); refine blk_far ?_ (by have h_ := Kd.R_ne HO_529004.out BK488.out (by decide); intro e_; exact h_ (by rw [e_]; rfl)) _; (with_reducible repeat (first | refine blk_drewN ?_ _ | refine blk_drew ?_ | refine blk_alloc ?_ _)); exact BK488.out⟩, ⟨by (with_reducible repeat (first | refine blk_drewN ?_ _ | refine blk_drew ?_ | refine blk_alloc ?_ _)); refine blk_far ?_ (by have h_ := Kd.R_ne HO_529004.out BK505.out (by decide); intro e_; exact h_ (by rw [e_]; rfl)) _; (with_reducible repeat (first | refine blk_drewN ?_ _ | refine blk_drew ?_ | refine blk_alloc ?_ _)); exact BK505.out⟩, ⟨by (with_reducible repeat (first | refine blk_drewN ?_ _ | refine blk_drew ?_ | refine blk_alloc ?_ _)); refine blk_far ?_ (by have h_ := Kd.R_ne HO_529004.out BK516.out (by decide); intro e_; exact h_ (by rw [e_]; rfl)) _; (with_reducible repeat (first | refine blk_drewN ?_ _ | refine blk_drew ?_ | refine blk_alloc ?_ _)); exact BK516.out⟩, ⟨by (with_reducible repeat (first | refine blk_drewN ?_ _ | refine blk_drew ?_ | refine blk_alloc ?_ _)); refine blk_far ?_ (by have h_ := Kd.R_ne HO_529004.out BK528.out (by decide); intro e_; exact h_ (by rw [e_]; rfl)) _; (with_reducible repeat (first | refine blk_drewN ?_ _ | refine blk_drew ?_ | refine blk_alloc ?_ _)); exact BK528.out⟩, ⟨by (with_reducible repeat (first | refine blk_drewN ?_ _ | refine blk_drew ?_ | refine blk_alloc ?_ _)); refine blk_far ?_ (by have h_ := Kd.R_ne HO_529004.out BK529.out (by decide); intro e_; exact h_ (by rw [e_]; rfl)) _; (with_reducible repeat (first | refine blk_drewN ?_ _ | refine blk_drew ?_ | refine blk_alloc ?_ _)); exact BK529.out⟩, ⟨by repeat (first | (with_reducible first | exact HB.out | apply below_alloc | apply pw_below_drewN | apply below_drew1 | refine below_set ?_ GB103.out | refine below_set ?_ GE488.out | refine below_set ?_ GE505.out | refine below_set ?_ GE516.out | refine below_set ?_ GE528.out | refine below_set ?_ GE529.out) | exact HB.out)⟩⟩
                          · rw [if_neg c102] at H
                            exact absurd H (by simp)
                        · rw [if_neg c101] at H
                          have c101b0 : decide (x15_4 < (x529004_4.length : Int)) = false := decide_eq_false c101
                          clear c101
                          replace H := Option.bind_eq_some_iff.mp H
                          obtain ⟨t542, A1120, H⟩ := H
                          replace H : (if t542 = true then ((signetrylaw01_works.f).bind fun t543 => (some t543)) else (none)) = some r := H
                          have A112 := Aside0.mk A1120
                          clear A1120
                          by_cases c113 : t542 = true
                          · subst c113
                            have H1 : ((signetrylaw01_works.f).bind fun t543 => (some t543)) = some r := by rw [if_pos rfl] at H; exact H
                            clear H
                            have H := H1
                            clear H1
                            replace H := Option.bind_eq_some_iff.mp H
                            obtain ⟨t543, A1140, H⟩ := H
                            replace H : (some t543) = some r := H
                            have A114 := Aside0.mk A1140
                            clear A1140
                            obtain rfl := Option.some.inj H
                            have hnb115 := NB528_488.out
                            have hnc115 := NB488_528.out
                            have hnb116 := NB528_505.out
                            have hnc116 := NB505_528.out
                            have hnb117 := NB528_516.out
                            have hnc117 := NB516_528.out
                            have hnb118 := NB528_529.out
                            have hnc118 := NB529_528.out
                            have hcz119_0 : wr.cell? ⟨gb528, 0, none⟩ = some (.int .i64 t519) := (blk_cell BK528.out 0).trans rfl
                            have hcz119_1 : wr.cell? ⟨gb528, 1, none⟩ = some (.int .i64 t520) := (blk_cell BK528.out 1).trans rfl
                            have hcz119_2 : wr.cell? ⟨gb528, 2, none⟩ = some (.int .u64 t521) := (blk_cell BK528.out 2).trans rfl
                            have hcz119_3 : wr.cell? ⟨gb528, 3, none⟩ = some (u529003) := (blk_cell BK528.out 3).trans rfl
                            have hcz119_4 : wr.cell? ⟨gb528, 4, none⟩ = some (u529004) := (blk_cell BK528.out 4).trans rfl
                            have hfz119_0 := blk_frozen BK528.out 0
                            have hfz119_1 := blk_frozen BK528.out 1
                            have hfz119_2 := blk_frozen BK528.out 2
                            have hfz119_3 := blk_frozen BK528.out 3
                            have hfz119_4 := blk_frozen BK528.out 4
                            obtain ⟨Ao120, co120, eo120⟩ := Kd.R_slice HO_529004.out
                            subst eo120
                            have hnb121 := NB505_488.out
                            have hnc121 := NB488_505.out
                            have hnb122 := NB505_516.out
                            have hnc122 := NB516_505.out
                            have hnb123 := NB505_529.out
                            have hnc123 := NB529_505.out
                            have hcz124_0 : wr.cell? ⟨gb505, 0, none⟩ = some (.int .i64 t495) := (blk_cell BK505.out 0).trans rfl
                            have hcz124_1 : wr.cell? ⟨gb505, 1, none⟩ = some (.int .i64 t496) := (blk_cell BK505.out 1).trans rfl
                            have hcz124_2 : wr.cell? ⟨gb505, 2, none⟩ = some (.int .u64 t497) := (blk_cell BK505.out 2).trans rfl
                            have hcz124_3 : wr.cell? ⟨gb505, 3, none⟩ = some (u506003) := (blk_cell BK505.out 3).trans rfl
                            have hcz124_4 : wr.cell? ⟨gb505, 4, none⟩ = some (u506004) := (blk_cell BK505.out 4).trans rfl
                            have hfz124_0 := blk_frozen BK505.out 0
                            have hfz124_1 := blk_frozen BK505.out 1
                            have hfz124_2 := blk_frozen BK505.out 2
                            have hfz124_3 := blk_frozen BK505.out 3
                            have hfz124_4 := blk_frozen BK505.out 4
                            have hnb125 := NB516_488.out
                            have hnc125 := NB488_516.out
                            have hnb126 := NB516_529.out
                            have hnc126 := NB529_516.out
                            have hcz127_0 : wr.cell? ⟨gb516, 0, none⟩ = some (.int .i64 t506) := (blk_cell BK516.out 0).trans rfl
                            have hcz127_1 : wr.cell? ⟨gb516, 1, none⟩ = some (.int .i64 t507) := (blk_cell BK516.out 1).trans rfl
                            have hcz127_2 : wr.cell? ⟨gb516, 2, none⟩ = some (.int .u64 t508) := (blk_cell BK516.out 2).trans rfl
                            have hcz127_3 : wr.cell? ⟨gb516, 3, none⟩ = some (u517003) := (blk_cell BK516.out 3).trans rfl
                            have hcz127_4 : wr.cell? ⟨gb516, 4, none⟩ = some (u517004) := (blk_cell BK516.out 4).trans rfl
                            have hfz127_0 := blk_frozen BK516.out 0
                            have hfz127_1 := blk_frozen BK516.out 1
                            have hfz127_2 := blk_frozen BK516.out 2
                            have hfz127_3 := blk_frozen BK516.out 3
                            have hfz127_4 := blk_frozen BK516.out 4
                            obtain ⟨Ao128, co128, eo128⟩ := Kd.R_slice HO_506003.out
                            subst eo128
                            obtain ⟨Ao129, co129, eo129⟩ := Kd.R_slice HO_506004.out
                            subst eo129
                            obtain ⟨Ao130, co130, eo130⟩ := Kd.R_slice HO_517003.out
                            subst eo130
                            obtain ⟨Ao131, co131, eo131⟩ := Kd.R_slice HO_517004.out
                            subst eo131
                            go_wp2_with (first | ((with_reducible refine gate_callee (f := 28) rfl ?_); refine goesL_ (some 134) rfl rfl Try.func28 (by kernel_rfl) rfl #[.agg #[.int .i64 t495, .int .i64 t496, .int .u64 t497, .slice Ao128 x506003_4.length co128, .slice Ao129 x506004_4.length co129], .agg #[.int .i64 t506, .int .i64 t507, .int .u64 t508, .slice Ao130 x517003_4.length co130, .slice Ao131 x517004_4.length co131]] rfl (by (try simp only [List.map_toArray, List.map_cons, List.map_nil]); first | done | rfl | (simp only [List.length_drop, List.length_take]; rfl)) ?_; (with_reducible refine (signetryref01_Same.calls t495 t496 t497 _ _ x506003_4 _ _ x506004_4 t506 t507 t508 _ _ x517003_4 _ _ x517004_4 true _ ?side1 ?side2 ?side3 ?side4 ?side5 ?side6 ?side7 ?side8 A112.out).mono ?_); (case side1 => repeat (first | exact (Kd.R_reads' HO_506003.out).2.2 | (with_reducible refine Kd.C_alloc ?_ _) | (with_reducible refine Kd.C_drewN ?_ _) | (with_reducible refine Kd.C_drew ?_))); (case side2 => exact (Kd.R_reads' HO_506003.out).2.1); (case side3 => repeat (first | exact (Kd.R_reads' HO_506004.out).2.2 | (with_reducible refine Kd.C_alloc ?_ _) | (with_reducible refine Kd.C_drewN ?_ _) | (with_reducible refine Kd.C_drew ?_))); (case side4 => exact (Kd.R_reads' HO_506004.out).2.1); (case side5 => repeat (first | exact (Kd.R_reads' HO_517003.out).2.2 | (with_reducible refine Kd.C_alloc ?_ _) | (with_reducible refine Kd.C_drewN ?_ _) | (with_reducible refine Kd.C_drew ?_))); (case side6 => exact (Kd.R_reads' HO_517003.out).2.1); (case side7 => repeat (first | exact (Kd.R_reads' HO_517004.out).2.2 | (with_reducible refine Kd.C_alloc ?_ _) | (with_reducible refine Kd.C_drewN ?_ _) | (with_reducible refine Kd.C_drew ?_))); (case side8 => exact (Kd.R_reads' HO_517004.out).2.1); rintro e w132 ⟨rfl, hb⟩; refine ⟨_, rfl, ?_⟩; have n0_ := Aside0.mk (Kd.R_below (by (with_reducible repeat (first | apply Kd.R_alloc | apply Kd.R_drewN | apply Kd.R_drew)); exact HO_506003.out) hb); have n1_ := Aside0.mk (Kd.R_below (by (with_reducible repeat (first | apply Kd.R_alloc | apply Kd.R_drewN | apply Kd.R_drew)); exact HO_506004.out) hb); have n2_ := Aside0.mk (Kd.R_below (by (with_reducible repeat (first | apply Kd.R_alloc | apply Kd.R_drewN | apply Kd.R_drew)); exact HO_517003.out) hb); have n3_ := Aside0.mk (Kd.R_below (by (with_reducible repeat (first | apply Kd.R_alloc | apply Kd.R_drewN | apply Kd.R_drew)); exact HO_517004.out) hb); have n4_ := Aside0.mk (Kd.R_below (by (with_reducible repeat (first | apply Kd.R_alloc | apply Kd.R_drewN | apply Kd.R_drew)); exact HO_529003.out) hb); have n5_ := Aside0.mk (Kd.R_below (by (with_reducible repeat (first | apply Kd.R_alloc | apply Kd.R_drewN | apply Kd.R_drew)); exact HO_529004.out) hb); have n6_ := Aside0.mk (Kd.V_below (by (with_reducible repeat (first | apply Kd.V_alloc | apply Kd.V_drewN | apply Kd.V_drew)); exact HO_530003.out) hb); have n7_ := Aside0.mk (Kd.V_below (by (with_reducible repeat (first | apply Kd.V_alloc | apply Kd.V_drewN | apply Kd.V_drew)); exact HO_530004.out) hb); have n8_ := Aside0.mk (blk_below (g := gb488) (o := .cells #[.int .i64 a0_0, .int .i64 a0_1] 52 (0, 0)) (by (with_reducible repeat (first | refine blk_drewN ?_ _ | refine blk_drew ?_ | refine blk_alloc ?_ _)); exact BK488.out) hb); have n9_ := Aside0.mk (blk_below (g := gb505) (o := .cells #[.int .i64 t495, .int .i64 t496, .int .u64 t497, .slice Ao128 x506003_4.length co128, .slice Ao129 x506004_4.length co129] 33 (0, 0)) (by (with_reducible repeat (first | refine blk_drewN ?_ _ | refine blk_drew ?_ | refine blk_alloc ?_ _)); exact BK505.out) hb); have n10_ := Aside0.mk (blk_below (g := gb516) (o := .cells #[.int .i64 t506, .int .i64 t507, .int .u64 t508, .slice Ao130 x517003_4.length co130, .slice Ao131 x517004_4.length co131] 33 (0, 0)) (by (with_reducible repeat (first | refine blk_drewN ?_ _ | refine blk_drew ?_ | refine blk_alloc ?_ _)); exact BK516.out) hb); have n11_ := Aside0.mk (blk_below (g := gb528) (o := .cells #[.int .i64 t519, .int .i64 t520, .int .u64 t521, u529003, .slice Ao120 x529004_4.length co120] 33 (0, 0)) (by (with_reducible repeat (first | refine blk_drewN ?_ _ | refine blk_drew ?_ | refine blk_alloc ?_ _)); exact BK528.out) hb); have n12_ := Aside0.mk (blk_below (g := gb529) (o := .cells #[.int .i64 a0_0, .int .i64 a0_1, .int .u64 a1, u530003, u530004] 33 (0, 0)) (by (with_reducible repeat (first | refine blk_drewN ?_ _ | refine blk_drew ?_ | refine blk_alloc ?_ _)); exact BK529.out) hb); have n13_ := Aside0.mk (below_step (by repeat (first | (with_reducible first | exact HB.out | apply below_alloc | apply pw_below_drewN | apply below_drew1 | refine below_set ?_ GE488.out | refine below_set ?_ GE505.out | refine below_set ?_ GE516.out | refine below_set ?_ GE528.out | refine below_set ?_ GE529.out) | exact HB.out)) hb); clear HO_506003; clear HO_506004; clear HO_517003; clear HO_517004; clear HO_529003; clear HO_529004; clear HO_530003; clear HO_530004; clear BK488; clear BK505; clear BK516; clear BK528; clear BK529; clear HB; have HO_506003 := n0_; have HO_506004 := n1_; have HO_517003 := n2_; have HO_517004 := n3_; have HO_529003 := n4_; have HO_529004 := n5_; have HO_530003 := n6_; have HO_530004 := n7_; have BK488 := n8_; have BK505 := n9_; have BK516 := n10_; have BK528 := n11_; have BK529 := n12_; have HB := n13_; clear n0_ n1_ n2_ n3_ n4_ n5_ n6_ n7_ n8_ n9_ n10_ n11_ n12_ n13_; (try clear hb); (try clear hb2); (try clear hk); (try clear hi)) | (go_at_call 22; (with_reducible refine (signetrylaw01_works.calls  t543 _ A114.out).mono ?_); rintro e w133 ⟨rfl, hb⟩; have n0_ := Aside0.mk (Kd.R_below (by (with_reducible repeat (first | apply Kd.R_alloc | apply Kd.R_drewN | apply Kd.R_drew)); exact HO_506003.out) hb); have n1_ := Aside0.mk (Kd.R_below (by (with_reducible repeat (first | apply Kd.R_alloc | apply Kd.R_drewN | apply Kd.R_drew)); exact HO_506004.out) hb); have n2_ := Aside0.mk (Kd.R_below (by (with_reducible repeat (first | apply Kd.R_alloc | apply Kd.R_drewN | apply Kd.R_drew)); exact HO_517003.out) hb); have n3_ := Aside0.mk (Kd.R_below (by (with_reducible repeat (first | apply Kd.R_alloc | apply Kd.R_drewN | apply Kd.R_drew)); exact HO_517004.out) hb); have n4_ := Aside0.mk (Kd.R_below (by (with_reducible repeat (first | apply Kd.R_alloc | apply Kd.R_drewN | apply Kd.R_drew)); exact HO_529003.out) hb); have n5_ := Aside0.mk (Kd.R_below (by (with_reducible repeat (first | apply Kd.R_alloc | apply Kd.R_drewN | apply Kd.R_drew)); exact HO_529004.out) hb); have n6_ := Aside0.mk (Kd.V_below (by (with_reducible repeat (first | apply Kd.V_alloc | apply Kd.V_drewN | apply Kd.V_drew)); exact HO_530003.out) hb); have n7_ := Aside0.mk (Kd.V_below (by (with_reducible repeat (first | apply Kd.V_alloc | apply Kd.V_drewN | apply Kd.V_drew)); exact HO_530004.out) hb); have n8_ := Aside0.mk (blk_below (g := gb488) (o := .cells #[.int .i64 a0_0, .int .i64 a0_1] 52 (0, 0)) (by (with_reducible repeat (first | refine blk_drewN ?_ _ | refine blk_drew ?_ | refine blk_alloc ?_ _)); exact BK488.out) hb); have n9_ := Aside0.mk (blk_below (g := gb505) (o := .cells #[.int .i64 t495, .int .i64 t496, .int .u64 t497, .slice Ao128 x506003_4.length co128, .slice Ao129 x506004_4.length co129] 33 (0, 0)) (by (with_reducible repeat (first | refine blk_drewN ?_ _ | refine blk_drew ?_ | refine blk_alloc ?_ _)); exact BK505.out) hb); have n10_ := Aside0.mk (blk_below (g := gb516) (o := .cells #[.int .i64 t506, .int .i64 t507, .int .u64 t508, .slice Ao130 x517003_4.length co130, .slice Ao131 x517004_4.length co131] 33 (0, 0)) (by (with_reducible repeat (first | refine blk_drewN ?_ _ | refine blk_drew ?_ | refine blk_alloc ?_ _)); exact BK516.out) hb); have n11_ := Aside0.mk (blk_below (g := gb528) (o := .cells #[.int .i64 t519, .int .i64 t520, .int .u64 t521, u529003, .slice Ao120 x529004_4.length co120] 33 (0, 0)) (by (with_reducible repeat (first | refine blk_drewN ?_ _ | refine blk_drew ?_ | refine blk_alloc ?_ _)); exact BK528.out) hb); have n12_ := Aside0.mk (blk_below (g := gb529) (o := .cells #[.int .i64 a0_0, .int .i64 a0_1, .int .u64 a1, u530003, u530004] 33 (0, 0)) (by (with_reducible repeat (first | refine blk_drewN ?_ _ | refine blk_drew ?_ | refine blk_alloc ?_ _)); exact BK529.out) hb); have n13_ := Aside0.mk (below_step (by repeat (first | (with_reducible first | exact HB.out | apply below_alloc | apply pw_below_drewN | apply below_drew1 | refine below_set ?_ GE488.out | refine below_set ?_ GE505.out | refine below_set ?_ GE516.out | refine below_set ?_ GE528.out | refine below_set ?_ GE529.out) | exact HB.out)) hb); clear HO_506003; clear HO_506004; clear HO_517003; clear HO_517004; clear HO_529003; clear HO_529004; clear HO_530003; clear HO_530004; clear BK488; clear BK505; clear BK516; clear BK528; clear BK529; clear HB; have HO_506003 := n0_; have HO_506004 := n1_; have HO_517003 := n2_; have HO_517004 := n3_; have HO_529003 := n4_; have HO_529004 := n5_; have HO_530003 := n6_; have HO_530004 := n7_; have BK488 := n8_; have BK505 := n9_; have BK516 := n10_; have BK528 := n11_; have BK529 := n12_; have HB := n13_; clear n0_ n1_ n2_ n3_ n4_ n5_ n6_ n7_ n8_ n9_ n10_ n11_ n12_ n13_; (try clear hb); (try clear hb2); (try clear hk); (try clear hi)))
                            go_ret
                            exact ⟨by first | rfl | (simp [errW_none, errW_some] <;> rfl) | (simp [*, errW_none, errW_some] <;> rfl), by repeat (first | (with_reducible first | exact HB.out | apply below_alloc | apply pw_below_drewN | apply below_drew1 | refine below_set ?_ GE488.out | refine below_set ?_ GE505.out | refine below_set ?_ GE516.out | refine below_set ?_ GE528.out | refine below_set ?_ GE529.out) | exact HB.out)⟩
                          · replace c113 := Bool.eq_false_iff.mpr c113
                            subst c113
                            have H1 : (none) = some r := by rw [if_neg (show ¬ (false = true) by decide)] at H; exact H
                            clear H
                            have H := H1
                            clear H1
                            exact absurd H (by simp)
end Go.Proofs.Ytbclejgljegfmaa.PAll
