-- Written by this repo's program wip/tools/pr.py (over the kit's print) out of the translation. Not trusted: Lean checks it.
import Derived.Test.YtaklkcnohbbfoaaDoorPAllx0
import Derived.Test.YtaklkcnohbbfoaaDoorGW
import Derived.Test.YtaklkcnohbbfoaaDoorLNames
import Derived.Test.YtaklkcnohbbfoaaDoorLQuotes
import Derived.Test.YtaklkcnohbbfoaaDoorLRunes
namespace Go.Proofs.YtaklkcnohbbfoaaDoor.PAll
open Go.Proofs.YtaklkcnohbbfoaaDoor.Hand
open Go.RowKit Go.Proofs.YtaklkcnohbbfoaaDoorW.PrintWords Go.Proofs.YtaklkcnohbbfoaaDoorW.PrintLast Go.Proofs.YtaklkcnohbbfoaaDoorW.PrintMore
attribute [local go_sem] max2_int min2_int max_two min_two max_three min_three max_four min_four   -- for this text's walks alone
set_option linter.unusedVariables false
set_option linter.unusedSimpArgs false

/-! ### signetrylaw02_TextKnown: function 11 -/
mutual
def signetrylaw02_TextKnown.l0 : Nat → Int → Option (Bool)
  | 0, _ => none
  | k + 1, x1 => if x1 < 256 then (signetrylaw02_TextKnown.l1 k x1 (strOfNums (([(x1) % 256] : List Int))) (([(([(x1) % 256] : List Int)), (([195, (x1) % 256] : List Int)), (([226, (x1) % 256, 128] : List Int)), (([237, (x1) % 256, 128] : List Int)), (([240, (x1) % 256, 128, 128] : List Int)), (([244, (x1) % 256, 128, 128] : List Int)), (([(x1) % 256, 128] : List Int)), (([226, 130, (x1) % 256] : List Int))] : List (List Int))) 0) else (signetrylaw02_TextKnown.l3 k (([(-9223372036854775808), (-1), 0, 127, 128, 2047, 2048, 55295, 55296, 57343, 57344, 65535, 65536, 1114111, 1114112, 9223372036854775807] : List Int)) 0)
def signetrylaw02_TextKnown.l1 : Nat → Int → ByteArray → List (List Int) → Int → Option (Bool)
  | 0, _, _, _, _ => none
  | k + 1, x1, x2, x3, x4 => if x4 < (x3.length : Int) then (if 0 ≤ x4 then ((signetrylaw02_TextRunes.f k (rd_L2 x3 x4) x1).bind fun t558 => (if t558 = true then (if 2 + x2.size ≤ 9223372036854775807 then (if ((⟨#[34, 92]⟩ : ByteArray) ++ x2).size + 1 ≤ 9223372036854775807 then ((signetrylaw02_TextQuotes.f k (rd_L2 x3 x4) (((⟨#[34, 92]⟩ : ByteArray) ++ x2) ++ (⟨#[34]⟩ : ByteArray))).bind fun t560 => (if t560 = true then (signetrylaw02_TextKnown.l1 k x1 x2 x3 (wrap64 (x4 + 1))) else (none))) else (none)) else (none)) else (none))) else (none)) else (if 1 + x2.size ≤ 9223372036854775807 then (if ((⟨#[39]⟩ : ByteArray) ++ x2).size + 1 ≤ 9223372036854775807 then (if 2 + x2.size ≤ 9223372036854775807 then (if ((⟨#[34, 92]⟩ : ByteArray) ++ x2).size + 2 ≤ 9223372036854775807 then (if 3 + x2.size ≤ 9223372036854775807 then (if ((⟨#[34, 92, 120]⟩ : ByteArray) ++ x2).size + 1 ≤ 9223372036854775807 then (if 5 + x2.size ≤ 9223372036854775807 then (if ((⟨#[34, 92, 117, 48, 48]⟩ : ByteArray) ++ x2).size + 2 ≤ 9223372036854775807 then (if 7 + x2.size ≤ 9223372036854775807 then (if ((⟨#[34, 92, 85, 48, 48, 48, 48]⟩ : ByteArray) ++ x2).size + 4 ≤ 9223372036854775807 then (if ((⟨#[34, 92, 49]⟩ : ByteArray) ++ x2).size + 2 ≤ 9223372036854775807 then (if x2.size + 2 ≤ 9223372036854775807 then (signetrylaw02_TextKnown.l2 k x1 x2 (([((⟨#[39]⟩ : ByteArray) ++ x2) ++ (⟨#[39]⟩ : ByteArray), ((⟨#[34, 92]⟩ : ByteArray) ++ x2) ++ (⟨#[48, 34]⟩ : ByteArray), ((⟨#[34, 92, 120]⟩ : ByteArray) ++ x2) ++ (⟨#[34]⟩ : ByteArray), ((⟨#[34, 92, 117, 48, 48]⟩ : ByteArray) ++ x2) ++ (⟨#[52, 34]⟩ : ByteArray), ((⟨#[34, 92, 85, 48, 48, 48, 48]⟩ : ByteArray) ++ x2) ++ (⟨#[48, 48, 48, 34]⟩ : ByteArray), ((⟨#[34, 92, 49]⟩ : ByteArray) ++ x2) ++ (⟨#[55, 34]⟩ : ByteArray), x2 ++ (⟨#[97, 34]⟩ : ByteArray), (⟨#[34, 97]⟩ : ByteArray) ++ x2, (⟨#[34, 92]⟩ : ByteArray) ++ x2] : List ByteArray)) 0) else (none)) else (none)) else (none)) else (none)) else (none)) else (none)) else (none)) else (none)) else (none)) else (none)) else (none)) else (none))
def signetrylaw02_TextKnown.l2 : Nat → Int → ByteArray → List ByteArray → Int → Option (Bool)
  | 0, _, _, _, _ => none
  | k + 1, x1, x2, x5, x6 => if x6 < (x5.length : Int) then (if 0 ≤ x6 then ((signetrylaw02_TextQuotes.f k ([] : List Int) (rdOf ByteArray.empty x5 x6)).bind fun t565 => (if t565 = true then (if 1 + x2.size ≤ 9223372036854775807 then ((signetrylaw02_TextNames.f k ((⟨#[97]⟩ : ByteArray) ++ x2)).bind fun t566 => (if t566 = true then ((signetrylaw02_TextNames.f k x2).bind fun t567 => (if t567 = true then (if 2 + x2.size ≤ 9223372036854775807 then ((signetrylaw02_TextNames.f k ((⟨#[97, 46]⟩ : ByteArray) ++ x2)).bind fun t568 => (if t568 = true then (if ((⟨#[97, 95]⟩ : ByteArray) ++ x2).size + 1 ≤ 9223372036854775807 then ((signetrylaw02_TextNames.f k (((⟨#[97, 95]⟩ : ByteArray) ++ x2) ++ (⟨#[98]⟩ : ByteArray))).bind fun t569 => (if t569 = true then (signetrylaw02_TextKnown.l2 k x1 x2 x5 (wrap64 (x6 + 1))) else (none))) else (none)) else (none))) else (none)) else (none))) else (none))) else (none)) else (none))) else (none)) else (signetrylaw02_TextKnown.l0 k (wrap64 (x1 + 1)))
def signetrylaw02_TextKnown.l3 : Nat → List Int → Int → Option (Bool)
  | 0, _, _ => none
  | k + 1, x7, x8 => if x8 < (x7.length : Int) then (if 0 ≤ x8 then ((signetrylaw02_TextRunes.f k (([1] : List Int)) (rd x7 x8)).bind fun t577 => (if t577 = true then (signetrylaw02_TextKnown.l3 k x7 (wrap64 (x8 + 1))) else (none))) else (none)) else (if 32 + 1 ≤ 9223372036854775807 then (if 32 + 32 ≤ 9223372036854775807 then (if (((⟨#[97, 98, 99, 100, 101, 102, 103, 104, 105, 106, 107, 108, 109, 110, 111, 112, 113, 114, 115, 116, 117, 118, 119, 120, 121, 122, 97, 98, 99, 100, 101, 102]⟩ : ByteArray) ++ (⟨#[46]⟩ : ByteArray)) ++ (⟨#[97, 98, 99, 100, 101, 102, 103, 104, 105, 106, 107, 108, 109, 110, 111, 112, 113, 114, 115, 116, 117, 118, 119, 120, 121, 122, 97, 98, 99, 100, 101, 102]⟩ : ByteArray)).size + 1 ≤ 9223372036854775807 then (if ((((⟨#[97, 98, 99, 100, 101, 102, 103, 104, 105, 106, 107, 108, 109, 110, 111, 112, 113, 114, 115, 116, 117, 118, 119, 120, 121, 122, 97, 98, 99, 100, 101, 102]⟩ : ByteArray) ++ (⟨#[46]⟩ : ByteArray)) ++ (⟨#[97, 98, 99, 100, 101, 102, 103, 104, 105, 106, 107, 108, 109, 110, 111, 112, 113, 114, 115, 116, 117, 118, 119, 120, 121, 122, 97, 98, 99, 100, 101, 102]⟩ : ByteArray)) ++ (⟨#[46]⟩ : ByteArray)).size + 32 ≤ 9223372036854775807 then (if (((((⟨#[97, 98, 99, 100, 101, 102, 103, 104, 105, 106, 107, 108, 109, 110, 111, 112, 113, 114, 115, 116, 117, 118, 119, 120, 121, 122, 97, 98, 99, 100, 101, 102]⟩ : ByteArray) ++ (⟨#[46]⟩ : ByteArray)) ++ (⟨#[97, 98, 99, 100, 101, 102, 103, 104, 105, 106, 107, 108, 109, 110, 111, 112, 113, 114, 115, 116, 117, 118, 119, 120, 121, 122, 97, 98, 99, 100, 101, 102]⟩ : ByteArray)) ++ (⟨#[46]⟩ : ByteArray)) ++ (⟨#[97, 98, 99, 100, 101, 102, 103, 104, 105, 106, 107, 108, 109, 110, 111, 112, 113, 114, 115, 116, 117, 118, 119, 120, 121, 122, 97, 98, 99, 100, 101, 102]⟩ : ByteArray)).size + 1 ≤ 9223372036854775807 then (if 0 ≤ 29 then (if 29 ≤ 32 then (if ((((((⟨#[97, 98, 99, 100, 101, 102, 103, 104, 105, 106, 107, 108, 109, 110, 111, 112, 113, 114, 115, 116, 117, 118, 119, 120, 121, 122, 97, 98, 99, 100, 101, 102]⟩ : ByteArray) ++ (⟨#[46]⟩ : ByteArray)) ++ (⟨#[97, 98, 99, 100, 101, 102, 103, 104, 105, 106, 107, 108, 109, 110, 111, 112, 113, 114, 115, 116, 117, 118, 119, 120, 121, 122, 97, 98, 99, 100, 101, 102]⟩ : ByteArray)) ++ (⟨#[46]⟩ : ByteArray)) ++ (⟨#[97, 98, 99, 100, 101, 102, 103, 104, 105, 106, 107, 108, 109, 110, 111, 112, 113, 114, 115, 116, 117, 118, 119, 120, 121, 122, 97, 98, 99, 100, 101, 102]⟩ : ByteArray)) ++ (⟨#[46]⟩ : ByteArray)).size + ((⟨#[97, 98, 99, 100, 101, 102, 103, 104, 105, 106, 107, 108, 109, 110, 111, 112, 113, 114, 115, 116, 117, 118, 119, 120, 121, 122, 97, 98, 99, 100, 101, 102]⟩ : ByteArray).extract 0 29).size ≤ 9223372036854775807 then (if 0 ≤ 30 then (if 30 ≤ 32 then (if ((((((⟨#[97, 98, 99, 100, 101, 102, 103, 104, 105, 106, 107, 108, 109, 110, 111, 112, 113, 114, 115, 116, 117, 118, 119, 120, 121, 122, 97, 98, 99, 100, 101, 102]⟩ : ByteArray) ++ (⟨#[46]⟩ : ByteArray)) ++ (⟨#[97, 98, 99, 100, 101, 102, 103, 104, 105, 106, 107, 108, 109, 110, 111, 112, 113, 114, 115, 116, 117, 118, 119, 120, 121, 122, 97, 98, 99, 100, 101, 102]⟩ : ByteArray)) ++ (⟨#[46]⟩ : ByteArray)) ++ (⟨#[97, 98, 99, 100, 101, 102, 103, 104, 105, 106, 107, 108, 109, 110, 111, 112, 113, 114, 115, 116, 117, 118, 119, 120, 121, 122, 97, 98, 99, 100, 101, 102]⟩ : ByteArray)) ++ (⟨#[46]⟩ : ByteArray)).size + ((⟨#[97, 98, 99, 100, 101, 102, 103, 104, 105, 106, 107, 108, 109, 110, 111, 112, 113, 114, 115, 116, 117, 118, 119, 120, 121, 122, 97, 98, 99, 100, 101, 102]⟩ : ByteArray).extract 0 30).size ≤ 9223372036854775807 then (signetrylaw02_TextKnown.l4 k (([(⟨#[]⟩ : ByteArray), (⟨#[97, 98, 99, 100, 101, 102, 103, 104, 105, 106, 107, 108, 109, 110, 111, 112, 113, 114, 115, 116, 117, 118, 119, 120, 121, 122, 97, 98, 99, 100, 101, 102]⟩ : ByteArray), (⟨#[97, 98, 99, 100, 101, 102, 103, 104, 105, 106, 107, 108, 109, 110, 111, 112, 113, 114, 115, 116, 117, 118, 119, 120, 121, 122, 97, 98, 99, 100, 101, 102]⟩ : ByteArray) ++ (⟨#[103]⟩ : ByteArray), ((((((⟨#[97, 98, 99, 100, 101, 102, 103, 104, 105, 106, 107, 108, 109, 110, 111, 112, 113, 114, 115, 116, 117, 118, 119, 120, 121, 122, 97, 98, 99, 100, 101, 102]⟩ : ByteArray) ++ (⟨#[46]⟩ : ByteArray)) ++ (⟨#[97, 98, 99, 100, 101, 102, 103, 104, 105, 106, 107, 108, 109, 110, 111, 112, 113, 114, 115, 116, 117, 118, 119, 120, 121, 122, 97, 98, 99, 100, 101, 102]⟩ : ByteArray)) ++ (⟨#[46]⟩ : ByteArray)) ++ (⟨#[97, 98, 99, 100, 101, 102, 103, 104, 105, 106, 107, 108, 109, 110, 111, 112, 113, 114, 115, 116, 117, 118, 119, 120, 121, 122, 97, 98, 99, 100, 101, 102]⟩ : ByteArray)) ++ (⟨#[46]⟩ : ByteArray)) ++ ((⟨#[97, 98, 99, 100, 101, 102, 103, 104, 105, 106, 107, 108, 109, 110, 111, 112, 113, 114, 115, 116, 117, 118, 119, 120, 121, 122, 97, 98, 99, 100, 101, 102]⟩ : ByteArray).extract 0 29), ((((((⟨#[97, 98, 99, 100, 101, 102, 103, 104, 105, 106, 107, 108, 109, 110, 111, 112, 113, 114, 115, 116, 117, 118, 119, 120, 121, 122, 97, 98, 99, 100, 101, 102]⟩ : ByteArray) ++ (⟨#[46]⟩ : ByteArray)) ++ (⟨#[97, 98, 99, 100, 101, 102, 103, 104, 105, 106, 107, 108, 109, 110, 111, 112, 113, 114, 115, 116, 117, 118, 119, 120, 121, 122, 97, 98, 99, 100, 101, 102]⟩ : ByteArray)) ++ (⟨#[46]⟩ : ByteArray)) ++ (⟨#[97, 98, 99, 100, 101, 102, 103, 104, 105, 106, 107, 108, 109, 110, 111, 112, 113, 114, 115, 116, 117, 118, 119, 120, 121, 122, 97, 98, 99, 100, 101, 102]⟩ : ByteArray)) ++ (⟨#[46]⟩ : ByteArray)) ++ ((⟨#[97, 98, 99, 100, 101, 102, 103, 104, 105, 106, 107, 108, 109, 110, 111, 112, 113, 114, 115, 116, 117, 118, 119, 120, 121, 122, 97, 98, 99, 100, 101, 102]⟩ : ByteArray).extract 0 30), (⟨#[46]⟩ : ByteArray), (⟨#[97, 46]⟩ : ByteArray), (⟨#[46, 97]⟩ : ByteArray), (⟨#[34]⟩ : ByteArray), (⟨#[39, 39]⟩ : ByteArray), (⟨#[34, 92, 85, 48, 48, 49, 49, 48, 48, 48, 48, 34]⟩ : ByteArray), (⟨#[34, 92, 117, 100, 56, 48, 48, 34]⟩ : ByteArray), (⟨#[34, 92, 51, 55, 55, 92, 120, 48, 34]⟩ : ByteArray)] : List ByteArray)) 0) else (none)) else (none)) else (none)) else (none)) else (none)) else (none)) else (none)) else (none)) else (none)) else (none)) else (none))
def signetrylaw02_TextKnown.l4 : Nat → List ByteArray → Int → Option (Bool)
  | 0, _, _ => none
  | k + 1, x11, x12 => if x12 < (x11.length : Int) then (if 0 ≤ x12 then ((signetrylaw02_TextNames.f k (rdOf ByteArray.empty x11 x12)).bind fun t583 => (if t583 = true then ((signetrylaw02_TextQuotes.f k ([] : List Int) (rdOf ByteArray.empty x11 x12)).bind fun t585 => (if t585 = true then (signetrylaw02_TextKnown.l4 k x11 (wrap64 (x12 + 1))) else (none))) else (none))) else (none)) else ((signetrylaw02_works.f k).bind fun t581 => (some t581))
end
def signetrylaw02_TextKnown.f (k : Nat)  : Option (Bool) := signetrylaw02_TextKnown.l0 k 0
theorem signetrylaw02_TextKnown.mono_l : ∀ k, (∀ y0, LeO (signetrylaw02_TextKnown.l0 k y0) (signetrylaw02_TextKnown.l0 (k + 1) y0)) ∧ (∀ y0 y1 y2 y3, LeO (signetrylaw02_TextKnown.l1 k y0 y1 y2 y3) (signetrylaw02_TextKnown.l1 (k + 1) y0 y1 y2 y3)) ∧ (∀ y0 y1 y2 y3, LeO (signetrylaw02_TextKnown.l2 k y0 y1 y2 y3) (signetrylaw02_TextKnown.l2 (k + 1) y0 y1 y2 y3)) ∧ (∀ y0 y1, LeO (signetrylaw02_TextKnown.l3 k y0 y1) (signetrylaw02_TextKnown.l3 (k + 1) y0 y1)) ∧ (∀ y0 y1, LeO (signetrylaw02_TextKnown.l4 k y0 y1) (signetrylaw02_TextKnown.l4 (k + 1) y0 y1))
 | 0 => ⟨fun _ r h => by simp [signetrylaw02_TextKnown.l0] at h, fun _ _ _ _ r h => by simp [signetrylaw02_TextKnown.l1] at h, fun _ _ _ _ r h => by simp [signetrylaw02_TextKnown.l2] at h, fun _ _ r h => by simp [signetrylaw02_TextKnown.l3] at h, fun _ _ r h => by simp [signetrylaw02_TextKnown.l4] at h⟩
 | k + 1 => by
  obtain ⟨ih0, ih1, ih2, ih3, ih4⟩ := signetrylaw02_TextKnown.mono_l k
  refine ⟨?_, ?_, ?_, ?_, ?_⟩
  ·intro y0
   unfold signetrylaw02_TextKnown.l0
   repeat' first
   | (with_reducible exact ih0 _)
   | (with_reducible exact ih1 _ _ _ _)
   | (with_reducible exact ih2 _ _ _ _)
   | (with_reducible exact ih3 _ _)
   | (with_reducible exact ih4 _ _)
   | (with_reducible exact signetrylaw02_TextNames.mono _ _)
   | (with_reducible exact signetrylaw02_TextQuotes.mono _ _ _)
   | (with_reducible exact signetrylaw02_TextRunes.mono _ _ _)
   | (with_reducible exact signetrylaw02_works.mono _)
   | (with_reducible exact LeO.refl _)
   | (with_reducible exact LeO.none _)
   | (with_reducible refine LeO.ite ?_ ?_)
   | (with_reducible refine LeO.bind ?_ (fun _ => ?_))
   | exact ih0 _
   | exact ih1 _ _ _ _
   | exact ih2 _ _ _ _
   | exact ih3 _ _
   | exact ih4 _ _
   | exact signetrylaw02_TextNames.mono _ _
   | exact signetrylaw02_TextQuotes.mono _ _ _
   | exact signetrylaw02_TextRunes.mono _ _ _
   | exact signetrylaw02_works.mono _
   | exact LeO.none _
   | refine LeO.ite ?_ ?_
   | refine LeO.bind ?_ (fun _ => ?_)
  ·intro y0 y1 y2 y3
   unfold signetrylaw02_TextKnown.l1
   repeat' first
   | (with_reducible exact ih0 _)
   | (with_reducible exact ih1 _ _ _ _)
   | (with_reducible exact ih2 _ _ _ _)
   | (with_reducible exact ih3 _ _)
   | (with_reducible exact ih4 _ _)
   | (with_reducible exact signetrylaw02_TextNames.mono _ _)
   | (with_reducible exact signetrylaw02_TextQuotes.mono _ _ _)
   | (with_reducible exact signetrylaw02_TextRunes.mono _ _ _)
   | (with_reducible exact signetrylaw02_works.mono _)
   | (with_reducible exact LeO.refl _)
   | (with_reducible exact LeO.none _)
   | (with_reducible refine LeO.ite ?_ ?_)
   | (with_reducible refine LeO.bind ?_ (fun _ => ?_))
   | exact ih0 _
   | exact ih1 _ _ _ _
   | exact ih2 _ _ _ _
   | exact ih3 _ _
   | exact ih4 _ _
   | exact signetrylaw02_TextNames.mono _ _
   | exact signetrylaw02_TextQuotes.mono _ _ _
   | exact signetrylaw02_TextRunes.mono _ _ _
   | exact signetrylaw02_works.mono _
   | exact LeO.none _
   | refine LeO.ite ?_ ?_
   | refine LeO.bind ?_ (fun _ => ?_)
  ·intro y0 y1 y2 y3
   unfold signetrylaw02_TextKnown.l2
   repeat' first
   | (with_reducible exact ih0 _)
   | (with_reducible exact ih1 _ _ _ _)
   | (with_reducible exact ih2 _ _ _ _)
   | (with_reducible exact ih3 _ _)
   | (with_reducible exact ih4 _ _)
   | (with_reducible exact signetrylaw02_TextNames.mono _ _)
   | (with_reducible exact signetrylaw02_TextQuotes.mono _ _ _)
   | (with_reducible exact signetrylaw02_TextRunes.mono _ _ _)
   | (with_reducible exact signetrylaw02_works.mono _)
   | (with_reducible exact LeO.refl _)
   | (with_reducible exact LeO.none _)
   | (with_reducible refine LeO.ite ?_ ?_)
   | (with_reducible refine LeO.bind ?_ (fun _ => ?_))
   | exact ih0 _
   | exact ih1 _ _ _ _
   | exact ih2 _ _ _ _
   | exact ih3 _ _
   | exact ih4 _ _
   | exact signetrylaw02_TextNames.mono _ _
   | exact signetrylaw02_TextQuotes.mono _ _ _
   | exact signetrylaw02_TextRunes.mono _ _ _
   | exact signetrylaw02_works.mono _
   | exact LeO.none _
   | refine LeO.ite ?_ ?_
   | refine LeO.bind ?_ (fun _ => ?_)
  ·intro y0 y1
   unfold signetrylaw02_TextKnown.l3
   repeat' first
   | (with_reducible exact ih0 _)
   | (with_reducible exact ih1 _ _ _ _)
   | (with_reducible exact ih2 _ _ _ _)
   | (with_reducible exact ih3 _ _)
   | (with_reducible exact ih4 _ _)
   | (with_reducible exact signetrylaw02_TextNames.mono _ _)
   | (with_reducible exact signetrylaw02_TextQuotes.mono _ _ _)
   | (with_reducible exact signetrylaw02_TextRunes.mono _ _ _)
   | (with_reducible exact signetrylaw02_works.mono _)
   | (with_reducible exact LeO.refl _)
   | (with_reducible exact LeO.none _)
   | (with_reducible refine LeO.ite ?_ ?_)
   | (with_reducible refine LeO.bind ?_ (fun _ => ?_))
   | exact ih0 _
   | exact ih1 _ _ _ _
   | exact ih2 _ _ _ _
   | exact ih3 _ _
   | exact ih4 _ _
   | exact signetrylaw02_TextNames.mono _ _
   | exact signetrylaw02_TextQuotes.mono _ _ _
   | exact signetrylaw02_TextRunes.mono _ _ _
   | exact signetrylaw02_works.mono _
   | exact LeO.none _
   | refine LeO.ite ?_ ?_
   | refine LeO.bind ?_ (fun _ => ?_)
  ·intro y0 y1
   unfold signetrylaw02_TextKnown.l4
   repeat' first
   | (with_reducible exact ih0 _)
   | (with_reducible exact ih1 _ _ _ _)
   | (with_reducible exact ih2 _ _ _ _)
   | (with_reducible exact ih3 _ _)
   | (with_reducible exact ih4 _ _)
   | (with_reducible exact signetrylaw02_TextNames.mono _ _)
   | (with_reducible exact signetrylaw02_TextQuotes.mono _ _ _)
   | (with_reducible exact signetrylaw02_TextRunes.mono _ _ _)
   | (with_reducible exact signetrylaw02_works.mono _)
   | (with_reducible exact LeO.refl _)
   | (with_reducible exact LeO.none _)
   | (with_reducible refine LeO.ite ?_ ?_)
   | (with_reducible refine LeO.bind ?_ (fun _ => ?_))
   | exact ih0 _
   | exact ih1 _ _ _ _
   | exact ih2 _ _ _ _
   | exact ih3 _ _
   | exact ih4 _ _
   | exact signetrylaw02_TextNames.mono _ _
   | exact signetrylaw02_TextQuotes.mono _ _ _
   | exact signetrylaw02_TextRunes.mono _ _ _
   | exact signetrylaw02_works.mono _
   | exact LeO.none _
   | refine LeO.ite ?_ ?_
   | refine LeO.bind ?_ (fun _ => ?_)
theorem signetrylaw02_TextKnown.mono : ∀ k, LeO (signetrylaw02_TextKnown.f k ) (signetrylaw02_TextKnown.f (k + 1) ) := by
  intro  k
  obtain ⟨ih0, ih1, ih2, ih3, ih4⟩ := signetrylaw02_TextKnown.mono_l k
  unfold signetrylaw02_TextKnown.f
  repeat' first
      | (with_reducible exact ih0 _)
      | (with_reducible exact ih1 _ _ _ _)
      | (with_reducible exact ih2 _ _ _ _)
      | (with_reducible exact ih3 _ _)
      | (with_reducible exact ih4 _ _)
      | (with_reducible exact signetrylaw02_TextNames.mono _ _)
      | (with_reducible exact signetrylaw02_TextQuotes.mono _ _ _)
      | (with_reducible exact signetrylaw02_TextRunes.mono _ _ _)
      | (with_reducible exact signetrylaw02_works.mono _)
      | (with_reducible exact LeO.refl _)
      | (with_reducible exact LeO.none _)
      | (with_reducible refine LeO.ite ?_ ?_)
      | (with_reducible refine LeO.bind ?_ (fun _ => ?_))
      | exact ih0 _
      | exact ih1 _ _ _ _
      | exact ih2 _ _ _ _
      | exact ih3 _ _
      | exact ih4 _ _
      | exact signetrylaw02_TextNames.mono _ _
      | exact signetrylaw02_TextQuotes.mono _ _ _
      | exact signetrylaw02_TextRunes.mono _ _ _
      | exact signetrylaw02_works.mono _
      | exact LeO.none _
      | refine LeO.ite ?_ ?_
      | refine LeO.bind ?_ (fun _ => ?_)
def signetrylaw02_TextKnown.T25 : Bool × List (List Nat × List Nat) := (true, [([], []), ([], []), ([1], [1]), ([], []), ([], []), ([4], [4]), ([3, 5], [3, 5]), ([], []), ([], []), ([8], [8]), ([7, 9], [7, 9]), ([0, 2, 6, 10], [0, 2, 6, 10]), ([11, 0, 1, 2, 3, 4, 5, 6, 7, 8, 9, 10, 11], [11])])
def signetrylaw02_TextKnown.B25 : List Nat := [0, 0, 2, 0, 0, 16, 56, 0, 0, 256, 896, 2047, 4095]
theorem signetrylaw02_TextKnown.tab25 : rtab .any (opsOf Tryd.f11 25) = signetrylaw02_TextKnown.T25 := by kernel_rfl
theorem signetrylaw02_TextKnown.bits25 : waitsOk signetrylaw02_TextKnown.T25.2 signetrylaw02_TextKnown.B25 = true := by kernel_rfl
set_option maxHeartbeats 8000000 in
set_option maxRecDepth 100000 in
theorem signetrylaw02_TextKnown.calls (k : Nat)  (r : Bool) (w : World) (h : signetrylaw02_TextKnown.f k  = some r) (HTB_ : Tabs w) :
 Calls Tryd.prog 11 #[] w fun e w' => e = .returned (.bool r) ∧ Below w.heap.size w w' := by
 have HB := Aside0.mk (Below.refl w.heap.size w)
 have H : (signetrylaw02_TextKnown.l0 k 0) = some r := h
 clear h
 have H' := Aside0.mk H
 clear H
 go_enter Tryd.func11, Tryd.ntmps11
 go_wp2
 go_loopg [1] k (fun kq v1 w' => ∃ (x1_1 : Int), v1 = .int .i64 x1_1 ∧ Aside0 (signetrylaw02_TextKnown.l0 kq x1_1 = some r) ∧ Aside0 (kq ≤ k) ∧ Aside0 (Below w.heap.size w w'))
 case atStart => exact ⟨(0), (by first | rfl | (simp; done) | (simp [*]; done)), H', ⟨Nat.le_refl _⟩, ⟨by repeat (first | (with_reducible first | exact HB.out | apply below_alloc | apply pw_below_drewN | apply below_drew1) | exact HB.out)⟩⟩
 case round =>
  clear H'
  obtain ⟨x1_1, rfl, HA, HK1, HB⟩ := hrel
  cases gk with
  | zero => exact absurd HA.out (by simp [signetrylaw02_TextKnown.l0])
  | succ k1 =>
   have H := HA.out
   clear HA
   simp only [signetrylaw02_TextKnown.l0] at H
   by_cases c1 : x1_1 < 256
   case neg =>
    rw [if_neg c1] at H
    have c1b0 : decide (x1_1 < 256) = false := decide_eq_false c1
    clear c1
    obtain ⟨y570, hy570⟩ : ∃ y_ : List Int, y_ = (([(-9223372036854775808), (-1), 0, 127, 128, 2047, 2048, 55295, 55296, 57343, 57344, 65535, 65536, 1114111, 1114112, 9223372036854775807] : List Int)) := ⟨_, rfl⟩
    replace H : (signetrylaw02_TextKnown.l3 k1 y570 0) = some r := by first | (rw [hy570]; with_reducible exact H) | (have H2_ := (Option.bind_some _ _).symm.trans H; rw [hy570]; with_reducible exact H2_) | (have H2_ := (Option.bind_some _ _).symm.trans H; with_reducible exact H2_) | with_reducible exact H | (rw [hy570]; exact H) | exact H
    have Ny570 := Aside0.mk hy570
    clear hy570
    have H' := Aside0.mk H
    clear H
    go_wp2_with (first | ((with_reducible refine gate_dst (N := 131) rfl ?_); refine Kd.R_lit (Kd.int .i64) _ 3 ?hg (N := 131) ?hd (xs := ([(-9223372036854775808), (-1), 0, 127, 128, 2047, 2048, 55295, 55296, 57343, 57344, 65535, 65536, 1114111, 1114112, 9223372036854775807] : List Int)) (inner := [.int .i64 (-9223372036854775808), .int .i64 (-1), .int .i64 0, .int .i64 127, .int .i64 128, .int .i64 2047, .int .i64 2048, .int .i64 55295, .int .i64 55296, .int .i64 57343, .int .i64 57344, .int .i64 65535, .int .i64 65536, .int .i64 1114111, .int .i64 1114112, .int .i64 9223372036854775807]) (ok := fun _ => True) (okp := fun _ => True) ?hr ?hp (fun _ hk => hk) trivial (Below.refl _ _) (Nat.le_refl _) (by simp) ?_; (case hd => rfl); (case hg => rfl); (case hr => first | (go_simp; done) | (go_simp; rfl)); (case hp => exact (Reps.one (show Kd.M (Kd.int .i64) _ _ _ (-9223372036854775808) [.int .i64 (-9223372036854775808)] from rfl) (Reps.one (show Kd.M (Kd.int .i64) _ _ _ (-1) [.int .i64 (-1)] from rfl) (Reps.one (show Kd.M (Kd.int .i64) _ _ _ 0 [.int .i64 0] from rfl) (Reps.one (show Kd.M (Kd.int .i64) _ _ _ 127 [.int .i64 127] from rfl) (Reps.one (show Kd.M (Kd.int .i64) _ _ _ 128 [.int .i64 128] from rfl) (Reps.one (show Kd.M (Kd.int .i64) _ _ _ 2047 [.int .i64 2047] from rfl) (Reps.one (show Kd.M (Kd.int .i64) _ _ _ 2048 [.int .i64 2048] from rfl) (Reps.one (show Kd.M (Kd.int .i64) _ _ _ 55295 [.int .i64 55295] from rfl) (Reps.one (show Kd.M (Kd.int .i64) _ _ _ 55296 [.int .i64 55296] from rfl) (Reps.one (show Kd.M (Kd.int .i64) _ _ _ 57343 [.int .i64 57343] from rfl) (Reps.one (show Kd.M (Kd.int .i64) _ _ _ 57344 [.int .i64 57344] from rfl) (Reps.one (show Kd.M (Kd.int .i64) _ _ _ 65535 [.int .i64 65535] from rfl) (Reps.one (show Kd.M (Kd.int .i64) _ _ _ 65536 [.int .i64 65536] from rfl) (Reps.one (show Kd.M (Kd.int .i64) _ _ _ 1114111 [.int .i64 1114111] from rfl) (Reps.one (show Kd.M (Kd.int .i64) _ _ _ 1114112 [.int .i64 1114112] from rfl) (Reps.one (show Kd.M (Kd.int .i64) _ _ _ 9223372036854775807 [.int .i64 9223372036854775807] from rfl) (Reps.none _ _)))))))))))))))))); intro v571 w79 ho80 hb hg_ hnew_; clear hg_ hnew_; (first | rw [← Ny570.out] at ho80 | (simp only [Int.reduceToNat] at ho80; rw [← Ny570.out] at ho80)); have n0_ := Aside0.mk (Kd.R_lower ho80 (below_size (by repeat (first | (with_reducible first | exact HB.out | apply below_alloc | apply pw_below_drewN | apply below_drew1) | exact HB.out)))); have n1_ := Aside0.mk (below_step (by repeat (first | (with_reducible first | exact HB.out | apply below_alloc | apply pw_below_drewN | apply below_drew1) | exact HB.out)) hb); clear HB; have HO572 := n0_; have HB := n1_; clear n0_ n1_; clear hb ho80))
    go_loopg [8] k1 (fun kq v8 w' => ∃ (x8_2 : Int), v8 = .int .i64 x8_2 ∧ Aside0 (signetrylaw02_TextKnown.l3 kq y570 x8_2 = some r) ∧ Aside0 (kq ≤ k1) ∧ Aside0 (Kd.R (Kd.int .i64) 3 w' w.heap.size (fun _ => True) v571 y570) ∧ Aside0 (Below w.heap.size w w'))
    case atStart => exact ⟨(0), (by first | rfl | (simp; done) | (simp [*]; done)), H', ⟨Nat.le_refl _⟩, ⟨by (with_reducible repeat (first | apply Kd.R_alloc | apply Kd.R_drewN | apply Kd.R_drew)); exact HO572.out⟩, ⟨by repeat (first | (with_reducible first | exact HB.out | apply below_alloc | apply pw_below_drewN | apply below_drew1) | exact HB.out)⟩⟩
    case round =>
     clear H'
     try clear c1
     try clear c1b0
     try clear p2
     try clear c3
     try clear c4
     try clear hcv4
     try clear c5
     try clear p5
     try clear q5
     try clear hx5
     try clear c6
     try clear p6
     try clear c7
     try clear c11
     try clear c31
     try clear c31b0
     try clear c32
     try clear c32b0
     try clear c34
     try clear c35
     try clear c35b0
     try clear c35b1
     try clear c35b2
     try clear c36
     try clear c36b0
     try clear c36b1
     try clear c36b2
     try clear c38
     try clear c42
     try clear c42b0
     try clear c42b1
     try clear c42b2
     try clear c43
     try clear c43b0
     try clear c43b1
     try clear c43b2
     try clear c44
     try clear c44b0
     try clear c44b1
     try clear c44b2
     try clear c45
     try clear c45b0
     try clear c45b1
     try clear c45b2
     try clear c46
     try clear c46b0
     try clear c46b1
     try clear c46b2
     try clear c47
     try clear c47b0
     try clear c47b1
     try clear c47b2
     try clear c48
     try clear c48b0
     try clear c48b1
     try clear c48b2
     try clear c49
     try clear c49b0
     try clear c49b1
     try clear c49b2
     try clear c50
     try clear c50b0
     try clear c50b1
     try clear c50b2
     try clear c51
     try clear c51b0
     try clear c51b1
     try clear c51b2
     try clear c52
     try clear c52b0
     try clear c52b1
     try clear c52b2
     try clear c53
     try clear c53b0
     try clear c53b1
     try clear c53b2
     try clear c55
     try clear p55
     try clear q55
     try clear hx55
     try clear p56
     try clear q56
     try clear hx56
     try clear c57
     try clear c57b0
     try clear c58
     try clear c58b0
     try clear c60
     try clear c61
     try clear c61b0
     try clear c61b1
     try clear c61b2
     try clear c63
     try clear p64
     try clear c65
     try clear c66
     try clear c66b0
     try clear c66b1
     try clear c66b2
     try clear c68
     try clear c69
     try clear c69b0
     try clear c69b1
     try clear c69b2
     try clear c71
     try clear hx557_0
     try clear hx559_0
     try clear hx564_0
     try clear p2
     try clear p5
     try clear p55
     try clear p557
     try clear p559
     try clear p564
     try clear p6
     try clear q5
     try clear q55
     try clear q557
     try clear q559
     try clear q564
     obtain ⟨x8_2, rfl, HA, HK2, HO_7, HB⟩ := hrel
     cases gk with
     | zero => exact absurd HA.out (by simp [signetrylaw02_TextKnown.l3])
     | succ k2 =>
      have H := HA.out
      clear HA
      simp only [signetrylaw02_TextKnown.l3] at H
      by_cases c81 : x8_2 < (y570.length : Int)
      case pos =>
       rw [if_pos c81] at H
       have c81b0 : decide (x8_2 < (y570.length : Int)) = true := decide_eq_true c81
       clear c81
       obtain ⟨y573, hy573⟩ : ∃ y_ : List Int, y_ = (([1] : List Int)) := ⟨_, rfl⟩
       replace H : (if 0 ≤ x8_2 then ((signetrylaw02_TextRunes.f k2 y573 (rd y570 x8_2)).bind fun t577 => (if t577 = true then (signetrylaw02_TextKnown.l3 k2 y570 (wrap64 (x8_2 + 1))) else (none))) else (none)) = some r := by first | (rw [hy573]; with_reducible exact H) | (have H2_ := (Option.bind_some _ _).symm.trans H; rw [hy573]; with_reducible exact H2_) | (have H2_ := (Option.bind_some _ _).symm.trans H; with_reducible exact H2_) | with_reducible exact H | (rw [hy573]; exact H) | exact H
       have Ny573 := Aside0.mk hy573
       clear hy573
       by_cases c82 : 0 ≤ x8_2
       case neg =>
        rw [if_neg c82] at H
        exact absurd H (by simp)
       rw [if_pos c82] at H
       have c82b0 : decide (0 ≤ x8_2) = true := decide_eq_true c82
       clear c82
       replace H := Option.bind_eq_some_iff.mp H
       obtain ⟨t577, A830, H⟩ := H
       replace H : (if t577 = true then (signetrylaw02_TextKnown.l3 k2 y570 (wrap64 (x8_2 + 1))) else (none)) = some r := H
       have A83 := Aside0.mk A830
       clear A830
       by_cases c84 : t577 = true
       case neg =>
        replace c84 := Bool.eq_false_iff.mpr c84
        subst c84
        have H1 : (none) = some r := by rw [if_neg (show ¬ (false = true) by decide)] at H; exact H
        clear H
        have H := H1
        clear H1
        exact absurd H (by simp)
       subst c84
       have H1 : (signetrylaw02_TextKnown.l3 k2 y570 (wrap64 (x8_2 + 1))) = some r := by rw [if_pos rfl] at H; exact H
       clear H
       have H := H1
       clear H1
       have H' := Aside0.mk H
       clear H
       obtain ⟨Ao85, co85, eo85⟩ := Kd.R_slice HO_7.out
       subst eo85
       go_wp2_with (first | ((with_reducible refine gate_dst (N := 138) rfl ?_); refine Kd.R_lit (Kd.int .u8) _ 5 ?hg (N := 138) ?hd (xs := ([1] : List Int)) (inner := [.int .u8 1]) (ok := fun _ => True) (okp := fun _ => True) ?hr ?hp (fun _ hk => hk) trivial (Below.refl _ _) (Nat.le_refl _) (by simp) ?_; (case hd => rfl); (case hg => rfl); (case hr => first | (go_simp; done) | (go_simp; rfl)); (case hp => exact (Reps.one (show Kd.M (Kd.int .u8) _ _ _ 1 [.int .u8 1] from rfl) (Reps.none _ _))); intro v574 w86 ho87 hb hg_ hnew_; clear hg_ hnew_; (first | rw [← Ny573.out] at ho87 | (simp only [Int.reduceToNat] at ho87; rw [← Ny573.out] at ho87)); have n0_ := Aside0.mk (Kd.R_below (by (with_reducible repeat (first | apply Kd.R_alloc | apply Kd.R_drewN | apply Kd.R_drew)); exact HO_7.out) hb); have n1_ := Aside0.mk (Kd.R_lower ho87 (below_size (by repeat (first | (with_reducible first | exact HB.out | apply below_alloc | apply pw_below_drewN | apply below_drew1) | exact HB.out)))); have n2_ := Aside0.mk (below_step (by repeat (first | (with_reducible first | exact HB.out | apply below_alloc | apply pw_below_drewN | apply below_drew1) | exact HB.out)) hb); clear HO_7; clear HB; have HO_7 := n0_; have HO575 := n1_; have HB := n2_; clear n0_ n1_ n2_; clear hb ho87; have p576 : 0 ≤ (x8_2 : Int) := of_decide_eq_true (by first | (with_reducible assumption) | assumption); have q576 : x8_2 < (y570.length : Int) := of_decide_eq_true (by first | (with_reducible assumption) | assumption); obtain ⟨ad576, e576, hx576_0⟩ := Kd.at_int (Kd.R_reads' HO_7.out).2.2 x8_2 p576 q576; cases e576; replace p576 := eq_true p576; replace q576 := eq_true q576; obtain ⟨Ao88, co88, eo88⟩ := Kd.R_slice HO575.out; subst eo88) | ((with_reducible refine gate_callee (f := 3) rfl ?_); refine goesL_ (some 143) rfl rfl Tryd.func3 (by kernel_rfl) rfl #[.slice Ao88 y573.length co88, .int .i64 (rd y570 x8_2)] rfl (by (try simp only [List.map_toArray, List.map_cons, List.map_nil]); first | done | rfl | (simp only [List.length_drop, List.length_take]; rfl)) ?_; (with_reducible refine (signetrylaw02_TextRunes.calls k2 _ _ y573 (rd y570 x8_2) true _ ?side1 ?side2 A83.out (HTB_.below (by repeat (first | (with_reducible first | exact HB.out | apply below_alloc | apply pw_below_drewN | apply below_drew1) | exact HB.out)))).mono ?_); (case side1 => repeat (first | exact (Kd.R_reads' HO575.out).2.2 | (with_reducible refine Kd.C_alloc ?_ _) | (with_reducible refine Kd.C_drewN ?_ _) | (with_reducible refine Kd.C_drew ?_))); (case side2 => exact (Kd.R_reads' HO575.out).2.1); rintro e w89 ⟨rfl, hb⟩; refine ⟨_, rfl, ?_⟩; have n0_ := Aside0.mk (Kd.R_below (by (with_reducible repeat (first | apply Kd.R_alloc | apply Kd.R_drewN | apply Kd.R_drew)); exact HO_7.out) hb); have n1_ := Aside0.mk (Kd.R_below (by (with_reducible repeat (first | apply Kd.R_alloc | apply Kd.R_drewN | apply Kd.R_drew)); exact HO575.out) hb); have n2_ := Aside0.mk (below_step (by repeat (first | (with_reducible first | exact HB.out | apply below_alloc | apply pw_below_drewN | apply below_drew1) | exact HB.out)) hb); clear HO_7; clear HO575; clear HB; have HO_7 := n0_; have HO575 := n1_; have HB := n2_; clear n0_ n1_ n2_; (try clear hb); (try clear hb2); (try clear hk); (try clear hi)))
       go_roundg k2
       case measure => have := HK1.out; have := HK2.out; omega
       case rel => exact ⟨(wrap64 (x8_2 + 1)), (by first | rfl | (simp; done) | (simp [*]; done)), H', ⟨by have := HK1.out; have := HK2.out; omega⟩, ⟨by (with_reducible repeat (first | apply Kd.R_alloc | apply Kd.R_drewN | apply Kd.R_drew)); exact HO_7.out⟩, ⟨by repeat (first | (with_reducible first | exact HB.out | apply below_alloc | apply pw_below_drewN | apply below_drew1) | exact HB.out)⟩⟩
      rw [if_neg c81] at H
      have c81b0 : decide (x8_2 < (y570.length : Int)) = false := decide_eq_false c81
      clear c81
      by_cases c90 : 32 + 1 ≤ 9223372036854775807
      case neg =>
       rw [if_neg c90] at H
       exact absurd H (by simp)

      rw [if_pos c90] at H
      have c90b0 := eq_true c90
      have c90b1 : decide (32 + 1 ≤ 9223372036854775807) = true := decide_eq_true c90
      try have c90b2 : (9223372036854775807 < 32 + 1) = False := eq_false (Nat.not_lt.2 c90)
      by_cases c91 : 32 + 32 ≤ 9223372036854775807
      case neg =>
       rw [if_neg c91] at H
       exact absurd H (by simp)
      rw [if_pos c91] at H
      have c91b0 := eq_true c91
      have c91b1 : decide (32 + 32 ≤ 9223372036854775807) = true := decide_eq_true c91
      try have c91b2 : (9223372036854775807 < 32 + 32) = False := eq_false (Nat.not_lt.2 c91)
      by_cases c92 : (((⟨#[97, 98, 99, 100, 101, 102, 103, 104, 105, 106, 107, 108, 109, 110, 111, 112, 113, 114, 115, 116, 117, 118, 119, 120, 121, 122, 97, 98, 99, 100, 101, 102]⟩ : ByteArray) ++ (⟨#[46]⟩ : ByteArray)) ++ (⟨#[97, 98, 99, 100, 101, 102, 103, 104, 105, 106, 107, 108, 109, 110, 111, 112, 113, 114, 115, 116, 117, 118, 119, 120, 121, 122, 97, 98, 99, 100, 101, 102]⟩ : ByteArray)).size + 1 ≤ 9223372036854775807
      case neg =>
       rw [if_neg c92] at H
       exact absurd H (by simp)
      rw [if_pos c92] at H
      have c92b0 := eq_true c92
      have c92b1 : decide ((((⟨#[97, 98, 99, 100, 101, 102, 103, 104, 105, 106, 107, 108, 109, 110, 111, 112, 113, 114, 115, 116, 117, 118, 119, 120, 121, 122, 97, 98, 99, 100, 101, 102]⟩ : ByteArray) ++ (⟨#[46]⟩ : ByteArray)) ++ (⟨#[97, 98, 99, 100, 101, 102, 103, 104, 105, 106, 107, 108, 109, 110, 111, 112, 113, 114, 115, 116, 117, 118, 119, 120, 121, 122, 97, 98, 99, 100, 101, 102]⟩ : ByteArray)).size + 1 ≤ 9223372036854775807) = true := decide_eq_true c92
      try have c92b2 : (9223372036854775807 < (((⟨#[97, 98, 99, 100, 101, 102, 103, 104, 105, 106, 107, 108, 109, 110, 111, 112, 113, 114, 115, 116, 117, 118, 119, 120, 121, 122, 97, 98, 99, 100, 101, 102]⟩ : ByteArray) ++ (⟨#[46]⟩ : ByteArray)) ++ (⟨#[97, 98, 99, 100, 101, 102, 103, 104, 105, 106, 107, 108, 109, 110, 111, 112, 113, 114, 115, 116, 117, 118, 119, 120, 121, 122, 97, 98, 99, 100, 101, 102]⟩ : ByteArray)).size + 1) = False := eq_false (Nat.not_lt.2 c92)
      try have c92b3 : (9223372036854775807 < ((⟨#[97, 98, 99, 100, 101, 102, 103, 104, 105, 106, 107, 108, 109, 110, 111, 112, 113, 114, 115, 116, 117, 118, 119, 120, 121, 122, 97, 98, 99, 100, 101, 102]⟩ : ByteArray) ++ (⟨#[46]⟩ : ByteArray)).size + (⟨#[97, 98, 99, 100, 101, 102, 103, 104, 105, 106, 107, 108, 109, 110, 111, 112, 113, 114, 115, 116, 117, 118, 119, 120, 121, 122, 97, 98, 99, 100, 101, 102]⟩ : ByteArray).size + 1) = False := by rw [← ByteArray.size_append]; exact c92b2
      try have c92b4 : (9223372036854775807 < ((⟨#[97, 98, 99, 100, 101, 102, 103, 104, 105, 106, 107, 108, 109, 110, 111, 112, 113, 114, 115, 116, 117, 118, 119, 120, 121, 122, 97, 98, 99, 100, 101, 102]⟩ : ByteArray) ++ (⟨#[46]⟩ : ByteArray)).size + 32 + 1) = False := c92b3
      by_cases c93 : ((((⟨#[97, 98, 99, 100, 101, 102, 103, 104, 105, 106, 107, 108, 109, 110, 111, 112, 113, 114, 115, 116, 117, 118, 119, 120, 121, 122, 97, 98, 99, 100, 101, 102]⟩ : ByteArray) ++ (⟨#[46]⟩ : ByteArray)) ++ (⟨#[97, 98, 99, 100, 101, 102, 103, 104, 105, 106, 107, 108, 109, 110, 111, 112, 113, 114, 115, 116, 117, 118, 119, 120, 121, 122, 97, 98, 99, 100, 101, 102]⟩ : ByteArray)) ++ (⟨#[46]⟩ : ByteArray)).size + 32 ≤ 9223372036854775807
      case neg =>
       rw [if_neg c93] at H
       exact absurd H (by simp)
      rw [if_pos c93] at H
      have c93b0 := eq_true c93
      have c93b1 : decide (((((⟨#[97, 98, 99, 100, 101, 102, 103, 104, 105, 106, 107, 108, 109, 110, 111, 112, 113, 114, 115, 116, 117, 118, 119, 120, 121, 122, 97, 98, 99, 100, 101, 102]⟩ : ByteArray) ++ (⟨#[46]⟩ : ByteArray)) ++ (⟨#[97, 98, 99, 100, 101, 102, 103, 104, 105, 106, 107, 108, 109, 110, 111, 112, 113, 114, 115, 116, 117, 118, 119, 120, 121, 122, 97, 98, 99, 100, 101, 102]⟩ : ByteArray)) ++ (⟨#[46]⟩ : ByteArray)).size + 32 ≤ 9223372036854775807) = true := decide_eq_true c93
      try have c93b2 : (9223372036854775807 < ((((⟨#[97, 98, 99, 100, 101, 102, 103, 104, 105, 106, 107, 108, 109, 110, 111, 112, 113, 114, 115, 116, 117, 118, 119, 120, 121, 122, 97, 98, 99, 100, 101, 102]⟩ : ByteArray) ++ (⟨#[46]⟩ : ByteArray)) ++ (⟨#[97, 98, 99, 100, 101, 102, 103, 104, 105, 106, 107, 108, 109, 110, 111, 112, 113, 114, 115, 116, 117, 118, 119, 120, 121, 122, 97, 98, 99, 100, 101, 102]⟩ : ByteArray)) ++ (⟨#[46]⟩ : ByteArray)).size + 32) = False := eq_false (Nat.not_lt.2 c93)
      try have c93b3 : (9223372036854775807 < (((⟨#[97, 98, 99, 100, 101, 102, 103, 104, 105, 106, 107, 108, 109, 110, 111, 112, 113, 114, 115, 116, 117, 118, 119, 120, 121, 122, 97, 98, 99, 100, 101, 102]⟩ : ByteArray) ++ (⟨#[46]⟩ : ByteArray)) ++ (⟨#[97, 98, 99, 100, 101, 102, 103, 104, 105, 106, 107, 108, 109, 110, 111, 112, 113, 114, 115, 116, 117, 118, 119, 120, 121, 122, 97, 98, 99, 100, 101, 102]⟩ : ByteArray)).size + (⟨#[46]⟩ : ByteArray).size + 32) = False := by rw [← ByteArray.size_append]; exact c93b2
      try have c93b4 : (9223372036854775807 < (((⟨#[97, 98, 99, 100, 101, 102, 103, 104, 105, 106, 107, 108, 109, 110, 111, 112, 113, 114, 115, 116, 117, 118, 119, 120, 121, 122, 97, 98, 99, 100, 101, 102]⟩ : ByteArray) ++ (⟨#[46]⟩ : ByteArray)) ++ (⟨#[97, 98, 99, 100, 101, 102, 103, 104, 105, 106, 107, 108, 109, 110, 111, 112, 113, 114, 115, 116, 117, 118, 119, 120, 121, 122, 97, 98, 99, 100, 101, 102]⟩ : ByteArray)).size + 1 + 32) = False := c93b3
      by_cases c94 : (((((⟨#[97, 98, 99, 100, 101, 102, 103, 104, 105, 106, 107, 108, 109, 110, 111, 112, 113, 114, 115, 116, 117, 118, 119, 120, 121, 122, 97, 98, 99, 100, 101, 102]⟩ : ByteArray) ++ (⟨#[46]⟩ : ByteArray)) ++ (⟨#[97, 98, 99, 100, 101, 102, 103, 104, 105, 106, 107, 108, 109, 110, 111, 112, 113, 114, 115, 116, 117, 118, 119, 120, 121, 122, 97, 98, 99, 100, 101, 102]⟩ : ByteArray)) ++ (⟨#[46]⟩ : ByteArray)) ++ (⟨#[97, 98, 99, 100, 101, 102, 103, 104, 105, 106, 107, 108, 109, 110, 111, 112, 113, 114, 115, 116, 117, 118, 119, 120, 121, 122, 97, 98, 99, 100, 101, 102]⟩ : ByteArray)).size + 1 ≤ 9223372036854775807
      case neg =>
       rw [if_neg c94] at H
       exact absurd H (by simp)
      rw [if_pos c94] at H
      have c94b0 := eq_true c94
      have c94b1 : decide ((((((⟨#[97, 98, 99, 100, 101, 102, 103, 104, 105, 106, 107, 108, 109, 110, 111, 112, 113, 114, 115, 116, 117, 118, 119, 120, 121, 122, 97, 98, 99, 100, 101, 102]⟩ : ByteArray) ++ (⟨#[46]⟩ : ByteArray)) ++ (⟨#[97, 98, 99, 100, 101, 102, 103, 104, 105, 106, 107, 108, 109, 110, 111, 112, 113, 114, 115, 116, 117, 118, 119, 120, 121, 122, 97, 98, 99, 100, 101, 102]⟩ : ByteArray)) ++ (⟨#[46]⟩ : ByteArray)) ++ (⟨#[97, 98, 99, 100, 101, 102, 103, 104, 105, 106, 107, 108, 109, 110, 111, 112, 113, 114, 115, 116, 117, 118, 119, 120, 121, 122, 97, 98, 99, 100, 101, 102]⟩ : ByteArray)).size + 1 ≤ 9223372036854775807) = true := decide_eq_true c94
      try have c94b2 : (9223372036854775807 < (((((⟨#[97, 98, 99, 100, 101, 102, 103, 104, 105, 106, 107, 108, 109, 110, 111, 112, 113, 114, 115, 116, 117, 118, 119, 120, 121, 122, 97, 98, 99, 100, 101, 102]⟩ : ByteArray) ++ (⟨#[46]⟩ : ByteArray)) ++ (⟨#[97, 98, 99, 100, 101, 102, 103, 104, 105, 106, 107, 108, 109, 110, 111, 112, 113, 114, 115, 116, 117, 118, 119, 120, 121, 122, 97, 98, 99, 100, 101, 102]⟩ : ByteArray)) ++ (⟨#[46]⟩ : ByteArray)) ++ (⟨#[97, 98, 99, 100, 101, 102, 103, 104, 105, 106, 107, 108, 109, 110, 111, 112, 113, 114, 115, 116, 117, 118, 119, 120, 121, 122, 97, 98, 99, 100, 101, 102]⟩ : ByteArray)).size + 1) = False := eq_false (Nat.not_lt.2 c94)
      try have c94b3 : (9223372036854775807 < ((((⟨#[97, 98, 99, 100, 101, 102, 103, 104, 105, 106, 107, 108, 109, 110, 111, 112, 113, 114, 115, 116, 117, 118, 119, 120, 121, 122, 97, 98, 99, 100, 101, 102]⟩ : ByteArray) ++ (⟨#[46]⟩ : ByteArray)) ++ (⟨#[97, 98, 99, 100, 101, 102, 103, 104, 105, 106, 107, 108, 109, 110, 111, 112, 113, 114, 115, 116, 117, 118, 119, 120, 121, 122, 97, 98, 99, 100, 101, 102]⟩ : ByteArray)) ++ (⟨#[46]⟩ : ByteArray)).size + (⟨#[97, 98, 99, 100, 101, 102, 103, 104, 105, 106, 107, 108, 109, 110, 111, 112, 113, 114, 115, 116, 117, 118, 119, 120, 121, 122, 97, 98, 99, 100, 101, 102]⟩ : ByteArray).size + 1) = False := by rw [← ByteArray.size_append]; exact c94b2
      try have c94b4 : (9223372036854775807 < ((((⟨#[97, 98, 99, 100, 101, 102, 103, 104, 105, 106, 107, 108, 109, 110, 111, 112, 113, 114, 115, 116, 117, 118, 119, 120, 121, 122, 97, 98, 99, 100, 101, 102]⟩ : ByteArray) ++ (⟨#[46]⟩ : ByteArray)) ++ (⟨#[97, 98, 99, 100, 101, 102, 103, 104, 105, 106, 107, 108, 109, 110, 111, 112, 113, 114, 115, 116, 117, 118, 119, 120, 121, 122, 97, 98, 99, 100, 101, 102]⟩ : ByteArray)) ++ (⟨#[46]⟩ : ByteArray)).size + 32 + 1) = False := c94b3
      by_cases c95 : 0 ≤ 29
      case neg =>
       rw [if_neg c95] at H
       exact absurd H (by simp)
      rw [if_pos c95] at H
      have c95b0 := eq_true c95
      have c95b1 : decide (0 ≤ 29) = true := decide_eq_true c95
      clear c95
      by_cases c96 : 29 ≤ 32
      case neg =>
       rw [if_neg c96] at H
       exact absurd H (by simp)
      rw [if_pos c96] at H
      have c96b0 := eq_true c96
      have c96b1 : decide (29 ≤ 32) = true := decide_eq_true c96
      clear c96
      by_cases c97 : ((((((⟨#[97, 98, 99, 100, 101, 102, 103, 104, 105, 106, 107, 108, 109, 110, 111, 112, 113, 114, 115, 116, 117, 118, 119, 120, 121, 122, 97, 98, 99, 100, 101, 102]⟩ : ByteArray) ++ (⟨#[46]⟩ : ByteArray)) ++ (⟨#[97, 98, 99, 100, 101, 102, 103, 104, 105, 106, 107, 108, 109, 110, 111, 112, 113, 114, 115, 116, 117, 118, 119, 120, 121, 122, 97, 98, 99, 100, 101, 102]⟩ : ByteArray)) ++ (⟨#[46]⟩ : ByteArray)) ++ (⟨#[97, 98, 99, 100, 101, 102, 103, 104, 105, 106, 107, 108, 109, 110, 111, 112, 113, 114, 115, 116, 117, 118, 119, 120, 121, 122, 97, 98, 99, 100, 101, 102]⟩ : ByteArray)) ++ (⟨#[46]⟩ : ByteArray)).size + ((⟨#[97, 98, 99, 100, 101, 102, 103, 104, 105, 106, 107, 108, 109, 110, 111, 112, 113, 114, 115, 116, 117, 118, 119, 120, 121, 122, 97, 98, 99, 100, 101, 102]⟩ : ByteArray).extract 0 29).size ≤ 9223372036854775807
      case neg =>
       rw [if_neg c97] at H
       exact absurd H (by simp)
      rw [if_pos c97] at H
      have c97b0 := eq_true c97
      have c97b1 : decide (((((((⟨#[97, 98, 99, 100, 101, 102, 103, 104, 105, 106, 107, 108, 109, 110, 111, 112, 113, 114, 115, 116, 117, 118, 119, 120, 121, 122, 97, 98, 99, 100, 101, 102]⟩ : ByteArray) ++ (⟨#[46]⟩ : ByteArray)) ++ (⟨#[97, 98, 99, 100, 101, 102, 103, 104, 105, 106, 107, 108, 109, 110, 111, 112, 113, 114, 115, 116, 117, 118, 119, 120, 121, 122, 97, 98, 99, 100, 101, 102]⟩ : ByteArray)) ++ (⟨#[46]⟩ : ByteArray)) ++ (⟨#[97, 98, 99, 100, 101, 102, 103, 104, 105, 106, 107, 108, 109, 110, 111, 112, 113, 114, 115, 116, 117, 118, 119, 120, 121, 122, 97, 98, 99, 100, 101, 102]⟩ : ByteArray)) ++ (⟨#[46]⟩ : ByteArray)).size + ((⟨#[97, 98, 99, 100, 101, 102, 103, 104, 105, 106, 107, 108, 109, 110, 111, 112, 113, 114, 115, 116, 117, 118, 119, 120, 121, 122, 97, 98, 99, 100, 101, 102]⟩ : ByteArray).extract 0 29).size ≤ 9223372036854775807) = true := decide_eq_true c97
      try have c97b2 : (9223372036854775807 < ((((((⟨#[97, 98, 99, 100, 101, 102, 103, 104, 105, 106, 107, 108, 109, 110, 111, 112, 113, 114, 115, 116, 117, 118, 119, 120, 121, 122, 97, 98, 99, 100, 101, 102]⟩ : ByteArray) ++ (⟨#[46]⟩ : ByteArray)) ++ (⟨#[97, 98, 99, 100, 101, 102, 103, 104, 105, 106, 107, 108, 109, 110, 111, 112, 113, 114, 115, 116, 117, 118, 119, 120, 121, 122, 97, 98, 99, 100, 101, 102]⟩ : ByteArray)) ++ (⟨#[46]⟩ : ByteArray)) ++ (⟨#[97, 98, 99, 100, 101, 102, 103, 104, 105, 106, 107, 108, 109, 110, 111, 112, 113, 114, 115, 116, 117, 118, 119, 120, 121, 122, 97, 98, 99, 100, 101, 102]⟩ : ByteArray)) ++ (⟨#[46]⟩ : ByteArray)).size + ((⟨#[97, 98, 99, 100, 101, 102, 103, 104, 105, 106, 107, 108, 109, 110, 111, 112, 113, 114, 115, 116, 117, 118, 119, 120, 121, 122, 97, 98, 99, 100, 101, 102]⟩ : ByteArray).extract 0 29).size) = False := eq_false (Nat.not_lt.2 c97)
      try have c97b3 : (9223372036854775807 < (((((⟨#[97, 98, 99, 100, 101, 102, 103, 104, 105, 106, 107, 108, 109, 110, 111, 112, 113, 114, 115, 116, 117, 118, 119, 120, 121, 122, 97, 98, 99, 100, 101, 102]⟩ : ByteArray) ++ (⟨#[46]⟩ : ByteArray)) ++ (⟨#[97, 98, 99, 100, 101, 102, 103, 104, 105, 106, 107, 108, 109, 110, 111, 112, 113, 114, 115, 116, 117, 118, 119, 120, 121, 122, 97, 98, 99, 100, 101, 102]⟩ : ByteArray)) ++ (⟨#[46]⟩ : ByteArray)) ++ (⟨#[97, 98, 99, 100, 101, 102, 103, 104, 105, 106, 107, 108, 109, 110, 111, 112, 113, 114, 115, 116, 117, 118, 119, 120, 121, 122, 97, 98, 99, 100, 101, 102]⟩ : ByteArray)).size + (⟨#[46]⟩ : ByteArray).size + ((⟨#[97, 98, 99, 100, 101, 102, 103, 104, 105, 106, 107, 108, 109, 110, 111, 112, 113, 114, 115, 116, 117, 118, 119, 120, 121, 122, 97, 98, 99, 100, 101, 102]⟩ : ByteArray).extract 0 29).size) = False := by rw [← ByteArray.size_append]; exact c97b2
      try have c97b4 : (9223372036854775807 < (((((⟨#[97, 98, 99, 100, 101, 102, 103, 104, 105, 106, 107, 108, 109, 110, 111, 112, 113, 114, 115, 116, 117, 118, 119, 120, 121, 122, 97, 98, 99, 100, 101, 102]⟩ : ByteArray) ++ (⟨#[46]⟩ : ByteArray)) ++ (⟨#[97, 98, 99, 100, 101, 102, 103, 104, 105, 106, 107, 108, 109, 110, 111, 112, 113, 114, 115, 116, 117, 118, 119, 120, 121, 122, 97, 98, 99, 100, 101, 102]⟩ : ByteArray)) ++ (⟨#[46]⟩ : ByteArray)) ++ (⟨#[97, 98, 99, 100, 101, 102, 103, 104, 105, 106, 107, 108, 109, 110, 111, 112, 113, 114, 115, 116, 117, 118, 119, 120, 121, 122, 97, 98, 99, 100, 101, 102]⟩ : ByteArray)).size + 1 + ((⟨#[97, 98, 99, 100, 101, 102, 103, 104, 105, 106, 107, 108, 109, 110, 111, 112, 113, 114, 115, 116, 117, 118, 119, 120, 121, 122, 97, 98, 99, 100, 101, 102]⟩ : ByteArray).extract 0 29).size) = False := c97b3
      by_cases c98 : 0 ≤ 30
      case neg =>
       rw [if_neg c98] at H
       exact absurd H (by simp)
      rw [if_pos c98] at H
      have c98b0 := eq_true c98
      have c98b1 : decide (0 ≤ 30) = true := decide_eq_true c98
      clear c98
      by_cases c99 : 30 ≤ 32
      case neg =>
       rw [if_neg c99] at H
       exact absurd H (by simp)
      rw [if_pos c99] at H
      have c99b0 := eq_true c99
      have c99b1 : decide (30 ≤ 32) = true := decide_eq_true c99
      clear c99
      by_cases c100 : ((((((⟨#[97, 98, 99, 100, 101, 102, 103, 104, 105, 106, 107, 108, 109, 110, 111, 112, 113, 114, 115, 116, 117, 118, 119, 120, 121, 122, 97, 98, 99, 100, 101, 102]⟩ : ByteArray) ++ (⟨#[46]⟩ : ByteArray)) ++ (⟨#[97, 98, 99, 100, 101, 102, 103, 104, 105, 106, 107, 108, 109, 110, 111, 112, 113, 114, 115, 116, 117, 118, 119, 120, 121, 122, 97, 98, 99, 100, 101, 102]⟩ : ByteArray)) ++ (⟨#[46]⟩ : ByteArray)) ++ (⟨#[97, 98, 99, 100, 101, 102, 103, 104, 105, 106, 107, 108, 109, 110, 111, 112, 113, 114, 115, 116, 117, 118, 119, 120, 121, 122, 97, 98, 99, 100, 101, 102]⟩ : ByteArray)) ++ (⟨#[46]⟩ : ByteArray)).size + ((⟨#[97, 98, 99, 100, 101, 102, 103, 104, 105, 106, 107, 108, 109, 110, 111, 112, 113, 114, 115, 116, 117, 118, 119, 120, 121, 122, 97, 98, 99, 100, 101, 102]⟩ : ByteArray).extract 0 30).size ≤ 9223372036854775807
      case neg =>
       rw [if_neg c100] at H
       exact absurd H (by simp)
      rw [if_pos c100] at H
      have c100b0 := eq_true c100
      have c100b1 : decide (((((((⟨#[97, 98, 99, 100, 101, 102, 103, 104, 105, 106, 107, 108, 109, 110, 111, 112, 113, 114, 115, 116, 117, 118, 119, 120, 121, 122, 97, 98, 99, 100, 101, 102]⟩ : ByteArray) ++ (⟨#[46]⟩ : ByteArray)) ++ (⟨#[97, 98, 99, 100, 101, 102, 103, 104, 105, 106, 107, 108, 109, 110, 111, 112, 113, 114, 115, 116, 117, 118, 119, 120, 121, 122, 97, 98, 99, 100, 101, 102]⟩ : ByteArray)) ++ (⟨#[46]⟩ : ByteArray)) ++ (⟨#[97, 98, 99, 100, 101, 102, 103, 104, 105, 106, 107, 108, 109, 110, 111, 112, 113, 114, 115, 116, 117, 118, 119, 120, 121, 122, 97, 98, 99, 100, 101, 102]⟩ : ByteArray)) ++ (⟨#[46]⟩ : ByteArray)).size + ((⟨#[97, 98, 99, 100, 101, 102, 103, 104, 105, 106, 107, 108, 109, 110, 111, 112, 113, 114, 115, 116, 117, 118, 119, 120, 121, 122, 97, 98, 99, 100, 101, 102]⟩ : ByteArray).extract 0 30).size ≤ 9223372036854775807) = true := decide_eq_true c100
      try have c100b2 : (9223372036854775807 < ((((((⟨#[97, 98, 99, 100, 101, 102, 103, 104, 105, 106, 107, 108, 109, 110, 111, 112, 113, 114, 115, 116, 117, 118, 119, 120, 121, 122, 97, 98, 99, 100, 101, 102]⟩ : ByteArray) ++ (⟨#[46]⟩ : ByteArray)) ++ (⟨#[97, 98, 99, 100, 101, 102, 103, 104, 105, 106, 107, 108, 109, 110, 111, 112, 113, 114, 115, 116, 117, 118, 119, 120, 121, 122, 97, 98, 99, 100, 101, 102]⟩ : ByteArray)) ++ (⟨#[46]⟩ : ByteArray)) ++ (⟨#[97, 98, 99, 100, 101, 102, 103, 104, 105, 106, 107, 108, 109, 110, 111, 112, 113, 114, 115, 116, 117, 118, 119, 120, 121, 122, 97, 98, 99, 100, 101, 102]⟩ : ByteArray)) ++ (⟨#[46]⟩ : ByteArray)).size + ((⟨#[97, 98, 99, 100, 101, 102, 103, 104, 105, 106, 107, 108, 109, 110, 111, 112, 113, 114, 115, 116, 117, 118, 119, 120, 121, 122, 97, 98, 99, 100, 101, 102]⟩ : ByteArray).extract 0 30).size) = False := eq_false (Nat.not_lt.2 c100)
      try have c100b3 : (9223372036854775807 < (((((⟨#[97, 98, 99, 100, 101, 102, 103, 104, 105, 106, 107, 108, 109, 110, 111, 112, 113, 114, 115, 116, 117, 118, 119, 120, 121, 122, 97, 98, 99, 100, 101, 102]⟩ : ByteArray) ++ (⟨#[46]⟩ : ByteArray)) ++ (⟨#[97, 98, 99, 100, 101, 102, 103, 104, 105, 106, 107, 108, 109, 110, 111, 112, 113, 114, 115, 116, 117, 118, 119, 120, 121, 122, 97, 98, 99, 100, 101, 102]⟩ : ByteArray)) ++ (⟨#[46]⟩ : ByteArray)) ++ (⟨#[97, 98, 99, 100, 101, 102, 103, 104, 105, 106, 107, 108, 109, 110, 111, 112, 113, 114, 115, 116, 117, 118, 119, 120, 121, 122, 97, 98, 99, 100, 101, 102]⟩ : ByteArray)).size + (⟨#[46]⟩ : ByteArray).size + ((⟨#[97, 98, 99, 100, 101, 102, 103, 104, 105, 106, 107, 108, 109, 110, 111, 112, 113, 114, 115, 116, 117, 118, 119, 120, 121, 122, 97, 98, 99, 100, 101, 102]⟩ : ByteArray).extract 0 30).size) = False := by rw [← ByteArray.size_append]; exact c100b2
      try have c100b4 : (9223372036854775807 < (((((⟨#[97, 98, 99, 100, 101, 102, 103, 104, 105, 106, 107, 108, 109, 110, 111, 112, 113, 114, 115, 116, 117, 118, 119, 120, 121, 122, 97, 98, 99, 100, 101, 102]⟩ : ByteArray) ++ (⟨#[46]⟩ : ByteArray)) ++ (⟨#[97, 98, 99, 100, 101, 102, 103, 104, 105, 106, 107, 108, 109, 110, 111, 112, 113, 114, 115, 116, 117, 118, 119, 120, 121, 122, 97, 98, 99, 100, 101, 102]⟩ : ByteArray)) ++ (⟨#[46]⟩ : ByteArray)) ++ (⟨#[97, 98, 99, 100, 101, 102, 103, 104, 105, 106, 107, 108, 109, 110, 111, 112, 113, 114, 115, 116, 117, 118, 119, 120, 121, 122, 97, 98, 99, 100, 101, 102]⟩ : ByteArray)).size + 1 + ((⟨#[97, 98, 99, 100, 101, 102, 103, 104, 105, 106, 107, 108, 109, 110, 111, 112, 113, 114, 115, 116, 117, 118, 119, 120, 121, 122, 97, 98, 99, 100, 101, 102]⟩ : ByteArray).extract 0 30).size) = False := c100b3
      obtain ⟨y578, hy578⟩ : ∃ y_ : List ByteArray, y_ = (([(⟨#[]⟩ : ByteArray), (⟨#[97, 98, 99, 100, 101, 102, 103, 104, 105, 106, 107, 108, 109, 110, 111, 112, 113, 114, 115, 116, 117, 118, 119, 120, 121, 122, 97, 98, 99, 100, 101, 102]⟩ : ByteArray), (⟨#[97, 98, 99, 100, 101, 102, 103, 104, 105, 106, 107, 108, 109, 110, 111, 112, 113, 114, 115, 116, 117, 118, 119, 120, 121, 122, 97, 98, 99, 100, 101, 102]⟩ : ByteArray) ++ (⟨#[103]⟩ : ByteArray), ((((((⟨#[97, 98, 99, 100, 101, 102, 103, 104, 105, 106, 107, 108, 109, 110, 111, 112, 113, 114, 115, 116, 117, 118, 119, 120, 121, 122, 97, 98, 99, 100, 101, 102]⟩ : ByteArray) ++ (⟨#[46]⟩ : ByteArray)) ++ (⟨#[97, 98, 99, 100, 101, 102, 103, 104, 105, 106, 107, 108, 109, 110, 111, 112, 113, 114, 115, 116, 117, 118, 119, 120, 121, 122, 97, 98, 99, 100, 101, 102]⟩ : ByteArray)) ++ (⟨#[46]⟩ : ByteArray)) ++ (⟨#[97, 98, 99, 100, 101, 102, 103, 104, 105, 106, 107, 108, 109, 110, 111, 112, 113, 114, 115, 116, 117, 118, 119, 120, 121, 122, 97, 98, 99, 100, 101, 102]⟩ : ByteArray)) ++ (⟨#[46]⟩ : ByteArray)) ++ ((⟨#[97, 98, 99, 100, 101, 102, 103, 104, 105, 106, 107, 108, 109, 110, 111, 112, 113, 114, 115, 116, 117, 118, 119, 120, 121, 122, 97, 98, 99, 100, 101, 102]⟩ : ByteArray).extract 0 29), ((((((⟨#[97, 98, 99, 100, 101, 102, 103, 104, 105, 106, 107, 108, 109, 110, 111, 112, 113, 114, 115, 116, 117, 118, 119, 120, 121, 122, 97, 98, 99, 100, 101, 102]⟩ : ByteArray) ++ (⟨#[46]⟩ : ByteArray)) ++ (⟨#[97, 98, 99, 100, 101, 102, 103, 104, 105, 106, 107, 108, 109, 110, 111, 112, 113, 114, 115, 116, 117, 118, 119, 120, 121, 122, 97, 98, 99, 100, 101, 102]⟩ : ByteArray)) ++ (⟨#[46]⟩ : ByteArray)) ++ (⟨#[97, 98, 99, 100, 101, 102, 103, 104, 105, 106, 107, 108, 109, 110, 111, 112, 113, 114, 115, 116, 117, 118, 119, 120, 121, 122, 97, 98, 99, 100, 101, 102]⟩ : ByteArray)) ++ (⟨#[46]⟩ : ByteArray)) ++ ((⟨#[97, 98, 99, 100, 101, 102, 103, 104, 105, 106, 107, 108, 109, 110, 111, 112, 113, 114, 115, 116, 117, 118, 119, 120, 121, 122, 97, 98, 99, 100, 101, 102]⟩ : ByteArray).extract 0 30), (⟨#[46]⟩ : ByteArray), (⟨#[97, 46]⟩ : ByteArray), (⟨#[46, 97]⟩ : ByteArray), (⟨#[34]⟩ : ByteArray), (⟨#[39, 39]⟩ : ByteArray), (⟨#[34, 92, 85, 48, 48, 49, 49, 48, 48, 48, 48, 34]⟩ : ByteArray), (⟨#[34, 92, 117, 100, 56, 48, 48, 34]⟩ : ByteArray), (⟨#[34, 92, 51, 55, 55, 92, 120, 48, 34]⟩ : ByteArray)] : List ByteArray)) := ⟨_, rfl⟩
      replace H : (signetrylaw02_TextKnown.l4 k2 y578 0) = some r := by first | (rw [hy578]; with_reducible exact H) | (have H2_ := (Option.bind_some _ _).symm.trans H; rw [hy578]; with_reducible exact H2_) | (have H2_ := (Option.bind_some _ _).symm.trans H; with_reducible exact H2_) | with_reducible exact H | (rw [hy578]; exact H) | exact H
      have Ny578 := Aside0.mk hy578
      clear hy578
      have H' := Aside0.mk H
      clear H
      obtain ⟨Ao101, co101, eo101⟩ := Kd.R_slice HO_7.out
      subst eo101
      try go_wp2
      have n0_ := Aside0.mk (Kd.R_drew HO_7.out)
      have n1_ := Aside0.mk (below_drew1 HB.out)
      clear HO_7
      clear HB
      have HO_7 := n0_
      have HB := n1_
      clear n0_ n1_
      refine start_ (n := 13) (S := fun w' => True) (ds := []) #[false, false, false, false, false, false, false, false, false, false, false, false, false] (by kernel_rfl) rfl rfl trivial (fun hHeld => ?_); refine with_tabW signetrylaw02_TextKnown.tab25 signetrylaw02_TextKnown.bits25 (fun HT_ HW_ => ?_)
      generalize wr.drew = w102 at HO_7 HB hHeld ⊢
      refine pure_ (i := 0) (N := some 153) (v := ?_) (a' := ?_) #[true, false, false, false, false, false, false, false, false, false, false, false, false] rfl rfl (any_of HT_.out (by kernel_rfl)) (fun _ _ _ h => h) (Or.inl ⟨by rfl, ?_⟩) ?_ ?_
      rotate_left
      ·intro w'
       go_simp
       with_reducible rfl
      rotate_left
      ·simp only [Act.put, List.setIfInBounds_toArray, List.set_cons_zero, List.set_cons_succ, i64_w, i32_w]
       rfl
      refine pure_ (i := 1) (N := some 154) (v := ?_) (a' := ?_) #[true, true, false, false, false, false, false, false, false, false, false, false, false] rfl rfl (any_of HT_.out (by kernel_rfl)) (fun _ _ _ h => h) (Or.inl ⟨by rfl, ?_⟩) ?_ ?_
      rotate_left
      ·intro w'
       go_simp
       with_reducible rfl
      rotate_left
      ·simp only [Act.put, List.setIfInBounds_toArray, List.set_cons_zero, List.set_cons_succ, i64_w, i32_w]
       rfl
      refine pure_ (i := 2) (N := some 155) (v := ?_) (a' := ?_) #[true, true, true, false, false, false, false, false, false, false, false, false, false] rfl rfl (any_of HT_.out (by kernel_rfl)) (fun _ _ _ h => h) (Or.inl ⟨by rfl, ?_⟩) ?_ ?_
      rotate_left
      ·intro w'
       go_simp
       with_reducible rfl
      rotate_left
      ·simp only [Act.put, List.setIfInBounds_toArray, List.set_cons_zero, List.set_cons_succ, i64_w, i32_w]
       rfl
      refine pure_ (i := 3) (N := some 156) (v := ?_) (a' := ?_) #[true, true, true, true, false, false, false, false, false, false, false, false, false] rfl rfl (any_of HT_.out (by kernel_rfl)) (fun _ _ _ h => h) (Or.inl ⟨by rfl, ?_⟩) ?_ ?_
      rotate_left
      ·intro w'
       go_simp
       with_reducible rfl
      rotate_left
      ·simp only [Act.put, List.setIfInBounds_toArray, List.set_cons_zero, List.set_cons_succ, i64_w, i32_w]
       rfl
      refine pure_ (i := 4) (N := some 157) (v := ?_) (a' := ?_) #[true, true, true, true, true, false, false, false, false, false, false, false, false] rfl rfl (any_of HT_.out (by kernel_rfl)) (fun _ _ _ h => h) (Or.inl ⟨by rfl, ?_⟩) ?_ ?_
      rotate_left
      ·intro w'
       go_simp
       with_reducible rfl
      rotate_left
      ·simp only [Act.put, List.setIfInBounds_toArray, List.set_cons_zero, List.set_cons_succ, i64_w, i32_w]
       rfl
      refine pure_ (i := 5) (N := some 158) (v := ?_) (a' := ?_) #[true, true, true, true, true, true, false, false, false, false, false, false, false] rfl rfl (any_of HT_.out (by kernel_rfl)) (fun _ _ _ h => h) (Or.inl ⟨by rfl, ?_⟩) ?_ ?_
      rotate_left
      ·intro w'
       go_simp
       with_reducible rfl
      rotate_left
      ·simp only [Act.put, List.setIfInBounds_toArray, List.set_cons_zero, List.set_cons_succ, i64_w, i32_w]
       rfl
      refine pure_ (i := 6) (N := some 159) (v := ?_) (a' := ?_) #[true, true, true, true, true, true, true, false, false, false, false, false, false] rfl rfl (any_of HT_.out (by kernel_rfl)) (fun _ _ _ h => h) (Or.inl ⟨by rfl, ?_⟩) ?_ ?_
      rotate_left
      ·intro w'
       go_simp
       with_reducible rfl
      rotate_left
      ·simp only [Act.put, List.setIfInBounds_toArray, List.set_cons_zero, List.set_cons_succ, i64_w, i32_w]
       rfl
      refine pure_ (i := 7) (N := some 160) (v := ?_) (a' := ?_) #[true, true, true, true, true, true, true, true, false, false, false, false, false] rfl rfl (any_of HT_.out (by kernel_rfl)) (fun _ _ _ h => h) (Or.inl ⟨by rfl, ?_⟩) ?_ ?_
      rotate_left
      ·intro w'
       go_simp
       with_reducible rfl
      rotate_left
      ·simp only [Act.put, List.setIfInBounds_toArray, List.set_cons_zero, List.set_cons_succ, i64_w, i32_w]
       rfl
      refine pure_ (i := 8) (N := some 161) (v := ?_) (a' := ?_) #[true, true, true, true, true, true, true, true, true, false, false, false, false] rfl rfl (any_of HT_.out (by kernel_rfl)) (fun _ _ _ h => h) (Or.inl ⟨by rfl, ?_⟩) ?_ ?_
      rotate_left
      ·intro w'
       go_simp
       with_reducible rfl
      rotate_left
      ·simp only [Act.put, List.setIfInBounds_toArray, List.set_cons_zero, List.set_cons_succ, i64_w, i32_w]
       rfl
      refine pure_ (i := 9) (N := some 162) (v := ?_) (a' := ?_) #[true, true, true, true, true, true, true, true, true, true, false, false, false] rfl rfl (any_of HT_.out (by kernel_rfl)) (fun _ _ _ h => h) (Or.inl ⟨by rfl, ?_⟩) ?_ ?_
      rotate_left
      ·intro w'
       go_simp
       with_reducible rfl
      rotate_left
      ·simp only [Act.put, List.setIfInBounds_toArray, List.set_cons_zero, List.set_cons_succ, i64_w, i32_w]
       rfl
      refine pure_ (i := 10) (N := some 163) (v := ?_) (a' := ?_) #[true, true, true, true, true, true, true, true, true, true, true, false, false] rfl rfl (any_of HT_.out (by kernel_rfl)) (fun _ _ _ h => h) (Or.inl ⟨by rfl, ?_⟩) ?_ ?_
      rotate_left
      ·intro w'
       go_simp
       with_reducible rfl
      rotate_left
      ·simp only [Act.put, List.setIfInBounds_toArray, List.set_cons_zero, List.set_cons_succ, i64_w, i32_w]
       rfl
      refine one_ (i := 11) (N := some 164) #[true, true, true, true, true, true, true, true, true, true, true, true, false] rfl rfl (one_of HT_.out (by kernel_rfl)) (by decide) (fun K hK => ?_)
      refine Kd.R_lit_step Kd.string _ 9 ?hg (N := 164) ?hd (xs := ([(⟨#[]⟩ : ByteArray), (⟨#[97, 98, 99, 100, 101, 102, 103, 104, 105, 106, 107, 108, 109, 110, 111, 112, 113, 114, 115, 116, 117, 118, 119, 120, 121, 122, 97, 98, 99, 100, 101, 102]⟩ : ByteArray), (⟨#[97, 98, 99, 100, 101, 102, 103, 104, 105, 106, 107, 108, 109, 110, 111, 112, 113, 114, 115, 116, 117, 118, 119, 120, 121, 122, 97, 98, 99, 100, 101, 102]⟩ : ByteArray) ++ (⟨#[103]⟩ : ByteArray), ((((((⟨#[97, 98, 99, 100, 101, 102, 103, 104, 105, 106, 107, 108, 109, 110, 111, 112, 113, 114, 115, 116, 117, 118, 119, 120, 121, 122, 97, 98, 99, 100, 101, 102]⟩ : ByteArray) ++ (⟨#[46]⟩ : ByteArray)) ++ (⟨#[97, 98, 99, 100, 101, 102, 103, 104, 105, 106, 107, 108, 109, 110, 111, 112, 113, 114, 115, 116, 117, 118, 119, 120, 121, 122, 97, 98, 99, 100, 101, 102]⟩ : ByteArray)) ++ (⟨#[46]⟩ : ByteArray)) ++ (⟨#[97, 98, 99, 100, 101, 102, 103, 104, 105, 106, 107, 108, 109, 110, 111, 112, 113, 114, 115, 116, 117, 118, 119, 120, 121, 122, 97, 98, 99, 100, 101, 102]⟩ : ByteArray)) ++ (⟨#[46]⟩ : ByteArray)) ++ ((⟨#[97, 98, 99, 100, 101, 102, 103, 104, 105, 106, 107, 108, 109, 110, 111, 112, 113, 114, 115, 116, 117, 118, 119, 120, 121, 122, 97, 98, 99, 100, 101, 102]⟩ : ByteArray).extract 0 29), ((((((⟨#[97, 98, 99, 100, 101, 102, 103, 104, 105, 106, 107, 108, 109, 110, 111, 112, 113, 114, 115, 116, 117, 118, 119, 120, 121, 122, 97, 98, 99, 100, 101, 102]⟩ : ByteArray) ++ (⟨#[46]⟩ : ByteArray)) ++ (⟨#[97, 98, 99, 100, 101, 102, 103, 104, 105, 106, 107, 108, 109, 110, 111, 112, 113, 114, 115, 116, 117, 118, 119, 120, 121, 122, 97, 98, 99, 100, 101, 102]⟩ : ByteArray)) ++ (⟨#[46]⟩ : ByteArray)) ++ (⟨#[97, 98, 99, 100, 101, 102, 103, 104, 105, 106, 107, 108, 109, 110, 111, 112, 113, 114, 115, 116, 117, 118, 119, 120, 121, 122, 97, 98, 99, 100, 101, 102]⟩ : ByteArray)) ++ (⟨#[46]⟩ : ByteArray)) ++ ((⟨#[97, 98, 99, 100, 101, 102, 103, 104, 105, 106, 107, 108, 109, 110, 111, 112, 113, 114, 115, 116, 117, 118, 119, 120, 121, 122, 97, 98, 99, 100, 101, 102]⟩ : ByteArray).extract 0 30), (⟨#[46]⟩ : ByteArray), (⟨#[97, 46]⟩ : ByteArray), (⟨#[46, 97]⟩ : ByteArray), (⟨#[34]⟩ : ByteArray), (⟨#[39, 39]⟩ : ByteArray), (⟨#[34, 92, 85, 48, 48, 49, 49, 48, 48, 48, 48, 34]⟩ : ByteArray), (⟨#[34, 92, 117, 100, 56, 48, 48, 34]⟩ : ByteArray), (⟨#[34, 92, 51, 55, 55, 92, 120, 48, 34]⟩ : ByteArray)] : List ByteArray)) (inner := [.string (⟨#[]⟩ : ByteArray), .string (⟨#[97, 98, 99, 100, 101, 102, 103, 104, 105, 106, 107, 108, 109, 110, 111, 112, 113, 114, 115, 116, 117, 118, 119, 120, 121, 122, 97, 98, 99, 100, 101, 102]⟩ : ByteArray), .string ((⟨#[97, 98, 99, 100, 101, 102, 103, 104, 105, 106, 107, 108, 109, 110, 111, 112, 113, 114, 115, 116, 117, 118, 119, 120, 121, 122, 97, 98, 99, 100, 101, 102]⟩ : ByteArray) ++ (⟨#[103]⟩ : ByteArray)), .string (((((((⟨#[97, 98, 99, 100, 101, 102, 103, 104, 105, 106, 107, 108, 109, 110, 111, 112, 113, 114, 115, 116, 117, 118, 119, 120, 121, 122, 97, 98, 99, 100, 101, 102]⟩ : ByteArray) ++ (⟨#[46]⟩ : ByteArray)) ++ (⟨#[97, 98, 99, 100, 101, 102, 103, 104, 105, 106, 107, 108, 109, 110, 111, 112, 113, 114, 115, 116, 117, 118, 119, 120, 121, 122, 97, 98, 99, 100, 101, 102]⟩ : ByteArray)) ++ (⟨#[46]⟩ : ByteArray)) ++ (⟨#[97, 98, 99, 100, 101, 102, 103, 104, 105, 106, 107, 108, 109, 110, 111, 112, 113, 114, 115, 116, 117, 118, 119, 120, 121, 122, 97, 98, 99, 100, 101, 102]⟩ : ByteArray)) ++ (⟨#[46]⟩ : ByteArray)) ++ ((⟨#[97, 98, 99, 100, 101, 102, 103, 104, 105, 106, 107, 108, 109, 110, 111, 112, 113, 114, 115, 116, 117, 118, 119, 120, 121, 122, 97, 98, 99, 100, 101, 102]⟩ : ByteArray).extract 0 29)), .string (((((((⟨#[97, 98, 99, 100, 101, 102, 103, 104, 105, 106, 107, 108, 109, 110, 111, 112, 113, 114, 115, 116, 117, 118, 119, 120, 121, 122, 97, 98, 99, 100, 101, 102]⟩ : ByteArray) ++ (⟨#[46]⟩ : ByteArray)) ++ (⟨#[97, 98, 99, 100, 101, 102, 103, 104, 105, 106, 107, 108, 109, 110, 111, 112, 113, 114, 115, 116, 117, 118, 119, 120, 121, 122, 97, 98, 99, 100, 101, 102]⟩ : ByteArray)) ++ (⟨#[46]⟩ : ByteArray)) ++ (⟨#[97, 98, 99, 100, 101, 102, 103, 104, 105, 106, 107, 108, 109, 110, 111, 112, 113, 114, 115, 116, 117, 118, 119, 120, 121, 122, 97, 98, 99, 100, 101, 102]⟩ : ByteArray)) ++ (⟨#[46]⟩ : ByteArray)) ++ ((⟨#[97, 98, 99, 100, 101, 102, 103, 104, 105, 106, 107, 108, 109, 110, 111, 112, 113, 114, 115, 116, 117, 118, 119, 120, 121, 122, 97, 98, 99, 100, 101, 102]⟩ : ByteArray).extract 0 30)), .string (⟨#[46]⟩ : ByteArray), .string (⟨#[97, 46]⟩ : ByteArray), .string (⟨#[46, 97]⟩ : ByteArray), .string (⟨#[34]⟩ : ByteArray), .string (⟨#[39, 39]⟩ : ByteArray), .string (⟨#[34, 92, 85, 48, 48, 49, 49, 48, 48, 48, 48, 34]⟩ : ByteArray), .string (⟨#[34, 92, 117, 100, 56, 48, 48, 34]⟩ : ByteArray), .string (⟨#[34, 92, 51, 55, 55, 92, 120, 48, 34]⟩ : ByteArray)]) (ok := fun _ => True) (okp := fun _ => True) ?hr ?hp (fun _ hk => hk) trivial (Below.refl _ _) (Nat.le_refl _) (by simp) ?_; (case hd => rfl); (case hg => rfl); (case hr => first | (go_simp; done) | (go_simp; rfl)); (case hp => exact (Reps.one (show Kd.M Kd.string _ _ _ (⟨#[]⟩ : ByteArray) [.string (⟨#[]⟩ : ByteArray)] from rfl) (Reps.one (show Kd.M Kd.string _ _ _ (⟨#[97, 98, 99, 100, 101, 102, 103, 104, 105, 106, 107, 108, 109, 110, 111, 112, 113, 114, 115, 116, 117, 118, 119, 120, 121, 122, 97, 98, 99, 100, 101, 102]⟩ : ByteArray) [.string (⟨#[97, 98, 99, 100, 101, 102, 103, 104, 105, 106, 107, 108, 109, 110, 111, 112, 113, 114, 115, 116, 117, 118, 119, 120, 121, 122, 97, 98, 99, 100, 101, 102]⟩ : ByteArray)] from rfl) (Reps.one (show Kd.M Kd.string _ _ _ ((⟨#[97, 98, 99, 100, 101, 102, 103, 104, 105, 106, 107, 108, 109, 110, 111, 112, 113, 114, 115, 116, 117, 118, 119, 120, 121, 122, 97, 98, 99, 100, 101, 102]⟩ : ByteArray) ++ (⟨#[103]⟩ : ByteArray)) [.string ((⟨#[97, 98, 99, 100, 101, 102, 103, 104, 105, 106, 107, 108, 109, 110, 111, 112, 113, 114, 115, 116, 117, 118, 119, 120, 121, 122, 97, 98, 99, 100, 101, 102]⟩ : ByteArray) ++ (⟨#[103]⟩ : ByteArray))] from rfl) (Reps.one (show Kd.M Kd.string _ _ _ (((((((⟨#[97, 98, 99, 100, 101, 102, 103, 104, 105, 106, 107, 108, 109, 110, 111, 112, 113, 114, 115, 116, 117, 118, 119, 120, 121, 122, 97, 98, 99, 100, 101, 102]⟩ : ByteArray) ++ (⟨#[46]⟩ : ByteArray)) ++ (⟨#[97, 98, 99, 100, 101, 102, 103, 104, 105, 106, 107, 108, 109, 110, 111, 112, 113, 114, 115, 116, 117, 118, 119, 120, 121, 122, 97, 98, 99, 100, 101, 102]⟩ : ByteArray)) ++ (⟨#[46]⟩ : ByteArray)) ++ (⟨#[97, 98, 99, 100, 101, 102, 103, 104, 105, 106, 107, 108, 109, 110, 111, 112, 113, 114, 115, 116, 117, 118, 119, 120, 121, 122, 97, 98, 99, 100, 101, 102]⟩ : ByteArray)) ++ (⟨#[46]⟩ : ByteArray)) ++ ((⟨#[97, 98, 99, 100, 101, 102, 103, 104, 105, 106, 107, 108, 109, 110, 111, 112, 113, 114, 115, 116, 117, 118, 119, 120, 121, 122, 97, 98, 99, 100, 101, 102]⟩ : ByteArray).extract 0 29)) [.string (((((((⟨#[97, 98, 99, 100, 101, 102, 103, 104, 105, 106, 107, 108, 109, 110, 111, 112, 113, 114, 115, 116, 117, 118, 119, 120, 121, 122, 97, 98, 99, 100, 101, 102]⟩ : ByteArray) ++ (⟨#[46]⟩ : ByteArray)) ++ (⟨#[97, 98, 99, 100, 101, 102, 103, 104, 105, 106, 107, 108, 109, 110, 111, 112, 113, 114, 115, 116, 117, 118, 119, 120, 121, 122, 97, 98, 99, 100, 101, 102]⟩ : ByteArray)) ++ (⟨#[46]⟩ : ByteArray)) ++ (⟨#[97, 98, 99, 100, 101, 102, 103, 104, 105, 106, 107, 108, 109, 110, 111, 112, 113, 114, 115, 116, 117, 118, 119, 120, 121, 122, 97, 98, 99, 100, 101, 102]⟩ : ByteArray)) ++ (⟨#[46]⟩ : ByteArray)) ++ ((⟨#[97, 98, 99, 100, 101, 102, 103, 104, 105, 106, 107, 108, 109, 110, 111, 112, 113, 114, 115, 116, 117, 118, 119, 120, 121, 122, 97, 98, 99, 100, 101, 102]⟩ : ByteArray).extract 0 29))] from rfl) (Reps.one (show Kd.M Kd.string _ _ _ (((((((⟨#[97, 98, 99, 100, 101, 102, 103, 104, 105, 106, 107, 108, 109, 110, 111, 112, 113, 114, 115, 116, 117, 118, 119, 120, 121, 122, 97, 98, 99, 100, 101, 102]⟩ : ByteArray) ++ (⟨#[46]⟩ : ByteArray)) ++ (⟨#[97, 98, 99, 100, 101, 102, 103, 104, 105, 106, 107, 108, 109, 110, 111, 112, 113, 114, 115, 116, 117, 118, 119, 120, 121, 122, 97, 98, 99, 100, 101, 102]⟩ : ByteArray)) ++ (⟨#[46]⟩ : ByteArray)) ++ (⟨#[97, 98, 99, 100, 101, 102, 103, 104, 105, 106, 107, 108, 109, 110, 111, 112, 113, 114, 115, 116, 117, 118, 119, 120, 121, 122, 97, 98, 99, 100, 101, 102]⟩ : ByteArray)) ++ (⟨#[46]⟩ : ByteArray)) ++ ((⟨#[97, 98, 99, 100, 101, 102, 103, 104, 105, 106, 107, 108, 109, 110, 111, 112, 113, 114, 115, 116, 117, 118, 119, 120, 121, 122, 97, 98, 99, 100, 101, 102]⟩ : ByteArray).extract 0 30)) [.string (((((((⟨#[97, 98, 99, 100, 101, 102, 103, 104, 105, 106, 107, 108, 109, 110, 111, 112, 113, 114, 115, 116, 117, 118, 119, 120, 121, 122, 97, 98, 99, 100, 101, 102]⟩ : ByteArray) ++ (⟨#[46]⟩ : ByteArray)) ++ (⟨#[97, 98, 99, 100, 101, 102, 103, 104, 105, 106, 107, 108, 109, 110, 111, 112, 113, 114, 115, 116, 117, 118, 119, 120, 121, 122, 97, 98, 99, 100, 101, 102]⟩ : ByteArray)) ++ (⟨#[46]⟩ : ByteArray)) ++ (⟨#[97, 98, 99, 100, 101, 102, 103, 104, 105, 106, 107, 108, 109, 110, 111, 112, 113, 114, 115, 116, 117, 118, 119, 120, 121, 122, 97, 98, 99, 100, 101, 102]⟩ : ByteArray)) ++ (⟨#[46]⟩ : ByteArray)) ++ ((⟨#[97, 98, 99, 100, 101, 102, 103, 104, 105, 106, 107, 108, 109, 110, 111, 112, 113, 114, 115, 116, 117, 118, 119, 120, 121, 122, 97, 98, 99, 100, 101, 102]⟩ : ByteArray).extract 0 30))] from rfl) (Reps.one (show Kd.M Kd.string _ _ _ (⟨#[46]⟩ : ByteArray) [.string (⟨#[46]⟩ : ByteArray)] from rfl) (Reps.one (show Kd.M Kd.string _ _ _ (⟨#[97, 46]⟩ : ByteArray) [.string (⟨#[97, 46]⟩ : ByteArray)] from rfl) (Reps.one (show Kd.M Kd.string _ _ _ (⟨#[46, 97]⟩ : ByteArray) [.string (⟨#[46, 97]⟩ : ByteArray)] from rfl) (Reps.one (show Kd.M Kd.string _ _ _ (⟨#[34]⟩ : ByteArray) [.string (⟨#[34]⟩ : ByteArray)] from rfl) (Reps.one (show Kd.M Kd.string _ _ _ (⟨#[39, 39]⟩ : ByteArray) [.string (⟨#[39, 39]⟩ : ByteArray)] from rfl) (Reps.one (show Kd.M Kd.string _ _ _ (⟨#[34, 92, 85, 48, 48, 49, 49, 48, 48, 48, 48, 34]⟩ : ByteArray) [.string (⟨#[34, 92, 85, 48, 48, 49, 49, 48, 48, 48, 48, 34]⟩ : ByteArray)] from rfl) (Reps.one (show Kd.M Kd.string _ _ _ (⟨#[34, 92, 117, 100, 56, 48, 48, 34]⟩ : ByteArray) [.string (⟨#[34, 92, 117, 100, 56, 48, 48, 34]⟩ : ByteArray)] from rfl) (Reps.one (show Kd.M Kd.string _ _ _ (⟨#[34, 92, 51, 55, 55, 92, 120, 48, 34]⟩ : ByteArray) [.string (⟨#[34, 92, 51, 55, 55, 92, 120, 48, 34]⟩ : ByteArray)] from rfl) (Reps.none _ _)))))))))))))))
      intro v579 w103 ho104 hb hg_ hnew_
      clear hg_ hnew_
      (first | rw [← Ny578.out] at ho104 | (simp only [Int.reduceToNat] at ho104; rw [← Ny578.out] at ho104))
      have n0_ := Aside0.mk (Kd.R_below (by (with_reducible repeat (first | apply Kd.R_alloc | apply Kd.R_drewN | apply Kd.R_drew)); exact HO_7.out) hb)
      have n1_ := Aside0.mk (Kd.R_lower ho104 (below_size (by repeat (first | (with_reducible first | exact HB.out | apply below_alloc | apply pw_below_drewN | apply below_drew1) | exact HB.out))))
      have n2_ := Aside0.mk (below_step (by repeat (first | (with_reducible first | exact HB.out | apply below_alloc | apply pw_below_drewN | apply below_drew1) | exact HB.out)) hb)
      clear HO_7
      clear HB
      have HO_7 := n0_
      have HO580 := n1_
      have HB := n2_
      clear n0_ n1_ n2_
      clear hb ho104
      refine hK.out _ _ trivial (fun hHeld => ?_)
      clear hK K
      refine norm_ (a' := ?_) ?_ ?_
      rotate_left
      ·show Act.put _ (some 164) _ = _
       simp only [Act.put, List.setIfInBounds_toArray, List.set_cons_zero, List.set_cons_succ, i64_w, i32_w]
       rfl
      refine pure_ (i := 12) (N := some 11) (v := ?_) (a' := ?_) #[true, true, true, true, true, true, true, true, true, true, true, true, true] rfl rfl (any_of HT_.out (by kernel_rfl)) (fun _ _ _ h => h) (Or.inl ⟨by rfl, ?_⟩) ?_ ?_
      rotate_left
      ·intro w'
       go_simp
       with_reducible rfl
      rotate_left
      ·simp only [Act.put, List.setIfInBounds_toArray, List.set_cons_zero, List.set_cons_succ, i64_w, i32_w]
       rfl
      refine done_ (done_of HT_.out (by kernel_rfl)) ?_
      try go_wp2
      go_loopg [12] k2 (fun kq v12 w' => ∃ (x12_3 : Int), v12 = .int .i64 x12_3 ∧ Aside0 (signetrylaw02_TextKnown.l4 kq y578 x12_3 = some r) ∧ Aside0 (kq ≤ k2) ∧ Aside0 (Kd.R Kd.string 9 w' w.heap.size (fun _ => True) v579 y578) ∧ Aside0 (Below w.heap.size w w'))
      case atStart => exact ⟨(0), (by first | rfl | (simp; done) | (simp [*]; done)), H', ⟨Nat.le_refl _⟩, ⟨by (with_reducible repeat (first | apply Kd.R_alloc | apply Kd.R_drewN | apply Kd.R_drew)); exact HO580.out⟩, ⟨by repeat (first | (with_reducible first | exact HB.out | apply below_alloc | apply pw_below_drewN | apply below_drew1) | exact HB.out)⟩⟩
      case round =>
       clear H'
       try clear c1
       try clear c1b0
       try clear p2
       try clear c3
       try clear c4
       try clear hcv4
       try clear c5
       try clear p5
       try clear q5
       try clear hx5
       try clear c6
       try clear p6
       try clear c7
       try clear c8
       try clear c9
       try clear c10
       try clear c11
       try clear c31
       try clear c31b0
       try clear c32
       try clear c32b0
       try clear c34
       try clear c35
       try clear c35b0
       try clear c35b1
       try clear c35b2
       try clear c36
       try clear c36b0
       try clear c36b1
       try clear c36b2
       try clear c38
       try clear c42
       try clear c42b0
       try clear c42b1
       try clear c42b2
       try clear c43
       try clear c43b0
       try clear c43b1
       try clear c43b2
       try clear c44
       try clear c44b0
       try clear c44b1
       try clear c44b2
       try clear c45
       try clear c45b0
       try clear c45b1
       try clear c45b2
       try clear c46
       try clear c46b0
       try clear c46b1
       try clear c46b2
       try clear c47
       try clear c47b0
       try clear c47b1
       try clear c47b2
       try clear c48
       try clear c48b0
       try clear c48b1
       try clear c48b2
       try clear c49
       try clear c49b0
       try clear c49b1
       try clear c49b2
       try clear c50
       try clear c50b0
       try clear c50b1
       try clear c50b2
       try clear c51
       try clear c51b0
       try clear c51b1
       try clear c51b2
       try clear c52
       try clear c52b0
       try clear c52b1
       try clear c52b2
       try clear c53
       try clear c53b0
       try clear c53b1
       try clear c53b2
       try clear c55
       try clear p55
       try clear q55
       try clear hx55
       try clear p56
       try clear q56
       try clear hx56
       try clear c57
       try clear c57b0
       try clear p57
       try clear q57
       try clear hx57
       try clear c58
       try clear c58b0
       try clear c60
       try clear c61
       try clear c61b0
       try clear c61b1
       try clear c61b2
       try clear c63
       try clear p64
       try clear c65
       try clear c66
       try clear c66b0
       try clear c66b1
       try clear c66b2
       try clear c68
       try clear c69
       try clear c69b0
       try clear c69b1
       try clear c69b2
       try clear c71
       try clear c81
       try clear c81b0
       try clear c82
       try clear c82b0
       try clear c84
       try clear c90
       try clear c90b0
       try clear c90b1
       try clear c90b2
       try clear c91
       try clear c91b0
       try clear c91b1
       try clear c91b2
       try clear c92
       try clear c92b0
       try clear c92b1
       try clear c92b2
       try clear c93
       try clear c93b0
       try clear c93b1
       try clear c93b2
       try clear c94
       try clear c94b0
       try clear c94b1
       try clear c94b2
       try clear c95
       try clear c95b0
       try clear c95b1
       try clear c96
       try clear c96b0
       try clear c96b1
       try clear c97
       try clear c97b0
       try clear c97b1
       try clear c97b2
       try clear c98
       try clear c98b0
       try clear c98b1
       try clear c99
       try clear c99b0
       try clear c99b1
       try clear c100
       try clear c100b0
       try clear c100b1
       try clear c100b2
       try clear hx557_0
       try clear hx559_0
       try clear hx564_0
       try clear hx576_0
       try clear p2
       try clear p5
       try clear p55
       try clear p557
       try clear p559
       try clear p56
       try clear p564
       try clear p576
       try clear p6
       try clear p64
       try clear q5
       try clear q55
       try clear q557
       try clear q559
       try clear q56
       try clear q564
       try clear q576
       obtain ⟨x12_3, rfl, HA, HK3, HO_11, HB⟩ := hrel
       cases gk with
       | zero => exact absurd HA.out (by simp [signetrylaw02_TextKnown.l4])
       | succ k3 =>
        have H := HA.out
        clear HA
        simp only [signetrylaw02_TextKnown.l4] at H
        by_cases c105 : x12_3 < (y578.length : Int)
        case neg =>
         rw [if_neg c105] at H
         have c105b0 : decide (x12_3 < (y578.length : Int)) = false := decide_eq_false c105
         clear c105
         replace H := Option.bind_eq_some_iff.mp H
         obtain ⟨t581, A1140, H⟩ := H
         replace H : (some t581) = some r := H
         have A114 := Aside0.mk A1140
         clear A1140
         obtain rfl := Option.some.inj H
         obtain ⟨Ao115, co115, eo115⟩ := Kd.R_slice HO_11.out
         subst eo115
         go_wp2_with (first | (go_at_call 21; (with_reducible refine (signetrylaw02_works.calls k3  t581 _ A114.out (HTB_.below (by repeat (first | (with_reducible first | exact HB.out | apply below_alloc | apply pw_below_drewN | apply below_drew1) | exact HB.out)))).mono ?_); rintro e w116 ⟨rfl, hb⟩; have n0_ := Aside0.mk (Kd.R_below (by (with_reducible repeat (first | apply Kd.R_alloc | apply Kd.R_drewN | apply Kd.R_drew)); exact HO_11.out) hb); have n1_ := Aside0.mk (below_step (by repeat (first | (with_reducible first | exact HB.out | apply below_alloc | apply pw_below_drewN | apply below_drew1) | exact HB.out)) hb); clear HO_11; clear HB; have HO_11 := n0_; have HB := n1_; clear n0_ n1_; (try clear hb); (try clear hb2); (try clear hk); (try clear hi)))
         go_ret
         exact ⟨by first | rfl | (simp [errW_none, errW_some] <;> rfl) | (simp [*, errW_none, errW_some] <;> rfl), by repeat (first | (with_reducible first | exact HB.out | apply below_alloc | apply pw_below_drewN | apply below_drew1) | exact HB.out)⟩
        rw [if_pos c105] at H
        have c105b0 : decide (x12_3 < (y578.length : Int)) = true := decide_eq_true c105
        clear c105
        by_cases c106 : 0 ≤ x12_3
        case neg =>
         rw [if_neg c106] at H
         exact absurd H (by simp)
        rw [if_pos c106] at H
        have c106b0 : decide (0 ≤ x12_3) = true := decide_eq_true c106
        clear c106
        replace H := Option.bind_eq_some_iff.mp H
        obtain ⟨t583, A1070, H⟩ := H
        replace H : (if t583 = true then ((signetrylaw02_TextQuotes.f k3 ([] : List Int) (rdOf ByteArray.empty y578 x12_3)).bind fun t585 => (if t585 = true then (signetrylaw02_TextKnown.l4 k3 y578 (wrap64 (x12_3 + 1))) else (none))) else (none)) = some r := H
        have A107 := Aside0.mk A1070
        clear A1070
        by_cases c108 : t583 = true
        case neg =>
         replace c108 := Bool.eq_false_iff.mpr c108
         subst c108
         have H1 : (none) = some r := by rw [if_neg (show ¬ (false = true) by decide)] at H; exact H
         clear H
         have H := H1
         clear H1
         exact absurd H (by simp)
        subst c108
        have H1 : ((signetrylaw02_TextQuotes.f k3 ([] : List Int) (rdOf ByteArray.empty y578 x12_3)).bind fun t585 => (if t585 = true then (signetrylaw02_TextKnown.l4 k3 y578 (wrap64 (x12_3 + 1))) else (none))) = some r := by rw [if_pos rfl] at H; exact H
        clear H
        have H := H1
        clear H1
        replace H := Option.bind_eq_some_iff.mp H
        obtain ⟨t585, A1090, H⟩ := H
        replace H : (if t585 = true then (signetrylaw02_TextKnown.l4 k3 y578 (wrap64 (x12_3 + 1))) else (none)) = some r := H
        have A109 := Aside0.mk A1090
        clear A1090
        by_cases c110 : t585 = true
        case neg =>
         replace c110 := Bool.eq_false_iff.mpr c110
         subst c110
         have H1 : (none) = some r := by rw [if_neg (show ¬ (false = true) by decide)] at H; exact H
         clear H
         have H := H1
         clear H1
         exact absurd H (by simp)
        subst c110
        have H1 : (signetrylaw02_TextKnown.l4 k3 y578 (wrap64 (x12_3 + 1))) = some r := by rw [if_pos rfl] at H; exact H
        clear H
        have H := H1
        clear H1
        have H' := Aside0.mk H
        clear H
        obtain ⟨Ao111, co111, eo111⟩ := Kd.R_slice HO_11.out
        subst eo111
        have p582 : 0 ≤ (x12_3 : Int) := of_decide_eq_true (by first | (with_reducible assumption) | assumption)
        have q582 : x12_3 < (y578.length : Int) := of_decide_eq_true (by first | (with_reducible assumption) | assumption)
        obtain ⟨ad582, e582, hx582_0⟩ := Kd.at_string (Kd.R_reads' HO_11.out).2.2 x12_3 p582 q582
        cases e582
        replace p582 := eq_true p582
        replace q582 := eq_true q582
        go_wp2_with (first | ((with_reducible refine gate_callee (f := 4) rfl ?_); refine goesL_ (some 175) rfl rfl Tryd.func4 (by kernel_rfl) rfl #[.string (rdOf ByteArray.empty y578 x12_3)] rfl (by (try simp only [List.map_toArray, List.map_cons, List.map_nil]); first | done | rfl | (simp only [List.length_drop, List.length_take]; rfl)) ?_; (with_reducible refine (signetrylaw02_TextNames.calls k3 (rdOf ByteArray.empty y578 x12_3) true _ A107.out (HTB_.below (by repeat (first | (with_reducible first | exact HB.out | apply below_alloc | apply pw_below_drewN | apply below_drew1) | exact HB.out)))).mono ?_); rintro e w112 ⟨rfl, hb⟩; refine ⟨_, rfl, ?_⟩; have n0_ := Aside0.mk (Kd.R_below (by (with_reducible repeat (first | apply Kd.R_alloc | apply Kd.R_drewN | apply Kd.R_drew)); exact HO_11.out) hb); have n1_ := Aside0.mk (below_step (by repeat (first | (with_reducible first | exact HB.out | apply below_alloc | apply pw_below_drewN | apply below_drew1) | exact HB.out)) hb); clear HO_11; clear HB; have HO_11 := n0_; have HB := n1_; clear n0_ n1_; (try clear hb); (try clear hb2); (try clear hk); (try clear hi); have p584 : 0 ≤ (x12_3 : Int) := of_decide_eq_true (by first | (with_reducible assumption) | assumption); have q584 : x12_3 < (y578.length : Int) := of_decide_eq_true (by first | (with_reducible assumption) | assumption); obtain ⟨ad584, e584, hx584_0⟩ := Kd.at_string (Kd.R_reads' HO_11.out).2.2 x12_3 p584 q584; obtain rfl : ad582 = ad584 := (by injection e584); replace p584 := eq_true p584; replace q584 := eq_true q584) | (go_at_call 5; (refine (signetrylaw02_TextQuotes.calls k3 _ _ ([] : List Int) (rdOf ByteArray.empty y578 x12_3) true _ ?side1 ?side2 A109.out (HTB_.below (by repeat (first | (with_reducible first | exact HB.out | apply below_alloc | apply pw_below_drewN | apply below_drew1) | exact HB.out)))).mono ?_); (case side1 => exact Kd.C_nil _ _); (case side2 => exact Nat.le_refl _); rintro e w113 ⟨rfl, hb⟩; have n0_ := Aside0.mk (Kd.R_below (by (with_reducible repeat (first | apply Kd.R_alloc | apply Kd.R_drewN | apply Kd.R_drew)); exact HO_11.out) hb); have n1_ := Aside0.mk (below_step (by repeat (first | (with_reducible first | exact HB.out | apply below_alloc | apply pw_below_drewN | apply below_drew1) | exact HB.out)) hb); clear HO_11; clear HB; have HO_11 := n0_; have HB := n1_; clear n0_ n1_; (try clear hb); (try clear hb2); (try clear hk); (try clear hi)))
        go_roundg k3
        case measure => have := HK1.out; have := HK2.out; have := HK3.out; omega
        case rel => exact ⟨(wrap64 (x12_3 + 1)), (by first | rfl | (simp; done) | (simp [*]; done)), H', ⟨by have := HK1.out; have := HK2.out; have := HK3.out; omega⟩, ⟨by (with_reducible repeat (first | apply Kd.R_alloc | apply Kd.R_drewN | apply Kd.R_drew)); exact HO_11.out⟩, ⟨by repeat (first | (with_reducible first | exact HB.out | apply below_alloc | apply pw_below_drewN | apply below_drew1) | exact HB.out)⟩⟩
   rw [if_pos c1] at H
   have c1b0 : decide (x1_1 < 256) = true := decide_eq_true c1
   clear c1
   obtain ⟨y527, hy527⟩ : ∃ y_ : List Int, y_ = (([(x1_1) % 256] : List Int)) := ⟨_, rfl⟩
   replace H : (signetrylaw02_TextKnown.l1 k1 x1_1 (strOfNums y527) (([(([(x1_1) % 256] : List Int)), (([195, (x1_1) % 256] : List Int)), (([226, (x1_1) % 256, 128] : List Int)), (([237, (x1_1) % 256, 128] : List Int)), (([240, (x1_1) % 256, 128, 128] : List Int)), (([244, (x1_1) % 256, 128, 128] : List Int)), (([(x1_1) % 256, 128] : List Int)), (([226, 130, (x1_1) % 256] : List Int))] : List (List Int))) 0) = some r := by first | (rw [hy527]; with_reducible exact H) | (have H2_ := (Option.bind_some _ _).symm.trans H; rw [hy527]; with_reducible exact H2_) | (have H2_ := (Option.bind_some _ _).symm.trans H; with_reducible exact H2_) | with_reducible exact H | (rw [hy527]; exact H) | exact H
   have Ny527 := Aside0.mk hy527
   clear hy527
   obtain ⟨y530, hy530⟩ : ∃ y_ : List Int, y_ = (([(x1_1) % 256] : List Int)) := ⟨_, rfl⟩
   replace H : (signetrylaw02_TextKnown.l1 k1 x1_1 (strOfNums y527) (([y530, (([195, (x1_1) % 256] : List Int)), (([226, (x1_1) % 256, 128] : List Int)), (([237, (x1_1) % 256, 128] : List Int)), (([240, (x1_1) % 256, 128, 128] : List Int)), (([244, (x1_1) % 256, 128, 128] : List Int)), (([(x1_1) % 256, 128] : List Int)), (([226, 130, (x1_1) % 256] : List Int))] : List (List Int))) 0) = some r := by first | (rw [hy530]; with_reducible exact H) | (have H2_ := (Option.bind_some _ _).symm.trans H; rw [hy530]; with_reducible exact H2_) | (have H2_ := (Option.bind_some _ _).symm.trans H; with_reducible exact H2_) | with_reducible exact H | (rw [hy530]; exact H) | exact H
   have Ny530 := Aside0.mk hy530
   clear hy530
   obtain ⟨y533, hy533⟩ : ∃ y_ : List Int, y_ = (([195, (x1_1) % 256] : List Int)) := ⟨_, rfl⟩
   replace H : (signetrylaw02_TextKnown.l1 k1 x1_1 (strOfNums y527) (([y530, y533, (([226, (x1_1) % 256, 128] : List Int)), (([237, (x1_1) % 256, 128] : List Int)), (([240, (x1_1) % 256, 128, 128] : List Int)), (([244, (x1_1) % 256, 128, 128] : List Int)), (([(x1_1) % 256, 128] : List Int)), (([226, 130, (x1_1) % 256] : List Int))] : List (List Int))) 0) = some r := by first | (rw [hy533]; with_reducible exact H) | (have H2_ := (Option.bind_some _ _).symm.trans H; rw [hy533]; with_reducible exact H2_) | (have H2_ := (Option.bind_some _ _).symm.trans H; with_reducible exact H2_) | with_reducible exact H | (rw [hy533]; exact H) | exact H
   have Ny533 := Aside0.mk hy533
   clear hy533
   obtain ⟨y536, hy536⟩ : ∃ y_ : List Int, y_ = (([226, (x1_1) % 256, 128] : List Int)) := ⟨_, rfl⟩
   replace H : (signetrylaw02_TextKnown.l1 k1 x1_1 (strOfNums y527) (([y530, y533, y536, (([237, (x1_1) % 256, 128] : List Int)), (([240, (x1_1) % 256, 128, 128] : List Int)), (([244, (x1_1) % 256, 128, 128] : List Int)), (([(x1_1) % 256, 128] : List Int)), (([226, 130, (x1_1) % 256] : List Int))] : List (List Int))) 0) = some r := by first | (rw [hy536]; with_reducible exact H) | (have H2_ := (Option.bind_some _ _).symm.trans H; rw [hy536]; with_reducible exact H2_) | (have H2_ := (Option.bind_some _ _).symm.trans H; with_reducible exact H2_) | with_reducible exact H | (rw [hy536]; exact H) | exact H
   have Ny536 := Aside0.mk hy536
   clear hy536
   obtain ⟨y539, hy539⟩ : ∃ y_ : List Int, y_ = (([237, (x1_1) % 256, 128] : List Int)) := ⟨_, rfl⟩
   replace H : (signetrylaw02_TextKnown.l1 k1 x1_1 (strOfNums y527) (([y530, y533, y536, y539, (([240, (x1_1) % 256, 128, 128] : List Int)), (([244, (x1_1) % 256, 128, 128] : List Int)), (([(x1_1) % 256, 128] : List Int)), (([226, 130, (x1_1) % 256] : List Int))] : List (List Int))) 0) = some r := by first | (rw [hy539]; with_reducible exact H) | (have H2_ := (Option.bind_some _ _).symm.trans H; rw [hy539]; with_reducible exact H2_) | (have H2_ := (Option.bind_some _ _).symm.trans H; with_reducible exact H2_) | with_reducible exact H | (rw [hy539]; exact H) | exact H
   have Ny539 := Aside0.mk hy539
   clear hy539
   obtain ⟨y542, hy542⟩ : ∃ y_ : List Int, y_ = (([240, (x1_1) % 256, 128, 128] : List Int)) := ⟨_, rfl⟩
   replace H : (signetrylaw02_TextKnown.l1 k1 x1_1 (strOfNums y527) (([y530, y533, y536, y539, y542, (([244, (x1_1) % 256, 128, 128] : List Int)), (([(x1_1) % 256, 128] : List Int)), (([226, 130, (x1_1) % 256] : List Int))] : List (List Int))) 0) = some r := by first | (rw [hy542]; with_reducible exact H) | (have H2_ := (Option.bind_some _ _).symm.trans H; rw [hy542]; with_reducible exact H2_) | (have H2_ := (Option.bind_some _ _).symm.trans H; with_reducible exact H2_) | with_reducible exact H | (rw [hy542]; exact H) | exact H
   have Ny542 := Aside0.mk hy542
   clear hy542
   obtain ⟨y545, hy545⟩ : ∃ y_ : List Int, y_ = (([244, (x1_1) % 256, 128, 128] : List Int)) := ⟨_, rfl⟩
   replace H : (signetrylaw02_TextKnown.l1 k1 x1_1 (strOfNums y527) (([y530, y533, y536, y539, y542, y545, (([(x1_1) % 256, 128] : List Int)), (([226, 130, (x1_1) % 256] : List Int))] : List (List Int))) 0) = some r := by first | (rw [hy545]; with_reducible exact H) | (have H2_ := (Option.bind_some _ _).symm.trans H; rw [hy545]; with_reducible exact H2_) | (have H2_ := (Option.bind_some _ _).symm.trans H; with_reducible exact H2_) | with_reducible exact H | (rw [hy545]; exact H) | exact H
   have Ny545 := Aside0.mk hy545
   clear hy545
   obtain ⟨y548, hy548⟩ : ∃ y_ : List Int, y_ = (([(x1_1) % 256, 128] : List Int)) := ⟨_, rfl⟩
   replace H : (signetrylaw02_TextKnown.l1 k1 x1_1 (strOfNums y527) (([y530, y533, y536, y539, y542, y545, y548, (([226, 130, (x1_1) % 256] : List Int))] : List (List Int))) 0) = some r := by first | (rw [hy548]; with_reducible exact H) | (have H2_ := (Option.bind_some _ _).symm.trans H; rw [hy548]; with_reducible exact H2_) | (have H2_ := (Option.bind_some _ _).symm.trans H; with_reducible exact H2_) | with_reducible exact H | (rw [hy548]; exact H) | exact H
   have Ny548 := Aside0.mk hy548
   clear hy548
   obtain ⟨y551, hy551⟩ : ∃ y_ : List Int, y_ = (([226, 130, (x1_1) % 256] : List Int)) := ⟨_, rfl⟩
   replace H : (signetrylaw02_TextKnown.l1 k1 x1_1 (strOfNums y527) (([y530, y533, y536, y539, y542, y545, y548, y551] : List (List Int))) 0) = some r := by first | (rw [hy551]; with_reducible exact H) | (have H2_ := (Option.bind_some _ _).symm.trans H; rw [hy551]; with_reducible exact H2_) | (have H2_ := (Option.bind_some _ _).symm.trans H; with_reducible exact H2_) | with_reducible exact H | (rw [hy551]; exact H) | exact H
   have Ny551 := Aside0.mk hy551
   clear hy551
   obtain ⟨y554, hy554⟩ : ∃ y_ : List (List Int), y_ = (([y530, y533, y536, y539, y542, y545, y548, y551] : List (List Int))) := ⟨_, rfl⟩
   replace H : (signetrylaw02_TextKnown.l1 k1 x1_1 (strOfNums y527) y554 0) = some r := by first | (rw [hy554]; with_reducible exact H) | (have H2_ := (Option.bind_some _ _).symm.trans H; rw [hy554]; with_reducible exact H2_) | (have H2_ := (Option.bind_some _ _).symm.trans H; with_reducible exact H2_) | with_reducible exact H | (rw [hy554]; exact H) | exact H
   have Ny554 := Aside0.mk hy554
   clear hy554
   have H' := Aside0.mk H
   clear H
   go_wp2_with (first | ((with_reducible refine gate_dst (N := 19) rfl ?_); refine Kd.R_lit (Kd.int .u8) _ 5 ?hg (N := 19) ?hd (xs := ([(x1_1) % 256] : List Int)) (inner := [.int .u8 ((x1_1) % 256)]) (ok := fun _ => True) (okp := fun _ => True) ?hr ?hp (fun _ hk => hk) trivial (Below.refl _ _) (Nat.le_refl _) (by simp) ?_; (case hd => rfl); (case hg => rfl); (case hr => first | (go_simp; done) | (go_simp; rfl)); (case hp => exact (Reps.one (show Kd.M (Kd.int .u8) _ _ _ ((x1_1) % 256) [.int .u8 ((x1_1) % 256)] from rfl) (Reps.none _ _))); intro v528 w2 ho3 hb hg_ hnew_; clear hg_ hnew_; (first | rw [← Ny527.out] at ho3 | (simp only [Int.reduceToNat] at ho3; rw [← Ny527.out] at ho3)); have n0_ := Aside0.mk (Kd.R_lower ho3 (below_size (by repeat (first | (with_reducible first | exact HB.out | apply below_alloc | apply pw_below_drewN | apply below_drew1) | exact HB.out)))); have n1_ := Aside0.mk (below_step (by repeat (first | (with_reducible first | exact HB.out | apply below_alloc | apply pw_below_drewN | apply below_drew1) | exact HB.out)) hb); clear HB; have HO529 := n0_; have HB := n1_; clear n0_ n1_; clear hb ho3; have hcv4 := own_string (P := Tryd.prog) Tryd.underlying22 Tryd.underlying5 Tryd.underlying9 (Kd.own_of_R HO529.out)) | ((with_reducible refine gate_dst (N := 23) rfl ?_); refine Kd.R_lit (Kd.int .u8) _ 5 ?hg (N := 23) ?hd (xs := ([(x1_1) % 256] : List Int)) (inner := [.int .u8 ((x1_1) % 256)]) (ok := fun _ => True) (okp := fun _ => True) ?hr ?hp (fun _ hk => hk) trivial (Below.refl _ _) (Nat.le_refl _) (by simp) ?_; (case hd => rfl); (case hg => rfl); (case hr => first | (go_simp; done) | (go_simp; rfl)); (case hp => exact (Reps.one (show Kd.M (Kd.int .u8) _ _ _ ((x1_1) % 256) [.int .u8 ((x1_1) % 256)] from rfl) (Reps.none _ _))); intro v531 w5 ho6 hb hg_ hnew_; clear hg_ hnew_; (first | rw [← Ny530.out] at ho6 | (simp only [Int.reduceToNat] at ho6; rw [← Ny530.out] at ho6)); have n0_ := Aside0.mk (Kd.R_elder' (by (with_reducible repeat (first | apply Kd.R_alloc | apply Kd.R_drewN | apply Kd.R_drew)); exact HO529.out) (Kd.R_base ho6) hb); have n1_ := Aside0.mk (Kd.R_lower (Kd.R_new' ho6 (Kd.R_lt (by (with_reducible repeat (first | apply Kd.R_alloc | apply Kd.R_drewN | apply Kd.R_drew)); exact HO529.out))) (below_size (by repeat (first | (with_reducible first | exact HB.out | apply below_alloc | apply pw_below_drewN | apply below_drew1) | exact HB.out)))); have n2_ := Aside0.mk (below_step (by repeat (first | (with_reducible first | exact HB.out | apply below_alloc | apply pw_below_drewN | apply below_drew1) | exact HB.out)) hb); clear HO529; clear HB; have HO529 := n0_; have HO532 := n1_; have HB := n2_; clear n0_ n1_ n2_; clear hb ho6) | ((with_reducible refine gate_dst (N := 26) rfl ?_); refine Kd.R_lit (Kd.int .u8) _ 5 ?hg (N := 26) ?hd (xs := ([195, (x1_1) % 256] : List Int)) (inner := [.int .u8 195, .int .u8 ((x1_1) % 256)]) (ok := fun _ => True) (okp := fun _ => True) ?hr ?hp (fun _ hk => hk) trivial (Below.refl _ _) (Nat.le_refl _) (by simp) ?_; (case hd => rfl); (case hg => rfl); (case hr => first | (go_simp; done) | (go_simp; rfl)); (case hp => exact (Reps.one (show Kd.M (Kd.int .u8) _ _ _ 195 [.int .u8 195] from rfl) (Reps.one (show Kd.M (Kd.int .u8) _ _ _ ((x1_1) % 256) [.int .u8 ((x1_1) % 256)] from rfl) (Reps.none _ _)))); intro v534 w7 ho8 hb hg_ hnew_; clear hg_ hnew_; (first | rw [← Ny533.out] at ho8 | (simp only [Int.reduceToNat] at ho8; rw [← Ny533.out] at ho8)); have n0_ := Aside0.mk (Kd.R_elder' (by (with_reducible repeat (first | apply Kd.R_alloc | apply Kd.R_drewN | apply Kd.R_drew)); exact HO529.out) (Kd.R_base ho8) hb); have n1_ := Aside0.mk (Kd.R_elder' (by (with_reducible repeat (first | apply Kd.R_alloc | apply Kd.R_drewN | apply Kd.R_drew)); exact HO532.out) (Kd.R_base ho8) hb); have n2_ := Aside0.mk (Kd.R_lower (Kd.R_new' (Kd.R_new' ho8 (Kd.R_lt (by (with_reducible repeat (first | apply Kd.R_alloc | apply Kd.R_drewN | apply Kd.R_drew)); exact HO529.out))) (Kd.R_lt (by (with_reducible repeat (first | apply Kd.R_alloc | apply Kd.R_drewN | apply Kd.R_drew)); exact HO532.out))) (below_size (by repeat (first | (with_reducible first | exact HB.out | apply below_alloc | apply pw_below_drewN | apply below_drew1) | exact HB.out)))); have n3_ := Aside0.mk (below_step (by repeat (first | (with_reducible first | exact HB.out | apply below_alloc | apply pw_below_drewN | apply below_drew1) | exact HB.out)) hb); clear HO529; clear HO532; clear HB; have HO529 := n0_; have HO532 := n1_; have HO535 := n2_; have HB := n3_; clear n0_ n1_ n2_ n3_; clear hb ho8) | ((with_reducible refine gate_dst (N := 29) rfl ?_); refine Kd.R_lit (Kd.int .u8) _ 5 ?hg (N := 29) ?hd (xs := ([226, (x1_1) % 256, 128] : List Int)) (inner := [.int .u8 226, .int .u8 ((x1_1) % 256), .int .u8 128]) (ok := fun _ => True) (okp := fun _ => True) ?hr ?hp (fun _ hk => hk) trivial (Below.refl _ _) (Nat.le_refl _) (by simp) ?_; (case hd => rfl); (case hg => rfl); (case hr => first | (go_simp; done) | (go_simp; rfl)); (case hp => exact (Reps.one (show Kd.M (Kd.int .u8) _ _ _ 226 [.int .u8 226] from rfl) (Reps.one (show Kd.M (Kd.int .u8) _ _ _ ((x1_1) % 256) [.int .u8 ((x1_1) % 256)] from rfl) (Reps.one (show Kd.M (Kd.int .u8) _ _ _ 128 [.int .u8 128] from rfl) (Reps.none _ _))))); intro v537 w9 ho10 hb hg_ hnew_; clear hg_ hnew_; (first | rw [← Ny536.out] at ho10 | (simp only [Int.reduceToNat] at ho10; rw [← Ny536.out] at ho10)); have n0_ := Aside0.mk (Kd.R_elder' (by (with_reducible repeat (first | apply Kd.R_alloc | apply Kd.R_drewN | apply Kd.R_drew)); exact HO529.out) (Kd.R_base ho10) hb); have n1_ := Aside0.mk (Kd.R_elder' (by (with_reducible repeat (first | apply Kd.R_alloc | apply Kd.R_drewN | apply Kd.R_drew)); exact HO532.out) (Kd.R_base ho10) hb); have n2_ := Aside0.mk (Kd.R_elder' (by (with_reducible repeat (first | apply Kd.R_alloc | apply Kd.R_drewN | apply Kd.R_drew)); exact HO535.out) (Kd.R_base ho10) hb); have n3_ := Aside0.mk (Kd.R_lower (Kd.R_new' (Kd.R_new' (Kd.R_new' ho10 (Kd.R_lt (by (with_reducible repeat (first | apply Kd.R_alloc | apply Kd.R_drewN | apply Kd.R_drew)); exact HO529.out))) (Kd.R_lt (by (with_reducible repeat (first | apply Kd.R_alloc | apply Kd.R_drewN | apply Kd.R_drew)); exact HO532.out))) (Kd.R_lt (by (with_reducible repeat (first | apply Kd.R_alloc | apply Kd.R_drewN | apply Kd.R_drew)); exact HO535.out))) (below_size (by repeat (first | (with_reducible first | exact HB.out | apply below_alloc | apply pw_below_drewN | apply below_drew1) | exact HB.out)))); have n4_ := Aside0.mk (below_step (by repeat (first | (with_reducible first | exact HB.out | apply below_alloc | apply pw_below_drewN | apply below_drew1) | exact HB.out)) hb); clear HO529; clear HO532; clear HO535; clear HB; have HO529 := n0_; have HO532 := n1_; have HO535 := n2_; have HO538 := n3_; have HB := n4_; clear n0_ n1_ n2_ n3_ n4_; clear hb ho10) | ((with_reducible refine gate_dst (N := 32) rfl ?_); refine Kd.R_lit (Kd.int .u8) _ 5 ?hg (N := 32) ?hd (xs := ([237, (x1_1) % 256, 128] : List Int)) (inner := [.int .u8 237, .int .u8 ((x1_1) % 256), .int .u8 128]) (ok := fun _ => True) (okp := fun _ => True) ?hr ?hp (fun _ hk => hk) trivial (Below.refl _ _) (Nat.le_refl _) (by simp) ?_; (case hd => rfl); (case hg => rfl); (case hr => first | (go_simp; done) | (go_simp; rfl)); (case hp => exact (Reps.one (show Kd.M (Kd.int .u8) _ _ _ 237 [.int .u8 237] from rfl) (Reps.one (show Kd.M (Kd.int .u8) _ _ _ ((x1_1) % 256) [.int .u8 ((x1_1) % 256)] from rfl) (Reps.one (show Kd.M (Kd.int .u8) _ _ _ 128 [.int .u8 128] from rfl) (Reps.none _ _))))); intro v540 w11 ho12 hb hg_ hnew_; clear hg_ hnew_; (first | rw [← Ny539.out] at ho12 | (simp only [Int.reduceToNat] at ho12; rw [← Ny539.out] at ho12)); have n0_ := Aside0.mk (Kd.R_elder' (by (with_reducible repeat (first | apply Kd.R_alloc | apply Kd.R_drewN | apply Kd.R_drew)); exact HO529.out) (Kd.R_base ho12) hb); have n1_ := Aside0.mk (Kd.R_elder' (by (with_reducible repeat (first | apply Kd.R_alloc | apply Kd.R_drewN | apply Kd.R_drew)); exact HO532.out) (Kd.R_base ho12) hb); have n2_ := Aside0.mk (Kd.R_elder' (by (with_reducible repeat (first | apply Kd.R_alloc | apply Kd.R_drewN | apply Kd.R_drew)); exact HO535.out) (Kd.R_base ho12) hb); have n3_ := Aside0.mk (Kd.R_elder' (by (with_reducible repeat (first | apply Kd.R_alloc | apply Kd.R_drewN | apply Kd.R_drew)); exact HO538.out) (Kd.R_base ho12) hb); have n4_ := Aside0.mk (Kd.R_lower (Kd.R_new' (Kd.R_new' (Kd.R_new' (Kd.R_new' ho12 (Kd.R_lt (by (with_reducible repeat (first | apply Kd.R_alloc | apply Kd.R_drewN | apply Kd.R_drew)); exact HO529.out))) (Kd.R_lt (by (with_reducible repeat (first | apply Kd.R_alloc | apply Kd.R_drewN | apply Kd.R_drew)); exact HO532.out))) (Kd.R_lt (by (with_reducible repeat (first | apply Kd.R_alloc | apply Kd.R_drewN | apply Kd.R_drew)); exact HO535.out))) (Kd.R_lt (by (with_reducible repeat (first | apply Kd.R_alloc | apply Kd.R_drewN | apply Kd.R_drew)); exact HO538.out))) (below_size (by repeat (first | (with_reducible first | exact HB.out | apply below_alloc | apply pw_below_drewN | apply below_drew1) | exact HB.out)))); have n5_ := Aside0.mk (below_step (by repeat (first | (with_reducible first | exact HB.out | apply below_alloc | apply pw_below_drewN | apply below_drew1) | exact HB.out)) hb); clear HO529; clear HO532; clear HO535; clear HO538; clear HB; have HO529 := n0_; have HO532 := n1_; have HO535 := n2_; have HO538 := n3_; have HO541 := n4_; have HB := n5_; clear n0_ n1_ n2_ n3_ n4_ n5_; clear hb ho12) | ((with_reducible refine gate_dst (N := 35) rfl ?_); refine Kd.R_lit (Kd.int .u8) _ 5 ?hg (N := 35) ?hd (xs := ([240, (x1_1) % 256, 128, 128] : List Int)) (inner := [.int .u8 240, .int .u8 ((x1_1) % 256), .int .u8 128, .int .u8 128]) (ok := fun _ => True) (okp := fun _ => True) ?hr ?hp (fun _ hk => hk) trivial (Below.refl _ _) (Nat.le_refl _) (by simp) ?_; (case hd => rfl); (case hg => rfl); (case hr => first | (go_simp; done) | (go_simp; rfl)); (case hp => exact (Reps.one (show Kd.M (Kd.int .u8) _ _ _ 240 [.int .u8 240] from rfl) (Reps.one (show Kd.M (Kd.int .u8) _ _ _ ((x1_1) % 256) [.int .u8 ((x1_1) % 256)] from rfl) (Reps.one (show Kd.M (Kd.int .u8) _ _ _ 128 [.int .u8 128] from rfl) (Reps.one (show Kd.M (Kd.int .u8) _ _ _ 128 [.int .u8 128] from rfl) (Reps.none _ _)))))); intro v543 w13 ho14 hb hg_ hnew_; clear hg_ hnew_; (first | rw [← Ny542.out] at ho14 | (simp only [Int.reduceToNat] at ho14; rw [← Ny542.out] at ho14)); have n0_ := Aside0.mk (Kd.R_elder' (by (with_reducible repeat (first | apply Kd.R_alloc | apply Kd.R_drewN | apply Kd.R_drew)); exact HO529.out) (Kd.R_base ho14) hb); have n1_ := Aside0.mk (Kd.R_elder' (by (with_reducible repeat (first | apply Kd.R_alloc | apply Kd.R_drewN | apply Kd.R_drew)); exact HO532.out) (Kd.R_base ho14) hb); have n2_ := Aside0.mk (Kd.R_elder' (by (with_reducible repeat (first | apply Kd.R_alloc | apply Kd.R_drewN | apply Kd.R_drew)); exact HO535.out) (Kd.R_base ho14) hb); have n3_ := Aside0.mk (Kd.R_elder' (by (with_reducible repeat (first | apply Kd.R_alloc | apply Kd.R_drewN | apply Kd.R_drew)); exact HO538.out) (Kd.R_base ho14) hb); have n4_ := Aside0.mk (Kd.R_elder' (by (with_reducible repeat (first | apply Kd.R_alloc | apply Kd.R_drewN | apply Kd.R_drew)); exact HO541.out) (Kd.R_base ho14) hb); have n5_ := Aside0.mk (Kd.R_lower (Kd.R_new' (Kd.R_new' (Kd.R_new' (Kd.R_new' (Kd.R_new' ho14 (Kd.R_lt (by (with_reducible repeat (first | apply Kd.R_alloc | apply Kd.R_drewN | apply Kd.R_drew)); exact HO529.out))) (Kd.R_lt (by (with_reducible repeat (first | apply Kd.R_alloc | apply Kd.R_drewN | apply Kd.R_drew)); exact HO532.out))) (Kd.R_lt (by (with_reducible repeat (first | apply Kd.R_alloc | apply Kd.R_drewN | apply Kd.R_drew)); exact HO535.out))) (Kd.R_lt (by (with_reducible repeat (first | apply Kd.R_alloc | apply Kd.R_drewN | apply Kd.R_drew)); exact HO538.out))) (Kd.R_lt (by (with_reducible repeat (first | apply Kd.R_alloc | apply Kd.R_drewN | apply Kd.R_drew)); exact HO541.out))) (below_size (by repeat (first | (with_reducible first | exact HB.out | apply below_alloc | apply pw_below_drewN | apply below_drew1) | exact HB.out)))); have n6_ := Aside0.mk (below_step (by repeat (first | (with_reducible first | exact HB.out | apply below_alloc | apply pw_below_drewN | apply below_drew1) | exact HB.out)) hb); clear HO529; clear HO532; clear HO535; clear HO538; clear HO541; clear HB; have HO529 := n0_; have HO532 := n1_; have HO535 := n2_; have HO538 := n3_; have HO541 := n4_; have HO544 := n5_; have HB := n6_; clear n0_ n1_ n2_ n3_ n4_ n5_ n6_; clear hb ho14) | ((with_reducible refine gate_dst (N := 38) rfl ?_); refine Kd.R_lit (Kd.int .u8) _ 5 ?hg (N := 38) ?hd (xs := ([244, (x1_1) % 256, 128, 128] : List Int)) (inner := [.int .u8 244, .int .u8 ((x1_1) % 256), .int .u8 128, .int .u8 128]) (ok := fun _ => True) (okp := fun _ => True) ?hr ?hp (fun _ hk => hk) trivial (Below.refl _ _) (Nat.le_refl _) (by simp) ?_; (case hd => rfl); (case hg => rfl); (case hr => first | (go_simp; done) | (go_simp; rfl)); (case hp => exact (Reps.one (show Kd.M (Kd.int .u8) _ _ _ 244 [.int .u8 244] from rfl) (Reps.one (show Kd.M (Kd.int .u8) _ _ _ ((x1_1) % 256) [.int .u8 ((x1_1) % 256)] from rfl) (Reps.one (show Kd.M (Kd.int .u8) _ _ _ 128 [.int .u8 128] from rfl) (Reps.one (show Kd.M (Kd.int .u8) _ _ _ 128 [.int .u8 128] from rfl) (Reps.none _ _)))))); intro v546 w15 ho16 hb hg_ hnew_; clear hg_ hnew_; (first | rw [← Ny545.out] at ho16 | (simp only [Int.reduceToNat] at ho16; rw [← Ny545.out] at ho16)); have n0_ := Aside0.mk (Kd.R_elder' (by (with_reducible repeat (first | apply Kd.R_alloc | apply Kd.R_drewN | apply Kd.R_drew)); exact HO529.out) (Kd.R_base ho16) hb); have n1_ := Aside0.mk (Kd.R_elder' (by (with_reducible repeat (first | apply Kd.R_alloc | apply Kd.R_drewN | apply Kd.R_drew)); exact HO532.out) (Kd.R_base ho16) hb); have n2_ := Aside0.mk (Kd.R_elder' (by (with_reducible repeat (first | apply Kd.R_alloc | apply Kd.R_drewN | apply Kd.R_drew)); exact HO535.out) (Kd.R_base ho16) hb); have n3_ := Aside0.mk (Kd.R_elder' (by (with_reducible repeat (first | apply Kd.R_alloc | apply Kd.R_drewN | apply Kd.R_drew)); exact HO538.out) (Kd.R_base ho16) hb); have n4_ := Aside0.mk (Kd.R_elder' (by (with_reducible repeat (first | apply Kd.R_alloc | apply Kd.R_drewN | apply Kd.R_drew)); exact HO541.out) (Kd.R_base ho16) hb); have n5_ := Aside0.mk (Kd.R_elder' (by (with_reducible repeat (first | apply Kd.R_alloc | apply Kd.R_drewN | apply Kd.R_drew)); exact HO544.out) (Kd.R_base ho16) hb); have n6_ := Aside0.mk (Kd.R_lower (Kd.R_new' (Kd.R_new' (Kd.R_new' (Kd.R_new' (Kd.R_new' (Kd.R_new' ho16 (Kd.R_lt (by (with_reducible repeat (first | apply Kd.R_alloc | apply Kd.R_drewN | apply Kd.R_drew)); exact HO529.out))) (Kd.R_lt (by (with_reducible repeat (first | apply Kd.R_alloc | apply Kd.R_drewN | apply Kd.R_drew)); exact HO532.out))) (Kd.R_lt (by (with_reducible repeat (first | apply Kd.R_alloc | apply Kd.R_drewN | apply Kd.R_drew)); exact HO535.out))) (Kd.R_lt (by (with_reducible repeat (first | apply Kd.R_alloc | apply Kd.R_drewN | apply Kd.R_drew)); exact HO538.out))) (Kd.R_lt (by (with_reducible repeat (first | apply Kd.R_alloc | apply Kd.R_drewN | apply Kd.R_drew)); exact HO541.out))) (Kd.R_lt (by (with_reducible repeat (first | apply Kd.R_alloc | apply Kd.R_drewN | apply Kd.R_drew)); exact HO544.out))) (below_size (by repeat (first | (with_reducible first | exact HB.out | apply below_alloc | apply pw_below_drewN | apply below_drew1) | exact HB.out)))); have n7_ := Aside0.mk (below_step (by repeat (first | (with_reducible first | exact HB.out | apply below_alloc | apply pw_below_drewN | apply below_drew1) | exact HB.out)) hb); clear HO529; clear HO532; clear HO535; clear HO538; clear HO541; clear HO544; clear HB; have HO529 := n0_; have HO532 := n1_; have HO535 := n2_; have HO538 := n3_; have HO541 := n4_; have HO544 := n5_; have HO547 := n6_; have HB := n7_; clear n0_ n1_ n2_ n3_ n4_ n5_ n6_ n7_; clear hb ho16) | ((with_reducible refine gate_dst (N := 41) rfl ?_); refine Kd.R_lit (Kd.int .u8) _ 5 ?hg (N := 41) ?hd (xs := ([(x1_1) % 256, 128] : List Int)) (inner := [.int .u8 ((x1_1) % 256), .int .u8 128]) (ok := fun _ => True) (okp := fun _ => True) ?hr ?hp (fun _ hk => hk) trivial (Below.refl _ _) (Nat.le_refl _) (by simp) ?_; (case hd => rfl); (case hg => rfl); (case hr => first | (go_simp; done) | (go_simp; rfl)); (case hp => exact (Reps.one (show Kd.M (Kd.int .u8) _ _ _ ((x1_1) % 256) [.int .u8 ((x1_1) % 256)] from rfl) (Reps.one (show Kd.M (Kd.int .u8) _ _ _ 128 [.int .u8 128] from rfl) (Reps.none _ _)))); intro v549 w17 ho18 hb hg_ hnew_; clear hg_ hnew_; (first | rw [← Ny548.out] at ho18 | (simp only [Int.reduceToNat] at ho18; rw [← Ny548.out] at ho18)); have n0_ := Aside0.mk (Kd.R_elder' (by (with_reducible repeat (first | apply Kd.R_alloc | apply Kd.R_drewN | apply Kd.R_drew)); exact HO529.out) (Kd.R_base ho18) hb); have n1_ := Aside0.mk (Kd.R_elder' (by (with_reducible repeat (first | apply Kd.R_alloc | apply Kd.R_drewN | apply Kd.R_drew)); exact HO532.out) (Kd.R_base ho18) hb); have n2_ := Aside0.mk (Kd.R_elder' (by (with_reducible repeat (first | apply Kd.R_alloc | apply Kd.R_drewN | apply Kd.R_drew)); exact HO535.out) (Kd.R_base ho18) hb); have n3_ := Aside0.mk (Kd.R_elder' (by (with_reducible repeat (first | apply Kd.R_alloc | apply Kd.R_drewN | apply Kd.R_drew)); exact HO538.out) (Kd.R_base ho18) hb); have n4_ := Aside0.mk (Kd.R_elder' (by (with_reducible repeat (first | apply Kd.R_alloc | apply Kd.R_drewN | apply Kd.R_drew)); exact HO541.out) (Kd.R_base ho18) hb); have n5_ := Aside0.mk (Kd.R_elder' (by (with_reducible repeat (first | apply Kd.R_alloc | apply Kd.R_drewN | apply Kd.R_drew)); exact HO544.out) (Kd.R_base ho18) hb); have n6_ := Aside0.mk (Kd.R_elder' (by (with_reducible repeat (first | apply Kd.R_alloc | apply Kd.R_drewN | apply Kd.R_drew)); exact HO547.out) (Kd.R_base ho18) hb); have n7_ := Aside0.mk (Kd.R_lower (Kd.R_new' (Kd.R_new' (Kd.R_new' (Kd.R_new' (Kd.R_new' (Kd.R_new' (Kd.R_new' ho18 (Kd.R_lt (by (with_reducible repeat (first | apply Kd.R_alloc | apply Kd.R_drewN | apply Kd.R_drew)); exact HO529.out))) (Kd.R_lt (by (with_reducible repeat (first | apply Kd.R_alloc | apply Kd.R_drewN | apply Kd.R_drew)); exact HO532.out))) (Kd.R_lt (by (with_reducible repeat (first | apply Kd.R_alloc | apply Kd.R_drewN | apply Kd.R_drew)); exact HO535.out))) (Kd.R_lt (by (with_reducible repeat (first | apply Kd.R_alloc | apply Kd.R_drewN | apply Kd.R_drew)); exact HO538.out))) (Kd.R_lt (by (with_reducible repeat (first | apply Kd.R_alloc | apply Kd.R_drewN | apply Kd.R_drew)); exact HO541.out))) (Kd.R_lt (by (with_reducible repeat (first | apply Kd.R_alloc | apply Kd.R_drewN | apply Kd.R_drew)); exact HO544.out))) (Kd.R_lt (by (with_reducible repeat (first | apply Kd.R_alloc | apply Kd.R_drewN | apply Kd.R_drew)); exact HO547.out))) (below_size (by repeat (first | (with_reducible first | exact HB.out | apply below_alloc | apply pw_below_drewN | apply below_drew1) | exact HB.out)))); have n8_ := Aside0.mk (below_step (by repeat (first | (with_reducible first | exact HB.out | apply below_alloc | apply pw_below_drewN | apply below_drew1) | exact HB.out)) hb); clear HO529; clear HO532; clear HO535; clear HO538; clear HO541; clear HO544; clear HO547; clear HB; have HO529 := n0_; have HO532 := n1_; have HO535 := n2_; have HO538 := n3_; have HO541 := n4_; have HO544 := n5_; have HO547 := n6_; have HO550 := n7_; have HB := n8_; clear n0_ n1_ n2_ n3_ n4_ n5_ n6_ n7_ n8_; clear hb ho18) | ((with_reducible refine gate_dst (N := 44) rfl ?_); refine Kd.R_lit (Kd.int .u8) _ 5 ?hg (N := 44) ?hd (xs := ([226, 130, (x1_1) % 256] : List Int)) (inner := [.int .u8 226, .int .u8 130, .int .u8 ((x1_1) % 256)]) (ok := fun _ => True) (okp := fun _ => True) ?hr ?hp (fun _ hk => hk) trivial (Below.refl _ _) (Nat.le_refl _) (by simp) ?_; (case hd => rfl); (case hg => rfl); (case hr => first | (go_simp; done) | (go_simp; rfl)); (case hp => exact (Reps.one (show Kd.M (Kd.int .u8) _ _ _ 226 [.int .u8 226] from rfl) (Reps.one (show Kd.M (Kd.int .u8) _ _ _ 130 [.int .u8 130] from rfl) (Reps.one (show Kd.M (Kd.int .u8) _ _ _ ((x1_1) % 256) [.int .u8 ((x1_1) % 256)] from rfl) (Reps.none _ _))))); intro v552 w19 ho20 hb hg_ hnew_; clear hg_ hnew_; (first | rw [← Ny551.out] at ho20 | (simp only [Int.reduceToNat] at ho20; rw [← Ny551.out] at ho20)); have n0_ := Aside0.mk (Kd.R_elder' (by (with_reducible repeat (first | apply Kd.R_alloc | apply Kd.R_drewN | apply Kd.R_drew)); exact HO529.out) (Kd.R_base ho20) hb); have n1_ := Aside0.mk (Kd.R_elder' (by (with_reducible repeat (first | apply Kd.R_alloc | apply Kd.R_drewN | apply Kd.R_drew)); exact HO532.out) (Kd.R_base ho20) hb); have n2_ := Aside0.mk (Kd.R_elder' (by (with_reducible repeat (first | apply Kd.R_alloc | apply Kd.R_drewN | apply Kd.R_drew)); exact HO535.out) (Kd.R_base ho20) hb); have n3_ := Aside0.mk (Kd.R_elder' (by (with_reducible repeat (first | apply Kd.R_alloc | apply Kd.R_drewN | apply Kd.R_drew)); exact HO538.out) (Kd.R_base ho20) hb); have n4_ := Aside0.mk (Kd.R_elder' (by (with_reducible repeat (first | apply Kd.R_alloc | apply Kd.R_drewN | apply Kd.R_drew)); exact HO541.out) (Kd.R_base ho20) hb); have n5_ := Aside0.mk (Kd.R_elder' (by (with_reducible repeat (first | apply Kd.R_alloc | apply Kd.R_drewN | apply Kd.R_drew)); exact HO544.out) (Kd.R_base ho20) hb); have n6_ := Aside0.mk (Kd.R_elder' (by (with_reducible repeat (first | apply Kd.R_alloc | apply Kd.R_drewN | apply Kd.R_drew)); exact HO547.out) (Kd.R_base ho20) hb); have n7_ := Aside0.mk (Kd.R_elder' (by (with_reducible repeat (first | apply Kd.R_alloc | apply Kd.R_drewN | apply Kd.R_drew)); exact HO550.out) (Kd.R_base ho20) hb); have n8_ := Aside0.mk (Kd.R_lower (Kd.R_new' (Kd.R_new' (Kd.R_new' (Kd.R_new' (Kd.R_new' (Kd.R_new' (Kd.R_new' (Kd.R_new' ho20 (Kd.R_lt (by (with_reducible repeat (first | apply Kd.R_alloc | apply Kd.R_drewN | apply Kd.R_drew)); exact HO529.out))) (Kd.R_lt (by (with_reducible repeat (first | apply Kd.R_alloc | apply Kd.R_drewN | apply Kd.R_drew)); exact HO532.out))) (Kd.R_lt (by (with_reducible repeat (first | apply Kd.R_alloc | apply Kd.R_drewN | apply Kd.R_drew)); exact HO535.out))) (Kd.R_lt (by (with_reducible repeat (first | apply Kd.R_alloc | apply Kd.R_drewN | apply Kd.R_drew)); exact HO538.out))) (Kd.R_lt (by (with_reducible repeat (first | apply Kd.R_alloc | apply Kd.R_drewN | apply Kd.R_drew)); exact HO541.out))) (Kd.R_lt (by (with_reducible repeat (first | apply Kd.R_alloc | apply Kd.R_drewN | apply Kd.R_drew)); exact HO544.out))) (Kd.R_lt (by (with_reducible repeat (first | apply Kd.R_alloc | apply Kd.R_drewN | apply Kd.R_drew)); exact HO547.out))) (Kd.R_lt (by (with_reducible repeat (first | apply Kd.R_alloc | apply Kd.R_drewN | apply Kd.R_drew)); exact HO550.out))) (below_size (by repeat (first | (with_reducible first | exact HB.out | apply below_alloc | apply pw_below_drewN | apply below_drew1) | exact HB.out)))); have n9_ := Aside0.mk (below_step (by repeat (first | (with_reducible first | exact HB.out | apply below_alloc | apply pw_below_drewN | apply below_drew1) | exact HB.out)) hb); clear HO529; clear HO532; clear HO535; clear HO538; clear HO541; clear HO544; clear HO547; clear HO550; clear HB; have HO529 := n0_; have HO532 := n1_; have HO535 := n2_; have HO538 := n3_; have HO541 := n4_; have HO544 := n5_; have HO547 := n6_; have HO550 := n7_; have HO553 := n8_; have HB := n9_; clear n0_ n1_ n2_ n3_ n4_ n5_ n6_ n7_ n8_ n9_; clear hb ho20; obtain ⟨Ao21, co21, eo21⟩ := Kd.R_slice HO532.out; subst eo21; obtain ⟨Ao22, co22, eo22⟩ := Kd.R_slice HO535.out; subst eo22; obtain ⟨Ao23, co23, eo23⟩ := Kd.R_slice HO538.out; subst eo23; obtain ⟨Ao24, co24, eo24⟩ := Kd.R_slice HO541.out; subst eo24; obtain ⟨Ao25, co25, eo25⟩ := Kd.R_slice HO544.out; subst eo25; obtain ⟨Ao26, co26, eo26⟩ := Kd.R_slice HO547.out; subst eo26; obtain ⟨Ao27, co27, eo27⟩ := Kd.R_slice HO550.out; subst eo27; obtain ⟨Ao28, co28, eo28⟩ := Kd.R_slice HO553.out; subst eo28) | ((with_reducible refine gate_dst (N := 45) rfl ?_); refine Kd.N_lit (Kd.slice 5 (Kd.int .u8)) _ 22 ?hg (N' := 45) ?hd (xs := ([y530, y533, y536, y539, y542, y545, y548, y551] : List (List Int))) (inner := [.slice Ao21 y530.length co21, .slice Ao22 y533.length co22, .slice Ao23 y536.length co23, .slice Ao24 y539.length co24, .slice Ao25 y542.length co25, .slice Ao26 y545.length co26, .slice Ao27 y548.length co27, .slice Ao28 y551.length co28]) (ok := (fun k_ => some k_ ≠ (v528 : Value).ownBlock)) (okp := (fun k_ => some k_ ≠ (v528 : Value).ownBlock)) ?hr ?hp (fun _ hk => hk) ((show ∀ k_, w19.heap.size ≤ k_ → (fun k_ => some k_ ≠ (v528 : Value).ownBlock) k_ from fun k_ hk => Kd.fresh' (Kd.R_lt (by (with_reducible repeat (first | apply Kd.R_alloc | apply Kd.R_drewN | apply Kd.R_drew)); exact HO529.out)) k_ hk) _ (Nat.le_refl _)) (Below.refl _ _) (Nat.le_refl _) (by simp) ?_; (case hd => rfl); (case hg => rfl); (case hr => first | (go_simp; done) | (go_simp; rfl)); (case hp => exact (Reps.one (show Kd.FK (Kd.slice 5 (Kd.int .u8)) _ _ y530 [.slice Ao21 y530.length co21] from (Kd.FK_slice_mk (Kd.R_reads' (Kd.R_mono (ok' := (fun k_ => some k_ ≠ (v528 : Value).ownBlock)) (HO532.out) (fun k_ hk => hk.1.1.1.1.1.1.1.2))).2.1 (Kd.R_F (Kd.R_mono (ok' := (fun k_ => some k_ ≠ (v528 : Value).ownBlock)) (HO532.out) (fun k_ hk => hk.1.1.1.1.1.1.1.2))))) (Reps.one (show Kd.FK (Kd.slice 5 (Kd.int .u8)) _ _ y533 [.slice Ao22 y533.length co22] from (Kd.FK_slice_mk (Kd.R_reads' (Kd.R_mono (ok' := (fun k_ => some k_ ≠ (v528 : Value).ownBlock)) (HO535.out) (fun k_ hk => hk.1.1.1.1.1.1.1.2))).2.1 (Kd.R_F (Kd.R_mono (ok' := (fun k_ => some k_ ≠ (v528 : Value).ownBlock)) (HO535.out) (fun k_ hk => hk.1.1.1.1.1.1.1.2))))) (Reps.one (show Kd.FK (Kd.slice 5 (Kd.int .u8)) _ _ y536 [.slice Ao23 y536.length co23] from (Kd.FK_slice_mk (Kd.R_reads' (Kd.R_mono (ok' := (fun k_ => some k_ ≠ (v528 : Value).ownBlock)) (HO538.out) (fun k_ hk => hk.1.1.1.1.1.1.1.2))).2.1 (Kd.R_F (Kd.R_mono (ok' := (fun k_ => some k_ ≠ (v528 : Value).ownBlock)) (HO538.out) (fun k_ hk => hk.1.1.1.1.1.1.1.2))))) (Reps.one (show Kd.FK (Kd.slice 5 (Kd.int .u8)) _ _ y539 [.slice Ao24 y539.length co24] from (Kd.FK_slice_mk (Kd.R_reads' (Kd.R_mono (ok' := (fun k_ => some k_ ≠ (v528 : Value).ownBlock)) (HO541.out) (fun k_ hk => hk.1.1.1.1.1.1.1.2))).2.1 (Kd.R_F (Kd.R_mono (ok' := (fun k_ => some k_ ≠ (v528 : Value).ownBlock)) (HO541.out) (fun k_ hk => hk.1.1.1.1.1.1.1.2))))) (Reps.one (show Kd.FK (Kd.slice 5 (Kd.int .u8)) _ _ y542 [.slice Ao25 y542.length co25] from (Kd.FK_slice_mk (Kd.R_reads' (Kd.R_mono (ok' := (fun k_ => some k_ ≠ (v528 : Value).ownBlock)) (HO544.out) (fun k_ hk => hk.1.1.1.1.1.1.1.2))).2.1 (Kd.R_F (Kd.R_mono (ok' := (fun k_ => some k_ ≠ (v528 : Value).ownBlock)) (HO544.out) (fun k_ hk => hk.1.1.1.1.1.1.1.2))))) (Reps.one (show Kd.FK (Kd.slice 5 (Kd.int .u8)) _ _ y545 [.slice Ao26 y545.length co26] from (Kd.FK_slice_mk (Kd.R_reads' (Kd.R_mono (ok' := (fun k_ => some k_ ≠ (v528 : Value).ownBlock)) (HO547.out) (fun k_ hk => hk.1.1.1.1.1.1.1.2))).2.1 (Kd.R_F (Kd.R_mono (ok' := (fun k_ => some k_ ≠ (v528 : Value).ownBlock)) (HO547.out) (fun k_ hk => hk.1.1.1.1.1.1.1.2))))) (Reps.one (show Kd.FK (Kd.slice 5 (Kd.int .u8)) _ _ y548 [.slice Ao27 y548.length co27] from (Kd.FK_slice_mk (Kd.R_reads' (Kd.R_mono (ok' := (fun k_ => some k_ ≠ (v528 : Value).ownBlock)) (HO550.out) (fun k_ hk => hk.1.1.1.1.1.1.1.2))).2.1 (Kd.R_F (Kd.R_mono (ok' := (fun k_ => some k_ ≠ (v528 : Value).ownBlock)) (HO550.out) (fun k_ hk => hk.1.1.1.1.1.1.1.2))))) (Reps.one (show Kd.FK (Kd.slice 5 (Kd.int .u8)) _ _ y551 [.slice Ao28 y551.length co28] from (Kd.FK_slice_mk (Kd.R_reads' (Kd.R_mono (ok' := (fun k_ => some k_ ≠ (v528 : Value).ownBlock)) (HO553.out) (fun k_ hk => hk.1.1.1.1.1.1.1.2))).2.1 (Kd.R_F (Kd.R_mono (ok' := (fun k_ => some k_ ≠ (v528 : Value).ownBlock)) (HO553.out) (fun k_ hk => hk.1.1.1.1.1.1.1.2))))) (Reps.none _ _)))))))))); intro v555 w29 ho30 hb hg_ hnew_; clear hg_ hnew_; (first | rw [← Ny554.out] at ho30 | (simp only [Int.reduceToNat] at ho30; rw [← Ny554.out] at ho30)); have n0_ := Aside0.mk (Kd.R_below (by (with_reducible repeat (first | apply Kd.R_alloc | apply Kd.R_drewN | apply Kd.R_drew)); exact HO529.out) hb); have n1_ := Aside0.mk (Kd.N_lower ho30 (below_size (by repeat (first | (with_reducible first | exact HB.out | apply below_alloc | apply pw_below_drewN | apply below_drew1) | exact HB.out)))); have n2_ := Aside0.mk (below_step (by repeat (first | (with_reducible first | exact HB.out | apply below_alloc | apply pw_below_drewN | apply below_drew1) | exact HB.out)) hb); clear HO529; clear HB; clear HO532; clear HO535; clear HO538; clear HO541; clear HO544; clear HO547; clear HO550; clear HO553; have HO529 := n0_; have HO556 := n1_; have HB := n2_; clear n0_ n1_ n2_; clear hb ho30))
   go_loopg [4] k1 (fun kq v4 w' => ∃ (x4_2 : Int), v4 = .int .i64 x4_2 ∧ Aside0 (signetrylaw02_TextKnown.l1 kq x1_1 (strOfNums y527) y554 x4_2 = some r) ∧ Aside0 (kq ≤ k1) ∧ Aside0 (Kd.N (Kd.slice 5 (Kd.int .u8)) 22 w' w.heap.size (fun _ => True) v555 y554) ∧ Aside0 (Below w.heap.size w w'))
   case atStart => exact ⟨(0), (by first | rfl | (simp; done) | (simp [*]; done)), H', ⟨Nat.le_refl _⟩, ⟨by (with_reducible repeat (first | apply Kd.N_alloc | apply Kd.N_drewN | apply Kd.N_drew)); exact Kd.N_mono HO556.out (fun _ hk => trivial)⟩, ⟨by repeat (first | (with_reducible first | exact HB.out | apply below_alloc | apply pw_below_drewN | apply below_drew1) | exact HB.out)⟩⟩
   case round =>
    clear H'
    try clear c1
    try clear c1b0
    try clear p2
    try clear hcv4
    try clear c11
    obtain ⟨x4_2, rfl, HA, HK2, HO_3, HB⟩ := hrel
    cases gk with
    | zero => exact absurd HA.out (by simp [signetrylaw02_TextKnown.l1])
    | succ k2 =>
     have H := HA.out
     clear HA
     simp only [signetrylaw02_TextKnown.l1] at H
     by_cases c31 : x4_2 < (y554.length : Int)
     case pos =>
      rw [if_pos c31] at H
      have c31b0 : decide (x4_2 < (y554.length : Int)) = true := decide_eq_true c31
      clear c31
      by_cases c32 : 0 ≤ x4_2
      case neg =>
       rw [if_neg c32] at H
       exact absurd H (by simp)
      rw [if_pos c32] at H
      have c32b0 : decide (0 ≤ x4_2) = true := decide_eq_true c32
      clear c32
      replace H := Option.bind_eq_some_iff.mp H
      obtain ⟨t558, A330, H⟩ := H
      replace H : (if t558 = true then (if 2 + (strOfNums y527).size ≤ 9223372036854775807 then (if ((⟨#[34, 92]⟩ : ByteArray) ++ (strOfNums y527)).size + 1 ≤ 9223372036854775807 then ((signetrylaw02_TextQuotes.f k2 (rd_L2 y554 x4_2) (((⟨#[34, 92]⟩ : ByteArray) ++ (strOfNums y527)) ++ (⟨#[34]⟩ : ByteArray))).bind fun t560 => (if t560 = true then (signetrylaw02_TextKnown.l1 k2 x1_1 (strOfNums y527) y554 (wrap64 (x4_2 + 1))) else (none))) else (none)) else (none)) else (none)) = some r := H
      have A33 := Aside0.mk A330
      clear A330
      by_cases c34 : t558 = true
      case neg =>
       replace c34 := Bool.eq_false_iff.mpr c34
       subst c34
       have H1 : (none) = some r := by rw [if_neg (show ¬ (false = true) by decide)] at H; exact H
       clear H
       have H := H1
       clear H1
       exact absurd H (by simp)
      subst c34
      have H1 : (if 2 + (strOfNums y527).size ≤ 9223372036854775807 then (if ((⟨#[34, 92]⟩ : ByteArray) ++ (strOfNums y527)).size + 1 ≤ 9223372036854775807 then ((signetrylaw02_TextQuotes.f k2 (rd_L2 y554 x4_2) (((⟨#[34, 92]⟩ : ByteArray) ++ (strOfNums y527)) ++ (⟨#[34]⟩ : ByteArray))).bind fun t560 => (if t560 = true then (signetrylaw02_TextKnown.l1 k2 x1_1 (strOfNums y527) y554 (wrap64 (x4_2 + 1))) else (none))) else (none)) else (none)) = some r := by rw [if_pos rfl] at H; exact H
      clear H
      have H := H1
      clear H1
      by_cases c35 : 2 + (strOfNums y527).size ≤ 9223372036854775807
      case neg =>
       rw [if_neg c35] at H
       exact absurd H (by simp)
      rw [if_pos c35] at H
      have c35b0 := eq_true c35
      have c35b1 : decide (2 + (strOfNums y527).size ≤ 9223372036854775807) = true := decide_eq_true c35
      try have c35b2 : (9223372036854775807 < 2 + (strOfNums y527).size) = False := eq_false (Nat.not_lt.2 c35)
      by_cases c36 : ((⟨#[34, 92]⟩ : ByteArray) ++ (strOfNums y527)).size + 1 ≤ 9223372036854775807
      case neg =>
       rw [if_neg c36] at H
       exact absurd H (by simp)
      rw [if_pos c36] at H
      have c36b0 := eq_true c36
      have c36b1 : decide (((⟨#[34, 92]⟩ : ByteArray) ++ (strOfNums y527)).size + 1 ≤ 9223372036854775807) = true := decide_eq_true c36
      try have c36b2 : (9223372036854775807 < ((⟨#[34, 92]⟩ : ByteArray) ++ (strOfNums y527)).size + 1) = False := eq_false (Nat.not_lt.2 c36)
      try have c36b3 : (9223372036854775807 < (⟨#[34, 92]⟩ : ByteArray).size + (strOfNums y527).size + 1) = False := by rw [← ByteArray.size_append]; exact c36b2
      try have c36b4 : (9223372036854775807 < 2 + (strOfNums y527).size + 1) = False := c36b3
      replace H := Option.bind_eq_some_iff.mp H
      obtain ⟨t560, A370, H⟩ := H
      replace H : (if t560 = true then (signetrylaw02_TextKnown.l1 k2 x1_1 (strOfNums y527) y554 (wrap64 (x4_2 + 1))) else (none)) = some r := H
      have A37 := Aside0.mk A370
      clear A370
      by_cases c38 : t560 = true
      case neg =>
       replace c38 := Bool.eq_false_iff.mpr c38
       subst c38
       have H1 : (none) = some r := by rw [if_neg (show ¬ (false = true) by decide)] at H; exact H
       clear H
       have H := H1
       clear H1
       exact absurd H (by simp)
      subst c38
      have H1 : (signetrylaw02_TextKnown.l1 k2 x1_1 (strOfNums y527) y554 (wrap64 (x4_2 + 1))) = some r := by rw [if_pos rfl] at H; exact H
      clear H
      have H := H1
      clear H1
      have H' := Aside0.mk H
      clear H
      obtain ⟨Ao39, co39, eo39⟩ := Kd.N_slice HO_3.out
      subst eo39
      have p557 : 0 ≤ (x4_2 : Int) := of_decide_eq_true (by first | (with_reducible assumption) | assumption)
      have q557 : x4_2 < (y554.length : Int) := of_decide_eq_true (by first | (with_reducible assumption) | assumption)
      obtain ⟨ad557, A557_0, c557_0, e557, hx557_0, hl557_0, hi557_0⟩ := at_L2 (Kd.N_reads' HO_3.out).2.2 x4_2 p557 q557
      cases e557
      obtain ⟨ce557, hce557, hMe557, hcc557⟩ := Kd.N_get HO_3.out [] x4_2 p557 (by first | exact q557 | exact of_decide_eq_true (by first | (with_reducible assumption) | assumption) | (have e_ := (Kd.N_reads' HO_3.out).1; omega))
      obtain ⟨ua557_0, uc557_0, rfl, ul557_0, ge557_0⟩ := Kd.FK_slice_open hMe557
      have hv557_0 := hcc557 0 _ rfl
      rw [Nat.add_zero, show ((Kd.slice 5 (Kd.int .u8))).sz = 1 from rfl, Nat.mul_one] at hv557_0
      replace hv557_0 := Option.some.inj (hv557_0.symm.trans hx557_0)
      injection hv557_0 with hva_ hvn_ hvc_
      rw [hva_] at ge557_0
      rw [hvc_] at ul557_0
      have HL557_0 := Aside0.mk (show Kd.V (Kd.int .u8) 5 _ w.heap.size _ _ (rd_L2 y554 x4_2) from Kd.V_mk ul557_0 ge557_0)
      clear hva_ hvn_ hvc_ ge557_0 ul557_0
      clear hcc557 hce557
      have HR557_0 := Aside0.mk hi557_0
      have HC557_0 := Aside0.mk hl557_0
      clear hi557_0 hl557_0
      replace p557 := eq_true p557
      replace q557 := eq_true q557
      go_wp2_with (first | ((with_reducible refine gate_callee (f := 3) rfl ?_); refine goesL_ (some 57) rfl rfl Tryd.func3 (by kernel_rfl) rfl #[.slice A557_0 (rd_L2 y554 x4_2).length c557_0, .int .i64 x1_1] rfl (by (try simp only [List.map_toArray, List.map_cons, List.map_nil]); first | done | rfl | (simp only [List.length_drop, List.length_take]; rfl)) ?_; (with_reducible refine (signetrylaw02_TextRunes.calls k2 _ _ (rd_L2 y554 x4_2) x1_1 true _ ?side1 ?side2 A33.out (HTB_.below (by repeat (first | (with_reducible first | exact HB.out | apply below_alloc | apply pw_below_drewN | apply below_drew1) | exact HB.out)))).mono ?_); (case side1 => repeat (first | exact (by repeat (first | (with_reducible exact HR557_0.out) | (with_reducible refine Kd.C_alloc ?_ _) | (with_reducible refine Kd.C_drewN ?_ _) | (with_reducible refine Kd.C_drew ?_) | exact HR557_0.out)) | (with_reducible refine Kd.C_alloc ?_ _) | (with_reducible refine Kd.C_drewN ?_ _) | (with_reducible refine Kd.C_drew ?_))); (case side2 => exact HC557_0.out); rintro e w40 ⟨rfl, hb⟩; refine ⟨_, rfl, ?_⟩; have n0_ := Aside0.mk (Kd.N_below (by (with_reducible repeat (first | apply Kd.N_alloc | apply Kd.N_drewN | apply Kd.N_drew)); exact HO_3.out) hb); have n1_ := Aside0.mk (Kd.V_below (by (with_reducible repeat (first | apply Kd.V_alloc | apply Kd.V_drewN | apply Kd.V_drew)); exact HL557_0.out) hb); have n2_ := Aside0.mk (Kd.C_below (by repeat (first | (with_reducible exact HR557_0.out) | (with_reducible refine Kd.C_alloc ?_ _) | (with_reducible refine Kd.C_drewN ?_ _) | (with_reducible refine Kd.C_drew ?_) | exact HR557_0.out)) hb); have n3_ := Aside0.mk (below_step (by repeat (first | (with_reducible first | exact HB.out | apply below_alloc | apply pw_below_drewN | apply below_drew1) | exact HB.out)) hb); clear HO_3; clear HL557_0; clear HR557_0; clear HB; have HO_3 := n0_; have HL557_0 := n1_; have HR557_0 := n2_; have HB := n3_; clear n0_ n1_ n2_ n3_; (try clear hb); (try clear hb2); (try clear hk); (try clear hi); have p559 : 0 ≤ (x4_2 : Int) := of_decide_eq_true (by first | (with_reducible assumption) | assumption); have q559 : x4_2 < (y554.length : Int) := of_decide_eq_true (by first | (with_reducible assumption) | assumption); obtain ⟨ad559, A559_0, c559_0, e559, hx559_0, hl559_0, hi559_0⟩ := at_L2 (Kd.N_reads' HO_3.out).2.2 x4_2 p559 q559; obtain rfl : ad557 = ad559 := (by injection e559); obtain ⟨ce559, hce559, hMe559, hcc559⟩ := Kd.N_get HO_3.out [] x4_2 p559 (by first | exact q559 | exact of_decide_eq_true (by first | (with_reducible assumption) | assumption) | (have e_ := (Kd.N_reads' HO_3.out).1; omega)); obtain ⟨ua559_0, uc559_0, rfl, ul559_0, ge559_0⟩ := Kd.FK_slice_open hMe559; have hv559_0 := hcc559 0 _ rfl; rw [Nat.add_zero, show ((Kd.slice 5 (Kd.int .u8))).sz = 1 from rfl, Nat.mul_one] at hv559_0; replace hv559_0 := Option.some.inj (hv559_0.symm.trans hx559_0); injection hv559_0 with hva_ hvn_ hvc_; rw [hva_] at ge559_0; rw [hvc_] at ul559_0; have HL559_0 := Aside0.mk (show Kd.V (Kd.int .u8) 5 _ w.heap.size _ _ (rd_L2 y554 x4_2) from Kd.V_mk ul559_0 ge559_0); clear hva_ hvn_ hvc_ ge559_0 ul559_0; clear hcc559 hce559; have HR559_0 := Aside0.mk hi559_0; have HC559_0 := Aside0.mk hl559_0; clear hi559_0 hl559_0; replace p559 := eq_true p559; replace q559 := eq_true q559) | (go_at_call 5; (with_reducible refine (signetrylaw02_TextQuotes.calls k2 _ _ (rd_L2 y554 x4_2) (((⟨#[34, 92]⟩ : ByteArray) ++ (strOfNums y527)) ++ (⟨#[34]⟩ : ByteArray)) true _ ?side1 ?side2 A37.out (HTB_.below (by repeat (first | (with_reducible first | exact HB.out | apply below_alloc | apply pw_below_drewN | apply below_drew1) | exact HB.out)))).mono ?_); (case side1 => repeat (first | exact (by repeat (first | (with_reducible exact HR559_0.out) | (with_reducible refine Kd.C_alloc ?_ _) | (with_reducible refine Kd.C_drewN ?_ _) | (with_reducible refine Kd.C_drew ?_) | exact HR559_0.out)) | (with_reducible refine Kd.C_alloc ?_ _) | (with_reducible refine Kd.C_drewN ?_ _) | (with_reducible refine Kd.C_drew ?_))); (case side2 => exact HC559_0.out); rintro e w41 ⟨rfl, hb⟩; have n0_ := Aside0.mk (Kd.N_below (by (with_reducible repeat (first | apply Kd.N_alloc | apply Kd.N_drewN | apply Kd.N_drew)); exact HO_3.out) hb); have n1_ := Aside0.mk (Kd.V_below (by (with_reducible repeat (first | apply Kd.V_alloc | apply Kd.V_drewN | apply Kd.V_drew)); exact HL557_0.out) hb); have n2_ := Aside0.mk (Kd.V_below (by (with_reducible repeat (first | apply Kd.V_alloc | apply Kd.V_drewN | apply Kd.V_drew)); exact HL559_0.out) hb); have n3_ := Aside0.mk (Kd.C_below (by repeat (first | (with_reducible exact HR557_0.out) | (with_reducible refine Kd.C_alloc ?_ _) | (with_reducible refine Kd.C_drewN ?_ _) | (with_reducible refine Kd.C_drew ?_) | exact HR557_0.out)) hb); have n4_ := Aside0.mk (Kd.C_below (by repeat (first | (with_reducible exact HR559_0.out) | (with_reducible refine Kd.C_alloc ?_ _) | (with_reducible refine Kd.C_drewN ?_ _) | (with_reducible refine Kd.C_drew ?_) | exact HR559_0.out)) hb); have n5_ := Aside0.mk (below_step (by repeat (first | (with_reducible first | exact HB.out | apply below_alloc | apply pw_below_drewN | apply below_drew1) | exact HB.out)) hb); clear HO_3; clear HL557_0; clear HL559_0; clear HR557_0; clear HR559_0; clear HB; have HO_3 := n0_; have HL557_0 := n1_; have HL559_0 := n2_; have HR557_0 := n3_; have HR559_0 := n4_; have HB := n5_; clear n0_ n1_ n2_ n3_ n4_ n5_; (try clear hb); (try clear hb2); (try clear hk); (try clear hi)))
      go_roundg k2
      case measure => have := HK1.out; have := HK2.out; omega
      case rel => exact ⟨(wrap64 (x4_2 + 1)), (by first | rfl | (simp; done) | (simp [*]; done)), H', ⟨by have := HK1.out; have := HK2.out; omega⟩, ⟨by (with_reducible repeat (first | apply Kd.N_alloc | apply Kd.N_drewN | apply Kd.N_drew)); exact HO_3.out⟩, ⟨by repeat (first | (with_reducible first | exact HB.out | apply below_alloc | apply pw_below_drewN | apply below_drew1) | exact HB.out)⟩⟩
     rw [if_neg c31] at H
     have c31b0 : decide (x4_2 < (y554.length : Int)) = false := decide_eq_false c31
     clear c31
     by_cases c42 : 1 + (strOfNums y527).size ≤ 9223372036854775807
     case neg =>
      rw [if_neg c42] at H
      exact absurd H (by simp)
     rw [if_pos c42] at H
     have c42b0 := eq_true c42
     have c42b1 : decide (1 + (strOfNums y527).size ≤ 9223372036854775807) = true := decide_eq_true c42
     try have c42b2 : (9223372036854775807 < 1 + (strOfNums y527).size) = False := eq_false (Nat.not_lt.2 c42)
     by_cases c43 : ((⟨#[39]⟩ : ByteArray) ++ (strOfNums y527)).size + 1 ≤ 9223372036854775807
     case neg =>
      rw [if_neg c43] at H
      exact absurd H (by simp)
     rw [if_pos c43] at H
     have c43b0 := eq_true c43
     have c43b1 : decide (((⟨#[39]⟩ : ByteArray) ++ (strOfNums y527)).size + 1 ≤ 9223372036854775807) = true := decide_eq_true c43
     try have c43b2 : (9223372036854775807 < ((⟨#[39]⟩ : ByteArray) ++ (strOfNums y527)).size + 1) = False := eq_false (Nat.not_lt.2 c43)
     try have c43b3 : (9223372036854775807 < (⟨#[39]⟩ : ByteArray).size + (strOfNums y527).size + 1) = False := by rw [← ByteArray.size_append]; exact c43b2
     try have c43b4 : (9223372036854775807 < 1 + (strOfNums y527).size + 1) = False := c43b3
     by_cases c44 : 2 + (strOfNums y527).size ≤ 9223372036854775807
     case neg =>
      rw [if_neg c44] at H
      exact absurd H (by simp)
     rw [if_pos c44] at H
     have c44b0 := eq_true c44
     have c44b1 : decide (2 + (strOfNums y527).size ≤ 9223372036854775807) = true := decide_eq_true c44
     try have c44b2 : (9223372036854775807 < 2 + (strOfNums y527).size) = False := eq_false (Nat.not_lt.2 c44)
     by_cases c45 : ((⟨#[34, 92]⟩ : ByteArray) ++ (strOfNums y527)).size + 2 ≤ 9223372036854775807
     case neg =>
      rw [if_neg c45] at H
      exact absurd H (by simp)
     rw [if_pos c45] at H
     have c45b0 := eq_true c45
     have c45b1 : decide (((⟨#[34, 92]⟩ : ByteArray) ++ (strOfNums y527)).size + 2 ≤ 9223372036854775807) = true := decide_eq_true c45
     try have c45b2 : (9223372036854775807 < ((⟨#[34, 92]⟩ : ByteArray) ++ (strOfNums y527)).size + 2) = False := eq_false (Nat.not_lt.2 c45)
     try have c45b3 : (9223372036854775807 < (⟨#[34, 92]⟩ : ByteArray).size + (strOfNums y527).size + 2) = False := by rw [← ByteArray.size_append]; exact c45b2
     try have c45b4 : (9223372036854775807 < 2 + (strOfNums y527).size + 2) = False := c45b3
     by_cases c46 : 3 + (strOfNums y527).size ≤ 9223372036854775807
     case neg =>
      rw [if_neg c46] at H
      exact absurd H (by simp)
     rw [if_pos c46] at H
     have c46b0 := eq_true c46
     have c46b1 : decide (3 + (strOfNums y527).size ≤ 9223372036854775807) = true := decide_eq_true c46
     try have c46b2 : (9223372036854775807 < 3 + (strOfNums y527).size) = False := eq_false (Nat.not_lt.2 c46)
     by_cases c47 : ((⟨#[34, 92, 120]⟩ : ByteArray) ++ (strOfNums y527)).size + 1 ≤ 9223372036854775807
     case neg =>
      rw [if_neg c47] at H
      exact absurd H (by simp)
     rw [if_pos c47] at H
     have c47b0 := eq_true c47
     have c47b1 : decide (((⟨#[34, 92, 120]⟩ : ByteArray) ++ (strOfNums y527)).size + 1 ≤ 9223372036854775807) = true := decide_eq_true c47
     try have c47b2 : (9223372036854775807 < ((⟨#[34, 92, 120]⟩ : ByteArray) ++ (strOfNums y527)).size + 1) = False := eq_false (Nat.not_lt.2 c47)
     try have c47b3 : (9223372036854775807 < (⟨#[34, 92, 120]⟩ : ByteArray).size + (strOfNums y527).size + 1) = False := by rw [← ByteArray.size_append]; exact c47b2
     try have c47b4 : (9223372036854775807 < 3 + (strOfNums y527).size + 1) = False := c47b3
     by_cases c48 : 5 + (strOfNums y527).size ≤ 9223372036854775807
     case neg =>
      rw [if_neg c48] at H
      exact absurd H (by simp)
     rw [if_pos c48] at H
     have c48b0 := eq_true c48
     have c48b1 : decide (5 + (strOfNums y527).size ≤ 9223372036854775807) = true := decide_eq_true c48
     try have c48b2 : (9223372036854775807 < 5 + (strOfNums y527).size) = False := eq_false (Nat.not_lt.2 c48)
     by_cases c49 : ((⟨#[34, 92, 117, 48, 48]⟩ : ByteArray) ++ (strOfNums y527)).size + 2 ≤ 9223372036854775807
     case neg =>
      rw [if_neg c49] at H
      exact absurd H (by simp)
     rw [if_pos c49] at H
     have c49b0 := eq_true c49
     have c49b1 : decide (((⟨#[34, 92, 117, 48, 48]⟩ : ByteArray) ++ (strOfNums y527)).size + 2 ≤ 9223372036854775807) = true := decide_eq_true c49
     try have c49b2 : (9223372036854775807 < ((⟨#[34, 92, 117, 48, 48]⟩ : ByteArray) ++ (strOfNums y527)).size + 2) = False := eq_false (Nat.not_lt.2 c49)
     try have c49b3 : (9223372036854775807 < (⟨#[34, 92, 117, 48, 48]⟩ : ByteArray).size + (strOfNums y527).size + 2) = False := by rw [← ByteArray.size_append]; exact c49b2
     try have c49b4 : (9223372036854775807 < 5 + (strOfNums y527).size + 2) = False := c49b3
     by_cases c50 : 7 + (strOfNums y527).size ≤ 9223372036854775807
     case neg =>
      rw [if_neg c50] at H
      exact absurd H (by simp)
     rw [if_pos c50] at H
     have c50b0 := eq_true c50
     have c50b1 : decide (7 + (strOfNums y527).size ≤ 9223372036854775807) = true := decide_eq_true c50
     try have c50b2 : (9223372036854775807 < 7 + (strOfNums y527).size) = False := eq_false (Nat.not_lt.2 c50)
     by_cases c51 : ((⟨#[34, 92, 85, 48, 48, 48, 48]⟩ : ByteArray) ++ (strOfNums y527)).size + 4 ≤ 9223372036854775807
     case neg =>
      rw [if_neg c51] at H
      exact absurd H (by simp)
     rw [if_pos c51] at H
     have c51b0 := eq_true c51
     have c51b1 : decide (((⟨#[34, 92, 85, 48, 48, 48, 48]⟩ : ByteArray) ++ (strOfNums y527)).size + 4 ≤ 9223372036854775807) = true := decide_eq_true c51
     try have c51b2 : (9223372036854775807 < ((⟨#[34, 92, 85, 48, 48, 48, 48]⟩ : ByteArray) ++ (strOfNums y527)).size + 4) = False := eq_false (Nat.not_lt.2 c51)
     try have c51b3 : (9223372036854775807 < (⟨#[34, 92, 85, 48, 48, 48, 48]⟩ : ByteArray).size + (strOfNums y527).size + 4) = False := by rw [← ByteArray.size_append]; exact c51b2
     try have c51b4 : (9223372036854775807 < 7 + (strOfNums y527).size + 4) = False := c51b3
     by_cases c52 : ((⟨#[34, 92, 49]⟩ : ByteArray) ++ (strOfNums y527)).size + 2 ≤ 9223372036854775807
     case neg =>
      rw [if_neg c52] at H
      exact absurd H (by simp)
     rw [if_pos c52] at H
     have c52b0 := eq_true c52
     have c52b1 : decide (((⟨#[34, 92, 49]⟩ : ByteArray) ++ (strOfNums y527)).size + 2 ≤ 9223372036854775807) = true := decide_eq_true c52
     try have c52b2 : (9223372036854775807 < ((⟨#[34, 92, 49]⟩ : ByteArray) ++ (strOfNums y527)).size + 2) = False := eq_false (Nat.not_lt.2 c52)
     try have c52b3 : (9223372036854775807 < (⟨#[34, 92, 49]⟩ : ByteArray).size + (strOfNums y527).size + 2) = False := by rw [← ByteArray.size_append]; exact c52b2
     try have c52b4 : (9223372036854775807 < 3 + (strOfNums y527).size + 2) = False := c52b3
     by_cases c53 : (strOfNums y527).size + 2 ≤ 9223372036854775807
     case neg =>
      rw [if_neg c53] at H
      exact absurd H (by simp)
     rw [if_pos c53] at H
     have c53b0 := eq_true c53
     have c53b1 : decide ((strOfNums y527).size + 2 ≤ 9223372036854775807) = true := decide_eq_true c53
     try have c53b2 : (9223372036854775807 < (strOfNums y527).size + 2) = False := eq_false (Nat.not_lt.2 c53)
     obtain ⟨y561, hy561⟩ : ∃ y_ : List ByteArray, y_ = (([((⟨#[39]⟩ : ByteArray) ++ (strOfNums y527)) ++ (⟨#[39]⟩ : ByteArray), ((⟨#[34, 92]⟩ : ByteArray) ++ (strOfNums y527)) ++ (⟨#[48, 34]⟩ : ByteArray), ((⟨#[34, 92, 120]⟩ : ByteArray) ++ (strOfNums y527)) ++ (⟨#[34]⟩ : ByteArray), ((⟨#[34, 92, 117, 48, 48]⟩ : ByteArray) ++ (strOfNums y527)) ++ (⟨#[52, 34]⟩ : ByteArray), ((⟨#[34, 92, 85, 48, 48, 48, 48]⟩ : ByteArray) ++ (strOfNums y527)) ++ (⟨#[48, 48, 48, 34]⟩ : ByteArray), ((⟨#[34, 92, 49]⟩ : ByteArray) ++ (strOfNums y527)) ++ (⟨#[55, 34]⟩ : ByteArray), (strOfNums y527) ++ (⟨#[97, 34]⟩ : ByteArray), (⟨#[34, 97]⟩ : ByteArray) ++ (strOfNums y527), (⟨#[34, 92]⟩ : ByteArray) ++ (strOfNums y527)] : List ByteArray)) := ⟨_, rfl⟩
     replace H : (signetrylaw02_TextKnown.l2 k2 x1_1 (strOfNums y527) y561 0) = some r := by first | (rw [hy561]; with_reducible exact H) | (have H2_ := (Option.bind_some _ _).symm.trans H; rw [hy561]; with_reducible exact H2_) | (have H2_ := (Option.bind_some _ _).symm.trans H; with_reducible exact H2_) | with_reducible exact H | (rw [hy561]; exact H) | exact H
     have Ny561 := Aside0.mk hy561
     clear hy561
     have H' := Aside0.mk H
     clear H
     obtain ⟨Ao54, co54, eo54⟩ := Kd.N_slice HO_3.out
     subst eo54
     go_wp2_with (first | ((with_reducible refine gate_dst (N := 94) rfl ?_); refine Kd.R_lit Kd.string _ 9 ?hg (N := 94) ?hd (xs := ([((⟨#[39]⟩ : ByteArray) ++ (strOfNums y527)) ++ (⟨#[39]⟩ : ByteArray), ((⟨#[34, 92]⟩ : ByteArray) ++ (strOfNums y527)) ++ (⟨#[48, 34]⟩ : ByteArray), ((⟨#[34, 92, 120]⟩ : ByteArray) ++ (strOfNums y527)) ++ (⟨#[34]⟩ : ByteArray), ((⟨#[34, 92, 117, 48, 48]⟩ : ByteArray) ++ (strOfNums y527)) ++ (⟨#[52, 34]⟩ : ByteArray), ((⟨#[34, 92, 85, 48, 48, 48, 48]⟩ : ByteArray) ++ (strOfNums y527)) ++ (⟨#[48, 48, 48, 34]⟩ : ByteArray), ((⟨#[34, 92, 49]⟩ : ByteArray) ++ (strOfNums y527)) ++ (⟨#[55, 34]⟩ : ByteArray), (strOfNums y527) ++ (⟨#[97, 34]⟩ : ByteArray), (⟨#[34, 97]⟩ : ByteArray) ++ (strOfNums y527), (⟨#[34, 92]⟩ : ByteArray) ++ (strOfNums y527)] : List ByteArray)) (inner := [.string (((⟨#[39]⟩ : ByteArray) ++ (strOfNums y527)) ++ (⟨#[39]⟩ : ByteArray)), .string (((⟨#[34, 92]⟩ : ByteArray) ++ (strOfNums y527)) ++ (⟨#[48, 34]⟩ : ByteArray)), .string (((⟨#[34, 92, 120]⟩ : ByteArray) ++ (strOfNums y527)) ++ (⟨#[34]⟩ : ByteArray)), .string (((⟨#[34, 92, 117, 48, 48]⟩ : ByteArray) ++ (strOfNums y527)) ++ (⟨#[52, 34]⟩ : ByteArray)), .string (((⟨#[34, 92, 85, 48, 48, 48, 48]⟩ : ByteArray) ++ (strOfNums y527)) ++ (⟨#[48, 48, 48, 34]⟩ : ByteArray)), .string (((⟨#[34, 92, 49]⟩ : ByteArray) ++ (strOfNums y527)) ++ (⟨#[55, 34]⟩ : ByteArray)), .string ((strOfNums y527) ++ (⟨#[97, 34]⟩ : ByteArray)), .string ((⟨#[34, 97]⟩ : ByteArray) ++ (strOfNums y527)), .string ((⟨#[34, 92]⟩ : ByteArray) ++ (strOfNums y527))]) (ok := fun _ => True) (okp := fun _ => True) ?hr ?hp (fun _ hk => hk) trivial (Below.refl _ _) (Nat.le_refl _) (by simp) ?_; (case hd => rfl); (case hg => rfl); (case hr => first | (go_simp; done) | (go_simp; rfl)); (case hp => exact (Reps.one (show Kd.M Kd.string _ _ _ (((⟨#[39]⟩ : ByteArray) ++ (strOfNums y527)) ++ (⟨#[39]⟩ : ByteArray)) [.string (((⟨#[39]⟩ : ByteArray) ++ (strOfNums y527)) ++ (⟨#[39]⟩ : ByteArray))] from rfl) (Reps.one (show Kd.M Kd.string _ _ _ (((⟨#[34, 92]⟩ : ByteArray) ++ (strOfNums y527)) ++ (⟨#[48, 34]⟩ : ByteArray)) [.string (((⟨#[34, 92]⟩ : ByteArray) ++ (strOfNums y527)) ++ (⟨#[48, 34]⟩ : ByteArray))] from rfl) (Reps.one (show Kd.M Kd.string _ _ _ (((⟨#[34, 92, 120]⟩ : ByteArray) ++ (strOfNums y527)) ++ (⟨#[34]⟩ : ByteArray)) [.string (((⟨#[34, 92, 120]⟩ : ByteArray) ++ (strOfNums y527)) ++ (⟨#[34]⟩ : ByteArray))] from rfl) (Reps.one (show Kd.M Kd.string _ _ _ (((⟨#[34, 92, 117, 48, 48]⟩ : ByteArray) ++ (strOfNums y527)) ++ (⟨#[52, 34]⟩ : ByteArray)) [.string (((⟨#[34, 92, 117, 48, 48]⟩ : ByteArray) ++ (strOfNums y527)) ++ (⟨#[52, 34]⟩ : ByteArray))] from rfl) (Reps.one (show Kd.M Kd.string _ _ _ (((⟨#[34, 92, 85, 48, 48, 48, 48]⟩ : ByteArray) ++ (strOfNums y527)) ++ (⟨#[48, 48, 48, 34]⟩ : ByteArray)) [.string (((⟨#[34, 92, 85, 48, 48, 48, 48]⟩ : ByteArray) ++ (strOfNums y527)) ++ (⟨#[48, 48, 48, 34]⟩ : ByteArray))] from rfl) (Reps.one (show Kd.M Kd.string _ _ _ (((⟨#[34, 92, 49]⟩ : ByteArray) ++ (strOfNums y527)) ++ (⟨#[55, 34]⟩ : ByteArray)) [.string (((⟨#[34, 92, 49]⟩ : ByteArray) ++ (strOfNums y527)) ++ (⟨#[55, 34]⟩ : ByteArray))] from rfl) (Reps.one (show Kd.M Kd.string _ _ _ ((strOfNums y527) ++ (⟨#[97, 34]⟩ : ByteArray)) [.string ((strOfNums y527) ++ (⟨#[97, 34]⟩ : ByteArray))] from rfl) (Reps.one (show Kd.M Kd.string _ _ _ ((⟨#[34, 97]⟩ : ByteArray) ++ (strOfNums y527)) [.string ((⟨#[34, 97]⟩ : ByteArray) ++ (strOfNums y527))] from rfl) (Reps.one (show Kd.M Kd.string _ _ _ ((⟨#[34, 92]⟩ : ByteArray) ++ (strOfNums y527)) [.string ((⟨#[34, 92]⟩ : ByteArray) ++ (strOfNums y527))] from rfl) (Reps.none _ _))))))))))); intro v562 w55 ho56 hb hg_ hnew_; clear hg_ hnew_; (first | rw [← Ny561.out] at ho56 | (simp only [Int.reduceToNat] at ho56; rw [← Ny561.out] at ho56)); have n0_ := Aside0.mk (Kd.N_elder' (by (with_reducible repeat (first | apply Kd.N_alloc | apply Kd.N_drewN | apply Kd.N_drew)); exact HO_3.out) (Kd.R_base ho56) hb); have n1_ := Aside0.mk (Kd.R_lower ho56 (below_size (by repeat (first | (with_reducible first | exact HB.out | apply below_alloc | apply pw_below_drewN | apply below_drew1) | exact HB.out)))); have n2_ := Aside0.mk (below_step (by repeat (first | (with_reducible first | exact HB.out | apply below_alloc | apply pw_below_drewN | apply below_drew1) | exact HB.out)) hb); clear HO_3; clear HB; have HO_3 := n0_; have HO563 := n1_; have HB := n2_; clear n0_ n1_ n2_; clear hb ho56))
     go_loopg [6] k2 (fun kq v6 w' => ∃ (x6_3 : Int), v6 = .int .i64 x6_3 ∧ Aside0 (signetrylaw02_TextKnown.l2 kq x1_1 (strOfNums y527) y561 x6_3 = some r) ∧ Aside0 (kq ≤ k2) ∧ Aside0 (Kd.R Kd.string 9 w' w.heap.size (fun _ => True) v562 y561) ∧ Aside0 (Below w.heap.size w w'))
     case atStart => exact ⟨(0), (by first | rfl | (simp; done) | (simp [*]; done)), H', ⟨Nat.le_refl _⟩, ⟨by (with_reducible repeat (first | apply Kd.R_alloc | apply Kd.R_drewN | apply Kd.R_drew)); exact HO563.out⟩, ⟨by repeat (first | (with_reducible first | exact HB.out | apply below_alloc | apply pw_below_drewN | apply below_drew1) | exact HB.out)⟩⟩
     case round =>
      clear H'
      try clear c1
      try clear c1b0
      try clear p2
      try clear c3
      try clear c4
      try clear hcv4
      try clear c5
      try clear p5
      try clear q5
      try clear hx5
      try clear p6
      try clear c11
      try clear c31
      try clear c31b0
      try clear c32
      try clear c32b0
      try clear c34
      try clear c35
      try clear c35b0
      try clear c35b1
      try clear c35b2
      try clear c36
      try clear c36b0
      try clear c36b1
      try clear c36b2
      try clear c38
      try clear c42
      try clear c42b0
      try clear c42b1
      try clear c42b2
      try clear c43
      try clear c43b0
      try clear c43b1
      try clear c43b2
      try clear c44
      try clear c44b0
      try clear c44b1
      try clear c44b2
      try clear c45
      try clear c45b0
      try clear c45b1
      try clear c45b2
      try clear c46
      try clear c46b0
      try clear c46b1
      try clear c46b2
      try clear c47
      try clear c47b0
      try clear c47b1
      try clear c47b2
      try clear c48
      try clear c48b0
      try clear c48b1
      try clear c48b2
      try clear c49
      try clear c49b0
      try clear c49b1
      try clear c49b2
      try clear c50
      try clear c50b0
      try clear c50b1
      try clear c50b2
      try clear c51
      try clear c51b0
      try clear c51b1
      try clear c51b2
      try clear c52
      try clear c52b0
      try clear c52b1
      try clear c52b2
      try clear c53
      try clear c53b0
      try clear c53b1
      try clear c53b2
      try clear c55
      try clear p55
      try clear q55
      try clear hx55
      try clear hx557_0
      try clear hx559_0
      try clear p2
      try clear p557
      try clear p559
      try clear q557
      try clear q559
      obtain ⟨x6_3, rfl, HA, HK3, HO_5, HB⟩ := hrel
      cases gk with
      | zero => exact absurd HA.out (by simp [signetrylaw02_TextKnown.l2])
      | succ k3 =>
       have H := HA.out
       clear HA
       simp only [signetrylaw02_TextKnown.l2] at H
       by_cases c57 : x6_3 < (y561.length : Int)
       case neg =>
        rw [if_neg c57] at H
        have c57b0 : decide (x6_3 < (y561.length : Int)) = false := decide_eq_false c57
        clear c57
        have H' := Aside0.mk H
        clear H
        obtain ⟨Ao78, co78, eo78⟩ := Kd.R_slice HO_5.out
        subst eo78
        go_wp2
        go_roundg k3
        case measure => have := HK1.out; have := HK2.out; have := HK3.out; omega
        case rel => exact ⟨(wrap64 (x1_1 + 1)), (by first | rfl | (simp; done) | (simp [*]; done)), H', ⟨by have := HK1.out; have := HK2.out; have := HK3.out; omega⟩, ⟨by repeat (first | (with_reducible first | exact HB.out | apply below_alloc | apply pw_below_drewN | apply below_drew1) | exact HB.out)⟩⟩
       rw [if_pos c57] at H
       have c57b0 : decide (x6_3 < (y561.length : Int)) = true := decide_eq_true c57
       clear c57
       by_cases c58 : 0 ≤ x6_3
       case neg =>
        rw [if_neg c58] at H
        exact absurd H (by simp)
       rw [if_pos c58] at H
       have c58b0 : decide (0 ≤ x6_3) = true := decide_eq_true c58
       clear c58
       replace H := Option.bind_eq_some_iff.mp H
       obtain ⟨t565, A590, H⟩ := H
       replace H : (if t565 = true then (if 1 + (strOfNums y527).size ≤ 9223372036854775807 then ((signetrylaw02_TextNames.f k3 ((⟨#[97]⟩ : ByteArray) ++ (strOfNums y527))).bind fun t566 => (if t566 = true then ((signetrylaw02_TextNames.f k3 (strOfNums y527)).bind fun t567 => (if t567 = true then (if 2 + (strOfNums y527).size ≤ 9223372036854775807 then ((signetrylaw02_TextNames.f k3 ((⟨#[97, 46]⟩ : ByteArray) ++ (strOfNums y527))).bind fun t568 => (if t568 = true then (if ((⟨#[97, 95]⟩ : ByteArray) ++ (strOfNums y527)).size + 1 ≤ 9223372036854775807 then ((signetrylaw02_TextNames.f k3 (((⟨#[97, 95]⟩ : ByteArray) ++ (strOfNums y527)) ++ (⟨#[98]⟩ : ByteArray))).bind fun t569 => (if t569 = true then (signetrylaw02_TextKnown.l2 k3 x1_1 (strOfNums y527) y561 (wrap64 (x6_3 + 1))) else (none))) else (none)) else (none))) else (none)) else (none))) else (none))) else (none)) else (none)) = some r := H
       have A59 := Aside0.mk A590
       clear A590
       by_cases c60 : t565 = true
       case neg =>
        replace c60 := Bool.eq_false_iff.mpr c60
        subst c60
        have H1 : (none) = some r := by rw [if_neg (show ¬ (false = true) by decide)] at H; exact H
        clear H
        have H := H1
        clear H1
        exact absurd H (by simp)
       subst c60
       have H1 : (if 1 + (strOfNums y527).size ≤ 9223372036854775807 then ((signetrylaw02_TextNames.f k3 ((⟨#[97]⟩ : ByteArray) ++ (strOfNums y527))).bind fun t566 => (if t566 = true then ((signetrylaw02_TextNames.f k3 (strOfNums y527)).bind fun t567 => (if t567 = true then (if 2 + (strOfNums y527).size ≤ 9223372036854775807 then ((signetrylaw02_TextNames.f k3 ((⟨#[97, 46]⟩ : ByteArray) ++ (strOfNums y527))).bind fun t568 => (if t568 = true then (if ((⟨#[97, 95]⟩ : ByteArray) ++ (strOfNums y527)).size + 1 ≤ 9223372036854775807 then ((signetrylaw02_TextNames.f k3 (((⟨#[97, 95]⟩ : ByteArray) ++ (strOfNums y527)) ++ (⟨#[98]⟩ : ByteArray))).bind fun t569 => (if t569 = true then (signetrylaw02_TextKnown.l2 k3 x1_1 (strOfNums y527) y561 (wrap64 (x6_3 + 1))) else (none))) else (none)) else (none))) else (none)) else (none))) else (none))) else (none)) = some r := by rw [if_pos rfl] at H; exact H
       clear H
       have H := H1
       clear H1
       by_cases c61 : 1 + (strOfNums y527).size ≤ 9223372036854775807
       case neg =>
        rw [if_neg c61] at H
        exact absurd H (by simp)
       rw [if_pos c61] at H
       have c61b0 := eq_true c61
       have c61b1 : decide (1 + (strOfNums y527).size ≤ 9223372036854775807) = true := decide_eq_true c61
       try have c61b2 : (9223372036854775807 < 1 + (strOfNums y527).size) = False := eq_false (Nat.not_lt.2 c61)
       replace H := Option.bind_eq_some_iff.mp H
       obtain ⟨t566, A620, H⟩ := H
       replace H : (if t566 = true then ((signetrylaw02_TextNames.f k3 (strOfNums y527)).bind fun t567 => (if t567 = true then (if 2 + (strOfNums y527).size ≤ 9223372036854775807 then ((signetrylaw02_TextNames.f k3 ((⟨#[97, 46]⟩ : ByteArray) ++ (strOfNums y527))).bind fun t568 => (if t568 = true then (if ((⟨#[97, 95]⟩ : ByteArray) ++ (strOfNums y527)).size + 1 ≤ 9223372036854775807 then ((signetrylaw02_TextNames.f k3 (((⟨#[97, 95]⟩ : ByteArray) ++ (strOfNums y527)) ++ (⟨#[98]⟩ : ByteArray))).bind fun t569 => (if t569 = true then (signetrylaw02_TextKnown.l2 k3 x1_1 (strOfNums y527) y561 (wrap64 (x6_3 + 1))) else (none))) else (none)) else (none))) else (none)) else (none))) else (none)) = some r := H
       have A62 := Aside0.mk A620
       clear A620
       by_cases c63 : t566 = true
       case neg =>
        replace c63 := Bool.eq_false_iff.mpr c63
        subst c63
        have H1 : (none) = some r := by rw [if_neg (show ¬ (false = true) by decide)] at H; exact H
        clear H
        have H := H1
        clear H1
        exact absurd H (by simp)
       subst c63
       have H1 : ((signetrylaw02_TextNames.f k3 (strOfNums y527)).bind fun t567 => (if t567 = true then (if 2 + (strOfNums y527).size ≤ 9223372036854775807 then ((signetrylaw02_TextNames.f k3 ((⟨#[97, 46]⟩ : ByteArray) ++ (strOfNums y527))).bind fun t568 => (if t568 = true then (if ((⟨#[97, 95]⟩ : ByteArray) ++ (strOfNums y527)).size + 1 ≤ 9223372036854775807 then ((signetrylaw02_TextNames.f k3 (((⟨#[97, 95]⟩ : ByteArray) ++ (strOfNums y527)) ++ (⟨#[98]⟩ : ByteArray))).bind fun t569 => (if t569 = true then (signetrylaw02_TextKnown.l2 k3 x1_1 (strOfNums y527) y561 (wrap64 (x6_3 + 1))) else (none))) else (none)) else (none))) else (none)) else (none))) = some r := by rw [if_pos rfl] at H; exact H
       clear H
       have H := H1
       clear H1
       replace H := Option.bind_eq_some_iff.mp H
       obtain ⟨t567, A640, H⟩ := H
       replace H : (if t567 = true then (if 2 + (strOfNums y527).size ≤ 9223372036854775807 then ((signetrylaw02_TextNames.f k3 ((⟨#[97, 46]⟩ : ByteArray) ++ (strOfNums y527))).bind fun t568 => (if t568 = true then (if ((⟨#[97, 95]⟩ : ByteArray) ++ (strOfNums y527)).size + 1 ≤ 9223372036854775807 then ((signetrylaw02_TextNames.f k3 (((⟨#[97, 95]⟩ : ByteArray) ++ (strOfNums y527)) ++ (⟨#[98]⟩ : ByteArray))).bind fun t569 => (if t569 = true then (signetrylaw02_TextKnown.l2 k3 x1_1 (strOfNums y527) y561 (wrap64 (x6_3 + 1))) else (none))) else (none)) else (none))) else (none)) else (none)) = some r := H
       have A64 := Aside0.mk A640
       clear A640
       by_cases c65 : t567 = true
       case neg =>
        replace c65 := Bool.eq_false_iff.mpr c65
        subst c65
        have H1 : (none) = some r := by rw [if_neg (show ¬ (false = true) by decide)] at H; exact H
        clear H
        have H := H1
        clear H1
        exact absurd H (by simp)
       subst c65
       have H1 : (if 2 + (strOfNums y527).size ≤ 9223372036854775807 then ((signetrylaw02_TextNames.f k3 ((⟨#[97, 46]⟩ : ByteArray) ++ (strOfNums y527))).bind fun t568 => (if t568 = true then (if ((⟨#[97, 95]⟩ : ByteArray) ++ (strOfNums y527)).size + 1 ≤ 9223372036854775807 then ((signetrylaw02_TextNames.f k3 (((⟨#[97, 95]⟩ : ByteArray) ++ (strOfNums y527)) ++ (⟨#[98]⟩ : ByteArray))).bind fun t569 => (if t569 = true then (signetrylaw02_TextKnown.l2 k3 x1_1 (strOfNums y527) y561 (wrap64 (x6_3 + 1))) else (none))) else (none)) else (none))) else (none)) = some r := by rw [if_pos rfl] at H; exact H
       clear H
       have H := H1
       clear H1
       by_cases c66 : 2 + (strOfNums y527).size ≤ 9223372036854775807
       case neg =>
        rw [if_neg c66] at H
        exact absurd H (by simp)
       rw [if_pos c66] at H
       have c66b0 := eq_true c66
       have c66b1 : decide (2 + (strOfNums y527).size ≤ 9223372036854775807) = true := decide_eq_true c66
       try have c66b2 : (9223372036854775807 < 2 + (strOfNums y527).size) = False := eq_false (Nat.not_lt.2 c66)
       replace H := Option.bind_eq_some_iff.mp H
       obtain ⟨t568, A670, H⟩ := H
       replace H : (if t568 = true then (if ((⟨#[97, 95]⟩ : ByteArray) ++ (strOfNums y527)).size + 1 ≤ 9223372036854775807 then ((signetrylaw02_TextNames.f k3 (((⟨#[97, 95]⟩ : ByteArray) ++ (strOfNums y527)) ++ (⟨#[98]⟩ : ByteArray))).bind fun t569 => (if t569 = true then (signetrylaw02_TextKnown.l2 k3 x1_1 (strOfNums y527) y561 (wrap64 (x6_3 + 1))) else (none))) else (none)) else (none)) = some r := H
       have A67 := Aside0.mk A670
       clear A670
       by_cases c68 : t568 = true
       case neg =>
        replace c68 := Bool.eq_false_iff.mpr c68
        subst c68
        have H1 : (none) = some r := by rw [if_neg (show ¬ (false = true) by decide)] at H; exact H
        clear H
        have H := H1
        clear H1
        exact absurd H (by simp)
       subst c68
       have H1 : (if ((⟨#[97, 95]⟩ : ByteArray) ++ (strOfNums y527)).size + 1 ≤ 9223372036854775807 then ((signetrylaw02_TextNames.f k3 (((⟨#[97, 95]⟩ : ByteArray) ++ (strOfNums y527)) ++ (⟨#[98]⟩ : ByteArray))).bind fun t569 => (if t569 = true then (signetrylaw02_TextKnown.l2 k3 x1_1 (strOfNums y527) y561 (wrap64 (x6_3 + 1))) else (none))) else (none)) = some r := by rw [if_pos rfl] at H; exact H
       clear H
       have H := H1
       clear H1
       by_cases c69 : ((⟨#[97, 95]⟩ : ByteArray) ++ (strOfNums y527)).size + 1 ≤ 9223372036854775807
       case neg =>
        rw [if_neg c69] at H
        exact absurd H (by simp)
       rw [if_pos c69] at H
       have c69b0 := eq_true c69
       have c69b1 : decide (((⟨#[97, 95]⟩ : ByteArray) ++ (strOfNums y527)).size + 1 ≤ 9223372036854775807) = true := decide_eq_true c69
       try have c69b2 : (9223372036854775807 < ((⟨#[97, 95]⟩ : ByteArray) ++ (strOfNums y527)).size + 1) = False := eq_false (Nat.not_lt.2 c69)
       try have c69b3 : (9223372036854775807 < (⟨#[97, 95]⟩ : ByteArray).size + (strOfNums y527).size + 1) = False := by rw [← ByteArray.size_append]; exact c69b2
       try have c69b4 : (9223372036854775807 < 2 + (strOfNums y527).size + 1) = False := c69b3
       replace H := Option.bind_eq_some_iff.mp H
       obtain ⟨t569, A700, H⟩ := H
       replace H : (if t569 = true then (signetrylaw02_TextKnown.l2 k3 x1_1 (strOfNums y527) y561 (wrap64 (x6_3 + 1))) else (none)) = some r := H
       have A70 := Aside0.mk A700
       clear A700
       by_cases c71 : t569 = true
       case neg =>
        replace c71 := Bool.eq_false_iff.mpr c71
        subst c71
        have H1 : (none) = some r := by rw [if_neg (show ¬ (false = true) by decide)] at H; exact H
        clear H
        have H := H1
        clear H1
        exact absurd H (by simp)
       subst c71
       have H1 : (signetrylaw02_TextKnown.l2 k3 x1_1 (strOfNums y527) y561 (wrap64 (x6_3 + 1))) = some r := by rw [if_pos rfl] at H; exact H
       clear H
       have H := H1
       clear H1
       have H' := Aside0.mk H
       clear H
       obtain ⟨Ao72, co72, eo72⟩ := Kd.R_slice HO_5.out
       subst eo72
       have p564 : 0 ≤ (x6_3 : Int) := of_decide_eq_true (by first | (with_reducible assumption) | assumption)
       have q564 : x6_3 < (y561.length : Int) := of_decide_eq_true (by first | (with_reducible assumption) | assumption)
       obtain ⟨ad564, e564, hx564_0⟩ := Kd.at_string (Kd.R_reads' HO_5.out).2.2 x6_3 p564 q564
       cases e564
       replace p564 := eq_true p564
       replace q564 := eq_true q564
       go_wp2_with (first | ((with_reducible refine gate_callee (f := 5) rfl ?_); refine goesL_ (some 105) rfl rfl Tryd.func5 (by kernel_rfl) rfl #[.slice none 0 0, .string (rdOf ByteArray.empty y561 x6_3)] rfl (by (try simp only [List.map_toArray, List.map_cons, List.map_nil]); first | done | rfl | (simp only [List.length_drop, List.length_take]; rfl)) ?_; (refine (signetrylaw02_TextQuotes.calls k3 _ _ ([] : List Int) (rdOf ByteArray.empty y561 x6_3) true _ ?side1 ?side2 A59.out (HTB_.below (by repeat (first | (with_reducible first | exact HB.out | apply below_alloc | apply pw_below_drewN | apply below_drew1) | exact HB.out)))).mono ?_); (case side1 => exact Kd.C_nil _ _); (case side2 => exact Nat.le_refl _); rintro e w73 ⟨rfl, hb⟩; refine ⟨_, rfl, ?_⟩; have n0_ := Aside0.mk (Kd.R_below (by (with_reducible repeat (first | apply Kd.R_alloc | apply Kd.R_drewN | apply Kd.R_drew)); exact HO_5.out) hb); have n1_ := Aside0.mk (below_step (by repeat (first | (with_reducible first | exact HB.out | apply below_alloc | apply pw_below_drewN | apply below_drew1) | exact HB.out)) hb); clear HO_5; clear HB; have HO_5 := n0_; have HB := n1_; clear n0_ n1_; (try clear hb); (try clear hb2); (try clear hk); (try clear hi)) | (go_at_call 4; (with_reducible refine (signetrylaw02_TextNames.calls k3 ((⟨#[97]⟩ : ByteArray) ++ (strOfNums y527)) true _ A62.out (HTB_.below (by repeat (first | (with_reducible first | exact HB.out | apply below_alloc | apply pw_below_drewN | apply below_drew1) | exact HB.out)))).mono ?_); rintro e w74 ⟨rfl, hb⟩; have n0_ := Aside0.mk (Kd.R_below (by (with_reducible repeat (first | apply Kd.R_alloc | apply Kd.R_drewN | apply Kd.R_drew)); exact HO_5.out) hb); have n1_ := Aside0.mk (below_step (by repeat (first | (with_reducible first | exact HB.out | apply below_alloc | apply pw_below_drewN | apply below_drew1) | exact HB.out)) hb); clear HO_5; clear HB; have HO_5 := n0_; have HB := n1_; clear n0_ n1_; (try clear hb); (try clear hb2); (try clear hk); (try clear hi)) | (go_at_call 4; (with_reducible refine (signetrylaw02_TextNames.calls k3 (strOfNums y527) true _ A64.out (HTB_.below (by repeat (first | (with_reducible first | exact HB.out | apply below_alloc | apply pw_below_drewN | apply below_drew1) | exact HB.out)))).mono ?_); rintro e w75 ⟨rfl, hb⟩; have n0_ := Aside0.mk (Kd.R_below (by (with_reducible repeat (first | apply Kd.R_alloc | apply Kd.R_drewN | apply Kd.R_drew)); exact HO_5.out) hb); have n1_ := Aside0.mk (below_step (by repeat (first | (with_reducible first | exact HB.out | apply below_alloc | apply pw_below_drewN | apply below_drew1) | exact HB.out)) hb); clear HO_5; clear HB; have HO_5 := n0_; have HB := n1_; clear n0_ n1_; (try clear hb); (try clear hb2); (try clear hk); (try clear hi)) | (go_at_call 4; (with_reducible refine (signetrylaw02_TextNames.calls k3 ((⟨#[97, 46]⟩ : ByteArray) ++ (strOfNums y527)) true _ A67.out (HTB_.below (by repeat (first | (with_reducible first | exact HB.out | apply below_alloc | apply pw_below_drewN | apply below_drew1) | exact HB.out)))).mono ?_); rintro e w76 ⟨rfl, hb⟩; have n0_ := Aside0.mk (Kd.R_below (by (with_reducible repeat (first | apply Kd.R_alloc | apply Kd.R_drewN | apply Kd.R_drew)); exact HO_5.out) hb); have n1_ := Aside0.mk (below_step (by repeat (first | (with_reducible first | exact HB.out | apply below_alloc | apply pw_below_drewN | apply below_drew1) | exact HB.out)) hb); clear HO_5; clear HB; have HO_5 := n0_; have HB := n1_; clear n0_ n1_; (try clear hb); (try clear hb2); (try clear hk); (try clear hi)) | (go_at_call 4; (with_reducible refine (signetrylaw02_TextNames.calls k3 (((⟨#[97, 95]⟩ : ByteArray) ++ (strOfNums y527)) ++ (⟨#[98]⟩ : ByteArray)) true _ A70.out (HTB_.below (by repeat (first | (with_reducible first | exact HB.out | apply below_alloc | apply pw_below_drewN | apply below_drew1) | exact HB.out)))).mono ?_); rintro e w77 ⟨rfl, hb⟩; have n0_ := Aside0.mk (Kd.R_below (by (with_reducible repeat (first | apply Kd.R_alloc | apply Kd.R_drewN | apply Kd.R_drew)); exact HO_5.out) hb); have n1_ := Aside0.mk (below_step (by repeat (first | (with_reducible first | exact HB.out | apply below_alloc | apply pw_below_drewN | apply below_drew1) | exact HB.out)) hb); clear HO_5; clear HB; have HO_5 := n0_; have HB := n1_; clear n0_ n1_; (try clear hb); (try clear hb2); (try clear hk); (try clear hi)))
       go_roundg k3
       case measure => have := HK1.out; have := HK2.out; have := HK3.out; omega
       case rel => exact ⟨(wrap64 (x6_3 + 1)), (by first | rfl | (simp; done) | (simp [*]; done)), H', ⟨by have := HK1.out; have := HK2.out; have := HK3.out; omega⟩, ⟨by (with_reducible repeat (first | apply Kd.R_alloc | apply Kd.R_drewN | apply Kd.R_drew)); exact HO_5.out⟩, ⟨by repeat (first | (with_reducible first | exact HB.out | apply below_alloc | apply pw_below_drewN | apply below_drew1) | exact HB.out)⟩⟩
/-- THE ONE PURE STATEMENT of signetrylaw02_TextKnown: yours. -/
def signetrylaw02_TextKnown.Pure : Prop := ∃ k, signetrylaw02_TextKnown.f k  = some true
theorem signetrylaw02_TextKnown.walk (P : signetrylaw02_TextKnown.Pure)  (w : World)  (HTB_ : Tabs w) :
    Calls Tryd.prog 11 #[] w fun e w' => e = .returned (.bool true) ∧ Below w.heap.size w w' := by
  obtain ⟨k, h⟩ := P  
  refine (signetrylaw02_TextKnown.calls k  true w h HTB_).mono ?_
  rintro e w' ⟨rfl, hd⟩
  exact ⟨rfl, hd⟩
end Go.Proofs.YtaklkcnohbbfoaaDoor.PAll
