/-
  What base's Text and Bytes answer, as plain functions on lists of whole numbers: no program, no memory.
-/
import Derived.Test.YtbgncppjoaihlaaWMore
namespace Go.Proofs.Ytbgncppjoaihlaa.Hand
open Go.RowKit Go.Proofs.YtbgncppjoaihlaaW.PrintWords

def letters : ByteArray := ⟨#[65, 66, 67, 68, 69, 70, 71, 72, 73, 74, 75, 76, 77, 78, 79, 80, 81, 82, 83, 84, 85, 86, 87, 88, 89, 90, 97, 98, 99, 100, 101, 102, 103, 104, 105, 106, 107, 108, 109, 110, 111, 112, 113, 114, 115, 116, 117, 118, 119, 120, 121, 122, 48, 49, 50, 51, 52, 53, 54, 55, 56, 57, 43, 47]⟩
/-- The letter of a number from 0 to 63. -/
def lt (n : Int) : Int := bt letters n
/-- Bytes as letters. -/
def enc : List Int → List Int
  | [] => []
  | [a] => [lt (a / 4), lt (a % 4 * 16), 61, 61]
  | [a, b] => [lt (a / 4), lt (a % 4 * 16 + b / 16), lt (b % 16 * 4), 61]
  | a :: b :: c :: r => lt (a / 4) :: lt (a % 4 * 16 + b / 16) :: lt (b % 16 * 4 + c / 64) :: lt (c % 64) :: enc r
/-- All are bytes. -/
def isB (l : List Int) : Bool := l.all fun x => decide (0 ≤ x) && decide (x ≤ 255)
/-- base.Text. -/
def base_Text.f (l0 : List Int) : Option ByteArray := if isB l0 = true ∧ l0.length ≤ 1099511627776 then some (strOfNums (enc l0)) else none
end Go.Proofs.Ytbgncppjoaihlaa.Hand
