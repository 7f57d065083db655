/-
  What wire's Var and Next answer, as plain functions on lists of whole numbers: no program, no memory.
-/
namespace Go.Proofs.Ytbclejgljegfmaa.Hand

/-- A number's bytes, seven bits each; k: how many there may be but for the last. -/
def vr : Nat → Int → List Int
  | 0, n => [n % 256]
  | k + 1, n => if n < 128 then [n] else (n % 128 + 128) :: vr k (n / 128)
/-- The number with which bytes begin (i bytes of it have been read, they make a): the number, how many bytes it has, the error. -/
def rdn : List Int → Nat → Int → Int × Nat × Int
  | [], _, _ => (0, 0, 3)
  | c :: r, i, a => if i = 9 ∧ c > 1 then (0, 0, 4) else if c < 128 then (a + c * 2 ^ (7 * i), i + 1, 0) else rdn r (i + 1) (a + (c - 128) * 2 ^ (7 * i))
/-- The number of bytes, the lowest one first. -/
def gr : List Int → Int
  | [] => 0
  | c :: r => c + 256 * gr r
/-- All are bytes. -/
def isB (l : List Int) : Bool := l.all fun x => decide (0 ≤ x) && decide (x ≤ 255)
abbrev NextR := Int × Int × Int × List Int × List Int × Int × Int
def noR (e : Int) : NextR := (0, 0, 0, [], [], 0, e)
/-- What stands behind a tag: by its kind: the number, the bytes, how many bytes of text, the error. -/
def body (wire : Int) (r : List Int) : Int × List Int × Nat × Int :=
  if wire = 0 then ((rdn r 0 0).1, [], (rdn r 0 0).2.1, (rdn r 0 0).2.2)
  else if wire = 1 then if 8 ≤ r.length then (gr (r.take 8), [], 8, 0) else (0, [], 0, 3)
  else if wire = 2 then
    if (rdn r 0 0).2.2 ≠ 0 then (0, [], 0, (rdn r 0 0).2.2)
    else if (rdn r 0 0).1 > 1048576 then (0, [], 0, 5)
    else if (rdn r 0 0).1 > (r.length : Int) - ((rdn r 0 0).2.1 : Int) then (0, [], 0, 3)
    else (0, (r.drop (rdn r 0 0).2.1).take (rdn r 0 0).1.toNat, (rdn r 0 0).2.1 + (rdn r 0 0).1.toNat, 0)
  else if wire = 5 then if 4 ≤ r.length then (gr (r.take 4), [], 4, 0) else (0, [], 0, 3)
  else (0, [], 0, 10)
def nxt (l : List Int) : NextR :=
  if (rdn l 0 0).2.2 ≠ 0 then noR (rdn l 0 0).2.2
  else if (rdn l 0 0).1 < 8 ∨ (rdn l 0 0).1 > 4294967295 then noR 4
  else
    if (body ((rdn l 0 0).1 % 8) (l.drop (rdn l 0 0).2.1)).2.2.2 ≠ 0 then noR (body ((rdn l 0 0).1 % 8) (l.drop (rdn l 0 0).2.1)).2.2.2
    else ((rdn l 0 0).1 / 8, (rdn l 0 0).1 % 8, (body ((rdn l 0 0).1 % 8) (l.drop (rdn l 0 0).2.1)).1, (body ((rdn l 0 0).1 % 8) (l.drop (rdn l 0 0).2.1)).2.1,
      l.take ((rdn l 0 0).2.1 + (body ((rdn l 0 0).1 % 8) (l.drop (rdn l 0 0).2.1)).2.2.1), (((rdn l 0 0).2.1 + (body ((rdn l 0 0).1 % 8) (l.drop (rdn l 0 0).2.1)).2.2.1 : Nat) : Int), 0)
end Go.Proofs.Ytbclejgljegfmaa.Hand
