/-
  DERIVED. GIVEN WITH THE SEED: THE CARDS: each row of YtodnggilomanbaaDoorRows.lean that lists a variable, with what it lists TIED to the program's text (the seventh form; the later family's looks); each row that meets fmt, with fmt's text TOLD by the authors' own Lean function (tested against real Go, not proved from fmt's source: count such statements apart). THE CARD IS WHAT COUNTS. Prove the row's statement (the work); the ties are given (YtodnggilomanbaaDoorTie.lean); close each card by the builder's one call (the guide's Derived/Test/ToyasCard.lean, 'card_holds'). Laid BY PROGRAM, IN A SANDBOX (cutbox-door.mjs). By AI agents, Wed Nov 11 2026. No macro, syntax, notation, axiom, sorry.
-/
import Derived.Test.YtodnggilomanbaaDoorRows
import GoSem.ClaimSeven
namespace Go.Proofs.YtodnggilomanbaaDoor
namespace Rows

/-- THE TIED CARD OF 'signetrylaw14.JtreeSpelt'. -/
def jtreeSpeltCard : Claim7 := { stood := { row := jtreeSpeltRow, standIns := [], harness := (true, "a9585f6c819f2d24112972f2d4a33ca2184d9be6f04b5676ce26d4fb40ddabbf"), looks := true }, kinds := [], alts := [], laidByText := true, laidKinds := [.data, .pinned, .pinned], laidTests := true, laidLooks := .later }
def JtreeSpeltCardSaid : Prop := Claim7.holds Tryd.pinned (.plain (OpenSpec.ofChange jtreeSpeltSpec)) jtreeSpeltCard

/-- THE TIED CARD OF 'signetrylaw14.JtreeBack'. -/
def jtreeBackCard : Claim7 := { stood := { row := jtreeBackRow, standIns := [], harness := (true, "a9585f6c819f2d24112972f2d4a33ca2184d9be6f04b5676ce26d4fb40ddabbf"), looks := true }, kinds := [], alts := [], laidByText := true, laidKinds := [.data, .pinned, .pinned], laidTests := true, laidLooks := .later }
def JtreeBackCardSaid : Prop := Claim7.holds Tryd.pinned (.plain (OpenSpec.ofChange jtreeBackSpec)) jtreeBackCard

/-- THE TIED CARD OF 'signetrylaw14.JtreeAgain'. -/
def jtreeAgainCard : Claim7 := { stood := { row := jtreeAgainRow, standIns := [], harness := (true, "a9585f6c819f2d24112972f2d4a33ca2184d9be6f04b5676ce26d4fb40ddabbf"), looks := true }, kinds := [], alts := [], laidByText := true, laidKinds := [.data, .pinned, .pinned], laidTests := true, laidLooks := .later }
def JtreeAgainCardSaid : Prop := Claim7.holds Tryd.pinned (.plain (OpenSpec.ofChange jtreeAgainSpec)) jtreeAgainCard

/-- THE TIED CARD OF 'signetrylaw14.JtreeCuts'. -/
def jtreeCutsCard : Claim7 := { stood := { row := jtreeCutsRow, standIns := [], harness := (true, "a9585f6c819f2d24112972f2d4a33ca2184d9be6f04b5676ce26d4fb40ddabbf"), looks := true }, kinds := [], alts := [], laidByText := true, laidKinds := [.data, .pinned, .pinned], laidTests := true, laidLooks := .later }
def JtreeCutsCardSaid : Prop := Claim7.holds Tryd.pinned (.plain (OpenSpec.ofChange jtreeCutsSpec)) jtreeCutsCard

/-- THE SECOND FORM's CARD OF 'signetrylaw14.JtreeSpelt'. -/
def jtreeSpeltUptoCard : Claim7 := { stood := { row := jtreeSpeltUptoRow, standIns := [], harness := (true, "a9585f6c819f2d24112972f2d4a33ca2184d9be6f04b5676ce26d4fb40ddabbf"), looks := true }, kinds := [], alts := [], laidByText := true, laidKinds := [.data, .pinned, .pinned], laidTests := true, laidLooks := .later }
def JtreeSpeltUptoCardSaid : Prop := Claim7.holds Tryd.pinned (.plain (OpenSpec.upto jtreeSpeltSpec)) jtreeSpeltUptoCard

/-- THE SECOND FORM's CARD OF 'signetrylaw14.JtreeBack'. -/
def jtreeBackUptoCard : Claim7 := { stood := { row := jtreeBackUptoRow, standIns := [], harness := (true, "a9585f6c819f2d24112972f2d4a33ca2184d9be6f04b5676ce26d4fb40ddabbf"), looks := true }, kinds := [], alts := [], laidByText := true, laidKinds := [.data, .pinned, .pinned], laidTests := true, laidLooks := .later }
def JtreeBackUptoCardSaid : Prop := Claim7.holds Tryd.pinned (.plain (OpenSpec.upto jtreeBackSpec)) jtreeBackUptoCard

/-- THE SECOND FORM's CARD OF 'signetrylaw14.JtreeAgain'. -/
def jtreeAgainUptoCard : Claim7 := { stood := { row := jtreeAgainUptoRow, standIns := [], harness := (true, "a9585f6c819f2d24112972f2d4a33ca2184d9be6f04b5676ce26d4fb40ddabbf"), looks := true }, kinds := [], alts := [], laidByText := true, laidKinds := [.data, .pinned, .pinned], laidTests := true, laidLooks := .later }
def JtreeAgainUptoCardSaid : Prop := Claim7.holds Tryd.pinned (.plain (OpenSpec.upto jtreeAgainSpec)) jtreeAgainUptoCard

/-- THE SECOND FORM's CARD OF 'signetrylaw14.JtreeCuts'. -/
def jtreeCutsUptoCard : Claim7 := { stood := { row := jtreeCutsUptoRow, standIns := [], harness := (true, "a9585f6c819f2d24112972f2d4a33ca2184d9be6f04b5676ce26d4fb40ddabbf"), looks := true }, kinds := [], alts := [], laidByText := true, laidKinds := [.data, .pinned, .pinned], laidTests := true, laidLooks := .later }
def JtreeCutsUptoCardSaid : Prop := Claim7.holds Tryd.pinned (.plain (OpenSpec.upto jtreeCutsSpec)) jtreeCutsUptoCard
end Rows
end Go.Proofs.YtodnggilomanbaaDoor
