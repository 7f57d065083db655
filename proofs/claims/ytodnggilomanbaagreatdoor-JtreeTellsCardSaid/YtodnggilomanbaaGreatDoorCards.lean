/-
  DERIVED. GIVEN WITH THE SEED: THE CARDS: each row of YtodnggilomanbaaGreatDoorRows.lean that lists a variable, with what it lists TIED to the program's text (the seventh form; the later family's looks); each row that meets fmt, with fmt's text TOLD by the authors' own Lean function (tested against real Go, not proved from fmt's source: count such statements apart). THE CARD IS WHAT COUNTS. Prove the row's statement (the work); the ties are given (YtodnggilomanbaaGreatDoorTie.lean); close each card by the builder's one call (the guide's Derived/Test/ToyasCard.lean, 'card_holds'). Laid BY PROGRAM, IN A SANDBOX (cutbox-door.mjs). By AI agents, Wed Nov 11 2026. No macro, syntax, notation, axiom, sorry.
-/
import Derived.Test.YtodnggilomanbaaGreatDoorRows
import GoSem.ClaimSeven
namespace Go.Proofs.YtodnggilomanbaaGreatDoor
namespace Rows

/-- THE TIED CARD OF 'signetrylaw14.JtreeKnown'. -/
def jtreeKnownCard : Claim7 := { stood := { row := jtreeKnownRow, standIns := [], harness := (true, "bce254dacccfde969980539c08b8508508867a51e0382c75993c0f7e90e2f1c8"), looks := true }, kinds := [], alts := [], laidByText := true, laidKinds := [.data, .pinned, .pinned], laidTests := true, laidLooks := .later }
def JtreeKnownCardSaid : Prop := Claim7.holds Tryz.pinned (.plain (OpenSpec.ofChange jtreeKnownSpec)) jtreeKnownCard

/-- THE TIED CARD OF 'signetrylaw14.JtreeTells'. -/
def jtreeTellsCard : Claim7 := { stood := { row := jtreeTellsRow, standIns := [], harness := (true, "bce254dacccfde969980539c08b8508508867a51e0382c75993c0f7e90e2f1c8"), looks := true }, kinds := [], alts := [], laidByText := true, laidKinds := [.data, .pinned, .pinned], laidTests := true, laidLooks := .later }
def JtreeTellsCardSaid : Prop := Claim7.holds Tryz.pinned (.plain (OpenSpec.ofChange jtreeTellsSpec)) jtreeTellsCard

/-- THE TIED CARD OF 'signetrylaw14.JtreeReads'. -/
def jtreeReadsCard : Claim7 := { stood := { row := jtreeReadsRow, standIns := [], harness := (true, "bce254dacccfde969980539c08b8508508867a51e0382c75993c0f7e90e2f1c8"), looks := true }, kinds := [], alts := [], laidByText := true, laidKinds := [.data, .pinned, .pinned], laidTests := true, laidLooks := .later }
def JtreeReadsCardSaid : Prop := Claim7.holds Tryz.pinned (.plain (OpenSpec.ofChange jtreeReadsSpec)) jtreeReadsCard

/-- THE TIED CARD OF 'signetrylaw14.JtreeBlanks'. -/
def jtreeBlanksCard : Claim7 := { stood := { row := jtreeBlanksRow, standIns := [], harness := (true, "bce254dacccfde969980539c08b8508508867a51e0382c75993c0f7e90e2f1c8"), looks := true }, kinds := [], alts := [], laidByText := true, laidKinds := [.data, .pinned, .pinned], laidTests := true, laidLooks := .later }
def JtreeBlanksCardSaid : Prop := Claim7.holds Tryz.pinned (.plain (OpenSpec.ofChange jtreeBlanksSpec)) jtreeBlanksCard

/-- THE SECOND FORM's CARD OF 'signetrylaw14.JtreeKnown'. -/
def jtreeKnownUptoCard : Claim7 := { stood := { row := jtreeKnownUptoRow, standIns := [], harness := (true, "bce254dacccfde969980539c08b8508508867a51e0382c75993c0f7e90e2f1c8"), looks := true }, kinds := [], alts := [], laidByText := true, laidKinds := [.data, .pinned, .pinned], laidTests := true, laidLooks := .later }
def JtreeKnownUptoCardSaid : Prop := Claim7.holds Tryz.pinned (.plain (OpenSpec.upto jtreeKnownSpec)) jtreeKnownUptoCard

/-- THE SECOND FORM's CARD OF 'signetrylaw14.JtreeTells'. -/
def jtreeTellsUptoCard : Claim7 := { stood := { row := jtreeTellsUptoRow, standIns := [], harness := (true, "bce254dacccfde969980539c08b8508508867a51e0382c75993c0f7e90e2f1c8"), looks := true }, kinds := [], alts := [], laidByText := true, laidKinds := [.data, .pinned, .pinned], laidTests := true, laidLooks := .later }
def JtreeTellsUptoCardSaid : Prop := Claim7.holds Tryz.pinned (.plain (OpenSpec.upto jtreeTellsSpec)) jtreeTellsUptoCard

/-- THE SECOND FORM's CARD OF 'signetrylaw14.JtreeReads'. -/
def jtreeReadsUptoCard : Claim7 := { stood := { row := jtreeReadsUptoRow, standIns := [], harness := (true, "bce254dacccfde969980539c08b8508508867a51e0382c75993c0f7e90e2f1c8"), looks := true }, kinds := [], alts := [], laidByText := true, laidKinds := [.data, .pinned, .pinned], laidTests := true, laidLooks := .later }
def JtreeReadsUptoCardSaid : Prop := Claim7.holds Tryz.pinned (.plain (OpenSpec.upto jtreeReadsSpec)) jtreeReadsUptoCard

/-- THE SECOND FORM's CARD OF 'signetrylaw14.JtreeBlanks'. -/
def jtreeBlanksUptoCard : Claim7 := { stood := { row := jtreeBlanksUptoRow, standIns := [], harness := (true, "bce254dacccfde969980539c08b8508508867a51e0382c75993c0f7e90e2f1c8"), looks := true }, kinds := [], alts := [], laidByText := true, laidKinds := [.data, .pinned, .pinned], laidTests := true, laidLooks := .later }
def JtreeBlanksUptoCardSaid : Prop := Claim7.holds Tryz.pinned (.plain (OpenSpec.upto jtreeBlanksSpec)) jtreeBlanksUptoCard
end Rows
end Go.Proofs.YtodnggilomanbaaGreatDoor
