/-
  DERIVED. GIVEN WITH THE SEED: THE CARDS: each row of YtaklkcnohbbfoaaDoorRows.lean that lists a variable, with what it lists TIED to the program's text (the seventh form; the later family's looks); each row that meets fmt, with fmt's text TOLD by the authors' own Lean function (tested against real Go, not proved from fmt's source: count such statements apart). THE CARD IS WHAT COUNTS. Prove the row's statement (the work); the ties are given (YtaklkcnohbbfoaaDoorTie.lean); close each card by the builder's one call (the guide's Derived/Test/ToyasCard.lean, 'card_holds'). Laid BY PROGRAM, IN A SANDBOX (cutbox-door.mjs). By AI agents, Wed Nov 11 2026. No macro, syntax, notation, axiom, sorry.
-/
import Derived.Test.YtaklkcnohbbfoaaDoorRows
import GoSem.ClaimSeven
namespace Go.Proofs.YtaklkcnohbbfoaaDoor
namespace Rows

/-- THE TIED CARD OF 'signetrylaw02.TextRunes'. -/
def textRunesCard : Claim7 := { stood := { row := textRunesRow, standIns := [], harness := (true, "84bc8bc413d2bf6de1787c25e75c3f94ea9b97013b1eb38985aa11eacabed560"), looks := true }, kinds := [], alts := [], laidByText := true, laidKinds := [.data, .data, .data, .data, .sentinel, .sentinel, .pinned], laidTests := true, laidLooks := .later }
def TextRunesCardSaid : Prop := Claim7.holds Tryd.pinned (.plain (OpenSpec.ofChange textRunesSpec)) textRunesCard

/-- THE TIED CARD OF 'signetrylaw02.TextNames'. -/
def textNamesCard : Claim7 := { stood := { row := textNamesRow, standIns := [], harness := (true, "84bc8bc413d2bf6de1787c25e75c3f94ea9b97013b1eb38985aa11eacabed560"), looks := true }, kinds := [], alts := [], laidByText := true, laidKinds := [.data, .data, .data, .data, .sentinel, .sentinel, .pinned], laidTests := true, laidLooks := .later }
def TextNamesCardSaid : Prop := Claim7.holds Tryd.pinned (.plain (OpenSpec.ofChange textNamesSpec)) textNamesCard

/-- THE TIED CARD OF 'signetrylaw02.TextQuotes'. -/
def textQuotesCard : Claim7 := { stood := { row := textQuotesRow, standIns := [], harness := (true, "84bc8bc413d2bf6de1787c25e75c3f94ea9b97013b1eb38985aa11eacabed560"), looks := true }, kinds := [], alts := [], laidByText := true, laidKinds := [.data, .data, .data, .data, .sentinel, .sentinel, .pinned], laidTests := true, laidLooks := .later }
def TextQuotesCardSaid : Prop := Claim7.holds Tryd.pinned (.plain (OpenSpec.ofChange textQuotesSpec)) textQuotesCard

/-- THE TIED CARD OF 'signetrylaw02.TextBack'. -/
def textBackCard : Claim7 := { stood := { row := textBackRow, standIns := [], harness := (true, "84bc8bc413d2bf6de1787c25e75c3f94ea9b97013b1eb38985aa11eacabed560"), looks := true }, kinds := [], alts := [], laidByText := true, laidKinds := [.data, .data, .data, .data, .sentinel, .sentinel, .pinned], laidTests := true, laidLooks := .later }
def TextBackCardSaid : Prop := Claim7.holds Tryd.pinned (.plain (OpenSpec.ofChange textBackSpec)) textBackCard

/-- THE TIED CARD OF 'signetrylaw02.TextValid'. -/
def textValidCard : Claim7 := { stood := { row := textValidRow, standIns := [], harness := (true, "84bc8bc413d2bf6de1787c25e75c3f94ea9b97013b1eb38985aa11eacabed560"), looks := true }, kinds := [], alts := [], laidByText := true, laidKinds := [.data, .data, .data, .data, .sentinel, .sentinel, .pinned], laidTests := true, laidLooks := .later }
def TextValidCardSaid : Prop := Claim7.holds Tryd.pinned (.plain (OpenSpec.ofChange textValidSpec)) textValidCard

/-- THE TIED CARD OF 'signetrylaw02.TextTidy'. -/
def textTidyCard : Claim7 := { stood := { row := textTidyRow, standIns := [], harness := (true, "84bc8bc413d2bf6de1787c25e75c3f94ea9b97013b1eb38985aa11eacabed560"), looks := true }, kinds := [], alts := [], laidByText := true, laidKinds := [.data, .data, .data, .data, .sentinel, .sentinel, .pinned], laidTests := true, laidLooks := .later }
def TextTidyCardSaid : Prop := Claim7.holds Tryd.pinned (.plain (OpenSpec.ofChange textTidySpec)) textTidyCard

/-- THE TIED CARD OF 'signetrylaw02.TextSpelt'. -/
def textSpeltCard : Claim7 := { stood := { row := textSpeltRow, standIns := [], harness := (true, "84bc8bc413d2bf6de1787c25e75c3f94ea9b97013b1eb38985aa11eacabed560"), looks := true }, kinds := [], alts := [], laidByText := true, laidKinds := [.data, .data, .data, .data, .sentinel, .sentinel, .pinned], laidTests := true, laidLooks := .later }
def TextSpeltCardSaid : Prop := Claim7.holds Tryd.pinned (.plain (OpenSpec.ofChange textSpeltSpec)) textSpeltCard

/-- THE TIED CARD OF 'signetrylaw02.TextKeys'. -/
def textKeysCard : Claim7 := { stood := { row := textKeysRow, standIns := [], harness := (true, "84bc8bc413d2bf6de1787c25e75c3f94ea9b97013b1eb38985aa11eacabed560"), looks := true }, kinds := [], alts := [], laidByText := true, laidKinds := [.data, .data, .data, .data, .sentinel, .sentinel, .pinned], laidTests := true, laidLooks := .later }
def TextKeysCardSaid : Prop := Claim7.holds Tryd.pinned (.plain (OpenSpec.ofChange textKeysSpec)) textKeysCard

/-- THE TIED CARD OF 'signetrylaw02.TextKnown'. -/
def textKnownCard : Claim7 := { stood := { row := textKnownRow, standIns := [], harness := (true, "84bc8bc413d2bf6de1787c25e75c3f94ea9b97013b1eb38985aa11eacabed560"), looks := true }, kinds := [], alts := [], laidByText := true, laidKinds := [.data, .data, .data, .data, .sentinel, .sentinel, .pinned], laidTests := true, laidLooks := .later }
def TextKnownCardSaid : Prop := Claim7.holds Tryd.pinned (.plain (OpenSpec.ofChange textKnownSpec)) textKnownCard

/-- THE SECOND FORM's CARD OF 'signetrylaw02.TextRunes'. -/
def textRunesUptoCard : Claim7 := { stood := { row := textRunesUptoRow, standIns := [], harness := (true, "84bc8bc413d2bf6de1787c25e75c3f94ea9b97013b1eb38985aa11eacabed560"), looks := true }, kinds := [], alts := [], laidByText := true, laidKinds := [.data, .data, .data, .data, .sentinel, .sentinel, .pinned], laidTests := true, laidLooks := .later }
def TextRunesUptoCardSaid : Prop := Claim7.holds Tryd.pinned (.plain (OpenSpec.upto textRunesSpec)) textRunesUptoCard

/-- THE SECOND FORM's CARD OF 'signetrylaw02.TextNames'. -/
def textNamesUptoCard : Claim7 := { stood := { row := textNamesUptoRow, standIns := [], harness := (true, "84bc8bc413d2bf6de1787c25e75c3f94ea9b97013b1eb38985aa11eacabed560"), looks := true }, kinds := [], alts := [], laidByText := true, laidKinds := [.data, .data, .data, .data, .sentinel, .sentinel, .pinned], laidTests := true, laidLooks := .later }
def TextNamesUptoCardSaid : Prop := Claim7.holds Tryd.pinned (.plain (OpenSpec.upto textNamesSpec)) textNamesUptoCard

/-- THE SECOND FORM's CARD OF 'signetrylaw02.TextQuotes'. -/
def textQuotesUptoCard : Claim7 := { stood := { row := textQuotesUptoRow, standIns := [], harness := (true, "84bc8bc413d2bf6de1787c25e75c3f94ea9b97013b1eb38985aa11eacabed560"), looks := true }, kinds := [], alts := [], laidByText := true, laidKinds := [.data, .data, .data, .data, .sentinel, .sentinel, .pinned], laidTests := true, laidLooks := .later }
def TextQuotesUptoCardSaid : Prop := Claim7.holds Tryd.pinned (.plain (OpenSpec.upto textQuotesSpec)) textQuotesUptoCard

/-- THE SECOND FORM's CARD OF 'signetrylaw02.TextBack'. -/
def textBackUptoCard : Claim7 := { stood := { row := textBackUptoRow, standIns := [], harness := (true, "84bc8bc413d2bf6de1787c25e75c3f94ea9b97013b1eb38985aa11eacabed560"), looks := true }, kinds := [], alts := [], laidByText := true, laidKinds := [.data, .data, .data, .data, .sentinel, .sentinel, .pinned], laidTests := true, laidLooks := .later }
def TextBackUptoCardSaid : Prop := Claim7.holds Tryd.pinned (.plain (OpenSpec.upto textBackSpec)) textBackUptoCard

/-- THE SECOND FORM's CARD OF 'signetrylaw02.TextValid'. -/
def textValidUptoCard : Claim7 := { stood := { row := textValidUptoRow, standIns := [], harness := (true, "84bc8bc413d2bf6de1787c25e75c3f94ea9b97013b1eb38985aa11eacabed560"), looks := true }, kinds := [], alts := [], laidByText := true, laidKinds := [.data, .data, .data, .data, .sentinel, .sentinel, .pinned], laidTests := true, laidLooks := .later }
def TextValidUptoCardSaid : Prop := Claim7.holds Tryd.pinned (.plain (OpenSpec.upto textValidSpec)) textValidUptoCard

/-- THE SECOND FORM's CARD OF 'signetrylaw02.TextTidy'. -/
def textTidyUptoCard : Claim7 := { stood := { row := textTidyUptoRow, standIns := [], harness := (true, "84bc8bc413d2bf6de1787c25e75c3f94ea9b97013b1eb38985aa11eacabed560"), looks := true }, kinds := [], alts := [], laidByText := true, laidKinds := [.data, .data, .data, .data, .sentinel, .sentinel, .pinned], laidTests := true, laidLooks := .later }
def TextTidyUptoCardSaid : Prop := Claim7.holds Tryd.pinned (.plain (OpenSpec.upto textTidySpec)) textTidyUptoCard

/-- THE SECOND FORM's CARD OF 'signetrylaw02.TextSpelt'. -/
def textSpeltUptoCard : Claim7 := { stood := { row := textSpeltUptoRow, standIns := [], harness := (true, "84bc8bc413d2bf6de1787c25e75c3f94ea9b97013b1eb38985aa11eacabed560"), looks := true }, kinds := [], alts := [], laidByText := true, laidKinds := [.data, .data, .data, .data, .sentinel, .sentinel, .pinned], laidTests := true, laidLooks := .later }
def TextSpeltUptoCardSaid : Prop := Claim7.holds Tryd.pinned (.plain (OpenSpec.upto textSpeltSpec)) textSpeltUptoCard

/-- THE SECOND FORM's CARD OF 'signetrylaw02.TextKeys'. -/
def textKeysUptoCard : Claim7 := { stood := { row := textKeysUptoRow, standIns := [], harness := (true, "84bc8bc413d2bf6de1787c25e75c3f94ea9b97013b1eb38985aa11eacabed560"), looks := true }, kinds := [], alts := [], laidByText := true, laidKinds := [.data, .data, .data, .data, .sentinel, .sentinel, .pinned], laidTests := true, laidLooks := .later }
def TextKeysUptoCardSaid : Prop := Claim7.holds Tryd.pinned (.plain (OpenSpec.upto textKeysSpec)) textKeysUptoCard

/-- THE SECOND FORM's CARD OF 'signetrylaw02.TextKnown'. -/
def textKnownUptoCard : Claim7 := { stood := { row := textKnownUptoRow, standIns := [], harness := (true, "84bc8bc413d2bf6de1787c25e75c3f94ea9b97013b1eb38985aa11eacabed560"), looks := true }, kinds := [], alts := [], laidByText := true, laidKinds := [.data, .data, .data, .data, .sentinel, .sentinel, .pinned], laidTests := true, laidLooks := .later }
def TextKnownUptoCardSaid : Prop := Claim7.holds Tryd.pinned (.plain (OpenSpec.upto textKnownSpec)) textKnownUptoCard
end Rows
end Go.Proofs.YtaklkcnohbbfoaaDoor
