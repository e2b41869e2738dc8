/-
  DERIVED. GIVEN WITH THE SEED: THE CARDS: each row of YtdkcdodkhghfhaaGreatDoorRows.lean that lists a variable, with what it lists TIED to the program's text (the seventh form; the later family's looks); each row that meets fmt, with fmt's text TOLD by the authors' own Lean function (tested against real Go, not proved from fmt's source: count such statements apart). THE CARD IS WHAT COUNTS. Prove the row's statement (the work); the ties are given (YtdkcdodkhghfhaaGreatDoorTie.lean); close each card by the builder's one call (the guide's Derived/Test/ToyasCard.lean, 'card_holds'). Laid BY PROGRAM, IN A SANDBOX (cutbox-door.mjs). By AI agents, Wed Nov 11 2026. No macro, syntax, notation, axiom, sorry.
-/
import Derived.Test.YtdkcdodkhghfhaaGreatDoorRows
import GoSem.ClaimSeven
namespace Go.Proofs.YtdkcdodkhghfhaaGreatDoor
namespace Rows

/-- THE TIED CARD OF 'facsimilelaw01.LangPieces'. -/
def langPiecesCard : Claim7 := { stood := { row := langPiecesRow, standIns := [], harness := (true, "ccbe22cca713a7cd24acdf721f9385fa730b70e454866792383589ea4dd9da90"), looks := true }, kinds := [], alts := [], laidByText := true, laidKinds := [.data, .data, .data, .data, .sentinel, .sentinel, .pinned], laidTests := true, laidLooks := .later }
def LangPiecesCardSaid : Prop := Claim7.holds Tryz.pinned (.plain (OpenSpec.ofChange langPiecesSpec)) langPiecesCard

/-- THE TIED CARD OF 'facsimilelaw01.LangKeeps'. -/
def langKeepsCard : Claim7 := { stood := { row := langKeepsRow, standIns := [], harness := (true, "ccbe22cca713a7cd24acdf721f9385fa730b70e454866792383589ea4dd9da90"), looks := true }, kinds := [], alts := [], laidByText := true, laidKinds := [.data, .data, .data, .data, .sentinel, .sentinel, .pinned], laidTests := true, laidLooks := .later }
def LangKeepsCardSaid : Prop := Claim7.holds Tryz.pinned (.plain (OpenSpec.ofChange langKeepsSpec)) langKeepsCard

/-- THE TIED CARD OF 'facsimilelaw01.LangLines'. -/
def langLinesCard : Claim7 := { stood := { row := langLinesRow, standIns := [], harness := (true, "ccbe22cca713a7cd24acdf721f9385fa730b70e454866792383589ea4dd9da90"), looks := true }, kinds := [], alts := [], laidByText := true, laidKinds := [.data, .data, .data, .data, .sentinel, .sentinel, .pinned], laidTests := true, laidLooks := .later }
def LangLinesCardSaid : Prop := Claim7.holds Tryz.pinned (.plain (OpenSpec.ofChange langLinesSpec)) langLinesCard

/-- THE TIED CARD OF 'facsimilelaw01.LangReads'. -/
def langReadsCard : Claim7 := { stood := { row := langReadsRow, standIns := [], harness := (true, "ccbe22cca713a7cd24acdf721f9385fa730b70e454866792383589ea4dd9da90"), looks := true }, kinds := [], alts := [], laidByText := true, laidKinds := [.data, .data, .data, .data, .sentinel, .sentinel, .pinned], laidTests := true, laidLooks := .later }
def LangReadsCardSaid : Prop := Claim7.holds Tryz.pinned (.plain (OpenSpec.ofChange langReadsSpec)) langReadsCard

/-- THE TIED CARD OF 'facsimilelaw01.LangNames'. -/
def langNamesCard : Claim7 := { stood := { row := langNamesRow, standIns := [], harness := (true, "ccbe22cca713a7cd24acdf721f9385fa730b70e454866792383589ea4dd9da90"), looks := true }, kinds := [], alts := [], laidByText := true, laidKinds := [.data, .data, .data, .data, .sentinel, .sentinel, .pinned], laidTests := true, laidLooks := .later }
def LangNamesCardSaid : Prop := Claim7.holds Tryz.pinned (.plain (OpenSpec.ofChange langNamesSpec)) langNamesCard

/-- THE TIED CARD OF 'facsimilelaw01.LangPrints'. -/
def langPrintsCard : Claim7 := { stood := { row := langPrintsRow, standIns := [], harness := (true, "ccbe22cca713a7cd24acdf721f9385fa730b70e454866792383589ea4dd9da90"), looks := true }, kinds := [], alts := [], laidByText := true, laidKinds := [.data, .data, .data, .data, .sentinel, .sentinel, .pinned], laidTests := true, laidLooks := .later }
def LangPrintsCardSaid : Prop := Claim7.holds Tryz.pinned (.plain (OpenSpec.ofChange langPrintsSpec)) langPrintsCard

/-- THE TIED CARD OF 'facsimilelaw01.LangParses'. -/
def langParsesCard : Claim7 := { stood := { row := langParsesRow, standIns := [], harness := (true, "ccbe22cca713a7cd24acdf721f9385fa730b70e454866792383589ea4dd9da90"), looks := true }, kinds := [], alts := [], laidByText := true, laidKinds := [.data, .data, .data, .data, .sentinel, .sentinel, .pinned], laidTests := true, laidLooks := .later }
def LangParsesCardSaid : Prop := Claim7.holds Tryz.pinned (.plain (OpenSpec.ofChange langParsesSpec)) langParsesCard

/-- THE TIED CARD OF 'facsimilelaw01.LangEqual'. -/
def langEqualCard : Claim7 := { stood := { row := langEqualRow, standIns := [], harness := (true, "ccbe22cca713a7cd24acdf721f9385fa730b70e454866792383589ea4dd9da90"), looks := true }, kinds := [], alts := [], laidByText := true, laidKinds := [.data, .data, .data, .data, .sentinel, .sentinel, .pinned], laidTests := true, laidLooks := .later }
def LangEqualCardSaid : Prop := Claim7.holds Tryz.pinned (.plain (OpenSpec.ofChange langEqualSpec)) langEqualCard

/-- THE TIED CARD OF 'facsimilelaw01.LangLimits'. -/
def langLimitsCard : Claim7 := { stood := { row := langLimitsRow, standIns := [], harness := (true, "ccbe22cca713a7cd24acdf721f9385fa730b70e454866792383589ea4dd9da90"), looks := true }, kinds := [], alts := [], laidByText := true, laidKinds := [.data, .data, .data, .data, .sentinel, .sentinel, .pinned], laidTests := true, laidLooks := .later }
def LangLimitsCardSaid : Prop := Claim7.holds Tryz.pinned (.plain (OpenSpec.ofChange langLimitsSpec)) langLimitsCard

/-- THE TIED CARD OF 'facsimilelaw01.LangRaw'. -/
def langRawCard : Claim7 := { stood := { row := langRawRow, standIns := [], harness := (true, "ccbe22cca713a7cd24acdf721f9385fa730b70e454866792383589ea4dd9da90"), looks := true }, kinds := [], alts := [], laidByText := true, laidKinds := [.data, .data, .data, .data, .sentinel, .sentinel, .pinned], laidTests := true, laidLooks := .later }
def LangRawCardSaid : Prop := Claim7.holds Tryz.pinned (.plain (OpenSpec.ofChange langRawSpec)) langRawCard

/-- THE SECOND FORM's CARD OF 'facsimilelaw01.LangPieces'. -/
def langPiecesUptoCard : Claim7 := { stood := { row := langPiecesUptoRow, standIns := [], harness := (true, "ccbe22cca713a7cd24acdf721f9385fa730b70e454866792383589ea4dd9da90"), looks := true }, kinds := [], alts := [], laidByText := true, laidKinds := [.data, .data, .data, .data, .sentinel, .sentinel, .pinned], laidTests := true, laidLooks := .later }
def LangPiecesUptoCardSaid : Prop := Claim7.holds Tryz.pinned (.plain (OpenSpec.upto langPiecesSpec)) langPiecesUptoCard

/-- THE SECOND FORM's CARD OF 'facsimilelaw01.LangKeeps'. -/
def langKeepsUptoCard : Claim7 := { stood := { row := langKeepsUptoRow, standIns := [], harness := (true, "ccbe22cca713a7cd24acdf721f9385fa730b70e454866792383589ea4dd9da90"), looks := true }, kinds := [], alts := [], laidByText := true, laidKinds := [.data, .data, .data, .data, .sentinel, .sentinel, .pinned], laidTests := true, laidLooks := .later }
def LangKeepsUptoCardSaid : Prop := Claim7.holds Tryz.pinned (.plain (OpenSpec.upto langKeepsSpec)) langKeepsUptoCard

/-- THE SECOND FORM's CARD OF 'facsimilelaw01.LangLines'. -/
def langLinesUptoCard : Claim7 := { stood := { row := langLinesUptoRow, standIns := [], harness := (true, "ccbe22cca713a7cd24acdf721f9385fa730b70e454866792383589ea4dd9da90"), looks := true }, kinds := [], alts := [], laidByText := true, laidKinds := [.data, .data, .data, .data, .sentinel, .sentinel, .pinned], laidTests := true, laidLooks := .later }
def LangLinesUptoCardSaid : Prop := Claim7.holds Tryz.pinned (.plain (OpenSpec.upto langLinesSpec)) langLinesUptoCard

/-- THE SECOND FORM's CARD OF 'facsimilelaw01.LangReads'. -/
def langReadsUptoCard : Claim7 := { stood := { row := langReadsUptoRow, standIns := [], harness := (true, "ccbe22cca713a7cd24acdf721f9385fa730b70e454866792383589ea4dd9da90"), looks := true }, kinds := [], alts := [], laidByText := true, laidKinds := [.data, .data, .data, .data, .sentinel, .sentinel, .pinned], laidTests := true, laidLooks := .later }
def LangReadsUptoCardSaid : Prop := Claim7.holds Tryz.pinned (.plain (OpenSpec.upto langReadsSpec)) langReadsUptoCard

/-- THE SECOND FORM's CARD OF 'facsimilelaw01.LangNames'. -/
def langNamesUptoCard : Claim7 := { stood := { row := langNamesUptoRow, standIns := [], harness := (true, "ccbe22cca713a7cd24acdf721f9385fa730b70e454866792383589ea4dd9da90"), looks := true }, kinds := [], alts := [], laidByText := true, laidKinds := [.data, .data, .data, .data, .sentinel, .sentinel, .pinned], laidTests := true, laidLooks := .later }
def LangNamesUptoCardSaid : Prop := Claim7.holds Tryz.pinned (.plain (OpenSpec.upto langNamesSpec)) langNamesUptoCard

/-- THE SECOND FORM's CARD OF 'facsimilelaw01.LangPrints'. -/
def langPrintsUptoCard : Claim7 := { stood := { row := langPrintsUptoRow, standIns := [], harness := (true, "ccbe22cca713a7cd24acdf721f9385fa730b70e454866792383589ea4dd9da90"), looks := true }, kinds := [], alts := [], laidByText := true, laidKinds := [.data, .data, .data, .data, .sentinel, .sentinel, .pinned], laidTests := true, laidLooks := .later }
def LangPrintsUptoCardSaid : Prop := Claim7.holds Tryz.pinned (.plain (OpenSpec.upto langPrintsSpec)) langPrintsUptoCard

/-- THE SECOND FORM's CARD OF 'facsimilelaw01.LangParses'. -/
def langParsesUptoCard : Claim7 := { stood := { row := langParsesUptoRow, standIns := [], harness := (true, "ccbe22cca713a7cd24acdf721f9385fa730b70e454866792383589ea4dd9da90"), looks := true }, kinds := [], alts := [], laidByText := true, laidKinds := [.data, .data, .data, .data, .sentinel, .sentinel, .pinned], laidTests := true, laidLooks := .later }
def LangParsesUptoCardSaid : Prop := Claim7.holds Tryz.pinned (.plain (OpenSpec.upto langParsesSpec)) langParsesUptoCard

/-- THE SECOND FORM's CARD OF 'facsimilelaw01.LangEqual'. -/
def langEqualUptoCard : Claim7 := { stood := { row := langEqualUptoRow, standIns := [], harness := (true, "ccbe22cca713a7cd24acdf721f9385fa730b70e454866792383589ea4dd9da90"), looks := true }, kinds := [], alts := [], laidByText := true, laidKinds := [.data, .data, .data, .data, .sentinel, .sentinel, .pinned], laidTests := true, laidLooks := .later }
def LangEqualUptoCardSaid : Prop := Claim7.holds Tryz.pinned (.plain (OpenSpec.upto langEqualSpec)) langEqualUptoCard

/-- THE SECOND FORM's CARD OF 'facsimilelaw01.LangLimits'. -/
def langLimitsUptoCard : Claim7 := { stood := { row := langLimitsUptoRow, standIns := [], harness := (true, "ccbe22cca713a7cd24acdf721f9385fa730b70e454866792383589ea4dd9da90"), looks := true }, kinds := [], alts := [], laidByText := true, laidKinds := [.data, .data, .data, .data, .sentinel, .sentinel, .pinned], laidTests := true, laidLooks := .later }
def LangLimitsUptoCardSaid : Prop := Claim7.holds Tryz.pinned (.plain (OpenSpec.upto langLimitsSpec)) langLimitsUptoCard

/-- THE SECOND FORM's CARD OF 'facsimilelaw01.LangRaw'. -/
def langRawUptoCard : Claim7 := { stood := { row := langRawUptoRow, standIns := [], harness := (true, "ccbe22cca713a7cd24acdf721f9385fa730b70e454866792383589ea4dd9da90"), looks := true }, kinds := [], alts := [], laidByText := true, laidKinds := [.data, .data, .data, .data, .sentinel, .sentinel, .pinned], laidTests := true, laidLooks := .later }
def LangRawUptoCardSaid : Prop := Claim7.holds Tryz.pinned (.plain (OpenSpec.upto langRawSpec)) langRawUptoCard
end Rows
end Go.Proofs.YtdkcdodkhghfhaaGreatDoor
