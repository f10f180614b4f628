/-
  DERIVED. GIVEN WITH THE SEED: THE CARDS: each row of YtajcpfcghhbbnaaDoorRows.lean that lists a variable, with what it lists TIED to the program's text (the seventh form; the later family's looks); each row that meets fmt, with fmt's text TOLD by the authors' own Lean function (tested against real Go, not proved from fmt's source: count such statements apart). THE CARD IS WHAT COUNTS. Prove the row's statement (the work); the ties are given (YtajcpfcghhbbnaaDoorTie.lean); close each card by the builder's one call (the guide's Derived/Test/ToyasCard.lean, 'card_holds'). Laid BY PROGRAM, IN A SANDBOX (cutbox-door.mjs). By AI agents, Wed Nov 11 2026. No macro, syntax, notation, axiom, sorry.
-/
import Derived.Test.YtajcpfcghhbbnaaDoorRows
import GoSem.ClaimSeven
namespace Go.Proofs.YtajcpfcghhbbnaaDoor
namespace Rows

/-- THE TIED CARD OF 'wattlelaw17.RowsUnique'. -/
def rowsUniqueCard : Claim7 := { stood := { row := rowsUniqueRow, standIns := [], harness := (true, "b71e151bd0fceea1b5c2f4efd3a7ef0a9e81f226e7f60e5ea8380eee49ec28a2"), looks := false }, kinds := [], alts := [], laidByText := true, laidKinds := [.data, .pinned], laidTests := true, laidLooks := .later }
def RowsUniqueCardSaid : Prop := Claim7.holds Tryd.pinned (.plain (OpenSpec.ofChange rowsUniqueSpec)) rowsUniqueCard

/-- THE TIED CARD OF 'wattlelaw17.RowsSorts'. -/
def rowsSortsCard : Claim7 := { stood := { row := rowsSortsRow, standIns := [], harness := (true, "b71e151bd0fceea1b5c2f4efd3a7ef0a9e81f226e7f60e5ea8380eee49ec28a2"), looks := false }, kinds := [], alts := [], laidByText := true, laidKinds := [.data, .pinned], laidTests := true, laidLooks := .later }
def RowsSortsCardSaid : Prop := Claim7.holds Tryd.pinned (.plain (OpenSpec.ofChange rowsSortsSpec)) rowsSortsCard

/-- THE TIED CARD OF 'wattlelaw17.RowsOrdered'. -/
def rowsOrderedCard : Claim7 := { stood := { row := rowsOrderedRow, standIns := [], harness := (true, "b71e151bd0fceea1b5c2f4efd3a7ef0a9e81f226e7f60e5ea8380eee49ec28a2"), looks := false }, kinds := [], alts := [], laidByText := true, laidKinds := [.data, .pinned], laidTests := true, laidLooks := .later }
def RowsOrderedCardSaid : Prop := Claim7.holds Tryd.pinned (.plain (OpenSpec.ofChange rowsOrderedSpec)) rowsOrderedCard

/-- THE TIED CARD OF 'wattlelaw17.RowsParts'. -/
def rowsPartsCard : Claim7 := { stood := { row := rowsPartsRow, standIns := [], harness := (true, "b71e151bd0fceea1b5c2f4efd3a7ef0a9e81f226e7f60e5ea8380eee49ec28a2"), looks := false }, kinds := [], alts := [], laidByText := true, laidKinds := [.data, .pinned], laidTests := true, laidLooks := .later }
def RowsPartsCardSaid : Prop := Claim7.holds Tryd.pinned (.plain (OpenSpec.ofChange rowsPartsSpec)) rowsPartsCard

/-- THE TIED CARD OF 'wattlelaw17.RowsEnds'. -/
def rowsEndsCard : Claim7 := { stood := { row := rowsEndsRow, standIns := [], harness := (true, "b71e151bd0fceea1b5c2f4efd3a7ef0a9e81f226e7f60e5ea8380eee49ec28a2"), looks := false }, kinds := [], alts := [], laidByText := true, laidKinds := [.data, .pinned], laidTests := true, laidLooks := .later }
def RowsEndsCardSaid : Prop := Claim7.holds Tryd.pinned (.plain (OpenSpec.ofChange rowsEndsSpec)) rowsEndsCard

/-- THE SECOND FORM's CARD OF 'wattlelaw17.RowsUnique'. -/
def rowsUniqueUptoCard : Claim7 := { stood := { row := rowsUniqueUptoRow, standIns := [], harness := (true, "b71e151bd0fceea1b5c2f4efd3a7ef0a9e81f226e7f60e5ea8380eee49ec28a2"), looks := false }, kinds := [], alts := [], laidByText := true, laidKinds := [.data, .pinned], laidTests := true, laidLooks := .later }
def RowsUniqueUptoCardSaid : Prop := Claim7.holds Tryd.pinned (.plain (OpenSpec.upto rowsUniqueSpec)) rowsUniqueUptoCard

/-- THE SECOND FORM's CARD OF 'wattlelaw17.RowsSorts'. -/
def rowsSortsUptoCard : Claim7 := { stood := { row := rowsSortsUptoRow, standIns := [], harness := (true, "b71e151bd0fceea1b5c2f4efd3a7ef0a9e81f226e7f60e5ea8380eee49ec28a2"), looks := false }, kinds := [], alts := [], laidByText := true, laidKinds := [.data, .pinned], laidTests := true, laidLooks := .later }
def RowsSortsUptoCardSaid : Prop := Claim7.holds Tryd.pinned (.plain (OpenSpec.upto rowsSortsSpec)) rowsSortsUptoCard

/-- THE SECOND FORM's CARD OF 'wattlelaw17.RowsOrdered'. -/
def rowsOrderedUptoCard : Claim7 := { stood := { row := rowsOrderedUptoRow, standIns := [], harness := (true, "b71e151bd0fceea1b5c2f4efd3a7ef0a9e81f226e7f60e5ea8380eee49ec28a2"), looks := false }, kinds := [], alts := [], laidByText := true, laidKinds := [.data, .pinned], laidTests := true, laidLooks := .later }
def RowsOrderedUptoCardSaid : Prop := Claim7.holds Tryd.pinned (.plain (OpenSpec.upto rowsOrderedSpec)) rowsOrderedUptoCard

/-- THE SECOND FORM's CARD OF 'wattlelaw17.RowsParts'. -/
def rowsPartsUptoCard : Claim7 := { stood := { row := rowsPartsUptoRow, standIns := [], harness := (true, "b71e151bd0fceea1b5c2f4efd3a7ef0a9e81f226e7f60e5ea8380eee49ec28a2"), looks := false }, kinds := [], alts := [], laidByText := true, laidKinds := [.data, .pinned], laidTests := true, laidLooks := .later }
def RowsPartsUptoCardSaid : Prop := Claim7.holds Tryd.pinned (.plain (OpenSpec.upto rowsPartsSpec)) rowsPartsUptoCard

/-- THE SECOND FORM's CARD OF 'wattlelaw17.RowsEnds'. -/
def rowsEndsUptoCard : Claim7 := { stood := { row := rowsEndsUptoRow, standIns := [], harness := (true, "b71e151bd0fceea1b5c2f4efd3a7ef0a9e81f226e7f60e5ea8380eee49ec28a2"), looks := false }, kinds := [], alts := [], laidByText := true, laidKinds := [.data, .pinned], laidTests := true, laidLooks := .later }
def RowsEndsUptoCardSaid : Prop := Claim7.holds Tryd.pinned (.plain (OpenSpec.upto rowsEndsSpec)) rowsEndsUptoCard
end Rows
end Go.Proofs.YtajcpfcghhbbnaaDoor
