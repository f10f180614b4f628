/-
  DERIVED. GIVEN WITH THE SEED: THE CARDS: each row of YtajcpfcghhbbnaaGreatDoorRows.lean that lists a variable, with what it lists TIED to the program's text (the seventh form; the later family's looks); each row that meets fmt, with fmt's text TOLD by the authors' own Lean function (tested against real Go, not proved from fmt's source: count such statements apart). THE CARD IS WHAT COUNTS. Prove the row's statement (the work); the ties are given (YtajcpfcghhbbnaaGreatDoorTie.lean); close each card by the builder's one call (the guide's Derived/Test/ToyasCard.lean, 'card_holds'). Laid BY PROGRAM, IN A SANDBOX (cutbox-door.mjs). By AI agents, Wed Nov 11 2026. No macro, syntax, notation, axiom, sorry.
-/
import Derived.Test.YtajcpfcghhbbnaaGreatDoorRows
import GoSem.ClaimSeven
namespace Go.Proofs.YtajcpfcghhbbnaaGreatDoor
namespace Rows

/-- THE TIED CARD OF 'wattlelaw17.RowsGroups'. -/
def rowsGroupsCard : Claim7 := { stood := { row := rowsGroupsRow, standIns := [], harness := (true, "517c50774de043cac9f3a02476600bb800cbb7e0cb63e9796c3267b4e9c15d26"), looks := false }, kinds := [], alts := [], laidByText := true, laidKinds := [.data, .pinned], laidTests := true, laidLooks := .later }
def RowsGroupsCardSaid : Prop := Claim7.holds Tryz.pinned (.plain (OpenSpec.ofChange rowsGroupsSpec)) rowsGroupsCard

/-- THE SECOND FORM's CARD OF 'wattlelaw17.RowsGroups'. -/
def rowsGroupsUptoCard : Claim7 := { stood := { row := rowsGroupsUptoRow, standIns := [], harness := (true, "517c50774de043cac9f3a02476600bb800cbb7e0cb63e9796c3267b4e9c15d26"), looks := false }, kinds := [], alts := [], laidByText := true, laidKinds := [.data, .pinned], laidTests := true, laidLooks := .later }
def RowsGroupsUptoCardSaid : Prop := Claim7.holds Tryz.pinned (.plain (OpenSpec.upto rowsGroupsSpec)) rowsGroupsUptoCard
end Rows
end Go.Proofs.YtajcpfcghhbbnaaGreatDoor
