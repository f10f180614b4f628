/-
  DERIVED. GIVEN WITH THE SEED: THE CARDS: each row of YtkakmigbbipgoaaDoorRows.lean that lists a variable, with what it lists TIED to the program's text (the seventh form; the later family's looks); each row that meets fmt, with fmt's text TOLD by the authors' own Lean function (tested against real Go, not proved from fmt's source: count such statements apart). THE CARD IS WHAT COUNTS. Prove the row's statement (the work); the ties are given (YtkakmigbbipgoaaDoorTie.lean); close each card by the builder's one call (the guide's Derived/Test/ToyasCard.lean, 'card_holds'). Laid BY PROGRAM, IN A SANDBOX (cutbox-door.mjs). By AI agents, Wed Nov 11 2026. No macro, syntax, notation, axiom, sorry.
-/
import Derived.Test.YtkakmigbbipgoaaDoorRows
import GoSem.ClaimSeven
namespace Go.Proofs.YtkakmigbbipgoaaDoor
namespace Rows

/-- THE TIED CARD OF 'wattlelaw06.RankKeys'. -/
def rankKeysCard : Claim7 := { stood := { row := rankKeysRow, standIns := [], harness := (true, "c890e1b240944cccbbe62da422ea1bc24ff9ce2b2804bc68d5521d7f5fbdfa2a"), looks := false }, kinds := [], alts := [], laidByText := true, laidKinds := [.data, .pinned], laidTests := true, laidLooks := .later }
def RankKeysCardSaid : Prop := Claim7.holds Tryd.pinned (.plain (OpenSpec.ofChange rankKeysSpec)) rankKeysCard

/-- THE TIED CARD OF 'wattlelaw06.RankReads'. -/
def rankReadsCard : Claim7 := { stood := { row := rankReadsRow, standIns := [], harness := (true, "c890e1b240944cccbbe62da422ea1bc24ff9ce2b2804bc68d5521d7f5fbdfa2a"), looks := false }, kinds := [], alts := [], laidByText := true, laidKinds := [.data, .pinned], laidTests := true, laidLooks := .later }
def RankReadsCardSaid : Prop := Claim7.holds Tryd.pinned (.plain (OpenSpec.ofChange rankReadsSpec)) rankReadsCard

/-- THE TIED CARD OF 'wattlelaw06.RankBack'. -/
def rankBackCard : Claim7 := { stood := { row := rankBackRow, standIns := [], harness := (true, "c890e1b240944cccbbe62da422ea1bc24ff9ce2b2804bc68d5521d7f5fbdfa2a"), looks := false }, kinds := [], alts := [], laidByText := true, laidKinds := [.data, .pinned], laidTests := true, laidLooks := .later }
def RankBackCardSaid : Prop := Claim7.holds Tryd.pinned (.plain (OpenSpec.ofChange rankBackSpec)) rankBackCard

/-- THE TIED CARD OF 'wattlelaw06.RankAhead'. -/
def rankAheadCard : Claim7 := { stood := { row := rankAheadRow, standIns := [], harness := (true, "c890e1b240944cccbbe62da422ea1bc24ff9ce2b2804bc68d5521d7f5fbdfa2a"), looks := false }, kinds := [], alts := [], laidByText := true, laidKinds := [.data, .pinned], laidTests := true, laidLooks := .later }
def RankAheadCardSaid : Prop := Claim7.holds Tryd.pinned (.plain (OpenSpec.ofChange rankAheadSpec)) rankAheadCard

/-- THE TIED CARD OF 'wattlelaw06.RankOrder'. -/
def rankOrderCard : Claim7 := { stood := { row := rankOrderRow, standIns := [], harness := (true, "c890e1b240944cccbbe62da422ea1bc24ff9ce2b2804bc68d5521d7f5fbdfa2a"), looks := false }, kinds := [], alts := [], laidByText := true, laidKinds := [.data, .pinned], laidTests := true, laidLooks := .later }
def RankOrderCardSaid : Prop := Claim7.holds Tryd.pinned (.plain (OpenSpec.ofChange rankOrderSpec)) rankOrderCard

/-- THE SECOND FORM's CARD OF 'wattlelaw06.RankKeys'. -/
def rankKeysUptoCard : Claim7 := { stood := { row := rankKeysUptoRow, standIns := [], harness := (true, "c890e1b240944cccbbe62da422ea1bc24ff9ce2b2804bc68d5521d7f5fbdfa2a"), looks := false }, kinds := [], alts := [], laidByText := true, laidKinds := [.data, .pinned], laidTests := true, laidLooks := .later }
def RankKeysUptoCardSaid : Prop := Claim7.holds Tryd.pinned (.plain (OpenSpec.upto rankKeysSpec)) rankKeysUptoCard

/-- THE SECOND FORM's CARD OF 'wattlelaw06.RankReads'. -/
def rankReadsUptoCard : Claim7 := { stood := { row := rankReadsUptoRow, standIns := [], harness := (true, "c890e1b240944cccbbe62da422ea1bc24ff9ce2b2804bc68d5521d7f5fbdfa2a"), looks := false }, kinds := [], alts := [], laidByText := true, laidKinds := [.data, .pinned], laidTests := true, laidLooks := .later }
def RankReadsUptoCardSaid : Prop := Claim7.holds Tryd.pinned (.plain (OpenSpec.upto rankReadsSpec)) rankReadsUptoCard

/-- THE SECOND FORM's CARD OF 'wattlelaw06.RankBack'. -/
def rankBackUptoCard : Claim7 := { stood := { row := rankBackUptoRow, standIns := [], harness := (true, "c890e1b240944cccbbe62da422ea1bc24ff9ce2b2804bc68d5521d7f5fbdfa2a"), looks := false }, kinds := [], alts := [], laidByText := true, laidKinds := [.data, .pinned], laidTests := true, laidLooks := .later }
def RankBackUptoCardSaid : Prop := Claim7.holds Tryd.pinned (.plain (OpenSpec.upto rankBackSpec)) rankBackUptoCard

/-- THE SECOND FORM's CARD OF 'wattlelaw06.RankAhead'. -/
def rankAheadUptoCard : Claim7 := { stood := { row := rankAheadUptoRow, standIns := [], harness := (true, "c890e1b240944cccbbe62da422ea1bc24ff9ce2b2804bc68d5521d7f5fbdfa2a"), looks := false }, kinds := [], alts := [], laidByText := true, laidKinds := [.data, .pinned], laidTests := true, laidLooks := .later }
def RankAheadUptoCardSaid : Prop := Claim7.holds Tryd.pinned (.plain (OpenSpec.upto rankAheadSpec)) rankAheadUptoCard

/-- THE SECOND FORM's CARD OF 'wattlelaw06.RankOrder'. -/
def rankOrderUptoCard : Claim7 := { stood := { row := rankOrderUptoRow, standIns := [], harness := (true, "c890e1b240944cccbbe62da422ea1bc24ff9ce2b2804bc68d5521d7f5fbdfa2a"), looks := false }, kinds := [], alts := [], laidByText := true, laidKinds := [.data, .pinned], laidTests := true, laidLooks := .later }
def RankOrderUptoCardSaid : Prop := Claim7.holds Tryd.pinned (.plain (OpenSpec.upto rankOrderSpec)) rankOrderUptoCard
end Rows
end Go.Proofs.YtkakmigbbipgoaaDoor
