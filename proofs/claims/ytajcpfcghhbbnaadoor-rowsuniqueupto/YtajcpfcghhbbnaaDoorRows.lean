/-
  NARROWER THAN 'FOR EVERY INPUT', by the rows' own cells (each row's printed sentence says how): RowsUnique: loops, laid · RowsSorts: loops, laid · RowsOrdered: loops, laid · RowsParts: loops, laid · RowsEnds: loops, laid.
  DERIVED. THE GIVEN ROWS OF THIS SEAT. 5 by the template 'for every input the law returns true; each argument reads behind the call as it read before'; 0 by the template 'total and deterministic' (their statements: YtajcpfcghhbbnaaDoorTotals.lean).
  GIVEN WITH THE SEED: the statements are not yours to turn. If you find one false, say at which input.
  Laid BY PROGRAM, IN A SANDBOX (cutbox-rows.mjs): the forced cells as the released guide's own fill.sh prints them over the translation 654f3caa9b8cefe1… (all of the seat's roots in one cut). By AI agents, Wed Nov 11 2026. No macro, syntax, notation, axiom, sorry.
-/
import Derived.Test.YtajcpfcghhbbnaaDoorChecked
import GoSem.PinnedTables
import GoSem.Claim
import GoSem.ClaimJoined
import GoSem.ClaimMapViews
import Derived.JoinedTies
import Derived.KernelRfl
namespace Go.Proofs.YtajcpfcghhbbnaaDoor
/- THE CELL 'sum', in the pinned program and in every row, IS THE sha256 OF THE DUMP (.gsa) THAT YtajcpfcghhbbnaaDoorProg.lean LOADS. Nothing in Lean hashes anything: it is a label: what it is worth is what the hold of that sum in a sandbox is worth. -/
noncomputable def Tryd.pinned : Pinned := { name := "ytajcpfcghhbbnaadoor", sum := "654f3caa9b8cefe121b9c66d1e20025ab4177db42f5eae4529a5c80128a5f8b4", checked := Tryd.checked }
namespace Rows
def none {H : Type} : Left H := { results := [], args := [] }

/- WHAT THE LISTED PACKAGE-LEVEL VARIABLES READ AS WHEN THE CALL BEGINS. Each datum BY PROGRAM (the guide's laid-datum.mjs) off the statement by which the dump's own 'gosem.cut.vars' lays the variable. In a bare row this is a premise. The card (YtajcpfcghhbbnaaDoorCards.lean) ties it to the program's text. -/
def laid_unicode_utf8_acceptRanges {H : Type} : DataW H := .agg [.agg [.lit (.int .u8 128), .lit (.int .u8 191)], .agg [.lit (.int .u8 160), .lit (.int .u8 191)], .agg [.lit (.int .u8 128), .lit (.int .u8 159)], .agg [.lit (.int .u8 144), .lit (.int .u8 191)], .agg [.lit (.int .u8 128), .lit (.int .u8 143)], .agg [.lit (.int .u8 0), .lit (.int .u8 0)], .agg [.lit (.int .u8 0), .lit (.int .u8 0)], .agg [.lit (.int .u8 0), .lit (.int .u8 0)], .agg [.lit (.int .u8 0), .lit (.int .u8 0)], .agg [.lit (.int .u8 0), .lit (.int .u8 0)], .agg [.lit (.int .u8 0), .lit (.int .u8 0)], .agg [.lit (.int .u8 0), .lit (.int .u8 0)], .agg [.lit (.int .u8 0), .lit (.int .u8 0)], .agg [.lit (.int .u8 0), .lit (.int .u8 0)], .agg [.lit (.int .u8 0), .lit (.int .u8 0)], .agg [.lit (.int .u8 0), .lit (.int .u8 0)]]
/-- One of Go's own tables, pinned by name: the form's constant. -/
def laid_unicode_utf8_first : DataW Unit := Go.Pinned.utf8First

/-- 'wattlelaw17.RowsUnique': WHATEVER THE INPUT: true; the input reads as it did. -/
def rowsUniqueSpec : ChangeSpec := { name := "rowsUnique", fn := fun _ => fun
  | [d1, d2, d3] => { results := [.lit (.bool true)], args := [d1, d2, d3] }
  | _ => none }
def rowsUniqueRow : OpenClaim := { program := "ytajcpfcghhbbnaadoor", sum := "654f3caa9b8cefe121b9c66d1e20025ab4177db42f5eae4529a5c80128a5f8b4", func := "wattle/wattlelaw17.RowsUnique", spec := "rowsUnique", inPlace := ["internal/bytealg.CountString", "internal/bytealg.IndexByteString", "internal/bytealg.IndexString", "internal/abi.NoEscape", "internal/bytealg.MakeNoZero"], unfollowed := true, recurses := true, named := ["internal/bytealg.MaxLen", "unicode/utf8.first", "unicode/utf8.acceptRanges"], loops := true, apart := false, laid := [("unicode/utf8.acceptRanges", laid_unicode_utf8_acceptRanges), ("unicode/utf8.first", laid_unicode_utf8_first)] }
def RowsUniqueSaid : Prop := rowsUniqueRow.holds Tryd.pinned (OpenSpec.ofChange rowsUniqueSpec)

/-- ITS FALSE NEIGHBOUR: 'it returns false'. Refute it at one input. -/
def rowsUniqueWrong : ChangeSpec := { name := "rowsUnique", fn := fun _ => fun
  | [d1, d2, d3] => { results := [.lit (.bool false)], args := [d1, d2, d3] }
  | _ => none }
def RowsUniqueWrongFalsely : Prop := rowsUniqueRow.holds Tryd.pinned (OpenSpec.ofChange rowsUniqueWrong)

/-- 'wattlelaw17.RowsSorts': WHATEVER THE INPUT: true; the input reads as it did. -/
def rowsSortsSpec : ChangeSpec := { name := "rowsSorts", fn := fun _ => fun
  | [d1, d2] => { results := [.lit (.bool true)], args := [d1, d2] }
  | _ => none }
def rowsSortsRow : OpenClaim := { program := "ytajcpfcghhbbnaadoor", sum := "654f3caa9b8cefe121b9c66d1e20025ab4177db42f5eae4529a5c80128a5f8b4", func := "wattle/wattlelaw17.RowsSorts", spec := "rowsSorts", inPlace := ["internal/bytealg.CountString", "internal/bytealg.IndexByteString", "internal/bytealg.IndexString", "internal/abi.NoEscape", "internal/bytealg.MakeNoZero"], unfollowed := true, recurses := true, named := ["internal/bytealg.MaxLen", "unicode/utf8.first", "unicode/utf8.acceptRanges"], loops := true, apart := false, laid := [("unicode/utf8.acceptRanges", laid_unicode_utf8_acceptRanges), ("unicode/utf8.first", laid_unicode_utf8_first)] }
def RowsSortsSaid : Prop := rowsSortsRow.holds Tryd.pinned (OpenSpec.ofChange rowsSortsSpec)

/-- ITS FALSE NEIGHBOUR: 'it returns false'. Refute it at one input. -/
def rowsSortsWrong : ChangeSpec := { name := "rowsSorts", fn := fun _ => fun
  | [d1, d2] => { results := [.lit (.bool false)], args := [d1, d2] }
  | _ => none }
def RowsSortsWrongFalsely : Prop := rowsSortsRow.holds Tryd.pinned (OpenSpec.ofChange rowsSortsWrong)

/-- 'wattlelaw17.RowsOrdered': WHATEVER THE INPUT: true; the input reads as it did. -/
def rowsOrderedSpec : ChangeSpec := { name := "rowsOrdered", fn := fun _ => fun
  | [d] => { results := [.lit (.bool true)], args := [d] }
  | _ => none }
def rowsOrderedRow : OpenClaim := { program := "ytajcpfcghhbbnaadoor", sum := "654f3caa9b8cefe121b9c66d1e20025ab4177db42f5eae4529a5c80128a5f8b4", func := "wattle/wattlelaw17.RowsOrdered", spec := "rowsOrdered", inPlace := ["internal/bytealg.CountString", "internal/bytealg.IndexByteString", "internal/bytealg.IndexString", "internal/abi.NoEscape", "internal/bytealg.MakeNoZero"], unfollowed := true, recurses := true, named := ["internal/bytealg.MaxLen", "unicode/utf8.first", "unicode/utf8.acceptRanges"], loops := true, apart := false, laid := [("unicode/utf8.acceptRanges", laid_unicode_utf8_acceptRanges), ("unicode/utf8.first", laid_unicode_utf8_first)] }
def RowsOrderedSaid : Prop := rowsOrderedRow.holds Tryd.pinned (OpenSpec.ofChange rowsOrderedSpec)

/-- ITS FALSE NEIGHBOUR: 'it returns false'. Refute it at one input. -/
def rowsOrderedWrong : ChangeSpec := { name := "rowsOrdered", fn := fun _ => fun
  | [d] => { results := [.lit (.bool false)], args := [d] }
  | _ => none }
def RowsOrderedWrongFalsely : Prop := rowsOrderedRow.holds Tryd.pinned (OpenSpec.ofChange rowsOrderedWrong)

/-- 'wattlelaw17.RowsParts': WHATEVER THE INPUT: true; the input reads as it did. -/
def rowsPartsSpec : ChangeSpec := { name := "rowsParts", fn := fun _ => fun
  | [d1, d2] => { results := [.lit (.bool true)], args := [d1, d2] }
  | _ => none }
def rowsPartsRow : OpenClaim := { program := "ytajcpfcghhbbnaadoor", sum := "654f3caa9b8cefe121b9c66d1e20025ab4177db42f5eae4529a5c80128a5f8b4", func := "wattle/wattlelaw17.RowsParts", spec := "rowsParts", inPlace := ["internal/bytealg.CountString", "internal/bytealg.IndexByteString", "internal/bytealg.IndexString", "internal/abi.NoEscape", "internal/bytealg.MakeNoZero"], unfollowed := true, recurses := true, named := ["internal/bytealg.MaxLen", "unicode/utf8.first", "unicode/utf8.acceptRanges"], loops := true, apart := false, laid := [("unicode/utf8.acceptRanges", laid_unicode_utf8_acceptRanges), ("unicode/utf8.first", laid_unicode_utf8_first)] }
def RowsPartsSaid : Prop := rowsPartsRow.holds Tryd.pinned (OpenSpec.ofChange rowsPartsSpec)

/-- ITS FALSE NEIGHBOUR: 'it returns false'. Refute it at one input. -/
def rowsPartsWrong : ChangeSpec := { name := "rowsParts", fn := fun _ => fun
  | [d1, d2] => { results := [.lit (.bool false)], args := [d1, d2] }
  | _ => none }
def RowsPartsWrongFalsely : Prop := rowsPartsRow.holds Tryd.pinned (OpenSpec.ofChange rowsPartsWrong)

/-- 'wattlelaw17.RowsEnds': WHATEVER THE INPUT: true; the input reads as it did. -/
def rowsEndsSpec : ChangeSpec := { name := "rowsEnds", fn := fun _ => fun
  | [d] => { results := [.lit (.bool true)], args := [d] }
  | _ => none }
def rowsEndsRow : OpenClaim := { program := "ytajcpfcghhbbnaadoor", sum := "654f3caa9b8cefe121b9c66d1e20025ab4177db42f5eae4529a5c80128a5f8b4", func := "wattle/wattlelaw17.RowsEnds", spec := "rowsEnds", inPlace := ["internal/bytealg.CountString", "internal/bytealg.IndexByteString", "internal/bytealg.IndexString", "internal/abi.NoEscape", "internal/bytealg.MakeNoZero"], unfollowed := true, recurses := true, named := ["internal/bytealg.MaxLen", "unicode/utf8.first", "unicode/utf8.acceptRanges"], loops := true, apart := false, laid := [("unicode/utf8.acceptRanges", laid_unicode_utf8_acceptRanges), ("unicode/utf8.first", laid_unicode_utf8_first)] }
def RowsEndsSaid : Prop := rowsEndsRow.holds Tryd.pinned (OpenSpec.ofChange rowsEndsSpec)

/-- ITS FALSE NEIGHBOUR: 'it returns false'. Refute it at one input. -/
def rowsEndsWrong : ChangeSpec := { name := "rowsEnds", fn := fun _ => fun
  | [d] => { results := [.lit (.bool false)], args := [d] }
  | _ => none }
def RowsEndsWrongFalsely : Prop := rowsEndsRow.holds Tryd.pinned (OpenSpec.ofChange rowsEndsWrong)

/- THE SECOND FORM. 'bulk': how many values and letters a reading holds, each counted each time it is reached (what is shared counts as often as it is met; a slice's spare places count too). A statement '..UptoSaid' is the law's where the arguments, and the package variables that the reading takes, are together of bulk at most 1048576: NARROWER than '..Said'. Prove '..Said' where nothing that the law and all that it calls make is longer than what came in: it says more and counts as full. Else prove '..UptoSaid'. A law counts once. -/
mutual
def uptoBulk {H : Type} : DataW H → Nat
  | .lit (.string bytes) => bytes.length + 1
  | .lit _ => 1
  | .nil => 1
  | .ptr d => uptoBulk d + 1
  | .slice elems spare => uptoBulkAll elems + uptoBulkAll spare + 1
  | .agg parts => uptoBulkAll parts + 1
  | .iface _ d => uptoBulk d + 1
  | .map entries => uptoBulkEntries entries + 1
  | .held _ => 1
def uptoBulkAll {H : Type} : List (DataW H) → Nat
  | [] => 0
  | d :: r => uptoBulk d + uptoBulkAll r
def uptoBulkEntries {H : Type} : List (Lit × DataW H) → Nat
  | [] => 0
  | x :: r => uptoBulkEntry x + uptoBulkEntries r
def uptoBulkEntry {H : Type} : Lit × DataW H → Nat
  | (.string bytes, d) => bytes.length + uptoBulk d + 1
  | (_, d) => uptoBulk d + 1
 end
def uptoSmall : (H : Type) → List (DataW H) → Bool := fun _ ds => decide (uptoBulkAll ds ≤ 1048576)
def OpenSpec.upto (s : _root_.Go.ChangeSpec) : _root_.Go.OpenSpec := { _root_.Go.OpenSpec.ofChange s with cond := some uptoSmall }

/-- 'wattlelaw17.RowsUnique', WHERE WHAT IT READS IS OF BULK AT MOST 1048576: true; the input reads as it did. -/
def rowsUniqueUptoRow : OpenClaim := { program := "ytajcpfcghhbbnaadoor", sum := "654f3caa9b8cefe121b9c66d1e20025ab4177db42f5eae4529a5c80128a5f8b4", func := "wattle/wattlelaw17.RowsUnique", spec := "rowsUnique", inPlace := ["internal/bytealg.CountString", "internal/bytealg.IndexByteString", "internal/bytealg.IndexString", "internal/abi.NoEscape", "internal/bytealg.MakeNoZero"], unfollowed := true, recurses := true, named := ["internal/bytealg.MaxLen", "unicode/utf8.first", "unicode/utf8.acceptRanges"], loops := true, apart := false, laid := [("unicode/utf8.acceptRanges", laid_unicode_utf8_acceptRanges), ("unicode/utf8.first", laid_unicode_utf8_first)], narrowed := true }
def RowsUniqueUptoSaid : Prop := rowsUniqueUptoRow.holds Tryd.pinned (OpenSpec.upto rowsUniqueSpec)

/-- 'wattlelaw17.RowsSorts', WHERE WHAT IT READS IS OF BULK AT MOST 1048576: true; the input reads as it did. -/
def rowsSortsUptoRow : OpenClaim := { program := "ytajcpfcghhbbnaadoor", sum := "654f3caa9b8cefe121b9c66d1e20025ab4177db42f5eae4529a5c80128a5f8b4", func := "wattle/wattlelaw17.RowsSorts", spec := "rowsSorts", inPlace := ["internal/bytealg.CountString", "internal/bytealg.IndexByteString", "internal/bytealg.IndexString", "internal/abi.NoEscape", "internal/bytealg.MakeNoZero"], unfollowed := true, recurses := true, named := ["internal/bytealg.MaxLen", "unicode/utf8.first", "unicode/utf8.acceptRanges"], loops := true, apart := false, laid := [("unicode/utf8.acceptRanges", laid_unicode_utf8_acceptRanges), ("unicode/utf8.first", laid_unicode_utf8_first)], narrowed := true }
def RowsSortsUptoSaid : Prop := rowsSortsUptoRow.holds Tryd.pinned (OpenSpec.upto rowsSortsSpec)

/-- 'wattlelaw17.RowsOrdered', WHERE WHAT IT READS IS OF BULK AT MOST 1048576: true; the input reads as it did. -/
def rowsOrderedUptoRow : OpenClaim := { program := "ytajcpfcghhbbnaadoor", sum := "654f3caa9b8cefe121b9c66d1e20025ab4177db42f5eae4529a5c80128a5f8b4", func := "wattle/wattlelaw17.RowsOrdered", spec := "rowsOrdered", inPlace := ["internal/bytealg.CountString", "internal/bytealg.IndexByteString", "internal/bytealg.IndexString", "internal/abi.NoEscape", "internal/bytealg.MakeNoZero"], unfollowed := true, recurses := true, named := ["internal/bytealg.MaxLen", "unicode/utf8.first", "unicode/utf8.acceptRanges"], loops := true, apart := false, laid := [("unicode/utf8.acceptRanges", laid_unicode_utf8_acceptRanges), ("unicode/utf8.first", laid_unicode_utf8_first)], narrowed := true }
def RowsOrderedUptoSaid : Prop := rowsOrderedUptoRow.holds Tryd.pinned (OpenSpec.upto rowsOrderedSpec)

/-- 'wattlelaw17.RowsParts', WHERE WHAT IT READS IS OF BULK AT MOST 1048576: true; the input reads as it did. -/
def rowsPartsUptoRow : OpenClaim := { program := "ytajcpfcghhbbnaadoor", sum := "654f3caa9b8cefe121b9c66d1e20025ab4177db42f5eae4529a5c80128a5f8b4", func := "wattle/wattlelaw17.RowsParts", spec := "rowsParts", inPlace := ["internal/bytealg.CountString", "internal/bytealg.IndexByteString", "internal/bytealg.IndexString", "internal/abi.NoEscape", "internal/bytealg.MakeNoZero"], unfollowed := true, recurses := true, named := ["internal/bytealg.MaxLen", "unicode/utf8.first", "unicode/utf8.acceptRanges"], loops := true, apart := false, laid := [("unicode/utf8.acceptRanges", laid_unicode_utf8_acceptRanges), ("unicode/utf8.first", laid_unicode_utf8_first)], narrowed := true }
def RowsPartsUptoSaid : Prop := rowsPartsUptoRow.holds Tryd.pinned (OpenSpec.upto rowsPartsSpec)

/-- 'wattlelaw17.RowsEnds', WHERE WHAT IT READS IS OF BULK AT MOST 1048576: true; the input reads as it did. -/
def rowsEndsUptoRow : OpenClaim := { program := "ytajcpfcghhbbnaadoor", sum := "654f3caa9b8cefe121b9c66d1e20025ab4177db42f5eae4529a5c80128a5f8b4", func := "wattle/wattlelaw17.RowsEnds", spec := "rowsEnds", inPlace := ["internal/bytealg.CountString", "internal/bytealg.IndexByteString", "internal/bytealg.IndexString", "internal/abi.NoEscape", "internal/bytealg.MakeNoZero"], unfollowed := true, recurses := true, named := ["internal/bytealg.MaxLen", "unicode/utf8.first", "unicode/utf8.acceptRanges"], loops := true, apart := false, laid := [("unicode/utf8.acceptRanges", laid_unicode_utf8_acceptRanges), ("unicode/utf8.first", laid_unicode_utf8_first)], narrowed := true }
def RowsEndsUptoSaid : Prop := rowsEndsUptoRow.holds Tryd.pinned (OpenSpec.upto rowsEndsSpec)

end Rows
end Go.Proofs.YtajcpfcghhbbnaaDoor
