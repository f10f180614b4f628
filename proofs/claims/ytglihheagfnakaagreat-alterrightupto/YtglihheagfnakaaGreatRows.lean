/-
  NARROWER THAN 'FOR EVERY INPUT', by the rows' own cells (each row's printed sentence says how): AlterDeletes: loops · AlterRight: loops.
  DERIVED. THE GIVEN ROWS OF THIS SEAT. 2 by the template 'for every input the law returns true; each argument reads behind the call as it read before'; 0 by the template 'total and deterministic' (their statements: YtglihheagfnakaaGreatTotals.lean).
  GIVEN WITH THE SEED: the statements are not yours to turn. If you find one false, say at which input.
  Laid BY PROGRAM, IN A SANDBOX (cutbox-rows.mjs): the forced cells as the released guide's own fill.sh prints them over the translation 5a13baf96f576105… (all of the seat's roots in one cut). By AI agents, Wed Nov 11 2026. No macro, syntax, notation, axiom, sorry.
-/
import Derived.Test.YtglihheagfnakaaGreatChecked
import GoSem.Claim
import GoSem.ClaimJoined
import GoSem.ClaimMapViews
import Derived.JoinedTies
import Derived.KernelRfl
namespace Go.Proofs.YtglihheagfnakaaGreat
/- THE CELL 'sum', in the pinned program and in every row, IS THE sha256 OF THE DUMP (.gsa) THAT YtglihheagfnakaaGreatProg.lean LOADS. Nothing in Lean hashes anything: it is a label: what it is worth is what the hold of that sum in a sandbox is worth. -/
noncomputable def Tryz.pinned : Pinned := { name := "ytglihheagfnakaagreat", sum := "5a13baf96f5761055521661af441fcd2890f403f0a3d704dc1ff3635ba8aa026", checked := Tryz.checked }
namespace Rows
def none {H : Type} : Left H := { results := [], args := [] }

/-- 'wattlelaw18.AlterDeletes': WHATEVER THE INPUT: true; the input reads as it did. -/
def alterDeletesSpec : ChangeSpec := { name := "alterDeletes", fn := fun _ => fun
  | [d1, d2, d3] => { results := [.lit (.bool true)], args := [d1, d2, d3] }
  | _ => none }
def alterDeletesRow : OpenClaim := { program := "ytglihheagfnakaagreat", sum := "5a13baf96f5761055521661af441fcd2890f403f0a3d704dc1ff3635ba8aa026", func := "wattle/wattlelaw18.AlterDeletes", spec := "alterDeletes", inPlace := ["internal/reflectlite.ValueOf", "internal/reflectlite.Swapper", "(internal/reflectlite.Value).Len", "internal/abi.NoEscape", "internal/bytealg.MakeNoZero", "slices.overlaps[string]", "slices.overlaps[wattle/api.Value]"], unfollowed := true, recurses := true, loops := true, apart := false }
def AlterDeletesSaid : Prop := alterDeletesRow.holds Tryz.pinned (OpenSpec.ofChange alterDeletesSpec)

/-- ITS FALSE NEIGHBOUR: 'it returns false'. Refute it at one input. -/
def alterDeletesWrong : ChangeSpec := { name := "alterDeletes", fn := fun _ => fun
  | [d1, d2, d3] => { results := [.lit (.bool false)], args := [d1, d2, d3] }
  | _ => none }
def AlterDeletesWrongFalsely : Prop := alterDeletesRow.holds Tryz.pinned (OpenSpec.ofChange alterDeletesWrong)

/-- 'wattlelaw18.AlterRight': WHATEVER THE INPUT: true; the input reads as it did. -/
def alterRightSpec : ChangeSpec := { name := "alterRight", fn := fun _ => fun
  | [d1, d2] => { results := [.lit (.bool true)], args := [d1, d2] }
  | _ => none }
def alterRightRow : OpenClaim := { program := "ytglihheagfnakaagreat", sum := "5a13baf96f5761055521661af441fcd2890f403f0a3d704dc1ff3635ba8aa026", func := "wattle/wattlelaw18.AlterRight", spec := "alterRight", inPlace := ["internal/reflectlite.ValueOf", "internal/reflectlite.Swapper", "(internal/reflectlite.Value).Len", "internal/abi.NoEscape", "internal/bytealg.MakeNoZero", "slices.overlaps[string]", "slices.overlaps[wattle/api.Value]"], unfollowed := true, recurses := true, loops := true, apart := false }
def AlterRightSaid : Prop := alterRightRow.holds Tryz.pinned (OpenSpec.ofChange alterRightSpec)

/-- ITS FALSE NEIGHBOUR: 'it returns false'. Refute it at one input. -/
def alterRightWrong : ChangeSpec := { name := "alterRight", fn := fun _ => fun
  | [d1, d2] => { results := [.lit (.bool false)], args := [d1, d2] }
  | _ => none }
def AlterRightWrongFalsely : Prop := alterRightRow.holds Tryz.pinned (OpenSpec.ofChange alterRightWrong)

/- THE SECOND FORM. 'bulk': how many values and letters a reading holds, each counted each time it is reached (what is shared counts as often as it is met; a slice's spare places count too). A statement '..UptoSaid' is the law's where the arguments, and the package variables that the reading takes, are together of bulk at most 1048576: NARROWER than '..Said'. Prove '..Said' where nothing that the law and all that it calls make is longer than what came in: it says more and counts as full. Else prove '..UptoSaid'. A law counts once. -/
mutual
def uptoBulk {H : Type} : DataW H → Nat
  | .lit (.string bytes) => bytes.length + 1
  | .lit _ => 1
  | .nil => 1
  | .ptr d => uptoBulk d + 1
  | .slice elems spare => uptoBulkAll elems + uptoBulkAll spare + 1
  | .agg parts => uptoBulkAll parts + 1
  | .iface _ d => uptoBulk d + 1
  | .map entries => uptoBulkEntries entries + 1
  | .held _ => 1
def uptoBulkAll {H : Type} : List (DataW H) → Nat
  | [] => 0
  | d :: r => uptoBulk d + uptoBulkAll r
def uptoBulkEntries {H : Type} : List (Lit × DataW H) → Nat
  | [] => 0
  | x :: r => uptoBulkEntry x + uptoBulkEntries r
def uptoBulkEntry {H : Type} : Lit × DataW H → Nat
  | (.string bytes, d) => bytes.length + uptoBulk d + 1
  | (_, d) => uptoBulk d + 1
 end
def uptoSmall : (H : Type) → List (DataW H) → Bool := fun _ ds => decide (uptoBulkAll ds ≤ 1048576)
def OpenSpec.upto (s : _root_.Go.ChangeSpec) : _root_.Go.OpenSpec := { _root_.Go.OpenSpec.ofChange s with cond := some uptoSmall }

/-- 'wattlelaw18.AlterDeletes', WHERE WHAT IT READS IS OF BULK AT MOST 1048576: true; the input reads as it did. -/
def alterDeletesUptoRow : OpenClaim := { program := "ytglihheagfnakaagreat", sum := "5a13baf96f5761055521661af441fcd2890f403f0a3d704dc1ff3635ba8aa026", func := "wattle/wattlelaw18.AlterDeletes", spec := "alterDeletes", inPlace := ["internal/reflectlite.ValueOf", "internal/reflectlite.Swapper", "(internal/reflectlite.Value).Len", "internal/abi.NoEscape", "internal/bytealg.MakeNoZero", "slices.overlaps[string]", "slices.overlaps[wattle/api.Value]"], unfollowed := true, recurses := true, loops := true, apart := false, narrowed := true }
def AlterDeletesUptoSaid : Prop := alterDeletesUptoRow.holds Tryz.pinned (OpenSpec.upto alterDeletesSpec)

/-- 'wattlelaw18.AlterRight', WHERE WHAT IT READS IS OF BULK AT MOST 1048576: true; the input reads as it did. -/
def alterRightUptoRow : OpenClaim := { program := "ytglihheagfnakaagreat", sum := "5a13baf96f5761055521661af441fcd2890f403f0a3d704dc1ff3635ba8aa026", func := "wattle/wattlelaw18.AlterRight", spec := "alterRight", inPlace := ["internal/reflectlite.ValueOf", "internal/reflectlite.Swapper", "(internal/reflectlite.Value).Len", "internal/abi.NoEscape", "internal/bytealg.MakeNoZero", "slices.overlaps[string]", "slices.overlaps[wattle/api.Value]"], unfollowed := true, recurses := true, loops := true, apart := false, narrowed := true }
def AlterRightUptoSaid : Prop := alterRightUptoRow.holds Tryz.pinned (OpenSpec.upto alterRightSpec)

end Rows
end Go.Proofs.YtglihheagfnakaaGreat
