/-
  NARROWER THAN 'FOR EVERY INPUT', by the rows' own cells (each row's printed sentence says how): EvalTurns: loops · EvalParts: loops · EvalBinds: loops · EvalMore: loops.
  DERIVED. THE GIVEN ROWS OF THIS SEAT. 4 by the template 'for every input the law returns true; each argument reads behind the call as it read before'; 0 by the template 'total and deterministic' (their statements: YtgbnebnnphdenaaGreatTotals.lean).
  GIVEN WITH THE SEED: the statements are not yours to turn. If you find one false, say at which input.
  Laid BY PROGRAM, IN A SANDBOX (cutbox-rows.mjs): the forced cells as the released guide's own fill.sh prints them over the translation e2c9e5971e1f4ee9… (all of the seat's roots in one cut). By AI agents, Wed Nov 11 2026. No macro, syntax, notation, axiom, sorry.
-/
import Derived.Test.YtgbnebnnphdenaaGreatChecked
import GoSem.Claim
import GoSem.ClaimJoined
import GoSem.ClaimMapViews
import Derived.JoinedTies
import Derived.KernelRfl
namespace Go.Proofs.YtgbnebnnphdenaaGreat
/- THE CELL 'sum', in the pinned program and in every row, IS THE sha256 OF THE DUMP (.gsa) THAT YtgbnebnnphdenaaGreatProg.lean LOADS. Nothing in Lean hashes anything: it is a label: what it is worth is what the hold of that sum in a sandbox is worth. -/
noncomputable def Tryz.pinned : Pinned := { name := "ytgbnebnnphdenaagreat", sum := "e2c9e5971e1f4ee924e10678f4a73aeb165d34c015b673e2634d6899f1195af3", checked := Tryz.checked }
namespace Rows
def none {H : Type} : Left H := { results := [], args := [] }

/-- 'wattlelaw15.EvalTurns': WHATEVER THE INPUT: true; the input reads as it did. -/
def evalTurnsSpec : ChangeSpec := { name := "evalTurns", fn := fun _ => fun
  | [d1, d2, d3] => { results := [.lit (.bool true)], args := [d1, d2, d3] }
  | _ => none }
def evalTurnsRow : OpenClaim := { program := "ytgbnebnnphdenaagreat", sum := "e2c9e5971e1f4ee924e10678f4a73aeb165d34c015b673e2634d6899f1195af3", func := "wattle/wattlelaw15.EvalTurns", spec := "evalTurns", inPlace := ["internal/reflectlite.ValueOf", "internal/reflectlite.Swapper", "(internal/reflectlite.Value).Len", "internal/abi.NoEscape", "internal/bytealg.MakeNoZero"], unfollowed := true, recurses := true, loops := true, apart := false }
def EvalTurnsSaid : Prop := evalTurnsRow.holds Tryz.pinned (OpenSpec.ofChange evalTurnsSpec)

/-- ITS FALSE NEIGHBOUR: 'it returns false'. Refute it at one input. -/
def evalTurnsWrong : ChangeSpec := { name := "evalTurns", fn := fun _ => fun
  | [d1, d2, d3] => { results := [.lit (.bool false)], args := [d1, d2, d3] }
  | _ => none }
def EvalTurnsWrongFalsely : Prop := evalTurnsRow.holds Tryz.pinned (OpenSpec.ofChange evalTurnsWrong)

/-- 'wattlelaw15.EvalParts': WHATEVER THE INPUT: true; the input reads as it did. -/
def evalPartsSpec : ChangeSpec := { name := "evalParts", fn := fun _ => fun
  | [d1, d2, d3] => { results := [.lit (.bool true)], args := [d1, d2, d3] }
  | _ => none }
def evalPartsRow : OpenClaim := { program := "ytgbnebnnphdenaagreat", sum := "e2c9e5971e1f4ee924e10678f4a73aeb165d34c015b673e2634d6899f1195af3", func := "wattle/wattlelaw15.EvalParts", spec := "evalParts", inPlace := ["internal/reflectlite.ValueOf", "internal/reflectlite.Swapper", "(internal/reflectlite.Value).Len", "internal/abi.NoEscape", "internal/bytealg.MakeNoZero"], unfollowed := true, recurses := true, loops := true, apart := false }
def EvalPartsSaid : Prop := evalPartsRow.holds Tryz.pinned (OpenSpec.ofChange evalPartsSpec)

/-- ITS FALSE NEIGHBOUR: 'it returns false'. Refute it at one input. -/
def evalPartsWrong : ChangeSpec := { name := "evalParts", fn := fun _ => fun
  | [d1, d2, d3] => { results := [.lit (.bool false)], args := [d1, d2, d3] }
  | _ => none }
def EvalPartsWrongFalsely : Prop := evalPartsRow.holds Tryz.pinned (OpenSpec.ofChange evalPartsWrong)

/-- 'wattlelaw15.EvalBinds': WHATEVER THE INPUT: true; the input reads as it did. -/
def evalBindsSpec : ChangeSpec := { name := "evalBinds", fn := fun _ => fun
  | [d1, d2] => { results := [.lit (.bool true)], args := [d1, d2] }
  | _ => none }
def evalBindsRow : OpenClaim := { program := "ytgbnebnnphdenaagreat", sum := "e2c9e5971e1f4ee924e10678f4a73aeb165d34c015b673e2634d6899f1195af3", func := "wattle/wattlelaw15.EvalBinds", spec := "evalBinds", inPlace := ["internal/reflectlite.ValueOf", "internal/reflectlite.Swapper", "(internal/reflectlite.Value).Len", "internal/abi.NoEscape", "internal/bytealg.MakeNoZero"], unfollowed := true, recurses := true, loops := true, apart := false }
def EvalBindsSaid : Prop := evalBindsRow.holds Tryz.pinned (OpenSpec.ofChange evalBindsSpec)

/-- ITS FALSE NEIGHBOUR: 'it returns false'. Refute it at one input. -/
def evalBindsWrong : ChangeSpec := { name := "evalBinds", fn := fun _ => fun
  | [d1, d2] => { results := [.lit (.bool false)], args := [d1, d2] }
  | _ => none }
def EvalBindsWrongFalsely : Prop := evalBindsRow.holds Tryz.pinned (OpenSpec.ofChange evalBindsWrong)

/-- 'wattlelaw15.EvalMore': WHATEVER THE INPUT: true; the input reads as it did. -/
def evalMoreSpec : ChangeSpec := { name := "evalMore", fn := fun _ => fun
  | [d1, d2, d3] => { results := [.lit (.bool true)], args := [d1, d2, d3] }
  | _ => none }
def evalMoreRow : OpenClaim := { program := "ytgbnebnnphdenaagreat", sum := "e2c9e5971e1f4ee924e10678f4a73aeb165d34c015b673e2634d6899f1195af3", func := "wattle/wattlelaw15.EvalMore", spec := "evalMore", inPlace := ["internal/reflectlite.ValueOf", "internal/reflectlite.Swapper", "(internal/reflectlite.Value).Len", "internal/abi.NoEscape", "internal/bytealg.MakeNoZero"], unfollowed := true, recurses := true, loops := true, apart := false }
def EvalMoreSaid : Prop := evalMoreRow.holds Tryz.pinned (OpenSpec.ofChange evalMoreSpec)

/-- ITS FALSE NEIGHBOUR: 'it returns false'. Refute it at one input. -/
def evalMoreWrong : ChangeSpec := { name := "evalMore", fn := fun _ => fun
  | [d1, d2, d3] => { results := [.lit (.bool false)], args := [d1, d2, d3] }
  | _ => none }
def EvalMoreWrongFalsely : Prop := evalMoreRow.holds Tryz.pinned (OpenSpec.ofChange evalMoreWrong)

/- THE SECOND FORM. 'bulk': how many values and letters a reading holds, each counted each time it is reached (what is shared counts as often as it is met; a slice's spare places count too). A statement '..UptoSaid' is the law's where the arguments, and the package variables that the reading takes, are together of bulk at most 1048576: NARROWER than '..Said'. Prove '..Said' where nothing that the law and all that it calls make is longer than what came in: it says more and counts as full. Else prove '..UptoSaid'. A law counts once. -/
mutual
def uptoBulk {H : Type} : DataW H → Nat
  | .lit (.string bytes) => bytes.length + 1
  | .lit _ => 1
  | .nil => 1
  | .ptr d => uptoBulk d + 1
  | .slice elems spare => uptoBulkAll elems + uptoBulkAll spare + 1
  | .agg parts => uptoBulkAll parts + 1
  | .iface _ d => uptoBulk d + 1
  | .map entries => uptoBulkEntries entries + 1
  | .held _ => 1
def uptoBulkAll {H : Type} : List (DataW H) → Nat
  | [] => 0
  | d :: r => uptoBulk d + uptoBulkAll r
def uptoBulkEntries {H : Type} : List (Lit × DataW H) → Nat
  | [] => 0
  | x :: r => uptoBulkEntry x + uptoBulkEntries r
def uptoBulkEntry {H : Type} : Lit × DataW H → Nat
  | (.string bytes, d) => bytes.length + uptoBulk d + 1
  | (_, d) => uptoBulk d + 1
 end
def uptoSmall : (H : Type) → List (DataW H) → Bool := fun _ ds => decide (uptoBulkAll ds ≤ 1048576)
def OpenSpec.upto (s : _root_.Go.ChangeSpec) : _root_.Go.OpenSpec := { _root_.Go.OpenSpec.ofChange s with cond := some uptoSmall }

/-- 'wattlelaw15.EvalTurns', WHERE WHAT IT READS IS OF BULK AT MOST 1048576: true; the input reads as it did. -/
def evalTurnsUptoRow : OpenClaim := { program := "ytgbnebnnphdenaagreat", sum := "e2c9e5971e1f4ee924e10678f4a73aeb165d34c015b673e2634d6899f1195af3", func := "wattle/wattlelaw15.EvalTurns", spec := "evalTurns", inPlace := ["internal/reflectlite.ValueOf", "internal/reflectlite.Swapper", "(internal/reflectlite.Value).Len", "internal/abi.NoEscape", "internal/bytealg.MakeNoZero"], unfollowed := true, recurses := true, loops := true, apart := false, narrowed := true }
def EvalTurnsUptoSaid : Prop := evalTurnsUptoRow.holds Tryz.pinned (OpenSpec.upto evalTurnsSpec)

/-- 'wattlelaw15.EvalParts', WHERE WHAT IT READS IS OF BULK AT MOST 1048576: true; the input reads as it did. -/
def evalPartsUptoRow : OpenClaim := { program := "ytgbnebnnphdenaagreat", sum := "e2c9e5971e1f4ee924e10678f4a73aeb165d34c015b673e2634d6899f1195af3", func := "wattle/wattlelaw15.EvalParts", spec := "evalParts", inPlace := ["internal/reflectlite.ValueOf", "internal/reflectlite.Swapper", "(internal/reflectlite.Value).Len", "internal/abi.NoEscape", "internal/bytealg.MakeNoZero"], unfollowed := true, recurses := true, loops := true, apart := false, narrowed := true }
def EvalPartsUptoSaid : Prop := evalPartsUptoRow.holds Tryz.pinned (OpenSpec.upto evalPartsSpec)

/-- 'wattlelaw15.EvalBinds', WHERE WHAT IT READS IS OF BULK AT MOST 1048576: true; the input reads as it did. -/
def evalBindsUptoRow : OpenClaim := { program := "ytgbnebnnphdenaagreat", sum := "e2c9e5971e1f4ee924e10678f4a73aeb165d34c015b673e2634d6899f1195af3", func := "wattle/wattlelaw15.EvalBinds", spec := "evalBinds", inPlace := ["internal/reflectlite.ValueOf", "internal/reflectlite.Swapper", "(internal/reflectlite.Value).Len", "internal/abi.NoEscape", "internal/bytealg.MakeNoZero"], unfollowed := true, recurses := true, loops := true, apart := false, narrowed := true }
def EvalBindsUptoSaid : Prop := evalBindsUptoRow.holds Tryz.pinned (OpenSpec.upto evalBindsSpec)

/-- 'wattlelaw15.EvalMore', WHERE WHAT IT READS IS OF BULK AT MOST 1048576: true; the input reads as it did. -/
def evalMoreUptoRow : OpenClaim := { program := "ytgbnebnnphdenaagreat", sum := "e2c9e5971e1f4ee924e10678f4a73aeb165d34c015b673e2634d6899f1195af3", func := "wattle/wattlelaw15.EvalMore", spec := "evalMore", inPlace := ["internal/reflectlite.ValueOf", "internal/reflectlite.Swapper", "(internal/reflectlite.Value).Len", "internal/abi.NoEscape", "internal/bytealg.MakeNoZero"], unfollowed := true, recurses := true, loops := true, apart := false, narrowed := true }
def EvalMoreUptoSaid : Prop := evalMoreUptoRow.holds Tryz.pinned (OpenSpec.upto evalMoreSpec)

end Rows
end Go.Proofs.YtgbnebnnphdenaaGreat
