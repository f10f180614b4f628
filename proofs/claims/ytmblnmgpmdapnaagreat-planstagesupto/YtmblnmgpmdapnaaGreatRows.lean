/-
  NARROWER THAN 'FOR EVERY INPUT', by the rows' own cells (each row's printed sentence says how): PlanStages: loops · PlanCovers: loops · PlanSeeks: loops · PlanRenamed: loops.
  DERIVED. THE GIVEN ROWS OF THIS SEAT. 5 by the template 'for every input the law returns true; each argument reads behind the call as it read before'; 0 by the template 'total and deterministic' (their statements: YtmblnmgpmdapnaaGreatTotals.lean).
  GIVEN WITH THE SEED: the statements are not yours to turn. If you find one false, say at which input.
  Laid BY PROGRAM, IN A SANDBOX (cutbox-rows.mjs): the forced cells as the released guide's own fill.sh prints them over the translation 05a063da9aebea91… (all of the seat's roots in one cut). By AI agents, Wed Nov 11 2026. No macro, syntax, notation, axiom, sorry.
-/
import Derived.Test.YtmblnmgpmdapnaaGreatChecked
import GoSem.Claim
import GoSem.ClaimJoined
import GoSem.ClaimMapViews
import Derived.JoinedTies
import Derived.KernelRfl
namespace Go.Proofs.YtmblnmgpmdapnaaGreat
/- THE CELL 'sum', in the pinned program and in every row, IS THE sha256 OF THE DUMP (.gsa) THAT YtmblnmgpmdapnaaGreatProg.lean LOADS. Nothing in Lean hashes anything: it is a label: what it is worth is what the hold of that sum in a sandbox is worth. -/
noncomputable def Tryz.pinned : Pinned := { name := "ytmblnmgpmdapnaagreat", sum := "05a063da9aebea91dd06ed6afb254695fd954ced14ee1fa44b9b99adcc911b66", checked := Tryz.checked }
namespace Rows
def none {H : Type} : Left H := { results := [], args := [] }

/-- 'wattlelaw20.PlanStages': WHATEVER THE INPUT: true; the input reads as it did. -/
def planStagesSpec : ChangeSpec := { name := "planStages", fn := fun _ => fun
  | [d] => { results := [.lit (.bool true)], args := [d] }
  | _ => none }
def planStagesRow : OpenClaim := { program := "ytmblnmgpmdapnaagreat", sum := "05a063da9aebea91dd06ed6afb254695fd954ced14ee1fa44b9b99adcc911b66", func := "wattle/wattlelaw20.PlanStages", spec := "planStages", inPlace := ["internal/abi.NoEscape", "internal/bytealg.IndexByteString", "internal/bytealg.IndexString"], unfollowed := true, recurses := true, named := ["internal/bytealg.MaxLen"], loops := true, apart := false }
def PlanStagesSaid : Prop := planStagesRow.holds Tryz.pinned (OpenSpec.ofChange planStagesSpec)

/-- ITS FALSE NEIGHBOUR: 'it returns false'. Refute it at one input. -/
def planStagesWrong : ChangeSpec := { name := "planStages", fn := fun _ => fun
  | [d] => { results := [.lit (.bool false)], args := [d] }
  | _ => none }
def PlanStagesWrongFalsely : Prop := planStagesRow.holds Tryz.pinned (OpenSpec.ofChange planStagesWrong)

/-- 'wattlelaw20.PlanTexts': WHATEVER THE INPUT: true; the input reads as it did. -/
def planTextsSpec : ChangeSpec := { name := "planTexts", fn := fun _ => fun
  | [d] => { results := [.lit (.bool true)], args := [d] }
  | _ => none }
def planTextsRow : OpenClaim := { program := "ytmblnmgpmdapnaagreat", sum := "05a063da9aebea91dd06ed6afb254695fd954ced14ee1fa44b9b99adcc911b66", func := "wattle/wattlelaw20.PlanTexts", spec := "planTexts", inPlace := ["internal/abi.NoEscape", "internal/bytealg.IndexByteString", "internal/bytealg.IndexString"], unfollowed := true, recurses := true, named := ["internal/bytealg.MaxLen"], apart := false }
def PlanTextsSaid : Prop := planTextsRow.holds Tryz.pinned (OpenSpec.ofChange planTextsSpec)

/-- ITS FALSE NEIGHBOUR: 'it returns false'. Refute it at one input. -/
def planTextsWrong : ChangeSpec := { name := "planTexts", fn := fun _ => fun
  | [d] => { results := [.lit (.bool false)], args := [d] }
  | _ => none }
def PlanTextsWrongFalsely : Prop := planTextsRow.holds Tryz.pinned (OpenSpec.ofChange planTextsWrong)

/-- 'wattlelaw20.PlanCovers': WHATEVER THE INPUT: true; the input reads as it did. -/
def planCoversSpec : ChangeSpec := { name := "planCovers", fn := fun _ => fun
  | [d] => { results := [.lit (.bool true)], args := [d] }
  | _ => none }
def planCoversRow : OpenClaim := { program := "ytmblnmgpmdapnaagreat", sum := "05a063da9aebea91dd06ed6afb254695fd954ced14ee1fa44b9b99adcc911b66", func := "wattle/wattlelaw20.PlanCovers", spec := "planCovers", inPlace := ["internal/abi.NoEscape", "internal/bytealg.IndexByteString", "internal/bytealg.IndexString"], unfollowed := true, recurses := true, named := ["internal/bytealg.MaxLen"], loops := true, apart := false }
def PlanCoversSaid : Prop := planCoversRow.holds Tryz.pinned (OpenSpec.ofChange planCoversSpec)

/-- ITS FALSE NEIGHBOUR: 'it returns false'. Refute it at one input. -/
def planCoversWrong : ChangeSpec := { name := "planCovers", fn := fun _ => fun
  | [d] => { results := [.lit (.bool false)], args := [d] }
  | _ => none }
def PlanCoversWrongFalsely : Prop := planCoversRow.holds Tryz.pinned (OpenSpec.ofChange planCoversWrong)

/-- 'wattlelaw20.PlanSeeks': WHATEVER THE INPUT: true; the input reads as it did. -/
def planSeeksSpec : ChangeSpec := { name := "planSeeks", fn := fun _ => fun
  | [d] => { results := [.lit (.bool true)], args := [d] }
  | _ => none }
def planSeeksRow : OpenClaim := { program := "ytmblnmgpmdapnaagreat", sum := "05a063da9aebea91dd06ed6afb254695fd954ced14ee1fa44b9b99adcc911b66", func := "wattle/wattlelaw20.PlanSeeks", spec := "planSeeks", inPlace := ["internal/abi.NoEscape", "internal/bytealg.IndexByteString", "internal/bytealg.IndexString"], unfollowed := true, recurses := true, named := ["internal/bytealg.MaxLen"], loops := true, apart := false }
def PlanSeeksSaid : Prop := planSeeksRow.holds Tryz.pinned (OpenSpec.ofChange planSeeksSpec)

/-- ITS FALSE NEIGHBOUR: 'it returns false'. Refute it at one input. -/
def planSeeksWrong : ChangeSpec := { name := "planSeeks", fn := fun _ => fun
  | [d] => { results := [.lit (.bool false)], args := [d] }
  | _ => none }
def PlanSeeksWrongFalsely : Prop := planSeeksRow.holds Tryz.pinned (OpenSpec.ofChange planSeeksWrong)

/-- 'wattlelaw20.PlanRenamed': WHATEVER THE INPUT: true; the input reads as it did. -/
def planRenamedSpec : ChangeSpec := { name := "planRenamed", fn := fun _ => fun
  | [d] => { results := [.lit (.bool true)], args := [d] }
  | _ => none }
def planRenamedRow : OpenClaim := { program := "ytmblnmgpmdapnaagreat", sum := "05a063da9aebea91dd06ed6afb254695fd954ced14ee1fa44b9b99adcc911b66", func := "wattle/wattlelaw20.PlanRenamed", spec := "planRenamed", inPlace := ["internal/abi.NoEscape", "internal/bytealg.IndexByteString", "internal/bytealg.IndexString"], unfollowed := true, recurses := true, named := ["internal/bytealg.MaxLen"], loops := true, apart := false }
def PlanRenamedSaid : Prop := planRenamedRow.holds Tryz.pinned (OpenSpec.ofChange planRenamedSpec)

/-- ITS FALSE NEIGHBOUR: 'it returns false'. Refute it at one input. -/
def planRenamedWrong : ChangeSpec := { name := "planRenamed", fn := fun _ => fun
  | [d] => { results := [.lit (.bool false)], args := [d] }
  | _ => none }
def PlanRenamedWrongFalsely : Prop := planRenamedRow.holds Tryz.pinned (OpenSpec.ofChange planRenamedWrong)

/- THE SECOND FORM. 'bulk': how many values and letters a reading holds, each counted each time it is reached (what is shared counts as often as it is met; a slice's spare places count too). A statement '..UptoSaid' is the law's where the arguments, and the package variables that the reading takes, are together of bulk at most 1048576: NARROWER than '..Said'. Prove '..Said' where nothing that the law and all that it calls make is longer than what came in: it says more and counts as full. Else prove '..UptoSaid'. A law counts once. -/
mutual
def uptoBulk {H : Type} : DataW H → Nat
  | .lit (.string bytes) => bytes.length + 1
  | .lit _ => 1
  | .nil => 1
  | .ptr d => uptoBulk d + 1
  | .slice elems spare => uptoBulkAll elems + uptoBulkAll spare + 1
  | .agg parts => uptoBulkAll parts + 1
  | .iface _ d => uptoBulk d + 1
  | .map entries => uptoBulkEntries entries + 1
  | .held _ => 1
def uptoBulkAll {H : Type} : List (DataW H) → Nat
  | [] => 0
  | d :: r => uptoBulk d + uptoBulkAll r
def uptoBulkEntries {H : Type} : List (Lit × DataW H) → Nat
  | [] => 0
  | x :: r => uptoBulkEntry x + uptoBulkEntries r
def uptoBulkEntry {H : Type} : Lit × DataW H → Nat
  | (.string bytes, d) => bytes.length + uptoBulk d + 1
  | (_, d) => uptoBulk d + 1
 end
def uptoSmall : (H : Type) → List (DataW H) → Bool := fun _ ds => decide (uptoBulkAll ds ≤ 1048576)
def OpenSpec.upto (s : _root_.Go.ChangeSpec) : _root_.Go.OpenSpec := { _root_.Go.OpenSpec.ofChange s with cond := some uptoSmall }

/-- 'wattlelaw20.PlanStages', WHERE WHAT IT READS IS OF BULK AT MOST 1048576: true; the input reads as it did. -/
def planStagesUptoRow : OpenClaim := { program := "ytmblnmgpmdapnaagreat", sum := "05a063da9aebea91dd06ed6afb254695fd954ced14ee1fa44b9b99adcc911b66", func := "wattle/wattlelaw20.PlanStages", spec := "planStages", inPlace := ["internal/abi.NoEscape", "internal/bytealg.IndexByteString", "internal/bytealg.IndexString"], unfollowed := true, recurses := true, named := ["internal/bytealg.MaxLen"], loops := true, apart := false, narrowed := true }
def PlanStagesUptoSaid : Prop := planStagesUptoRow.holds Tryz.pinned (OpenSpec.upto planStagesSpec)

/-- 'wattlelaw20.PlanTexts', WHERE WHAT IT READS IS OF BULK AT MOST 1048576: true; the input reads as it did. -/
def planTextsUptoRow : OpenClaim := { program := "ytmblnmgpmdapnaagreat", sum := "05a063da9aebea91dd06ed6afb254695fd954ced14ee1fa44b9b99adcc911b66", func := "wattle/wattlelaw20.PlanTexts", spec := "planTexts", inPlace := ["internal/abi.NoEscape", "internal/bytealg.IndexByteString", "internal/bytealg.IndexString"], unfollowed := true, recurses := true, named := ["internal/bytealg.MaxLen"], apart := false, narrowed := true }
def PlanTextsUptoSaid : Prop := planTextsUptoRow.holds Tryz.pinned (OpenSpec.upto planTextsSpec)

/-- 'wattlelaw20.PlanCovers', WHERE WHAT IT READS IS OF BULK AT MOST 1048576: true; the input reads as it did. -/
def planCoversUptoRow : OpenClaim := { program := "ytmblnmgpmdapnaagreat", sum := "05a063da9aebea91dd06ed6afb254695fd954ced14ee1fa44b9b99adcc911b66", func := "wattle/wattlelaw20.PlanCovers", spec := "planCovers", inPlace := ["internal/abi.NoEscape", "internal/bytealg.IndexByteString", "internal/bytealg.IndexString"], unfollowed := true, recurses := true, named := ["internal/bytealg.MaxLen"], loops := true, apart := false, narrowed := true }
def PlanCoversUptoSaid : Prop := planCoversUptoRow.holds Tryz.pinned (OpenSpec.upto planCoversSpec)

/-- 'wattlelaw20.PlanSeeks', WHERE WHAT IT READS IS OF BULK AT MOST 1048576: true; the input reads as it did. -/
def planSeeksUptoRow : OpenClaim := { program := "ytmblnmgpmdapnaagreat", sum := "05a063da9aebea91dd06ed6afb254695fd954ced14ee1fa44b9b99adcc911b66", func := "wattle/wattlelaw20.PlanSeeks", spec := "planSeeks", inPlace := ["internal/abi.NoEscape", "internal/bytealg.IndexByteString", "internal/bytealg.IndexString"], unfollowed := true, recurses := true, named := ["internal/bytealg.MaxLen"], loops := true, apart := false, narrowed := true }
def PlanSeeksUptoSaid : Prop := planSeeksUptoRow.holds Tryz.pinned (OpenSpec.upto planSeeksSpec)

/-- 'wattlelaw20.PlanRenamed', WHERE WHAT IT READS IS OF BULK AT MOST 1048576: true; the input reads as it did. -/
def planRenamedUptoRow : OpenClaim := { program := "ytmblnmgpmdapnaagreat", sum := "05a063da9aebea91dd06ed6afb254695fd954ced14ee1fa44b9b99adcc911b66", func := "wattle/wattlelaw20.PlanRenamed", spec := "planRenamed", inPlace := ["internal/abi.NoEscape", "internal/bytealg.IndexByteString", "internal/bytealg.IndexString"], unfollowed := true, recurses := true, named := ["internal/bytealg.MaxLen"], loops := true, apart := false, narrowed := true }
def PlanRenamedUptoSaid : Prop := planRenamedUptoRow.holds Tryz.pinned (OpenSpec.upto planRenamedSpec)

end Rows
end Go.Proofs.YtmblnmgpmdapnaaGreat
