/-
  NARROWER THAN 'FOR EVERY INPUT', by the rows' own cells (each row's printed sentence says how): ScopeChecks: loops · ScopeNames: loops · ScopeRenamed: loops · ScopeAhead: loops · ScopeIdle: loops.
  DERIVED. THE GIVEN ROWS OF THIS SEAT. 6 by the template 'for every input the law returns true; each argument reads behind the call as it read before'; 0 by the template 'total and deterministic' (their statements: YtneaemdbncgcdaaGreatTotals.lean).
  GIVEN WITH THE SEED: the statements are not yours to turn. If you find one false, say at which input.
  Laid BY PROGRAM, IN A SANDBOX (cutbox-rows.mjs): the forced cells as the released guide's own fill.sh prints them over the translation b796ebbeec31213b… (all of the seat's roots in one cut). By AI agents, Wed Nov 11 2026. No macro, syntax, notation, axiom, sorry.
-/
import Derived.Test.YtneaemdbncgcdaaGreatChecked
import GoSem.Claim
import GoSem.ClaimJoined
import GoSem.ClaimMapViews
import Derived.JoinedTies
import Derived.KernelRfl
namespace Go.Proofs.YtneaemdbncgcdaaGreat
/- THE CELL 'sum', in the pinned program and in every row, IS THE sha256 OF THE DUMP (.gsa) THAT YtneaemdbncgcdaaGreatProg.lean LOADS. Nothing in Lean hashes anything: it is a label: what it is worth is what the hold of that sum in a sandbox is worth. -/
noncomputable def Tryz.pinned : Pinned := { name := "ytneaemdbncgcdaagreat", sum := "b796ebbeec31213b2b8d210a6652638322d9fafd471fa868f640ac6b8c7750ea", checked := Tryz.checked }
namespace Rows
def none {H : Type} : Left H := { results := [], args := [] }

/-- 'wattlelaw13.ScopeChecks': WHATEVER THE INPUT: true; the input reads as it did. -/
def scopeChecksSpec : ChangeSpec := { name := "scopeChecks", fn := fun _ => fun
  | [d] => { results := [.lit (.bool true)], args := [d] }
  | _ => none }
def scopeChecksRow : OpenClaim := { program := "ytneaemdbncgcdaagreat", sum := "b796ebbeec31213b2b8d210a6652638322d9fafd471fa868f640ac6b8c7750ea", func := "wattle/wattlelaw13.ScopeChecks", spec := "scopeChecks", unfollowed := true, recurses := true, loops := true, apart := false }
def ScopeChecksSaid : Prop := scopeChecksRow.holds Tryz.pinned (OpenSpec.ofChange scopeChecksSpec)

/-- ITS FALSE NEIGHBOUR: 'it returns false'. Refute it at one input. -/
def scopeChecksWrong : ChangeSpec := { name := "scopeChecks", fn := fun _ => fun
  | [d] => { results := [.lit (.bool false)], args := [d] }
  | _ => none }
def ScopeChecksWrongFalsely : Prop := scopeChecksRow.holds Tryz.pinned (OpenSpec.ofChange scopeChecksWrong)

/-- 'wattlelaw13.ScopeNames': WHATEVER THE INPUT: true; the input reads as it did. -/
def scopeNamesSpec : ChangeSpec := { name := "scopeNames", fn := fun _ => fun
  | [d1, d2] => { results := [.lit (.bool true)], args := [d1, d2] }
  | _ => none }
def scopeNamesRow : OpenClaim := { program := "ytneaemdbncgcdaagreat", sum := "b796ebbeec31213b2b8d210a6652638322d9fafd471fa868f640ac6b8c7750ea", func := "wattle/wattlelaw13.ScopeNames", spec := "scopeNames", unfollowed := true, recurses := true, loops := true, apart := false }
def ScopeNamesSaid : Prop := scopeNamesRow.holds Tryz.pinned (OpenSpec.ofChange scopeNamesSpec)

/-- ITS FALSE NEIGHBOUR: 'it returns false'. Refute it at one input. -/
def scopeNamesWrong : ChangeSpec := { name := "scopeNames", fn := fun _ => fun
  | [d1, d2] => { results := [.lit (.bool false)], args := [d1, d2] }
  | _ => none }
def ScopeNamesWrongFalsely : Prop := scopeNamesRow.holds Tryz.pinned (OpenSpec.ofChange scopeNamesWrong)

/-- 'wattlelaw13.ScopeTexts': WHATEVER THE INPUT: true; the input reads as it did. -/
def scopeTextsSpec : ChangeSpec := { name := "scopeTexts", fn := fun _ => fun
  | [d] => { results := [.lit (.bool true)], args := [d] }
  | _ => none }
def scopeTextsRow : OpenClaim := { program := "ytneaemdbncgcdaagreat", sum := "b796ebbeec31213b2b8d210a6652638322d9fafd471fa868f640ac6b8c7750ea", func := "wattle/wattlelaw13.ScopeTexts", spec := "scopeTexts", unfollowed := true, recurses := true, apart := false }
def ScopeTextsSaid : Prop := scopeTextsRow.holds Tryz.pinned (OpenSpec.ofChange scopeTextsSpec)

/-- ITS FALSE NEIGHBOUR: 'it returns false'. Refute it at one input. -/
def scopeTextsWrong : ChangeSpec := { name := "scopeTexts", fn := fun _ => fun
  | [d] => { results := [.lit (.bool false)], args := [d] }
  | _ => none }
def ScopeTextsWrongFalsely : Prop := scopeTextsRow.holds Tryz.pinned (OpenSpec.ofChange scopeTextsWrong)

/-- 'wattlelaw13.ScopeRenamed': WHATEVER THE INPUT: true; the input reads as it did. -/
def scopeRenamedSpec : ChangeSpec := { name := "scopeRenamed", fn := fun _ => fun
  | [d] => { results := [.lit (.bool true)], args := [d] }
  | _ => none }
def scopeRenamedRow : OpenClaim := { program := "ytneaemdbncgcdaagreat", sum := "b796ebbeec31213b2b8d210a6652638322d9fafd471fa868f640ac6b8c7750ea", func := "wattle/wattlelaw13.ScopeRenamed", spec := "scopeRenamed", unfollowed := true, recurses := true, loops := true, apart := false }
def ScopeRenamedSaid : Prop := scopeRenamedRow.holds Tryz.pinned (OpenSpec.ofChange scopeRenamedSpec)

/-- ITS FALSE NEIGHBOUR: 'it returns false'. Refute it at one input. -/
def scopeRenamedWrong : ChangeSpec := { name := "scopeRenamed", fn := fun _ => fun
  | [d] => { results := [.lit (.bool false)], args := [d] }
  | _ => none }
def ScopeRenamedWrongFalsely : Prop := scopeRenamedRow.holds Tryz.pinned (OpenSpec.ofChange scopeRenamedWrong)

/-- 'wattlelaw13.ScopeAhead': WHATEVER THE INPUT: true; the input reads as it did. -/
def scopeAheadSpec : ChangeSpec := { name := "scopeAhead", fn := fun _ => fun
  | [d1, d2] => { results := [.lit (.bool true)], args := [d1, d2] }
  | _ => none }
def scopeAheadRow : OpenClaim := { program := "ytneaemdbncgcdaagreat", sum := "b796ebbeec31213b2b8d210a6652638322d9fafd471fa868f640ac6b8c7750ea", func := "wattle/wattlelaw13.ScopeAhead", spec := "scopeAhead", unfollowed := true, recurses := true, loops := true, apart := false }
def ScopeAheadSaid : Prop := scopeAheadRow.holds Tryz.pinned (OpenSpec.ofChange scopeAheadSpec)

/-- ITS FALSE NEIGHBOUR: 'it returns false'. Refute it at one input. -/
def scopeAheadWrong : ChangeSpec := { name := "scopeAhead", fn := fun _ => fun
  | [d1, d2] => { results := [.lit (.bool false)], args := [d1, d2] }
  | _ => none }
def ScopeAheadWrongFalsely : Prop := scopeAheadRow.holds Tryz.pinned (OpenSpec.ofChange scopeAheadWrong)

/-- 'wattlelaw13.ScopeIdle': WHATEVER THE INPUT: true; the input reads as it did. -/
def scopeIdleSpec : ChangeSpec := { name := "scopeIdle", fn := fun _ => fun
  | [d] => { results := [.lit (.bool true)], args := [d] }
  | _ => none }
def scopeIdleRow : OpenClaim := { program := "ytneaemdbncgcdaagreat", sum := "b796ebbeec31213b2b8d210a6652638322d9fafd471fa868f640ac6b8c7750ea", func := "wattle/wattlelaw13.ScopeIdle", spec := "scopeIdle", unfollowed := true, recurses := true, loops := true, apart := false }
def ScopeIdleSaid : Prop := scopeIdleRow.holds Tryz.pinned (OpenSpec.ofChange scopeIdleSpec)

/-- ITS FALSE NEIGHBOUR: 'it returns false'. Refute it at one input. -/
def scopeIdleWrong : ChangeSpec := { name := "scopeIdle", fn := fun _ => fun
  | [d] => { results := [.lit (.bool false)], args := [d] }
  | _ => none }
def ScopeIdleWrongFalsely : Prop := scopeIdleRow.holds Tryz.pinned (OpenSpec.ofChange scopeIdleWrong)

/- THE SECOND FORM. 'bulk': how many values and letters a reading holds, each counted each time it is reached (what is shared counts as often as it is met; a slice's spare places count too). A statement '..UptoSaid' is the law's where the arguments, and the package variables that the reading takes, are together of bulk at most 1048576: NARROWER than '..Said'. Prove '..Said' where nothing that the law and all that it calls make is longer than what came in: it says more and counts as full. Else prove '..UptoSaid'. A law counts once. -/
mutual
def uptoBulk {H : Type} : DataW H → Nat
  | .lit (.string bytes) => bytes.length + 1
  | .lit _ => 1
  | .nil => 1
  | .ptr d => uptoBulk d + 1
  | .slice elems spare => uptoBulkAll elems + uptoBulkAll spare + 1
  | .agg parts => uptoBulkAll parts + 1
  | .iface _ d => uptoBulk d + 1
  | .map entries => uptoBulkEntries entries + 1
  | .held _ => 1
def uptoBulkAll {H : Type} : List (DataW H) → Nat
  | [] => 0
  | d :: r => uptoBulk d + uptoBulkAll r
def uptoBulkEntries {H : Type} : List (Lit × DataW H) → Nat
  | [] => 0
  | x :: r => uptoBulkEntry x + uptoBulkEntries r
def uptoBulkEntry {H : Type} : Lit × DataW H → Nat
  | (.string bytes, d) => bytes.length + uptoBulk d + 1
  | (_, d) => uptoBulk d + 1
 end
def uptoSmall : (H : Type) → List (DataW H) → Bool := fun _ ds => decide (uptoBulkAll ds ≤ 1048576)
def OpenSpec.upto (s : _root_.Go.ChangeSpec) : _root_.Go.OpenSpec := { _root_.Go.OpenSpec.ofChange s with cond := some uptoSmall }

/-- 'wattlelaw13.ScopeChecks', WHERE WHAT IT READS IS OF BULK AT MOST 1048576: true; the input reads as it did. -/
def scopeChecksUptoRow : OpenClaim := { program := "ytneaemdbncgcdaagreat", sum := "b796ebbeec31213b2b8d210a6652638322d9fafd471fa868f640ac6b8c7750ea", func := "wattle/wattlelaw13.ScopeChecks", spec := "scopeChecks", unfollowed := true, recurses := true, loops := true, apart := false, narrowed := true }
def ScopeChecksUptoSaid : Prop := scopeChecksUptoRow.holds Tryz.pinned (OpenSpec.upto scopeChecksSpec)

/-- 'wattlelaw13.ScopeNames', WHERE WHAT IT READS IS OF BULK AT MOST 1048576: true; the input reads as it did. -/
def scopeNamesUptoRow : OpenClaim := { program := "ytneaemdbncgcdaagreat", sum := "b796ebbeec31213b2b8d210a6652638322d9fafd471fa868f640ac6b8c7750ea", func := "wattle/wattlelaw13.ScopeNames", spec := "scopeNames", unfollowed := true, recurses := true, loops := true, apart := false, narrowed := true }
def ScopeNamesUptoSaid : Prop := scopeNamesUptoRow.holds Tryz.pinned (OpenSpec.upto scopeNamesSpec)

/-- 'wattlelaw13.ScopeTexts', WHERE WHAT IT READS IS OF BULK AT MOST 1048576: true; the input reads as it did. -/
def scopeTextsUptoRow : OpenClaim := { program := "ytneaemdbncgcdaagreat", sum := "b796ebbeec31213b2b8d210a6652638322d9fafd471fa868f640ac6b8c7750ea", func := "wattle/wattlelaw13.ScopeTexts", spec := "scopeTexts", unfollowed := true, recurses := true, apart := false, narrowed := true }
def ScopeTextsUptoSaid : Prop := scopeTextsUptoRow.holds Tryz.pinned (OpenSpec.upto scopeTextsSpec)

/-- 'wattlelaw13.ScopeRenamed', WHERE WHAT IT READS IS OF BULK AT MOST 1048576: true; the input reads as it did. -/
def scopeRenamedUptoRow : OpenClaim := { program := "ytneaemdbncgcdaagreat", sum := "b796ebbeec31213b2b8d210a6652638322d9fafd471fa868f640ac6b8c7750ea", func := "wattle/wattlelaw13.ScopeRenamed", spec := "scopeRenamed", unfollowed := true, recurses := true, loops := true, apart := false, narrowed := true }
def ScopeRenamedUptoSaid : Prop := scopeRenamedUptoRow.holds Tryz.pinned (OpenSpec.upto scopeRenamedSpec)

/-- 'wattlelaw13.ScopeAhead', WHERE WHAT IT READS IS OF BULK AT MOST 1048576: true; the input reads as it did. -/
def scopeAheadUptoRow : OpenClaim := { program := "ytneaemdbncgcdaagreat", sum := "b796ebbeec31213b2b8d210a6652638322d9fafd471fa868f640ac6b8c7750ea", func := "wattle/wattlelaw13.ScopeAhead", spec := "scopeAhead", unfollowed := true, recurses := true, loops := true, apart := false, narrowed := true }
def ScopeAheadUptoSaid : Prop := scopeAheadUptoRow.holds Tryz.pinned (OpenSpec.upto scopeAheadSpec)

/-- 'wattlelaw13.ScopeIdle', WHERE WHAT IT READS IS OF BULK AT MOST 1048576: true; the input reads as it did. -/
def scopeIdleUptoRow : OpenClaim := { program := "ytneaemdbncgcdaagreat", sum := "b796ebbeec31213b2b8d210a6652638322d9fafd471fa868f640ac6b8c7750ea", func := "wattle/wattlelaw13.ScopeIdle", spec := "scopeIdle", unfollowed := true, recurses := true, loops := true, apart := false, narrowed := true }
def ScopeIdleUptoSaid : Prop := scopeIdleUptoRow.holds Tryz.pinned (OpenSpec.upto scopeIdleSpec)

end Rows
end Go.Proofs.YtneaemdbncgcdaaGreat
