/-
  NARROWER THAN 'FOR EVERY INPUT', by the rows' own cells (each row's printed sentence says how): MarksReads: loops · MarksTouches: loops · MarksRenamed: loops.
  DERIVED. THE GIVEN ROWS OF THIS SEAT. 3 by the template 'for every input the law returns true; each argument reads behind the call as it read before'; 0 by the template 'total and deterministic' (their statements: YtlnipohgljbfiaaGreatTotals.lean).
  GIVEN WITH THE SEED: the statements are not yours to turn. If you find one false, say at which input.
  Laid BY PROGRAM, IN A SANDBOX (cutbox-rows.mjs): the forced cells as the released guide's own fill.sh prints them over the translation 6d9ed36f7dcaa2c3… (all of the seat's roots in one cut). By AI agents, Wed Nov 11 2026. No macro, syntax, notation, axiom, sorry.
-/
import Derived.Test.YtlnipohgljbfiaaGreatChecked
import GoSem.Claim
import GoSem.ClaimJoined
import GoSem.ClaimMapViews
import Derived.JoinedTies
import Derived.KernelRfl
namespace Go.Proofs.YtlnipohgljbfiaaGreat
/- THE CELL 'sum', in the pinned program and in every row, IS THE sha256 OF THE DUMP (.gsa) THAT YtlnipohgljbfiaaGreatProg.lean LOADS. Nothing in Lean hashes anything: it is a label: what it is worth is what the hold of that sum in a sandbox is worth. -/
noncomputable def Tryz.pinned : Pinned := { name := "ytlnipohgljbfiaagreat", sum := "6d9ed36f7dcaa2c34dd04c82bfb73fb433e32e8d118a8590f9fa73030c8a71a8", checked := Tryz.checked }
namespace Rows
def none {H : Type} : Left H := { results := [], args := [] }

/-- 'wattlelaw26.MarksReads': WHATEVER THE INPUT: true; the input reads as it did. -/
def marksReadsSpec : ChangeSpec := { name := "marksReads", fn := fun _ => fun
  | [d1, d2] => { results := [.lit (.bool true)], args := [d1, d2] }
  | _ => none }
def marksReadsRow : OpenClaim := { program := "ytlnipohgljbfiaagreat", sum := "6d9ed36f7dcaa2c34dd04c82bfb73fb433e32e8d118a8590f9fa73030c8a71a8", func := "wattle/wattlelaw26.MarksReads", spec := "marksReads", inPlace := ["internal/bytealg.IndexByteString", "internal/bytealg.IndexString", "internal/abi.NoEscape", "internal/bytealg.MakeNoZero"], unfollowed := true, recurses := true, named := ["internal/bytealg.MaxLen"], loops := true, apart := false }
def MarksReadsSaid : Prop := marksReadsRow.holds Tryz.pinned (OpenSpec.ofChange marksReadsSpec)

/-- ITS FALSE NEIGHBOUR: 'it returns false'. Refute it at one input. -/
def marksReadsWrong : ChangeSpec := { name := "marksReads", fn := fun _ => fun
  | [d1, d2] => { results := [.lit (.bool false)], args := [d1, d2] }
  | _ => none }
def MarksReadsWrongFalsely : Prop := marksReadsRow.holds Tryz.pinned (OpenSpec.ofChange marksReadsWrong)

/-- 'wattlelaw26.MarksTouches': WHATEVER THE INPUT: true; the input reads as it did. -/
def marksTouchesSpec : ChangeSpec := { name := "marksTouches", fn := fun _ => fun
  | [d1, d2] => { results := [.lit (.bool true)], args := [d1, d2] }
  | _ => none }
def marksTouchesRow : OpenClaim := { program := "ytlnipohgljbfiaagreat", sum := "6d9ed36f7dcaa2c34dd04c82bfb73fb433e32e8d118a8590f9fa73030c8a71a8", func := "wattle/wattlelaw26.MarksTouches", spec := "marksTouches", inPlace := ["internal/bytealg.IndexByteString", "internal/bytealg.IndexString", "internal/abi.NoEscape", "internal/bytealg.MakeNoZero"], unfollowed := true, recurses := true, named := ["internal/bytealg.MaxLen"], loops := true, apart := false }
def MarksTouchesSaid : Prop := marksTouchesRow.holds Tryz.pinned (OpenSpec.ofChange marksTouchesSpec)

/-- ITS FALSE NEIGHBOUR: 'it returns false'. Refute it at one input. -/
def marksTouchesWrong : ChangeSpec := { name := "marksTouches", fn := fun _ => fun
  | [d1, d2] => { results := [.lit (.bool false)], args := [d1, d2] }
  | _ => none }
def MarksTouchesWrongFalsely : Prop := marksTouchesRow.holds Tryz.pinned (OpenSpec.ofChange marksTouchesWrong)

/-- 'wattlelaw26.MarksRenamed': WHATEVER THE INPUT: true; the input reads as it did. -/
def marksRenamedSpec : ChangeSpec := { name := "marksRenamed", fn := fun _ => fun
  | [d] => { results := [.lit (.bool true)], args := [d] }
  | _ => none }
def marksRenamedRow : OpenClaim := { program := "ytlnipohgljbfiaagreat", sum := "6d9ed36f7dcaa2c34dd04c82bfb73fb433e32e8d118a8590f9fa73030c8a71a8", func := "wattle/wattlelaw26.MarksRenamed", spec := "marksRenamed", inPlace := ["internal/bytealg.IndexByteString", "internal/bytealg.IndexString", "internal/abi.NoEscape", "internal/bytealg.MakeNoZero"], unfollowed := true, recurses := true, named := ["internal/bytealg.MaxLen"], loops := true, apart := false }
def MarksRenamedSaid : Prop := marksRenamedRow.holds Tryz.pinned (OpenSpec.ofChange marksRenamedSpec)

/-- ITS FALSE NEIGHBOUR: 'it returns false'. Refute it at one input. -/
def marksRenamedWrong : ChangeSpec := { name := "marksRenamed", fn := fun _ => fun
  | [d] => { results := [.lit (.bool false)], args := [d] }
  | _ => none }
def MarksRenamedWrongFalsely : Prop := marksRenamedRow.holds Tryz.pinned (OpenSpec.ofChange marksRenamedWrong)

/- THE SECOND FORM. 'bulk': how many values and letters a reading holds, each counted each time it is reached (what is shared counts as often as it is met; a slice's spare places count too). A statement '..UptoSaid' is the law's where the arguments, and the package variables that the reading takes, are together of bulk at most 1048576: NARROWER than '..Said'. Prove '..Said' where nothing that the law and all that it calls make is longer than what came in: it says more and counts as full. Else prove '..UptoSaid'. A law counts once. -/
mutual
def uptoBulk {H : Type} : DataW H → Nat
  | .lit (.string bytes) => bytes.length + 1
  | .lit _ => 1
  | .nil => 1
  | .ptr d => uptoBulk d + 1
  | .slice elems spare => uptoBulkAll elems + uptoBulkAll spare + 1
  | .agg parts => uptoBulkAll parts + 1
  | .iface _ d => uptoBulk d + 1
  | .map entries => uptoBulkEntries entries + 1
  | .held _ => 1
def uptoBulkAll {H : Type} : List (DataW H) → Nat
  | [] => 0
  | d :: r => uptoBulk d + uptoBulkAll r
def uptoBulkEntries {H : Type} : List (Lit × DataW H) → Nat
  | [] => 0
  | x :: r => uptoBulkEntry x + uptoBulkEntries r
def uptoBulkEntry {H : Type} : Lit × DataW H → Nat
  | (.string bytes, d) => bytes.length + uptoBulk d + 1
  | (_, d) => uptoBulk d + 1
 end
def uptoSmall : (H : Type) → List (DataW H) → Bool := fun _ ds => decide (uptoBulkAll ds ≤ 1048576)
def OpenSpec.upto (s : _root_.Go.ChangeSpec) : _root_.Go.OpenSpec := { _root_.Go.OpenSpec.ofChange s with cond := some uptoSmall }

/-- 'wattlelaw26.MarksReads', WHERE WHAT IT READS IS OF BULK AT MOST 1048576: true; the input reads as it did. -/
def marksReadsUptoRow : OpenClaim := { program := "ytlnipohgljbfiaagreat", sum := "6d9ed36f7dcaa2c34dd04c82bfb73fb433e32e8d118a8590f9fa73030c8a71a8", func := "wattle/wattlelaw26.MarksReads", spec := "marksReads", inPlace := ["internal/bytealg.IndexByteString", "internal/bytealg.IndexString", "internal/abi.NoEscape", "internal/bytealg.MakeNoZero"], unfollowed := true, recurses := true, named := ["internal/bytealg.MaxLen"], loops := true, apart := false, narrowed := true }
def MarksReadsUptoSaid : Prop := marksReadsUptoRow.holds Tryz.pinned (OpenSpec.upto marksReadsSpec)

/-- 'wattlelaw26.MarksTouches', WHERE WHAT IT READS IS OF BULK AT MOST 1048576: true; the input reads as it did. -/
def marksTouchesUptoRow : OpenClaim := { program := "ytlnipohgljbfiaagreat", sum := "6d9ed36f7dcaa2c34dd04c82bfb73fb433e32e8d118a8590f9fa73030c8a71a8", func := "wattle/wattlelaw26.MarksTouches", spec := "marksTouches", inPlace := ["internal/bytealg.IndexByteString", "internal/bytealg.IndexString", "internal/abi.NoEscape", "internal/bytealg.MakeNoZero"], unfollowed := true, recurses := true, named := ["internal/bytealg.MaxLen"], loops := true, apart := false, narrowed := true }
def MarksTouchesUptoSaid : Prop := marksTouchesUptoRow.holds Tryz.pinned (OpenSpec.upto marksTouchesSpec)

/-- 'wattlelaw26.MarksRenamed', WHERE WHAT IT READS IS OF BULK AT MOST 1048576: true; the input reads as it did. -/
def marksRenamedUptoRow : OpenClaim := { program := "ytlnipohgljbfiaagreat", sum := "6d9ed36f7dcaa2c34dd04c82bfb73fb433e32e8d118a8590f9fa73030c8a71a8", func := "wattle/wattlelaw26.MarksRenamed", spec := "marksRenamed", inPlace := ["internal/bytealg.IndexByteString", "internal/bytealg.IndexString", "internal/abi.NoEscape", "internal/bytealg.MakeNoZero"], unfollowed := true, recurses := true, named := ["internal/bytealg.MaxLen"], loops := true, apart := false, narrowed := true }
def MarksRenamedUptoSaid : Prop := marksRenamedUptoRow.holds Tryz.pinned (OpenSpec.upto marksRenamedSpec)

end Rows
end Go.Proofs.YtlnipohgljbfiaaGreat
