/- The given statement MarksRenamedUptoSaid, where the arguments are of bulk at most 1048576. -/
import Derived.Test.YtlnipohgljbfiaaGreatYMkZ5
namespace Go.Proofs.YtlnipohgljbfiaaGreat
theorem saidUpto5 : Rows.MarksRenamedUptoSaid := W.saidUpto5
end Go.Proofs.YtlnipohgljbfiaaGreat
