/- The given statement MarksReadsUptoSaid, where the arguments are of bulk at most 1048576. -/
import Derived.Test.YtlnipohgljbfiaaGreatYMkZ3
namespace Go.Proofs.YtlnipohgljbfiaaGreat
theorem saidUpto3 : Rows.MarksReadsUptoSaid := W.saidUpto3
end Go.Proofs.YtlnipohgljbfiaaGreat
