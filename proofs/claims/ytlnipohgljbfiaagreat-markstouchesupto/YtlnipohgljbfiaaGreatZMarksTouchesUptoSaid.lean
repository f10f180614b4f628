/- The given statement MarksTouchesUptoSaid, where the arguments are of bulk at most 1048576. -/
import Derived.Test.YtlnipohgljbfiaaGreatYMkZ4
namespace Go.Proofs.YtlnipohgljbfiaaGreat
theorem saidUpto4 : Rows.MarksTouchesUptoSaid := W.saidUpto4
end Go.Proofs.YtlnipohgljbfiaaGreat
