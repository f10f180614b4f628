/- The given statement MatchCountsUptoSaid, where the arguments are of bulk at most 1048576. -/
import Derived.Test.YtlbjambmfdlniaaGreatYMmZ6
namespace Go.Proofs.YtlbjambmfdlniaaGreat
theorem saidUpto6 : Rows.MatchCountsUptoSaid := W.saidUpto6
end Go.Proofs.YtlbjambmfdlniaaGreat
