/- The given statement ScopeAheadUptoSaid, where the arguments are of bulk at most 1048576. -/
import Derived.Test.YtneaemdbncgcdaaGreatYScZ7
namespace Go.Proofs.YtneaemdbncgcdaaGreat
theorem saidUpto7 : Rows.ScopeAheadUptoSaid := W.saidUpto7
end Go.Proofs.YtneaemdbncgcdaaGreat
