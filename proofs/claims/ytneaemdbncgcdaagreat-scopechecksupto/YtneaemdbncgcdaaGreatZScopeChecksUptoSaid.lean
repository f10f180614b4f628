/- The given statement ScopeChecksUptoSaid, where the arguments are of bulk at most 1048576. -/
import Derived.Test.YtneaemdbncgcdaaGreatYScZ3
namespace Go.Proofs.YtneaemdbncgcdaaGreat
theorem saidUpto3 : Rows.ScopeChecksUptoSaid := W.saidUpto3
end Go.Proofs.YtneaemdbncgcdaaGreat
