/- The given statement ScopeIdleUptoSaid, where the arguments are of bulk at most 1048576. -/
import Derived.Test.YtneaemdbncgcdaaGreatYScZ8
namespace Go.Proofs.YtneaemdbncgcdaaGreat
theorem saidUpto8 : Rows.ScopeIdleUptoSaid := W.saidUpto8
end Go.Proofs.YtneaemdbncgcdaaGreat
