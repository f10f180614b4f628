/- The given statement ScopeRenamedUptoSaid, where the arguments are of bulk at most 1048576. -/
import Derived.Test.YtneaemdbncgcdaaGreatYScZ6
namespace Go.Proofs.YtneaemdbncgcdaaGreat
theorem saidUpto6 : Rows.ScopeRenamedUptoSaid := W.saidUpto6
end Go.Proofs.YtneaemdbncgcdaaGreat
