/- The given statement ScopeNamesUptoSaid, where the arguments are of bulk at most 1048576. -/
import Derived.Test.YtneaemdbncgcdaaGreatYScZ4
namespace Go.Proofs.YtneaemdbncgcdaaGreat
theorem saidUpto4 : Rows.ScopeNamesUptoSaid := W.saidUpto4
end Go.Proofs.YtneaemdbncgcdaaGreat
