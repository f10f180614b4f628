/- The given statement ScopeTextsUptoSaid, where the arguments are of bulk at most 1048576. -/
import Derived.Test.YtneaemdbncgcdaaGreatYScZ5
namespace Go.Proofs.YtneaemdbncgcdaaGreat
theorem saidUpto5 : Rows.ScopeTextsUptoSaid := W.saidUpto5
end Go.Proofs.YtneaemdbncgcdaaGreat
