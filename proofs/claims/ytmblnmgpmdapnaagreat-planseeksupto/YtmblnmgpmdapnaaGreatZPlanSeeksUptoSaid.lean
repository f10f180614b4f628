/- The given statement PlanSeeksUptoSaid, where the arguments are of bulk at most 1048576. -/
import Derived.Test.YtmblnmgpmdapnaaGreatYPnZ6
namespace Go.Proofs.YtmblnmgpmdapnaaGreat
theorem saidUpto6 : Rows.PlanSeeksUptoSaid := W.saidUpto6
end Go.Proofs.YtmblnmgpmdapnaaGreat
