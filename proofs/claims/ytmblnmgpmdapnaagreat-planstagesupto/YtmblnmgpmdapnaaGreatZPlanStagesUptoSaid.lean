/- The given statement PlanStagesUptoSaid, where the arguments are of bulk at most 1048576. -/
import Derived.Test.YtmblnmgpmdapnaaGreatYPnZ3
namespace Go.Proofs.YtmblnmgpmdapnaaGreat
theorem saidUpto3 : Rows.PlanStagesUptoSaid := W.saidUpto3
end Go.Proofs.YtmblnmgpmdapnaaGreat
