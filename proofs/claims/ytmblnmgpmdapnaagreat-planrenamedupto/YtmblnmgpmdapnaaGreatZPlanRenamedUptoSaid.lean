/- The given statement PlanRenamedUptoSaid, where the arguments are of bulk at most 1048576. -/
import Derived.Test.YtmblnmgpmdapnaaGreatYPnZ7
namespace Go.Proofs.YtmblnmgpmdapnaaGreat
theorem saidUpto7 : Rows.PlanRenamedUptoSaid := W.saidUpto7
end Go.Proofs.YtmblnmgpmdapnaaGreat
