/- The given statement PlanTextsUptoSaid, where the arguments are of bulk at most 1048576. -/
import Derived.Test.YtmblnmgpmdapnaaGreatYPnZ4
namespace Go.Proofs.YtmblnmgpmdapnaaGreat
theorem saidUpto4 : Rows.PlanTextsUptoSaid := W.saidUpto4
end Go.Proofs.YtmblnmgpmdapnaaGreat
