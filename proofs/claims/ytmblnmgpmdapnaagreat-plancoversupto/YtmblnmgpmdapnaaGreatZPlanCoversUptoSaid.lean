/- The given statement PlanCoversUptoSaid, where the arguments are of bulk at most 1048576. -/
import Derived.Test.YtmblnmgpmdapnaaGreatYPnZ5
namespace Go.Proofs.YtmblnmgpmdapnaaGreat
theorem saidUpto5 : Rows.PlanCoversUptoSaid := W.saidUpto5
end Go.Proofs.YtmblnmgpmdapnaaGreat
