/- The given statement AlterRightUptoSaid, where the arguments are of bulk at most 1048576. -/
import Derived.Test.YtglihheagfnakaaGreatYArZ4
namespace Go.Proofs.YtglihheagfnakaaGreat
theorem saidUpto4 : Rows.AlterRightUptoSaid := W.saidUpto4
end Go.Proofs.YtglihheagfnakaaGreat
