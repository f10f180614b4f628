/- The given statement AlterDeletesUptoSaid, where the arguments are of bulk at most 1048576. -/
import Derived.Test.YtglihheagfnakaaGreatYAmZ3
namespace Go.Proofs.YtglihheagfnakaaGreat
theorem saidUpto3 : Rows.AlterDeletesUptoSaid := W.saidUpto3
end Go.Proofs.YtglihheagfnakaaGreat
