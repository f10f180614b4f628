/- The given statement EvalMoreUptoSaid, where the arguments are of bulk at most 1048576. -/
import Derived.Test.YtgbnebnnphdenaaGreatYEvZ6
namespace Go.Proofs.YtgbnebnnphdenaaGreat
theorem saidUpto6 : Rows.EvalMoreUptoSaid := W.saidUpto6
end Go.Proofs.YtgbnebnnphdenaaGreat
