/- The given statement EvalTurnsUptoSaid, where the arguments are of bulk at most 1048576. -/
import Derived.Test.YtgbnebnnphdenaaGreatYEvZ3
namespace Go.Proofs.YtgbnebnnphdenaaGreat
theorem saidUpto3 : Rows.EvalTurnsUptoSaid := W.saidUpto3
end Go.Proofs.YtgbnebnnphdenaaGreat
