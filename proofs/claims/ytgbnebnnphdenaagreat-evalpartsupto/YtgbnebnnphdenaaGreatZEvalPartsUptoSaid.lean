/- The given statement EvalPartsUptoSaid, where the arguments are of bulk at most 1048576. -/
import Derived.Test.YtgbnebnnphdenaaGreatYEvZ4
namespace Go.Proofs.YtgbnebnnphdenaaGreat
theorem saidUpto4 : Rows.EvalPartsUptoSaid := W.saidUpto4
end Go.Proofs.YtgbnebnnphdenaaGreat
