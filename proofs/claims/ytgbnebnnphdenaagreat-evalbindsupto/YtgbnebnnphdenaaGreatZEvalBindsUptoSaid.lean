/- The given statement EvalBindsUptoSaid, where the arguments are of bulk at most 1048576. -/
import Derived.Test.YtgbnebnnphdenaaGreatYEvZ5
namespace Go.Proofs.YtgbnebnnphdenaaGreat
theorem saidUpto5 : Rows.EvalBindsUptoSaid := W.saidUpto5
end Go.Proofs.YtgbnebnnphdenaaGreat
