/- The given statement RankBackUptoCardSaid, where the arguments are of bulk at most 1048576. -/
import Derived.Test.YtkakmigbbipgoaaDoorRgZf
namespace Go.Proofs.YtkakmigbbipgoaaDoor
theorem cardUpto5 : Rows.RankBackUptoCardSaid := Rk.cardUpto5
end Go.Proofs.YtkakmigbbipgoaaDoor
