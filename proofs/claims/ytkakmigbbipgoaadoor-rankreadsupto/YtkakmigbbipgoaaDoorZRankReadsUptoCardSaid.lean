/- The given statement RankReadsUptoCardSaid, where the arguments are of bulk at most 1048576. -/
import Derived.Test.YtkakmigbbipgoaaDoorRgZe
namespace Go.Proofs.YtkakmigbbipgoaaDoor
theorem cardUpto4 : Rows.RankReadsUptoCardSaid := Rk.cardUpto4
end Go.Proofs.YtkakmigbbipgoaaDoor
