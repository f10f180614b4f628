/- The given statement RankAheadUptoCardSaid, where the arguments are of bulk at most 1048576. -/
import Derived.Test.YtkakmigbbipgoaaDoorRgZg
namespace Go.Proofs.YtkakmigbbipgoaaDoor
theorem cardUpto6 : Rows.RankAheadUptoCardSaid := Rk.cardUpto6
end Go.Proofs.YtkakmigbbipgoaaDoor
