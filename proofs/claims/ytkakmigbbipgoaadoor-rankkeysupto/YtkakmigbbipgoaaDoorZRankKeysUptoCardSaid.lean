/- The given statement RankKeysUptoCardSaid, where the arguments are of bulk at most 1048576. -/
import Derived.Test.YtkakmigbbipgoaaDoorRkZ
namespace Go.Proofs.YtkakmigbbipgoaaDoor
theorem cardUpto3 : Rows.RankKeysUptoCardSaid := Rk.cardUpto3
end Go.Proofs.YtkakmigbbipgoaaDoor
