/- The given statement RankOrderUptoCardSaid, where the arguments are of bulk at most 1048576. -/
import Derived.Test.YtkakmigbbipgoaaDoorRgZh
namespace Go.Proofs.YtkakmigbbipgoaaDoor
theorem cardUpto7 : Rows.RankOrderUptoCardSaid := Rk.cardUpto7
end Go.Proofs.YtkakmigbbipgoaaDoor
