/- The given statement RowsUniqueUptoCardSaid, where the arguments are of bulk at most 1048576. -/
import Derived.Test.YtajcpfcghhbbnaaDoorF
namespace Go.Proofs.YtajcpfcghhbbnaaDoor
theorem cardUpto3 : Rows.RowsUniqueUptoCardSaid := W.cardUpto3
end Go.Proofs.YtajcpfcghhbbnaaDoor
