/- The given statement RowsSortsUptoCardSaid, where the arguments are of bulk at most 1048576. -/
import Derived.Test.YtajcpfcghhbbnaaDoorF
namespace Go.Proofs.YtajcpfcghhbbnaaDoor
theorem cardUpto4 : Rows.RowsSortsUptoCardSaid := W.cardUpto4
end Go.Proofs.YtajcpfcghhbbnaaDoor
