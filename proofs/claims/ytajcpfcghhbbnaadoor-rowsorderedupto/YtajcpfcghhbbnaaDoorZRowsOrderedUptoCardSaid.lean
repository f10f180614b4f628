/- The given statement RowsOrderedUptoCardSaid, where the arguments are of bulk at most 1048576. -/
import Derived.Test.YtajcpfcghhbbnaaDoorF
namespace Go.Proofs.YtajcpfcghhbbnaaDoor
theorem cardUpto5 : Rows.RowsOrderedUptoCardSaid := W.cardUpto5
end Go.Proofs.YtajcpfcghhbbnaaDoor
