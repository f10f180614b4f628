/- The given statement RowsPartsUptoCardSaid, where the arguments are of bulk at most 1048576. -/
import Derived.Test.YtajcpfcghhbbnaaDoorF
namespace Go.Proofs.YtajcpfcghhbbnaaDoor
theorem cardUpto6 : Rows.RowsPartsUptoCardSaid := W.cardUpto6
end Go.Proofs.YtajcpfcghhbbnaaDoor
