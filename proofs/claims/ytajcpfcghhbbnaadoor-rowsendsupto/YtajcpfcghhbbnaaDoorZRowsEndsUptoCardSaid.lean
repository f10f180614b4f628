/- The given statement RowsEndsUptoCardSaid, where the arguments are of bulk at most 1048576. -/
import Derived.Test.YtajcpfcghhbbnaaDoorF
namespace Go.Proofs.YtajcpfcghhbbnaaDoor
theorem cardUpto7 : Rows.RowsEndsUptoCardSaid := W.cardUpto7
end Go.Proofs.YtajcpfcghhbbnaaDoor
