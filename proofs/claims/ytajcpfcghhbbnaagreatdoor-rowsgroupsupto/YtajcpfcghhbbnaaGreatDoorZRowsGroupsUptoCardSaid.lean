/- The given statement RowsGroupsUptoCardSaid, where the arguments are of bulk at most 1048576. -/
import Derived.Test.YtajcpfcghhbbnaaGreatDoorF
namespace Go.Proofs.YtajcpfcghhbbnaaGreatDoor
theorem cardUpto3 : Rows.RowsGroupsUptoCardSaid := W.cardUpto3
end Go.Proofs.YtajcpfcghhbbnaaGreatDoor
