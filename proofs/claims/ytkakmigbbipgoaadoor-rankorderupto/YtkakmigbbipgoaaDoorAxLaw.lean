/- A law's call: from a contract over pure values to what its row asks. -/
import Derived.Test.YtkakmigbbipgoaaDoorAxPost
namespace Ax
open Go Go.RowKit

theorem CallsF.calls {P : Program} {f : FuncId} {args : List PV} {r : PV} (h : CallsF P f args r) (he : Enters P f) {H : PH} {w : World} {vs : List Value} (hs : SatH H w) (rl : RepL H args vs) :
    Calls P f vs.toArray w fun e w' => ∃ v H', e = .returned v ∧ Calm H w H' w' ∧ RepP H' r v := by
  have := h H w vs hs rl
  rw [he] at this
  exact this.2

theorem Calm.below {H H' : PH} {w w' : World} (c : Calm H w H' w') : Below w.heap.size w w' :=
  ⟨c.keep.os, c.keep.tape, c.keep.output, c.keep.size, fun k hk => c.keep.block k hk id⟩

theorem rep_agg {H : PH} {row : List PV} {v : Value} (h : RepL H row v.cells.toList) (hl : row.length ≠ 1) : RepP H (.agg row) v := by
  have hlen := h.length
  cases v
  case agg cs => exact ⟨cs.toList, by simp, h⟩
  all_goals exact absurd hlen.symm hl

/-- The cells of a datum of numbers. -/
def litK : Lit → Value
  | .int k n => .int k n
  | _ => undef
mutual
def cellsD : DataW Unit → List Value
  | .lit l => [litK l]
  | .agg ds => cellsDs ds
  | _ => []
def cellsDs : List (DataW Unit) → List Value
  | [] => []
  | d :: ds => cellsD d ++ cellsDs ds
end
end Ax
