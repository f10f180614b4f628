/- A part of the proof. -/
import Derived.Test.YtkakmigbbipgoaaDoorAxLaw
import Derived.Test.YtkakmigbbipgoaaDoorRkR
import Derived.Test.YtkakmigbbipgoaaDoorRgU
import Derived.Test.YtkakmigbbipgoaaDoorCards
import Derived.Test.YtkakmigbbipgoaaDoorTie
import Derived.Deep.DeepHandedRow
import Derived.SevenTiedAt
import Derived.ChangeMaps5
namespace Rk
open Go Go.Proofs Ax Go.RowKit Go.ChangeShapes Go.WideShapes Go.ChangeAt
open Go.Proofs.YtkakmigbbipgoaaDoor Go.ChangeMaps

theorem own : ownKnob Tryd.prog.godebug = none := by kernel_rfl
theorem laidOut : laidOutB Tryd.prog = true := by kernel_rfl
theorem root {W : World} (h : W.ShapedOpen Tryd.prog) : ∃ m, W.cell? ⟨0, 0, none⟩ = some (.int .i64 m) := Tryd.laysM155.s1_3 W h

section
variable {Hd : Type} {enc : TypeId × Value → Hd} {W : World}
theorem reads_arg {v0 : Value} {d0 : DataW Hd} {p : List MemPlace} (h : DataW.Trod enc Tryd.prog W 0 (fun _ => true) true 25 v0 d0 p) : ∃ v : Val, RepP (heapH W) v.pv v0 ∧ v.big ≤ Rows.uptoBulk d0 := by
  obtain ⟨fuel, h⟩ := h
  obtain ⟨v, r, _, hb⟩ := reads_val fuel _ _ h
  exact ⟨v, rep_agg r (by rw [cells_length]; decide), hb⟩
theorem reads_text {v0 : Value} {d0 : DataW Hd} {p : List MemPlace} {b : Nat} (hval : Value.okWide Tryd.prog W .any b 9 v0) (h : DataW.Trod enc Tryd.prog W 0 (fun _ => true) true 9 v0 d0 p) :
    ∃ s : List UInt8, RepP (heapH W) (.str s) v0 ∧ s.length + 1 ≤ Rows.uptoBulk d0 := by
  obtain ⟨s, rfl, rfl, _⟩ := open_string Tryd.underlying9 hval h
  exact ⟨s.data.toList, by simp [RepP], by simp [Rows.uptoBulk]⟩
end

/-- A world for the witness: Go's tables hold what they are laid with. -/
def putCells (cs : List Value) : Obj → Obj
  | .cells _ t frozen => .cells cs.toArray t frozen
  | o => o
noncomputable def laidWorld (os : Os) : World :=
  { World.holding Tryd.prog os ⟨#[], #[], []⟩ with heap := ((World.holding Tryd.prog os ⟨#[], #[], []⟩).heap.modify 1 (putCells (cellsD Rows.laid_unicode_utf8_first))).modify 2 (putCells (cellsD (Rows.laid_unicode_utf8_acceptRanges (H := Unit)))) }
abbrev V0 : Value := .agg #[.int .i64 0, .bool false, .int .i64 0, .string ⟨#[]⟩, .slice none 0 0, .slice none 0 0]
abbrev D0 (H : Type) : DataW H := .agg [.lit (.int .i64 0), .lit (.bool false), .lit (.int .i64 0), .lit (.string []), .nil, .nil]
abbrev S0 : Value := .string ⟨#[]⟩

end Rk
