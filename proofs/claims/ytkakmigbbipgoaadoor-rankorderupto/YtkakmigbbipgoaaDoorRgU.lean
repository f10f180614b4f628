/- Reading the arguments, with the range of whole numbers. -/
import Derived.Test.YtkakmigbbipgoaaDoorAxLaw
import Derived.Test.YtkakmigbbipgoaaDoorRkR
import Derived.Test.YtkakmigbbipgoaaDoorRgT
open Go Go.Proofs Ax
namespace Rk
open Go.Proofs.YtkakmigbbipgoaaDoor
variable {Hd : Type} {enc : TypeId × Value → Hd} {w : World}
abbrev RVal := { v : Val // range64 v = true }
instance : Inhabited RVal := ⟨⟨.mk 0 false 0 [] [] [], rfl⟩⟩
theorem range_list : ∀ l : List RVal, range64L (l.map (·.1)) = true
  | [] => rfl
  | v :: l => by simp only [List.map_cons, range64L, v.2, range_list l, Bool.and_true]
theorem bulk_listR (l : List RVal) (elems : List (DataW Hd)) (h : l.length = elems.length) (hh : ∀ (i : Nat) (d : DataW Hd) (v : RVal), elems[i]? = some d → l[i]? = some v → v.1.big ≤ Rows.uptoBulk d) : bigs (l.map (·.1)) ≤ Rows.uptoBulkAll elems := by
  refine bulk_list (l.map (·.1)) elems (by simpa using h) fun i d v hd hv => ?_
  rw [List.getElem?_map] at hv
  cases hl : l[i]? with
  | none => rw [hl] at hv; cases hv
  | some x => rw [hl] at hv; cases hv; exact hh i d x hd hl

theorem reads_valR (n : Nat) : ReadsAs enc Tryd.prog w 25 n (fun x : RVal => x.1.cells) (fun x => x.1.big) Rows.uptoBulk := by
  induction n using Nat.strongRecOn with
  | ind n ih =>
  intro cs x h
  obtain ⟨xs, m, rfl, rfl, hcl, hxl, hf⟩ := DataW.trod_struct Tryd.underlying25 h
  have f0 := hf 0 _ rfl
  have f1 := hf 1 _ rfl
  have f2 := hf 2 _ rfl
  have f3 := hf 3 _ rfl
  have f4 := hf 4 _ rfl
  have f5 := hf 5 _ rfl
  clear hf
  have c3 : Tryd.prog.cellsOf 3 = 1 := by kernel_rfl
  have c4 : Tryd.prog.cellsOf 4 = 1 := by kernel_rfl
  have c2 : Tryd.prog.cellsOf 2 = 1 := by kernel_rfl
  have c9 : Tryd.prog.cellsOf 9 = 1 := by kernel_rfl
  have c22 : Tryd.prog.cellsOf 22 = 1 := by kernel_rfl
  have c23 : Tryd.prog.cellsOf 23 = 1 := by kernel_rfl
  have c25 : Tryd.prog.cellsOf 25 = 6 := by kernel_rfl
  change DataW.trod enc Tryd.prog w 0 _ true m 3 ((cs.drop 0).take (Tryd.prog.cellsOf 3)) = _ at f0
  rw [c3] at f0
  change DataW.trod enc Tryd.prog w 0 _ true m 4 ((cs.drop 1).take (Tryd.prog.cellsOf 4)) = _ at f1
  rw [c4] at f1
  change DataW.trod enc Tryd.prog w 0 _ true m 2 ((cs.drop 2).take (Tryd.prog.cellsOf 2)) = _ at f2
  rw [c2] at f2
  change DataW.trod enc Tryd.prog w 0 _ true m 9 ((cs.drop 3).take (Tryd.prog.cellsOf 9)) = _ at f3
  rw [c9] at f3
  change DataW.trod enc Tryd.prog w 0 _ true m 22 ((cs.drop 4).take (Tryd.prog.cellsOf 22)) = _ at f4
  rw [c22] at f4
  change DataW.trod enc Tryd.prog w 0 _ true m 23 ((cs.drop 5).take (Tryd.prog.cellsOf 23)) = _ at f5
  rw [c23] at f5
  rw [c25] at hcl
  have hx6 : xs.length = 6 := hxl
  obtain ⟨x0, x1, x2, x3, x4, x5, rfl⟩ : ∃ a b c d e f, xs = [a, b, c, d, e, f] := by
    match xs, hx6 with
    | [a, b, c, d, e, f], _ => exact ⟨a, b, c, d, e, f, rfl⟩
  obtain ⟨v0, v1, v2, v3, v4, v5, rfl⟩ : ∃ a b c d e f, cs = [a, b, c, d, e, f] := by
    match cs, hcl with
    | [a, b, c, d, e, f], _ => exact ⟨a, b, c, d, e, f, rfl⟩
  obtain ⟨k, e0, rfl, _⟩ := DataW.trod_int Tryd.underlying3 f0
  obtain ⟨b, e1, rfl⟩ := DataW.trod_bool Tryd.underlying4 f1
  obtain ⟨i, e2, rfl, hi⟩ := DataW.trod_int Tryd.underlying2 f2
  obtain ⟨s, e3, rfl, _⟩ := DataW.trod_string Tryd.underlying9 f3
  obtain ⟨l, u4, e4, o4, r4, b4⟩ := read_slice (α := RVal) (z := 6) Tryd.underlying22 c25 (by decide) (fun v => cells_length v.1) (fun n hn => ih n (Nat.lt_succ_of_lt hn)) f4
  obtain ⟨ks, u5, e5, o5, r5, b5⟩ := read_slice (α := List UInt8) (z := 1) (row := fun s => [PV.str s]) Tryd.underlying23 c9 (by decide) (fun _ => rfl) (fun n _ => reads_str n) f5
  have er : l.map (fun x : RVal => x.1.cells) = vals (l.map (·.1)) := by simp [vals, List.map_map]
  rw [er] at r4
  cases e0; cases e1; cases e2; cases e3; cases e4; cases e5
  have hr : int64 i = true := by
    have : (IntKind.i64.min ≤ i ∧ i ≤ IntKind.i64.max) := by simpa [Lit.wf] using hi
    have e1 : IntKind.i64.min = -9223372036854775808 := by decide
    have e2 : IntKind.i64.max = 9223372036854775807 := by decide
    rw [e1, e2] at this
    simp only [int64, decide_eq_true_eq]
    omega
  refine ⟨⟨.mk k b i s.data.toList (l.map (·.1)) ks, by simp only [range64, hr, range_list, Bool.and_true]⟩, ?_, ?_, ?_⟩
  · simp only [Val.cells, RepL]
    rw [rows_eq]
    refine ⟨_, _, rfl, by simp [RepP], _, _, rfl, by simp [RepP], _, _, rfl, by simp [RepP], _, _, rfl, by simp [RepP], _, _, rfl, r4, _, _, rfl, r5, rfl⟩
  · intro u hu
    simp only [List.mem_cons, List.not_mem_nil, or_false] at hu
    rcases hu with rfl | rfl | rfl | rfl | rfl | rfl <;> first | rfl | assumption
  · have h4 : bigs (l.map (·.1)) ≤ Rows.uptoBulk x4.1 := by
      rcases b4 with ⟨e, rfl⟩ | ⟨el, rest, e, hl, hb⟩
      · exact Nat.zero_le _
      · rw [e]
        have := bulk_listR l el hl hb
        simp only [Rows.uptoBulk]; omega
    have h5 : kbig ks ≤ Rows.uptoBulk x5.1 := by
      rcases b5 with ⟨e, rfl⟩ | ⟨el, rest, e, hl, hb⟩
      · exact Nat.zero_le _
      · rw [e]
        have := bulk_keys ks el hl hb
        simp only [Rows.uptoBulk]; omega
    simp only [Val.big, Rows.uptoBulk, Rows.uptoBulkAll, List.map_cons, List.map_nil]
    generalize bigs (l.map (·.1)) = B at h4 ⊢
    simp
    omega
theorem reads_argR {W : World} {v0 : Value} {d0 : DataW Hd} {p : List MemPlace} (h : DataW.Trod enc Tryd.prog W 0 (fun _ => true) true 25 v0 d0 p) : ∃ v : Val, RepP (heapH W) v.pv v0 ∧ v.big ≤ Rows.uptoBulk d0 ∧ range64 v = true := by
  obtain ⟨fuel, h⟩ := h
  obtain ⟨v, r, _, hb⟩ := reads_valR fuel _ _ h
  exact ⟨v.1, rep_agg r (by rw [cells_length]; decide), hb, v.2⟩
end Rk
