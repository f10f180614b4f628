/- A part of the proof. -/
import Derived.Test.YtkakmigbbipgoaaDoorAxRead
import Derived.Test.YtkakmigbbipgoaaDoorRkJ
import Derived.Test.YtkakmigbbipgoaaDoorRows
open Go Go.Proofs Ax
namespace Rk
open Go.Proofs.YtkakmigbbipgoaaDoor
variable {Hd : Type} {enc : TypeId × Value → Hd} {w : World}

theorem reads_str (n : Nat) : ReadsAs enc Tryd.prog w 9 n (fun s : List UInt8 => [PV.str s]) (fun s => s.length + 1) Rows.uptoBulk := by
  intro cs x h
  obtain ⟨s, rfl, rfl, _⟩ := DataW.trod_string Tryd.underlying9 h
  refine ⟨s.data.toList, ?_, by simp [Value.oneCell'], by simp [Rows.uptoBulk]⟩
  simp [RepL, RepP]
theorem wide_val (v : Val) : v.cells.length = 6 := cells_length v
theorem bulk_list : ∀ (l : List Val) (elems : List (DataW Hd)), l.length = elems.length → (∀ (i : Nat) (d : DataW Hd) (v : Val), elems[i]? = some d → l[i]? = some v → v.big ≤ Rows.uptoBulk d) → bigs l ≤ Rows.uptoBulkAll elems
  | [], _, _, _ => Nat.zero_le _
  | v :: l, [], h, _ => by simp at h
  | v :: l, d :: elems, h, hh => by
    have := bulk_list l elems (by simpa using h) fun i d v hd hv => hh (i + 1) d v (by simpa using hd) (by simpa using hv)
    have := hh 0 d v rfl rfl
    simp only [bigs, Rows.uptoBulkAll]; omega
theorem bulk_keys : ∀ (l : List (List UInt8)) (elems : List (DataW Hd)), l.length = elems.length → (∀ (i : Nat) (d : DataW Hd) (v : List UInt8), elems[i]? = some d → l[i]? = some v → v.length + 1 ≤ Rows.uptoBulk d) → kbig l ≤ Rows.uptoBulkAll elems
  | [], _, _, _ => Nat.zero_le _
  | v :: l, [], h, _ => by simp at h
  | v :: l, d :: elems, h, hh => by
    have := bulk_keys l elems (by simpa using h) fun i d v hd hv => hh (i + 1) d v (by simpa using hd) (by simpa using hv)
    have := hh 0 d v rfl rfl
    simp only [kbig, Rows.uptoBulkAll]; omega

theorem reads_val (n : Nat) : ReadsAs enc Tryd.prog w 25 n Val.cells Val.big Rows.uptoBulk := by
  induction n using Nat.strongRecOn with
  | ind n ih =>
  intro cs x h
  obtain ⟨xs, m, rfl, rfl, hcl, hxl, hf⟩ := DataW.trod_struct Tryd.underlying25 h
  have f0 := hf 0 _ rfl
  have f1 := hf 1 _ rfl
  have f2 := hf 2 _ rfl
  have f3 := hf 3 _ rfl
  have f4 := hf 4 _ rfl
  have f5 := hf 5 _ rfl
  clear hf
  have c3 : Tryd.prog.cellsOf 3 = 1 := by kernel_rfl
  have c4 : Tryd.prog.cellsOf 4 = 1 := by kernel_rfl
  have c2 : Tryd.prog.cellsOf 2 = 1 := by kernel_rfl
  have c9 : Tryd.prog.cellsOf 9 = 1 := by kernel_rfl
  have c22 : Tryd.prog.cellsOf 22 = 1 := by kernel_rfl
  have c23 : Tryd.prog.cellsOf 23 = 1 := by kernel_rfl
  have c25 : Tryd.prog.cellsOf 25 = 6 := by kernel_rfl
  change DataW.trod enc Tryd.prog w 0 _ true m 3 ((cs.drop 0).take (Tryd.prog.cellsOf 3)) = _ at f0
  rw [c3] at f0
  change DataW.trod enc Tryd.prog w 0 _ true m 4 ((cs.drop 1).take (Tryd.prog.cellsOf 4)) = _ at f1
  rw [c4] at f1
  change DataW.trod enc Tryd.prog w 0 _ true m 2 ((cs.drop 2).take (Tryd.prog.cellsOf 2)) = _ at f2
  rw [c2] at f2
  change DataW.trod enc Tryd.prog w 0 _ true m 9 ((cs.drop 3).take (Tryd.prog.cellsOf 9)) = _ at f3
  rw [c9] at f3
  change DataW.trod enc Tryd.prog w 0 _ true m 22 ((cs.drop 4).take (Tryd.prog.cellsOf 22)) = _ at f4
  rw [c22] at f4
  change DataW.trod enc Tryd.prog w 0 _ true m 23 ((cs.drop 5).take (Tryd.prog.cellsOf 23)) = _ at f5
  rw [c23] at f5
  rw [c25] at hcl
  have hx6 : xs.length = 6 := hxl
  obtain ⟨x0, x1, x2, x3, x4, x5, rfl⟩ : ∃ a b c d e f, xs = [a, b, c, d, e, f] := by
    match xs, hx6 with
    | [a, b, c, d, e, f], _ => exact ⟨a, b, c, d, e, f, rfl⟩
  obtain ⟨v0, v1, v2, v3, v4, v5, rfl⟩ : ∃ a b c d e f, cs = [a, b, c, d, e, f] := by
    match cs, hcl with
    | [a, b, c, d, e, f], _ => exact ⟨a, b, c, d, e, f, rfl⟩
  obtain ⟨k, e0, rfl, _⟩ := DataW.trod_int Tryd.underlying3 f0
  obtain ⟨b, e1, rfl⟩ := DataW.trod_bool Tryd.underlying4 f1
  obtain ⟨i, e2, rfl, _⟩ := DataW.trod_int Tryd.underlying2 f2
  obtain ⟨s, e3, rfl, _⟩ := DataW.trod_string Tryd.underlying9 f3
  obtain ⟨l, u4, e4, o4, r4, b4⟩ := read_slice (α := Val) (z := 6) Tryd.underlying22 c25 (by decide) cells_length (fun n hn => ih n (Nat.lt_succ_of_lt hn)) f4
  obtain ⟨ks, u5, e5, o5, r5, b5⟩ := read_slice (α := List UInt8) (z := 1) (row := fun s => [PV.str s]) Tryd.underlying23 c9 (by decide) (fun _ => rfl) (fun n _ => reads_str n) f5
  cases e0; cases e1; cases e2; cases e3; cases e4; cases e5
  refine ⟨.mk k b i s.data.toList l ks, ?_, ?_, ?_⟩
  · simp only [Val.cells, RepL]
    rw [rows_eq]
    refine ⟨_, _, rfl, by simp [RepP], _, _, rfl, by simp [RepP], _, _, rfl, by simp [RepP], _, _, rfl, by simp [RepP], _, _, rfl, r4, _, _, rfl, r5, rfl⟩
  · intro u hu
    simp only [List.mem_cons, List.not_mem_nil, or_false] at hu
    rcases hu with rfl | rfl | rfl | rfl | rfl | rfl <;> first | rfl | assumption
  · have h4 : bigs l ≤ Rows.uptoBulk x4.1 := by
      rcases b4 with ⟨e, rfl⟩ | ⟨el, rest, e, hl, hb⟩
      · exact Nat.zero_le _
      · rw [e]
        have := bulk_list l el hl hb
        simp only [Rows.uptoBulk]; omega
    have h5 : kbig ks ≤ Rows.uptoBulk x5.1 := by
      rcases b5 with ⟨e, rfl⟩ | ⟨el, rest, e, hl, hb⟩
      · exact Nat.zero_le _
      · rw [e]
        have := bulk_keys ks el hl hb
        simp only [Rows.uptoBulk]; omega
    simp only [Val.big, Rows.uptoBulk, Rows.uptoBulkAll, List.map_cons, List.map_nil]
    simp
    omega
end Rk
