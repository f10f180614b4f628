/- A part of the proof. -/
import Derived.ChangeMaps5
import Derived.Deep.DeepHandedRow
import Derived.SevenTiedAt
import Derived.Test.YtajcpfcghhbbnaaDoorCards
import Derived.Test.YtajcpfcghhbbnaaDoorRows
import Derived.Test.YtajcpfcghhbbnaaDoorTie
import Derived.WalkKit
import Derived.WalkLawsBesides
import Derived.WalkSpells
import Derived.WideShapes
import Derived.Test.YtajcpfcghhbbnaaDoorE
set_option linter.all false
section
open Go Go.Proofs Ax Go.WideShapes
namespace W
open Go.Proofs.YtajcpfcghhbbnaaDoor
set_option maxRecDepth 100000
variable {Hd : Type} {enc : TypeId × Value → Hd} {w : World}
theorem reads_str (n : Nat) : ReadsAs enc Tryd.prog w 9 n (fun s : List UInt8 => [PV.str s]) (fun s => s.length + 1) Rows.uptoBulk := by
  intro cs x h
  obtain ⟨s, rfl, rfl, _⟩ := DataW.trod_string Tryd.underlying9 h
  refine ⟨s.data.toList, ?_, by simp [Value.oneCell'], by simp [Rows.uptoBulk]⟩
  simp [RepL, RepP]
theorem wide_val (v : Val) : v.cells.length = 6 := cells_length v
theorem bulk_list : ∀ (l : List Val) (elems : List (DataW Hd)), l.length = elems.length → (∀ (i : Nat) (d : DataW Hd) (v : Val), elems[i]? = some d → l[i]? = some v → v.big ≤ Rows.uptoBulk d) → bigs l ≤ Rows.uptoBulkAll elems
  | [], _, _, _ => Nat.zero_le _
  | v :: l, [], h, _ => by simp at h
  | v :: l, d :: elems, h, hh => by
    have := bulk_list l elems (by simpa using h) fun i d v hd hv => hh (i + 1) d v (by simpa using hd) (by simpa using hv)
    have := hh 0 d v rfl rfl
    simp only [bigs, Rows.uptoBulkAll]; omega
theorem bulk_keys : ∀ (l : List (List UInt8)) (elems : List (DataW Hd)), l.length = elems.length → (∀ (i : Nat) (d : DataW Hd) (v : List UInt8), elems[i]? = some d → l[i]? = some v → v.length + 1 ≤ Rows.uptoBulk d) → kbig l ≤ Rows.uptoBulkAll elems
  | [], _, _, _ => Nat.zero_le _
  | v :: l, [], h, _ => by simp at h
  | v :: l, d :: elems, h, hh => by
    have := bulk_keys l elems (by simpa using h) fun i d v hd hv => hh (i + 1) d v (by simpa using hd) (by simpa using hv)
    have := hh 0 d v rfl rfl
    simp only [kbig, Rows.uptoBulkAll]; omega

abbrev RVal := { v : Val // range64 v = true }
instance : Inhabited RVal := ⟨⟨.mk 0 false 0 [] [] [], rfl⟩⟩
theorem range_list : ∀ l : List RVal, range64L (l.map (·.1)) = true
  | [] => rfl
  | v :: l => by simp only [List.map_cons, range64L, v.2, range_list l, Bool.and_true]
theorem bulk_listR (l : List RVal) (elems : List (DataW Hd)) (h : l.length = elems.length) (hh : ∀ (i : Nat) (d : DataW Hd) (v : RVal), elems[i]? = some d → l[i]? = some v → v.1.big ≤ Rows.uptoBulk d) : bigs (l.map (·.1)) ≤ Rows.uptoBulkAll elems := by
  refine bulk_list (l.map (·.1)) elems (by simpa using h) fun i d v hd hv => ?_
  rw [List.getElem?_map] at hv
  cases hl : l[i]? with
  | none => rw [hl] at hv; cases hv
  | some x => rw [hl] at hv; cases hv; exact hh i d x hd hl

theorem reads_valR (n : Nat) : ReadsAs enc Tryd.prog w 40 n (fun x : RVal => x.1.cells) (fun x => x.1.big) Rows.uptoBulk := by
  induction n using Nat.strongRecOn with
  | ind n ih =>
  intro cs x h
  obtain ⟨xs, m, rfl, rfl, hcl, hxl, hf⟩ := DataW.trod_struct Tryd.underlying40 h
  have f0 := hf 0 _ rfl
  have f1 := hf 1 _ rfl
  have f2 := hf 2 _ rfl
  have f3 := hf 3 _ rfl
  have f4 := hf 4 _ rfl
  have f5 := hf 5 _ rfl
  clear hf
  have c3 : Tryd.prog.cellsOf 3 = 1 := by kernel_rfl
  have c4 : Tryd.prog.cellsOf 4 = 1 := by kernel_rfl
  have c2 : Tryd.prog.cellsOf 2 = 1 := by kernel_rfl
  have c9 : Tryd.prog.cellsOf 9 = 1 := by kernel_rfl
  have c37 : Tryd.prog.cellsOf 37 = 1 := by kernel_rfl
  have c38 : Tryd.prog.cellsOf 38 = 1 := by kernel_rfl
  have c40 : Tryd.prog.cellsOf 40 = 6 := by kernel_rfl
  change DataW.trod enc Tryd.prog w 0 _ true m 3 ((cs.drop 0).take (Tryd.prog.cellsOf 3)) = _ at f0
  rw [c3] at f0
  change DataW.trod enc Tryd.prog w 0 _ true m 4 ((cs.drop 1).take (Tryd.prog.cellsOf 4)) = _ at f1
  rw [c4] at f1
  change DataW.trod enc Tryd.prog w 0 _ true m 2 ((cs.drop 2).take (Tryd.prog.cellsOf 2)) = _ at f2
  rw [c2] at f2
  change DataW.trod enc Tryd.prog w 0 _ true m 9 ((cs.drop 3).take (Tryd.prog.cellsOf 9)) = _ at f3
  rw [c9] at f3
  change DataW.trod enc Tryd.prog w 0 _ true m 37 ((cs.drop 4).take (Tryd.prog.cellsOf 37)) = _ at f4
  rw [c37] at f4
  change DataW.trod enc Tryd.prog w 0 _ true m 38 ((cs.drop 5).take (Tryd.prog.cellsOf 38)) = _ at f5
  rw [c38] at f5
  rw [c40] at hcl
  have hx6 : xs.length = 6 := hxl
  obtain ⟨x0, x1, x2, x3, x4, x5, rfl⟩ : ∃ a b c d e f, xs = [a, b, c, d, e, f] := by
    match xs, hx6 with
    | [a, b, c, d, e, f], _ => exact ⟨a, b, c, d, e, f, rfl⟩
  obtain ⟨v0, v1, v2, v3, v4, v5, rfl⟩ : ∃ a b c d e f, cs = [a, b, c, d, e, f] := by
    match cs, hcl with
    | [a, b, c, d, e, f], _ => exact ⟨a, b, c, d, e, f, rfl⟩
  obtain ⟨k, e0, rfl, _⟩ := DataW.trod_int Tryd.underlying3 f0
  obtain ⟨b, e1, rfl⟩ := DataW.trod_bool Tryd.underlying4 f1
  obtain ⟨i, e2, rfl, hi⟩ := DataW.trod_int Tryd.underlying2 f2
  obtain ⟨s, e3, rfl, _⟩ := DataW.trod_string Tryd.underlying9 f3
  obtain ⟨l, u4, e4, o4, r4, b4⟩ := read_slice (α := RVal) (z := 6) Tryd.underlying37 c40 (by decide) (fun v => cells_length v.1) (fun n hn => ih n (Nat.lt_succ_of_lt hn)) f4
  obtain ⟨ks, u5, e5, o5, r5, b5⟩ := read_slice (α := List UInt8) (z := 1) (row := fun s => [PV.str s]) Tryd.underlying38 c9 (by decide) (fun _ => rfl) (fun n _ => reads_str n) f5
  have er : l.map (fun x : RVal => x.1.cells) = vals (l.map (·.1)) := by simp [vals, List.map_map]
  rw [er] at r4
  cases e0; cases e1; cases e2; cases e3; cases e4; cases e5
  have hr : int64 i = true := by
    have : (IntKind.i64.min ≤ i ∧ i ≤ IntKind.i64.max) := by simpa [Lit.wf] using hi
    have e1 : IntKind.i64.min = -9223372036854775808 := by decide
    have e2 : IntKind.i64.max = 9223372036854775807 := by decide
    rw [e1, e2] at this
    simp only [int64, decide_eq_true_eq]
    omega
  refine ⟨⟨.mk k b i s.data.toList (l.map (·.1)) ks, by simp only [range64, hr, range_list, Bool.and_true]⟩, ?_, ?_, ?_⟩
  · simp only [Val.cells, RepL]
    rw [rows_eq]
    refine ⟨_, _, rfl, by simp [RepP], _, _, rfl, by simp [RepP], _, _, rfl, by simp [RepP], _, _, rfl, by simp [RepP], _, _, rfl, r4, _, _, rfl, r5, rfl⟩
  · intro u hu
    simp only [List.mem_cons, List.not_mem_nil, or_false] at hu
    rcases hu with rfl | rfl | rfl | rfl | rfl | rfl <;> first | rfl | assumption
  · have h4 : bigs (l.map (·.1)) ≤ Rows.uptoBulk x4.1 := by
      rcases b4 with ⟨e, rfl⟩ | ⟨el, rest, e, hl, hb⟩
      · exact Nat.zero_le _
      · rw [e]
        have := bulk_listR l el hl hb
        simp only [Rows.uptoBulk]; omega
    have h5 : kbig ks ≤ Rows.uptoBulk x5.1 := by
      rcases b5 with ⟨e, rfl⟩ | ⟨el, rest, e, hl, hb⟩
      · exact Nat.zero_le _
      · rw [e]
        have := bulk_keys ks el hl hb
        simp only [Rows.uptoBulk]; omega
    simp only [Val.big, Rows.uptoBulk, Rows.uptoBulkAll, List.map_cons, List.map_nil]
    generalize bigs (l.map (·.1)) = B at h4 ⊢
    simp
    omega

/-- A row, its numbers of 64 bits. -/
abbrev RRow := { r : List Val // rangeR.rangeRow r = true }
instance : Inhabited RRow := ⟨⟨[], rfl⟩⟩
theorem row_all (l : List RVal) : rangeR.rangeRow (l.map (·.1)) = true := by
  unfold rangeR.rangeRow
  rw [List.all_eq_true]
  intro v hv
  obtain ⟨x, _, rfl⟩ := List.mem_map.1 hv
  exact x.2
theorem reads_row (n : Nat) : ReadsAs enc Tryd.prog w 37 n (fun r : RRow => [PV.sl (Val.rows r.1)]) (fun r => bigs r.1 + 1) Rows.uptoBulk := by
  intro cs x h
  have c40 : Tryd.prog.cellsOf 40 = 6 := by kernel_rfl
  obtain ⟨l, v, rfl, o, r, b⟩ := read_slice (α := RVal) (z := 6) Tryd.underlying37 c40 (by decide) (fun v => cells_length v.1) (fun m _ => reads_valR m) h
  have er : l.map (fun x : RVal => x.1.cells) = vals (l.map (·.1)) := by simp [vals, List.map_map]
  rw [er] at r
  refine ⟨⟨l.map (·.1), row_all l⟩, ?_, by simpa using o, ?_⟩
  · simp only [RepL]
    rw [rows_eq]
    exact ⟨_, _, rfl, r, rfl⟩
  · rcases b with ⟨e, rfl⟩ | ⟨el, rest, e, hl, hb⟩
    · rw [e]; simp [Rows.uptoBulk, bigs]
    · rw [e]
      have := bulk_listR l el hl hb
      simp only [Rows.uptoBulk]; omega
theorem bulk_rows : ∀ (l : List RRow) (elems : List (DataW Hd)), l.length = elems.length → (∀ (i : Nat) (d : DataW Hd) (v : RRow), elems[i]? = some d → l[i]? = some v → bigs v.1 + 1 ≤ Rows.uptoBulk d) → rbig (l.map (·.1)) ≤ Rows.uptoBulkAll elems
  | [], _, _, _ => Nat.zero_le _
  | v :: l, [], h, _ => by simp at h
  | v :: l, d :: elems, h, hh => by
    have := bulk_rows l elems (by simpa using h) fun i d v hd hv => hh (i + 1) d v (by simpa using hd) (by simpa using hv)
    have := hh 0 d v rfl rfl
    simp only [List.map_cons, rbig, Rows.uptoBulkAll]; omega
theorem reads_rowsR (n : Nat) : ReadsAs enc Tryd.prog w 22 n (fun l : List RRow => [PV.sl (slRows valC (l.map (·.1)))]) (fun l => rbig (l.map (·.1)) + 1) Rows.uptoBulk := by
  intro cs x h
  have c37 : Tryd.prog.cellsOf 37 = 1 := by kernel_rfl
  obtain ⟨l, v, rfl, o, r, b⟩ := read_slice (α := RRow) (z := 1) Tryd.underlying22 c37 (by decide) (fun v => rfl) (fun m _ => reads_row m) h
  have er : l.map (fun r : RRow => [PV.sl (Val.rows r.1)]) = slRows valC (l.map (·.1)) := by simp [slRows, List.map_map]; intros; rfl
  rw [er] at r
  refine ⟨l, ?_, by simpa using o, ?_⟩
  · simp only [RepL]
    exact ⟨_, _, rfl, r, rfl⟩
  · rcases b with ⟨e, rfl⟩ | ⟨el, rest, e, hl, hb⟩
    · rw [e]; simp [Rows.uptoBulk, rbig]
    · rw [e]
      have := bulk_rows l el hl hb
      simp only [Rows.uptoBulk]; omega
theorem rangeR_of (l : List RRow) : rangeR (l.map (·.1)) = true := by
  unfold rangeR
  rw [List.all_eq_true]
  intro v hv
  obtain ⟨x, _, rfl⟩ := List.mem_map.1 hv
  exact x.2
theorem reads_bool (n : Nat) : ReadsAs enc Tryd.prog w 4 n (fun b : Bool => [PV.bool b]) (fun _ => 1) Rows.uptoBulk := by
  intro cs x h
  obtain ⟨b, e, rfl⟩ := DataW.trod_bool Tryd.underlying4 h
  cases e
  exact ⟨b, by simp [RepL, RepP], by simp [Value.oneCell'], by simp [Rows.uptoBulk]⟩
theorem bulk_bools : ∀ (l : List Bool) (elems : List (DataW Hd)), l.length = elems.length → l.length ≤ Rows.uptoBulkAll elems
  | [], _, _ => Nat.zero_le _
  | v :: l, [], h => by simp at h
  | v :: l, d :: elems, h => by
    have h1 := bulk_bools l elems (by simpa using h)
    have h2 : 1 ≤ Rows.uptoBulk d := by cases d with
      | lit x => cases x <;> simp [Rows.uptoBulk]
      | _ => simp [Rows.uptoBulk]
    simp only [List.length_cons, Rows.uptoBulkAll]; omega
theorem reads_bools (n : Nat) : ReadsAs enc Tryd.prog w 31 n (fun l : List Bool => [PV.sl (boolRows l)]) (fun l => l.length + 1) Rows.uptoBulk := by
  intro cs x h
  have c4 : Tryd.prog.cellsOf 4 = 1 := by kernel_rfl
  obtain ⟨l, v, rfl, o, r, b⟩ := read_slice (α := Bool) (z := 1) Tryd.underlying31 c4 (by decide) (fun v => rfl) (fun m _ => reads_bool m) h
  refine ⟨l, ?_, by simpa using o, ?_⟩
  · simp only [RepL]
    exact ⟨_, _, rfl, r, rfl⟩
  · rcases b with ⟨e, rfl⟩ | ⟨el, rest, e, hl, hb⟩
    · rw [e]; simp [Rows.uptoBulk]
    · rw [e]
      have := bulk_bools l el hl
      simp only [Rows.uptoBulk]; omega
theorem reads_argRows {W : World} {v0 : Value} {d0 : DataW Hd} {p : List MemPlace} {b : Nat} (hval : Value.okWide Tryd.prog W .any b 22 v0) (h : DataW.Trod enc Tryd.prog W 0 (fun _ => true) true 22 v0 d0 p) :
    ∃ l : List (List Val), RepP (heapH W) (.sl (slRows valC l)) v0 ∧ rbig l + 1 ≤ Rows.uptoBulk d0 ∧ rangeR l = true := by
  obtain ⟨a, len, cap, rfl⟩ := okWide_slice Tryd.underlying22 hval
  obtain ⟨fuel, h⟩ := h
  obtain ⟨l, r, _, hb⟩ := reads_rowsR fuel _ _ h
  refine ⟨l.map (·.1), ?_, hb, rangeR_of l⟩
  simp only [RepL] at r
  obtain ⟨v, vs, e, r1, _⟩ := r
  cases e
  exact r1
theorem reads_argBools {W : World} {v0 : Value} {d0 : DataW Hd} {p : List MemPlace} {b : Nat} (hval : Value.okWide Tryd.prog W .any b 31 v0) (h : DataW.Trod enc Tryd.prog W 0 (fun _ => true) true 31 v0 d0 p) :
    ∃ l : List Bool, RepP (heapH W) (.sl (boolRows l)) v0 ∧ l.length + 1 ≤ Rows.uptoBulk d0 := by
  obtain ⟨a, len, cap, rfl⟩ := okWide_slice Tryd.underlying31 hval
  obtain ⟨fuel, h⟩ := h
  obtain ⟨l, r, _, hb⟩ := reads_bools fuel _ _ h
  refine ⟨l, ?_, hb⟩
  simp only [RepL] at r
  obtain ⟨v, vs, e, r1, _⟩ := r
  cases e
  exact r1
end W
end
section
namespace W
open Go Go.Proofs Ax Go.RowKit Go.ChangeShapes Go.WideShapes Go.ChangeAt
open Go.Proofs.YtajcpfcghhbbnaaDoor Go.ChangeMaps

theorem own : ownKnob Tryd.prog.godebug = none := by kernel_rfl
theorem laidOut : laidOutB Tryd.prog = true := by kernel_rfl
theorem root {W : World} (h : W.ShapedOpen Tryd.prog) : ∃ m, W.cell? ⟨0, 0, none⟩ = some (.int .i64 m) := Tryd.laysM155.s1_3 W h

/-- A world for the witness: Go's tables hold what they are laid with. -/
def putCells (cs : List Value) : Obj → Obj
  | .cells _ t frozen => .cells cs.toArray t frozen
  | o => o
noncomputable def laidWorld (os : Os) : World :=
  { World.holding Tryd.prog os ⟨#[], #[], []⟩ with heap := ((World.holding Tryd.prog os ⟨#[], #[], []⟩).heap.modify 1 (putCells (cellsD Rows.laid_unicode_utf8_first))).modify 2 (putCells (cellsD (Rows.laid_unicode_utf8_acceptRanges (H := Unit)))) }
abbrev V0 : Value := .slice none 0 0
abbrev D0 (H : Type) : DataW H := .nil
end W
end
section
open Go Ax Go.RowKit
namespace W
set_option maxRecDepth 10000
open Classical

/-! ### Keys of rows -/
def keyR (r : List Val) : List UInt8 := r.flatMap layM
theorem keyR_cons (v : Val) (r : List Val) : keyR (v :: r) = layM v ++ keyR r := rfl
theorem keyR_len (r : List Val) : (keyR r).length ≤ 16 * bigs r := by
  induction r with
  | nil => exact Nat.zero_le _
  | cons v r ih => rw [keyR_cons, List.length_append]; have := layM_length v; simp only [bigs]; omega
theorem key_one {n : Nat} (hn : n ≤ 1073741824) {v : Val} (h : OkV n v) : F_rank_Key n v = some (layM v, 0) := by
  have h1 := (lay_both n hn v h.right).1 h.small
  have h2 := h.check
  obtain ⟨x1, x2, x3, x4, x5, x6⟩ := v
  unfold F_rank_Key
  simp only [h2, bnd_eq, show ((0 : Int) != 0) = false from rfl, cond_false, h1]
theorem bigs_drop_le (r : List Val) (i : Nat) : bigs (r.drop i) ≤ bigs r := by
  induction r generalizing i with
  | nil => simp
  | cons v r ih =>
    cases i with
    | zero => exact Nat.le_refl _
    | succ i => simp only [List.drop_succ_cons, bigs]; have := ih i; omega
theorem key_eq {n : Nat} (hn : n ≤ 1073741824) {r : List Val} (hv : ∀ v ∈ r, OkV n v) (hs : 40 * bigs r + 40 < n) : F_rows_key n r = some (keyR r) := by
  have hl := bigs_len r
  have loop : ∀ m i : Nat, i ≤ r.length → r.length - i < m → loopK (F_rows_key_l1 n r) m (keyR (r.take i), (i : Int)) = some (keyR r) := by
    intro m
    induction m with
    | zero => intro i _ h; omega
    | succ m ih =>
      intro i hi hm
      rw [loopK_succ]
      generalize loopK (F_rows_key_l1 n r) m = nx at ih ⊢
      unfold F_rows_key_l1
      simp only [valRows_len]
      by_cases hlt : i < r.length
      · obtain ⟨x, hx⟩ : ∃ x, r[i]? = some x := ⟨_, List.getElem?_eq_getElem hlt⟩
        have hk := key_one hn (hv x (List.mem_of_getElem? hx))
        have e : keyR (r.take i) ++ layM x = keyR (r.take (i + 1)) := by rw [List.take_succ, hx]; simp [keyR]
        have h16 := keyR_len (r.take (i + 1))
        have hbt : bigs (r.take (i + 1)) ≤ bigs r := by
          have : ∀ (q : List Val) (j : Nat), bigs (q.take j) ≤ bigs q := by
            intro q
            induction q with
            | nil => intro j; simp [bigs]
            | cons a q ihq => intro j; cases j with
              | zero => simp [bigs]
              | succ j => simp only [List.take_succ_cons, bigs]; have := ihq j; omega
          exact this r (i + 1)
        have hlen : (keyR (r.take i)).length + (layM x).length = (keyR (r.take (i + 1))).length := by rw [← e, List.length_append]
        rw [decide_eq_true (show (i : Int) < (r.length : Int) by omega)]
        obtain ⟨a1, a2, a3, a4, a5, a6⟩ := x
        simp only [cond_true, Ax.idx_nat, hx, bnd_eq, hk, show ((0 : Int) != 0) = false from rfl, cond_false]
        unfold F_rows_key_k3
        rw [chk_dec (by unfold maxI; omega), e, wrapN (by omega)]
        exact ih (i + 1) (by omega) (by omega)
      · rw [decide_eq_false (show ¬ (i : Int) < (r.length : Int) by omega)]
        simp only [cond_false]
        rw [List.take_of_length_le (by omega)]
  exact loop n 0 (Nat.zero_le _) (by omega)

theorem lay_inj {v w : Val} {x y : List UInt8} (hv : right v = true) (rv : range64 v = true) (hw : right w = true) (rw' : range64 w = true) (h : layM v ++ x = layM w ++ y) : v = w ∧ x = y := by
  have h1 := rd_lay v x (max (depth v) (depth w)) hv rv (Nat.le_max_left _ _)
  have h2 := rd_lay w y (max (depth v) (depth w)) hw rw' (Nat.le_max_right _ _)
  rw [h, h2] at h1
  have := Option.some.inj h1
  exact ⟨(Prod.mk.inj this).1.symm, (Prod.mk.inj this).2.symm⟩
theorem keyR_inj : ∀ {r s : List Val}, (∀ v ∈ r, right v = true ∧ range64 v = true) → (∀ v ∈ s, right v = true ∧ range64 v = true) → r.length = s.length → keyR r = keyR s → r = s
  | [], [], _, _, _, _ => rfl
  | [], _ :: _, _, _, h, _ => by simp at h
  | _ :: _, [], _, _, h, _ => by simp at h
  | v :: r, w :: s, hr, hs, hl, h => by
    rw [keyR_cons, keyR_cons] at h
    obtain ⟨e1, e2⟩ := lay_inj (hr v (by simp)).1 (hr v (by simp)).2 (hs w (by simp)).1 (hs w (by simp)).2 h
    subst e1
    rw [keyR_inj (fun x hx => hr x (by simp [hx])) (fun x hx => hs x (by simp [hx])) (by simpa using hl) e2]

/-! ### Each once -/
noncomputable def uniqA : List (List Val) → List (List Val) → List (List Val)
  | acc, [] => acc
  | acc, r :: l => if r ∈ acc then uniqA acc l else uniqA (acc ++ [r]) l
noncomputable def uniq (l : List (List Val)) : List (List Val) := uniqA [] l

theorem uniqA_sub {acc l : List (List Val)} {r : List Val} (h : r ∈ uniqA acc l) : r ∈ acc ∨ r ∈ l := by
  induction l generalizing acc with
  | nil => exact .inl h
  | cons a l ih =>
    simp only [uniqA] at h
    split at h
    · rcases ih h with h | h
      · exact .inl h
      · exact .inr (by simp [h])
    · rcases ih h with h | h
      · rcases List.mem_append.1 h with h | h
        · exact .inl h
        · exact .inr (by simp at h; simp [h])
      · exact .inr (by simp [h])

theorem unique_eq {n c : Nat} {l : List (List Val)} (hl : OkL n c l) : F_rows_Unique n l = some (uniq l) := by
  have hn := hl.lim
  have hs := hl.small
  have hll := rbig_len l
  have loop : ∀ (m i : Nat) (out : List (List Val)) (mp : List (List UInt8 × Int)), i ≤ l.length → l.length - i < m → out.length ≤ i → (∀ r ∈ out, OkR n c r) → (∀ key, mhas mp key = true ↔ ∃ r ∈ out, keyR r = key) →
      loopK (F_rows_Unique_l1 n l) m ((i : Int), out, mp) = some (uniqA out (l.drop i)) := by
    intro m
    induction m with
    | zero => intro i _ _ _ h; omega
    | succ m ih =>
      intro i out mp hi hm ho hok hmp
      rw [loopK_succ]
      generalize loopK (F_rows_Unique_l1 n l) m = nx at ih ⊢
      unfold F_rows_Unique_l1
      simp only [slen]
      by_cases hlt : i < l.length
      · obtain ⟨r, hr⟩ : ∃ x, l[i]? = some x := ⟨_, List.getElem?_eq_getElem hlt⟩
        have hrm := List.mem_of_getElem? hr
        have okr := hl.row r hrm
        have hd : l.drop i = r :: l.drop (i + 1) := by
          obtain ⟨_, e⟩ := List.getElem?_eq_some_iff.1 hr
          rw [List.drop_eq_getElem_cons hlt, e]
        have hk := key_eq hn okr.val okr.small
        have h3 := vbigL3 r
        have hcp := copied_id hn (l := r) (by have := okr.small; omega)
        rw [decide_eq_true (show (i : Int) < (l.length : Int) by omega), hd]
        simp only [cond_true, Ax.idx_nat, hr, bnd_eq, hk, uniqA]
        have hin : mhas mp (keyR r) = true ↔ r ∈ out := by
          rw [hmp]
          constructor
          · rintro ⟨q, hq, e⟩
            have okq := hok q hq
            have := keyR_inj (fun v hv => ⟨(okq.val v hv).right, (okq.val v hv).range⟩) (fun v hv => ⟨(okr.val v hv).right, (okr.val v hv).range⟩) (by rw [okq.len, okr.len]) e
            rwa [← this]
          · exact fun h => ⟨r, h, rfl⟩
        cases hh : mhas mp (keyR r) with
        | true =>
          rw [if_pos (hin.1 hh)]
          simp only [Bool.not_true, cond_false]
          unfold F_rows_Unique_k3
          rw [wrapN (by omega)]
          exact ih (i + 1) out mp (by omega) (by omega) (by omega) hok hmp
        | false =>
          rw [if_neg (fun h => by rw [hin.2 h] at hh; cases hh)]
          simp only [Bool.not_false, cond_true]
          unfold F_rows_Unique_c1
          simp only [hcp, bnd_eq]
          rw [chk_dec (by simp; omega)]
          unfold F_rows_Unique_k3
          rw [wrapN (by omega)]
          refine ih (i + 1) (out ++ [r]) _ (by omega) (by omega) (by simp; omega) (fun q hq => ?_) (fun key => ?_)
          · rcases List.mem_append.1 hq with h | h
            · exact hok q h
            · simp at h; subst h; exact okr
          · rw [mhas_set]
            simp only [Bool.or_eq_true, beq_iff_eq, hmp, List.mem_append, List.mem_singleton]
            constructor
            · rintro (rfl | ⟨q, hq, e⟩)
              · exact ⟨r, .inr rfl, rfl⟩
              · exact ⟨q, .inl hq, e⟩
            · rintro ⟨q, hq | rfl, e⟩
              · exact .inr ⟨q, hq, e⟩
              · exact .inl e.symm
      · rw [decide_eq_false (show ¬ (i : Int) < (l.length : Int) by omega), List.drop_eq_nil_of_le (by omega)]
        rfl
  exact loop n 0 [] [] (Nat.zero_le _) (by omega) (Nat.le_refl _) (fun _ h => by cases h) (fun key => by simp [mhas, mget])

/-! ### Sameness -/
theorem sameList_eq {n : Nat} (hn : n ≤ 1073741824) {r s : List Val} (hs : 40 * bigs r + 40 < n) : F_R03_SameList n r s = some (decide (r = s)) := by
  have := vbigL3 r
  obtain ⟨b, h1, h2⟩ := (r03_same n hn).2 r s (by omega)
  rw [h1]
  congr 1
  rw [Bool.eq_iff_iff, h2]
  simp
theorem same_eq {n : Nat} (hn : n ≤ 1073741824) {a b : List (List Val)} (hs : ∀ r ∈ a, 40 * bigs r + 40 < n) (ha : a.length < n) : F_R17_Same n a b = some (decide (a = b)) := by
  unfold F_R17_Same
  simp only [slen]
  by_cases hl : a.length = b.length
  · have e : (((a.length : Nat) : Int) != ((b.length : Nat) : Int)) = false := by simp [hl]
    rw [e, cond_false]
    have loop : ∀ m i : Nat, i ≤ a.length → a.length - i < m → loopK (F_R17_Same_l1 n a b) m (i : Int) = some (decide (a.drop i = b.drop i)) := by
      intro m
      induction m with
      | zero => intro i _ h; omega
      | succ m ih =>
        intro i hi hm
        rw [loopK_succ]
        generalize loopK (F_R17_Same_l1 n a b) m = nx at ih ⊢
        unfold F_R17_Same_l1
        simp only [slen]
        by_cases hlt : i < a.length
        · obtain ⟨r, hr⟩ : ∃ x, a[i]? = some x := ⟨_, List.getElem?_eq_getElem hlt⟩
          obtain ⟨s, hs'⟩ : ∃ x, b[i]? = some x := ⟨_, List.getElem?_eq_getElem (by omega)⟩
          have hd : a.drop i = r :: a.drop (i + 1) := by
            obtain ⟨_, e⟩ := List.getElem?_eq_some_iff.1 hr
            rw [List.drop_eq_getElem_cons hlt, e]
          have hd' : b.drop i = s :: b.drop (i + 1) := by
            obtain ⟨_, e⟩ := List.getElem?_eq_some_iff.1 hs'
            rw [List.drop_eq_getElem_cons (by omega), e]
          rw [decide_eq_true (show (i : Int) < (a.length : Int) by omega), hd, hd']
          simp only [cond_true, Ax.idx_nat, hr, hs', bnd_eq, sameList_eq hn (hs r (List.mem_of_getElem? hr))]
          by_cases hrs : r = s
          · subst hrs
            simp only [decide_true, Bool.not_true, cond_false]
            rw [wrapN (by omega), ih (i + 1) (by omega) (by omega)]
            simp
          · simp only [decide_eq_false hrs, Bool.not_false, cond_true]
            simp [hrs]
        · rw [decide_eq_false (show ¬ (i : Int) < (a.length : Int) by omega), List.drop_eq_nil_of_le (by omega), List.drop_eq_nil_of_le (by omega)]
          simp
    simpa using loop n 0 (Nat.zero_le _) (by omega)
  · have e : (((a.length : Nat) : Int) != ((b.length : Nat) : Int)) = true := by simp; omega
    rw [e, cond_true]
    rw [decide_eq_false (fun h : a = b => hl (by rw [h]))]
noncomputable def cnt (r : List Val) (l : List (List Val)) : Nat := (l.filter fun x => decide (x = r)).length
theorem cnt_cons (r x : List Val) (l : List (List Val)) : cnt r (x :: l) = (if x = r then 1 else 0) + cnt r l := by
  unfold cnt
  by_cases h : x = r
  · simp [h]; omega
  · simp [h]
theorem cnt_append (r : List Val) (l m : List (List Val)) : cnt r (l ++ m) = cnt r l + cnt r m := by simp [cnt]
theorem cnt_zero {r : List Val} {l : List (List Val)} : cnt r l = 0 ↔ r ∉ l := by
  unfold cnt
  rw [List.length_eq_zero_iff, List.filter_eq_nil_iff]
  constructor
  · intro h hm; simpa using h r hm
  · intro h x hx; simp only [decide_eq_true_eq]; rintro rfl; exact h hx
theorem cnt_pos {r : List Val} {l : List (List Val)} : 0 < cnt r l ↔ r ∈ l := by
  have := @cnt_zero r l
  constructor
  · intro h; exact Classical.byContradiction fun hc => by have := this.2 hc; omega
  · intro h; have : cnt r l ≠ 0 := fun e => this.1 e h; omega
theorem cnt_le (r : List Val) (l : List (List Val)) : cnt r l ≤ l.length := List.length_filter_le _ _
end W
end
section
namespace Ax
open Go
variable {Lw : Nat}
def pub1N (lo : List AObj) (v : FV) (R : PV → List AObj → Prop) : Prop :=
  match v with
  | .tsl k rows => nthK k lo fun o => match o with
    | .tail _ _ _ => R (.nsl rows) lo
    | _ => False
  | .vsl k _ => nthK k lo fun o => match o with
    | .vec _ _ rows => setK k .dead lo fun lo => R (.nsl rows) lo
    | _ => False
  | v => pub1 lo v R
def pubLN : List FV → List AObj → (List PV → List AObj → Prop) → Prop
  | [], lo, R => R [] lo
  | v :: cs, lo, R => pub1N lo v fun p lo => pubLN cs lo fun ps lo => R (p :: ps) lo
def pubKN (lo : List AObj) (v : FV) (R : PV → List AObj → Prop) : Prop :=
  match v with
  | .fagg c => chainK c fun cs => pubLN cs lo fun ps lo => R (.agg ps) lo
  | v => pub1N lo v R
def resLN (P : Program) (E : Env) (lo : List AObj) : List ResultVar → (List PV → Prop) → Prop
  | [], R => R []
  | r :: rs, R => resK P E lo r fun v => pubKN lo v fun p lo => resLN P E lo rs fun l => R (p :: l)
def retKN (P : Program) (fn : Func) (R : PV → Prop) : KA := fun x E lo => match x with
  | .exit _ => False
  | _ => resLN P E lo fn.results.toList fun vs => match vs with
      | [v] => R v
      | vs => R (.tup vs)
theorem own_zero {ρ : List Value} {H : PH Lw} {w : World} {v : Value} {e : TypeId} {z n : Nat} (h : ObjOk ρ H w v (.tail e z n)) {b o m c : Nat} (hv : v = .slice (some ⟨b, o, none⟩) m c) : o = 0 := by
  obtain ⟨xs, how, _⟩ := h
  rcases how.2 with ⟨rfl, _⟩ | ⟨g, cap, cur, rfl, _⟩
  · cases hv
  · cases hv; rfl
theorem own_zeroV {ρ : List Value} {H : PH Lw} {w : World} {v : Value} {e : TypeId} {z : Nat} {rows : List (List PV)} (h : ObjOk ρ H w v (.vec e z rows)) {b o m c : Nat} (hv : v = .slice (some ⟨b, o, none⟩) m c) : o = 0 := by
  obtain ⟨xs, how, _⟩ := h
  rcases how.2 with ⟨rfl, _⟩ | ⟨g, cap, cur, rfl, _⟩
  · cases hv
  · cases hv; rfl
/-- The call's own blocks are new. -/
def Fresh (bs : (Base Lw)) : Prop := (∀ b, ¬ bs.S b) ∧ Lw ≤ bs.w0.heap.size
theorem pub1N_spec {lo : List AObj} {v : FV} {R : PV → List AObj → Prop} (h : pub1N lo v R) : ∃ f lo', R f lo' ∧ ∀ ⦃Lw : Nat⦄ (bs : (Base Lw)) (N : Nat) (ρ : List Value) (H : (PH Lw)) (e : Nat → FV) (a : Act) (w : World) (x : Value), Fresh bs → Sat bs N ρ H e lo a w → RepF ρ H v x →
    ∃ H', PH.le H H' ∧ Sat bs N ρ H' e lo' a w ∧ RepP H' f x := by
  unfold pub1N at h
  split at h
  · rename_i k rows
    obtain ⟨o, ho, h⟩ := nthK_spec h
    split at h
    · rename_i e z n
      refine ⟨_, _, h, fun Lw bs N ρ H ev a w x hf s r => ⟨H, PH.le.refl H, s, ?_⟩⟩
      obtain ⟨hk, r⟩ := r
      simp only [RepP] at r ⊢
      rcases r with r | ⟨b, off, z', cap, rfl, hc, rr⟩
      · exact .inl r
      · refine .inr ⟨b, off, z', cap, rfl, hc, ?_, rr⟩
        refine ⟨?_, own_zero (s.objs k _ _ ho hk) rfl⟩
        rcases s.own k _ _ b ho hk rfl rfl with h1 | h1
        · exact absurd h1 (hf.1 b)
        · exact Nat.le_trans hf.2 h1
    · exact h.elim
  · rename_i k n
    obtain ⟨o, ho, h⟩ := nthK_spec h
    split at h
    · rename_i e z rows
      obtain ⟨h, _⟩ := setK_spec h
      refine ⟨_, _, h, fun Lw bs N ρ H ev a w x hf s r => ?_⟩
      obtain ⟨H', hle, s', rp⟩ := s.toSatW.publish ho r.1
      refine ⟨H', hle, { s' with slots := fun t => (s.slots t).mono (List.prefix_refl _) hle, width := s.width, defers := s.defers }, ?_⟩
      simp only [RepP] at rp ⊢
      rcases rp with rp | ⟨b, off, z', cap, rfl, hc, rr⟩
      · exact .inl rp
      · refine .inr ⟨b, off, z', cap, rfl, hc, ?_, rr⟩
        refine ⟨?_, own_zeroV (s.objs k _ _ ho r.1) rfl⟩
        rcases s.own k _ _ b ho r.1 rfl rfl with h1 | h1
        · exact absurd h1 (hf.1 b)
        · exact Nat.le_trans hf.2 h1
    · exact h.elim
  · obtain ⟨f, lo', h, hs⟩ := pub1_spec h
    exact ⟨f, lo', h, fun Lw bs N ρ H e a w x _ s r => hs bs N ρ H e a w x s r⟩
theorem pubLN_spec : ∀ {cs : List FV} {lo : List AObj} {R : List PV → List AObj → Prop}, pubLN cs lo R → ∃ ps lo', R ps lo' ∧ ∀ ⦃Lw : Nat⦄ (bs : (Base Lw)) (N : Nat) (ρ : List Value) (H : (PH Lw)) (e : Nat → FV) (a : Act) (w : World) (vs : List Value), Fresh bs → Sat bs N ρ H e lo a w → RepFL ρ H cs vs →
    ∃ H', PH.le H H' ∧ Sat bs N ρ H' e lo' a w ∧ RepL H' ps vs
  | [], lo, R, h => ⟨[], lo, h, fun Lw bs N ρ H e a w vs _ s r => ⟨H, PH.le.refl H, s, by simp only [RepFL] at r; simp only [RepL]; exact r⟩⟩
  | v :: cs, lo, R, h => by
    simp only [pubLN] at h
    obtain ⟨p, lo1, h, h1⟩ := pub1N_spec h
    obtain ⟨ps, lo2, h, h2⟩ := pubLN_spec h
    refine ⟨_, _, h, fun Lw bs N ρ H e a w vs hf s r => ?_⟩
    obtain ⟨u, us, rfl, r1, rs⟩ := r
    obtain ⟨H1, hle1, s1, rp1⟩ := h1 bs N ρ H e a w u hf s r1
    obtain ⟨H2, hle2, s2, rp2⟩ := h2 bs N ρ H1 e a w us hf s1 (rs.mono (List.prefix_refl _) hle1)
    exact ⟨H2, hle1.trans hle2, s2, by simp only [RepL]; exact ⟨u, us, rfl, RepP.mono hle2 rp1, rp2⟩⟩
theorem pubKN_spec {lo : List AObj} {v : FV} {R : PV → List AObj → Prop} (h : pubKN lo v R) : ∃ f lo', R f lo' ∧ ∀ ⦃Lw : Nat⦄ (bs : (Base Lw)) (N : Nat) (ρ : List Value) (H : (PH Lw)) (e : Nat → FV) (a : Act) (w : World) (x : Value), Fresh bs → Sat bs N ρ H e lo a w → RepF ρ H v x →
    ∃ H', PH.le H H' ∧ Sat bs N ρ H' e lo' a w ∧ RepP H' f x := by
  unfold pubKN at h
  split at h
  · rename_i c
    obtain ⟨cs, h, hcs⟩ := chainK_spec h
    obtain ⟨ps, lo', h, hs⟩ := pubLN_spec h
    refine ⟨_, _, h, fun Lw bs N ρ H e a w x hf s r => ?_⟩
    obtain ⟨vs, rfl, rc⟩ := r
    obtain ⟨H', hle, s', rp⟩ := hs bs N ρ H e a w vs hf s (hcs _ _ _ rc)
    exact ⟨H', hle, s', by simp only [RepP]; exact ⟨vs, rfl, rp⟩⟩
  · exact pub1N_spec h
theorem resLN_spec {P : Program} {E : Env} : ∀ {l : List ResultVar} {lo : List AObj} {R : List PV → Prop}, resLN P E lo l R → ∃ ps, R ps ∧ ps.length = l.length ∧ ∀ ⦃Lw : Nat⦄ (bs : (Base Lw)) (N : Nat) (ρ : List Value) (H : (PH Lw)) (a : Act) (w : World), Fresh bs → Sat bs N ρ H (lookD E) lo a w →
    ∃ (vs : List Value) (H' : (PH Lw)) (lo' : List AObj), (l.mapM (m := Sem) (resOne a.tmps)).run P w = .ok vs w ∧ RepL H' ps vs ∧ PH.le H H' ∧ Sat bs N ρ H' (lookD E) lo' a w
  | [], lo, R, h => ⟨[], h, rfl, fun Lw bs N ρ H a w _ s => ⟨[], H, lo, by simp, by simp [RepL], PH.le.refl H, s⟩⟩
  | r :: rs, lo, R, h => by
    simp only [resLN] at h
    obtain ⟨f, h, h1⟩ := resK_spec h
    obtain ⟨p, lo1, h, h2⟩ := pubKN_spec h
    obtain ⟨ps, h, hlen, h3⟩ := resLN_spec h
    refine ⟨p :: ps, h, by simp [hlen], fun Lw bs N ρ H a w hf s => ?_⟩
    obtain ⟨v, hv, rv⟩ := h1 bs N ρ H a w s
    obtain ⟨H1, hle1, s1, rv1⟩ := h2 bs N ρ H _ a w v hf s rv
    obtain ⟨vs, H2, lo2, hvs, rvs, hle2, s2⟩ := h3 bs N ρ H1 a w hf s1
    refine ⟨v :: vs, H2, lo2, ?_, by simp only [RepL]; exact ⟨v, vs, rfl, RepP.mono hle2 rv1, rvs⟩, hle1.trans hle2, s2⟩
    simp only [List.mapM_cons, Sem.run_bind, hv, Result.andThen_ok, hvs, Sem.run_pure]
theorem retN_spec {P : Program} {fn : Func} {E : Env} {lo : List AObj} {x : AX} {R : PV → Prop} (h : retKN P fn R x E lo) : ∃ p, R p ∧ (x = .normal ∨ x = .ret) ∧
    ∀ ⦃Lw : Nat⦄ (bs : (Base Lw)) (N : Nat) (ρ : List Value) (H : (PH Lw)) (a : Act) (w : World), Fresh bs → Sat bs N ρ H (lookD E) lo a w → ∃ (v : Value) (H' : (PH Lw)) (lo' : List AObj), (results fn a.tmps).run P w = .ok v w ∧ RepP H' p v ∧ PH.le H H' ∧ Sat bs N ρ H' (lookD E) lo' a w := by
  have key : ∀ {x : AX}, (x = .normal ∨ x = .ret) → (resLN P E lo fn.results.toList fun vs => match vs with
      | [v] => R v
      | vs => R (.tup vs)) → ∃ p, R p ∧ (x = .normal ∨ x = .ret) ∧
    ∀ ⦃Lw : Nat⦄ (bs : (Base Lw)) (N : Nat) (ρ : List Value) (H : (PH Lw)) (a : Act) (w : World), Fresh bs → Sat bs N ρ H (lookD E) lo a w → ∃ (v : Value) (H' : (PH Lw)) (lo' : List AObj), (results fn a.tmps).run P w = .ok v w ∧ RepP H' p v ∧ PH.le H H' ∧ Sat bs N ρ H' (lookD E) lo' a w := by
    intro x hx h
    obtain ⟨ps, h, hpl, hs⟩ := resLN_spec h
    clear hpl
    split at h
    · rename_i p
      refine ⟨p, h, hx, fun Lw bs N ρ H a w hf s => ?_⟩
      obtain ⟨vs, H', lo', hr, rl, hle, s'⟩ := hs bs N ρ H a w hf s
      simp only [RepL] at rl
      obtain ⟨v, _, rfl, rv, rfl⟩ := rl
      refine ⟨v, H', lo', ?_, rv, hle, s'⟩
      rw [results_eq, Array.mapM_eq_mapM_toList]
      simp only [Sem.run_bind, Sem.run_map, hr, Result.andThen_ok]
      rfl
    · rename_i hne
      refine ⟨_, h, hx, fun Lw bs N ρ H a w hf s => ?_⟩
      obtain ⟨vs, H', lo', hr, rl, hle, s'⟩ := hs bs N ρ H a w hf s
      refine ⟨.tuple vs.toArray, H', lo', ?_, by simp only [RepP]; exact ⟨vs, rfl, rl⟩, hle, s'⟩
      rw [results_eq, Array.mapM_eq_mapM_toList]
      simp only [Sem.run_bind, Sem.run_map, hr, Result.andThen_ok, Sem.run_pure]
      have : ¬ vs.toArray.size = 1 := by
        intro h1
        have hl := rl.length
        simp at h1
        rw [h1] at hl
        cases ps with
        | nil => simp at hl
        | cons a l => cases l with
          | nil => exact hne a rfl
          | cons b l => simp at hl
      simp only [this, dif_neg, not_false_eq_true]
  cases x with
  | normal => exact key (.inl rfl) h
  | exit i => exact h.elim
  | ret => exact key (.inr rfl) h
def vcFnN (P : Program) (inl : List Nat) (fn : Func) (args : List PV) (R : PV → Prop) : Prop :=
  match fn.body with
  | some c => vc P inl fn.ntmps 0 c (retKN P fn R) (initE 0 args) []
  | none => False
theorem CallsF.of_vcNewR {P : Program} {f : FuncId} {fn : Func} {args : List PV} {r : PV} {inl : List Nat} {R : PV → Prop} (hm : P.follows .mixedOrders = true) (he : Enters P f) (hf : P.funcs[f]? = some fn) (hok : fnOk inl fn args.length = true)
    (hR : ∀ (p : PV) (v : Value) ⦃Lw : Nat⦄ (H : (PH Lw)), R p → RepP H p v → RepP H r v) (h : vcFnN P inl fn args R) : CallsF P f args r := by
  intro Lw H w vs hs rl
  rw [he]
  refine ⟨rfl, ?_⟩
  simp only [fnOk, Bool.and_eq_true, decide_eq_true_eq] at hok
  obtain ⟨hd, hn⟩ := hok
  unfold vcFnN at h
  cases hb : fn.body with
  | none => simp [hb] at hd
  | some c =>
    simp only [hb] at h hd
    refine calls_of_wp hf hb ?_
    have hl := rl.length
    have sat : Sat { S := Nobody, w0 := w, H0 := H, r0 := [] } fn.ntmps [] H (lookD (initE 0 args)) [] { tmps := vs.toArray ++ Array.replicate (fn.ntmps - vs.toArray.size) undef, defers := [] } w := by
      refine { sath := hs, hlen := rfl, pre := List.prefix_refl _, objs := fun k o v h => by simp at h, excl := fun k _ o _ v _ b h => by simp at h, own := fun k o v b h => by simp at h, keep := Keep.refl _ w, leH := PH.le.refl H, newH := fun b o v h => .inl ⟨v, h⟩, slots := fun t => ?_, width := by simp; omega, defers := rfl }
      rw [initE_spec]
      simp only [Nat.zero_le, if_true, Nat.sub_zero]
      cases ht : args[t]? with
      | none => trivial
      | some p =>
        obtain ⟨v, hv, rv⟩ := rl.get ht
        have hlt := (List.getElem?_eq_some_iff.1 hv).1
        have : (vs.toArray ++ Array.replicate (fn.ntmps - vs.toArray.size) undef).getD t undef = v := by
          rw [Array.getD_eq_getD_getElem?, Array.getElem?_append_left (by simpa using hlt)]
          simp [hv]
        rw [this]
        exact toF_rep rv
    refine wp_mono (vc_sound hm c _ _ _ hd h _ [] H _ w rfl sat) fun e a w' p => ?_
    obtain ⟨x, ρ', H', E', lo', hx, s', k⟩ := p
    obtain ⟨p, hp, hxx, hres⟩ := retN_spec k
    obtain ⟨v, H2, lo2, hv, rv, hle, s2⟩ := hres _ _ ρ' H' a w' ⟨fun _ h => h, hs.low⟩ s'
    have fin : ∃ v, (results fn a.tmps).run P w' = .ok v w' ∧ (fun e w'' => ∃ v H', e = Ending.returned v ∧ Calm H w H' w'' ∧ RepP H' r v) (.returned v) w' :=
      ⟨v, hv, v, H2, rfl, ⟨s2.leH, s2.sath, s2.keep, fun b o v hv => by
        rcases s2.newH b o v hv with h | h | h
        · exact .inl h
        · exact h.elim
        · exact .inr h⟩, hR p v H2 hp rv⟩
    rcases hxx with rfl | rfl <;> cases e <;> simp only [AXis] at hx
    · exact ⟨s'.defers, fin⟩
    · exact ⟨s'.defers, fin⟩

theorem CallsF.of_vcNew {P : Program} {f : FuncId} {fn : Func} {args : List PV} {r : PV} {inl : List Nat} (hm : P.follows .mixedOrders = true) (he : Enters P f) (hf : P.funcs[f]? = some fn) (hok : fnOk inl fn args.length = true)
    (h : vcFnN P inl fn args (fun v => nle v r)) : CallsF P f args r :=
  CallsF.of_vcNewR hm he hf hok (fun _ _ _ _ => nle_rep) h
end Ax
end
section
namespace Ax
open Go
variable {Lw : Nat}
mutual
/-- The same, without telling that it is new. -/
def wkP : PV → PV
  | .nsl rows => .sl (wkR rows)
  | .sl rows => .sl (wkR rows)
  | .agg cs => .agg (wkL cs)
  | .tup cs => .tup (wkL cs)
  | .ifc t p => .ifc t (wkP p)
  | .hp r => .hp (wkL r)
  | .clo f cs => .clo f (wkL cs)
  | .bfn f cs => .bfn f (wkL cs)
  | .ifo n t p => .ifo n t (wkP p)
  | .bool b => .bool b
  | .int k n => .int k n
  | .str l => .str l
  | .nilsl => .nilsl
  | .nilp => .nilp
  | .fn f => .fn f
  | .nilfn => .nilfn
  | .nili => .nili
  | .nilmap => .nilmap
def wkL : List PV → List PV
  | [] => []
  | c :: cs => wkP c :: wkL cs
def wkR : List (List PV) → List (List PV)
  | [] => []
  | r :: rs => wkL r :: wkR rs
end
mutual
/-- New, all of it. -/
def nwP : PV → Prop
  | .bool _ => True
  | .int _ _ => True
  | .str _ => True
  | .nilsl => True
  | .agg cs => nwL cs
  | .nsl rows => nwR rows
  | _ => False
def nwL : List PV → Prop
  | [] => True
  | c :: cs => nwP c ∧ nwL cs
def nwR : List (List PV) → Prop
  | [] => True
  | r :: rs => nwL r ∧ nwR rs
end
theorem wkL_length : ∀ l : List PV, (wkL l).length = l.length
  | [] => rfl
  | c :: cs => by simp only [wkL, List.length_cons, wkL_length cs]
theorem wkR_length : ∀ l : List (List PV), (wkR l).length = l.length
  | [] => rfl
  | c :: cs => by simp only [wkR, List.length_cons, wkR_length cs]
/-- The part of a heap in the blocks from lo on, ahead of hi. -/
def part (lo hi : Nat) (H : (PH Lw)) : PH 0 := fun b o => if lo ≤ b ∧ b < hi then H b o else none
section
variable {H : (PH Lw)} {hi : Nat} (hh : ∀ b o v, H b o = some v → b < hi)
include hh
theorem part_some {b o : Nat} {v : Value} (h : H b o = some v) (hb : Lw ≤ b) : part Lw hi H b o = some v := by
  unfold part
  rw [if_pos ⟨hb, hh _ _ _ h⟩]
  exact h
mutual
theorem new_part : ∀ {p : PV} {v : Value}, nwP p → RepP H p v → RepP (part Lw hi H) (wkP p) v
  | .bool _, _, _, r => by simp only [RepP, wkP] at *; exact r
  | .int _ _, _, _, r => by simp only [RepP, wkP] at *; exact r
  | .str _, _, _, r => by simp only [RepP, wkP] at *; exact r
  | .nilsl, _, _, r => by simp only [RepP, wkP] at *; exact r
  | .agg cs, _, h, r => by
    simp only [nwP] at h
    simp only [RepP, wkP] at *
    obtain ⟨vs, e, rr⟩ := r
    exact ⟨vs, e, new_partL h rr⟩
  | .nsl rows, _, h, r => by
    simp only [nwP] at h
    simp only [RepP, wkP] at *
    rcases r with ⟨rfl, r⟩ | ⟨b, o, z, cap, e, l, hb, rr⟩
    · exact .inl ⟨rfl, r⟩
    · exact .inr ⟨b, o, z, cap, by rw [wkR_length]; exact e, by rw [wkR_length]; exact l, new_partR hb.1 h rr⟩
  | .tup _, _, h, _ => by simp [nwP] at h
  | .sl _, _, h, _ => by simp [nwP] at h
  | .nilp, _, h, _ => by simp [nwP] at h
  | .fn _, _, h, _ => by simp [nwP] at h
  | .nilfn, _, h, _ => by simp [nwP] at h
  | .nili, _, h, _ => by simp [nwP] at h
  | .ifc _ _, _, h, _ => by simp [nwP] at h
  | .nilmap, _, h, _ => by simp [nwP] at h
  | .hp _, _, h, _ => by simp [nwP] at h
  | .clo _ _, _, h, _ => by simp [nwP] at h
  | .bfn _ _, _, h, _ => by simp [nwP] at h
  | .ifo _ _ _, _, h, _ => by simp [nwP] at h
theorem new_partL : ∀ {cs : List PV} {vs : List Value}, nwL cs → RepL H cs vs → RepL (part Lw hi H) (wkL cs) vs
  | [], _, _, r => by simp only [RepL, wkL] at *; exact r
  | c :: cs, _, h, r => by
    simp only [nwL] at h
    simp only [RepL, wkL] at *
    obtain ⟨v, vs, e, r1, r2⟩ := r
    exact ⟨v, vs, e, new_part h.1 r1, new_partL h.2 r2⟩
theorem new_partR {b z : Nat} (hb : Lw ≤ b) : ∀ {o : Nat} {rows : List (List PV)}, nwR rows → RepR H b z o rows → RepR (part Lw hi H) b z o (wkR rows)
  | _, [], _, _ => by simp only [RepR, wkR]
  | o, r :: rs, h, x => by
    simp only [nwR] at h
    simp only [RepR, wkR] at *
    obtain ⟨hz, ⟨vs, q, c⟩, x⟩ := x
    exact ⟨by rw [wkL_length]; exact hz, ⟨vs, new_partL h.1 q, fun j v hv => part_some hh (c j v hv) hb⟩, new_partR hb h.2 x⟩
end
end
mutual
/-- Told without 'new' it is so for any number. -/
theorem RepP.base {L' : Nat} {H : (PH Lw)} {H' : PH L'} (h : ∀ b o v, H b o = some v → H' b o = some v) : ∀ {p : PV} {v : Value}, RepP H p v → RepP H' (wkP p) v
  | .bool _, _, x | .int .., _, x | .str _, _, x | .nilsl, _, x | .nilp, _, x | .fn _, _, x | .nilfn, _, x | .nili, _, x | .nilmap, _, x => by
    simp only [RepP, wkP] at *; exact x
  | .agg cs, v, x => by
    simp only [RepP, wkP] at *
    obtain ⟨vs, e, r⟩ := x
    exact ⟨vs, e, RepL.base h r⟩
  | .tup cs, v, x => by
    simp only [RepP, wkP] at *
    obtain ⟨vs, e, r⟩ := x
    exact ⟨vs, e, RepL.base h r⟩
  | .nsl rows, v, x => by
    simp only [RepP, wkP] at *
    rcases x with ⟨rfl, x⟩ | ⟨b, o, z, cap, e, l, _, r⟩
    · exact .inl ⟨rfl, x⟩
    · exact .inr ⟨b, o, z, cap, by rw [wkR_length]; exact e, by rw [wkR_length]; exact l, RepR.base h r⟩
  | .sl rows, v, x => by
    simp only [RepP, wkP] at *
    rcases x with ⟨rfl, x⟩ | ⟨b, o, z, cap, e, l, r⟩
    · exact .inl ⟨rfl, x⟩
    · exact .inr ⟨b, o, z, cap, by rw [wkR_length]; exact e, by rw [wkR_length]; exact l, RepR.base h r⟩
  | .ifc t p, v, x => by
    simp only [RepP, wkP] at *
    obtain ⟨u, e, r⟩ := x
    exact ⟨u, e, RepP.base h r⟩
  | .hp row, v, x => by
    simp only [RepP, wkP] at *
    obtain ⟨b, o, vs, e, r, c⟩ := x
    exact ⟨b, o, vs, e, RepL.base h r, fun j u hu => h _ _ _ (c j u hu)⟩
  | .clo f cs, v, x => by
    simp only [RepP, wkP] at *
    obtain ⟨vs, e, r⟩ := x
    exact ⟨vs, e, RepL.base h r⟩
  | .bfn f cs, v, x => by
    simp only [RepP, wkP] at *
    obtain ⟨vs, e, r⟩ := x
    exact ⟨vs, e, RepL.base h r⟩
  | .ifo n t p, v, x => by
    simp only [RepP, wkP] at *
    rcases x with x | ⟨e, u, e', r⟩
    · exact .inl x
    · exact .inr ⟨e, u, e', RepP.base h r⟩
theorem RepL.base {L' : Nat} {H : (PH Lw)} {H' : PH L'} (h : ∀ b o v, H b o = some v → H' b o = some v) : ∀ {cs : List PV} {vs : List Value}, RepL H cs vs → RepL H' (wkL cs) vs
  | [], _, x => by simp only [RepL, wkL] at *; exact x
  | c :: cs, vs, x => by
    simp only [RepL, wkL] at *
    obtain ⟨v, vs', e, r, rs⟩ := x
    exact ⟨v, vs', e, RepP.base h r, RepL.base h rs⟩
theorem RepR.base {L' : Nat} {H : (PH Lw)} {H' : PH L'} (h : ∀ b o v, H b o = some v → H' b o = some v) {b z : Nat} : ∀ {o : Nat} {rows : List (List PV)}, RepR H b z o rows → RepR H' b z o (wkR rows)
  | _, [], _ => by simp only [RepR, wkR]
  | o, r :: rs, x => by
    simp only [RepR, wkR] at *
    obtain ⟨e, ⟨vs, q, c⟩, x'⟩ := x
    exact ⟨by rw [wkL_length]; exact e, ⟨vs, RepL.base h q, fun j v hv => h _ _ _ (c j v hv)⟩, RepR.base h x'⟩
end
end Ax
end
section
namespace Ax
open Go
mutual
def Val.cellsN : Val → List PV
  | .mk k b i s l ks => [.int .i64 k, .bool b, .int .i64 i, .str s, .nsl (Val.rowsN l), .nsl (strs ks)]
def Val.rowsN : List Val → List (List PV)
  | [] => []
  | v :: l => v.cellsN :: Val.rowsN l
end
theorem rowsN_eq : ∀ l : List Val, Val.rowsN l = l.map Val.cellsN
  | [] => rfl
  | v :: l => by simp only [Val.rowsN, List.map_cons]; rw [rowsN_eq l]
theorem cellsN_length (v : Val) : v.cellsN.length = 6 := by cases v; rfl
def valNC : Codec Val := { cells := Val.cellsN, rows := Val.rowsN, z := 6, hrows := fun l => rowsN_eq l, hz := cellsN_length, hone := fun v => by cases v; rfl }
theorem wk_strs : ∀ l : List (List UInt8), wkR (strs l) = strs l
  | [] => rfl
  | s :: l => by
    show wkR ([.str s] :: strs l) = [.str s] :: strs l
    simp only [wkR, wkL, wkP, wk_strs l]
theorem nw_strs : ∀ l : List (List UInt8), nwR (strs l)
  | [] => trivial
  | s :: l => by
    show nwR ([.str s] :: strs l)
    simp only [nwR, nwL, nwP, nw_strs l, and_self]
mutual
theorem wk_cells : ∀ v : Val, wkL v.cellsN = v.cells
  | .mk k b i s l ks => by simp only [Val.cellsN, Val.cells, wkL, wkP, wk_rows l, wk_strs]
theorem wk_rows : ∀ l : List Val, wkR (Val.rowsN l) = Val.rows l
  | [] => rfl
  | v :: l => by simp only [Val.rowsN, Val.rows, wkR, wk_cells v, wk_rows l]
end
mutual
theorem wk_same : ∀ v : Val, wkL v.cells = v.cells
  | .mk k b i s l ks => by simp only [Val.cells, wkL, wkP, wk_sameR l, wk_strs]
theorem wk_sameR : ∀ l : List Val, wkR (Val.rows l) = Val.rows l
  | [] => rfl
  | v :: l => by simp only [Val.rows, wkR, wk_same v, wk_sameR l]
end
mutual
theorem nw_cells : ∀ v : Val, nwL v.cellsN
  | .mk k b i s l ks => by simp only [Val.cellsN, nwL, nwP, nw_rows l, nw_strs, and_self]
theorem nw_rows : ∀ l : List Val, nwR (Val.rowsN l)
  | [] => trivial
  | v :: l => by simp only [Val.rowsN, nwR, nw_cells v, nw_rows l, and_self]
end
/-- A cell that was spoilt is of its kind. -/
def Kin : Value → Value → Prop
  | .int k _, u => ∃ n, u = .int k n
  | .bool _, u => ∃ b, u = .bool b
  | .string _, u => ∃ s, u = .string s
  | .slice p n c, u => u = .slice p n c ∨ u = .slice none 0 0
  | v, u => u = v
theorem Kin.refl (v : Value) : Kin v v := by
  cases v <;> first | exact ⟨_, rfl⟩ | exact .inl rfl | rfl
theorem Kin.trans {a b c : Value} (h : Kin a b) (k : Kin b c) : Kin a c := by
  cases a <;> simp only [Kin] at h
  case int => obtain ⟨n, rfl⟩ := h; exact k
  case bool => obtain ⟨n, rfl⟩ := h; exact k
  case string => obtain ⟨n, rfl⟩ := h; exact k
  case slice =>
    rcases h with rfl | rfl
    · exact k
    · simp only [Kin, or_self] at k
      exact .inr k
  all_goals subst h; exact k
/-- What a heap told, spoilt or not. -/
def Rel (H : PH 0) (w : World) : Prop := ∀ b o u, H b o = some u → ∃ u', w.cell? ⟨b, o, none⟩ = some u' ∧ Kin u u'
theorem Rel.of {H : PH 0} {w : World} (h : ∀ b o u, H b o = some u → w.cell? ⟨b, o, none⟩ = some u) : Rel H w := fun b o u hu => ⟨u, h b o u hu, Kin.refl u⟩
/-- A value whose cells are of the kinds that a heap tells. -/
def KinL (vs us : List Value) : Prop := vs.length = us.length ∧ ∀ (j : Nat) (v u : Value), vs[j]? = some v → us[j]? = some u → Kin v u
end Ax
end
section
namespace Ax
open Go
def mixR (i : Nat) (l : List Val) : List (List PV) := Val.rowsN (l.take i) ++ Val.rows (l.drop i)
theorem rowsN_length (l : List Val) : (Val.rowsN l).length = l.length := by rw [rowsN_eq]; simp
theorem rows_length (l : List Val) : (Val.rows l).length = l.length := by rw [rows_eq]; simp [vals]
theorem mix_zero (l : List Val) : mixR 0 l = Val.rows l := by simp [mixR, Val.rowsN]
theorem mix_length (i : Nat) (l : List Val) : (mixR i l).length = l.length := by
  unfold mixR
  rw [List.length_append, rowsN_length, rows_length, List.length_take, List.length_drop]
  omega
theorem mix_wide {i : Nat} {l : List Val} : ∀ r ∈ mixR i l, r.length = 6 := by
  intro r hr
  unfold mixR at hr
  rw [rowsN_eq, rows_eq] at hr
  rcases List.mem_append.1 hr with h | h
  · obtain ⟨v, _, rfl⟩ := List.mem_map.1 h
    exact cellsN_length v
  · exact vals_wide _ r h
theorem mix_get {i : Nat} {l : List Val} {v : Val} (h : l[i]? = some v) : (mixR i l)[i]? = some v.cells := by
  have hi := (List.getElem?_eq_some_iff.1 h).1
  unfold mixR
  rw [List.getElem?_append_right (by rw [rowsN_length, List.length_take]; omega), rowsN_length, List.length_take, rows_eq]
  have e : i - min i l.length = 0 := by omega
  rw [e]
  simp [vals, List.getElem?_drop, h]
theorem mix_set {i : Nat} {l : List Val} (hi : i < l.length) (v : Val) : (mixR i l).set i v.cellsN = mixR (i + 1) (l.set i v) := by
  unfold mixR
  have e1 : (l.set i v).take (i + 1) = l.take i ++ [v] := by
    rw [List.take_set]
    refine List.ext_getElem? fun k => ?_
    rw [List.getElem?_set, List.getElem?_append]
    by_cases h : i = k
    · subst h
      rw [if_pos rfl, if_pos (by rw [List.length_take]; omega), if_neg (by rw [List.length_take]; omega), List.length_take]
      have : i - min i l.length = 0 := by omega
      rw [this]
      rfl
    · rw [if_neg h]
      by_cases hk : k < i
      · rw [if_pos (by rw [List.length_take]; omega), List.getElem?_take_of_lt (by omega), List.getElem?_take_of_lt hk]
      · rw [if_neg (by rw [List.length_take]; omega), List.getElem?_eq_none (by rw [List.length_take]; omega), List.getElem?_eq_none (by rw [List.length_take, List.length_singleton]; omega)]
  have e2 : (l.set i v).drop (i + 1) = l.drop (i + 1) := by rw [List.drop_set_of_lt (by omega)]
  rw [e1, e2, List.set_append_right _ _ (by rw [rowsN_length, List.length_take]; omega), rowsN_length, List.length_take]
  have e3 : i - min i l.length = 0 := by omega
  rw [e3, List.drop_eq_getElem_cons hi]
  simp only [Val.rows, List.set_cons_zero, rowsN_eq, List.map_append, List.map_cons, List.map_nil, List.append_assoc, List.singleton_append]
theorem mix_end {i : Nat} {l : List Val} (h : l.length ≤ i) : mixR i l = Val.rowsN l := by
  unfold mixR
  rw [List.take_of_length_le h, List.drop_eq_nil_of_le h]
  simp [Val.rows]
end Ax
end
section
open Go
namespace Ax
theorem wk {nb : Nat} {E : Env} {lo : List AObj} {E' : Env} {lo' : List AObj} (l fresh : List Nat) (h : weakD nb l fresh lo' = true ∧ l.length = lo'.length ∧ namesE lo'.length E' = true ∧ namesO lo'.length lo' = true := by exact ⟨rfl, rfl, rfl, rfl⟩)
    (h1 : leAll E (πOf l) fresh E' := by repeat (first | exact trivial | exact .inl rfl | exact rfl | exact List.not_mem_nil | (refine .inr ?_) | (refine ⟨?_, ?_⟩) | exact List.length_set.symm | decide))
    (h2 : leObs lo (πOf l) fresh 0 lo' := by repeat (first | exact trivial | exact .inl rfl | exact rfl | exact List.not_mem_nil | (refine .inr ?_) | (refine ⟨?_, ?_⟩) | exact List.length_set.symm | decide)) : WeakK nb E lo E' lo' := ⟨l, fresh, h, h1, h2⟩
theorem cuse {P : Program} {f : FuncId} {args : List FV} {objs : List AObj} {m : Nat} {R : FV → List AObj → Prop} (h : CallsO P f args objs m R) (l fresh : List Nat) {args' : List FV} {lo : List AObj} {K : FV → List AObj → Prop}
    (hK : ∀ r0 objs', R r0 objs' → ∃ r lo2, r0.ren (σOf l m lo.length) = r ∧ mergeO l fresh m lo objs' = lo2 ∧ K r lo2)
    (hw : weakB 0 l fresh = true ∧ l.length = objs.length ∧ namesC objs.length args = true ∧ namesO objs.length objs = true ∧ Nat.ble m objs.length = true ∧ (List.range m).all (fun i => !fresh.contains i) = true := by exact ⟨rfl, rfl, rfl, rfl, rfl, rfl⟩)
    (ha : leArgs (πOf l) fresh args' args := by repeat (first | exact trivial | exact .inl rfl | exact rfl | exact List.not_mem_nil | (refine .inr ?_) | (refine ⟨?_, ?_⟩) | exact List.length_set.symm | decide))
    (ho : leObs lo (πOf l) fresh 0 objs := by repeat (first | exact trivial | exact .inl rfl | exact rfl | exact List.not_mem_nil | (refine .inr ?_) | (refine ⟨?_, ?_⟩) | exact List.length_set.symm | decide)) : CallsI P f args' lo K := CallsO.use h l fresh hw ha ho hK
theorem fin {P : Prop} (h : P := by repeat (first | exact rfl | exact trivial | refine ⟨?_, ?_⟩)) : P := h
theorem ifc {R : Type} {c : Bool} {a b : Option R} {r : R} {P Q : Prop} (h : (bif c then a else b) = some r) (f : c = true → a = some r → P) (g : c = false → b = some r → Q) : (c = true → P) ∧ (c = false → Q) :=
  ⟨fun hc => f hc (cond_t h hc), fun hc => g hc (cond_f h hc)⟩
theorem sj {A : Type} {a b : A} (h : some a = some b) : a = b := Option.some.inj h
theorem bq {A R : Type} {o : Option A} {k : A → Option R} {r : R} {G : Prop} (h : bnd o k = some r) (f : ∀ x, o = some x → k x = some r → G) : G := by
  obtain ⟨x, h1, h2⟩ := bnd_some h
  exact f x h1 h2
end Ax
end
section
open Go Go.Proofs Ax
namespace Ax
/-- A loop with something that holds ahead of each round. -/
theorem LoopA.fnI {P : Program} (inl : List Nat) {N nb : Nat} {body : Code} {K : KA} {E : Env} {lo : List AObj} {S R : Type} (I : S → Prop) (fr : S → Env) (ob : S → List AObj) {B : (S → Option R) → S → Option R} {n : Nat} {s0 : S} {r : R}
    (h : loopK B n s0 = some r) (h0 : I s0) (hw : WeakK nb E lo (fr s0) (ob s0))
    (round : ∀ (next : S → Option R) (s : S), I s → B next s = some r → vc P inl N nb body (fun x E' lo' => match x with
      | .normal => ∃ s', (I s' ∧ next s' = some r) ∧ WeakK nb E' lo' (fr s') (ob s')
      | .exit i => K (.exit i) E' lo'
      | .ret => K .ret E' lo') (fr s) (ob s)) : LoopA P inl N nb body K E lo := by
  intro hm hd Lw bs ρ H a w hb sat
  subst hb
  obtain ⟨ρ', sat'⟩ := hw.sat sat
  refine wp_loop_ghost (I := fun n a w => ∃ s ρ H, (I s ∧ loopK B n s = some r) ∧ Sat bs N ρ H (lookD (fr s)) (ob s) a w) n ⟨s0, ρ', H, ⟨h0, h⟩, sat'⟩ fun n a w ⟨s, ρ, H, ⟨hI, hs⟩, sat⟩ => ?_
  cases n with
  | zero => cases hs
  | succ n =>
    refine wp_mono (vc_sound hm body _ _ _ hd (round (loopK B n) s hI hs) bs ρ H a w rfl sat) fun e a w p => ?_
    obtain ⟨x, ρ2, H2, E2, lo2, hx, sat2, k⟩ := p
    cases x <;> cases e <;> simp only [AXis] at hx
    · obtain ⟨s', hok', hwk⟩ := k
      obtain ⟨ρ3, sat3⟩ := hwk.sat sat2
      exact ⟨n, Nat.lt_succ_self _, s', ρ3, H2, hok', sat3⟩
    · exact ⟨.exit _, ρ2, H2, E2, lo2, hx, sat2, k⟩
    · exact ⟨.ret, ρ2, H2, E2, lo2, trivial, sat2, k⟩
def nsRows (l : List (List Val)) : List (List PV) := l.map fun x => [PV.nsl (Val.rowsN x)]
def nsC : Codec (List Val) := { cells := fun x => [.nsl (Val.rowsN x)], rows := nsRows, z := 1, hrows := fun _ => rfl, hz := fun _ => rfl, hone := fun _ => rfl }
theorem wrap_succ {x : Nat} (h : x < 140737488355328) : IntKind.i64.wrap ((x : Int) + 1) = ((x + 1 : Nat) : Int) := by
  rw [wrap_ok _ (by omega) (by omega)]; omega
end Ax
namespace W
set_option maxRecDepth 100000 in
theorem BF_value_Copy_new (n : Nat) (g54 : Val → Option (Val)) (g54_ok : ∀ (a0_ : Val) (r : Val), g54 a0_ = some r → CallsF Tryd.prog 54 [PV.agg (valC.cells a0_)] (PV.agg r.cellsN)) : ∀ (a0_ : Val) (r : Val), BF_value_Copy n g54 a0_ = some r → CallsF Tryd.prog 54 [PV.agg (valC.cells a0_)] (PV.agg r.cellsN) := by
  intro a0_ r h
  obtain ⟨x1, x2, x3, x4, x5, x6⟩ := a0_
  unfold BF_value_Copy at h
  refine CallsF.of_vcNew mixed (fun _ _ => Tryd.call54 _ _) Tryd.func54 (by kernel_rfl) (inl := [65, 10000008, 1000000]) ?_
  conv => whnf
  replace h := bnd_some h
  obtain ⟨x7, h11, h⟩ := h
  have hj := natI_some h11
  conv => whnf
  obtain ⟨h10, h⟩ := chk_some h
  refine ⟨x7, Val.rows (List.replicate x7 (Val.mk (0 : Int) false (0 : Int) ([] : List UInt8) ([] : List Val) ([] : List (List UInt8)))), ⟨hj, hj, of_decide_eq_true h10, len_ok h10 (by decide), Codec.madeN valC (Val.mk (0 : Int) false (0 : Int) ([] : List UInt8) ([] : List Val) ([] : List (List UInt8))) x7 (by repeat (first | exact rfl | exact trivial | refine ⟨?_, ?_⟩)), rfl, by decide, rfl⟩, ?_⟩
  conv => whnf
  obtain ⟨h9, h⟩ := chk_some h
  have hlen : x5.length = (Val.rows (List.replicate x7 (Val.mk (0 : Int) false (0 : Int) ([] : List UInt8) ([] : List Val) ([] : List (List UInt8))))).length := by rw [← rows_length]; exact of_decide_eq_true h9
  have hbig : x5.length < 140737488355328 := by have h1 := of_decide_eq_true h10; rw [rows_length] at hj; omega
  refine ⟨⟨rfl, of_decide_eq_true h9, Codec.wide valC x5⟩, ?_⟩
  conv => whnf
  refine LoopA.fnI [65, 10000008, 1000000] (S := Int × List Val) (fun s => 0 ≤ s.1 ∧ s.2.length = x5.length) (fun (x8, x9) => [(1, .ptr 0 0), (2, .ptr 1 0), (3, .vsl 2 ((Val.rows (List.replicate x7 (Val.mk (0 : Int) false (0 : Int) ([] : List UInt8) ([] : List Val) ([] : List (List UInt8))))).length)), (14, .p (.int .i64 ((((Val.rows (List.replicate x7 (Val.mk (0 : Int) false (0 : Int) ([] : List UInt8) ([] : List Val) ([] : List (List UInt8))))).length) : Nat) : Int))), (15, .p (.int .i64 x8))]) (fun (x8, x9) => [.box 40 [.p (.int .i64 x1), .p (.bool x2), .p (.int .i64 x3), .p (.str x4), .p (.sl (Val.rows x5)), .p (.sl (strs x6))], .box 40 [.p (.int .i64 (0 : Int)), .p (.bool false), .p (.int .i64 (0 : Int)), .p (.str ([] : List UInt8)), .p (.nilsl), .p (.nilsl)], .vec 40 6 (mixR x8.toNat x9)]) (B := F_value_Copy_l1 n x7 g54 x6 x1 x2 x3 x4) h ⟨Int.le_refl _, rfl⟩ ⟨[0, 1, 2], [], ⟨rfl, rfl, rfl, rfl⟩, by repeat (first | exact trivial | exact .inl rfl | exact rfl | exact List.not_mem_nil | (refine .inr ?_) | (refine ⟨?_, ?_⟩) | exact List.length_set.symm | decide), by repeat (first | exact trivial | exact .inl rfl | exact rfl | exact List.not_mem_nil | (refine .inr ?_) | (refine ⟨?_, ?_⟩) | exact List.length_set.symm | exact mix_zero x5 | decide)⟩ ?_
  intro nx1 st hI h
  obtain ⟨x8, x9⟩ := st
  have hI1 : 0 ≤ x8 := hI.1
  have hI2 : x9.length = x5.length := hI.2
  unfold F_value_Copy_l1 at h
  conv => whnf
  refine ⟨fun hc => ?_, fun hc => ?_⟩
  · replace h := cond_t h hc
    conv => whnf
    replace h := bnd_some h
    obtain ⟨x10, h7, h⟩ := h
    have hj := natI_some h7
    subst hj
    conv => whnf
    obtain ⟨h6, h⟩ := chk_some h
    refine ⟨x10, ⟨rfl, of_decide_eq_true h6⟩, ?_⟩
    conv => whnf
    replace h := bnd_some h
    obtain ⟨⟨x11, x12, x13, x14, x15, x16⟩, h5, h⟩ := h
    refine ⟨_, ⟨rfl, mix_get h5⟩, ?_⟩
    conv => whnf
    replace h := bnd_some h
    obtain ⟨⟨x17, x18, x19, x20, x21, x22⟩, h4, h⟩ := h
    refine ⟨_, (g54_ok _  _ h4), ?_⟩
    conv => whnf
    replace h := bnd_some h
    obtain ⟨x23, h3, h⟩ := h
    obtain rfl : x10 = x23 := by have := natI_some h3; omega
    conv => whnf
    obtain ⟨h2, h⟩ := chk_some h
    refine ⟨x10, ⟨rfl, of_decide_eq_true h2⟩, ?_⟩
    conv => whnf
    replace h := bnd_some h
    obtain ⟨⟨x24, x25, x26, x27, x28, x29⟩, h1, h⟩ := h
    refine ⟨_, ⟨rfl, mix_get h1, rfl⟩, ?_⟩
    conv => whnf
    have hx10 : x10 < x9.length := (List.getElem?_eq_some_iff.1 h1).1
    refine ⟨_, mix_set hx10 (Val.mk x17 x18 x19 x20 x21 x22), ?_⟩
    conv => whnf
    have hw : IntKind.i64.wrap ((x10 : Int) + 1) = ((x10 + 1 : Nat) : Int) := wrap_succ (by omega)
    exact ⟨((IntKind.i64.wrap ((x10 : Int) + (1 : Int))), (x9.set x10 (Val.mk x17 x18 x19 x20 x21 x22))), ⟨⟨by rw [hw]; exact Int.natCast_nonneg _, by rw [List.length_set]; exact hI2⟩, h⟩, ⟨[0, 1, 2], [], ⟨rfl, rfl, rfl, rfl⟩, by repeat (first | exact trivial | exact .inl rfl | exact rfl | exact List.not_mem_nil | (refine .inr ?_) | (refine ⟨?_, ?_⟩) | exact List.length_set.symm | decide), by repeat (first | exact trivial | exact .inl rfl | exact rfl | exact List.not_mem_nil | (refine .inr ?_) | (refine ⟨?_, ?_⟩) | exact List.length_set.symm | exact congrArg (fun k => mixR k _) (by rw [hw]; rfl) | decide)⟩⟩
  · replace h := cond_f h hc
    conv => whnf
    obtain ⟨h8, h⟩ := chk_some h
    have hge : x9.length ≤ x8.toNat := by
      have h1 := of_decide_eq_false hc
      rw [← hlen] at h1
      omega
    have hend := mix_end hge
    refine CallsO.use (Clone_ok x6 (of_decide_eq_true h8)) [] [] ⟨rfl, rfl, rfl, rfl, rfl, rfl⟩ (by repeat (first | exact trivial | exact .inl rfl | exact rfl | exact List.not_mem_nil | (refine .inr ?_) | (refine ⟨?_, ?_⟩) | exact List.length_set.symm | decide)) (by repeat (first | exact trivial | exact .inl rfl | exact rfl | exact List.not_mem_nil | (refine .inr ?_) | (refine ⟨?_, ?_⟩) | exact List.length_set.symm | decide)) ?_
    rintro _ _ ⟨rfl, rfl⟩
    refine ⟨.tsl 3 (strs x6), [.box 40 [.p (.int .i64 x1), .p (.bool x2), .p (.int .i64 x3), .p (.str x4), .vsl 2 ((Val.rows (List.replicate x7 (Val.mk (0 : Int) false (0 : Int) ([] : List UInt8) ([] : List Val) ([] : List (List UInt8))))).length), .p (.sl (strs x6))], .box 40 [.p (.int .i64 (0 : Int)), .p (.bool false), .p (.int .i64 (0 : Int)), .p (.str ([] : List UInt8)), .p (.nilsl), .p (.nilsl)], .vec 40 6 (mixR x8.toNat x9), .tail 9 1 (strs x6).length], rfl, rfl, ?_⟩
    obtain rfl := Option.some.inj h
    conv => whnf
    rw [hend]
    repeat (first | exact rfl | exact trivial | refine ⟨?_, ?_⟩)

set_option maxRecDepth 100000 in
theorem F_value_Copy_new (n : Nat) : ∀ (v r : Val), F_value_Copy n v = some r → CallsF Tryd.prog 54 [PV.agg (valC.cells v)] (PV.agg r.cellsN) := by
  induction n with
  | zero => intro v r h; cases h
  | succ n ih => exact BF_value_Copy_new n (F_value_Copy n) ih

set_option maxRecDepth 100000 in
theorem F_rows_copied_new (n : Nat)   : ∀ (x1 : List Val) (r : List Val), F_rows_copied n x1 = some r → CallsF Tryd.prog 32 [PV.sl (Val.rows x1)] (PV.nsl (Val.rowsN r)) := by
  intro x1 r h
  unfold F_rows_copied at h
  refine CallsF.of_vcNew mixed (fun _ _ => Tryd.call32 _ _) Tryd.func32 (by kernel_rfl) (inl := [1000000]) ?_
  conv => whnf
  replace h := bnd_some h
  obtain ⟨x2, h5, h⟩ := h
  have hj := natI_some h5
  conv => whnf
  obtain ⟨h4, h⟩ := chk_some h
  refine ⟨x2, ⟨rfl, hj, of_decide_eq_true h4, len_ok h4 (by decide)⟩, ?_⟩
  conv => whnf
  refine LoopA.fn [1000000] (S := List Val × Int) (fun (x3, x4) => [(3, .tsl 0 (Val.rowsN x3)), (9, .p (.sl (Val.rows x1))), (10, .p (.int .i64 (((Val.rows x1).length : Nat) : Int))), (11, .p (.int .i64 x4))]) (fun (x3, x4) => [.tail 40 6 (Val.rowsN x3).length]) (B := F_rows_copied_l1 n x1) h ⟨[0], [], ⟨rfl, rfl, rfl, rfl⟩, by repeat (first | exact trivial | exact .inl rfl | exact rfl | exact List.not_mem_nil | (refine .inr ?_) | (refine ⟨?_, ?_⟩) | exact List.length_set.symm | decide), by repeat (first | exact trivial | exact .inl rfl | exact rfl | exact List.not_mem_nil | (refine .inr ?_) | (refine ⟨?_, ?_⟩) | exact List.length_set.symm | decide)⟩ ?_
  intro nx1 st h
  obtain ⟨x3, x4⟩ := st
  unfold F_rows_copied_l1 at h
  conv => whnf
  refine ⟨fun hc => ?_, fun hc => ?_⟩
  · replace h := cond_t h hc
    conv => whnf
    replace h := bnd_some h
    obtain ⟨⟨x5, x6, x7, x8, x9, x10⟩, h3, h⟩ := h
    refine ⟨_, Codec.at_ valC h3, ?_⟩
    conv => whnf
    replace h := bnd_some h
    obtain ⟨⟨x11, x12, x13, x14, x15, x16⟩, h2, h⟩ := h
    refine ⟨_, (F_value_Copy_new n _  _ h2), ?_⟩
    conv => whnf
    refine ⟨Codec.one valNC [Val.mk x11 x12 x13 x14 x15 x16], Val.rowsN [Val.mk x11 x12 x13 x14 x15 x16], .inl rfl, ?_⟩
    conv => whnf
    rw [show Val.rowsN x3 ++ Val.rowsN [Val.mk x11 x12 x13 x14 x15 x16] = Val.rowsN (x3 ++ [Val.mk x11 x12 x13 x14 x15 x16]) from Codec.append valNC x3 [Val.mk x11 x12 x13 x14 x15 x16]]
    conv => whnf
    obtain ⟨h1, h⟩ := chk_some h
    have hz : (Val.rowsN (x3 ++ [Val.mk x11 x12 x13 x14 x15 x16])).length * 88 ≤ 140737488355328 := by rw [rowsN_length, ← rows_length]; exact of_decide_eq_true h1
    refine ⟨⟨Codec.wide valNC (x3 ++ [Val.mk x11 x12 x13 x14 x15 x16]), hz, by omega⟩, ?_⟩
    conv => whnf
    refine ⟨⟨rfl, rfl, rfl⟩, ?_⟩
    conv => whnf
    exact ⟨((x3 ++ [Val.mk x11 x12 x13 x14 x15 x16]), (IntKind.i64.wrap (x4 + (1 : Int)))), h, ⟨[2], [], ⟨rfl, rfl, rfl, rfl⟩, by repeat (first | exact trivial | exact .inl rfl | exact rfl | exact List.not_mem_nil | (refine .inr ?_) | (refine ⟨?_, ?_⟩) | exact List.length_set.symm | decide), by repeat (first | exact trivial | exact .inl rfl | exact rfl | exact List.not_mem_nil | (refine .inr ?_) | (refine ⟨?_, ?_⟩) | exact List.length_set.symm | decide)⟩⟩
  · replace h := cond_f h hc
    obtain rfl := Option.some.inj h
    conv => whnf
    repeat (first | exact rfl | exact trivial | refine ⟨?_, ?_⟩)

set_option maxRecDepth 100000 in
theorem F_rows_Unique_c1_new (n : Nat)   : ∀ (x1 : List Val) (r : List Val), F_rows_Unique_c1 n x1 = some r → CallsF Tryd.prog 31 [PV.hp [PV.sl (Val.rows x1)]] (PV.nsl (Val.rowsN r)) := by
  intro x1 r h
  unfold F_rows_Unique_c1 at h
  refine CallsF.of_vcN mixed (fun _ _ => Tryd.call31 _ _) Tryd.func31 (by kernel_rfl) (inl := [1000000]) ?_
  conv => whnf
  replace h := bnd_some h
  obtain ⟨x2, h1, h⟩ := h
  refine ⟨_, (F_rows_copied_new n _  _ h1), ?_⟩
  obtain rfl := Option.some.inj h
  conv => whnf
  repeat (first | exact rfl | exact trivial | refine ⟨?_, ?_⟩)

set_option maxHeartbeats 4000000 in
set_option maxRecDepth 100000 in
theorem F_rows_Unique_new (n : Nat)   : ∀ (x1 : List (List Val)) (r : List (List Val)), F_rows_Unique n x1 = some r → CallsF Tryd.prog 12 [PV.sl (slRows valC x1)] (PV.nsl (nsRows r)) := by
  intro x1 r h
  unfold F_rows_Unique at h
  refine CallsF.of_vcNew mixed (fun _ _ => Tryd.call12 _ _) Tryd.func12 (by kernel_rfl) (inl := [28, 29, 33, 1000000]) ?_
  conv => whnf
  refine CallsI.of_vc mixed (fun _ _ => Tryd.call28 _ _) Tryd.func28 (by kernel_rfl) (inl := [1000000]) ?_
  conv => whnf
  refine LoopA.fn [28, 29, 33, 1000000] (S := Int × List (List Val) × List ((List UInt8) × Int)) (fun (x2, x3, x4) => [(3, .ptr 0 0), (7, .p (.sl (slRows valC x1))), (8, .p (.int .i64 (((slRows valC x1).length : Nat) : Int))), (9, .p (.int .i64 x2))]) (fun (x2, x3, x4) => [.box 87 [.mref 1, .tsl 2 (nsRows x3)], .mp .string (mRows PV.str (PV.int .i64) x4) none, .tail 37 1 (nsRows x3).length]) (B := F_rows_Unique_l1 n x1) h ⟨[1, 0, 0], [2], ⟨rfl, rfl, rfl, rfl⟩, by repeat (first | exact trivial | exact .inl rfl | exact rfl | exact List.not_mem_nil | (refine .inr ?_) | (refine ⟨?_, ?_⟩) | exact List.length_set.symm | decide), by repeat (first | exact trivial | exact .inl rfl | exact rfl | exact List.not_mem_nil | (refine .inr ?_) | (refine ⟨?_, ?_⟩) | exact List.length_set.symm | decide)⟩ ?_
  intro nx1 st h
  obtain ⟨x2, x3, x4⟩ := st
  unfold F_rows_Unique_l1 at h
  conv => whnf
  refine ⟨fun hc => ?_, fun hc => ?_⟩
  · replace h := cond_t h hc
    conv => whnf
    replace h := bnd_some h
    obtain ⟨x5, h4, h⟩ := h
    refine ⟨_, Codec.at_ (slC valC) h4, ?_⟩
    conv => whnf
    replace h := bnd_some h
    obtain ⟨x6, h3, h⟩ := h
    refine ⟨_, (F_rows_key_ok n _  _ h3), ?_⟩
    conv => whnf
    refine CallsI.pubBox (P := Tryd.prog) (f := 29) 3 (t := 37) (cells := [.p (.sl (Val.rows x5))]) (row := [PV.sl (Val.rows x5)]) ?_ ?_ ?_ ?_
    rfl
    rfl
    rfl
    refine CallsI.of_vc mixed (fun _ _ => Tryd.call29 _ _) Tryd.func29 (by kernel_rfl) (inl := [1000000]) ?_
    conv => whnf
    refine ⟨PV.int .i64 (mgetD x4 x6 (0 : Int)), (mhas x4 x6), ⟨look_D keyStr (PV.int .i64) x4 x6 (0 : Int), look_b keyStr (PV.int .i64) x4 x6⟩, ?_⟩
    conv => whnf
    refine SeqA.cut (S := Int × List (List Val) × List ((List UInt8) × Int)) (fun (x7, x8, x9) => [(8, .p (.int .i64 x7)), (9, .p (.bool (mhas x4 x6)))]) (fun (x7, x8, x9) => [.box 87 [.mref 1, .tsl 4 (nsRows x8)], .mp .string (mRows PV.str (PV.int .i64) x9) none, .dead, .dead, .tail 37 1 (nsRows x8).length]) (F_rows_Unique_k3 n nx1 x2) (r := r) ?_ ?_
    · intro st h
      obtain ⟨x7, x8, x9⟩ := st
      unfold F_rows_Unique_k3 at h
      conv => whnf
      exact ⟨((IntKind.i64.wrap (x2 + (1 : Int))), x8, x9), h, ⟨[0, 1, 4], [], ⟨rfl, rfl, rfl, rfl⟩, by repeat (first | exact trivial | exact .inl rfl | exact rfl | exact List.not_mem_nil | (refine .inr ?_) | (refine ⟨?_, ?_⟩) | exact List.length_set.symm | decide), by repeat (first | exact trivial | exact .inl rfl | exact rfl | exact List.not_mem_nil | (refine .inr ?_) | (refine ⟨?_, ?_⟩) | exact List.length_set.symm | decide)⟩⟩
    · conv => whnf
      refine ⟨fun hc => ?_, fun hc => ?_⟩
      · replace h := cond_t h hc
        conv => whnf
        have hsl : (nsRows x3).length = (slRows valC x3).length := by simp [nsRows, slRows]
        rw [← hsl] at h
        refine ⟨_, set_rows keyStr (PV.int .i64) x6 (((nsRows x3).length : Nat) : Int) x4, ?_⟩
        conv => whnf
        replace h := bnd_some h
        obtain ⟨x10, h2, h⟩ := h
        refine ⟨_, (F_rows_Unique_c1_new n _  _ h2), ?_⟩
        conv => whnf
        refine ⟨Codec.one nsC [x10], nsRows [x10], .inl rfl, ?_⟩
        conv => whnf
        rw [show nsRows x3 ++ nsRows [x10] = nsRows (x3 ++ [x10]) from Codec.append nsC x3 [x10]]
        conv => whnf
        obtain ⟨h1, h⟩ := chk_some h
        have hz : (nsRows (x3 ++ [x10])).length * 24 ≤ 140737488355328 := by have := of_decide_eq_true h1; simpa [nsRows, slRows] using this
        refine ⟨⟨Codec.wide nsC (x3 ++ [x10]), hz, by omega⟩, ?_⟩
        conv => whnf
        refine ⟨⟨rfl, rfl, rfl⟩, ?_⟩
        conv => whnf
        exact ⟨((((nsRows x3).length : Nat) : Int), (x3 ++ [x10]), (mset x6 (((nsRows x3).length : Nat) : Int) x4)), h, ⟨[0, 1, 2, 3, 4], [], ⟨rfl, rfl, rfl, rfl⟩, by repeat (first | exact trivial | exact .inl rfl | exact rfl | exact List.not_mem_nil | (refine .inr ?_) | (refine ⟨?_, ?_⟩) | exact List.length_set.symm | decide), by repeat (first | exact trivial | exact .inl rfl | exact rfl | exact List.not_mem_nil | (refine .inr ?_) | (refine ⟨?_, ?_⟩) | exact List.length_set.symm | decide)⟩⟩
      · replace h := cond_f h hc
        conv => whnf
        exact ⟨((mgetD x4 x6 (0 : Int)), x3, x4), h, ⟨[0, 1, 2, 3, 2], [], ⟨rfl, rfl, rfl, rfl⟩, by repeat (first | exact trivial | exact .inl rfl | exact rfl | exact List.not_mem_nil | (refine .inr ?_) | (refine ⟨?_, ?_⟩) | exact List.length_set.symm | decide), by repeat (first | exact trivial | exact .inl rfl | exact rfl | exact List.not_mem_nil | (refine .inr ?_) | (refine ⟨?_, ?_⟩) | exact List.length_set.symm | decide)⟩⟩
  · replace h := cond_f h hc
    conv => whnf
    refine CallsI.of_vc mixed (fun _ _ => Tryd.call33 _ _) Tryd.func33 (by kernel_rfl) (inl := [1000000]) ?_
    obtain rfl := Option.some.inj h
    conv => whnf
    repeat (first | exact rfl | exact trivial | refine ⟨?_, ?_⟩)

set_option maxRecDepth 100000 in
theorem F_rows_all_new (n : Nat)   : ∀ (x1 : List (List Val)) (r : List (List Val)), F_rows_all n x1 = some r → CallsF Tryd.prog 34 [PV.sl (slRows valC x1)] (PV.nsl (nsRows r)) := by
  intro x1 r h
  unfold F_rows_all at h
  refine CallsF.of_vcNew mixed (fun _ _ => Tryd.call34 _ _) Tryd.func34 (by kernel_rfl) (inl := [1000000]) ?_
  conv => whnf
  refine LoopA.fn [1000000] (S := List (List Val) × Int) (fun (x2, x3) => [(3, .tsl 0 (nsRows x2)), (6, .p (.sl (slRows valC x1))), (7, .p (.int .i64 (((slRows valC x1).length : Nat) : Int))), (8, .p (.int .i64 x3))]) (fun (x2, x3) => [.tail 37 1 (nsRows x2).length]) (B := F_rows_all_l1 n x1) h ⟨[0], [0], ⟨rfl, rfl, rfl, rfl⟩, by repeat (first | exact trivial | exact .inl rfl | exact rfl | exact List.not_mem_nil | (refine .inr ?_) | (refine ⟨?_, ?_⟩) | exact List.length_set.symm | decide), by repeat (first | exact trivial | exact .inl rfl | exact rfl | exact List.not_mem_nil | (refine .inr ?_) | (refine ⟨?_, ?_⟩) | exact List.length_set.symm | decide)⟩ ?_
  intro nx1 st h
  obtain ⟨x2, x3⟩ := st
  unfold F_rows_all_l1 at h
  conv => whnf
  refine ⟨fun hc => ?_, fun hc => ?_⟩
  · replace h := cond_t h hc
    conv => whnf
    replace h := bnd_some h
    obtain ⟨x4, h3, h⟩ := h
    refine ⟨_, Codec.at_ (slC valC) h3, ?_⟩
    conv => whnf
    replace h := bnd_some h
    obtain ⟨x5, h2, h⟩ := h
    refine ⟨_, (F_rows_copied_new n _  _ h2), ?_⟩
    conv => whnf
    refine ⟨Codec.one nsC [x5], nsRows [x5], .inl rfl, ?_⟩
    conv => whnf
    rw [show nsRows x2 ++ nsRows [x5] = nsRows (x2 ++ [x5]) from Codec.append nsC x2 [x5]]
    conv => whnf
    obtain ⟨h1, h⟩ := chk_some h
    have hz : (nsRows (x2 ++ [x5])).length * 24 ≤ 140737488355328 := by have := of_decide_eq_true h1; simpa [nsRows, slRows] using this
    refine ⟨⟨Codec.wide nsC (x2 ++ [x5]), hz, by omega⟩, ?_⟩
    conv => whnf
    refine ⟨⟨rfl, rfl, rfl⟩, ?_⟩
    conv => whnf
    exact ⟨((x2 ++ [x5]), (IntKind.i64.wrap (x3 + (1 : Int)))), h, ⟨[1], [], ⟨rfl, rfl, rfl, rfl⟩, by repeat (first | exact trivial | exact .inl rfl | exact rfl | exact List.not_mem_nil | (refine .inr ?_) | (refine ⟨?_, ?_⟩) | exact List.length_set.symm | decide), by repeat (first | exact trivial | exact .inl rfl | exact rfl | exact List.not_mem_nil | (refine .inr ?_) | (refine ⟨?_, ?_⟩) | exact List.length_set.symm | decide)⟩⟩
  · replace h := cond_f h hc
    obtain rfl := Option.some.inj h
    conv => whnf
    repeat (first | exact rfl | exact trivial | refine ⟨?_, ?_⟩)

set_option maxRecDepth 100000 in
theorem F_rows_Slice_new (n : Nat)   : ∀ (x1 : List (List Val)) (x2 : Int) (x3 : Int) (r : List (List Val)), F_rows_Slice n x1 x2 x3 = some r → CallsF Tryd.prog 13 [PV.sl (slRows valC x1), PV.int .i64 x2, PV.int .i64 x3] (PV.nsl (nsRows r)) := by
  intro x1 x2 x3 r h
  unfold F_rows_Slice at h
  refine CallsF.of_vcN mixed (fun _ _ => Tryd.call13 _ _) Tryd.func13 (by kernel_rfl) (inl := [1000000]) ?_
  conv => whnf
  replace h := bnd_some h
  obtain ⟨x4, h5, h⟩ := h
  refine ⟨_, natI_some h5, ?_⟩
  conv => whnf
  obtain ⟨h4, h⟩ := chk_some h
  refine ⟨⟨(of_decide_eq_true h4 : (x4 ≤ (slRows valC x1).length)), Nat.le_refl _, Codec.wide (slC valC) x1⟩, ?_⟩
  first | rw [show List.drop x4 (List.take ((slRows valC x1).length) (slRows valC x1)) = slRows valC (x1.drop x4) from Codec.dropAll (slC valC) x1 x4] | rw [show List.drop x4 (List.take (((slC valC).rows x1).length) ((slC valC).rows x1)) = slRows valC (x1.drop x4) from Codec.dropAll (slC valC) x1 x4]
  conv => whnf
  replace h := bnd_some h
  obtain ⟨x5, h3, h⟩ := h
  refine ⟨_, natI_some h3, ?_⟩
  conv => whnf
  obtain ⟨h2, h⟩ := chk_some h
  refine ⟨⟨Nat.zero_le _, (of_decide_eq_true h2 : (x5 ≤ (slRows valC (x1.drop x4)).length)), Codec.wide (slC valC) (x1.drop x4)⟩, ?_⟩
  first | rw [show List.drop 0 (List.take x5 (slRows valC (x1.drop x4))) = slRows valC ((x1.drop x4).take x5) from Codec.take (slC valC) (x1.drop x4) x5] | rw [show List.drop 0 (List.take x5 ((slC valC).rows (x1.drop x4))) = slRows valC ((x1.drop x4).take x5) from Codec.take (slC valC) (x1.drop x4) x5]
  conv => whnf
  replace h := bnd_some h
  obtain ⟨x6, h1, h⟩ := h
  refine ⟨_, (F_rows_all_new n _  _ h1), ?_⟩
  obtain rfl := Option.some.inj h
  conv => whnf
  repeat (first | exact rfl | exact trivial | refine ⟨?_, ?_⟩)
end W
end
section
open Go Go.Proofs Ax Go.RowKit
namespace W
def InH (H : PH 0) (b : Nat) : Prop := ∃ o u, H b o = some u
/-- What a heap told, spoilt or not; it may be written. -/
def SpW (H : PH 0) (w : World) : Prop := ∀ b o u, H b o = some u → (∃ u', w.cell? ⟨b, o, none⟩ = some u' ∧ Kin u u') ∧ NotFrozen w b o u
theorem SpW.block {H : PH 0} {w w' : World} (s : SpW H w) (h : ∀ b, InH H b → w'.heap[b]? = w.heap[b]?) : SpW H w' := fun b o u hu => by
  obtain ⟨⟨u', h1, h2⟩, h3⟩ := s b o u hu
  have e := h b ⟨o, u, hu⟩
  exact ⟨⟨u', by rw [World.cell?_of_block (w := w) (a := ⟨b, o, none⟩) e]; exact h1, h2⟩, h3.block e⟩
/-- Cells of values, and texts. -/
def Touch (H : PH 0) (b p : Nat) : Prop := (∃ q k, H b q = some (.int .i64 k) ∧ q ≤ p ∧ p ≤ q + 5) ∨ ∃ s, H b p = some (.string s)
/-- What a spoiling does to a world. -/
structure Spt (H : PH 0) (w w' : World) : Prop where
  sp : SpW H w'
  keep : Keep (InH H) w w'
  stay : ∀ b p, b < w.heap.size → ¬ Touch H b p → w'.cell? ⟨b, p, none⟩ = w.cell? ⟨b, p, none⟩
theorem Spt.refl {H : PH 0} {w : World} (s : SpW H w) : Spt H w w := ⟨s, Keep.refl _ _, fun _ _ _ _ => rfl⟩
/-- A list's cells in a heap. -/
def InL (H : PH 0) (b o : Nat) (l : List Val) : Prop := ∀ (i : Nat) (v : Val), l[i]? = some v → ∃ us, RepL H v.cells us ∧ ∀ (j : Nat) (u : Value), us[j]? = some u → H b (o + i * 6 + j) = some u
def InK (H : PH 0) (b o : Nat) (l : List (List UInt8)) : Prop := ∀ (i : Nat) (s : List UInt8), l[i]? = some s → H b (o + i) = some (.string ⟨s.toArray⟩)
theorem SpW.kin {H : PH 0} {w : World} (s : SpW H w) {b o : Nat} {u : Value} (h : H b o = some u) : ∃ u', w.cell? ⟨b, o, none⟩ = some u' ∧ Kin u u' := (s b o u h).1
theorem SpW.fz {H : PH 0} {w : World} (s : SpW H w) {b o : Nat} {u : Value} (h : H b o = some u) (h8 : ∀ m, u ≠ .int .u8 m) : w.frozen? ⟨b, o, none⟩ = false := by
  rcases (s b o u h).2 with ⟨m, e⟩ | e
  · exact absurd e (h8 m)
  · exact e
theorem SpW.lt {H : PH 0} {w : World} (s : SpW H w) {b : Nat} (h : InH H b) : b < w.heap.size := by
  obtain ⟨o, u, hu⟩ := h
  obtain ⟨u', h1, _⟩ := s.kin hu
  exact World.block_lt_of_cell? w ⟨b, o, none⟩ h1
theorem Spt.other {H : PH 0} {w w' : World} (s : Spt H w w') {b : Nat} (hb : b < w.heap.size) (hn : ¬ InH H b) : w'.heap[b]? = w.heap[b]? := s.keep.block b hb hn
theorem Spt.trans {H : PH 0} {a b c : World} (h : Spt H a b) (k : Spt H b c) : Spt H a c := ⟨k.sp, h.keep.trans k.keep, fun g p hb hn => (k.stay g p (Nat.lt_of_lt_of_le hb h.keep.size) hn).trans (h.stay g p hb hn)⟩
def vlist : Val → List Val
  | .mk _ _ _ _ l _ => l
def vkeys : Val → List (List UInt8)
  | .mk _ _ _ _ _ ks => ks
theorem SpW.set {H : PH 0} {w : World} (s : SpW H w) {b o : Nat} {u v : Value} (h : H b o = some u) (hk : Kin u v) (ht : Touch H b o) : Spt H w (w.setCell ⟨b, o, none⟩ v) := by
  obtain ⟨u', hc, _⟩ := s.kin h
  refine ⟨fun b2 o2 u2 h2 => ⟨?_, ?_⟩, ⟨rfl, rfl, rfl, by simp [World.setCell], fun k hk hn => heap_setCell_other w _ k v (fun e => hn (by subst e; exact ⟨o, u, h⟩))⟩, fun b2 o2 _ hn => World.cell?_setCell_other w ⟨b, o, none⟩ ⟨b2, o2, none⟩ v (by intro e2; simp only [Addr.mk.injEq] at e2; exact hn (by rw [← e2.1, ← e2.2.1]; exact ht))⟩
  · by_cases e : b2 = b ∧ o2 = o
    · obtain ⟨rfl, rfl⟩ := e
      rw [h] at h2
      cases h2
      exact ⟨v, World.cell?_setCell_same' _ _ _ (by rw [hc]; rfl), hk⟩
    · obtain ⟨u3, h3, h4⟩ := s.kin h2
      exact ⟨u3, by rw [World.cell?_setCell_other (a := ⟨b, o, none⟩) (b := ⟨b2, o2, none⟩) (h := by intro e2; simp only [Addr.mk.injEq] at e2; exact e ⟨e2.1.symm, e2.2.1.symm⟩)]; exact h3, h4⟩
  · rcases (s b2 o2 u2 h2).2 with x | x
    · exact .inl x
    · exact .inr (by rw [World.frozen?_setCell]; exact x)
theorem shape {H : PH 0} {v : Val} {us : List Value} (h : RepL H v.cells us) : ∃ (k i : Int) (bb : Bool) (s : ByteArray) (x y : Value), us = [.int .i64 k, .bool bb, .int .i64 i, .string s, x, y] ∧ RepP H (.sl (Val.rows (vlist v))) x ∧ RepP H (.sl (strs (vkeys v))) y := by
  obtain ⟨k, b, i, s, l, ks⟩ := v
  simp only [Val.cells, RepL, RepP] at h
  obtain ⟨_, _, rfl, rfl, _, _, rfl, rfl, _, _, rfl, rfl, _, _, rfl, rfl, x, _, rfl, hx, y, _, rfl, hy, rfl⟩ := h
  exact ⟨k, i, b, ⟨s.toArray⟩, x, y, rfl, by simp only [RepP]; exact hx, by simp only [RepP]; exact hy⟩
structure Six (H : PH 0) (w : World) (b q : Nat) (us : List Value) (e1 e2 e3 e4 e5 e6 : Value) : Prop where
  kin : KinL us [e1, e2, e3, e4, e5, e6]
  c : w.cell? ⟨b, q, none⟩ = some e1 ∧ w.cell? ⟨b, q + 1, none⟩ = some e2 ∧ w.cell? ⟨b, q + 2, none⟩ = some e3 ∧ w.cell? ⟨b, q + 3, none⟩ = some e4 ∧ w.cell? ⟨b, q + 4, none⟩ = some e5 ∧ w.cell? ⟨b, q + 5, none⟩ = some e6
  f : w.frozen? ⟨b, q, none⟩ = false ∧ w.frozen? ⟨b, q + 1, none⟩ = false ∧ w.frozen? ⟨b, q + 2, none⟩ = false ∧ w.frozen? ⟨b, q + 3, none⟩ = false ∧ w.frozen? ⟨b, q + 4, none⟩ = false ∧ w.frozen? ⟨b, q + 5, none⟩ = false
theorem sl_not8 {Lw : Nat} {H : PH Lw} {rows : List (List PV)} {x : Value} (h : RepP H (.sl rows) x) : ∀ m, x ≠ .int .u8 m := by
  simp only [RepP] at h
  rintro m rfl
  rcases h with ⟨_, h | ⟨_, _, h⟩⟩ | ⟨_, _, _, _, h, _⟩ <;> cases h
theorem SpW.six {H : PH 0} {w : World} (s : SpW H w) {v : Val} {us : List Value} (hus : RepL H v.cells us) {b q : Nat} (hcs : ∀ (j : Nat) (u : Value), us[j]? = some u → H b (q + j) = some u) :
    ∃ e1 e2 e3 e4 e5 e6, Six H w b q us e1 e2 e3 e4 e5 e6 := by
  obtain ⟨k, i, bb, st, x, y, rfl, hx, hy⟩ := shape hus
  have a1 := hcs 0 _ rfl; have a2 := hcs 1 _ rfl; have a3 := hcs 2 _ rfl; have a4 := hcs 3 _ rfl; have a5 := hcs 4 _ rfl; have a6 := hcs 5 _ rfl
  obtain ⟨e1, c1, k1⟩ := s.kin a1
  obtain ⟨e2, c2, k2⟩ := s.kin a2
  obtain ⟨e3, c3, k3⟩ := s.kin a3
  obtain ⟨e4, c4, k4⟩ := s.kin a4
  obtain ⟨e5, c5, k5⟩ := s.kin a5
  obtain ⟨e6, c6, k6⟩ := s.kin a6
  refine ⟨e1, e2, e3, e4, e5, e6, ⟨rfl, fun j v u hv hu => ?_⟩, ⟨c1, c2, c3, c4, c5, c6⟩, s.fz a1 (by simp), s.fz a2 (by simp), s.fz a3 (by simp), s.fz a4 (by simp), s.fz a5 (sl_not8 hx), s.fz a6 (sl_not8 hy)⟩
  match j with
  | 0 => cases hv; cases hu; exact k1
  | 1 => cases hv; cases hu; exact k2
  | 2 => cases hv; cases hu; exact k3
  | 3 => cases hv; cases hu; exact k4
  | 4 => cases hv; cases hu; exact k5
  | 5 => cases hv; cases hu; exact k6
  | j + 6 => simp at hv
theorem sl_kin {Lw : Nat} {H : PH Lw} {rows : List (List PV)} {x : Value} (h : RepP H (.sl rows) x) : Kin x (.slice none 0 0) := by
  simp only [RepP] at h
  rcases h with ⟨_, rfl | ⟨_, _, rfl⟩⟩ | ⟨_, _, _, _, rfl, _⟩ <;> exact .inr rfl
/-- A whole value is spoilt. -/
theorem SpW.six_set {H : PH 0} {w : World} (s : SpW H w) {v : Val} {us : List Value} (hus : RepL H v.cells us) {b q : Nat} (hcs : ∀ (j : Nat) (u : Value), us[j]? = some u → H b (q + j) = some u) (k i : Int) (bb : Bool) (st : ByteArray) :
    Spt H w ((((((w.setCell ⟨b, q, none⟩ (.int .i64 k)).setCell ⟨b, q + 1, none⟩ (.bool bb)).setCell ⟨b, q + 2, none⟩ (.int .i64 i)).setCell ⟨b, q + 3, none⟩ (.string st)).setCell ⟨b, q + 4, none⟩ (.slice none 0 0)).setCell ⟨b, q + 5, none⟩ (.slice none 0 0)) := by
  obtain ⟨k', i', bb', st', x, y, rfl, hx, hy⟩ := shape hus
  have h1 := s.set (v := .int .i64 k) (hcs 0 _ rfl) ⟨_, rfl⟩ (.inl ⟨q, k', hcs 0 _ rfl, by omega, by omega⟩)
  have h2 := h1.sp.set (v := .bool bb) (hcs 1 _ rfl) ⟨_, rfl⟩ (.inl ⟨q, k', hcs 0 _ rfl, by omega, by omega⟩)
  have h3 := h2.sp.set (v := .int .i64 i) (hcs 2 _ rfl) ⟨_, rfl⟩ (.inl ⟨q, k', hcs 0 _ rfl, by omega, by omega⟩)
  have h4 := h3.sp.set (v := .string st) (hcs 3 _ rfl) ⟨_, rfl⟩ (.inl ⟨q, k', hcs 0 _ rfl, by omega, by omega⟩)
  have h5 := h4.sp.set (v := .slice none 0 0) (hcs 4 _ rfl) (sl_kin hx) (.inl ⟨q, k', hcs 0 _ rfl, by omega, by omega⟩)
  have h6 := h5.sp.set (v := .slice none 0 0) (hcs 5 _ rfl) (sl_kin hy) (.inl ⟨q, k', hcs 0 _ rfl, by omega, by omega⟩)
  exact ((((h1.trans h2).trans h3).trans h4).trans h5).trans h6
abbrev bxc (k : Int) (bb : Bool) (ii : Int) (s : ByteArray) (x y : Value) : Array Value := #[.int .i64 k, .bool bb, .int .i64 ii, .string s, x, y]
set_option maxHeartbeats 1000000 in
theorem spoil_walk (H : PH 0) (k ii : Int) (bb : Bool) (s : ByteArray) (b o kb ko : Nat) (lp kp : Option Addr) (lc kc : Nat) (l : List Val) (ks : List (List UInt8)) (hp : l ≠ [] → lp = some ⟨b, o, none⟩) (hq : ks ≠ [] → kp = some ⟨kb, ko, none⟩)
    (hl : InL H b o l) (hk : InK H kb ko ks) (hln : l.length < 9223372036854775807) (hkn : ks.length < 9223372036854775807) (w : World) (sp : SpW H w)
    (ih : ∀ v ∈ l, ∀ us xs w, RepL H v.cells us → KinL us xs → SpW H w → Calls Tryd.prog 37 #[.agg xs.toArray] w fun e w' => e = .returned (.tuple #[]) ∧ Spt H w w') :
    Calls Tryd.prog 37 #[.agg #[.int .i64 k, .bool bb, .int .i64 ii, .string s, .slice lp l.length lc, .slice kp ks.length kc]] w fun e w' => e = .returned (.tuple #[]) ∧ Spt H w w' := by
  have hnb : ¬ InH H w.heap.size := fun h => absurd (sp.lt h) (Nat.lt_irrefl _)
  go_enter Tryd.func37, Tryd.ntmps37
  go_wp2
  go_loopw [2] (fun vi wr => ∃ (i : Nat), vi = .int .i64 i ∧ i ≤ l.length ∧ Spt H (w.alloc (.cells (bxc k bb ii s (.slice lp l.length lc) (.slice kp ks.length kc)) 40)) wr) (fun vi _ => l.length - (intOf vi).toNat)
  case atStart => exact ⟨0, rfl, Nat.zero_le _, Spt.refl (sp.block fun b hb => heap_alloc_old w _ (sp.lt hb))⟩
  case round =>
    obtain ⟨i, rfl, hin, hS⟩ := hrel
    have cb : ∀ w', Spt H wr w' → w'.cell? ⟨w.heap.size, 4, none⟩ = some (.slice lp l.length lc) ∧ w'.cell? ⟨w.heap.size, 5, none⟩ = some (.slice kp ks.length kc) := fun w' h => by
      have e := (hS.trans h).other (b := w.heap.size) (by simp) hnb
      exact ⟨by rw [World.cell?_of_block (a := ⟨w.heap.size, 4, none⟩) e, World.cell?_alloc_new]; rfl, by rw [World.cell?_of_block (a := ⟨w.heap.size, 5, none⟩) e, World.cell?_alloc_new]; rfl⟩
    obtain ⟨c4, c5⟩ := cb wr (Spt.refl hS.sp)
    rcases Nat.lt_or_ge i l.length with hlt | hge
    · obtain rfl := hp (List.ne_nil_of_length_pos (by omega))
      have hv := List.getElem?_eq_getElem hlt
      generalize l[i] = vi at hv
      obtain ⟨us, hus, hcs⟩ := hl i vi hv
      obtain ⟨e1, e2, e3, e4, e5, e6, ⟨hkin, ⟨he1, he2, he3, he4, he5, he6⟩, _⟩⟩ := hS.sp.six hus hcs
      have hc := ih vi (List.mem_of_getElem? hv) us [e1, e2, e3, e4, e5, e6] wr hus hkin hS.sp
      have aft : ∀ w', Spt H wr w' → ∃ g1 g2 g3 g4 g5 g6, Six H w' b (o + i * 6) us g1 g2 g3 g4 g5 g6 := fun w' h => h.sp.six hus hcs
      clear ih
      go_wp2_with (go_at_call 37; refine hc.mono ?_; rintro e w1 ⟨rfl, h1⟩; obtain ⟨d4, _⟩ := cb w1 h1; obtain ⟨g1, g2, g3, g4, g5, g6, ⟨hkin', ⟨hg1, hg2, hg3, hg4, hg5, hg6⟩, ⟨z1, z2, z3, z4, z5, z6⟩⟩⟩ := aft w1 h1)
      go_roundw
      case rel => exact ⟨i + 1, by congr 1 <;> omega, hlt, hS.trans (h1.trans (h1.sp.six_set hus hcs _ _ _ _))⟩
      case measure => simp [intOf]; omega
    · clear ih
      go_wp2
      go_loopw [3] (fun vi wk => ∃ (i : Nat), vi = .int .i64 i ∧ i ≤ ks.length ∧ Spt H wr wk) (fun vi _ => ks.length - (intOf vi).toNat)
      case atStart => exact ⟨0, rfl, Nat.zero_le _, Spt.refl hS.sp⟩
      case round =>
        rename World => wk
        obtain ⟨j, rfl, hjn, hS2⟩ := hrel
        obtain ⟨_, d5⟩ := cb _ hS2
        rcases Nat.lt_or_ge j ks.length with hlt | hge
        · obtain rfl := hq (List.ne_nil_of_length_pos (by omega))
          have hj := hk j _ (List.getElem?_eq_getElem hlt)
          obtain ⟨g1, hg1, _⟩ := hS2.sp.kin hj
          have z1 := hS2.sp.fz hj (by simp)
          go_wp2
          go_roundw
          case rel => exact ⟨j + 1, by congr 1 <;> omega, hlt, hS2.trans (hS2.sp.set hj ⟨_, rfl⟩ (.inr ⟨_, hj⟩))⟩
          case measure => simp [intOf]; omega
        · go_wp2
          go_end0
          have h3 := hS.trans hS2
          exact ⟨rfl, h3.sp, ⟨h3.keep.os, h3.keep.tape, h3.keep.output, Nat.le_trans (by simp) h3.keep.size, fun k hk hn => (h3.keep.block k (by simp; omega) hn).trans (heap_alloc_old w _ hk)⟩, fun b p hb hn => (h3.stay b p (by simp; omega) hn).trans (World.cell?_of_block (a := ⟨b, p, none⟩) (heap_alloc_old w _ hb))⟩
mutual
def vsz : Val → Nat
  | .mk _ _ _ _ l ks => 1 + vszL l + ks.length
def vszL : List Val → Nat
  | [] => 0
  | v :: l => 1 + vsz v + vszL l
end
theorem vszL_len : ∀ l : List Val, l.length ≤ vszL l
  | [] => Nat.le_refl _
  | v :: l => by have := vszL_len l; simp only [vszL, List.length_cons]; omega
theorem vszL_mem : ∀ {l : List Val} {v : Val}, v ∈ l → vsz v < vszL l
  | [], _, h => by cases h
  | a :: l, v, h => by
    simp only [vszL]
    rcases List.mem_cons.1 h with rfl | h
    · omega
    · have := vszL_mem h; omega
theorem list_of {H : PH 0} {l : List Val} {x x' : Value} (h : RepP H (.sl (Val.rows l)) x) (k : Kin x x') :
    ∃ lp l' b o lc, x' = .slice lp (l' : List Val).length lc ∧ (l' ≠ [] → lp = some ⟨b, o, none⟩) ∧ InL H b o l' ∧ (l' = l ∨ l' = []) := by
  have nil : ∀ (lp : Option Addr) lc, x' = .slice lp 0 lc → ∃ lp l' b o lc, x' = .slice lp (l' : List Val).length lc ∧ (l' ≠ [] → lp = some ⟨b, o, none⟩) ∧ InL H b o l' ∧ (l' = l ∨ l' = []) := fun lp lc e =>
    ⟨lp, [], 0, 0, lc, e, fun h => absurd rfl h, fun i v hv => by simp at hv, .inr rfl⟩
  simp only [RepP] at h
  rcases h with ⟨_, rfl | ⟨a, c, rfl⟩⟩ | ⟨b, o, z, cap, rfl, _, hr⟩
  · rcases k with rfl | rfl <;> exact nil _ _ rfl
  · rcases k with rfl | rfl <;> exact nil _ _ rfl
  · rcases k with rfl | rfl
    · refine ⟨some ⟨b, o, none⟩, l, b, o, cap, by rw [rows_length], fun _ => rfl, fun i v hv => ?_, .inl rfl⟩
      have h1 : (Val.rows l)[i]? = some v.cells := Codec.getN valC hv
      obtain ⟨e, vs, h2, h3⟩ := hr.get h1
      rw [cells_length] at e
      subst e
      exact ⟨vs, h2, h3⟩
    · exact nil _ _ rfl
theorem keys_of {H : PH 0} {l : List (List UInt8)} {x x' : Value} (h : RepP H (.sl (strs l)) x) (k : Kin x x') :
    ∃ lp l' b o lc, x' = .slice lp (l' : List (List UInt8)).length lc ∧ (l' ≠ [] → lp = some ⟨b, o, none⟩) ∧ InK H b o l' ∧ (l' = l ∨ l' = []) := by
  have nil : ∀ (lp : Option Addr) lc, x' = .slice lp 0 lc → ∃ lp l' b o lc, x' = .slice lp (l' : List (List UInt8)).length lc ∧ (l' ≠ [] → lp = some ⟨b, o, none⟩) ∧ InK H b o l' ∧ (l' = l ∨ l' = []) := fun lp lc e =>
    ⟨lp, [], 0, 0, lc, e, fun h => absurd rfl h, fun i v hv => by simp at hv, .inr rfl⟩
  simp only [RepP] at h
  rcases h with ⟨_, rfl | ⟨a, c, rfl⟩⟩ | ⟨b, o, z, cap, rfl, _, hr⟩
  · rcases k with rfl | rfl <;> exact nil _ _ rfl
  · rcases k with rfl | rfl <;> exact nil _ _ rfl
  · rcases k with rfl | rfl
    · refine ⟨some ⟨b, o, none⟩, l, b, o, cap, by simp [strs], fun _ => rfl, fun i v hv => ?_, .inl rfl⟩
      have h1 : (strs l)[i]? = some [PV.str v] := Codec.getN strC hv
      obtain ⟨e, vs, h2, h3⟩ := hr.get h1
      simp only [List.length_singleton] at e
      subst e
      simp only [RepL, RepP] at h2
      obtain ⟨_, _, rfl, rfl, rfl⟩ := h2
      have := h3 0 _ rfl
      simpa using this
    · exact nil _ _ rfl
theorem spoil_val (H : PH 0) : ∀ (n : Nat) (v : Val), vsz v < n → n ≤ 4611686018427387904 → ∀ us xs w, RepL H v.cells us → KinL us xs → SpW H w → Calls Tryd.prog 37 #[.agg xs.toArray] w fun e w' => e = .returned (.tuple #[]) ∧ Spt H w w' := by
  intro n
  induction n with
  | zero => intro v h; omega
  | succ n ih =>
    intro v hv hn us xs w hus hk sp
    obtain ⟨k, i, bb, s, x, y, rfl, hx, hy⟩ := shape hus
    obtain ⟨hlen, hk⟩ := hk
    obtain ⟨a1, a2, a3, a4, a5, a6, rfl⟩ : ∃ a1 a2 a3 a4 a5 a6, xs = [a1, a2, a3, a4, a5, a6] := by
      match xs, hlen with
      | [a1, a2, a3, a4, a5, a6], _ => exact ⟨_, _, _, _, _, _, rfl⟩
    obtain ⟨k', rfl⟩ := hk 0 _ _ rfl rfl
    obtain ⟨bb', rfl⟩ := hk 1 _ _ rfl rfl
    obtain ⟨i', rfl⟩ := hk 2 _ _ rfl rfl
    obtain ⟨s', rfl⟩ := hk 3 _ _ rfl rfl
    obtain ⟨lp, l, b, o, lc, rfl, hp, hl, el⟩ := list_of hx (hk 4 _ _ rfl rfl)
    obtain ⟨kp, ks, kb, ko, kc, rfl, hq, hK, ek⟩ := keys_of hy (hk 5 _ _ rfl rfl)
    obtain ⟨q1, q2, q3, q4, ql, qk⟩ := v
    simp only [vlist, vkeys] at el ek
    simp only [vsz] at hv
    have hl1 : vszL l ≤ vszL ql := by rcases el with rfl | rfl <;> simp [vszL]
    have hk1 : ks.length ≤ qk.length := by rcases ek with rfl | rfl <;> simp
    have := vszL_len l
    exact spoil_walk H k' i' bb' s' b o kb ko lp kp lc kc l ks hp hq hl hK (by omega) (by omega) w sp
      (fun v hv' us xs w h1 h2 h3 => ih v (by have := vszL_mem hv'; omega) (by omega) us xs w h1 h2 h3)
/-- Rows of values in a heap: the list begins at its block's beginning. -/
structure Outer (H : PH 0) (l : List (List Val)) (lp : Option Addr) (B : Nat) : Prop where
  p : l ≠ [] → lp = some ⟨B, 0, none⟩
  c : ∀ (i : Nat) (r : List Val), l[i]? = some r → ∃ y, H B i = some y ∧ RepP H (.sl (Val.rows r)) y
theorem Outer.stay {H : PH 0} {l : List (List Val)} {lp : Option Addr} {B : Nat} (h : Outer H l lp B) {i : Nat} (hi : i < l.length) : ¬ Touch H B i := by
  have sl : ∀ (q : Nat), q ≤ i → ∃ y, H B q = some y ∧ ∃ r, RepP H (.sl (Val.rows r)) y := fun q hq => by
    obtain ⟨y, h1, h2⟩ := h.c q _ (List.getElem?_eq_getElem (by omega))
    exact ⟨y, h1, _, h2⟩
  rintro (⟨q, k, h1, h2, _⟩ | ⟨s, h1⟩)
  · obtain ⟨y, h3, r, h4⟩ := sl q h2
    rw [h1] at h3
    cases h3
    simp only [RepP] at h4
    rcases h4 with ⟨_, h | ⟨_, _, h⟩⟩ | ⟨_, _, _, _, h, _⟩ <;> cases h
  · obtain ⟨y, h3, r, h4⟩ := sl i (Nat.le_refl _)
    rw [h1] at h3
    cases h3
    simp only [RepP] at h4
    rcases h4 with ⟨_, h | ⟨_, _, h⟩⟩ | ⟨_, _, _, _, h, _⟩ <;> cases h
set_option maxHeartbeats 1000000 in
theorem spoil_rows (H : PH 0) (l : List (List Val)) (lp : Option Addr) (B lc : Nat) (ho : Outer H l lp B) (w : World) (sp : SpW H w) (hcell : ∀ (i : Nat) (y : Value), i < l.length → H B i = some y → w.cell? ⟨B, i, none⟩ = some y)
    (hln : l.length < 4611686018427387904) (hr : ∀ r ∈ l, vszL r < 4611686018427387904) :
    Calls Tryd.prog 17 #[.slice lp l.length lc] w fun e w' => e = .returned (.tuple #[]) ∧ Spt H w w' := by
  go_enter Tryd.func17, Tryd.ntmps17
  go_wp2
  go_loopw [2, 3] (fun vi _ wr => ∃ (i : Nat), vi = .int .i64 i ∧ i ≤ l.length ∧ Spt H w wr) (fun vi _ _ => l.length - (intOf vi).toNat)
  case atStart => exact ⟨0, rfl, Nat.zero_le _, Spt.refl sp⟩
  case round =>
    obtain ⟨i, rfl, hin, hS⟩ := hrel
    rcases Nat.lt_or_ge i l.length with hlt | hge
    · obtain rfl := ho.p (List.ne_nil_of_length_pos (by omega))
      have hv := List.getElem?_eq_getElem hlt
      have hrr := hr _ (List.getElem_mem hlt)
      generalize l[i] = r0 at hv hrr
      obtain ⟨y, hy, ry⟩ := ho.c i r0 hv
      have hlt0 : B < w.heap.size := World.block_lt_of_cell? w ⟨B, i, none⟩ (hcell i y hlt hy)
      obtain ⟨rp, r, rb, ro, rc, rfl, hp, hl, el⟩ := list_of ry (Kin.refl y)
      have hsz : vszL r < 4611686018427387904 := by
        rcases el with rfl | rfl
        · exact hrr
        · simp [vszL]
      have hlen := vszL_len r
      have cb : ∀ w', Spt H w w' → w'.cell? ⟨B, i, none⟩ = some (.slice rp r.length rc) := fun w' h => (h.stay B i hlt0 (ho.stay hlt)).trans (hcell i _ hlt hy)
      have c1 := cb wr hS
      go_wp2
      go_loopw [3] (fun vi wk => ∃ (j : Nat), vi = .int .i64 j ∧ j ≤ r.length ∧ Spt H w wk) (fun vi _ => r.length - (intOf vi).toNat)
      case atStart => exact ⟨0, rfl, Nat.zero_le _, hS⟩
      case round =>
        rename World => wk
        obtain ⟨j, rfl, hjn, hS2⟩ := hrel
        have d1 := cb _ hS2
        rcases Nat.lt_or_ge j r.length with hjt | hge
        · obtain rfl := hp (List.ne_nil_of_length_pos (by omega))
          have hv2 := List.getElem?_eq_getElem hjt
          have hmem := List.getElem_mem hjt
          generalize r[j] = vi at hv2 hmem
          obtain ⟨us, hus, hcs⟩ := hl j vi hv2
          obtain ⟨e1, e2, e3, e4, e5, e6, ⟨hkin, ⟨he1, he2, he3, he4, he5, he6⟩, _⟩⟩ := hS2.sp.six hus hcs
          have hc := spoil_val H _ vi (Nat.lt_succ_self _) (by have := vszL_mem hmem; omega) us [e1, e2, e3, e4, e5, e6] _ hus hkin hS2.sp
          have aft : ∀ w', Spt H w w' → ∃ g1 g2 g3 g4 g5 g6, Six H w' rb (ro + j * 6) us g1 g2 g3 g4 g5 g6 := fun w' h => h.sp.six hus hcs
          go_wp2_with (go_at_call 37; refine hc.mono ?_; rintro e w1 ⟨rfl, h1⟩; have d4 := cb w1 (hS2.trans h1); obtain ⟨g1, g2, g3, g4, g5, g6, ⟨hkin', ⟨hg1, hg2, hg3, hg4, hg5, hg6⟩, ⟨z1, z2, z3, z4, z5, z6⟩⟩⟩ := aft w1 (hS2.trans h1))
          go_roundw
          case rel => exact ⟨j + 1, by congr 1 <;> omega, hjt, hS2.trans (h1.trans (h1.sp.six_set hus hcs _ _ _ _))⟩
          case measure => simp [intOf]; omega
        · go_wp2
          go_roundw
          case rel => exact ⟨i + 1, by congr 1 <;> omega, hlt, hS2⟩
          case measure => simp [intOf]; omega
    · go_wp2
      go_end0
      exact ⟨rfl, hS⟩
end W
end
section
open Go Go.Proofs Ax Go.RowKit
namespace W
theorem wk_slRows : ∀ l : List (List Val), wkR (slRows valC l) = slRows valC l
  | [] => rfl
  | r :: l => by
    show wkR ([.sl (Val.rows r)] :: slRows valC l) = [.sl (Val.rows r)] :: slRows valC l
    simp only [wkR, wkL, wkP, wk_sameR, wk_slRows l]
theorem wk_nsRows : ∀ l : List (List Val), wkR (nsRows l) = slRows valC l
  | [] => rfl
  | r :: l => by
    show wkR ([.nsl (Val.rowsN r)] :: nsRows l) = [.sl (Val.rows r)] :: slRows valC l
    simp only [wkR, wkL, wkP, wk_rows, wk_nsRows l]
theorem rep_again {La Lb : Nat} {H : PH La} {H' : PH Lb} (h : ∀ b o v, H b o = some v → H' b o = some v) {l : List (List Val)} {v : Value} (r : RepP H (.sl (slRows valC l)) v) : RepP H' (.sl (slRows valC l)) v := by
  have := RepP.base h r
  simpa only [wkP, wk_slRows] using this
theorem rep_plain {La Lb : Nat} {H : PH La} {H' : PH Lb} (h : ∀ b o v, H b o = some v → H' b o = some v) {l : List (List Val)} {v : Value} (r : RepP H (.nsl (nsRows l)) v) : RepP H' (.sl (slRows valC l)) v := by
  have := RepP.base h r
  simpa only [wkP, wk_nsRows] using this
/-- The same heap, seen from the world's end. -/
theorem satTop {La : Nat} {H : PH La} {w : World} (s : SatH H w) : SatH (Lw := w.heap.size) H w :=
  ⟨s.cell, s.root, Nat.le_refl _, fun b o v hv hb => absurd (s.lt hv) (by omega)⟩
theorem outer_of {L hi : Nat} {H : PH L} (hh : ∀ b o v, H b o = some v → b < hi) {l : List (List Val)} {v : Value} (r : RepP H (.nsl (nsRows l)) v) : ∃ lp B lc, v = .slice lp l.length lc ∧ Outer (part L hi H) l lp B := by
  simp only [RepP] at r
  rcases r with ⟨e, r⟩ | ⟨b, o, z, cap, rfl, _, ⟨hb, rfl⟩, rr⟩
  · have : l = [] := by simpa [nsRows] using e
    subst this
    rcases r with rfl | ⟨a, c, rfl⟩
    · exact ⟨none, 0, 0, rfl, fun h => absurd rfl h, fun i r h => by simp at h⟩
    · exact ⟨some a, 0, c, rfl, fun h => absurd rfl h, fun i r h => by simp at h⟩
  · refine ⟨_, b, cap, by simp [nsRows], fun _ => rfl, fun i r h => ?_⟩
    have h1 : (nsRows l)[i]? = some [.nsl (Val.rowsN r)] := Codec.getN nsC h
    obtain ⟨e, vs, h2, h3⟩ := rr.get h1
    simp only [List.length_singleton] at e
    subst e
    simp only [RepL] at h2
    obtain ⟨y, _, rfl, h4, rfl⟩ := h2
    have h5 := h3 0 y rfl
    simp only [Nat.zero_add, Nat.mul_one, Nat.add_zero] at h5
    have h6 := new_part hh (by simp only [nwP, nw_rows]) h4
    simp only [wkP, wk_rows] at h6
    exact ⟨y, part_some hh h5 hb, h6⟩
theorem spw_of {L : Nat} {H : PH L} {w : World} (s : SatH H w) : SpW (part L w.heap.size H) w := fun b o u hu => by
  unfold Ax.part at hu
  split at hu
  · rename_i hb
    exact ⟨⟨u, (s.cell b o u hu).1, Kin.refl u⟩, s.nf b o u hu hb.1⟩
  · cases hu
theorem part_cell {L : Nat} {H : PH L} {w : World} (s : SatH H w) {b o : Nat} {u : Value} (hu : part L w.heap.size H b o = some u) : L ≤ b ∧ w.cell? ⟨b, o, none⟩ = some u := by
  unfold Ax.part at hu
  split at hu
  · rename_i hb
    exact ⟨hb.1, (s.cell b o u hu).1⟩
  · cases hu
/-- Two lists of rows, both new, are spoilt: what lies below stays. -/
theorem spoil_two {L : Nat} {H : PH L} {w : World} (s : SatH H w) {a b : List (List Val)} {va vb : Value} (ra : RepP H (.nsl (nsRows a)) va) (rb : RepP H (.nsl (nsRows b)) vb)
    (ha : a.length < 4611686018427387904 ∧ ∀ r ∈ a, vszL r < 4611686018427387904) (hb : b.length < 4611686018427387904 ∧ ∀ r ∈ b, vszL r < 4611686018427387904) :
    Calls Tryd.prog 17 #[va] w fun e w1 => e = .returned (.tuple #[]) ∧ Calls Tryd.prog 17 #[vb] w1 fun e w2 => e = .returned (.tuple #[]) ∧ Keep (fun k => L ≤ k) w w2 := by
  have hh : ∀ b o v, H b o = some v → b < w.heap.size := fun b o v hv => s.lt hv
  obtain ⟨la, Ba, ca, rfl, oa⟩ := outer_of hh ra
  obtain ⟨lb, Bb, cb, rfl, ob⟩ := outer_of hh rb
  have sp := spw_of s
  refine (spoil_rows _ a la Ba ca oa w sp (fun i y _ hy => (part_cell s hy).2) ha.1 ha.2).mono fun e w1 ⟨he, h1⟩ => ⟨he, ?_⟩
  refine (spoil_rows _ b lb Bb cb ob w1 h1.sp (fun i y hi hy => (h1.stay Bb i (World.block_lt_of_cell? w ⟨Bb, i, none⟩ (part_cell s hy).2) (ob.stay hi)).trans (part_cell s hy).2) hb.1 hb.2).mono fun e w2 ⟨he, h2⟩ => ⟨he, ?_⟩
  have k := h1.keep.trans h2.keep
  exact ⟨k.os, k.tape, k.output, k.size, fun i hi hn => k.block i hi (fun ⟨o, u, hu⟩ => hn (part_cell s hu).1)⟩
structure Facts (n : Nat) (l a a' b b' : List (List Val)) (s m c : Int) : Prop where
  wide : F_L17_wide n l = some c
  few : F_L17_few n l c = some true
  copy : F_R17_Copy n l = some l
  un : F_rows_Unique n l = some a
  sl : F_rows_Slice n l s m = some b
  run : F_R17_Unique n l = some a'
  s1 : F_R17_Same n a a' = some true
  rsl : F_R17_Slice n l s m = some b'
  s2 : F_R17_Same n b b' = some true
  s3 : F_R17_Same n l l = some true
  works : F_L17_works n = some true
  ba : a.length < 4611686018427387904 ∧ ∀ r ∈ a, vszL r < 4611686018427387904
  bb : b.length < 4611686018427387904 ∧ ∀ r ∈ b, vszL r < 4611686018427387904
set_option maxHeartbeats 2000000 in
theorem unique_walk {n : Nat} {l a a' b b' : List (List Val)} {s m c : Int} (f : Facts n l a a' b b' s m c) {Lw : Nat} {H : PH Lw} {w : World} {vl : Value} (hs : SatH H w) (rl : RepP H (.sl (slRows valC l)) vl) :
    Calls Tryd.prog 3 #[vl, .int .i64 s, .int .i64 m] w fun e w' => e = .returned (.bool true) ∧ Below w.heap.size w w' := by
  have e9 : Ax.Enters Tryd.prog 9 := fun _ _ => Tryd.call9 _ _
  have e8 : Ax.Enters Tryd.prog 8 := fun _ _ => Tryd.call8 _ _
  have e10 : Ax.Enters Tryd.prog 10 := fun _ _ => Tryd.call10 _ _
  have e11 : Ax.Enters Tryd.prog 11 := fun _ _ => Tryd.call11 _ _
  have e12 : Ax.Enters Tryd.prog 12 := fun _ _ => Tryd.call12 _ _
  have e13 : Ax.Enters Tryd.prog 13 := fun _ _ => Tryd.call13 _ _
  have e14 : Ax.Enters Tryd.prog 14 := fun _ _ => Tryd.call14 _ _
  have e15 : Ax.Enters Tryd.prog 15 := fun _ _ => Tryd.call15 _ _
  have e16 : Ax.Enters Tryd.prog 16 := fun _ _ => Tryd.call16 _ _
  go_enter Tryd.func3, Tryd.ntmps3
  go_wp2_with (first
    | (go_at_call 9; refine ((F_L17_wide_ok n _ _ f.wide).calls e9 hs (vs := [vl]) (by simp only [RepL]; exact ⟨_, _, rfl, rl, rfl⟩)).mono ?_; rintro e w1 ⟨v, H1, rfl, k1, r1⟩; simp only [RepP] at r1; subst r1)
    | (go_at_call 8; refine ((F_L17_few_ok n _ _ _ f.few).calls e8 k1.sat (vs := [vl, .int .i64 c]) (by simp only [RepL]; exact ⟨_, _, rfl, RepP.mono k1.le rl, _, _, rfl, by simp only [RepP], rfl⟩)).mono ?_; rintro e w2 ⟨v, H2, rfl, k2, r2⟩; simp only [RepP] at r2; subst r2)
    | (go_at_call 11; refine ((F_R17_Copy_ok n _ _ f.copy).calls e11 k2.sat (vs := [vl]) (by simp only [RepL]; exact ⟨_, _, rfl, RepP.mono (k1.le.trans k2.le) rl, rfl⟩)).mono ?_; rintro e w3 ⟨vo, H3, rfl, k3, r3⟩; have q3 := (k1.keep.trans k2.keep).trans k3.keep; have t3 := satTop k3.sat; have l3 := RepP.mono ((k1.le.trans k2.le).trans k3.le) rl; have o3 := rep_again (Lb := w3.heap.size) (H' := H3) (fun _ _ _ h => h) r3; have m3 := rep_again (Lb := w3.heap.size) (H' := H3) (fun _ _ _ h => h) l3; clear k1 k2 k3)
    | (go_at_call 12; refine ((F_rows_Unique_new n _ _ f.un).calls e12 t3 (vs := [vo]) (by simp only [RepL]; exact ⟨_, _, rfl, o3, rfl⟩)).mono ?_; rintro e w4 ⟨va, H4, rfl, k4, r4⟩)
    | (go_at_call 13; refine ((F_rows_Slice_new n _ _ _ _ f.sl).calls e13 k4.sat (vs := [vo, .int .i64 s, .int .i64 m]) (by simp only [RepL]; exact ⟨_, _, rfl, RepP.mono k4.le o3, _, _, rfl, by simp only [RepP], _, _, rfl, by simp only [RepP], rfl⟩)).mono ?_; rintro e w5 ⟨vb, H5, rfl, k5, r5⟩)
    | (go_at_call 15; refine ((F_R17_Unique_ok n _ _ f.run).calls e15 k5.sat (vs := [vl]) (by simp only [RepL]; exact ⟨_, _, rfl, RepP.mono (k4.le.trans k5.le) m3, rfl⟩)).mono ?_; rintro e w6 ⟨vc, H6, rfl, k6, r6⟩)
    | (go_at_call 14; refine ((F_R17_Same_ok n _ _ _ f.s3).calls e14 t11 (vs := [vo, vl]) (by simp only [RepL]; exact ⟨_, _, rfl, o3, _, _, rfl, m3, rfl⟩)).mono ?_; rintro e w12 ⟨v, H12, rfl, k12, r12⟩; simp only [RepP] at r12; subst r12; have done12 := k12.keep)
    | (go_at_call 14; refine ((F_R17_Same_ok n _ _ _ f.s2).calls e14 k8.sat (vs := [vb, vd]) (by simp only [RepL]; exact ⟨_, _, rfl, RepP.mono ((k6.le.trans k7.le).trans k8.le) (rep_plain (fun _ _ _ h => h) r5), _, _, rfl, r8, rfl⟩)).mono ?_; rintro e w9 ⟨v, H9, rfl, k9, r9⟩; simp only [RepP] at r9; subst r9; have z9 := spoil_two k9.sat (RepP.mono ((((k5.le.trans k6.le).trans k7.le).trans k8.le).trans k9.le) r4) (RepP.mono (((k6.le.trans k7.le).trans k8.le).trans k9.le) r5) f.ba f.bb; have q9 := ((((k4.keep.trans k5.keep).trans k6.keep).trans k7.keep).trans k8.keep).trans k9.keep; clear k4 k5 k6 k7 k8 k9)
    | (go_at_call 14; refine ((F_R17_Same_ok n _ _ _ f.s1).calls e14 k6.sat (vs := [va, vc]) (by simp only [RepL]; exact ⟨_, _, rfl, RepP.mono (k5.le.trans k6.le) (rep_plain (fun _ _ _ h => h) r4), _, _, rfl, r6, rfl⟩)).mono ?_; rintro e w7 ⟨v, H7, rfl, k7, r7⟩; simp only [RepP] at r7; subst r7)
    | (go_at_call 16; refine ((F_R17_Slice_ok n _ _ _ _ f.rsl).calls e16 k7.sat (vs := [vl, .int .i64 s, .int .i64 m]) (by simp only [RepL]; exact ⟨_, _, rfl, RepP.mono (((k4.le.trans k5.le).trans k6.le).trans k7.le) m3, _, _, rfl, by simp only [RepP], _, _, rfl, by simp only [RepP], rfl⟩)).mono ?_; rintro e w8 ⟨vd, H8, rfl, k8, r8⟩)
    | (go_at_call 17; refine z9.mono ?_; rintro e w10 ⟨rfl, z10⟩; clear z9)
    | (go_at_call 17; refine z10.mono ?_; rintro e w11 ⟨rfl, z11⟩; clear z10; have b11 : ∀ k, k < w3.heap.size → w11.heap[k]? = w3.heap[k]? := fun k hk => (z11.block k (Nat.lt_of_lt_of_le hk q9.size) (by omega)).trans (q9.block k hk id); have t11 := SatH.block t3 (Nat.le_trans q9.size z11.size) (fun b o v hv => b11 b (t3.lt hv)))
    | (go_at_call 10; refine ((F_L17_works_ok n _ f.works).calls e10 k12.sat (vs := []) (by simp only [RepL])).mono ?_; rintro e w13 ⟨v, H13, rfl, k13, r13⟩; simp only [RepP] at r13; subst r13))
  go_ret
  have s11 := Nat.le_trans q9.size z11.size
  have h13 : ∀ k, k < w3.heap.size → w13.heap[k]? = w3.heap[k]? := fun k hk =>
    (k13.keep.block k (Nat.lt_of_lt_of_le (Nat.lt_of_lt_of_le hk s11) k12.keep.size) id).trans ((k12.keep.block k (Nat.lt_of_lt_of_le hk s11) id).trans (b11 k hk))
  refine ⟨rfl, ?_, ?_, ?_, ?_, fun k hk => (h13 k (Nat.lt_of_lt_of_le hk q3.size)).trans (q3.block k hk id)⟩
  · exact k13.keep.os.trans (k12.keep.os.trans (z11.os.trans (q9.os.trans q3.os)))
  · exact k13.keep.tape.trans (k12.keep.tape.trans (z11.tape.trans (q9.tape.trans q3.tape)))
  · exact k13.keep.output.trans (k12.keep.output.trans (z11.output.trans (q9.output.trans q3.output)))
  · exact Nat.le_trans (Nat.le_trans (Nat.le_trans q3.size s11) k12.keep.size) k13.keep.size
set_option maxHeartbeats 1000000 in
theorem unique_small {n : Nat} {l : List (List Val)} {s m c : Int} (fw : F_L17_wide n l = some c) (ff : F_L17_few n l c = some false) (fk : F_L17_works n = some true) {Lw : Nat} {H : PH Lw} {w : World} {vl : Value} (hs : SatH H w) (rl : RepP H (.sl (slRows valC l)) vl) :
    Calls Tryd.prog 3 #[vl, .int .i64 s, .int .i64 m] w fun e w' => e = .returned (.bool true) ∧ Below w.heap.size w w' := by
  have e9 : Ax.Enters Tryd.prog 9 := fun _ _ => Tryd.call9 _ _
  have e8 : Ax.Enters Tryd.prog 8 := fun _ _ => Tryd.call8 _ _
  have e10 : Ax.Enters Tryd.prog 10 := fun _ _ => Tryd.call10 _ _
  go_enter Tryd.func3, Tryd.ntmps3
  go_wp2_with (first
    | (go_at_call 9; refine ((F_L17_wide_ok n _ _ fw).calls e9 hs (vs := [vl]) (by simp only [RepL]; exact ⟨_, _, rfl, rl, rfl⟩)).mono ?_; rintro e w1 ⟨v, H1, rfl, k1, r1⟩; simp only [RepP] at r1; subst r1)
    | (go_at_call 8; refine ((F_L17_few_ok n _ _ _ ff).calls e8 k1.sat (vs := [vl, .int .i64 c]) (by simp only [RepL]; exact ⟨_, _, rfl, RepP.mono k1.le rl, _, _, rfl, by simp only [RepP], rfl⟩)).mono ?_; rintro e w2 ⟨v, H2, rfl, k2, r2⟩; simp only [RepP] at r2; subst r2)
    | (go_at_call 10; refine ((F_L17_works_ok n _ fk).calls e10 k2.sat (vs := []) (by simp only [RepL])).mono ?_; rintro e w3 ⟨v, H3, rfl, k3, r3⟩; simp only [RepP] at r3; subst r3))
  go_ret
  exact ⟨rfl, ((k1.trans k2).trans k3).below⟩
end W
end
section
open Go Go.Proofs Ax Go.RowKit
namespace W
set_option maxRecDepth 10000
open Classical
theorem copy3_id : ∀ n : Nat, n ≤ 1073741824 → ∀ v : Val, vbig v < n → F_R03_Copy n v = some v := by
  intro n
  induction n with
  | zero => intro _ _ h; omega
  | succ n ih =>
    intro hn v hv
    obtain ⟨x1, x2, x3, x4, x5, x6⟩ := v
    have hb : vbigL x5 < n ∧ x6.length < n := by
      have := nbig_len x6
      simp only [nbig] at this
      simp only [vbig] at hv
      omega
    have hl := vbigL_len x5
    have loop : ∀ (m i : Nat), i ≤ x5.length → x5.length - i < m → loopK (F_R03_Copy_l1 n x5 (F_R03_Copy n) x6 x1 x2 x3 x4) m (x5.take i, (i : Int)) = some (Val.mk x1 x2 x3 x4 x5 x6) := by
      intro m
      induction m with
      | zero => intro i _ h; omega
      | succ m ihm =>
        intro i hi hm
        rw [loopK_succ]
        generalize loopK (F_R03_Copy_l1 n x5 (F_R03_Copy n) x6 x1 x2 x3 x4) m = nx at ihm ⊢
        unfold F_R03_Copy_l1
        simp only [valRows_len]
        by_cases hlt : i < x5.length
        · obtain ⟨x, hx⟩ : ∃ x, x5[i]? = some x := ⟨_, List.getElem?_eq_getElem hlt⟩
          have hc := ih (by omega) x (by have := vbigL_mem (List.mem_of_getElem? hx); omega)
          obtain ⟨a1, a2, a3, a4, a5, a6⟩ := x
          rw [decide_eq_true (show (i : Int) < (x5.length : Int) by omega)]
          have e : x5.take i ++ [Val.mk a1 a2 a3 a4 a5 a6] = x5.take (i + 1) := by rw [List.take_succ, hx]; rfl
          simp only [cond_true, Ax.idx_nat, hx, bnd_eq, hc, e]
          rw [chk_dec (by rw [List.length_take]; omega), wrapN (by omega)]
          exact ihm (i + 1) (by omega) (by omega)
        · rw [decide_eq_false (show ¬ (i : Int) < (x5.length : Int) by omega)]
          simp only [cond_false]
          rw [chk_dec (by simp only [strs, List.length_map]; omega), List.take_of_length_le (by omega)]
    exact loop n 0 (Nat.zero_le _) (by omega)
theorem copy17_id {n : Nat} (hn : n ≤ 1073741824) {l : List (List Val)} (hs : 60 * rbig l + 1000 < n) : F_R17_Copy n l = some l := by
  have hll := rbig_len l
  have loop : ∀ (m i : Nat), i ≤ l.length → l.length - i < m → loopK (F_R17_Copy_l1 n l) m (l.take i, (i : Int)) = some l := by
    intro m
    induction m with
    | zero => intro i _ h; omega
    | succ m ih =>
      intro i hi hm
      rw [loopK_succ]
      generalize loopK (F_R17_Copy_l1 n l) m = nx at ih ⊢
      unfold F_R17_Copy_l1
      simp only [slen]
      by_cases hlt : i < l.length
      · obtain ⟨r, hr⟩ : ∃ x, l[i]? = some x := ⟨_, List.getElem?_eq_getElem hlt⟩
        have hb := rbig_mem (List.mem_of_getElem? hr)
        have h3 := vbigL3 r
        have h4 := vbigL_len r
        rw [decide_eq_true (show (i : Int) < (l.length : Int) by omega)]
        simp only [cond_true]
        have inner : ∀ (m j : Nat), j ≤ r.length → r.length - j < m → loopK (F_R17_Copy_l2 n l (i : Int) (l.take i) nx) m (r.take j, (j : Int)) = nx (l.take (i + 1), ((i + 1 : Nat) : Int)) := by
          intro m
          induction m with
          | zero => intro j _ h; omega
          | succ m ihm =>
            intro j hj hm
            rw [loopK_succ]
            generalize loopK (F_R17_Copy_l2 n l (i : Int) (l.take i) nx) m = nx2 at ihm ⊢
            unfold F_R17_Copy_l2
            simp only [Ax.idx_nat, hr, bnd_eq, valRows_len]
            by_cases hjt : j < r.length
            · obtain ⟨x, hx⟩ : ∃ x, r[j]? = some x := ⟨_, List.getElem?_eq_getElem hjt⟩
              have hc := copy3_id n hn x (by have := vbigL_mem (List.mem_of_getElem? hx); omega)
              obtain ⟨a1, a2, a3, a4, a5, a6⟩ := x
              rw [decide_eq_true (show (j : Int) < (r.length : Int) by omega)]
              have e : r.take j ++ [Val.mk a1 a2 a3 a4 a5 a6] = r.take (j + 1) := by rw [List.take_succ, hx]; rfl
              simp only [cond_true, hx, bnd_eq, hc, e]
              rw [chk_dec (by rw [List.length_take]; omega), wrapN (by omega)]
              exact ihm (j + 1) (by omega) (by omega)
            · rw [decide_eq_false (show ¬ (j : Int) < (r.length : Int) by omega)]
              simp only [cond_false]
              have ej : r.take j = r := List.take_of_length_le (by omega)
              rw [ej]
              have e : l.take i ++ [r] = l.take (i + 1) := by rw [List.take_succ, hr]; rfl
              rw [e, slen, chk_dec (by rw [List.length_take]; omega), wrapN (by omega)]
        have := inner n 0 (Nat.zero_le _) (by omega)
        simp only [List.take_zero] at this
        show loopK (F_R17_Copy_l2 n l (i : Int) (l.take i) nx) n ([], ((0 : Nat) : Int)) = _
        rw [this]
        exact ih (i + 1) (by omega) (by omega)
      · rw [decide_eq_false (show ¬ (i : Int) < (l.length : Int) by omega)]
        simp only [cond_false]
        rw [List.take_of_length_le (by omega)]
  exact loop n 0 (Nat.zero_le _) (by omega)
theorem all_id {n : Nat} (hn : n ≤ 1073741824) {l : List (List Val)} (hs : 60 * rbig l + 1000 < n) : F_rows_all n l = some l := by
  have hll := rbig_len l
  have loop : ∀ (m i : Nat), i ≤ l.length → l.length - i < m → loopK (F_rows_all_l1 n l) m (l.take i, (i : Int)) = some l := by
    intro m
    induction m with
    | zero => intro i _ h; omega
    | succ m ih =>
      intro i hi hm
      rw [loopK_succ]
      generalize loopK (F_rows_all_l1 n l) m = nx at ih ⊢
      unfold F_rows_all_l1
      simp only [slen]
      by_cases hlt : i < l.length
      · obtain ⟨r, hr⟩ : ∃ x, l[i]? = some x := ⟨_, List.getElem?_eq_getElem hlt⟩
        have hb := rbig_mem (List.mem_of_getElem? hr)
        have h3 := vbigL3 r
        rw [decide_eq_true (show (i : Int) < (l.length : Int) by omega)]
        have e : l.take i ++ [r] = l.take (i + 1) := by rw [List.take_succ, hr]; rfl
        simp only [cond_true, Ax.idx_nat, hr, bnd_eq, copied_id hn (l := r) (by omega), e]
        rw [chk_dec (by rw [List.length_take]; omega), wrapN (by omega)]
        exact ih (i + 1) (by omega) (by omega)
      · rw [decide_eq_false (show ¬ (i : Int) < (l.length : Int) by omega)]
        simp only [cond_false]
        rw [List.take_of_length_le (by omega)]
  exact loop n 0 (Nat.zero_le _) (by omega)
/-- Some of the rows. -/
def partS (l : List (List Val)) (s m : Int) : List (List Val) := (l.drop s.toNat).take m.toNat
theorem rbig_take (l : List (List Val)) (k : Nat) : rbig (l.take k) ≤ rbig l := by
  induction l generalizing k with
  | nil => simp
  | cons a l ih =>
    cases k with
    | zero => simp [rbig]
    | succ k => simp only [List.take_succ_cons, rbig]; have := ih k; omega
theorem rbig_drop (l : List (List Val)) (k : Nat) : rbig (l.drop k) ≤ rbig l := by
  induction l generalizing k with
  | nil => simp
  | cons a l ih =>
    cases k with
    | zero => simp
    | succ k => simp only [List.drop_succ_cons, rbig]; have := ih k; omega
theorem clamp (len : Nat) (s : Int) : (bif decide ((bif decide ((len : Int) < s) then (len : Int) else s) > (0 : Int)) then (bif decide ((len : Int) < s) then (len : Int) else s) else (0 : Int)) = ((min s.toNat len : Nat) : Int) := by
  by_cases h : (len : Int) < s
  · rw [decide_eq_true h]
    simp only [cond_true]
    by_cases h0 : (len : Int) > 0
    · rw [decide_eq_true h0]; simp only [cond_true]; omega
    · rw [decide_eq_false h0]; simp only [cond_false]; omega
  · rw [decide_eq_false h]
    simp only [cond_false]
    by_cases h0 : s > 0
    · rw [decide_eq_true h0]; simp only [cond_true]; omega
    · rw [decide_eq_false h0]; simp only [cond_false]; omega
theorem slice_eq {n : Nat} (hn : n ≤ 1073741824) {l : List (List Val)} (hs : 60 * rbig l + 1000 < n) (s m : Int) : F_rows_Slice n l s m = some (partS l s m) := by
  unfold F_rows_Slice
  simp only [slen]
  rw [clamp, Ax.natI_nat]
  simp only [bnd_eq]
  rw [chk_dec (by omega), clamp, Ax.natI_nat]
  simp only [bnd_eq]
  rw [chk_dec (by omega)]
  have h1 := rbig_take (l.drop (min s.toNat l.length)) (min m.toNat (l.drop (min s.toNat l.length)).length)
  have h2 := rbig_drop l (min s.toNat l.length)
  rw [all_id hn (by omega)]
  simp only [bnd_eq]
  congr 1
  unfold partS
  have e1 : l.drop (min s.toNat l.length) = l.drop s.toNat := by
    by_cases h : s.toNat ≤ l.length
    · rw [Nat.min_eq_left h]
    · rw [List.drop_eq_nil_of_le (by omega), List.drop_eq_nil_of_le (by omega)]
  rw [e1]
  by_cases h : m.toNat ≤ (l.drop s.toNat).length
  · rw [Nat.min_eq_left h]
  · rw [List.take_of_length_le (by omega), List.take_of_length_le (by omega)]
theorem rslice_eq {n : Nat} (hn : n ≤ 1073741824) {l : List (List Val)} (hs : 60 * rbig l + 1000 < n) (s m : Int) : F_R17_Slice n l s m = some (partS l s m) := by
  have hll := rbig_len l
  have loop : ∀ (k i : Nat), i ≤ l.length → l.length - i < k → loopK (F_R17_Slice_l1 n l s m) k (partS (l.take i) s m, (i : Int)) = some (partS l s m) := by
    intro k
    induction k with
    | zero => intro i _ h; omega
    | succ k ih =>
      intro i hi hm
      rw [loopK_succ]
      generalize loopK (F_R17_Slice_l1 n l s m) k = nx at ih ⊢
      unfold F_R17_Slice_l1
      simp only [slen]
      by_cases hlt : i < l.length
      · obtain ⟨r, hr⟩ : ∃ x, l[i]? = some x := ⟨_, List.getElem?_eq_getElem hlt⟩
        have e : l.take (i + 1) = l.take i ++ [r] := by rw [List.take_succ, hr]; rfl
        have hti : (l.take i).length = i := by rw [List.length_take]; omega
        rw [decide_eq_true (show (i : Int) < (l.length : Int) by omega)]
        simp only [cond_true]
        have step : ∀ p, p = partS (l.take (i + 1)) s m → F_R17_Slice_k3 n nx (i : Int) p = some (partS l s m) := by
          rintro p rfl
          unfold F_R17_Slice_k3
          rw [wrapN (by omega)]
          exact ih (i + 1) (by omega) (by omega)
        have hpl : (partS (l.take i) s m).length ≤ i := by unfold partS; rw [List.length_take, List.length_drop, hti]; omega
        by_cases hsi : s ≤ (i : Int)
        · rw [decide_eq_true (show (i : Int) ≥ s from hsi)]
          simp only [cond_true]
          have ed : (l.take (i + 1)).drop s.toNat = (l.take i).drop s.toNat ++ [r] := by
            rw [e, List.drop_append_of_le_length (by omega)]
          by_cases hml : ((partS (l.take i) s m).length : Int) < m
          · rw [decide_eq_true hml]
            simp only [cond_true, Ax.idx_nat, hr, bnd_eq]
            have hlen2 : ((l.take i).drop s.toNat).length < m.toNat := by
              unfold partS at hml
              rw [List.length_take] at hml
              omega
            rw [chk_dec (by rw [List.length_append, List.length_singleton]; omega)]
            refine step _ ?_
            unfold partS
            have q1 : ((l.take i).drop s.toNat).take m.toNat = (l.take i).drop s.toNat := List.take_of_length_le (by omega)
            have q2 : ((l.take i).drop s.toNat ++ [r]).take m.toNat = (l.take i).drop s.toNat ++ [r] := List.take_of_length_le (by rw [List.length_append, List.length_singleton]; omega)
            rw [ed, q1, q2]
          · rw [decide_eq_false hml]
            simp only [cond_false]
            refine step _ ?_
            have hlen2 : m.toNat ≤ ((l.take i).drop s.toNat).length := by
              unfold partS at hml
              rw [List.length_take] at hml
              omega
            unfold partS
            rw [ed, List.take_append_of_le_length hlen2]
        · rw [decide_eq_false (show ¬ (i : Int) ≥ s from hsi)]
          simp only [cond_false]
          refine step _ ?_
          unfold partS
          rw [List.drop_eq_nil_of_le (by rw [hti]; omega), List.drop_eq_nil_of_le (by rw [List.length_take]; omega)]
      · rw [decide_eq_false (show ¬ (i : Int) < (l.length : Int) by omega)]
        simp only [cond_false]
        rw [List.take_of_length_le (by omega)]
  have h0 := loop n 0 (Nat.zero_le _) (by omega)
  have e0 : partS (l.take 0) s m = [] := by simp [partS]
  rw [e0] at h0
  exact h0
theorem among_eq {n : Nat} (hn : n ≤ 1073741824) {l : List (List Val)} (r : List Val) (hs : ∀ x ∈ l, 40 * bigs x + 40 < n) (hl : l.length < n) : ∃ i, F_R17_Among n r l = some i ∧ (i < 0 ↔ r ∉ l) := by
  have loop : ∀ (m i : Nat), i ≤ l.length → l.length - i < m → ∃ k, loopK (F_R17_Among_l1 n l r) m (i : Int) = some k ∧ (k < 0 ↔ r ∉ l.drop i) := by
    intro m
    induction m with
    | zero => intro i _ h; omega
    | succ m ih =>
      intro i hi hm
      rw [loopK_succ]
      generalize loopK (F_R17_Among_l1 n l r) m = nx at ih ⊢
      unfold F_R17_Among_l1
      simp only [slen]
      by_cases hlt : i < l.length
      · obtain ⟨x, hx⟩ : ∃ x, l[i]? = some x := ⟨_, List.getElem?_eq_getElem hlt⟩
        have hd : l.drop i = x :: l.drop (i + 1) := by
          obtain ⟨_, e⟩ := List.getElem?_eq_some_iff.1 hx
          rw [List.drop_eq_getElem_cons hlt, e]
        rw [decide_eq_true (show (i : Int) < (l.length : Int) by omega), hd]
        simp only [cond_true, Ax.idx_nat, hx, bnd_eq, sameList_eq hn (hs x (List.mem_of_getElem? hx))]
        by_cases hxr : x = r
        · subst hxr
          simp only [decide_true, cond_true]
          exact ⟨_, rfl, by simp⟩
        · simp only [decide_eq_false hxr, cond_false]
          rw [wrapN (by omega)]
          obtain ⟨k, h1, h2⟩ := ih (i + 1) (by omega) (by omega)
          refine ⟨k, h1, h2.trans ?_⟩
          simp [Ne.symm hxr]
      · rw [decide_eq_false (show ¬ (i : Int) < (l.length : Int) by omega), List.drop_eq_nil_of_le (by omega)]
        exact ⟨-1, rfl, by simp⟩
  obtain ⟨k, h1, h2⟩ := loop n 0 (Nat.zero_le _) (by omega)
  exact ⟨k, h1, by simpa using h2⟩
theorem runique_eq {n c : Nat} {l : List (List Val)} (hl : OkL n c l) : F_R17_Unique n l = some (uniq l) := by
  have hn := hl.lim
  have hs := hl.small
  have hll := rbig_len l
  have loop : ∀ (m i : Nat) (out : List (List Val)), i ≤ l.length → l.length - i < m → out.length ≤ i → (∀ r ∈ out, OkR n c r) → loopK (F_R17_Unique_l1 n l) m (out, (i : Int)) = some (uniqA out (l.drop i)) := by
    intro m
    induction m with
    | zero => intro i _ _ h; omega
    | succ m ih =>
      intro i out hi hm ho hok
      rw [loopK_succ]
      generalize loopK (F_R17_Unique_l1 n l) m = nx at ih ⊢
      unfold F_R17_Unique_l1
      simp only [slen]
      by_cases hlt : i < l.length
      · obtain ⟨r, hr⟩ : ∃ x, l[i]? = some x := ⟨_, List.getElem?_eq_getElem hlt⟩
        have hd : l.drop i = r :: l.drop (i + 1) := by
          obtain ⟨_, e⟩ := List.getElem?_eq_some_iff.1 hr
          rw [List.drop_eq_getElem_cons hlt, e]
        obtain ⟨k, h1, h2⟩ := among_eq hn r (l := out) (fun x hx => (hok x hx).small) (by omega)
        rw [decide_eq_true (show (i : Int) < (l.length : Int) by omega), hd]
        simp only [cond_true, Ax.idx_nat, hr, bnd_eq, h1]
        unfold F_R17_Unique_k3
        by_cases hin : r ∈ out
        · rw [decide_eq_false (fun h => (h2.1 h) hin)]
          simp only [cond_false, uniqA, if_pos hin]
          rw [wrapN (by omega)]
          exact ih (i + 1) out (by omega) (by omega) (by omega) hok
        · rw [decide_eq_true (h2.2 hin)]
          simp only [cond_true, uniqA, if_neg hin]
          rw [chk_dec (by rw [List.length_append, List.length_singleton]; omega), wrapN (by omega)]
          refine ih (i + 1) _ (by omega) (by omega) (by rw [List.length_append, List.length_singleton]; omega) fun x hx => ?_
          rcases List.mem_append.1 hx with h | h
          · exact hok x h
          · simp at h; subst h; exact hl.row _ (List.mem_of_getElem? hr)
      · rw [decide_eq_false (show ¬ (i : Int) < (l.length : Int) by omega), List.drop_eq_nil_of_le (by omega)]
        rfl
  exact loop n 0 [] (Nat.zero_le _) (by omega) (Nat.le_refl _) (fun _ h => by cases h)
mutual
theorem vsz_le : ∀ v : Val, vsz v ≤ vbig v
  | .mk _ _ _ _ l ks => by
    have h1 := vszL_le l
    have h2 := nbig_len ks
    simp only [nbig] at h2
    simp only [vsz, vbig]
    omega
theorem vszL_le : ∀ l : List Val, vszL l ≤ vbigL l
  | [] => by simp [vszL]
  | v :: l => by
    have h1 := vsz_le v
    have h2 := vszL_le l
    simp only [vszL, vbigL]
    omega
end
theorem works_run (m : Nat) : F_L17_works (m + 60) = some true := by kernel_rfl
theorem uniqA_length (acc l : List (List Val)) : (uniqA acc l).length ≤ acc.length + l.length := by
  induction l generalizing acc with
  | nil => exact Nat.le_refl _
  | cons a l ih =>
    simp only [uniqA]
    split
    · have := ih acc; simp only [List.length_cons]; omega
    · have := ih (acc ++ [a]); simp only [List.length_append, List.length_cons, List.length_nil] at this ⊢; omega
/-- Too many, or all that the law asks. -/
theorem unique_facts {n : Nat} (hn : n ≤ 1073741824) {l : List (List Val)} (hs : 60 * rbig l + 1000 < n) (hrg : rangeR l = true) (s m : Int) :
    ∃ c : Int, F_L17_wide n l = some c ∧ F_L17_works n = some true ∧ (F_L17_few n l c = some false ∨ ∃ a a' b b', Facts n l a a' b b' s m c) := by
  have hll := rbig_len l
  have hw : F_L17_works n = some true := by
    obtain ⟨k, rfl⟩ : ∃ k, n = k + 60 := ⟨n - 60, by omega⟩
    exact works_run k
  have hc : ∃ c : Nat, F_L17_wide n l = some (c : Int) ∧ c < n := by
    unfold F_L17_wide
    cases l with
    | nil => exact ⟨0, rfl, by omega⟩
    | cons r l =>
      have hb := rbig_mem (l := r :: l) (r := r) (by simp)
      have h3 := vbigL3 r
      have h4 := vbigL_len r
      have e : ((((slRows valC (r :: l)).length : Nat) : Int) == (0 : Int)) = false := by
        rw [slen, List.length_cons]
        exact beq_false_of_ne (by omega)
      refine ⟨r.length, ?_, by omega⟩
      rw [e, cond_false, Ax.idx_zero]
      simp
  obtain ⟨c, hc, hcn⟩ := hc
  refine ⟨c, hc, hw, ?_⟩
  obtain ⟨b, h1, h2⟩ := few_eq hn c hs hcn hrg
  cases b with
  | false => exact .inl h1
  | true =>
    refine .inr ⟨uniq l, uniq l, partS l s m, partS l s m, ?_⟩
    obtain ⟨_, ok⟩ := h2 rfl
    have sub : ∀ r ∈ uniq l, r ∈ l := fun r h => (uniqA_sub h).elim (fun h => by cases h) id
    have sub2 : ∀ r ∈ partS l s m, r ∈ l := fun r h => List.mem_of_mem_drop (List.mem_of_mem_take h)
    have ul : (uniq l).length ≤ l.length := by have := uniqA_length [] l; simpa [uniq] using this
    have pl : (partS l s m).length ≤ l.length := by unfold partS; rw [List.length_take, List.length_drop]; omega
    have sz : ∀ r ∈ l, vszL r < 4611686018427387904 := fun r h => by
      have := rbig_mem h
      have := vbigL3 r
      have := vszL_le r
      omega
    exact { wide := hc, few := h1, copy := copy17_id hn hs, un := unique_eq ok, sl := slice_eq hn hs s m, run := runique_eq ok, rsl := rslice_eq hn hs s m, works := hw,
            s1 := by rw [same_eq hn (fun r h => (ok.row r (sub r h)).small) (by omega)]; simp,
            s2 := by rw [same_eq hn (fun r h => (ok.row r (sub2 r h)).small) (by omega)]; simp,
            s3 := by rw [same_eq hn (fun r h => (ok.row r h).small) (by omega)]; simp,
            ba := ⟨by omega, fun r h => sz r (sub r h)⟩, bb := ⟨by omega, fun r h => sz r (sub2 r h)⟩ }
end W
end
section
namespace W
open Go Go.Proofs Ax Go.RowKit Go.ChangeShapes Go.WideShapes Go.ChangeAt
open Go.Proofs.YtajcpfcghhbbnaaDoor Go.ChangeMaps
theorem law_unique {n : Nat} (hn : n ≤ 1073741824) {l : List (List Val)} (hs : 60 * rbig l + 1000 < n) (hrg : rangeR l = true) (s m : Int) {Lw : Nat} {H : PH Lw} {w : World} {vl : Value} (h1 : SatH H w) (h2 : RepP H (.sl (slRows valC l)) vl) :
    Calls Tryd.prog 3 #[vl, .int .i64 s, .int .i64 m] w fun e w' => e = .returned (.bool true) ∧ Below w.heap.size w w' := by
  obtain ⟨c, hc, hk, h | ⟨a, a', b, b', h⟩⟩ := unique_facts hn hs hrg s m
  · exact unique_small hc h hk h1 h2
  · exact unique_walk h h1 h2

set_option maxRecDepth 100000 in
theorem contract3 (H : Type) (enc : TypeId × Value → H) (W : World) (base : Nat) (args : Array Value) (ds gs : List (DataW H)) (before : List MemPlace)
    (hval : ∀ (j : Nat) t v, Tryd.f3.params[j]? = some t → args[j]? = some v → Value.okWide Tryd.prog W .any base t v)
    (hW : DataW.Whole enc Tryd.prog Tryd.f3.params.toList Rows.rowsUniqueSpec.vars false W args.toList ds gs before) (hk : Rows.uptoSmall H (ds ++ gs) = true) (hsh : W.ShapedOpen Tryd.prog) :
    Calls Tryd.prog 3 args W fun e W' => ∃ v, e = .returned v ∧ Rows.rowsUniqueSpec.post enc Tryd.prog Tryd.f3 false true false false W args v W' := by
  have hW' := hW
  obtain ⟨p, q, hA, hV, rfl, hfz, hnd⟩ := hW
  rw [Tryd.params3] at hA hval
  obtain ⟨v0, vs0, d0, ds0, p0, q0, hargs0, rfl, rfl, h0, r0⟩ := trodAll_cons hA
  obtain ⟨v1, vs1, d1, ds1, p1, q1, hargs1, rfl, rfl, h1, r1⟩ := trodAll_cons r0
  obtain ⟨v2, vs2, d2, ds2, p2, q2, hargs2, rfl, rfl, h2, r2⟩ := trodAll_cons r1
  obtain ⟨rfl, rfl, rfl⟩ := trodAll_nil r2
  subst hargs1
  subst hargs2
  obtain ⟨x0, rx0, bx0, ix0⟩ := reads_argRows (hval 0 22 v0 rfl (by have := congrArg (fun l => l[0]?) hargs0; simpa using this)) h0
  obtain ⟨x1, rfl, -⟩ := open_int Tryd.underlying2 (hval 1 2 v1 rfl (by have := congrArg (fun l => l[1]?) hargs0; simpa using this)) h1
  obtain ⟨x2, rfl, -⟩ := open_int Tryd.underlying2 (hval 2 2 v2 rfl (by have := congrArg (fun l => l[2]?) hargs0; simpa using this)) h2
  have hb := of_decide_eq_true hk
  simp only [List.cons_append, Rows.uptoBulkAll] at hb
  have hc := law_unique (n := 67108864) (w := W) (H := heapH W) (by omega) (by omega) ix0 x1 x2 (heapH_sat (root hsh)) rx0
  have ea : args = #[v0, .int .i64 x1, .int .i64 x2] := by rw [← Array.toList_inj, hargs0]
  rw [ea]
  refine hc.mono fun e W' ⟨he, c⟩ => ⟨.bool true, he, ?_⟩
  obtain ⟨-, rfl⟩ : True ∧ gs = [] := ⟨trivial, by obtain ⟨h1, h2⟩ := trodVars_none hV; first | exact h1 | exact h2⟩
  exact post_law (tb := 4) laidOut (by kernel_rfl) (ea ▸ hW') c rfl rfl (by kernel_rfl) Tryd.underlying4

theorem plain3 (f : FuncId) (fn : Func) (hf : Tryd.pinned.checked.prog.funcNamed "wattle/wattlelaw17.RowsUnique" = some f) (hfn : Tryd.pinned.checked.prog.funcs[f]? = some fn) :
    false = Tryd.pinned.checked.prog.looks [] ∧ ∀ (j : Nat) t, fn.params[j]? = some t → Tryd.pinned.checked.prog.wantsStandIn t = false := by
  obtain rfl : f = 3 := Option.some.inj ((show Tryd.prog.funcNamed "wattle/wattlelaw17.RowsUnique" = some 3 by kernel_rfl).symm.trans hf) |>.symm
  obtain rfl : fn = Tryd.f3 := (Option.some.inj (Tryd.func3.symm.trans hfn)).symm
  refine ⟨by kernel_rfl, fun j t ht => ?_⟩
  rw [Tryd.params3] at ht
  have := Array.mem_of_getElem? ht
  simp only [List.mem_toArray, List.mem_cons, List.not_mem_nil, or_false] at this
  rcases this with rfl | rfl | rfl
  · exact (show Tryd.prog.wantsStandIn 22 = false by kernel_rfl)
  · exact (show Tryd.prog.wantsStandIn 2 = false by kernel_rfl)
  · exact (show Tryd.prog.wantsStandIn 2 = false by kernel_rfl)

theorem laid_met3 (os : Os) : laidMet Tryd.prog Rows.rowsUniqueUptoRow.laid ((laidWorld os).forCall (fun _ _ => 0) ⟨#[], #[V0, .int .i64 0, .int .i64 0], []⟩).memory :=
  laidMet_of_run' 8 (by kernel_rfl) (by kernel_rfl)
theorem reads3 (os : Os) {H : Type} (enc : TypeId × Value → H) : ∃ places, DataW.whole enc Tryd.prog ((laidWorld os).forCall (fun _ _ => 0) ⟨#[], #[V0, .int .i64 0, .int .i64 0], []⟩).memory Tryd.f3.params.toList Rows.rowsUniqueSpec.vars false #[V0, .int .i64 0, .int .i64 0].toList 8 = some ([D0 H, .lit (.int .i64 0), .lit (.int .i64 0)], [], places) :=
  ⟨[], by kernel_rfl⟩

set_option maxRecDepth 100000 in
theorem lifted3 (os : Os) (started : os.Started) (H : Type) (enc : TypeId × Value → H) (F : Stop.Interp) :
    ReturnsInHanded {} Tryd.checked os 3 .any ((Rows.OpenSpec.upto Rows.rowsUniqueSpec).preRow enc Tryd.prog Tryd.f3 Rows.rowsUniqueUptoRow.domain false Rows.rowsUniqueUptoRow.laid) (((Rows.OpenSpec.upto Rows.rowsUniqueSpec).at F).post enc Tryd.prog Tryd.f3 false true false false) := by
  obtain ⟨places, hx⟩ := reads3 os enc
  refine returnsInHanded_of_row (C := Tryd.checked) (s := Rows.OpenSpec.upto Rows.rowsUniqueSpec) own started (by kernel_rfl) Tryd.func3
    (witness_row_at (enc := enc) (C := Tryd.checked) false (laidWorld os) #[V0, .int .i64 0, .int .i64 0] rfl (by kernel_rfl) (by kernel_rfl) (by kernel_rfl)
      (OpenSpec.preRow_of_cond 8 hx (by kernel_rfl) (fun k hk => by cases hk; kernel_rfl) (by kernel_rfl) (laid_met3 os))) ?_
  intro W base args ds gs before hval hW _ hcond _ _ hsh _
  exact contract3 H enc W base args ds gs before hval hW (hcond _ rfl) hsh

theorem saidUpto3 : Rows.RowsUniqueUptoSaid :=
  OpenClaim.holds_of_cond 3 Tryd.f3 rfl rfl rfl rfl rfl rfl rfl ⟨rfl, rfl, rfl, rfl, rfl⟩ rfl rfl rfl rfl rfl (by kernel_rfl) Tryd.func3 (by kernel_rfl)
    (of_decide_eq_true (by kernel_rfl)) (by unfold Func.isWrapper; first | (rw [if_pos (by decide +kernel)]; kernel_rfl) | (rw [if_neg (by decide +kernel)]; exact ⟨rfl, rfl⟩))
    (fun os started H enc _ F => by rw [OpenClaim.pre_eq_preRow]; exact lifted3 os started H enc F)
theorem cardUpto3 : Rows.RowsUniqueUptoCardSaid :=
  Claim7.holds_tied_plain_at .later [] _ _ _ _ saidUpto3 (fun _ h => by cases h) (by kernel_rfl) (fun _ h => by cases h) rowsUniqueUpto_row_tie rfl ⟨rfl, rfl⟩ (by kernel_rfl) rfl plain3 (by kernel_rfl)
end W
end
