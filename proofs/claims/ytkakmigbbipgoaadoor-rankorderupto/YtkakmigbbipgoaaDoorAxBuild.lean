/- Literals of structs, arrays and slices; pointers against nil; bytes as a text. -/
import Derived.Test.YtkakmigbbipgoaaDoorAxOps
import Derived.Laws.IdiomStrings
import Derived.Laws.BytesArg
import Derived.Lib.Builder
namespace Ax
open Go

section
variable {P : Program}

/-! ### Cells written over others -/
theorem fold_set (off : Nat) : ∀ (l : List Value) (k : Nat) (cs : Array Value), off + k + l.length ≤ cs.size →
    ((l.zipIdx k).foldl (fun (cs : Array Value) (x : Value × Nat) => cs.setIfInBounds (off + x.2) x.1) cs).toList = cs.toList.take (off + k) ++ l ++ cs.toList.drop (off + k + l.length)
  | [], k, cs, _ => by simp
  | c :: l, k, cs, h => by
    simp only [List.length_cons] at h
    rw [List.zipIdx_cons, List.foldl_cons, fold_set off l (k + 1) _ (by simp; omega)]
    simp only [Array.toList_setIfInBounds, List.length_cons]
    have e : off + (k + 1) = off + k + 1 := by omega
    rw [e, List.take_add_one, List.getElem?_set_self (by simpa using (by omega : off + k < cs.size)), List.take_set_of_le (Nat.le_refl _), List.drop_set_of_lt (by omega)]
    have e2 : off + k + 1 + l.length = off + k + (l.length + 1) := by omega
    rw [e2]
    simp

theorem fill_one (off : Nat) (v : Value) (cs : Array Value) (h : off + v.cells.size ≤ cs.size) :
    (v.cells.zipIdx.foldl (fun (cs : Array Value) (x : Value × Nat) => cs.setIfInBounds (off + x.2) x.1) cs).toList = cs.toList.take off ++ v.cells.toList ++ cs.toList.drop (off + v.cells.size) := by
  rw [← Array.foldl_toList, Array.toList_zipIdx]
  have := fold_set off v.cells.toList 0 cs (by simpa using h)
  simpa using this

theorem overP_spec : ∀ {off : Nat} {vs old : List PV} {R : List PV → Prop}, overP off vs old R → R (old.take off ++ vs ++ old.drop (off + vs.length)) ∧ off + vs.length ≤ old.length
  | 0, [], old, R, h => by simpa [overP] using h
  | 0, v :: vs, [], R, h => by simp [overP] at h
  | 0, v :: vs, a :: old, R, h => by
    simp only [overP] at h
    have := overP_spec (off := 0) h
    simpa using this
  | off + 1, vs, [], R, h => by cases vs <;> simp [overP] at h
  | off + 1, vs, a :: old, R, h => by
    have h' : overP off vs old fun l => R (a :: l) := by cases vs <;> simpa [overP] using h
    have := overP_spec h'
    have e : off + 1 + vs.length = (off + vs.length) + 1 := by omega
    rw [e]
    simpa using this

theorem cellsP_spec {p : PV} {R : List PV → Prop} (h : cellsP p R) : ∃ c, R c ∧ ∀ (H : PH) (x : Value), RepP H p x → RepL H c x.cells.toList := by
  unfold cellsP at h
  split at h
  · rename_i cs
    refine ⟨cs, h, fun H x r => ?_⟩
    simp only [RepP] at r
    obtain ⟨vs, rfl, q⟩ := r
    simpa [Value.cells] using q
  · exact h.elim
  · rename_i h1 h2
    refine ⟨[p], h, fun H x r => ?_⟩
    have hc : x.cells = #[x] := by
      cases p <;> simp only [RepP] at r
      case agg cs => exact absurd rfl (h1 cs)
      case tup cs => exact absurd rfl (h2 cs)
      case sl rows => rcases r with ⟨_, rfl | ⟨_, _, rfl⟩⟩ | ⟨_, _, _, _, rfl, _⟩ <;> rfl
      case ifc t p => obtain ⟨_, rfl, _⟩ := r; rfl
      all_goals (subst r; rfl)
    rw [hc]
    simp only [RepL]
    exact ⟨x, [], rfl, r, rfl⟩

theorem oneP_cell {H : PH} {p : PV} {x : Value} (h : oneP p = true) (r : RepP H p x) : x.oneCell' = true ∧ x.cells = #[x] := by
  cases p <;> simp only [RepP] at r
  case agg cs => simp [oneP] at h
  case tup cs => simp [oneP] at h
  case sl rows => rcases r with ⟨_, rfl | ⟨_, _, rfl⟩⟩ | ⟨_, _, _, _, rfl, _⟩ <;> exact ⟨rfl, rfl⟩
  case ifc t p => obtain ⟨_, rfl, _⟩ := r; exact ⟨rfl, rfl⟩
  all_goals (subst r; exact ⟨rfl, rfl⟩)

theorem RepL.one {H : PH} : ∀ {cs : List PV} {vs : List Value}, (∀ c ∈ cs, oneP c = true) → RepL H cs vs → ∀ u ∈ vs, u.oneCell' = true
  | [], vs, _, r, u, hu => by simp only [RepL] at r; simp [r] at hu
  | c :: cs, vs, h, r, u, hu => by
    simp only [RepL] at r
    obtain ⟨v, vs', rfl, r1, rs⟩ := r
    rcases List.mem_cons.1 hu with rfl | hu
    · exact (oneP_cell (h c (by simp)) r1).1
    · exact RepL.one (fun c hc => h c (by simp [hc])) rs u hu

/-! ### Structs -/
theorem ofVs_spec : ∀ {vs : List Value} {R : List PV → Prop}, ofVs vs R → ∃ ps, R ps ∧ ∀ H, RepL H ps vs
  | [], R, h => ⟨[], h, fun H => by simp [RepL]⟩
  | v :: vs, R, h => by
    simp only [ofVs] at h
    split at h
    · rename_i p hp
      obtain ⟨ps, hr, hs⟩ := ofVs_spec h
      refine ⟨p :: ps, hr, fun H => ?_⟩
      simp only [RepL]
      exact ⟨v, vs, rfl, ofV1_spec hp H, hs H⟩
    · exact h.elim


theorem fillK_spec {E : Env} {g : G} {fs : List Field} : ∀ {parts : List (Nat × Operand)} {cs : List PV} {R : List PV → Prop}, fillK P E g fs parts cs R →
    ∃ cs', R cs' ∧ (gOn g → ∀ (ρ : List Value) (H : PH) (w : World) (eval : Operand → Value) (places : Array (Nat × Nat)) (cells : Array Value), (∀ x ∈ parts.map (·.2), RepF ρ H (evF (lookD E) x) (eval x)) →
      (∀ (i : Nat) (f : Field), fs[i]? = some f → ∀ ti, P.info? f.type = some ti → places[i]? = some (f.offset, ti.size)) → RepL H cs cells.toList →
      ∃ cells', Instr.fill (places[·]?) cells (parts.map fun (i, x) => (i, eval x)) = some cells' ∧ RepL H cs' cells'.toList)
  | [], cs, R, h => ⟨cs, h, fun _ ρ H w eval places cells _ _ r => ⟨cells, rfl, r⟩⟩
  | (i, x) :: l, cs, R, h => by
    simp only [fillK] at h
    obtain ⟨f, hf, h⟩ := nthK_spec h
    split at h
    · rename_i ti hti
      obtain ⟨v, h, hv⟩ := evS_spec h
      obtain ⟨p, h, hp⟩ := frzK_spec h
      obtain ⟨c, h, hc⟩ := cellsP_spec h
      split at h
      · rename_i hsz
        have hsz : c.length = ti.size := Nat.eq_of_beq_eq_true hsz
        obtain ⟨h, hlen⟩ := overP_spec h
        obtain ⟨cs', h, hs⟩ := fillK_spec h
        refine ⟨cs', h, fun hg ρ H w eval places cells hx hpl r => ?_⟩
        have rc := hc H _ (hp _ _ _ (hv ρ H _ hg (hx x (by simp))))
        have hvs : (eval x).cells.size = ti.size := by have := rc.length; simp at this; omega
        have hcl := r.length
        simp at hcl
        have hle : f.offset + (eval x).cells.size ≤ cells.size := by omega
        have h1 := fill_one f.offset (eval x) cells hle
        obtain ⟨cells', e', r'⟩ := hs hg ρ H w eval places ((eval x).cells.zipIdx.foldl (fun (cs : Array Value) (x : Value × Nat) => cs.setIfInBounds (f.offset + x.2) x.1) cells) (fun y hy => hx y (by simp at hy ⊢; exact .inr hy)) hpl (by
          rw [h1, hvs, ← hsz]
          exact ((r.take _).append rc).append (r.drop _))
        refine ⟨cells', ?_, r'⟩
        simp only [List.map_cons, Instr.fill, hpl i f hf ti hti]
        rw [if_neg (by simp [hvs]; omega)]
        exact e'
      · exact h.elim
    · exact h.elim

theorem partsK_spec {E : Env} {g : G} : ∀ {parts : List (Nat × Operand)} {k : Nat} {R : List PV → Prop}, partsK E g k parts R →
    ∃ ps, R ps ∧ ps.length = parts.length ∧ (gOn g → ∀ (ρ : List Value) (H : PH) (eval : Operand → Value), (∀ x ∈ parts.map (·.2), RepF ρ H (evF (lookD E) x) (eval x)) →
      ∃ vals, (parts.map fun (i, x) => (i, eval x)) = (vals.zipIdx k).map (fun (v, i) => (i, v)) ∧ RepL H ps vals)
  | [], k, R, h => ⟨[], h, rfl, fun _ ρ H eval _ => ⟨[], rfl, by simp [RepL]⟩⟩
  | (i, x) :: l, k, R, h => by
    simp only [partsK] at h
    split at h
    · rename_i hi
      have hi : i = k := Nat.eq_of_beq_eq_true hi
      subst hi
      obtain ⟨v, h, hv⟩ := evS_spec h
      obtain ⟨p, h, hp⟩ := frzK_spec h
      obtain ⟨ps, h, hl, hs⟩ := partsK_spec h
      refine ⟨p :: ps, h, by simp [hl], fun hg ρ H eval hx => ?_⟩
      obtain ⟨vals, e, r⟩ := hs hg ρ H eval (fun y hy => hx y (by simp at hy ⊢; exact .inr hy))
      refine ⟨eval x :: vals, ?_, ?_⟩
      · simp only [List.map_cons, List.zipIdx_cons, e]
      · simp only [RepL]
        exact ⟨_, _, rfl, hp _ _ _ (hv ρ H _ hg (hx x (by simp))), r⟩
    · exact h.elim

/-- Elements of one width, in order. -/
theorem fill_rows (size : Nat) (n : Nat) (pl : Nat → Option (Nat × Nat)) (hpl : ∀ i, i < n → pl i = some (i * size, size)) : ∀ (vals : List Value) (k : Nat) (cells : Array Value), (∀ v ∈ vals, v.cells.size = size) → k + vals.length = n → n * size = cells.size →
    ∃ cells', Instr.fill pl cells ((vals.zipIdx k).map fun (v, i) => (i, v)) = some cells' ∧ cells'.toList = cells.toList.take (k * size) ++ vals.flatMap (·.cells.toList)
  | [], k, cells, _, hn, hc => by
    refine ⟨cells, rfl, ?_⟩
    simp at hn
    subst hn
    rw [List.take_of_length_le (by simp; omega)]
    simp
  | v :: vals, k, cells, hv, hn, hc => by
    have h1 := hv v (by simp)
    simp only [List.length_cons] at hn
    have hkn : (k + 1) * size ≤ n * size := Nat.mul_le_mul_right _ (by omega)
    have hle : k * size + v.cells.size ≤ cells.size := by rw [h1, ← hc]; rw [Nat.add_mul, Nat.one_mul] at hkn; exact hkn
    have hf := fill_one (k * size) v cells hle
    have hsz : (v.cells.zipIdx.foldl (fun (cs : Array Value) (x : Value × Nat) => cs.setIfInBounds (k * size + x.2) x.1) cells).size = cells.size := by
      rw [← Array.length_toList, hf]
      simp
      omega
    obtain ⟨cells', e, h⟩ := fill_rows size n pl hpl vals (k + 1) _ (fun u hu => hv u (by simp [hu])) (by omega) (by rw [hsz]; exact hc)
    refine ⟨cells', ?_, ?_⟩
    · simp only [List.zipIdx_cons, List.map_cons, Instr.fill, hpl k (by omega)]
      rw [if_neg (by simp [h1]; omega)]
      exact e
    · rw [h, hf]
      have e1 : (k + 1) * size = k * size + v.cells.size := by rw [h1, Nat.add_mul, Nat.one_mul]
      rw [e1, List.flatMap_cons, ← List.append_assoc]
      congr 1
      rw [List.append_assoc, List.take_append, List.take_append]
      simp only [List.length_take, Array.length_toList]
      have : min (k * size) cells.size = k * size := Nat.min_eq_left (by omega)
      rw [this, List.take_of_length_le (l := List.take (k * size) cells.toList) (by simp; omega)]
      simp
      exact List.take_of_length_le (by simp)

theorem rowsK_spec : ∀ {ps : List PV} {R : List (List PV) → Prop}, rowsK ps R → ∃ rows, R rows ∧ rows.length = ps.length ∧ ∀ (H : PH) (vals : List Value), RepL H ps vals →
    (∀ (i : Nat) (r : List PV) (v : Value), rows[i]? = some r → vals[i]? = some v → RepL H r v.cells.toList)
  | [], R, h => ⟨[], h, rfl, fun H vals r i r' v hr => by simp at hr⟩
  | p :: ps, R, h => by
    simp only [rowsK] at h
    obtain ⟨c, h, hc⟩ := cellsP_spec h
    obtain ⟨rows, h, hl, hs⟩ := rowsK_spec h
    refine ⟨c :: rows, h, by simp [hl], fun H vals r i r' v hr hv => ?_⟩
    simp only [RepL] at r
    obtain ⟨x, vs', rfl, rx, rs⟩ := r
    cases i with
    | zero => simp at hr hv; subst hr; subst hv; exact hc H x rx
    | succ i => exact hs H vs' rs i r' v (by simpa using hr) (by simpa using hv)

/-- New common memory: a row of cells. -/
theorem calm_row {H : PH} {w : World} (s : SatH H w) (e : TypeId) (ys : List Value) (h1 : ∀ u ∈ ys, u.oneCell' = true) :
    Calm H w (fun b o => if b = w.heap.size then ys[o]? else H b o) (w.alloc (.cells ys.toArray e)) := by
  have hlt : ∀ b o v, H b o = some v → b ≠ w.heap.size := fun b o v hv e => by
    have := s.lt hv; omega
  refine ⟨fun b o v hv => ?_, ⟨fun b o v hv => ?_, s.root.mono fun b o v hv => by rw [if_neg (hlt b o v hv)]; exact hv⟩, ⟨rfl, rfl, rfl, by simp, fun k hk _ => Go.RowKit.Below.heap_alloc w _ k hk⟩, fun b o v hv => ?_⟩
  · rw [if_neg (hlt b o v hv)]; exact hv
  · split at hv
    · rename_i hb
      subst hb
      refine ⟨?_, h1 v (List.mem_of_getElem? hv)⟩
      rw [World.cell?_alloc_new]
      simpa using hv
    · obtain ⟨c, o1⟩ := s.cell b o v hv
      exact ⟨by rw [World.cell?_alloc_lt (h := s.lt hv)]; exact c, o1⟩
  · split at hv
    · rename_i hb; exact .inr (by omega)
    · exact .inl ⟨v, hv⟩

theorem rowsV {H : PH} {z : Nat} : ∀ {rows : List (List PV)} {vals : List Value}, rows.length = vals.length → (∀ r ∈ rows, r.length = z) →
    (∀ (i : Nat) (r : List PV) (v : Value), rows[i]? = some r → vals[i]? = some v → RepL H r v.cells.toList) → ∀ {b o : Nat} {H' : PH}, PH.le H H' →
    (∀ (j : Nat) (u : Value), (vals.flatMap (·.cells.toList))[j]? = some u → H' b (o + j) = some u) → RepR H' b z o rows
  | [], _, _, _, _, _, _, _, _, _ => by simp [RepR]
  | r :: rs, [], hl, _, _, _, _, _, _, _ => by simp at hl
  | r :: rs, v :: vals, hl, hz, hr, b, o, H', hle, hc => by
    have h0 := hr 0 r v rfl rfl
    have hlen := h0.length
    have hrz := hz r (by simp)
    simp only [RepR]
    refine ⟨hrz, ⟨v.cells.toList, RepL.mono hle h0, fun j u hu => hc j u ?_⟩, rowsV (by simpa using hl) (fun r hr => hz r (by simp [hr])) (fun i r' v' h1 h2 => hr (i + 1) r' v' (by simpa using h1) (by simpa using h2)) hle (fun j u hu => ?_)⟩
    · rw [List.flatMap_cons, List.getElem?_append_left (List.getElem?_eq_some_iff.1 hu).1]; exact hu
    · have := hc (z + j) u (by rw [List.flatMap_cons, List.getElem?_append_right (by rw [hlen, hrz]; omega), hlen, hrz, Nat.add_sub_cancel_left]; exact hu)
      rwa [← Nat.add_assoc] at this

theorem kBuildSlice_spec {E : Env} {g : G} {t : TypeId} {n : Nat} {parts : List (Nat × Operand)} {R : FV → Prop} (h : kBuildSlice P E g t n parts R) :
    ∃ fv, R fv ∧ (gOn g → ∀ (ρ : List Value) (H : PH) (w : World) (eval : Operand → Value), SatH H w → (∀ x ∈ parts.map (·.2), RepF ρ H (evF (lookD E) x) (eval x)) →
      ∃ v w' H', (Instr.buildSlice t n (parts.map fun (i, x) => (i, eval x)).toArray).run P w = .ok v w' ∧ Calm H w H' w' ∧ RepF ρ H' fv v) := by
  unfold kBuildSlice at h
  obtain ⟨e, i, hu, hi, h⟩ := elemK_spec h
  split at h
  · rename_i hn
    have hn : parts.length = n := Nat.eq_of_beq_eq_true hn
    split at h
    · rename_i h1n
      split at h
      · rename_i h1z
        split at h
        case h_2 => exact h.elim
        rename_i hbig
        split at h
        case h_2 => exact h.elim
        rename_i i' hi'
        have : i' = i := Option.some.inj (hi'.symm.trans hi)
        subst this
        split at h
        case h_2 => exact h.elim
        rename_i zv hzv
        obtain ⟨ps, h, hpl, hps⟩ := partsK_spec h
        obtain ⟨rows, h, hrl, hrows⟩ := rowsK_spec h
        obtain ⟨hok, h⟩ := h
        refine ⟨_, h, fun hg ρ H w eval s hx => ?_⟩
        obtain ⟨vals, ev, rv⟩ := hps hg ρ H eval hx
        have hcells := hrows H vals rv
        have hvl : vals.length = n := by rw [rv.length, hpl, hn]
        have hsz : ∀ v ∈ vals, v.cells.size = i'.size := by
          intro v hv
          obtain ⟨j, hj⟩ := List.getElem?_of_mem hv
          have hjl := (List.getElem?_eq_some_iff.1 hj).1
          have hrj : j < rows.length := by rw [hrl, hpl, hn, ← hvl]; exact hjl
          have := (hcells j _ v (List.getElem?_eq_getElem hrj) hj).length
          rw [(hok _ (List.getElem_mem hrj)).1] at this
          simpa using this
        obtain ⟨cells', ef, hc'⟩ := fill_rows i'.size n (fun i_1 => some (i_1 * i'.size, i'.size)) (fun j _ => rfl) vals 0 ((Array.range (n * i'.size)).map (zv.cells[· % zv.cells.size]!)) hsz (by omega) (by simp)
        simp only [Nat.zero_mul, List.take_zero, List.nil_append] at hc'
        have hone : ∀ u ∈ cells'.toList, u.oneCell' = true := by
          rw [hc']
          intro u hu'
          obtain ⟨v, hv, huv⟩ := List.mem_flatMap.1 hu'
          obtain ⟨j, hj⟩ := List.getElem?_of_mem hv
          have hjl := (List.getElem?_eq_some_iff.1 hj).1
          have hrj : j < rows.length := by rw [hrl, hpl, hn, ← hvl]; exact hjl
          have h1 := hcells j _ v (List.getElem?_eq_getElem hrj) hj
          have h2 := (hok _ (List.getElem_mem hrj)).2
          exact RepL.one (fun c hc => (List.all_eq_true.1 h2) c hc) h1 u huv
        have hcalm := calm_row s e cells'.toList hone
        refine ⟨.slice (some ⟨w.heap.size, 0, none⟩) n n, _, _, ?_, hcalm, ?_⟩
        · have h0 : n * i'.size ≠ 0 := by
            have a1 : 1 ≤ n := Nat.le_of_ble_eq_true h1n
            have a2 : 1 ≤ i'.size := Nat.le_of_ble_eq_true h1z
            exact Nat.mul_ne_zero (by omega) (by omega)
          have hb : ¬ 16777216 < n * i'.size := by
            have := Nat.le_of_ble_eq_true hbig
            omega
          simp only [Instr.buildSlice, Sem.run_bind, run_underlying hu, Result.andThen_ok, Go.sizeOf, typeInfo, run_program, hi, Sem.run_pure]
          rw [show (2 : Nat) ^ 24 = 16777216 from rfl]
          simp only [hb, if_false, gt_iff_lt, h0, Sem.run_bind, zeroValue, typeInfo, run_program, hi, hzv, Result.andThen_ok, Sem.run_pure]
          rw [ev, ef]
          simp [newRow]
        · simp only [RepF, RepP]
          refine .inr ⟨w.heap.size, 0, i'.size, n, by rw [hrl, hpl, hn], by rw [hrl, hpl, hn]; exact Nat.le_refl _, ?_⟩
          refine rowsV (by rw [hrl, hpl, hn, hvl]) (fun r hr => (hok r hr).1) hcells hcalm.le (fun j u hu' => ?_)
          rw [Nat.zero_add, if_pos rfl, hc']
          exact hu'
      · exact h.elim
    · exact h.elim
  · exact h.elim

theorem run_places {w : World} : ∀ {fs : List Field}, infosB P fs = true →
    (fs.mapM (m := Sem) fun f => do pure (f.offset, ← Go.sizeOf f.type)).run P w = .ok (fs.map fun f => (f.offset, sizeT P f.type)) w
  | [], _ => by simp
  | f :: fs, h => by
    simp only [infosB] at h
    split at h
    · rename_i i hi
      have := run_places (w := w) h
      have hsz : (Go.sizeOf f.type).run P w = .ok i.size w := by simp [Go.sizeOf, typeInfo, hi]
      simp only [List.mapM_cons, Sem.run_bind, hsz, Result.andThen_ok, Sem.run_pure, List.map_cons, sizeT, hi]
      rw [this]
      rfl
    · cases h

theorem kBuild_spec {E : Env} {g : G} {t : TypeId} {parts : List (Nat × Operand)} {R : FV → Prop} (h : kBuild P E g t parts R) :
    ∃ fv, R fv ∧ (gOn g → ∀ (ρ : List Value) (H : PH) (w : World) (eval : Operand → Value), (∀ x ∈ parts.map (·.2), RepF ρ H (evF (lookD E) x) (eval x)) →
      ∃ v, (Instr.build t (parts.map fun (i, x) => (i, eval x)).toArray).run P w = .ok v w ∧ RepF ρ H fv v) := by
  unfold kBuild at h
  split at h
  · rename_i i hi
    split at h
    · rename_i vs hz
      obtain ⟨zs, h, hzs⟩ := ofVs_spec h
      split at h
      · rename_i fs hu
        split at h
        case h_2 => exact h.elim
        rename_i hinf
        obtain ⟨cs, h, hs⟩ := fillK_spec h
        refine ⟨_, h, fun hg ρ H w eval hx => ?_⟩
        obtain ⟨cells', ef, rc⟩ := hs hg ρ H w eval (fs.map fun f => (f.offset, sizeT P f.type)).toArray vs.toArray hx (fun i f hf ti hti => by simp [hf, sizeT, hti]) (by simpa [Value.cells] using hzs H)
        refine ⟨.agg cells', ?_, by simp only [RepF, RepP]; exact ⟨cells'.toList, by simp, rc⟩⟩
        simp only [Instr.build, Sem.run_bind, zeroValue, typeInfo, run_program, hi, hz, Result.andThen_ok, Sem.run_pure, run_underlying hu, Value.cells]
        rw [Array.mapM_eq_mapM_toList]
        simp only [Sem.run_map]
        rw [run_places hinf]
        simp only [Result.andThen_ok]
        rw [ef]
        rfl
      · rename_i n e hu
        split at h
        · rename_i ei hei
          split at h
          · rename_i hsz
            have hsz : ei.size = 1 := Nat.eq_of_beq_eq_true hsz
            obtain ⟨ps, h, hpl, hps⟩ := partsK_spec h
            obtain ⟨hlen, hone, h⟩ := h
            refine ⟨_, h, fun hg ρ H w eval hx => ?_⟩
            obtain ⟨vals, ev, rv⟩ := hps hg ρ H eval hx
            have hsz' : ∀ v ∈ vals, v.cells.size = 1 := by
              intro v hv
              obtain ⟨j, hj⟩ := List.getElem?_of_mem hv
              have hjl := (List.getElem?_eq_some_iff.1 hj).1
              have hpj : j < ps.length := by rw [← rv.length]; exact hjl
              obtain ⟨v', hv', r'⟩ := rv.get (List.getElem?_eq_getElem hpj)
              rw [hj] at hv'
              cases hv'
              rw [(oneP_cell (hone _ (List.getElem_mem hpj)) r').2]
              rfl
            have hvl := rv.length
            obtain ⟨cells', ef, hc'⟩ := fill_rows 1 vals.length (fun i_1 => some (i_1 * 1, 1)) (fun j _ => rfl) vals 0 ⟨vs⟩ hsz' (by omega) (by simp; omega)
            refine ⟨.agg cells', ?_, ?_⟩
            · simp only [Instr.build, Sem.run_bind, zeroValue, typeInfo, run_program, hi, hz, Result.andThen_ok, Sem.run_pure, run_underlying hu, Go.sizeOf, hei, hsz, ev, Value.cells]
              simp only [Nat.mul_one] at ef ⊢
              rw [ef]
              rfl
            · simp only [RepF, RepP]
              refine ⟨cells'.toList, by simp, ?_⟩
              have e1 : cells'.toList = vals := by
                rw [hc']
                simp only [Nat.zero_mul, List.take_zero, List.nil_append]
                have : ∀ (l : List Value), (∀ v ∈ l, v ∈ vals) → l.flatMap (·.cells.toList) = l := by
                  intro l
                  induction l with
                  | nil => intro _; rfl
                  | cons a l ih =>
                    intro hl
                    rw [List.flatMap_cons, ih (fun v hv => hl v (by simp [hv]))]
                    obtain ⟨j, hj⟩ := List.getElem?_of_mem (hl a (by simp))
                    have hjl := (List.getElem?_eq_some_iff.1 hj).1
                    have hpj : j < ps.length := by rw [← rv.length]; exact hjl
                    obtain ⟨v', hv', r'⟩ := rv.get (List.getElem?_eq_getElem hpj)
                    rw [hj] at hv'
                    cases hv'
                    rw [(oneP_cell (hone _ (List.getElem_mem hpj)) r').2]
                    rfl
                exact this vals (fun v hv => hv)
              rw [e1]
              exact rv
          · exact h.elim
        · exact h.elim
      · exact h.elim
    · exact h.elim
  · exact h.elim

theorem kPtr_spec {op : BinOp} {t : TypeId} {x y : FV} {R : FV → Prop} (h : kPtr P op t x y R) :
    ∃ fv, R fv ∧ ∀ (ρ : List Value) (H : PH) (w : World) (xo yo : Operand) (a b : Value), RepF ρ H x a → RepF ρ H y b →
      ∃ v, (do eqGuard op t xo yo a b; binOp op t a b : Sem Value).run P w = .ok v w ∧ RepF ρ H fv v := by
  unfold kPtr at h
  split at h
  · rename_i e hu
    split at h
    · rename_i i hi
      have eqN : ∀ (w : World) (p : Option Addr), (Op.equal t (.pointer p) (.pointer none)).run P w = .ok p.isNone w := by
        intro w p
        have : ∀ n, (Op.equalIn (n + 1) t (.pointer p) (.pointer none)).run P w = .ok p.isNone w := by
          intro n
          cases p <;> simp [Op.equalIn, run_underlying hu]
        exact this 9999
      have fin : ∀ (b : Bool) (w : World) (xo yo : Operand) (p : Option Addr), (do eqGuard .eql t xo yo (.pointer p) (.pointer none); binOp .eql t (.pointer p) (.pointer none) : Sem Value).run P w = .ok (.bool p.isNone) w ∧
          (do eqGuard .neq t xo yo (.pointer p) (.pointer none); binOp .neq t (.pointer p) (.pointer none) : Sem Value).run P w = .ok (.bool (!p.isNone)) w := by
        intro b w xo yo p
        constructor
        · simp only [eqGuard, binOp, Sem.run_bind, eqN]; rfl
        · simp only [eqGuard, binOp, Sem.run_bind, eqN]; rfl
      split at h
      · split at h
        · refine ⟨_, h, fun ρ H w xo yo a b ra rb => ?_⟩
          simp only [RepF, RepP] at ra rb
          subst ra; subst rb
          exact ⟨_, (fin true w xo yo none).1, bool_rep⟩
        · refine ⟨_, h, fun ρ H w xo yo a b ra rb => ?_⟩
          obtain ⟨bl, _, rfl⟩ := ra
          simp only [RepF, RepP] at rb
          subst rb
          exact ⟨_, (fin true w xo yo _).1, bool_rep⟩
        · refine ⟨_, h, fun ρ H w xo yo a b ra rb => ?_⟩
          obtain ⟨bl, o, vs, rfl, _⟩ := ra
          simp only [RepF, RepP] at rb
          subst rb
          exact ⟨_, (fin true w xo yo _).1, bool_rep⟩
        · exact h.elim
      · split at h
        · refine ⟨_, h, fun ρ H w xo yo a b ra rb => ?_⟩
          simp only [RepF, RepP] at ra rb
          subst ra; subst rb
          exact ⟨_, (fin true w xo yo none).2, bool_rep⟩
        · refine ⟨_, h, fun ρ H w xo yo a b ra rb => ?_⟩
          obtain ⟨bl, _, rfl⟩ := ra
          simp only [RepF, RepP] at rb
          subst rb
          exact ⟨_, (fin true w xo yo _).2, bool_rep⟩
        · refine ⟨_, h, fun ρ H w xo yo a b ra rb => ?_⟩
          obtain ⟨bl, o, vs, rfl, _⟩ := ra
          simp only [RepF, RepP] at rb
          subst rb
          exact ⟨_, (fin true w xo yo _).2, bool_rep⟩
        · rename_i k off k' off'
          split at h
          · rename_i hk
            have hk := Nat.eq_of_beq_eq_true hk
            split at h
            · rename_i ho
              have ho := Nat.eq_of_beq_eq_true ho
              subst hk; subst ho
              refine ⟨_, h, fun ρ H w xo yo a b ra rb => ?_⟩
              obtain ⟨b1, e1, rfl⟩ := ra
              obtain ⟨b2, e2, rfl⟩ := rb
              rw [e1] at e2
              cases e2
              refine ⟨.bool false, ?_, bool_rep⟩
              simp only [eqGuard, Sem.run_bind]
              exact Lib.run_neq_ptr_same w _ hu hi
            · exact h.elim
          · exact h.elim
        · exact h.elim
      · exact h.elim
    · exact h.elim
  · exact h.elim

/-! ### Bytes as a text -/
theorem u8T_spec {src dst : TypeId} {R : Prop} (h : u8T P src dst R) : ∃ e, P.underlying src = some (.slice e) ∧ P.underlying e = some (.int .u8) ∧ P.underlying dst = some .string ∧ R := by
  unfold u8T at h
  split at h
  · rename_i e he
    split at h
    · rename_i h8
      split at h
      · rename_i hs; exact ⟨e, he, h8, hs, h⟩
      · exact h.elim
    · exact h.elim
  · exact h.elim

theorem bRows_get {l : List UInt8} {j : Nat} {x : UInt8} (h : l[j]? = some x) : (bRows l)[j]? = some [.int .u8 x.toNat] := by simp [bRows, h]

/-- What the bytes of a slice's rows are in memory. -/
theorem rows_bytes {H : PH} {w : World} (s : SatH H w) {b z o : Nat} {l : List UInt8} (r : RepR H b z o (bRows l)) : ∀ j (hj : j < l.length), w.cell? ((⟨b, o, none⟩ : Addr).add j) = some (.int .u8 (l[j].toNat : Int)) := by
  intro j hj
  obtain ⟨hz, vs, q, c⟩ := r.get (bRows_get (List.getElem?_eq_getElem hj))
  simp at hz
  subst hz
  simp only [RepL, RepP] at q
  obtain ⟨v, _, rfl, rfl, rfl⟩ := q
  have := c 0 _ rfl
  rw [Addr.add_lit]
  simpa using (s _ _ _ this).1

theorem unsK_spec {src dst : TypeId} {n : Nat} {t : TypeId} {R : Prop} (h : unsK P src dst n t R) :
    R ∧ ∀ (w : World) (b : Nat), w.shape? b = some (t, n) → (convert src dst (.pointer (some ⟨b, 0, none⟩))).run P w = .ok (.pointer (some ⟨b, 0, none⟩)) w := by
  unfold unsK at h
  split at h
  · rename_i u hsrc
    split at h
    · rename_i hdst
      split at h
      · rename_i i hi
        exact ⟨h.2, fun w b hsh => Lib.run_to_unsafe w ⟨b, 0, none⟩ hsrc hdst hi h.1.1 hsh h.1.2⟩
      · exact h.elim
    · exact h.elim
  · rename_i hsrc
    split at h
    · rename_i u hdst
      split at h
      · rename_i i hi
        exact ⟨h.2, fun w b hsh => Lib.run_from_unsafe w ⟨b, 0, none⟩ hsrc hdst hi hsh h.1⟩
      · exact h.elim
    · exact h.elim
  · exact h.elim

theorem kBytes_spec {g : G} {src dst : TypeId} {lo : List AObj} {x : FV} {R : FV → Prop} (h : kBytes P g src dst lo x R) :
    ∃ fv, R fv ∧ (gOn g → ∀ (bs : Base) (ρ : List Value) (H : PH) (w : World) (v : Value), SatW bs ρ H lo w → RepF ρ H x v → ∃ u, (convert src dst v).run P w = .ok u w ∧ RepF ρ H fv u) := by
  have rowsCase : ∀ (e : TypeId) (l : List UInt8), P.underlying src = some (.slice e) → P.underlying e = some (.int .u8) → P.underlying dst = some .string → ∀ (H : PH) (w : World) (v : Value), SatH H w → RepP H (.sl (bRows l)) v →
      (convert src dst v).run P w = .ok (.string ⟨l.toArray⟩) w := by
    intro e l hs he hd H w v s rv
    simp only [RepP] at rv
    rcases rv with ⟨h0, rfl | ⟨a', cap', rfl⟩⟩ | ⟨b, o, z, cap, rfl, hc, rr⟩
    · have : l = [] := by simpa [bRows] using h0
      subst this
      exact run_convert_bytes_nil w src e hs he 0 0 dst hd
    · have : l = [] := by simpa [bRows] using h0
      subst this
      exact run_convert_bytes_back (P := P) w src dst e a' cap' [] hs he hd (fun j hj => absurd hj (Nat.not_lt_zero _))
    · have := run_convert_bytes_back (P := P) w src dst e ⟨b, o, none⟩ cap l hs he hd (rows_bytes s rr)
      simpa [bRows] using this
  unfold kBytes at h
  split at h
  · rename_i rows
    obtain ⟨e, hs, he, hd, l, hl, h⟩ := u8T_spec h
    refine ⟨_, h, fun hg bs ρ H w v s rv => ⟨_, rowsCase e l hs he hd H w v s.sath ?_, str_rep⟩⟩
    rw [← gI_on hl hg]; exact rv
  · rename_i k rows
    obtain ⟨e, hs, he, hd, l, hl, h⟩ := u8T_spec h
    refine ⟨_, h, fun hg bs ρ H w v s rv => ⟨_, rowsCase e l hs he hd H w v s.sath ?_, str_rep⟩⟩
    rw [← gI_on hl hg]; exact rv.2
  · obtain ⟨e, hs, he, hd, h⟩ := u8T_spec h
    refine ⟨_, h, fun hg bs ρ H w v s rv => ⟨_, rowsCase e [] hs he hd H w v s.sath ?_, str_rep⟩⟩
    simp only [RepF, RepP] at rv
    simp only [RepP]
    exact .inl ⟨rfl, .inl rv⟩
  · rename_i k off n cap
    obtain ⟨e, hs, he, hd, h⟩ := u8T_spec h
    obtain ⟨ob, hob, h⟩ := nthK_spec h
    split at h
    · rename_i bt cells
      obtain ⟨h, hoff⟩ := dropK_spec h
      obtain ⟨h, hn⟩ := takeK_spec h
      obtain ⟨ps, h, hps⟩ := frzL_spec h
      obtain ⟨l, hl, h⟩ := h
      refine ⟨_, h, fun hg bs ρ H w v s rv => ?_⟩
      obtain ⟨b, hb, rfl⟩ := rv
      obtain ⟨b', vs, e', hg', hcs, _⟩ := s.objs k _ _ hob hb
      cases e'
      have hl := gI_on hl hg
      have rl := hps _ _ _ ((hcs.drop off).take n)
      rw [hl] at rl
      have hlen := rl.length
      have hvl := hcs.length
      simp at hlen hn
      have hnl : n = l.length := by omega
      subst hnl
      refine ⟨_, run_convert_bytes_back (P := P) w src dst e ⟨b, off, none⟩ cap l hs he hd (fun j hj => ?_), str_rep⟩
      obtain ⟨u, hu, ru⟩ := rl.get (i := j) (c := .int .u8 (l[j].toNat : Int)) (by simp [hj])
      simp only [RepP] at ru
      subst ru
      rw [Addr.add_lit]
      rw [List.getElem?_take, if_pos hj] at hu
      exact cells_of_row hg' off j _ hu
    · exact h.elim
  · rename_i k off
    split at h
    · rename_i h0
      have h0 := Nat.eq_of_beq_eq_true h0
      subst h0
      obtain ⟨ob, hob, h⟩ := nthK_spec h
      split at h
      · rename_i bt cells
        obtain ⟨h, hs⟩ := unsK_spec h
        refine ⟨_, h, fun hg bs ρ H w v s rv => ?_⟩
        obtain ⟨b, hb, rfl⟩ := rv
        obtain ⟨b', vs, e', hg', hcs, _⟩ := s.objs k _ _ hob hb
        cases e'
        have hvl := hcs.length
        have hsh : w.shape? b = some (bt, cells.length) := by simp [World.shape?, hg', hvl]
        exact ⟨_, hs w b hsh, b, hb, rfl⟩
      · exact h.elim
    · exact h.elim
  · obtain ⟨fv, h, hs⟩ := kConvert_spec h
    exact ⟨fv, h, fun hg bs ρ H w v s rv => hs ρ H w v rv⟩

end
end Ax
