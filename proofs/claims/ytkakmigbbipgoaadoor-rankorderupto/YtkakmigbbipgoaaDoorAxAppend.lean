/- 'append' on a slice of the call's own; and the whole of what makes or writes the call's own objects. -/
import Derived.Test.YtkakmigbbipgoaaDoorAxEff
import Derived.Lib.AppendStr
namespace Ax
open Go

section
variable {P : Program} {w : World}

/-- append: in place, or into a new block. -/
theorem append_run {t ty e : TypeId} {i : TypeInfo} {z : Value} (ht : P.underlying t = some (.slice e)) (hi : P.info? e = some i) (hz : i.zero = some z) (hzs : z.cells.size = i.size)
    {v : Value} {n : Nat} {xs : List Value} (hown : w.ownsRow 0 e i.size v n xs)
    {x : Value} {m : Nat} {news : List Value} (hl : news.length = m * i.size) (h1 : ∀ u ∈ news, u.oneCell' = true)
    (hx : (m = 0 ∧ x = .slice none 0 0) ∨ ∃ a c, x = .slice (some a) m c ∧ ∀ j u, news[j]? = some u → w.cell? (a.add j) = some u)
    (h63 : n + m ≤ 9223372036854775807) (hbytes : (n + m) * i.bytes ≤ 140737488355328) :
    ∃ v' w', (Builtin.append_ #[t, t] ty #[v, x]).run P w = .ok v' w' ∧ w'.ownsRow 0 e i.size v' (n + m) (xs ++ news) ∧
      ((blkOf v' = blkOf v ∧ (∀ g, blkOf v = some g → Keep (fun b => b = g) w w') ∧ (blkOf v = none → w' = w)) ∨ (blkOf v' = some w.heap.size ∧ Keep (fun b => b = w.heap.size) w w')) := by
  have hlen : (xs ++ news).length = (n + m) * i.size := by rw [List.length_append, hown.1, hl, Nat.add_mul]
  have h63' : n + m ≤ maxLen := by unfold maxLen; omega
  rcases hx with ⟨rfl, rfl⟩ | ⟨ad, c, rfl, hnews⟩
  · have hn : news = [] := List.eq_nil_of_length_eq_zero (by simpa using hl)
    subst hn
    refine ⟨v, w, run_append_owned_none (P := P) (w := w) 0 t ty e i i.size ht hi v n xs hown, by simpa using hown, .inl ⟨rfl, fun g _ => Keep.refl _ w, fun _ => rfl⟩⟩
  have grown : ∀ (old : Nat), (w.drew.alloc (.cells (xs.toArray ++ news.toArray ++ Builtin.zeroCells z.cells (grownCap w (n + m) old e - (n + m))) e)).ownsRow 0 e i.size
        (.slice (some ⟨w.heap.size, 0, none⟩) (n + m) (grownCap w (n + m) old e)) (n + m) (xs ++ news) := by
    intro old
    have hge := grownCap_ge w (n + m) old e
    have hcm : grownCap w (n + m) old e ≤ maxLen := grownCap_le_maxLen w (n + m) old e h63'
    refine ⟨hlen, .inr ⟨w.heap.size, _, _, rfl, Nat.zero_le _, heap_alloc_new w.drew _, hge, hcm, ?_, ?_⟩⟩
    · simp only [Array.size_append, List.size_toArray, size_zeroCells, hzs, hown.1, hl, ← Nat.add_mul]
      congr 1
      omega
    · simp only [Array.toList_append, List.append_assoc]
      rw [← List.append_assoc, ← hlen]
      exact List.take_left
  rcases hown.2 with ⟨rfl, rfl⟩ | ⟨g, cap, cur, rfl, hbg, hg, hnc, hcm, hcs, htake⟩
  · have hxs : xs = [] := List.eq_nil_of_length_eq_zero (by simpa using hown.1)
    subst hxs
    by_cases hm : m = 0
    · subst hm
      have hn : news = [] := List.eq_nil_of_length_eq_zero (by simpa using hl)
      subst hn
      refine ⟨.slice none 0 0, w, ?_, World.ownsRow_nil w 0 e i.size, .inl ⟨rfl, fun g _ => Keep.refl _ w, fun _ => rfl⟩⟩
      simp [Builtin.append_, run_underlying ht, Go.sizeOf, typeInfo, hi, Builtin.lenOf, Builtin.firstCells, loadCells, loadCellsFrom]
    · have hr := run_append_nil (P := P) w t ty e i z ht hi hz ad m c news hl hnews (by omega) (by omega) (by have hb := hbytes; simp only [Nat.zero_add] at hb; omega)
      have hgr := grown 0
      simp only [Nat.zero_add, List.nil_append, Array.empty_append] at hgr ⊢
      exact ⟨_, _, hr, hgr, .inr ⟨rfl, keep_drew_alloc w _ _⟩⟩
  · by_cases hroom : n + m ≤ cap
    · have hfit : n * i.size + news.length ≤ cur.size := by rw [hl, hcs, ← Nat.add_mul]; exact Nat.mul_le_mul_right _ hroom
      have hr := run_append_room (P := P) w t ty e i ht hi g n cap cur hg ad m c news hl hnews h1 hroom hfit
      refine ⟨_, _, hr, ⟨hlen, .inr ⟨g, cap, _, rfl, hbg, setRow_heap w g cur _ e _ hg, hroom, hcm, ?_, ?_⟩⟩, .inl ⟨rfl, fun g' hg' => ?_, fun h => by simp [blkOf] at h⟩⟩
      · simp only [List.size_toArray, List.length_append, List.length_take, List.length_drop, Array.length_toList]
        omega
      · rw [htake, ← hlen]
        exact List.take_left
      · simp [blkOf] at hg'
        subst hg'
        exact ⟨rfl, rfl, rfl, by simp, fun k _ hk => setRow_other w g k _ hk⟩
    · have holds : ∀ j u, xs[j]? = some u → w.cell? ((⟨g, 0, none⟩ : Addr).add j) = some u := hown.cells (g := g) rfl
      have hr := run_append_grow (P := P) w t ty e i z ht hi hz ⟨g, 0, none⟩ n cap xs hown.1 holds ad m c news hl hnews (by omega) (by omega) (growslice_fits (by omega) hbytes)
      exact ⟨_, _, hr, grown cap, .inr ⟨rfl, keep_drew_alloc w _ _⟩⟩

/-- append of a text's bytes. -/
theorem append_run_string {t u ty e : TypeId} {i : TypeInfo} (ht : P.underlying t = some (.slice e)) (hu : P.underlying u = some .string) (hi : P.info? e = some i) (hz : i.zero = some (.int .u8 0)) (hsz : i.size = 1)
    {v : Value} {n : Nat} {xs : List Value} (hown : w.ownsRow 0 e 1 v n xs) (str : List UInt8)
    (h63 : n + str.length ≤ 9223372036854775807) (hbytes : (n + str.length) * i.bytes ≤ 140737488355328) :
    ∃ v' w', (Builtin.append_ #[t, u] ty #[v, .string ⟨str.toArray⟩]).run P w = .ok v' w' ∧ w'.ownsRow 0 e 1 v' (n + str.length) (xs ++ Lib.strCells ⟨str.toArray⟩) ∧
      ((blkOf v' = blkOf v ∧ (∀ g, blkOf v = some g → Keep (fun b => b = g) w w') ∧ (blkOf v = none → w' = w)) ∨ (blkOf v' = some w.heap.size ∧ Keep (fun b => b = w.heap.size) w w')) := by
  have hs : (⟨str.toArray⟩ : ByteArray).size = str.length := size_lit str
  generalize hsg : (⟨str.toArray⟩ : ByteArray) = sb at *
  have hl : (Lib.strCells sb).length = str.length := by rw [Lib.strCells_length, hs]
  have hlen : (xs ++ Lib.strCells sb).length = (n + str.length) * 1 := by rw [List.length_append, hown.1, hl, Nat.mul_one, Nat.mul_one]
  have h63' : n + str.length ≤ maxLen := by unfold maxLen; omega
  have grown : ∀ (old : Nat), (w.drew.alloc (.cells (xs.toArray ++ (Lib.strCells sb).toArray ++ Builtin.zeroCells (Value.int .u8 0).cells (grownCap w (n + str.length) old e - (n + str.length))) e)).ownsRow 0 e 1
        (.slice (some ⟨w.heap.size, 0, none⟩) (n + str.length) (grownCap w (n + str.length) old e)) (n + str.length) (xs ++ Lib.strCells sb) := by
    intro old
    have hge := grownCap_ge w (n + str.length) old e
    have hcm : grownCap w (n + str.length) old e ≤ maxLen := grownCap_le_maxLen w (n + str.length) old e h63'
    refine ⟨hlen, .inr ⟨w.heap.size, _, _, rfl, Nat.zero_le _, heap_alloc_new w.drew _, hge, hcm, ?_, ?_⟩⟩
    · have h1 : (Value.int .u8 0).cells.size = 1 := rfl
      simp only [Array.size_append, List.size_toArray, size_zeroCells, h1, hown.1, hl]
      omega
    · simp only [Array.toList_append, List.append_assoc]
      rw [← List.append_assoc, ← hlen]
      exact List.take_left
  rcases hown.2 with ⟨rfl, rfl⟩ | ⟨g, cap, cur, rfl, hbg, hg, hnc, hcm, hcs, htake⟩
  · have hxs : xs = [] := List.eq_nil_of_length_eq_zero (by simpa using hown.1)
    subst hxs
    by_cases hm : str.length = 0
    · have hn : Lib.strCells sb = [] := List.eq_nil_of_length_eq_zero (by omega)
      refine ⟨.slice none 0 0, w, ?_, by rw [hm, hn]; exact World.ownsRow_nil w 0 e 1, .inl ⟨rfl, fun g _ => Keep.refl _ w, fun _ => rfl⟩⟩
      simp [Builtin.append_, run_underlying ht, run_underlying hu, Go.sizeOf, typeInfo, hi, Builtin.lenOf, Builtin.firstCells, hs, hm]
    · have hr := run_append_nil_string (P := P) w t u ty e i (.int .u8 0) ht hu hi hz sb (by omega) (by omega) (by rw [hs]; have hb := hbytes; simp only [Nat.zero_add] at hb; omega)
      have hgr := grown 0
      simp only [Nat.zero_add, List.nil_append, Array.empty_append] at hgr ⊢
      have e1 : sb.data.map (fun b => Value.int .u8 b.toNat) = (Lib.strCells sb).toArray := by
        apply Array.ext'
        simp [Lib.strCells]
      rw [e1, hs] at hr
      exact ⟨_, _, hr, hgr, .inr ⟨rfl, keep_drew_alloc w _ _⟩⟩
  · by_cases hroom : n + str.length ≤ cap
    · have hfit : n + sb.size ≤ cur.size := by rw [hs]; omega
      have hr := Lib.run_append_room_string (P := P) w t u ty e i ht hu hi hsz g n cap cur hg sb (by omega) hfit
      rw [hs] at hr
      refine ⟨_, _, hr, ⟨hlen, .inr ⟨g, cap, _, rfl, hbg, setRow_heap w g cur _ e _ hg, hroom, hcm, ?_, ?_⟩⟩, .inl ⟨rfl, fun g' hg' => ?_, fun h => by simp [blkOf] at h⟩⟩
      · simp only [List.size_toArray, List.length_append, List.length_take, List.length_drop, Array.length_toList, hl]
        omega
      · rw [Nat.mul_one] at htake
        rw [htake, ← hlen]
        exact List.take_left
      · simp [blkOf] at hg'
        subst hg'
        exact ⟨rfl, rfl, rfl, by simp, fun k _ hk => setRow_other w g k _ hk⟩
    · have holds : ∀ j u, xs[j]? = some u → w.cell? ((⟨g, 0, none⟩ : Addr).add j) = some u := hown.cells (g := g) rfl
      have hr := Lib.run_append_grow_string (P := P) w t u ty e i (.int .u8 0) ht hu hi hz ⟨g, 0, none⟩ n cap xs (by rw [hsz]; exact hown.1) holds sb (by omega) (by omega) (growslice_fits (by omega) (by rw [hs]; exact hbytes))
      rw [hs] at hr
      exact ⟨_, _, hr, grown cap, .inr ⟨rfl, keep_drew_alloc w _ _⟩⟩

theorem bRows_V (H : PH) : ∀ (l : List UInt8), RepV H 1 (bRows l) (Lib.strCells ⟨l.toArray⟩)
  | [] => by simp [bRows, RepV, Lib.strCells]
  | b :: l => by
    have := bRows_V H l
    simp only [bRows, List.map_cons, RepV]
    refine ⟨rfl, [.int .u8 b.toNat], Lib.strCells ⟨l.toArray⟩, by simp [Lib.strCells], ?_, this⟩
    simp [RepL, RepP]

theorem rowsOf_spec {f : FV} {R : List (List PV) → Prop} (h : rowsOf f R) : ∃ rows, R rows ∧ ∀ (ρ : List Value) (H : PH) (x : Value), RepF ρ H f x → RepP H (.sl rows) x := by
  unfold rowsOf at h
  split at h
  · exact ⟨_, h, fun _ _ _ r => r⟩
  · exact ⟨_, h, fun _ _ _ r => r.2⟩
  · refine ⟨[], h, fun _ _ _ r => ?_⟩
    simp only [RepF, RepP] at r ⊢
    exact .inl ⟨trivial, .inl r⟩
  · exact h.elim

/-- What is common behind an append. -/
def grownH (H : PH) (v : Value) (ys : List Value) : PH := fun b o => if blkOf v = some b ∧ o < ys.length then ys[o]? else H b o

theorem append_world {bs : Base} {ρ : List Value} {H : PH} {lo : List AObj} (s : SatW bs ρ H lo w) {e : TypeId} {z : Nat} {v : Value} {n : Nat} {xs : List Value} (hown : w.ownsRow 0 e z v n xs)
    (hxs : ∀ b, blkOf v = some b → (∀ j u, xs[j]? = some u → H b j = some u) ∧ ∀ o, n * z ≤ o → H b o = none)
    (hfree : ∀ (g : Nat), blkOf v = some g → ∀ (k : Nat) (o' : AObj) (v' : Value), lo[k]? = some o' → ρ[k]? = some v' → o'.live = true → blkOf v' ≠ some g)
    (howns : ∀ g, blkOf v = some g → bs.S g ∨ bs.w0.heap.size ≤ g)
    {w' : World} {v' : Value} {m : Nat} {news : List Value} (hnl : news.length = m * z) (h1 : ∀ u ∈ xs ++ news, u.oneCell' = true)
    (hown' : w'.ownsRow 0 e z v' (n + m) (xs ++ news))
    (hk : (blkOf v' = blkOf v ∧ (∀ g, blkOf v = some g → Keep (fun b => b = g) w w') ∧ (blkOf v = none → w' = w)) ∨ (blkOf v' = some w.heap.size ∧ Keep (fun b => b = w.heap.size) w w')) :
    PH.le H (grownH H v' (xs ++ news)) ∧ SatW bs (ρ ++ [v']) (grownH H v' (xs ++ news)) (lo ++ [.tail e z (n + m)]) w' := by
  have hlen : (xs ++ news).length = (n + m) * z := hown'.1
  -- in the block itself: what was common there is what the row's beginning holds
  have hin : ∀ b o u, blkOf v' = some b → H b o = some u → o < xs.length ∧ (xs ++ news)[o]? = some u := by
    intro b o u hb hu
    rcases hk with ⟨e1, _⟩ | ⟨e1, _⟩
    · rw [e1] at hb
      obtain ⟨h2, h3⟩ := hxs b hb
      have hlt : o < xs.length := by
        rw [hown.1]
        rcases Nat.lt_or_ge o (n * z) with h | h
        · exact h
        · rw [h3 o h] at hu; cases hu
      refine ⟨hlt, ?_⟩
      rw [List.getElem?_append_left hlt]
      have := h2 o _ (List.getElem?_eq_getElem hlt)
      rw [hu] at this
      rw [List.getElem?_eq_getElem hlt, ← Option.some.inj this]
    · rw [e1] at hb
      cases hb
      exact absurd (s.sath.lt hu) (Nat.lt_irrefl _)
  have hle : PH.le H (grownH H v' (xs ++ news)) := by
    intro b o u hu
    unfold grownH
    split
    · rename_i hc; exact (hin b o u hc.1 hu).2
    · exact hu
  refine ⟨hle, ?_⟩
  have hcell : ∀ g, blkOf v' = some g → ∀ o u, (xs ++ news)[o]? = some u → w'.cell? ⟨g, o, none⟩ = some u := by
    intro g hg o u hu
    have := hown'.cells (g := g) (by
      rcases hown'.2 with ⟨rfl, _⟩ | ⟨g', cap, cur, rfl, _⟩
      · simp [blkOf] at hg
      · simpa [blkOf, Value.ownBlock] using hg) o u hu
    rwa [Addr.add_lit, Nat.zero_add] at this
  have hsat : SatH (grownH H v' (xs ++ news)) w' := by
    refine ⟨?_, s.sath.root.mono hle⟩
    intro b o u hu
    unfold grownH at hu
    split at hu
    · rename_i hc
      exact ⟨hcell b hc.1 o u hu, h1 u (List.mem_of_getElem? hu)⟩
    · rename_i hc
      obtain ⟨hcl, hone⟩ := s.sath.cell b o u hu
      refine ⟨?_, hone⟩
      have hbne : blkOf v' ≠ some b := fun hb => hc ⟨hb, by have := (hin b o u hb hu).1; rw [List.length_append]; omega⟩
      have hlt := s.sath.lt hu
      rcases hk with ⟨e1, k1, k2⟩ | ⟨e1, k1⟩
      · cases hv : blkOf v with
        | none => rw [k2 hv]; exact hcl
        | some g =>
          rw [World.cell?_of_block (w := w) (a := ⟨b, o, none⟩) ((k1 g hv).block b hlt (fun e => hbne (by rw [e1, hv, e])))]
          exact hcl
      · rw [World.cell?_of_block (w := w) (a := ⟨b, o, none⟩) (k1.block b hlt (by omega))]
        exact hcl
  have hok : ∀ ρ, ObjOk ρ (grownH H v' (xs ++ news)) w' v' (.tail e z (n + m)) := by
    intro ρ
    refine ⟨xs ++ news, hown', fun b hb => ⟨fun j u hu => ?_, fun o ho => ?_⟩⟩
    · unfold grownH
      rw [if_pos ⟨hb, (List.getElem?_eq_some_iff.1 hu).1⟩]
      exact hu
    · unfold grownH
      rw [if_neg (by rw [hlen]; omega)]
      cases hx : H b o with
      | none => rfl
      | some u =>
        have := (hin b o u hb hx).1
        rw [hown.1] at this
        have : n * z ≤ (n + m) * z := Nat.mul_le_mul_right _ (by omega)
        omega
  have hnew : ∀ b o u, grownH H v' (xs ++ news) b o = some u → (∃ u, H b o = some u) ∨ blkOf v' = some b := by
    intro b o u hu
    unfold grownH at hu
    split at hu
    · rename_i hc; exact .inr hc.1
    · exact .inl ⟨u, hu⟩
  rcases hk with ⟨e1, k1, k2⟩ | ⟨e1, k1⟩
  · cases hv : blkOf v with
    | none =>
      have hw := k2 hv
      subst hw
      rw [hv] at e1
      refine s.push (g := w'.heap.size) (.inr e1) (s.fresh (Nat.le_refl _)) (.inr s.keep.size) hle hsat (fun b o u hu => ?_) (Keep.refl _ _) (hok _)
      rcases hnew b o u hu with h | h
      · exact .inl h
      · rw [e1] at h; cases h
    | some g =>
      rw [hv] at e1
      refine s.push (g := g) (.inl e1) (hfree g hv) (howns g hv) hle hsat (fun b o u hu => ?_) (k1 g hv) (hok _)
      rcases hnew b o u hu with h | h
      · exact .inl h
      · rw [e1] at h; exact .inr (Option.some.inj h).symm
  · refine s.push (g := w.heap.size) (.inl e1) (s.fresh (Nat.le_refl _)) (.inr s.keep.size) hle hsat (fun b o u hu => ?_) k1 (hok _)
    rcases hnew b o u hu with h | h
    · exact .inl h
    · rw [e1] at h; exact .inr (Option.some.inj h).symm

/-- The rows behind it. -/
theorem append_rep {H : PH} {v' : Value} {e : TypeId} {z : Nat} {rows : List (List PV)} {ys : List Value} {w' : World} (hv : RepV H z rows ys) (hle : PH.le H (grownH H v' ys))
    (hown : w'.ownsRow 0 e z v' rows.length ys) : RepP (grownH H v' ys) (.sl rows) v' := by
  simp only [RepP]
  rcases hown.2 with ⟨rfl, hn⟩ | ⟨g, cap, cur, rfl, _, _, hnc, _⟩
  · exact .inl ⟨List.eq_nil_of_length_eq_zero hn, .inl rfl⟩
  · refine .inr ⟨g, 0, z, cap, rfl, hnc, (hv.mono hle).unflat fun j u hu => ?_⟩
    unfold grownH
    rw [if_pos ⟨by simp [blkOf], by have := (List.getElem?_eq_some_iff.1 hu).1; omega⟩]
    simpa using hu

theorem RepV.one {H : PH} {w : World} (s : SatH H w) {b o : Nat} {vs : List Value} (c : ∀ j u, vs[j]? = some u → H b (o + j) = some u) : ∀ u ∈ vs, u.oneCell' = true := fun u hu => by
  obtain ⟨j, hj⟩ := List.getElem?_of_mem hu
  exact (s _ _ _ (c j u hj)).2

theorem run_newVar {w : World} {t : TypeId} {v : Value} : (newVar t v).run P w = .ok ⟨w.heap.size, 0, none⟩ (w.alloc (.cells v.cells t)) := by
  simp [newVar, newRow]

theorem run_storeVar {w : World} {t bt : TypeId} {i : TypeInfo} (hi : P.info? t = some i) {b off : Nat} {cur : List Value} (hg : w.heap[b]? = some (.cells cur.toArray bt (0, 0))) {x : Value}
    (hn : x.cells.size = i.size) (hoff : off + x.cells.size ≤ cur.length) (h1 : ∀ u ∈ x.cells.toList, u.oneCell' = true) :
    (Instr.storeAt t (.pointer (some ⟨b, off, none⟩)) x).run P w = .ok () (w.setRow b (cur.take off ++ x.cells.toList ++ cur.drop (off + x.cells.size)).toArray) := by
  have := run_storeCells_at P b off bt x.cells.toList 0 cur.toArray w hg (by simpa using hoff) h1
  simp only [Nat.add_zero, Array.length_toList] at this
  simp [Instr.storeAt, Instr.sureAddr, storeVar, Go.sizeOf, typeInfo, hi, hn]
  rw [this]
  simp [hn]

theorem beq_of {a b : Nat} (h : Nat.beq a b = true) : a = b := Nat.eq_of_beq_eq_true h

theorem kEff_sound {o : Oper} {E : Env} {lo : List AObj} {R : FV → List AObj → Prop} (h : kEff P o.op E lo R) : ∃ fv lo', R fv lo' ∧ StepSem P o (lookD E) lo none fv lo' := by
  obtain ⟨dst, op, ty, pos, after, guard⟩ := o
  simp only at h
  unfold kEff at h
  split at h
  · -- box
    rename_i t x
    have h0 := evS_spec h; clear h; obtain ⟨x', h, hx'⟩ := h0
    have h0 := cellsK_spec h; clear h; obtain ⟨cs, h, hcs⟩ := h0
    split at h
    · rename_i h1
      have h := lenK_spec h
      have h := snocK_spec h
      refine ⟨_, _, h, fun hg bs ρ H w eval s hx => ?_⟩
      have rc := hcs ρ H _ (hx' ρ H _ hg (hx x (by simp [Op.operands])))
      simp only [execOp, Instr.box, Sem.run_bind, run_newVar, Result.andThen_ok, Sem.run_pure]
      refine ⟨_, H, List.prefix_append _ _, PH.le.refl H, s.pushBox (t := t) rc, ?_⟩
      exact ⟨w.heap.size, by simp [← s.hlen], rfl⟩
    · exact h.elim
  · -- alloc
    rename_i t
    obtain ⟨i, z, ps, hi, hz, h, hps⟩ := zeroK_spec h
    have h := mapP_spec h
    split at h
    · rename_i h1
      have h := lenK_spec h
      have h := snocK_spec h
      refine ⟨_, _, h, fun hg bs ρ H w eval s hx => ?_⟩
      simp only [execOp, Instr.alloc, Sem.run_bind, zeroValue, typeInfo, run_program, hi, hz, run_newVar, Result.andThen_ok, Sem.run_pure]
      refine ⟨_, H, List.prefix_append _ _, PH.le.refl H, s.pushBox (t := t) (RepFL.of_RepL (hps H)), ?_⟩
      exact ⟨w.heap.size, by simp [← s.hlen], rfl⟩
    · exact h.elim
  · -- store
    rename_i t a x
    have h0 := evS_spec h; clear h; obtain ⟨a', h, ha'⟩ := h0
    have h0 := evS_spec h; clear h; obtain ⟨x', h, hx'⟩ := h0
    split at h
    · rename_i k off
      have h0 := cellsK_spec h; clear h; obtain ⟨cs, h, hcs⟩ := h0
      split at h
      · rename_i h1
        have h := lenK_spec h
        obtain ⟨d, i, hd, hi, h⟩ := typeK_spec h
        split at h
        · rename_i hn
          have hn := beq_of hn
          have h0 := nthK_spec h; clear h; obtain ⟨ob, hob, h⟩ := h0
          split at h
          · rename_i bt cells
            obtain ⟨h, hlen⟩ := overK_spec h
            obtain ⟨h, hk⟩ := setK_spec h
            refine ⟨_, _, h, fun hg bs ρ H w eval s hx => ?_⟩
            obtain ⟨b, hb, e⟩ := ha' ρ H _ hg (hx a (by simp [Op.operands]))
            have rc := hcs ρ H _ (hx' ρ H _ hg (hx x (by simp [Op.operands])))
            obtain ⟨b', vs, e', hg', rcells, hH⟩ := s.objs k _ _ hob hb
            cases e'
            have hsz : (eval x).cells.size = cs.length := by have := rc.length; simpa using this
            have hr := run_storeVar (P := P) (w := w) (t := t) (bt := bt) hi hg' (x := eval x) (off := off) (by omega) (by rw [rcells.length]; omega) (allOne_spec h1 rc)
            simp only [execOp, e, Sem.run_bind, hr, Result.andThen_ok, Sem.run_pure]
            refine ⟨ρ, H, List.prefix_refl _, PH.le.refl H, s.setBox hob hb hg' hH ?_, by simp [RepF, RepP, RepL, undef]⟩
            rw [hsz]
            exact ((rcells.take off).append rc).append (rcells.drop _)
          · exact h.elim
        · exact h.elim
      · exact h.elim
    · exact h.elim
  · -- append
    rename_i sx xx t t'
    split at h
    · rename_i htt
      have htt := beq_of htt
      subst htt
      have h0 := evS_spec h; clear h; obtain ⟨s', h, hs'⟩ := h0
      have h0 := evS_spec h; clear h; obtain ⟨x', h, hx'⟩ := h0
      have h0 := rowsOf_spec h; clear h; obtain ⟨news, h, hnews⟩ := h0
      have h0 := elemK_spec h; clear h; obtain ⟨e, i, hu, hi, h⟩ := h0
      split at h
      · exact h.elim
      · split at h
        · rename_i i' hi'
          have : i' = i := Option.some.inj (hi'.symm.trans hi)
          subst this
          split at h
          · rename_i zv hzv
            split at h
            · rename_i hzs
              have hzs := beq_of hzs
              split at h
              · -- a nil slice
                obtain ⟨⟨hall, hb, h63⟩, h⟩ := h
                have h := lenK_spec h
                have h := snocK_spec h
                refine ⟨_, _, h, fun hg bs ρ H w eval s hx => ?_⟩
                have es : eval sx = .slice none 0 0 := by
                  have := hs' ρ H _ hg (hx sx (by simp [Op.operands, Call.operands]))
                  simpa [RepF, RepP] using this
                have rx := hnews ρ H _ (hx' ρ H _ hg (hx xx (by simp [Op.operands, Call.operands])))
                have run : ∃ vs : List Value, RepV H i'.size news vs ∧ (∀ u ∈ vs, u.oneCell' = true) ∧
                    ((news.length = 0 ∧ eval xx = .slice none 0 0) ∨ ∃ a c, eval xx = .slice (some a) news.length c ∧ ∀ j u, vs[j]? = some u → w.cell? (a.add j) = some u) := by
                  rcases sl_flat rx hall with ⟨rfl, ex | ⟨a', cap', ex⟩⟩ | ⟨b, o, cap, vs, ex, _, hv, hc⟩
                  · exact ⟨[], rfl, by simp, .inl ⟨rfl, ex⟩⟩
                  · exact ⟨[], rfl, by simp, .inr ⟨a', cap', ex, fun j u hu => by simp at hu⟩⟩
                  · exact ⟨vs, hv, RepV.one s.sath hc, .inr ⟨⟨b, o, none⟩, cap, ex, fun j u hu => by rw [Addr.add_lit]; exact (s.sath.cell _ _ _ (hc j u hu)).1⟩⟩
                obtain ⟨vs, hv, hone, hxx⟩ := run
                obtain ⟨v', w', hr, hown', hk⟩ := append_run (P := P) (w := w) (ty := ty) hu hi hzv hzs (World.ownsRow_nil w 0 e i'.size) hv.length hone hxx (by omega) (by simpa using hb)
                obtain ⟨hle, sat⟩ := append_world s (World.ownsRow_nil w 0 e i'.size) (fun b hb => by simp [blkOf] at hb) (fun g hg => by simp [blkOf] at hg) (fun g hg => by simp [blkOf] at hg) hv.length (by simpa using hone) hown' hk
                simp only [execOp, resolve, invoke, builtin, Sem.run_bind, Sem.run_pure, Result.andThen_ok, List.map_toArray, List.map_cons, List.map_nil, es, hr]
                simp only [Nat.zero_add, List.nil_append] at hown' sat hle
                refine ⟨_, _, List.prefix_append _ _, hle, sat, by simp [← s.hlen], append_rep hv hle hown'⟩
              · -- the call's own
                rename_i k0 rows
                obtain ⟨⟨hall, hb, h63⟩, h⟩ := h
                have h0 := nthK_spec h; clear h; obtain ⟨ob, hob, h⟩ := h0
                split at h
                · rename_i e' z' n
                  obtain ⟨⟨he, hz, hn⟩, h⟩ := h
                  subst he; subst hz; subst hn
                  obtain ⟨h, hk0⟩ := setK_spec h
                  have h := lenK_spec h
                  have h := snocK_spec h
                  refine ⟨_, _, h, fun hg bs ρ H w eval s hx => ?_⟩
                  have rs := hs' ρ H _ hg (hx sx (by simp [Op.operands, Call.operands]))
                  obtain ⟨hrho, rsl⟩ := rs
                  have rx := hnews ρ H _ (hx' ρ H _ hg (hx xx (by simp [Op.operands, Call.operands])))
                  obtain ⟨xs, hown, hxs⟩ := s.objs k0 _ _ hob hrho
                  have run : ∃ vs : List Value, RepV H i'.size news vs ∧ (∀ u ∈ vs, u.oneCell' = true) ∧
                      ((news.length = 0 ∧ eval xx = .slice none 0 0) ∨ ∃ a c, eval xx = .slice (some a) news.length c ∧ ∀ j u, vs[j]? = some u → w.cell? (a.add j) = some u) := by
                    rcases sl_flat rx (fun r hr => hall r (by simp [hr])) with ⟨rfl, ex | ⟨a', cap', ex⟩⟩ | ⟨b, o, cap, vs, ex, _, hv, hc⟩
                    · exact ⟨[], rfl, by simp, .inl ⟨rfl, ex⟩⟩
                    · exact ⟨[], rfl, by simp, .inr ⟨a', cap', ex, fun j u hu => by simp at hu⟩⟩
                    · exact ⟨vs, hv, RepV.one s.sath hc, .inr ⟨⟨b, o, none⟩, cap, ex, fun j u hu => by rw [Addr.add_lit]; exact (s.sath.cell _ _ _ (hc j u hu)).1⟩⟩
                  obtain ⟨vs, hv, hone, hxx⟩ := run
                  have old : RepV H i'.size rows xs ∧ ∀ u ∈ xs, u.oneCell' = true := by
                    rcases sl_flat rsl (fun r hr => hall r (by simp [hr])) with ⟨rfl, ex⟩ | ⟨b, o, cap, us, ex, _, hv', hc⟩
                    · have : xs = [] := List.eq_nil_of_length_eq_zero (by simpa using hown.1)
                      subst this
                      exact ⟨rfl, by simp⟩
                    · have hbk : blkOf (eval sx) = some b := by rw [ex]; rfl
                      have ho : o = 0 := by
                        rcases hown.2 with ⟨e1, _⟩ | ⟨g, cap', cur, e1, _⟩
                        · rw [ex] at e1; cases e1
                        · rw [ex] at e1; injection e1 with e1; injection e1 with e1; injection e1
                      subst ho
                      have : xs = us := by
                        refine List.ext_getElem? fun j => ?_
                        have l1 : xs.length = us.length := by rw [hown.1, hv'.length]
                        rcases Nat.lt_or_ge j xs.length with hj | hj
                        · have h1 := (hxs b hbk).1 j _ (List.getElem?_eq_getElem hj)
                          have h2 := hc j _ (List.getElem?_eq_getElem (show j < us.length by omega))
                          rw [Nat.zero_add] at h2
                          rw [List.getElem?_eq_getElem hj, List.getElem?_eq_getElem (show j < us.length by omega), ← h1, ← h2]
                        · rw [List.getElem?_eq_none hj, List.getElem?_eq_none (by omega)]
                      subst this
                      exact ⟨hv', RepV.one s.sath hc⟩
                  obtain ⟨hvo, honeo⟩ := old
                  obtain ⟨v', w', hr, hown', hk⟩ := append_run (P := P) (w := w) (ty := ty) hu hi hzv hzs hown hv.length hone hxx (by rw [List.length_append] at h63; exact h63) (by rw [List.length_append] at hb; exact hb)
                  have sk := s.kill k0
                  obtain ⟨hle, sat⟩ := append_world sk hown hxs (fun g hg k o' u hk' hu' hl => by
                      rw [List.getElem?_set] at hk'
                      split at hk'
                      · first
                          | (cases hk'; simp [AObj.live] at hl; done)
                          | (split at hk'
                             · cases hk'; simp [AObj.live] at hl
                             · cases hk')
                      · rename_i hne
                        exact s.excl k0 k _ o' _ u g hob hk' hrho hu' hne rfl hl hg)
                    (fun g hg => s.own k0 _ _ g hob hrho rfl hg) hv.length (fun u hu' => by
                      rcases List.mem_append.1 hu' with h | h
                      · exact honeo u h
                      · exact hone u h) hown' hk
                  simp only [execOp, resolve, invoke, builtin, Sem.run_bind, Sem.run_pure, Result.andThen_ok, List.map_toArray, List.map_cons, List.map_nil, hr]
                  refine ⟨_, _, List.prefix_append _ _, hle, by rw [List.length_append]; exact sat, ?_, append_rep (hvo.append hv) hle (by rw [List.length_append]; exact hown')⟩
                  have : (0 + (lo.set k0 AObj.dead).length) = ρ.length := by simp [s.hlen]
                  rw [this]
                  simp
                · exact h.elim
              · exact h.elim
            · exact h.elim
          · exact h.elim
        · exact h.elim
    · have h0 := evS_spec h; clear h; obtain ⟨s', h, hs'⟩ := h0
      have h0 := evS_spec h; clear h; obtain ⟨x', h, hx'⟩ := h0
      split at h
      case h_2 => exact h.elim
      rename_i str
      split at h
      case h_2 => exact h.elim
      rename_i hut
      have h0 := elemK_spec h; clear h; obtain ⟨e, i, hu, hi, h⟩ := h0
      split at h
      case h_2 => exact h.elim
      rename_i hz1
      have hz1 := beq_of hz1
      split at h
      case h_2 => exact h.elim
      rename_i i' hi'
      have : i' = i := Option.some.inj (hi'.symm.trans hi)
      subst this
      split at h
      case h_2 => exact h.elim
      rename_i hzv
      have hbl : (bRows str).length = str.length := by simp [bRows]
      split at h
      · obtain ⟨⟨hb, h63⟩, h⟩ := h
        have h := lenK_spec h
        have h := snocK_spec h
        refine ⟨_, _, h, fun hg bs ρ H w eval s hx => ?_⟩
        have es : eval sx = .slice none 0 0 := by
          have := hs' ρ H _ hg (hx sx (by simp [Op.operands, Call.operands]))
          simpa [RepF, RepP] using this
        have ex := rep_str (hx' ρ H _ hg (hx xx (by simp [Op.operands, Call.operands])))
        obtain ⟨v', w', hr, hown', hk⟩ := append_run_string (P := P) (w := w) (ty := ty) hu hut hi hzv hz1 (World.ownsRow_nil w 0 e 1) str (by omega) (by rw [hbl] at hb; simpa using hb)
        have hv := bRows_V H str
        obtain ⟨hle, sat⟩ := append_world s (World.ownsRow_nil w 0 e 1) (fun b hb => by simp [blkOf] at hb) (fun g hg => by simp [blkOf] at hg) (fun g hg => by simp [blkOf] at hg) (by rw [Lib.strCells_length, size_lit, Nat.mul_one]) (by simpa using Lib.strCells_oneCell _) hown' hk
        simp only [execOp, resolve, invoke, builtin, Sem.run_bind, Sem.run_pure, Result.andThen_ok, List.map_toArray, List.map_cons, List.map_nil, es, ex, hr]
        simp only [Nat.zero_add, List.nil_append] at hown' sat hle
        refine ⟨_, _, List.prefix_append _ _, hle, by rw [hz1, hbl]; exact sat, by simp [← s.hlen], append_rep hv hle (by rw [hbl]; exact hown')⟩
      · rename_i k0 rows
        obtain ⟨⟨hall, hb, h63⟩, h⟩ := h
        have h0 := nthK_spec h; clear h; obtain ⟨ob, hob, h⟩ := h0
        split at h
        case h_2 => exact h.elim
        rename_i e' z' n
        obtain ⟨⟨he, hz, hn⟩, h⟩ := h
        subst he; subst hz; subst hn
        obtain ⟨h, hk0⟩ := setK_spec h
        have h := lenK_spec h
        have h := snocK_spec h
        refine ⟨_, _, h, fun hg bs ρ H w eval s hx => ?_⟩
        have rs := hs' ρ H _ hg (hx sx (by simp [Op.operands, Call.operands]))
        obtain ⟨hrho, rsl⟩ := rs
        have ex := rep_str (hx' ρ H _ hg (hx xx (by simp [Op.operands, Call.operands])))
        obtain ⟨xs, hown, hxs⟩ := s.objs k0 _ _ hob hrho
        have old : RepV H 1 rows xs ∧ ∀ u ∈ xs, u.oneCell' = true := by
          rcases sl_flat rsl hall with ⟨rfl, ex⟩ | ⟨b, o, cap, us, ex, _, hv', hc⟩
          · have : xs = [] := List.eq_nil_of_length_eq_zero (by simpa using hown.1)
            subst this
            exact ⟨rfl, by simp⟩
          · have hbk : blkOf (eval sx) = some b := by rw [ex]; rfl
            have ho : o = 0 := by
              rcases hown.2 with ⟨e1, _⟩ | ⟨g, cap', cur, e1, _⟩
              · rw [ex] at e1; cases e1
              · rw [ex] at e1; injection e1 with e1; injection e1 with e1; injection e1
            subst ho
            have : xs = us := by
              refine List.ext_getElem? fun j => ?_
              have l1 : xs.length = us.length := by rw [hown.1, hv'.length]
              rcases Nat.lt_or_ge j xs.length with hj | hj
              · have h1 := (hxs b hbk).1 j _ (List.getElem?_eq_getElem hj)
                have h2 := hc j _ (List.getElem?_eq_getElem (show j < us.length by omega))
                rw [Nat.zero_add] at h2
                rw [List.getElem?_eq_getElem hj, List.getElem?_eq_getElem (show j < us.length by omega), ← h1, ← h2]
              · rw [List.getElem?_eq_none hj, List.getElem?_eq_none (by omega)]
            subst this
            exact ⟨hv', RepV.one s.sath hc⟩
        obtain ⟨hvo, honeo⟩ := old
        rw [List.length_append, hbl] at hb h63
        obtain ⟨v', w', hr, hown', hk⟩ := append_run_string (P := P) (w := w) (ty := ty) hu hut hi hzv hz1 hown str h63 hb
        have hv := bRows_V H str
        have sk := s.kill k0
        obtain ⟨hle, sat⟩ := append_world sk hown hxs (fun g hg k o' u hk' hu' hl => by
            rw [List.getElem?_set] at hk'
            split at hk'
            · first
                | (cases hk'; simp [AObj.live] at hl; done)
                | (split at hk'
                   · cases hk'; simp [AObj.live] at hl
                   · cases hk')
            · rename_i hne
              exact s.excl k0 k _ o' _ u g hob hk' hrho hu' hne rfl hl hg)
          (fun g hg => s.own k0 _ _ g hob hrho rfl hg) (by rw [Lib.strCells_length, size_lit, Nat.mul_one]) (fun u hu' => by
            rcases List.mem_append.1 hu' with h | h
            · exact honeo u h
            · exact Lib.strCells_oneCell _ u h) hown' hk
        simp only [execOp, resolve, invoke, builtin, Sem.run_bind, Sem.run_pure, Result.andThen_ok, List.map_toArray, List.map_cons, List.map_nil, ex, hr]
        refine ⟨_, _, List.prefix_append _ _, hle, by rw [hz1, List.length_append, hbl]; exact sat, ?_, append_rep (hvo.append hv) hle (by rw [List.length_append, hbl]; exact hown')⟩
        have : (0 + (lo.set k0 AObj.dead).length) = ρ.length := by simp [s.hlen]
        rw [this]
        simp
      · exact h.elim
  · exact h.elim
end
end Ax
