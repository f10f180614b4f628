/- The abstract execution of an operation that makes, or writes, an object of the call's own is right. -/
import Derived.Test.YtkakmigbbipgoaaDoorAxStep
namespace Ax
open Go

/-! ### Rows and what lies behind them -/
theorem RepV.length {H : PH} {z : Nat} : ∀ {rows : List (List PV)} {vs : List Value}, RepV H z rows vs → vs.length = rows.length * z
  | [], _, x => by simp only [RepV] at x; simp [x]
  | r :: rs, vs, x => by
    simp only [RepV] at x
    obtain ⟨hz, a, b, rfl, q, y⟩ := x
    rw [List.length_append, q.length, hz, y.length, List.length_cons, Nat.add_mul, Nat.one_mul, Nat.add_comm]

theorem RepV.append {H : PH} {z : Nat} : ∀ {rows rows' : List (List PV)} {vs us : List Value}, RepV H z rows vs → RepV H z rows' us → RepV H z (rows ++ rows') (vs ++ us)
  | [], _, vs, us, x, y => by simp only [RepV] at x; simpa [x] using y
  | r :: rs, _, vs, us, x, y => by
    obtain ⟨hz, a, b, e, q, x'⟩ := x
    exact ⟨hz, a, b ++ us, by rw [e, List.append_assoc], q, x'.append y⟩

theorem RepR.flat {H : PH} {b z : Nat} : ∀ {o : Nat} {rows : List (List PV)}, RepR H b z o rows → ∃ vs, RepV H z rows vs ∧ ∀ j v, vs[j]? = some v → H b (o + j) = some v
  | o, [], _ => ⟨[], rfl, fun j v h => by simp at h⟩
  | o, r :: rs, x => by
    simp only [RepR] at x
    obtain ⟨hz, ⟨vs, q, c⟩, x'⟩ := x
    obtain ⟨us, y, c'⟩ := x'.flat
    refine ⟨vs ++ us, ⟨hz, vs, us, rfl, q, y⟩, fun j v hv => ?_⟩
    have hl : vs.length = z := by rw [q.length, hz]
    rcases Nat.lt_or_ge j vs.length with hj | hj
    · rw [List.getElem?_append_left hj] at hv; exact c j v hv
    · rw [List.getElem?_append_right hj] at hv
      have := c' _ _ hv
      have e : o + z + (j - vs.length) = o + j := by omega
      rwa [e] at this

theorem RepV.unflat {H : PH} {b z : Nat} : ∀ {o : Nat} {rows : List (List PV)} {vs : List Value}, RepV H z rows vs → (∀ j v, vs[j]? = some v → H b (o + j) = some v) → RepR H b z o rows
  | _, [], _, _, _ => by simp [RepR]
  | o, r :: rs, vs, x, c => by
    obtain ⟨hz, a, b', rfl, q, y⟩ := x
    have hl : a.length = z := by rw [q.length, hz]
    simp only [RepR]
    refine ⟨hz, ⟨a, q, fun j v hv => c j v ?_⟩, y.unflat fun j v hv => ?_⟩
    · have := (List.getElem?_eq_some_iff.1 hv).1
      rw [List.getElem?_append_left this]; exact hv
    · have := c (z + j) v (by rw [List.getElem?_append_right (by omega)]; rw [hl, Nat.add_sub_cancel_left]; exact hv)
      rwa [← Nat.add_assoc] at this

/-- The slice's rows, all as wide as asked. -/
theorem sl_flat {H : PH} {rows : List (List PV)} {v : Value} {z : Nat} (h : RepP H (.sl rows) v) (hz : ∀ r ∈ rows, r.length = z) :
    (rows = [] ∧ (v = .slice none 0 0 ∨ ∃ a cap, v = .slice (some a) 0 cap)) ∨ ∃ b o cap vs, v = .slice (some ⟨b, o, none⟩) rows.length cap ∧ rows.length ≤ cap ∧ RepV H z rows vs ∧ ∀ j u, vs[j]? = some u → H b (o + j) = some u := by
  simp only [RepP] at h
  rcases h with h | ⟨b, o, z', cap, e, hc, r⟩
  · exact .inl h
  · refine .inr ⟨b, o, cap, ?_⟩
    cases rows with
    | nil => exact ⟨[], e, hc, rfl, fun j u h => by simp at h⟩
    | cons r0 rs =>
      have : z' = z := by
        simp only [RepR] at r
        rw [← r.1]; exact hz r0 (by simp)
      subst this
      obtain ⟨vs, y, c⟩ := r.flat
      exact ⟨vs, e, hc, y, c⟩

/-! ### The world behind a new, or another, object -/
theorem SatW.kill {bs : Base} {ρ : List Value} {H : PH} {lo : List AObj} {w : World} (s : SatW bs ρ H lo w) (k : Nat) : SatW bs ρ H (lo.set k .dead) w where
  sath := s.sath
  hlen := by simpa using s.hlen
  pre := s.pre
  objs := fun i o v hi hv => by
    rw [List.getElem?_set] at hi
    split at hi
    · split at hi
      · cases hi; trivial
      · cases hi
    · exact s.objs i o v hi hv
  excl := fun i j o o' v v' b hi hj hv hv' hne hl hl' hb => by
    rw [List.getElem?_set] at hi hj
    split at hi
    · split at hi
      · cases hi; simp [AObj.live] at hl
      · cases hi
    · split at hj
      · split at hj
        · cases hj; simp [AObj.live] at hl'
        · cases hj
      · exact s.excl i j o o' v v' b hi hj hv hv' hne hl hl' hb
  own := fun i o v b hi hv hl hb => by
    rw [List.getElem?_set] at hi
    split at hi
    · split at hi
      · cases hi; simp [AObj.live] at hl
      · cases hi
    · exact s.own i o v b hi hv hl hb
  keep := s.keep
  leH := s.leH
  newH := s.newH

theorem SatW.push {bs : Base} {ρ : List Value} {H H' : PH} {lo : List AObj} {w w' : World} (s : SatW bs ρ H lo w) {v : Value} {o : AObj} {g : Nat}
    (hv : blkOf v = some g ∨ blkOf v = none)
    (hfree : ∀ (k : Nat) (o' : AObj) (v' : Value), lo[k]? = some o' → ρ[k]? = some v' → o'.live = true → blkOf v' ≠ some g)
    (hown : bs.S g ∨ bs.w0.heap.size ≤ g) (hle : PH.le H H') (hsat : SatH H' w')
    (hnew : ∀ b o v, H' b o = some v → (∃ v, H b o = some v) ∨ b = g) (hkeep : Keep (fun b => b = g) w w')
    (hok : ObjOk (ρ ++ [v]) H' w' v o) : SatW bs (ρ ++ [v]) H' (lo ++ [o]) w' where
  sath := hsat
  hlen := by simp [s.hlen]
  pre := s.pre.trans (List.prefix_append _ _)
  objs := fun i ob u hi hu => by
    rw [List.getElem?_append] at hi hu
    rw [s.hlen] at hu
    split at hi
    · rename_i hlt
      simp only [hlt, if_true] at hu
      cases hl : ob.live with
      | false => cases ob <;> simp [AObj.live] at hl; trivial
      | true =>
        refine (s.objs i ob u hi hu).keep (List.prefix_append _ _) hle (fun b hb hlt' => hkeep.block b hlt' (fun e => hfree i ob u hi hu hl (by rw [hb, e]))) (fun b o' hb _ hn => ?_)
        cases hx : H' b o' with
        | none => rfl
        | some x =>
          rcases hnew b o' x hx with ⟨y, hy⟩ | e
          · rw [hn] at hy; cases hy
          · exact absurd (by rw [hb, e]) (hfree i ob u hi hu hl)
    · rename_i hlt
      simp only [hlt, if_false] at hu
      have h1 := (List.getElem?_eq_some_iff.1 hi).1
      simp at h1
      have h0 : i - lo.length = 0 := by omega
      rw [h0] at hi hu
      simp at hi hu
      subst hi; subst hu
      exact hok
  excl := fun i j oi oj vi vj b hi hj hvi hvj hne hli hlj hb => by
    rw [List.getElem?_append] at hi hj hvi hvj
    rw [s.hlen] at hvi hvj
    have last : ∀ {x : Nat} {ob : AObj} {u : Value}, ¬ x < lo.length → [o][x - lo.length]? = some ob → [v][x - lo.length]? = some u → x = lo.length ∧ u = v := by
      intro x ob u hx h1 h2
      have := (List.getElem?_eq_some_iff.1 h1).1
      simp at this
      have h0 : x - lo.length = 0 := by omega
      rw [h0] at h2
      simp at h2
      exact ⟨by omega, h2.symm⟩
    by_cases h1 : i < lo.length <;> by_cases h2 : j < lo.length <;> simp only [h1, h2, if_true, if_false] at hi hj hvi hvj
    · exact s.excl i j oi oj vi vj b hi hj hvi hvj hne hli hlj hb
    · obtain ⟨_, rfl⟩ := last h2 hj hvj
      intro hb'
      rcases hv with hv | hv
      · rw [hv] at hb'; cases hb'; exact hfree i oi vi hi hvi hli hb
      · rw [hv] at hb'; cases hb'
    · obtain ⟨_, rfl⟩ := last h1 hi hvi
      intro hb'
      rcases hv with hv | hv
      · rw [hv] at hb; cases hb; exact hfree j oj vj hj hvj hlj hb'
      · rw [hv] at hb; cases hb
    · obtain ⟨e1, _⟩ := last h1 hi hvi
      obtain ⟨e2, _⟩ := last h2 hj hvj
      omega
  own := fun i ob u b hi hu hl hb => by
    rw [List.getElem?_append] at hi hu
    rw [s.hlen] at hu
    split at hi
    · rename_i hlt
      simp only [hlt, if_true] at hu
      exact s.own i ob u b hi hu hl hb
    · rename_i hlt
      simp only [hlt, if_false] at hu
      have h1 := (List.getElem?_eq_some_iff.1 hi).1
      simp at h1
      have h0 : i - lo.length = 0 := by omega
      rw [h0] at hu
      simp at hu
      subst hu
      rcases hv with hv | hv
      · rw [hv] at hb; cases hb; exact hown
      · rw [hv] at hb; cases hb
  keep := s.keep.step hkeep (fun i hi => by
    subst hi
    rcases hown with h | h
    · exact .inl h
    · exact .inr h)
  leH := s.leH.trans hle
  newH := fun b o v hb => by
    rcases hnew b o v hb with ⟨y, hy⟩ | e
    · exact s.newH b o y hy
    · subst e; exact .inr hown

theorem SatW.fresh {bs : Base} {ρ : List Value} {H : PH} {lo : List AObj} {w : World} (s : SatW bs ρ H lo w) {g : Nat} (hg : w.heap.size ≤ g) :
    ∀ (k : Nat) (o' : AObj) (v' : Value), lo[k]? = some o' → ρ[k]? = some v' → o'.live = true → blkOf v' ≠ some g := fun k o v hk hv hl hb => by
  have := s.objs k o v hk hv
  cases o with
  | dead => simp [AObj.live] at hl
  | box t cells =>
    obtain ⟨b, vs, rfl, hgt, _⟩ := this
    simp [blkOf] at hb
    have := lt_of_get hgt
    omega
  | tail e z n =>
    obtain ⟨xs, ho, _⟩ := this
    rcases ho.2 with ⟨rfl, _⟩ | ⟨g', cap, cur, rfl, _, hgt, _⟩
    · simp [blkOf] at hb
    · simp [blkOf] at hb
      have := lt_of_get hgt
      omega
  | vec e z n =>
    obtain ⟨xs, ho, _⟩ := this
    rcases ho.2 with ⟨rfl, _⟩ | ⟨g', cap, cur, rfl, _, hgt, _⟩
    · simp [blkOf] at hb
    · simp [blkOf] at hb
      have := lt_of_get hgt
      omega
  | mp es =>
    obtain ⟨b, ents, clock, rfl, hgt, _⟩ := this
    simp [blkOf] at hb
    have := lt_of_get hgt
    omega

theorem keep_alloc (w : World) (o : Obj) (g : Nat) : Keep (fun b => b = g) w (w.alloc o) :=
  ⟨rfl, rfl, rfl, by simp, fun k hk _ => heap_alloc_old w o hk⟩
theorem keep_drew_alloc (w : World) (o : Obj) (g : Nat) : Keep (fun b => b = g) w (w.drew.alloc o) :=
  ⟨rfl, rfl, rfl, by simp, fun k hk _ => heap_alloc_old w.drew o hk⟩
theorem satH_alloc {H : PH} {w : World} (s : SatH H w) (o : Obj) : SatH H (w.alloc o) := ⟨fun b p v hv => by
  refine ⟨?_, (s.cell b p v hv).2⟩
  rw [World.cell?_alloc_lt (h := s.lt hv)]
  exact (s.cell b p v hv).1, s.root⟩

/-- A new box. -/
theorem SatW.pushBox {bs : Base} {ρ : List Value} {H : PH} {lo : List AObj} {w : World} (s : SatW bs ρ H lo w) {t : TypeId} {cells : List FV} {vs : List Value} (hc : RepFL ρ H cells vs) :
    SatW bs (ρ ++ [.pointer (some ⟨w.heap.size, 0, none⟩)]) H (lo ++ [.box t cells]) (w.alloc (.cells vs.toArray t)) := by
  refine s.push (g := w.heap.size) (.inl rfl) (s.fresh (Nat.le_refl _)) (.inr s.keep.size) (PH.le.refl H) (satH_alloc s.sath _) (fun b o v h => .inl ⟨v, h⟩) (keep_alloc w _ _) ?_
  refine ⟨w.heap.size, vs, rfl, heap_alloc_new w _, hc.mono (List.prefix_append _ _) (PH.le.refl H), fun o => ?_⟩
  cases hx : H w.heap.size o with
  | none => rfl
  | some x => exact absurd (s.sath.lt hx) (Nat.lt_irrefl _)

theorem oneF_cells {ρ : List Value} {H : PH} {f : FV} {x : Value} (h : oneF f = true) (r : RepF ρ H f x) : x.cells = #[x] ∧ x.oneCell' = true := by
  cases f with
  | p p =>
    cases p <;> simp [oneF] at h <;> simp only [RepF, RepP] at r
    case sl rows =>
      rcases r with ⟨_, rfl | ⟨_, _, rfl⟩⟩ | ⟨b, o, z, cap, rfl, _⟩ <;> exact ⟨rfl, rfl⟩
    case ifc t p =>
      obtain ⟨u, rfl, _⟩ := r
      exact ⟨rfl, rfl⟩
    all_goals (subst r; exact ⟨rfl, rfl⟩)
  | top => simp [oneF] at h
  | opt g v => simp [oneF] at h
  | tsl k rows =>
    have := r.2
    simp only [RepP] at this
    rcases this with ⟨_, rfl | ⟨_, _, rfl⟩⟩ | ⟨b, o, z, cap, rfl, _⟩ <;> exact ⟨rfl, rfl⟩
  | ptr k off =>
    obtain ⟨b, _, rfl⟩ := r
    exact ⟨rfl, rfl⟩
  | hptr row =>
    obtain ⟨b, o, vs, rfl, _⟩ := r
    exact ⟨rfl, rfl⟩
  | bself k =>
    obtain ⟨b, _, rfl | rfl⟩ := r <;> exact ⟨rfl, rfl⟩
  | bsl k off len cap =>
    obtain ⟨b, _, rfl⟩ := r
    exact ⟨rfl, rfl⟩
  | vsl k n =>
    obtain ⟨_, a, cap, rfl⟩ := r
    exact ⟨rfl, rfl⟩
  | eptr k z i off =>
    obtain ⟨b, n, cap, _, rfl⟩ := r
    exact ⟨rfl, rfl⟩
  | mref k =>
    obtain ⟨b, _, rfl⟩ := r
    exact ⟨rfl, rfl⟩
  | pair a b => simp [oneF] at h

theorem allOne_spec {ρ : List Value} {H : PH} : ∀ {fs : List FV} {vs : List Value}, allOne fs = true → RepFL ρ H fs vs → ∀ u ∈ vs, u.oneCell' = true
  | [], vs, _, r, u, hu => by simp only [RepFL] at r; simp [r] at hu
  | f :: fs, vs, h, r, u, hu => by
    simp only [allOne] at h
    split at h
    · rename_i h1
      obtain ⟨v, vs', rfl, r1, rs⟩ := r
      rcases List.mem_cons.1 hu with rfl | hu
      · exact (oneF_cells h1 r1).2
      · exact allOne_spec h rs u hu
    · cases h

theorem mapP_spec : ∀ {cs : List PV} {R : List FV → Prop}, mapP cs R → R (cs.map .p)
  | [], R, h => h
  | c :: cs, R, h => by simpa using mapP_spec (cs := cs) (R := fun l => R (.p c :: l)) h

theorem cellsK_spec {f : FV} {R : List FV → Prop} (h : cellsK f R) : ∃ cs, R cs ∧ ∀ (ρ : List Value) (H : PH) (x : Value), RepF ρ H f x → RepFL ρ H cs x.cells.toList := by
  unfold cellsK at h
  split at h
  · rename_i cs
    refine ⟨_, mapP_spec h, fun ρ H x r => ?_⟩
    simp only [RepF, RepP] at r
    obtain ⟨vs, rfl, q⟩ := r
    simpa [Value.cells] using RepFL.of_RepL q
  · split at h
    · rename_i h1
      refine ⟨_, h, fun ρ H x r => ?_⟩
      rw [(oneF_cells h1 r).1]
      exact ⟨x, [], rfl, r, rfl⟩
    · exact h.elim

theorem zeroK_spec {P : Program} {t : TypeId} {R : List PV → Prop} (h : zeroK P t R) : ∃ i z ps, P.info? t = some i ∧ i.zero = some z ∧ R ps ∧ ∀ H, RepL H ps z.cells.toList := by
  unfold zeroK at h
  split at h
  · rename_i i hi
    split at h
    · rename_i vs hz
      obtain ⟨ps, hr, hs⟩ := ofVs_spec h
      exact ⟨i, _, ps, hi, hz, hr, fun H => by simpa [Value.cells] using hs H⟩
    · rename_i v hne hz
      obtain ⟨ps, hr, hs⟩ := ofVs_spec h
      refine ⟨i, v, ps, hi, hz, hr, fun H => ?_⟩
      have : v.cells = #[v] := by
        cases v <;> first | rfl | skip
        rename_i cs
        exact absurd rfl (hne cs.toList)
      rw [this]
      simpa using hs H
    · exact h.elim
  · exact h.elim

theorem overK_spec : ∀ {off : Nat} {vs old : List FV} {R : List FV → Prop}, overK off vs old R → R (old.take off ++ vs ++ old.drop (off + vs.length)) ∧ off + vs.length ≤ old.length
  | 0, [], old, R, h => by simpa [overK] using h
  | 0, v :: vs, [], R, h => by simp [overK] at h
  | 0, v :: vs, a :: old, R, h => by
    simp only [overK] at h
    have := overK_spec (off := 0) h
    simpa using this
  | off + 1, vs, [], R, h => by cases vs <;> simp [overK] at h
  | off + 1, vs, a :: old, R, h => by
    have h' : overK off vs old fun l => R (a :: l) := by cases vs <;> simpa [overK] using h
    have := overK_spec h'
    have e : off + 1 + vs.length = (off + vs.length) + 1 := by omega
    rw [e]
    simpa using this

theorem RepFL.append {ρ : List Value} {H : PH} : ∀ {cs ds : List FV} {vs us : List Value}, RepFL ρ H cs vs → RepFL ρ H ds us → RepFL ρ H (cs ++ ds) (vs ++ us)
  | [], _, vs, _, x, y => by simp only [RepFL] at x; simpa [x] using y
  | c :: cs, ds, vs, us, x, y => by
    obtain ⟨v, vs', rfl, r, rs⟩ := x
    exact ⟨v, _, rfl, r, rs.append y⟩

/-- A box is written. -/
theorem SatW.setBox {bs : Base} {ρ : List Value} {H : PH} {lo : List AObj} {w : World} (s : SatW bs ρ H lo w) {k b : Nat} {t : TypeId} {old cells : List FV} {vs0 vs : List Value}
    (hk : lo[k]? = some (.box t old)) (hv : ρ[k]? = some (.pointer (some ⟨b, 0, none⟩))) (hg : w.heap[b]? = some (.cells vs0.toArray t (0, 0))) (hH : ∀ o, H b o = none)
    (hc : RepFL ρ H cells vs) : SatW bs ρ H (lo.set k (.box t cells)) (w.setRow b vs.toArray) where
  sath := s.sath.block fun b' o v hb => setRow_other w b b' _ (fun e => by subst e; rw [hH o] at hb; cases hb)
  hlen := by simpa using s.hlen
  pre := s.pre
  objs := fun i o v hi hv' => by
    rw [List.getElem?_set] at hi
    split at hi
    · rename_i e
      subst e
      split at hi
      · cases hi
        rw [hv] at hv'
        cases hv'
        exact ⟨b, vs, rfl, setRow_heap w b _ _ t _ hg, hc, hH⟩
      · cases hi
    · rename_i hne
      cases hl : o.live with
      | false => cases o <;> simp [AObj.live] at hl; trivial
      | true =>
        have hex := s.excl k i _ o _ v b hk hi hv hv' hne rfl hl rfl
        exact (s.objs i o v hi hv').keep (List.prefix_refl _) (PH.le.refl H) (fun b' hb' _ => setRow_other w b b' _ (fun e => hex (by rw [hb', e]))) (fun b' o' _ _ hn => hn)
  excl := fun i j oi oj vi vj b' hi hj hvi hvj hne hli hlj hb => by
    rw [List.getElem?_set] at hi hj
    have live : ∀ {x : Nat} {ob : AObj}, (if k = x then if k < lo.length then some (AObj.box t cells) else none else lo[x]?) = some ob → ob.live = true → ∃ o', lo[x]? = some o' ∧ o'.live = true := by
      intro x ob h hl
      split at h
      · rename_i e; subst e; exact ⟨_, hk, rfl⟩
      · exact ⟨ob, h, hl⟩
    obtain ⟨o1, h1, l1⟩ := live hi hli
    obtain ⟨o2, h2, l2⟩ := live hj hlj
    exact s.excl i j o1 o2 vi vj b' h1 h2 hvi hvj hne l1 l2 hb
  own := fun i o v b' hi hv' hl hb => by
    rw [List.getElem?_set] at hi
    split at hi
    · rename_i e; subst e; exact s.own k _ v b' hk hv' rfl hb
    · exact s.own i o v b' hi hv' hl hb
  keep := s.keep.step (S' := fun x => x = b) ⟨rfl, rfl, rfl, by simp, fun x _ hx => setRow_other w b x _ hx⟩ (fun i hi => by
    subst hi
    exact s.own k _ _ i hk hv rfl rfl)
  leH := s.leH
  newH := s.newH

end Ax
