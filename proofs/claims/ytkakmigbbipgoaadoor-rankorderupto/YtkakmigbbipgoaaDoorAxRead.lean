/- From a reading of the arguments to pure values. -/
import Derived.Test.YtkakmigbbipgoaaDoorAxNorm
import Derived.ChangeArms
import Derived.DataElems
import Derived.DataReads
namespace Ax
open Go

/-- The cells that the world holds when the call begins. -/
def heapH (w : World) : PH := fun b o => (w.cell? ⟨b, o, none⟩).bind fun v => bif v.oneCell' then some v else none

theorem heapH_sat {w : World} (h : ∃ m, w.cell? ⟨0, 0, none⟩ = some (.int .i64 m)) : SatH (heapH w) w where
  cell := fun b o v hv => by
    unfold heapH at hv
    obtain ⟨u, hu, h1⟩ := Option.bind_eq_some_iff.1 hv
    cases hc : u.oneCell' with
    | false => rw [hc] at h1; cases h1
    | true => rw [hc] at h1; cases h1; exact ⟨hu, hc⟩
  root := by
    obtain ⟨m, hm⟩ := h
    exact ⟨m, by simp [heapH, hm, Value.oneCell']⟩

theorem heapH_of {w : World} {a : Addr} {v : Value} (h : w.cell? a = some v) (h1 : v.oneCell' = true) : heapH w a.block a.off = some v := by
  have hs : a.spot = none := by
    unfold World.cell? at h
    split at h
    · cases hsp : a.spot with
      | none => rfl
      | some s => rw [hsp] at h; simp at h
    · cases h
  have : (⟨a.block, a.off, none⟩ : Addr) = a := by cases a; simp only at hs; subst hs; rfl
  unfold heapH
  rw [this, h]
  simp [h1]

theorem cells_get {w : World} {base : Nat} {a : Addr} {n : Nat} {cs : List Value} (h : w.cells? base a n = some cs) : cs.length = n ∧ ∀ j, j < n → w.cell? (a.add j) = cs[j]? := by
  unfold World.cells? at h
  split at h
  · exact ⟨by simpa using mapM_some_length h, fun j hj => mapM_some_get h j j (by simp [hj])⟩
  · cases h

section
variable {Hd : Type} {enc : TypeId × Value → Hd} {P : Program} {w : World}

/-- What an element's reading says of its cells. -/
def ReadsAs {α : Type} (enc : TypeId × Value → Hd) (P : Program) (w : World) (t : TypeId) (n : Nat) (row : α → List PV) (sz : α → Nat) (bulk : DataW Hd → Nat) : Prop :=
  ∀ (cs : List Value) (x : DataW Hd × List MemPlace), DataW.trod enc P w 0 (fun _ => true) true n t cs = some x → ∃ v : α, RepL (heapH w) (row v) cs ∧ (∀ u ∈ cs, u.oneCell' = true) ∧ sz v ≤ bulk x.1

theorem rowsR {α : Type} {H : PH} {b z : Nat} {row : α → List PV} : ∀ (l : List α) (o : Nat) (csOf : Nat → List Value), (∀ v ∈ l, (row v).length = z) →
    (∀ i v, l[i]? = some v → RepL H (row v) (csOf i) ∧ ∀ j u, (csOf i)[j]? = some u → H b (o + i * z + j) = some u) → RepR H b z o (l.map row)
  | [], _, _, _, _ => trivial
  | v :: l, o, csOf, hz, h => by
    simp only [List.map_cons, RepR]
    refine ⟨hz v (by simp), ⟨csOf 0, (h 0 v rfl).1, fun j u hu => by have := (h 0 v rfl).2 j u hu; simpa using this⟩, ?_⟩
    refine rowsR l (o + z) (fun i => csOf (i + 1)) (fun v hv => hz v (by simp [hv])) fun i v' hv' => ?_
    obtain ⟨h1, h2⟩ := h (i + 1) v' (by simpa using hv')
    refine ⟨h1, fun j u hu => ?_⟩
    have := h2 j u hu
    rw [Nat.add_mul, Nat.one_mul] at this
    have e : o + (i * z + z) + j = o + z + i * z + j := by omega
    rw [← e]; exact this

theorem read_slice {α : Type} [Inhabited α] {t e : TypeId} {z fuel : Nat} {row : α → List PV} {sz : α → Nat} {bulk : DataW Hd → Nat} (ht : P.underlying t = some (.slice e)) (hz : P.cellsOf e = z) (hz1 : 1 ≤ z)
    (hrow : ∀ v, (row v).length = z) (hel : ∀ n, n < fuel → ReadsAs enc P w e n row sz bulk) {cs : List Value} {x : DataW Hd × List MemPlace} (h : DataW.trod enc P w 0 (fun _ => true) true fuel t cs = some x) :
    ∃ (l : List α) (v : Value), cs = [v] ∧ v.oneCell' = true ∧ RepP (heapH w) (.sl (l.map row)) v ∧
      ((x.1 = .nil ∧ l = []) ∨ ∃ elems rest, x.1 = .slice elems rest ∧ l.length = elems.length ∧ ∀ (i : Nat) (d : DataW Hd) (v : α), elems[i]? = some d → l[i]? = some v → sz v ≤ bulk d) := by
  rcases DataW.trod_slice ht h with ⟨rfl, rfl⟩ | ⟨a, len, cap, elems, rest, n, rfl, rfl, rfl, _, hlc, _, hlen, hget, _, _⟩
  · exact ⟨[], _, rfl, rfl, by simp [RepP], .inl ⟨rfl, rfl⟩⟩
  · have hx : ∀ i, i < len → ∃ (v : α) (cs : List Value) (d : DataW Hd × List MemPlace), elems[i]? = some d ∧ RepL (heapH w) (row v) cs ∧ (∀ j u, cs[j]? = some u → heapH w a.block (a.off + i * z + j) = some u) ∧ sz v ≤ bulk d.1 := by
      intro i hi
      have h1 := hget i hi
      obtain ⟨d, hd⟩ : ∃ d, elems[i]? = some d := ⟨_, List.getElem?_eq_getElem (by omega)⟩
      rw [hd] at h1
      obtain ⟨cs, hcs, htr⟩ := Option.bind_eq_some_iff.1 h1
      obtain ⟨v, r, hone, hs⟩ := hel n (Nat.lt_succ_self n) cs d htr
      refine ⟨v, cs, d, hd, r, fun j u hu => ?_, hs⟩
      obtain ⟨hl, hc⟩ := cells_get hcs
      have hj : j < P.cellsOf e := by have := (List.getElem?_eq_some_iff.1 hu).1; omega
      have h2 := hc j hj
      rw [hu, Addr.add_add] at h2
      have := heapH_of h2 (hone u (List.mem_of_getElem? hu))
      rw [hz] at this
      have eb : (a.add (i * z + j)).block = a.block := by unfold Addr.add; split <;> rfl
      have eo : (a.add (i * z + j)).off = a.off + i * z + j := by unfold Addr.add; split <;> (try simp only) <;> omega
      rw [eb, eo] at this
      exact this
    have spot : len ≠ 0 → a.spot = none := by
      intro h0
      have h1 := hget 0 (by omega)
      obtain ⟨d, hd⟩ : ∃ d, elems[0]? = some d := ⟨_, List.getElem?_eq_getElem (by omega)⟩
      rw [hd] at h1
      obtain ⟨cs, hcs, _⟩ := Option.bind_eq_some_iff.1 h1
      obtain ⟨hl, hc⟩ := cells_get hcs
      have h2 := hc 0 (by omega)
      rw [Nat.zero_mul, Addr.add_zero', Addr.add_zero'] at h2
      cases hu : cs[0]? with
      | none => have := List.getElem?_eq_none_iff.1 hu; omega
      | some u =>
        rw [hu] at h2
        unfold World.cell? at h2
        split at h2
        · cases hsp : a.spot with
          | none => rfl
          | some s => rw [hsp] at h2; simp at h2
        · cases h2
    let f : Nat → α := fun i => if h : i < len then (hx i h).choose else default
    have hf : ∀ i, i < len → ∃ (cs : List Value) (d : DataW Hd × List MemPlace), elems[i]? = some d ∧ RepL (heapH w) (row (f i)) cs ∧ (∀ j u, cs[j]? = some u → heapH w a.block (a.off + i * z + j) = some u) ∧ sz (f i) ≤ bulk d.1 := by
      intro i hi
      have := (hx i hi).choose_spec
      simp only [f, hi, dif_pos]
      exact this
    refine ⟨(List.range len).map f, _, rfl, rfl, ?_, .inr ⟨_, _, rfl, by simp [hlen], fun i d v hd hv => ?_⟩⟩
    · simp only [RepP, List.length_map, List.length_range]
      by_cases h0 : len = 0
      · subst h0
        exact .inl ⟨rfl, .inr ⟨_, _, rfl⟩⟩
      · refine .inr ⟨a.block, a.off, z, cap, ?_, hlc, ?_⟩
        · have := spot h0
          cases a
          simp only at this
          subst this
          rfl
        · refine rowsR ((List.range len).map f) a.off (fun i => if h : i < len then (hf i h).choose else []) (fun v _ => hrow v) fun i v hv => ?_
          simp only [List.getElem?_map, Option.map_eq_some_iff] at hv
          obtain ⟨i', hi', rfl⟩ := hv
          obtain ⟨hlt, e⟩ := List.getElem?_eq_some_iff.1 hi'
          simp at hlt e
          subst e
          obtain ⟨d, hd, hr, hc, _⟩ := (hf i hlt).choose_spec
          simp only [hlt, dif_pos]
          exact ⟨hr, hc⟩
    · simp only [List.getElem?_map, Option.map_eq_some_iff] at hv hd
      obtain ⟨i', hi', rfl⟩ := hv
      obtain ⟨hlt, e⟩ := List.getElem?_eq_some_iff.1 hi'
      simp at hlt e
      subst e
      obtain ⟨d', hd', rfl⟩ := hd
      obtain ⟨_, d2, hd2, _, _, hs⟩ := hf i hlt
      rw [hd'] at hd2
      cases hd2
      exact hs
end
end Ax
