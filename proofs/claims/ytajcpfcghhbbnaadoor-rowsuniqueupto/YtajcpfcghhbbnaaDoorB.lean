/- A part of the proof. -/
import Derived.Carry
import Derived.Laws.IdiomCopy
import Derived.Laws.OwnMore
import Derived.Lib.AppendStr
import Derived.Lib.ConvBytes
import Derived.Test.YtajcpfcghhbbnaaDoorA
set_option linter.all false
section
namespace Ax
open Go
variable {Lw : Nat}

/-- An object is changed in its block. -/
theorem SatW.upd {bs : (Base Lw)} {ρ : List Value} {H : (PH Lw)} {lo : List AObj} {w w' : World} (s : SatW bs ρ H lo w) {k b : Nat} {o o' : AObj} {v : Value}
    (hk : lo[k]? = some o) (hv : ρ[k]? = some v) (hl : o.live = true) (hb : blkOf v = some b) (hH : ∀ i, H b i = none) (hkeep : Keep (fun x => x = b) w w') (hob : ObjOk ρ H w' v o') : SatW bs ρ H (lo.set k o') w' where
  sath := s.sath.block hkeep.size fun b' i u hu => hkeep.block b' (s.sath.lt hu) (fun e => by subst e; rw [hH i] at hu; cases hu)
  hlen := by simpa using s.hlen
  pre := s.pre
  objs := fun i oi vi hi hvi => by
    rw [List.getElem?_set] at hi
    split at hi
    · rename_i e
      subst e
      split at hi
      · cases hi
        rw [hv] at hvi
        cases hvi
        exact hob
      · cases hi
    · rename_i hne
      cases hli : oi.live with
      | false => cases oi <;> simp [AObj.live] at hli; trivial
      | true =>
        have hex := s.excl k i _ oi _ vi b hk hi hv hvi hne hl hli hb
        exact (s.objs i oi vi hi hvi).keep (List.prefix_refl _) (PH.le.refl H) (fun b' hb' hlt => hkeep.block b' hlt (fun e => hex (by rw [hb', e]))) (fun b' i' _ _ hn => hn)
  excl := fun i j oi oj vi vj b' hi hj hvi hvj hne hli hlj hbi => by
    rw [List.getElem?_set] at hi hj
    have live : ∀ {x : Nat} {ob : AObj}, (if k = x then if k < lo.length then some o' else none else lo[x]?) = some ob → ob.live = true → ∃ o2, lo[x]? = some o2 ∧ o2.live = true := by
      intro x ob h hl'
      split at h
      · rename_i e; subst e; exact ⟨_, hk, hl⟩
      · exact ⟨ob, h, hl'⟩
    obtain ⟨o1, h1, l1⟩ := live hi hli
    obtain ⟨o2, h2, l2⟩ := live hj hlj
    exact s.excl i j o1 o2 vi vj b' h1 h2 hvi hvj hne l1 l2 hbi
  own := fun i oi vi b' hi hvi hli hbi => by
    rw [List.getElem?_set] at hi
    split at hi
    · rename_i e; subst e; exact s.own k _ vi b' hk hvi hl hbi
    · exact s.own i oi vi b' hi hvi hli hbi
  keep := s.keep.step hkeep (fun i hi => by
    subst hi
    exact s.own k _ _ i hk hv hl hb)
  leH := s.leH
  newH := s.newH

def AObj.boxy : AObj → Bool
  | .box _ _ => true
  | .mp _ _ _ => true
  | .pbx _ _ => true
  | _ => false
/-- No object goes; where b, none that is looked at changes. -/
def EffRel (b : Bool) (lo lo' : List AObj) : Prop := lo.length ≤ lo'.length ∧ (b = true → ∀ k ob, k < lo.length → ob.boxy = true → (lo[k]? = some ob ↔ lo'[k]? = some ob))
theorem EffRel.refl {b : Bool} (lo : List AObj) : EffRel b lo lo := ⟨Nat.le_refl _, fun _ _ _ _ _ => Iff.rfl⟩
theorem EffRel.push {b : Bool} {lo : List AObj} (o : AObj) : EffRel b lo (lo ++ [o]) := ⟨by simp, fun _ k ob hk _ => by rw [List.getElem?_append_left hk]⟩
theorem EffRel.set {lo : List AObj} (k : Nat) (o : AObj) : EffRel false lo (lo.set k o) := ⟨by simp, fun h => by cases h⟩
theorem EffRel.len {lo lo' : List AObj} (h : lo'.length = lo.length) : EffRel false lo lo' := ⟨by omega, fun h => by cases h⟩
theorem EffRel.kill {b : Bool} {lo : List AObj} {k0 : Nat} {o0 : AObj} (o : AObj) (h : lo[k0]? = some o0) (h0 : o0.boxy = false) : EffRel b lo (lo.set k0 .dead ++ [o]) := ⟨by simp, fun _ k ob hk hb => by
  rw [List.getElem?_append_left (by simpa using hk), List.getElem?_set]
  split
  · rename_i e
    subst e
    rw [if_pos hk, h]
    constructor
    · intro e; cases e; rw [h0] at hb; cases hb
    · intro e; cases e; cases hb
  · exact Iff.rfl⟩
theorem EffRel.trans {b : Bool} {l1 l2 l3 : List AObj} (h : EffRel b l1 l2) (k : EffRel b l2 l3) : EffRel b l1 l3 :=
  ⟨Nat.le_trans h.1 k.1, fun hb i ob hi hy => (h.2 hb i ob hi hy).trans (k.2 hb i ob (Nat.lt_of_lt_of_le hi h.1) hy)⟩

section
variable {P : Program} {w : World}

/-! ### Keys -/
theorem keyIs_spec {d' d : TypeDesc} {kp : PV} {R : Prop} (h : keyIs d' d kp R) : R ∧ d' = d ∧ ∀ ⦃Lw : Nat⦄ (H : (PH Lw)) (v : Value), RepP H kp v → MapKept.IsKey d v := by
  unfold keyIs at h
  split at h
  · exact ⟨h, rfl, fun Lw H v r => by simp only [RepP] at r; subst r; trivial⟩
  · exact ⟨h, rfl, fun Lw H v r => by simp only [RepP] at r; subst r; trivial⟩
  · split at h
    · rename_i h1
      split at h
      · rename_i h2
        have h1 := kindEq_spec h1
        have h2 := kindEq_spec h2
        subst h1; subst h2
        exact ⟨h, rfl, fun Lw H v r => by simp only [RepP] at r; subst r; rfl⟩
      · exact h.elim
    · exact h.elim
  · exact h.elim

theorem mapK_spec {t : TypeId} {d : TypeDesc} {kp : PV} {R : TypeId → Prop} (h : mapK P t d kp R) : ∃ kt et, R et ∧ P.underlying t = some (.map kt et) ∧ P.underlying kt = some d ∧ ∀ ⦃Lw : Nat⦄ (H : (PH Lw)) (v : Value), RepP H kp v → MapKept.IsKey d v := by
  unfold mapK at h
  split at h
  · rename_i kt et ht
    split at h
    · rename_i d' hd
      obtain ⟨h2, rfl, hk⟩ := keyIs_spec h
      exact ⟨kt, et, h2, ht, hd, hk⟩
    · exact h.elim
  · exact h.elim

theorem bytes_inj {a b : List UInt8} : (Value.string ⟨a.toArray⟩ = Value.string ⟨b.toArray⟩) ↔ a = b := by
  constructor
  · intro h
    injection h with h
    injection h with h
    simpa using h
  · rintro rfl; rfl

/-- Two keys of one type are the same if what they say is. -/
theorem kEqP_spec {H : (PH Lw)} {d : TypeDesc} {p q : PV} {x y : Value} (hp : RepP H p x) (hq : RepP H q y) (hx : MapKept.IsKey d x) (hy : MapKept.IsKey d y) : kEqP p q = true ↔ y = x := by
  have b1 : ∀ {p : PV} {b : Bool}, RepP H p (.bool b) → p = .bool b := by
    intro p b h
    cases p <;> simp only [RepP] at h <;> (try (obtain ⟨_, _, _, h, _, _⟩ := h; cases h; done)) <;> (try (obtain ⟨_, h, _⟩ := h; cases h)) <;> (try (rcases h with ⟨_, h | ⟨_, _, h⟩⟩ | ⟨_, _, _, _, h, _⟩ <;> cases h)) <;> (try (rcases h with ⟨_, h⟩ | ⟨_, _, h, _⟩ <;> cases h; done)) <;> try cases h
    rfl
  have b2 : ∀ {p : PV} {k : IntKind} {n : Int}, RepP H p (.int k n) → p = .int k n := by
    intro p k n h
    cases p <;> simp only [RepP] at h <;> (try (obtain ⟨_, _, _, h, _, _⟩ := h; cases h; done)) <;> (try (obtain ⟨_, h, _⟩ := h; cases h)) <;> (try (rcases h with ⟨_, h | ⟨_, _, h⟩⟩ | ⟨_, _, _, _, h, _⟩ <;> cases h)) <;> (try (rcases h with ⟨_, h⟩ | ⟨_, _, h, _⟩ <;> cases h; done)) <;> try cases h
    rfl
  have b3 : ∀ {p : PV} {b : ByteArray}, RepP H p (.string b) → ∃ l : List UInt8, p = .str l ∧ b = ⟨l.toArray⟩ := by
    intro p b h
    cases p <;> simp only [RepP] at h <;> (try (obtain ⟨_, _, _, h, _, _⟩ := h; cases h; done)) <;> (try (obtain ⟨_, h, _⟩ := h; cases h)) <;> (try (rcases h with ⟨_, h | ⟨_, _, h⟩⟩ | ⟨_, _, _, _, h, _⟩ <;> cases h)) <;> (try (rcases h with ⟨_, h⟩ | ⟨_, _, h, _⟩ <;> cases h; done)) <;> try cases h
    exact ⟨_, rfl, rfl⟩
  cases d <;> cases x <;> cases y <;> simp only [MapKept.IsKey] at hx hy
  · rw [b1 hp, b1 hq]
    simp only [kEqP, beq_iff_eq]
    exact ⟨fun h => by rw [h], fun h => by injection h with h; exact h.symm⟩
  · subst hx; subst hy
    rw [b2 hp, b2 hq]
    simp only [kEqP, beq_iff_eq]
    exact ⟨fun h => by rw [h], fun h => by injection h with _ h; exact h.symm⟩
  · obtain ⟨l, rfl, rfl⟩ := b3 hp
    obtain ⟨m, rfl, rfl⟩ := b3 hq
    simp only [kEqP, beq_iff_eq, bytes_inj]
    exact eq_comm

/-- Looking for a key. -/
theorem find_spec {H : (PH Lw)} {d : TypeDesc} {kp : PV} {k : Value} (hkp : RepP H kp k) (hk : MapKept.IsKey d k) : ∀ (es : List (PV × PV)) (l : List MapEntry) (i : Nat), RepM H es l → (∀ x ∈ l, MapKept.IsKey d x.key) →
    (mFind kp es = none ∧ Instr.findNow d k l i = some none ∧ (∀ x ∈ l, x.key ≠ k) ∧ ∀ vp, mSet kp vp es = es ++ [(kp, vp)]) ∨
    ∃ j e p, mFind kp es = some p ∧ Instr.findNow d k l i = some (some (i + j, e.val)) ∧ l[j]? = some e ∧ e.key = k ∧ RepP H p e.val ∧ ∀ vp, mSet kp vp es = es.set j (kp, vp)
  | [], l, i, r, _ => by
    simp only [RepM] at r
    subst r
    exact .inl ⟨rfl, rfl, by simp, fun _ => rfl⟩
  | (p, q) :: es, l, i, r, h => by
    obtain ⟨e, l', rfl, rk, rv, rr⟩ := r
    have he := h e (.head _)
    obtain ⟨b, hb, hiff⟩ := MapKept.sameNow_of_keys hk he
    have hke := kEqP_spec hkp rk hk he
    cases b with
    | true =>
      have heq := hiff.1 rfl
      have hkk : kEqP kp p = true := hke.2 heq.symm
      exact .inr ⟨0, e, q, by simp [mFind, hkk], by simp [Instr.findNow, hb], rfl, heq.symm, rv, fun vp => by simp [mSet, hkk]⟩
    | false =>
      have hne : e.key ≠ k := fun q => by have := hiff.2 q.symm; cases this
      have hkk : kEqP kp p = false := by
        cases hx : kEqP kp p with
        | false => rfl
        | true => exact absurd (hke.1 hx) hne
      rcases find_spec hkp hk es l' (i + 1) rr (fun x hx => h x (.tail _ hx)) with ⟨h1, h2, h3, h4⟩ | ⟨j, e', p', h1, h2, h3, h4, h5, h6⟩
      · refine .inl ⟨by simp [mFind, hkk, h1], by simp [Instr.findNow, hb, h2], fun x hx => ?_, fun vp => by simp [mSet, hkk, h4]⟩
        cases hx with
        | head => exact hne
        | tail _ hx => exact h3 x hx
      · exact .inr ⟨j + 1, e', p', by simp [mFind, hkk, h1], by simp [Instr.findNow, hb, h2]; omega, by simpa using h3, h4, h5, fun vp => by simp [mSet, hkk, h6]⟩

theorem RepM.length {H : (PH Lw)} : ∀ {es : List (PV × PV)} {l : List MapEntry}, RepM H es l → l.length = es.length
  | [], l, r => by simp only [RepM] at r; simp [r]
  | (_, _) :: es, l, r => by
    obtain ⟨e, l', rfl, _, _, rr⟩ := r
    simp [rr.length]

theorem RepM.push {H : (PH Lw)} : ∀ {es : List (PV × PV)} {l : List MapEntry} {k v : PV} {e : MapEntry}, RepM H es l → RepP H k e.key → RepP H v e.val → RepM H (es ++ [(k, v)]) (l ++ [e])
  | [], l, k, v, e, r, rk, rv => by
    simp only [RepM] at r
    subst r
    exact ⟨e, [], rfl, rk, rv, rfl⟩
  | (_, _) :: es, l, k, v, e, r, rk, rv => by
    obtain ⟨e', l', rfl, r1, r2, rr⟩ := r
    exact ⟨e', l' ++ [e], rfl, r1, r2, rr.push rk rv⟩

theorem RepM.set {H : (PH Lw)} : ∀ {es : List (PV × PV)} {l : List MapEntry} {j : Nat} {k v : PV} {e : MapEntry}, RepM H es l → RepP H k e.key → RepP H v e.val → RepM H (es.set j (k, v)) (l.set j e)
  | [], l, j, k, v, e, r, rk, rv => by
    simp only [RepM] at r
    subst r
    simp [RepM]
  | (_, _) :: es, l, j, k, v, e, r, rk, rv => by
    obtain ⟨e', l', rfl, r1, r2, rr⟩ := r
    cases j with
    | zero => exact ⟨e, l', rfl, rk, rv, rr⟩
    | succ j => exact ⟨e', l'.set j e, rfl, r1, r2, rr.set rk rv⟩

theorem zeroP_spec {t : TypeId} {R : PV → Prop} (h : zeroP P t R) : ∃ p z, R p ∧ (∀ w, (zeroValue t).run P w = .ok z w) ∧ ∀ ⦃Lw : Nat⦄ (H : PH Lw), RepP H p z := by
  unfold zeroP at h
  split at h
  · rename_i i hi
    split at h
    · rename_i vs hz
      obtain ⟨ps, h, hps⟩ := ofVs_spec h
      exact ⟨.agg ps, .agg ⟨vs⟩, h, fun w => by simp [zeroValue, typeInfo, hi, hz], fun Lw H => by simp only [RepP]; exact ⟨vs, rfl, hps H⟩⟩
    · rename_i v hne hz
      split at h
      · rename_i p hp
        exact ⟨p, v, h, fun w => by simp [zeroValue, typeInfo, hi, hz], fun Lw H => ofV1_spec hp H⟩
      · exact h.elim
    · exact h.elim
  · exact h.elim

theorem kLookup_spec {g : G} {t : TypeId} {lo : List AObj} {x key : FV} {ok : Bool} {R : FV → Prop} (h : kLookup P g t lo x key ok R) :
    ∃ fv, R fv ∧ ((∃ k o, x = .mref k ∧ lo[k]? = some o ∧ o.live = true) ∧ (gOn g → ∀ ⦃Lw : Nat⦄ (bs : (Base Lw)) (ρ : List Value) (H : (PH Lw)) (w : World) (a b : Value), SatW bs ρ H lo w → RepF ρ H x a → RepF ρ H key b →
      ∃ v, (Instr.lookup t a b ok).run P w = .ok v w ∧ RepF ρ H fv v)) := by
  unfold kLookup at h
  split at h
  · rename_i k kp
    have h0 := nthK_spec h; clear h; obtain ⟨o, ho, h⟩ := h0
    split at h
    · rename_i d es mk
      have h0 := mapK_spec h; clear h; obtain ⟨kt, et, h, ht, hd, hkey⟩ := h0
      have h0 := zeroP_spec h; clear h; obtain ⟨z, zv, h, hz, rz⟩ := h0
      obtain ⟨v, b, hvb, h⟩ := h
      refine ⟨_, h, ⟨k, _, rfl, ho, rfl⟩, fun hg Lw bs ρ H w a kv s ra rk => ?_⟩
      obtain ⟨hv, hb⟩ := gI_on hvb hg
      obtain ⟨bl, hρ, rfl⟩ := ra
      obtain ⟨bl', ents, clock, e, hheap, rm, ⟨hst, hks, _⟩, _⟩ := s.objs k _ _ ho hρ
      cases e
      have hik := hkey H kv rk
      rcases find_spec rk hik es ents.toList 0 rm hks with ⟨h1, h2, _, _⟩ | ⟨j, e, p, h1, h2, _, _, h5, _⟩
      · rw [h1] at hv hb
        simp only [Option.getD_none, Option.isSome_none] at hv hb
        subst hv; subst hb
        cases ok
        · exact ⟨zv, by simp [Instr.lookup, run_underlying ht, MapKept.run_getObj_map hheap, MapKept.run_checkKey hd hik, MapKept.run_findKey hd h2, hz], rz H⟩
        · exact ⟨.tuple #[zv, .bool false], by simp [Instr.lookup, run_underlying ht, MapKept.run_getObj_map hheap, MapKept.run_checkKey hd hik, MapKept.run_findKey hd h2, hz], by
            simp only [RepF, RepP]
            exact ⟨[zv, .bool false], rfl, by simp only [RepL]; exact ⟨zv, _, rfl, rz H, .bool false, [], rfl, by simp [RepP], rfl⟩⟩⟩
      · rw [h1] at hv hb
        simp only [Option.getD_some, Option.isSome_some] at hv hb
        subst hv; subst hb
        cases ok
        · exact ⟨e.val, by simp [Instr.lookup, run_underlying ht, MapKept.run_getObj_map hheap, MapKept.run_checkKey hd hik, MapKept.run_findKey hd h2], h5⟩
        · exact ⟨.tuple #[e.val, .bool true], by simp [Instr.lookup, run_underlying ht, MapKept.run_getObj_map hheap, MapKept.run_checkKey hd hik, MapKept.run_findKey hd h2], by
            simp only [RepF, RepP]
            exact ⟨[e.val, .bool true], rfl, by simp only [RepL]; exact ⟨e.val, _, rfl, h5, .bool true, [], rfl, by simp [RepP], rfl⟩⟩⟩
    · exact h.elim
  · exact h.elim

theorem kLenM_spec {t : TypeId} {lo : List AObj} {x : FV} {R : FV → Prop} (h : kLenM P t lo x R) :
    ∃ fv, R fv ∧ ∀ ⦃Lw : Nat⦄ (bs : (Base Lw)) (ρ : List Value) (H : (PH Lw)) (w : World) (ty : TypeId) (a : Value), SatW bs ρ H lo w → RepF ρ H x a → ∃ v, (Builtin.len_ #[t] ty #[a]).run P w = .ok v w ∧ RepF ρ H fv v := by
  unfold kLenM at h
  split at h
  · rename_i k
    have h0 := nthK_spec h; clear h; obtain ⟨o, ho, h⟩ := h0
    split at h
    · rename_i d es mk
      split at h
      · rename_i kt et ht
        obtain ⟨n, hn, h⟩ := h
        refine ⟨_, h, fun Lw bs ρ H w ty a s ra => ⟨.int .i64 n, ?_, int_rep⟩⟩
        obtain ⟨bl, hρ, rfl⟩ := ra
        obtain ⟨bl', ents, clock, e, hheap, rm, _⟩ := s.objs k _ _ ho hρ
        cases e
        have := rm.length
        simp at this
        simp [Builtin.len_, run_underlying ht, MapKept.run_getObj_map hheap, goInt, this, hn]
      · exact h.elim
    · exact h.elim
  · exact h.elim

theorem keep_set (w : World) (b : Nat) (o : Obj) : Keep (fun x => x = b) w { w with heap := w.heap.setIfInBounds b o } :=
  ⟨rfl, rfl, rfl, by simp, fun k _ hk => by simp [Ne.symm hk]⟩

theorem getElem?_modify' {es : Array MapEntry} {j : Nat} {f : MapEntry → MapEntry} {e : MapEntry} (h : es[j]? = some e) : (es.modify j f).toList = es.toList.set j (f e) := by
  apply List.ext_getElem?
  intro i
  simp only [Array.getElem?_toList, Array.getElem?_modify, List.getElem?_set]
  by_cases hij : j = i
  · subst hij
    obtain ⟨h1, h2⟩ := Array.getElem?_eq_some_iff.1 h
    simp [h1, h2]
  · simp [hij]

theorem map_set_run {bs : (Base Lw)} {ρ : List Value} {H : (PH Lw)} {lo : List AObj} (s : SatW bs ρ H lo w) {t kt et : TypeId} {d : TypeDesc} (ht : P.underlying t = some (.map kt et)) (hd : P.underlying kt = some d)
    {j : Nat} {es : List (PV × PV)} {mk : Option (PV × Nat)} (ho : lo[j]? = some (.mp d es mk)) {m k x : Value} (rm : RepF ρ H (.mref j) m) {kp vp : PV} (rk : RepP H kp k) (rx : RepP H vp x) (hk : MapKept.IsKey d k) :
    ∃ w', (Instr.mapUpdate t m k x).run P w = .ok () w' ∧ SatW bs ρ H (lo.set j (.mp d (mSet kp vp es) none)) w' := by
  obtain ⟨bl, hρ, rfl⟩ := rm
  obtain ⟨bl', ents, clock, e, hheap, rmm, ⟨hst, hks, _⟩, hH⟩ := s.objs j _ _ ho hρ
  cases e
  rcases find_spec rk hk es ents.toList 0 rmm hks with ⟨_, h2, h3, h4⟩ | ⟨i, e, p, _, h2, h3, h5, _, h6⟩
  · refine ⟨{ w with heap := w.heap.setIfInBounds bl (.map (ents.push { key := k, val := x, born := clock }) (clock + 1)) }, ?_, s.upd ho hρ rfl rfl hH (keep_set w bl _) ?_⟩
    · simp [Instr.mapUpdate, run_underlying ht, MapKept.run_getObj_map hheap, MapKept.run_checkKey hd hk, MapKept.run_findKey hd h2, MapKept.run_setObj_map _ hheap]
    · refine ⟨bl, _, _, rfl, (MapKept.heap_set hheap).1, ?_, ⟨MapKept.stamped_push hst h3, ?_, fun _ _ h => by cases h⟩, hH⟩
      · rw [h4, Array.toList_push]
        exact rmm.push rk rx
      · intro y hy
        simp only [Array.toList_push, List.mem_append, List.mem_singleton] at hy
        rcases hy with hy | rfl
        · exact hks y hy
        · exact hk
  · have hi : ents[i]? = some e := by simpa using h3
    refine ⟨{ w with heap := w.heap.setIfInBounds bl (.map (ents.modify i fun e => { e with key := k, val := x }) clock) }, ?_, s.upd ho hρ rfl rfl hH (keep_set w bl _) ?_⟩
    · simp [Instr.mapUpdate, run_underlying ht, MapKept.run_getObj_map hheap, MapKept.run_checkKey hd hk, MapKept.run_findKey hd h2, hi, h5, MapKept.run_keyThatStays hk, MapKept.run_setObj_map _ hheap]
    · have hkey : ∀ e', ents[i]? = some e' → ({ e' with key := k, val := x } : MapEntry).key = e'.key := fun e' he' => by rw [hi] at he'; cases he'; exact h5.symm
      refine ⟨bl, _, _, rfl, (MapKept.heap_set hheap).1, ?_, ⟨MapKept.stamped_modify hst _ _ (fun _ _ => rfl) (fun e' _ he' => hkey e' he'), MapKept.isKey_modify hks _ _ hkey, fun _ _ h => by cases h⟩, hH⟩
      rw [h6, getElem?_modify' hi]
      exact rmm.set rk rx

theorem SatW.pushMap {bs : (Base Lw)} {ρ : List Value} {H : (PH Lw)} {lo : List AObj} (s : SatW bs ρ H lo w) {d : TypeDesc} :
    SatW bs (ρ ++ [.map (some w.heap.size)]) H (lo ++ [.mp d [] none]) (w.alloc (.map #[] 0)) := by
  refine s.push (g := w.heap.size) (.inl rfl) (s.fresh (Nat.le_refl _)) (.inr s.keep.size) (PH.le.refl H) (satH_alloc s.sath _) (fun b o v h => .inl ⟨v, h⟩) (keep_alloc w _ _) ?_
  refine ⟨w.heap.size, #[], 0, rfl, heap_alloc_new w _, rfl, ⟨MapKept.stamped_empty 0, by simp, fun _ _ h => by cases h⟩, fun o => ?_⟩
  cases hx : H w.heap.size o with
  | none => rfl
  | some x => exact absurd (s.sath.lt hx) (Nat.lt_irrefl _)

theorem run_getObj_any {b : Nat} {l : ByteArray} {p : Nat} (h : w.heap[b]? = some (.stringIter l p)) : (getObj b).run P w = .ok (.stringIter l p) w := by
  simp [getObj, Sem.run, h]
theorem run_setObj_any {b : Nat} {l : ByteArray} {p : Nat} (o' : Obj) (h : w.heap[b]? = some (.stringIter l p)) : (setObj b o').run P w = .ok () { w with heap := w.heap.setIfInBounds b o' } := by
  simp [setObj, Sem.run, h]
theorem heap_set_any {b : Nat} {o o' : Obj} (h : w.heap[b]? = some o) : (w.heap.setIfInBounds b o')[b]? = some o' := by
  have := (Array.getElem?_eq_some_iff.1 h).1
  simp [this]
theorem list_set_same {α : Type} {l : List α} {k : Nat} {a : α} (h : l[k]? = some a) : l.set k a = l := by
  apply List.ext_getElem?
  intro i
  rw [List.getElem?_set]
  split
  · rename_i e
    subst e
    split
    · exact h.symm
    · rename_i hn
      simp [List.getElem?_eq_none (Nat.le_of_not_lt hn)]
  · rfl
theorem SatW.pushSit {bs : (Base Lw)} {ρ : List Value} {H : (PH Lw)} {lo : List AObj} (s : SatW bs ρ H lo w) {l : List UInt8} :
    SatW bs (ρ ++ [.pointer (some ⟨w.heap.size, 0, none⟩)]) H (lo ++ [.sit l 0]) (w.alloc (.stringIter ⟨l.toArray⟩ 0)) := by
  refine s.push (g := w.heap.size) (.inl rfl) (s.fresh (Nat.le_refl _)) (.inr s.keep.size) (PH.le.refl H) (satH_alloc s.sath _) (fun b o v h => .inl ⟨v, h⟩) (keep_alloc w _ _) ?_
  refine ⟨w.heap.size, rfl, heap_alloc_new w _, fun o => ?_⟩
  cases hx : H w.heap.size o with
  | none => rfl
  | some x => exact absurd (s.sath.lt hx) (Nat.lt_irrefl _)

theorem kMapSet_sound {E : Env} {lo : List AObj} {t : TypeId} {m k x : Operand} {R : FV → List AObj → Prop} (h : kMapSet P E lo t m k x R) :
    ∃ fv lo', R fv lo' ∧ lo'.length = lo.length ∧ ∀ ⦃Lw : Nat⦄ (bs : (Base Lw)) (ρ : List Value) (H : (PH Lw)) (w : World) (eval : Operand → Value), SatW bs ρ H lo w → RepF ρ H (evF (lookD E) m) (eval m) → RepF ρ H (evF (lookD E) k) (eval k) → RepF ρ H (evF (lookD E) x) (eval x) →
      ∃ w', (Instr.mapUpdate t (eval m) (eval k) (eval x)).run P w = .ok () w' ∧ After bs ρ H fv lo' undef w' := by
  unfold kMapSet at h
  have h0 := evS_spec h; clear h; obtain ⟨m', h, hm'⟩ := h0
  have h0 := evS_spec h; clear h; obtain ⟨k', h, hk'⟩ := h0
  have h0 := evS_spec h; clear h; obtain ⟨x', h, hx'⟩ := h0
  have h0 := frzK_spec h; clear h; obtain ⟨vp, h, hvp⟩ := h0
  split at h
  · rename_i j kp
    have h0 := nthK_spec h; clear h; obtain ⟨o, ho, h⟩ := h0
    split at h
    · rename_i d es mk
      have h0 := mapK_spec h; clear h; obtain ⟨kt, et, h, ht, hd, hkey⟩ := h0
      obtain ⟨es', hes, h⟩ := h
      obtain ⟨h, hlt⟩ := setK_spec h
      refine ⟨_, _, h, by simp, fun Lw bs ρ H w eval s rm rk rx => ?_⟩
      have rk := hk' ρ H _ trivial rk
      obtain ⟨w', hr, s'⟩ := map_set_run s ht hd ho (hm' ρ H _ trivial rm) rk (hvp ρ H _ (hx' ρ H _ trivial rx)) (hkey H _ rk)
      rw [hes] at s'
      exact ⟨w', hr, ρ, H, List.prefix_refl _, PH.le.refl H, s', by simp [RepF, RepP, RepL, undef]⟩
    · exact h.elim
  · exact h.elim

theorem keyD_spec {d : TypeDesc} {R : Prop} (h : keyD d R) : R := by
  unfold keyD at h
  split at h <;> first | exact h | exact h.elim

theorem kEff2_sound {o : Oper} {E : Env} {lo : List AObj} {R : FV → List AObj → Prop} (h : kEff2 P o.op E lo R) : ∃ fv lo', R fv lo' ∧ EffRel (mildO o.op) lo lo' ∧ StepSem P o (lookD E) lo none fv lo' := by
  obtain ⟨dst, op, ty, pos, after, guard⟩ := o
  simp only at h
  unfold kEff2 at h
  split at h
  · rename_i t x
    have h0 := evS_spec h; clear h; obtain ⟨x', h, hx'⟩ := h0
    split at h
    · rename_i l
      split at h
      · rename_i ht
        have h := lenK_spec h
        have h := snocK_spec h
        refine ⟨_, _, h, EffRel.push _, fun hg Lw bs ρ H w eval s hx => ?_⟩
        have e := rep_str (hx' ρ H _ hg (hx x (by simp [Op.operands])))
        have hr : (Instr.range t (eval x)).run P w = .ok (.pointer (some ⟨w.heap.size, 0, none⟩)) (w.alloc (.stringIter ⟨l.toArray⟩ 0)) := by
          simp [Instr.range, e, run_underlying ht]
        simp only [execOp, Sem.run_bind, hr, Result.andThen_ok, Sem.run_pure]
        refine ⟨_, H, List.prefix_append _ _, PH.le.refl H, s.pushSit, w.heap.size, by simp [← s.hlen], rfl⟩
      · exact h.elim
    · exact h.elim
  · rename_i x
    have h0 := evS_spec h; clear h; obtain ⟨x', h, hx'⟩ := h0
    split at h
    · rename_i k
      have h0 := nthK_spec h; clear h; obtain ⟨o, ho, h⟩ := h0
      split at h
      · rename_i l pos
        obtain ⟨ok, p', ⟨hok, hp⟩, h⟩ := h
        obtain ⟨h, hlt⟩ := setK_spec h
        refine ⟨_, _, h, EffRel.set _ _, fun hg Lw bs ρ H w eval s hx => ?_⟩
        obtain ⟨bl, hρ, ex⟩ := hx' ρ H _ hg (hx x (by simp [Op.operands]))
        obtain ⟨bl', e, hheap, hH⟩ := s.objs k _ _ ho hρ
        cases e
        simp only [execOp, Sem.run_bind, ex]
        by_cases hlt : pos < l.length
        · have hok : ok = true := by rw [← hok]; simpa using hlt
          subst hok
          have hr : (Instr.next (.pointer (some ⟨bl, 0, none⟩)) true ty).run P w = .ok (.tuple #[.bool true, .int .i64 pos, .int .i32 (runeAt l pos)]) { w with heap := w.heap.setIfInBounds bl (.stringIter ⟨l.toArray⟩ (runeEnd l pos)) } := by
            have hsz : pos < (⟨l.toArray⟩ : ByteArray).size := by rw [ByteArray.size_mk_toArray]; exact hlt
            simp only [Instr.next, Sem.run_bind, run_getObj_any hheap, Result.andThen_ok]
            simp only [hsz, if_true, Sem.run_bind, run_setObj_any _ hheap, Result.andThen_ok, Sem.run_pure]
            rfl
          simp only [hr, Result.andThen_ok, Sem.run_pure]
          refine ⟨ρ, H, List.prefix_refl _, PH.le.refl H, ?_, ?_⟩
          · refine s.upd ho hρ rfl rfl hH (keep_set w bl _) ⟨bl, rfl, ?_, hH⟩
            rw [← hp]
            exact heap_set_any hheap
          · simp only [RepF, if_true]
            exact ⟨_, _, rfl, by simp [RepP], by simp [RepP]⟩
        · have hok : ok = false := by rw [← hok]; simpa using hlt
          subst hok
          have hr : (Instr.next (.pointer (some ⟨bl, 0, none⟩)) true ty).run P w = .ok (.tuple #[.bool false]) w := by
            have hsz : ¬ pos < (⟨l.toArray⟩ : ByteArray).size := by rw [ByteArray.size_mk_toArray]; exact hlt
            simp only [Instr.next, Sem.run_bind, run_getObj_any hheap, Result.andThen_ok]
            simp only [hsz, if_false, Sem.run_pure]
          simp only [hr, Result.andThen_ok, Sem.run_pure]
          refine ⟨ρ, H, List.prefix_refl _, PH.le.refl H, ?_, by simp [RepF]⟩
          have hpp : p' = pos := by rw [← hp]; rfl
          subst hpp
          rw [show lo.set k (.sit l p') = lo from list_set_same ho]
          exact s
      · exact h.elim
    · exact h.elim
  · rename_i t
    split at h
    · rename_i kt et ht
      split at h
      · rename_i d hd
        have h := keyD_spec h
        have h := lenK_spec h
        have h := snocK_spec h
        refine ⟨_, _, h, EffRel.push _, fun hg Lw bs ρ H w eval s hx => ?_⟩
        have hr : (Instr.makeMap t none).run P w = .ok (.map (some w.heap.size)) (w.alloc (.map #[] 0)) := rfl
        simp only [execOp, Option.map_none, Sem.run_bind, hr, Result.andThen_ok, Sem.run_pure]
        exact ⟨_, H, List.prefix_append _ _, PH.le.refl H, s.pushMap, w.heap.size, by simp [← s.hlen], rfl⟩
      · exact h.elim
    · exact h.elim
  · rename_i t m k x
    obtain ⟨fv, lo', h, hl, hs⟩ := kMapSet_sound h
    refine ⟨fv, lo', h, EffRel.len hl, fun hg Lw bs ρ H w eval s hx => ?_⟩
    obtain ⟨w', hr, af⟩ := hs bs ρ H w eval s (hx m (by simp [Op.operands])) (hx k (by simp [Op.operands])) (hx x (by simp [Op.operands]))
    simp only [execOp, Sem.run_bind, hr, Result.andThen_ok, Sem.run_pure]
    exact af
  · rename_i t m k x
    obtain ⟨fv, lo', h, hl, hs⟩ := kMapSet_sound h
    refine ⟨fv, lo', h, EffRel.len hl, fun hg Lw bs ρ H w eval s hx => ?_⟩
    obtain ⟨w', hr, af⟩ := hs bs ρ H w eval s (hx m (by simp [Op.operands])) (hx k (by simp [Op.operands])) (hx x (by simp [Op.operands]))
    simp only [execOp, Sem.run_bind, hr, Result.andThen_ok, Sem.run_pure]
    exact af
  · rename_i x t
    have h0 := evS_spec h; clear h; obtain ⟨x', h, hx'⟩ := h0
    split at h
    · rename_i k
      have h0 := nthK_spec h; clear h; obtain ⟨o, ho, h⟩ := h0
      split at h
      · rename_i d es mk
        split at h
        · rename_i kt et ht
          obtain ⟨h, hlt⟩ := setK_spec h
          refine ⟨_, _, h, EffRel.set _ _, fun hg Lw bs ρ H w eval s hx => ?_⟩
          obtain ⟨bl, hρ, ex⟩ := hx' ρ H _ hg (hx x (by simp [Op.operands, Call.operands]))
          obtain ⟨bl', ents, clock, e, hheap, rmm, _, hH⟩ := s.objs k _ _ ho hρ
          cases e
          simp only [execOp, resolve, invoke, builtin, Sem.run_bind, Sem.run_pure, Result.andThen_ok, List.map_toArray, List.map_cons, List.map_nil, ex]
          have hr : (Builtin.clear_ #[t] ty #[.map (some bl)]).run P w = .ok (.tuple #[]) { w with heap := w.heap.setIfInBounds bl (.map #[] clock) } := by
            simp [Builtin.clear_, run_underlying ht, MapKept.run_getObj_map hheap, MapKept.run_setObj_map _ hheap]
          simp only [hr, Result.andThen_ok]
          refine ⟨ρ, H, List.prefix_refl _, PH.le.refl H, ?_, by simp [RepF, RepP, RepL]⟩
          refine s.upd ho hρ rfl rfl hH (keep_set w bl (.map #[] clock)) ?_
          exact ⟨bl, #[], clock, rfl, (MapKept.heap_set hheap).1, rfl, ⟨MapKept.stamped_empty clock, by simp, fun _ _ h => by cases h⟩, hH⟩
        · exact h.elim
      · exact h.elim
    · exact h.elim
  · exact h.elim
end
end Ax
end
section
namespace Ax
open Go
variable {Lw : Nat}

theorem RepV.get {H : (PH Lw)} {z : Nat} : ∀ {rows : List (List PV)} {vs : List Value} {i : Nat} {r : List PV}, RepV H z rows vs → rows[i]? = some r →
    ∃ a, RepL H r a ∧ ∀ j u, a[j]? = some u → vs[i * z + j]? = some u
  | [], _, _, _, _, h => by simp at h
  | q :: rs, vs, i, r, x, h => by
    obtain ⟨hz, a, b, rfl, ra, rb⟩ := x
    have hl : a.length = z := by rw [ra.length, hz]
    cases i with
    | zero =>
      simp at h
      subst h
      refine ⟨a, ra, fun j u hu => ?_⟩
      rw [Nat.zero_mul, Nat.zero_add, List.getElem?_append_left (List.getElem?_eq_some_iff.1 hu).1]
      exact hu
    | succ i =>
      obtain ⟨c, rc, hc⟩ := rb.get (i := i) (by simpa using h)
      refine ⟨c, rc, fun j u hu => ?_⟩
      have := hc j u hu
      rw [List.getElem?_append_right (by rw [hl, Nat.add_mul]; omega)]
      have e : (i + 1) * z + j - a.length = i * z + j := by rw [hl, Nat.add_mul]; omega
      rw [e]
      exact this

theorem RepV.over {H : (PH Lw)} {z : Nat} : ∀ {rows : List (List PV)} {vs : List Value} {i off : Nat} {r ps : List PV} {c : List Value}, RepV H z rows vs → rows[i]? = some r → RepL H ps c → off + ps.length ≤ r.length →
    RepV H z (rows.set i (r.take off ++ ps ++ r.drop (off + ps.length))) (vs.take (i * z + off) ++ c ++ vs.drop (i * z + off + c.length))
  | [], _, _, _, _, _, _, _, h, _, _ => by simp at h
  | q :: rs, vs, i, off, r, ps, c, x, h, rp, hle => by
    obtain ⟨hz, a, b, rfl, ra, rb⟩ := x
    have hl : a.length = z := by rw [ra.length, hz]
    have hc := rp.length
    cases i with
    | zero =>
      simp at h
      subst h
      have hoff : off ≤ a.length := by rw [ra.length]; omega
      have hoff2 : off + c.length ≤ a.length := by rw [ra.length, hc]; omega
      refine ⟨?_, a.take off ++ c ++ a.drop (off + c.length), b, ?_, ?_, rb⟩
      · simp only [List.length_append, List.length_take, List.length_drop]; omega
      · rw [Nat.zero_mul, Nat.zero_add, List.take_append_of_le_length hoff, List.drop_append_of_le_length hoff2]
        simp
      · rw [hc]
        exact ((ra.take off).append rp).append (ra.drop _)
    | succ i =>
      refine ⟨hz, a, b.take (i * z + off) ++ c ++ b.drop (i * z + off + c.length), ?_, ra, rb.over (by simpa using h) rp hle⟩
      have e1 : (i + 1) * z + off = a.length + (i * z + off) := by rw [hl, Nat.add_mul]; omega
      rw [e1, List.take_length_add_append, Nat.add_assoc a.length, List.drop_length_add_append]
      simp

theorem take_over {α : Type} {cur c : List α} {p m N : Nat} (hp : p + m ≤ N) (hm : c.length = m) (hN : N ≤ cur.length) : (cur.take p ++ c ++ cur.drop (p + m)).take N = (cur.take N).take p ++ c ++ (cur.take N).drop (p + m) := by
  have h1 : (cur.take p ++ c).length = p + m := by simp [List.length_take, hm]; omega
  rw [List.take_append, h1, List.take_of_length_le (by omega), List.take_take, Nat.min_eq_left (by omega), List.drop_take]

section
variable {P : Program} {w : World}

theorem vec_cells {ρ : List Value} {H : (PH Lw)} {e : TypeId} {z : Nat} {rows : List (List PV)} {b n cap : Nat} (h : ObjOk ρ H w (.slice (some ⟨b, 0, none⟩) n cap) (.vec e z rows)) :
    ∃ (cap' : Nat) (cur : Array Value) (xs : List Value), n = rows.length ∧ w.heap[b]? = some (.cells cur e (0, 0)) ∧ rows.length ≤ cap' ∧ cap' ≤ maxLen ∧ cur.size = cap' * z ∧ cap = cap' ∧ cur.toList.take (rows.length * z) = xs ∧ RepV H z rows xs ∧ (∀ u ∈ xs, u.oneCell' = true) ∧ ∀ o, H b o = none := by
  obtain ⟨xs, ho, hr, h1, hh⟩ := h
  rcases ho.2 with ⟨e, _⟩ | ⟨g, cap', cur, e, _, hg, hn, hm, hs, ht⟩
  · cases e
  · cases e
    exact ⟨cap, cur, xs, rfl, hg, hn, hm, hs, rfl, ht, hr, h1, hh b rfl⟩

theorem kLoadE_spec {t : TypeId} {lo : List AObj} {k i off z : Nat} {R : FV → Prop} (h : kLoadE P t lo k z i off R) :
    ∃ fv, R fv ∧ ∀ ⦃Lw : Nat⦄ (bs : (Base Lw)) (ρ : List Value) (H : (PH Lw)) (w : World) (v : Value), SatW bs ρ H lo w → RepF ρ H (.eptr k z i off) v → ∃ u, (Instr.loadAt t v).run P w = .ok u w ∧ RepF ρ H fv u := by
  unfold kLoadE at h
  have h0 := nthK_spec h; clear h; obtain ⟨o, ho, h⟩ := h0
  split at h
  · rename_i e z' rows
    obtain ⟨row, ⟨rfl, hrow⟩, h⟩ := h
    obtain ⟨h, hoff⟩ := dropK_spec h
    obtain ⟨d, ti, hd, hi, h⟩ := typeK_spec h
    have cells : ∀ ⦃Lw : Nat⦄ (bs : (Base Lw)) (ρ : List Value) (H : (PH Lw)) (w : World) (v : Value), SatW bs ρ H lo w → RepF ρ H (.eptr k z' i off) v →
        ∃ (b : Nat) (a : List Value), v = .pointer (some ⟨b, i * z' + off, none⟩) ∧ RepL H row a ∧ ∀ j u, (a.drop off)[j]? = some u → w.cell? ⟨b, i * z' + off + j, none⟩ = some u := by
      intro Lw bs ρ H w v s hx
      obtain ⟨b, n, cap, hρ, rfl⟩ := hx
      obtain ⟨cap', cur, xs, rfl, hg, hn, hm, hs, rfl, ht, hr, h1, hh⟩ := vec_cells (s.objs k _ _ ho hρ)
      obtain ⟨a, ra, hc⟩ := hr.get hrow
      refine ⟨b, a, rfl, ra, fun j u hu => ?_⟩
      rw [List.getElem?_drop] at hu
      have := hc _ _ hu
      rw [← ht, List.getElem?_take] at this
      split at this
      · rw [Nat.add_assoc]
        rw [cell_of_row w b _ _ e _ hg]
        simpa using this
      · cases this
    split at h
    · rename_i hagg
      obtain ⟨h, hn⟩ := takeK_spec h
      refine ⟨_, h, fun Lw bs ρ H w v s hx => ?_⟩
      obtain ⟨b, a, rfl, ra, hc⟩ := cells bs ρ H w v s hx
      refine ⟨_, run_loadAt_cells hd hi hc (by have := ra.length; simp at hn ⊢; omega) hagg, ?_⟩
      simp only [RepF, RepP]
      exact ⟨_, rfl, (ra.drop off).take _⟩
    · rename_i hagg
      split at h
      · rename_i c r hcr
        refine ⟨_, h, fun Lw bs ρ H w v s hx => ?_⟩
        obtain ⟨b, a, rfl, ra, hc⟩ := cells bs ρ H w v s hx
        have rd := ra.drop off
        rw [hcr] at rd
        simp only [RepL] at rd
        obtain ⟨u, us, e, ru, _⟩ := rd
        exact ⟨u, run_loadAt_cell hd (by simpa using hc 0 u (by rw [e]; rfl)) hagg, ru⟩
      · exact h.elim
  · rename_i e z' rows j kt
    obtain ⟨row, ⟨rfl, hrow⟩, h⟩ := h
    obtain ⟨h, hoff⟩ := dropK_spec h
    obtain ⟨d, ti, hd, hi, h⟩ := typeK_spec h
    have cells : ∀ ⦃Lw : Nat⦄ (bs : (Base Lw)) (ρ : List Value) (H : (PH Lw)) (w : World) (v : Value), SatW bs ρ H lo w → RepF ρ H (.eptr k z' i off) v →
        ∃ (b : Nat) (a : List Value), v = .pointer (some ⟨b, i * z' + off, none⟩) ∧ RepL H row a ∧ (∀ j u, (a.drop off)[j]? = some u → w.cell? ⟨b, i * z' + off + j, none⟩ = some u) ∧ (i + 1 = rows.length → off = j → ∀ u, (a.drop off)[0]? = some u → ρ[kt]? = some u) := by
      intro Lw bs ρ H w v s hx
      obtain ⟨b, n, cap, hρ, rfl⟩ := hx
      obtain ⟨xs0, hown, hr0, h10, hh0, hl⟩ := s.objs k _ _ ho hρ
      obtain ⟨cap', cur, xs, rfl, hg, hn, hm, hs, rfl, ht, hr, h1, hh⟩ := vec_cells (ρ := ρ) (H := H) ⟨xs0, hown, hr0, h10, hh0⟩
      obtain ⟨a, ra, hc⟩ := hr.get hrow
      have hxx : xs0 = xs := by
        rcases hown.2 with ⟨e', _⟩ | ⟨g, cap', cur', e', _, hg', _, _, _, ht'⟩
        · cases e'
        · cases e'
          rw [hg] at hg'
          cases hg'
          rw [← ht', ← ht]
      subst hxx
      refine ⟨b, a, rfl, ra, fun j u hu => ?_, fun hi1 hj u hu => hl u ?_⟩
      · rw [List.getElem?_drop] at hu
        have := hc _ _ hu
        rw [← ht, List.getElem?_take] at this
        split at this
        · rw [Nat.add_assoc]
          rw [cell_of_row w b _ _ e _ hg]
          simpa using this
        · cases this
      · rw [List.getElem?_drop] at hu
        have := hc _ _ hu
        rw [← hj, show rows.length - 1 = i by omega]
        simpa using this
    split at h
    · rename_i hagg
      obtain ⟨h, hn⟩ := takeK_spec h
      refine ⟨_, h, fun Lw bs ρ H w v s hx => ?_⟩
      obtain ⟨b, a, rfl, ra, hc, _⟩ := cells bs ρ H w v s hx
      refine ⟨_, run_loadAt_cells hd hi hc (by have := ra.length; simp at hn ⊢; omega) hagg, ?_⟩
      simp only [RepF, RepP]
      exact ⟨_, rfl, (ra.drop off).take _⟩
    · rename_i hagg
      split at h
      · rename_i c r hcr
        split at h
        · rename_i hj
          have hj := Nat.eq_of_beq_eq_true hj
          obtain ⟨hi1, rs, rfl, h⟩ := h
          refine ⟨_, h, fun Lw bs ρ H w v s hx => ?_⟩
          obtain ⟨b, a, rfl, ra, hc, hl⟩ := cells bs ρ H w v s hx
          have rd := ra.drop off
          rw [hcr] at rd
          simp only [RepL] at rd
          obtain ⟨u, us, e, ru, _⟩ := rd
          exact ⟨u, run_loadAt_cell hd (by simpa using hc 0 u (by rw [e]; rfl)) hagg, hl hi1 hj u (by rw [e]; rfl), ru⟩
        · refine ⟨_, h, fun Lw bs ρ H w v s hx => ?_⟩
          obtain ⟨b, a, rfl, ra, hc, _⟩ := cells bs ρ H w v s hx
          have rd := ra.drop off
          rw [hcr] at rd
          simp only [RepL] at rd
          obtain ⟨u, us, e, ru, _⟩ := rd
          exact ⟨u, run_loadAt_cell hd (by simpa using hc 0 u (by rw [e]; rfl)) hagg, ru⟩
      · exact h.elim
  · rename_i l
    have h0 := typeK_spec h; clear h; obtain ⟨d, ti, hd, hi, h⟩ := h0
    split at h
    · exact h.elim
    · rename_i hagg
      have h0 := h; clear h; obtain ⟨c, ⟨rfl, rfl, hc⟩, h⟩ := h0
      refine ⟨_, h, fun Lw bs ρ H w v s hx => ?_⟩
      obtain ⟨b, n, cap, hρ, rfl⟩ := hx
      obtain ⟨b', cs, e', cap', lo', hi', e1, hg, _, h2, _⟩ := s.objs k _ _ ho hρ
      cases e1
      refine ⟨.int .u8 c.toNat, run_loadAt_cell hd ?_ hagg, by simp [RepF, RepP]⟩
      simp only [World.cell?, hg, Nat.mul_one, Nat.add_zero]
      exact h2 i c hc
  · exact h.elim

theorem rowsV2 {H : (PH Lw)} {z : Nat} : ∀ {rows : List (List PV)} {vals : List Value}, rows.length = vals.length → (∀ r ∈ rows, r.length = z) →
    (∀ (i : Nat) (r : List PV) (v : Value), rows[i]? = some r → vals[i]? = some v → RepL H r v.cells.toList) → RepV H z rows (vals.flatMap (·.cells.toList))
  | [], [], _, _, _ => rfl
  | [], _ :: _, hl, _, _ => by simp at hl
  | r :: rs, [], hl, _, _ => by simp at hl
  | r :: rs, v :: vals, hl, hz, hr => ⟨hz r (by simp), v.cells.toList, vals.flatMap (·.cells.toList), by rw [List.flatMap_cons], hr 0 r v rfl rfl,
      rowsV2 (by simpa using hl) (fun r hr => hz r (by simp [hr])) (fun i r' v' h1 h2 => hr (i + 1) r' v' (by simpa using h1) (by simpa using h2))⟩

theorem RepV.le {H : (PH Lw)} {z : Nat} {p q : List (List PV)} {vs : List Value} (h : p = q ∨ nleR p q) (r : RepV H z p vs) : RepV H z q vs := by
  rcases h with rfl | h
  · exact r
  · have go : ∀ {p q : List (List PV)} {vs : List Value}, nleR p q → RepV H z p vs → RepV H z q vs := by
      intro p
      induction p with
      | nil => intro q vs h r; cases q with
        | nil => exact r
        | cons _ _ => simp [nleR] at h
      | cons a l ih => intro q vs h r; cases q with
        | nil => simp [nleR] at h
        | cons b m =>
          simp only [nleR] at h
          obtain ⟨e, x, y, e1, q1, q2⟩ := r
          exact ⟨by rw [← e, nleL_length h.1], x, y, e1, nleL_rep h.1 q1, ih h.2 q2⟩
    exact go h r

theorem kBuildSlice_core {E : Env} {g : G} {t : TypeId} {n : Nat} {parts : List (Nat × Operand)} {R : FV → Prop} (h : kBuildSlice P E g t n parts R) :
    ∃ e i rows, P.underlying t = some (.slice e) ∧ P.info? e = some i ∧ R (.p (.sl rows)) ∧ rows.length = n ∧ n ≤ maxLen ∧ (gOn g → ∀ ⦃Lw : Nat⦄ (ρ : List Value) (H : (PH Lw)) (w : World) (eval : Operand → Value), (∀ x ∈ parts.map (·.2), RepF ρ H (evF (lookD E) x) (eval x)) →
      ∃ xs : List Value, (Instr.buildSlice t n (parts.map fun (i, x) => (i, eval x)).toArray).run P w = .ok (.slice (some ⟨w.heap.size, 0, none⟩) n n) (w.alloc (.cells xs.toArray e)) ∧ RepV H i.size rows xs ∧ ∀ u ∈ xs, u.oneCell' = true) := by
  unfold kBuildSlice at h
  obtain ⟨e, i, hu, hi, h⟩ := elemK_spec h
  split at h
  · rename_i hn
    have hn : parts.length = n := Nat.eq_of_beq_eq_true hn
    split at h
    · rename_i h1n
      split at h
      · rename_i h1z
        split at h
        case h_2 => exact h.elim
        rename_i hbig
        split at h
        case h_2 => exact h.elim
        rename_i i' hi'
        have : i' = i := Option.some.inj (hi'.symm.trans hi)
        subst this
        split at h
        case h_2 => exact h.elim
        rename_i zv hzv
        obtain ⟨ps, h, hpl, hps⟩ := partsK_spec h
        obtain ⟨rows, h, hrl, hrows⟩ := rowsK_spec h
        obtain ⟨hok, rows', hle, h⟩ := h
        have hrl2 : rows'.length = rows.length := by
          rcases hle with rfl | hle
          · rfl
          · exact (nleR_length hle).symm
        have hn24 : n ≤ maxLen := by
          have a1 := Nat.le_of_ble_eq_true hbig
          have a2 : 1 ≤ i'.size := Nat.le_of_ble_eq_true h1z
          have a3 : n * 1 ≤ n * i'.size := Nat.mul_le_mul_left n a2
          unfold maxLen
          omega
        refine ⟨e, i', rows', hu, hi, h, by rw [hrl2, hrl, hpl, hn], hn24, fun hg Lw ρ H w eval hx => ?_⟩
        obtain ⟨vals, ev, rv⟩ := hps hg ρ H eval hx
        have hcells := hrows H vals rv
        have hvl : vals.length = n := by rw [rv.length, hpl, hn]
        have hsz : ∀ v ∈ vals, v.cells.size = i'.size := by
          intro v hv
          obtain ⟨j, hj⟩ := List.getElem?_of_mem hv
          have hjl := (List.getElem?_eq_some_iff.1 hj).1
          have hrj : j < rows.length := by rw [hrl, hpl, hn, ← hvl]; exact hjl
          have := (hcells j _ v (List.getElem?_eq_getElem hrj) hj).length
          rw [(hok _ (List.getElem_mem hrj)).1] at this
          simpa using this
        obtain ⟨cells', ef, hc'⟩ := fill_rows i'.size n (fun i_1 => some (i_1 * i'.size, i'.size)) (fun j _ => rfl) vals 0 ((Array.range (n * i'.size)).map (zv.cells[· % zv.cells.size]!)) hsz (by omega) (by simp)
        simp only [Nat.zero_mul, List.take_zero, List.nil_append] at hc'
        have hone : ∀ u ∈ cells'.toList, u.oneCell' = true := by
          rw [hc']
          intro u hu'
          obtain ⟨v, hv, huv⟩ := List.mem_flatMap.1 hu'
          obtain ⟨j, hj⟩ := List.getElem?_of_mem hv
          have hjl := (List.getElem?_eq_some_iff.1 hj).1
          have hrj : j < rows.length := by rw [hrl, hpl, hn, ← hvl]; exact hjl
          have h1 := hcells j _ v (List.getElem?_eq_getElem hrj) hj
          have h2 := (hok _ (List.getElem_mem hrj)).2
          exact RepL.one (fun c hc => (List.all_eq_true.1 h2) c hc) h1 u huv
        refine ⟨cells'.toList, ?_, ?_, hone⟩
        · have h0 : n * i'.size ≠ 0 := by
            have a1 : 1 ≤ n := Nat.le_of_ble_eq_true h1n
            have a2 : 1 ≤ i'.size := Nat.le_of_ble_eq_true h1z
            exact Nat.mul_ne_zero (by omega) (by omega)
          have hb : ¬ 16777216 < n * i'.size := by
            have := Nat.le_of_ble_eq_true hbig
            omega
          simp only [Instr.buildSlice, Sem.run_bind, run_underlying hu, Result.andThen_ok, Go.sizeOf, typeInfo, run_program, hi, Sem.run_pure]
          rw [show (2 : Nat) ^ 24 = 16777216 from rfl]
          simp only [hb, if_false, gt_iff_lt, h0, Sem.run_bind, zeroValue, typeInfo, run_program, hi, hzv, Result.andThen_ok, Sem.run_pure]
          rw [ev, ef]
          simp [newRow]
        · rw [hc']
          refine RepV.le hle ?_
          exact rowsV2 (by rw [hrl, hpl, hn, hvl]) (fun r hr => (hok r hr).1) hcells
      · exact h.elim
    · exact h.elim
  · exact h.elim


theorem kBuildV_spec {E : Env} {lo : List AObj} {t : TypeId} {n : Nat} {parts : List (Nat × Operand)} {R : FV → List AObj → Prop} (h : kBuildV P E lo t n parts R) :
    ∃ fv lo', R fv lo' ∧ EffRel true lo lo' ∧ ∀ ⦃Lw : Nat⦄ (bs : (Base Lw)) (ρ : List Value) (H : (PH Lw)) (w : World) (eval : Operand → Value), SatW bs ρ H lo w → (∀ x ∈ parts.map (·.2), RepF ρ H (evF (lookD E) x) (eval x)) →
      ∃ v w', (Instr.buildSlice t n (parts.map fun (i, x) => (i, eval x)).toArray).run P w = .ok v w' ∧ After bs ρ H fv lo' v w' := by
  unfold kBuildV at h
  have h0 := elemK_spec h; clear h; obtain ⟨e, i, hu, hi, h⟩ := h0
  have h0 := kBuildSlice_core h; clear h; obtain ⟨e', i', rows, hu', hi', h, hn, hmax, hs⟩ := h0
  have e1 : e' = e := by rw [hu] at hu'; cases hu'; rfl
  subst e1
  have e2 : i' = i := Option.some.inj (hi'.symm.trans hi)
  subst e2
  simp only at h
  have h := lenK_spec h
  have h := snocK_spec h
  refine ⟨_, _, h, EffRel.push _, fun Lw bs ρ H w eval s hx => ?_⟩
  obtain ⟨xs, hr, hv, hone⟩ := hs trivial ρ H w eval hx
  refine ⟨_, _, hr, ρ ++ [.slice (some ⟨w.heap.size, 0, none⟩) n n], H, List.prefix_append _ _, PH.le.refl H, ?_, ?_⟩
  · have hnew : ∀ o, H w.heap.size o = none := fun o => by
      cases hx : H w.heap.size o with
      | none => rfl
      | some u => exact absurd (s.sath.lt hx) (Nat.lt_irrefl _)
    refine s.push (g := w.heap.size) (.inl rfl) (s.fresh (Nat.le_refl _)) (.inr s.keep.size) (PH.le.refl H) (satH_alloc s.sath _) (fun b o v h => .inl ⟨v, h⟩) (keep_alloc w _ _) ?_
    refine ⟨xs, ⟨hv.length, .inr ⟨w.heap.size, n, xs.toArray, by rw [hn], Nat.zero_le _, heap_alloc_new w _, by rw [hn]; exact Nat.le_refl _, hmax, by simp [hv.length, hn], ?_⟩⟩, hv, hone, fun b hb => ?_⟩
    · rw [← hv.length]
      exact List.take_length
    · simp [blkOf] at hb
      subst hb
      exact hnew
  · exact ⟨by simp [← s.hlen], .inr ⟨w.heap.size, n, by rw [hn]⟩⟩

end
theorem nthK_mon {α : Type} {R R' : α → Prop} (hr : ∀ a, R a → R' a) : ∀ {n : Nat} {l : List α}, nthK n l R → nthK n l R'
  | 0, [], h => by simp [nthK] at h
  | 0, a :: l, h => hr a h
  | n + 1, [], h => by simp [nthK] at h
  | n + 1, a :: l, h => nthK_mon hr (n := n) (l := l) h
theorem dropK_mon {α : Type} {R R' : List α → Prop} (hr : ∀ a, R a → R' a) : ∀ {n : Nat} {l : List α}, dropK n l R → dropK n l R'
  | 0, l, h => hr l h
  | n + 1, [], h => by simp [dropK] at h
  | n + 1, a :: l, h => dropK_mon hr (n := n) (l := l) h
theorem typeK_mon {P : Program} {t : TypeId} {R R' : Bool → Nat → Prop} (hr : ∀ a n, R a n → R' a n) (h : typeK P t R) : typeK P t R' := by
  unfold typeK at *
  split at h
  · split at h
    · exact hr _ _ h
    · exact h.elim
  · exact h.elim
theorem kLoadEG_spec {P : Program} {g : Bool} {t : TypeId} {lo : List AObj} {k i off z : Nat} {R : FV → Prop} (h : kLoadEG P g t lo k z i off R) :
    ∃ fv, R fv ∧ (g = true → ∀ ⦃Lw : Nat⦄ (bs : (Base Lw)) (ρ : List Value) (H : (PH Lw)) (w : World) (v : Value), SatW bs ρ H lo w → RepF ρ H (.eptr k z i off) v → ∃ u, (Instr.loadAt t v).run P w = .ok u w ∧ RepF ρ H fv u) := by
  cases g with
  | true =>
    have h1 : kLoadE P t lo k z i off R := by
      unfold kLoadEG at h
      unfold kLoadE
      refine nthK_mon (fun o ho => ?_) h
      cases o <;> first | exact False.elim ho | skip
      · obtain ⟨row, hr, hd⟩ := ho
        refine ⟨row, hr rfl, dropK_mon (fun cs hc => typeK_mon (fun a n ha => ?_) hc) hd⟩
        cases a
        · exact ha
        · exact ha.elim
      · obtain ⟨row, hr, hd⟩ := ho
        refine ⟨row, hr rfl, dropK_mon (fun cs hc => typeK_mon (fun a n ha => ?_) hc) hd⟩
        cases a
        · cases cs with
          | nil => exact ha
          | cons c cs =>
            cases hb : Nat.beq off _ <;> rw [hb] at ha
            · exact ha
            · exact False.elim ha
        · exact ha.elim
    obtain ⟨fv, hR, hs⟩ := kLoadE_spec h1
    exact ⟨fv, hR, fun _ => hs⟩
  | false =>
    suffices hh : ∃ fv, R fv by
      obtain ⟨fv, hR⟩ := hh
      exact ⟨fv, hR, fun hg => by cases hg⟩
    unfold kLoadEG at h
    obtain ⟨o, _, h⟩ := nthK_spec h
    cases o <;> first | exact False.elim h | skip
    · obtain ⟨row, _, hd⟩ := h
      obtain ⟨h, _⟩ := dropK_spec hd
      obtain ⟨d, ti, _, _, h⟩ := typeK_spec h
      split at h
      · exact h.elim
      · split at h
        · exact ⟨_, h⟩
        · exact h.elim
    · obtain ⟨row, _, hd⟩ := h
      obtain ⟨h, _⟩ := dropK_spec hd
      obtain ⟨d, ti, _, _, h⟩ := typeK_spec h
      split at h
      · exact h.elim
      · split at h
        · split at h
          · exact h.elim
          · exact ⟨_, h⟩
        · exact h.elim
end Ax
end
section
namespace Ax
open Go
variable {Lw : Nat}

section
variable {P : Program} {w : World}

/-- append: in place, or into a new block. -/
theorem append_run {t ty e : TypeId} {i : TypeInfo} {z : Value} (ht : P.underlying t = some (.slice e)) (hi : P.info? e = some i) (hz : i.zero = some z) (hzs : z.cells.size = i.size)
    {v : Value} {n : Nat} {xs : List Value} (hown : w.ownsRow 0 e i.size v n xs)
    {x : Value} {m : Nat} {news : List Value} (hl : news.length = m * i.size) (h1 : ∀ u ∈ news, u.oneCell' = true)
    (hx : (m = 0 ∧ x = .slice none 0 0) ∨ ∃ a c, x = .slice (some a) m c ∧ ∀ j u, news[j]? = some u → w.cell? (a.add j) = some u)
    (h63 : n + m ≤ 9223372036854775807) (hbytes : (n + m) * i.bytes ≤ 140737488355328) :
    ∃ v' w', (Builtin.append_ #[t, t] ty #[v, x]).run P w = .ok v' w' ∧ w'.ownsRow 0 e i.size v' (n + m) (xs ++ news) ∧
      ((blkOf v' = blkOf v ∧ (∀ g, blkOf v = some g → Keep (fun b => b = g) w w') ∧ (blkOf v = none → w' = w)) ∨ (blkOf v' = some w.heap.size ∧ Keep (fun b => b = w.heap.size) w w')) := by
  have hlen : (xs ++ news).length = (n + m) * i.size := by rw [List.length_append, hown.1, hl, Nat.add_mul]
  have h63' : n + m ≤ maxLen := by unfold maxLen; omega
  rcases hx with ⟨rfl, rfl⟩ | ⟨ad, c, rfl, hnews⟩
  · have hn : news = [] := List.eq_nil_of_length_eq_zero (by simpa using hl)
    subst hn
    refine ⟨v, w, run_append_owned_none (P := P) (w := w) 0 t ty e i i.size ht hi v n xs hown, by simpa using hown, .inl ⟨rfl, fun g _ => Keep.refl _ w, fun _ => rfl⟩⟩
  have grown : ∀ (old : Nat), (w.drew.alloc (.cells (xs.toArray ++ news.toArray ++ Builtin.zeroCells z.cells (grownCap w (n + m) old e - (n + m))) e)).ownsRow 0 e i.size
        (.slice (some ⟨w.heap.size, 0, none⟩) (n + m) (grownCap w (n + m) old e)) (n + m) (xs ++ news) := by
    intro old
    have hge := grownCap_ge w (n + m) old e
    have hcm : grownCap w (n + m) old e ≤ maxLen := grownCap_le_maxLen w (n + m) old e h63'
    refine ⟨hlen, .inr ⟨w.heap.size, _, _, rfl, Nat.zero_le _, heap_alloc_new w.drew _, hge, hcm, ?_, ?_⟩⟩
    · simp only [Array.size_append, List.size_toArray, size_zeroCells, hzs, hown.1, hl, ← Nat.add_mul]
      congr 1
      omega
    · simp only [Array.toList_append, List.append_assoc]
      rw [← List.append_assoc, ← hlen]
      exact List.take_left
  rcases hown.2 with ⟨rfl, rfl⟩ | ⟨g, cap, cur, rfl, hbg, hg, hnc, hcm, hcs, htake⟩
  · have hxs : xs = [] := List.eq_nil_of_length_eq_zero (by simpa using hown.1)
    subst hxs
    by_cases hm : m = 0
    · subst hm
      have hn : news = [] := List.eq_nil_of_length_eq_zero (by simpa using hl)
      subst hn
      refine ⟨.slice none 0 0, w, ?_, World.ownsRow_nil w 0 e i.size, .inl ⟨rfl, fun g _ => Keep.refl _ w, fun _ => rfl⟩⟩
      simp [Builtin.append_, run_underlying ht, Go.sizeOf, typeInfo, hi, Builtin.lenOf, Builtin.firstCells, loadCells, loadCellsFrom]
    · have hr := run_append_nil (P := P) w t ty e i z ht hi hz ad m c news hl hnews (by omega) (by omega) (by have hb := hbytes; simp only [Nat.zero_add] at hb; omega)
      have hgr := grown 0
      simp only [Nat.zero_add, List.nil_append, Array.empty_append] at hgr ⊢
      exact ⟨_, _, hr, hgr, .inr ⟨rfl, keep_drew_alloc w _ _⟩⟩
  · by_cases hroom : n + m ≤ cap
    · have hfit : n * i.size + news.length ≤ cur.size := by rw [hl, hcs, ← Nat.add_mul]; exact Nat.mul_le_mul_right _ hroom
      have hr := run_append_room (P := P) w t ty e i ht hi g n cap cur hg ad m c news hl hnews h1 hroom hfit
      refine ⟨_, _, hr, ⟨hlen, .inr ⟨g, cap, _, rfl, hbg, setRow_heap w g cur _ e _ hg, hroom, hcm, ?_, ?_⟩⟩, .inl ⟨rfl, fun g' hg' => ?_, fun h => by simp [blkOf] at h⟩⟩
      · simp only [List.size_toArray, List.length_append, List.length_take, List.length_drop, Array.length_toList]
        omega
      · rw [htake, ← hlen]
        exact List.take_left
      · simp [blkOf] at hg'
        subst hg'
        exact ⟨rfl, rfl, rfl, by simp, fun k _ hk => setRow_other w g k _ hk⟩
    · have holds : ∀ j u, xs[j]? = some u → w.cell? ((⟨g, 0, none⟩ : Addr).add j) = some u := hown.cells (g := g) rfl
      have hr := run_append_grow (P := P) w t ty e i z ht hi hz ⟨g, 0, none⟩ n cap xs hown.1 holds ad m c news hl hnews (by omega) (by omega) (growslice_fits (by omega) hbytes)
      exact ⟨_, _, hr, grown cap, .inr ⟨rfl, keep_drew_alloc w _ _⟩⟩

/-- append of a text's bytes. -/
theorem append_run_string {t u ty e : TypeId} {i : TypeInfo} (ht : P.underlying t = some (.slice e)) (hu : P.underlying u = some .string) (hi : P.info? e = some i) (hz : i.zero = some (.int .u8 0)) (hsz : i.size = 1)
    {v : Value} {n : Nat} {xs : List Value} (hown : w.ownsRow 0 e 1 v n xs) (str : List UInt8)
    (h63 : n + str.length ≤ 9223372036854775807) (hbytes : (n + str.length) * i.bytes ≤ 140737488355328) :
    ∃ v' w', (Builtin.append_ #[t, u] ty #[v, .string ⟨str.toArray⟩]).run P w = .ok v' w' ∧ w'.ownsRow 0 e 1 v' (n + str.length) (xs ++ Lib.strCells ⟨str.toArray⟩) ∧
      ((blkOf v' = blkOf v ∧ (∀ g, blkOf v = some g → Keep (fun b => b = g) w w') ∧ (blkOf v = none → w' = w)) ∨ (blkOf v' = some w.heap.size ∧ Keep (fun b => b = w.heap.size) w w')) := by
  have hs : (⟨str.toArray⟩ : ByteArray).size = str.length := size_lit str
  generalize hsg : (⟨str.toArray⟩ : ByteArray) = sb at *
  have hl : (Lib.strCells sb).length = str.length := by rw [Lib.strCells_length, hs]
  have hlen : (xs ++ Lib.strCells sb).length = (n + str.length) * 1 := by rw [List.length_append, hown.1, hl, Nat.mul_one, Nat.mul_one]
  have h63' : n + str.length ≤ maxLen := by unfold maxLen; omega
  have grown : ∀ (old : Nat), (w.drew.alloc (.cells (xs.toArray ++ (Lib.strCells sb).toArray ++ Builtin.zeroCells (Value.int .u8 0).cells (grownCap w (n + str.length) old e - (n + str.length))) e)).ownsRow 0 e 1
        (.slice (some ⟨w.heap.size, 0, none⟩) (n + str.length) (grownCap w (n + str.length) old e)) (n + str.length) (xs ++ Lib.strCells sb) := by
    intro old
    have hge := grownCap_ge w (n + str.length) old e
    have hcm : grownCap w (n + str.length) old e ≤ maxLen := grownCap_le_maxLen w (n + str.length) old e h63'
    refine ⟨hlen, .inr ⟨w.heap.size, _, _, rfl, Nat.zero_le _, heap_alloc_new w.drew _, hge, hcm, ?_, ?_⟩⟩
    · have h1 : (Value.int .u8 0).cells.size = 1 := rfl
      simp only [Array.size_append, List.size_toArray, size_zeroCells, h1, hown.1, hl]
      omega
    · simp only [Array.toList_append, List.append_assoc]
      rw [← List.append_assoc, ← hlen]
      exact List.take_left
  rcases hown.2 with ⟨rfl, rfl⟩ | ⟨g, cap, cur, rfl, hbg, hg, hnc, hcm, hcs, htake⟩
  · have hxs : xs = [] := List.eq_nil_of_length_eq_zero (by simpa using hown.1)
    subst hxs
    by_cases hm : str.length = 0
    · have hn : Lib.strCells sb = [] := List.eq_nil_of_length_eq_zero (by omega)
      refine ⟨.slice none 0 0, w, ?_, by rw [hm, hn]; exact World.ownsRow_nil w 0 e 1, .inl ⟨rfl, fun g _ => Keep.refl _ w, fun _ => rfl⟩⟩
      simp [Builtin.append_, run_underlying ht, run_underlying hu, Go.sizeOf, typeInfo, hi, Builtin.lenOf, Builtin.firstCells, hs, hm]
    · have hr := run_append_nil_string (P := P) w t u ty e i (.int .u8 0) ht hu hi hz sb (by omega) (by omega) (by rw [hs]; have hb := hbytes; simp only [Nat.zero_add] at hb; omega)
      have hgr := grown 0
      simp only [Nat.zero_add, List.nil_append, Array.empty_append] at hgr ⊢
      have e1 : sb.data.map (fun b => Value.int .u8 b.toNat) = (Lib.strCells sb).toArray := by
        apply Array.ext'
        simp [Lib.strCells]
      rw [e1, hs] at hr
      exact ⟨_, _, hr, hgr, .inr ⟨rfl, keep_drew_alloc w _ _⟩⟩
  · by_cases hroom : n + str.length ≤ cap
    · have hfit : n + sb.size ≤ cur.size := by rw [hs]; omega
      have hr := Lib.run_append_room_string (P := P) w t u ty e i ht hu hi hsz g n cap cur hg sb (by omega) hfit
      rw [hs] at hr
      refine ⟨_, _, hr, ⟨hlen, .inr ⟨g, cap, _, rfl, hbg, setRow_heap w g cur _ e _ hg, hroom, hcm, ?_, ?_⟩⟩, .inl ⟨rfl, fun g' hg' => ?_, fun h => by simp [blkOf] at h⟩⟩
      · simp only [List.size_toArray, List.length_append, List.length_take, List.length_drop, Array.length_toList, hl]
        omega
      · rw [Nat.mul_one] at htake
        rw [htake, ← hlen]
        exact List.take_left
      · simp [blkOf] at hg'
        subst hg'
        exact ⟨rfl, rfl, rfl, by simp, fun k _ hk => setRow_other w g k _ hk⟩
    · have holds : ∀ j u, xs[j]? = some u → w.cell? ((⟨g, 0, none⟩ : Addr).add j) = some u := hown.cells (g := g) rfl
      have hr := Lib.run_append_grow_string (P := P) w t u ty e i (.int .u8 0) ht hu hi hz ⟨g, 0, none⟩ n cap xs (by rw [hsz]; exact hown.1) holds sb (by omega) (by omega) (growslice_fits (by omega) (by rw [hs]; exact hbytes))
      rw [hs] at hr
      exact ⟨_, _, hr, grown cap, .inr ⟨rfl, keep_drew_alloc w _ _⟩⟩

theorem bRows_V (H : (PH Lw)) : ∀ (l : List UInt8), RepV H 1 (bRows l) (Lib.strCells ⟨l.toArray⟩)
  | [] => by simp [bRows, RepV, Lib.strCells]
  | b :: l => by
    have := bRows_V H l
    simp only [bRows, List.map_cons, RepV]
    refine ⟨rfl, [.int .u8 b.toNat], Lib.strCells ⟨l.toArray⟩, by simp [Lib.strCells], ?_, this⟩
    simp [RepL, RepP]

theorem rowsOf_spec {f : FV} {R : List (List PV) → Prop} (h : rowsOf f R) : ∃ rows, R rows ∧ ∀ ⦃Lw : Nat⦄ (ρ : List Value) (H : (PH Lw)) (x : Value), RepF ρ H f x → RepP H (.sl rows) x := by
  unfold rowsOf at h
  split at h
  · exact ⟨_, h, fun _ _ _ _ r => r⟩
  · exact ⟨_, h, fun _ _ _ _ r => r.2⟩
  · refine ⟨[], h, fun _ _ _ _ r => ?_⟩
    simp only [RepF, RepP] at r ⊢
    exact .inl ⟨trivial, .inl r⟩
  · exact h.elim

/-- What is common behind an append. -/
def grownH (H : (PH Lw)) (v : Value) (ys : List Value) : (PH Lw) := fun b o => if blkOf v = some b ∧ o < ys.length then ys[o]? else H b o

theorem append_world {bs : (Base Lw)} {ρ : List Value} {H : (PH Lw)} {lo : List AObj} (s : SatW bs ρ H lo w) {e : TypeId} {z : Nat} {v : Value} {n : Nat} {xs : List Value} (hown : w.ownsRow 0 e z v n xs)
    (hxs : ∀ b, blkOf v = some b → (∀ j u, xs[j]? = some u → H b j = some u) ∧ ∀ o, n * z ≤ o → H b o = none)
    (hfree : ∀ (g : Nat), blkOf v = some g → ∀ (k : Nat) (o' : AObj) (v' : Value), lo[k]? = some o' → ρ[k]? = some v' → o'.live = true → blkOf v' ≠ some g)
    (howns : ∀ g, blkOf v = some g → bs.S g ∨ bs.w0.heap.size ≤ g)
    {w' : World} {v' : Value} {m : Nat} {news : List Value} (hnl : news.length = m * z) (h1 : ∀ u ∈ xs ++ news, u.oneCell' = true)
    (hown' : w'.ownsRow 0 e z v' (n + m) (xs ++ news))
    (hk : (blkOf v' = blkOf v ∧ (∀ g, blkOf v = some g → Keep (fun b => b = g) w w') ∧ (blkOf v = none → w' = w)) ∨ (blkOf v' = some w.heap.size ∧ Keep (fun b => b = w.heap.size) w w')) :
    PH.le H (grownH H v' (xs ++ news)) ∧ SatW bs (ρ ++ [v']) (grownH H v' (xs ++ news)) (lo ++ [.tail e z (n + m)]) w' := by
  have hlen : (xs ++ news).length = (n + m) * z := hown'.1
  -- in the block itself: what was common there is what the row's beginning holds
  have hin : ∀ b o u, blkOf v' = some b → H b o = some u → o < xs.length ∧ (xs ++ news)[o]? = some u := by
    intro b o u hb hu
    rcases hk with ⟨e1, _⟩ | ⟨e1, _⟩
    · rw [e1] at hb
      obtain ⟨h2, h3⟩ := hxs b hb
      have hlt : o < xs.length := by
        rw [hown.1]
        rcases Nat.lt_or_ge o (n * z) with h | h
        · exact h
        · rw [h3 o h] at hu; cases hu
      refine ⟨hlt, ?_⟩
      rw [List.getElem?_append_left hlt]
      have := h2 o _ (List.getElem?_eq_getElem hlt)
      rw [hu] at this
      rw [List.getElem?_eq_getElem hlt, ← Option.some.inj this]
    · rw [e1] at hb
      cases hb
      exact absurd (s.sath.lt hu) (Nat.lt_irrefl _)
  have hle : PH.le H (grownH H v' (xs ++ news)) := by
    intro b o u hu
    unfold grownH
    split
    · rename_i hc; exact (hin b o u hc.1 hu).2
    · exact hu
  refine ⟨hle, ?_⟩
  have hcell : ∀ g, blkOf v' = some g → ∀ o u, (xs ++ news)[o]? = some u → w'.cell? ⟨g, o, none⟩ = some u := by
    intro g hg o u hu
    have := hown'.cells (g := g) (by
      rcases hown'.2 with ⟨rfl, _⟩ | ⟨g', cap, cur, rfl, _⟩
      · simp [blkOf] at hg
      · simpa [blkOf, Value.ownBlock] using hg) o u hu
    rwa [Addr.add_lit, Nat.zero_add] at this
  have hsat : SatH (grownH H v' (xs ++ news)) w' := by
    refine ⟨?_, s.sath.root.mono hle, by rcases hk with ⟨_, k1, k2⟩ | ⟨_, k1⟩; { cases hv : blkOf v with | none => rw [k2 hv]; exact s.sath.low | some g => exact Nat.le_trans s.sath.low (k1 g hv).size }; { exact Nat.le_trans s.sath.low k1.size }, ?_⟩
    rotate_left
    · intro b o u hu hL
      by_cases hbv : blkOf v' = some b
      · exact .own hown' hbv
      · unfold grownH at hu
        rw [if_neg (fun hc => hbv hc.1)] at hu
        have hlt := s.sath.lt hu
        refine (s.sath.nf b o u hu hL).block ?_
        rcases hk with ⟨e1, k1, k2⟩ | ⟨e1, k1⟩
        · cases hv : blkOf v with
          | none => rw [k2 hv]
          | some g => exact (k1 g hv).block b hlt (fun e => hbv (by rw [e1, hv, e]))
        · exact k1.block b hlt (by omega)
    intro b o u hu
    unfold grownH at hu
    split at hu
    · rename_i hc
      exact ⟨hcell b hc.1 o u hu, h1 u (List.mem_of_getElem? hu)⟩
    · rename_i hc
      obtain ⟨hcl, hone⟩ := s.sath.cell b o u hu
      refine ⟨?_, hone⟩
      have hbne : blkOf v' ≠ some b := fun hb => hc ⟨hb, by have := (hin b o u hb hu).1; rw [List.length_append]; omega⟩
      have hlt := s.sath.lt hu
      rcases hk with ⟨e1, k1, k2⟩ | ⟨e1, k1⟩
      · cases hv : blkOf v with
        | none => rw [k2 hv]; exact hcl
        | some g =>
          rw [World.cell?_of_block (w := w) (a := ⟨b, o, none⟩) ((k1 g hv).block b hlt (fun e => hbne (by rw [e1, hv, e])))]
          exact hcl
      · rw [World.cell?_of_block (w := w) (a := ⟨b, o, none⟩) (k1.block b hlt (by omega))]
        exact hcl
  have hok : ∀ ρ, ObjOk ρ (grownH H v' (xs ++ news)) w' v' (.tail e z (n + m)) := by
    intro ρ
    refine ⟨xs ++ news, hown', fun b hb => ⟨fun j u hu => ?_, fun o ho => ?_⟩⟩
    · unfold grownH
      rw [if_pos ⟨hb, (List.getElem?_eq_some_iff.1 hu).1⟩]
      exact hu
    · unfold grownH
      rw [if_neg (by rw [hlen]; omega)]
      cases hx : H b o with
      | none => rfl
      | some u =>
        have := (hin b o u hb hx).1
        rw [hown.1] at this
        have : n * z ≤ (n + m) * z := Nat.mul_le_mul_right _ (by omega)
        omega
  have hnew : ∀ b o u, grownH H v' (xs ++ news) b o = some u → (∃ u, H b o = some u) ∨ blkOf v' = some b := by
    intro b o u hu
    unfold grownH at hu
    split at hu
    · rename_i hc; exact .inr hc.1
    · exact .inl ⟨u, hu⟩
  rcases hk with ⟨e1, k1, k2⟩ | ⟨e1, k1⟩
  · cases hv : blkOf v with
    | none =>
      have hw := k2 hv
      subst hw
      rw [hv] at e1
      refine s.push (g := w'.heap.size) (.inr e1) (s.fresh (Nat.le_refl _)) (.inr s.keep.size) hle hsat (fun b o u hu => ?_) (Keep.refl _ _) (hok _)
      rcases hnew b o u hu with h | h
      · exact .inl h
      · rw [e1] at h; cases h
    | some g =>
      rw [hv] at e1
      refine s.push (g := g) (.inl e1) (hfree g hv) (howns g hv) hle hsat (fun b o u hu => ?_) (k1 g hv) (hok _)
      rcases hnew b o u hu with h | h
      · exact .inl h
      · rw [e1] at h; exact .inr (Option.some.inj h).symm
  · refine s.push (g := w.heap.size) (.inl e1) (s.fresh (Nat.le_refl _)) (.inr s.keep.size) hle hsat (fun b o u hu => ?_) k1 (hok _)
    rcases hnew b o u hu with h | h
    · exact .inl h
    · rw [e1] at h; exact .inr (Option.some.inj h).symm

/-- The rows behind it. -/
theorem append_rep {H : (PH Lw)} {v' : Value} {e : TypeId} {z : Nat} {rows : List (List PV)} {ys : List Value} {w' : World} (hv : RepV H z rows ys) (hle : PH.le H (grownH H v' ys))
    (hown : w'.ownsRow 0 e z v' rows.length ys) : RepP (grownH H v' ys) (.sl rows) v' := by
  simp only [RepP]
  rcases hown.2 with ⟨rfl, hn⟩ | ⟨g, cap, cur, rfl, _, _, hnc, _⟩
  · exact .inl ⟨List.eq_nil_of_length_eq_zero hn, .inl rfl⟩
  · refine .inr ⟨g, 0, z, cap, rfl, hnc, (hv.mono hle).unflat fun j u hu => ?_⟩
    unfold grownH
    rw [if_pos ⟨by simp [blkOf], by have := (List.getElem?_eq_some_iff.1 hu).1; omega⟩]
    simpa using hu

theorem RepV.one {H : (PH Lw)} {w : World} (s : SatH H w) {b o : Nat} {vs : List Value} (c : ∀ j u, vs[j]? = some u → H b (o + j) = some u) : ∀ u ∈ vs, u.oneCell' = true := fun u hu => by
  obtain ⟨j, hj⟩ := List.getElem?_of_mem hu
  exact (s _ _ _ (c j u hj)).2

theorem run_newVar {w : World} {t : TypeId} {v : Value} : (newVar t v).run P w = .ok ⟨w.heap.size, 0, none⟩ (w.alloc (.cells v.cells t)) := by
  simp [newVar, newRow]

theorem run_storeVar {w : World} {t bt : TypeId} {i : TypeInfo} (hi : P.info? t = some i) {b off : Nat} {cur : List Value} (hg : w.heap[b]? = some (.cells cur.toArray bt (0, 0))) {x : Value}
    (hn : x.cells.size = i.size) (hoff : off + x.cells.size ≤ cur.length) (h1 : ∀ u ∈ x.cells.toList, u.oneCell' = true) :
    (Instr.storeAt t (.pointer (some ⟨b, off, none⟩)) x).run P w = .ok () (w.setRow b (cur.take off ++ x.cells.toList ++ cur.drop (off + x.cells.size)).toArray) := by
  have := run_storeCells_at P b off bt x.cells.toList 0 cur.toArray w hg (by simpa using hoff) h1
  simp only [Nat.add_zero, Array.length_toList] at this
  simp [Instr.storeAt, Instr.sureAddr, storeVar, Go.sizeOf, typeInfo, hi, hn]
  rw [this]
  simp [hn]

theorem beq_of {a b : Nat} (h : Nat.beq a b = true) : a = b := Nat.eq_of_beq_eq_true h

theorem zeroA_cells {H : (PH Lw)} : ∀ {l : List UInt8} {vs : List Value}, RepL H (l.map fun b => PV.int .u8 b.toNat) vs → ∀ (j : Nat) (c : UInt8), l[j]? = some c → vs[j]? = some (.int .u8 (c.toNat : Int))
  | [], _, _, j, c, h => by simp at h
  | b :: l, vs, r, j, c, h => by
    simp only [List.map_cons, RepL, RepP] at r
    obtain ⟨v, vs', rfl, rfl, rs⟩ := r
    cases j with
    | zero => simp at h; subst h; rfl
    | succ j => simpa using zeroA_cells rs j c (by simpa using h)

theorem kAllocA_spec {t : TypeId} {lo : List AObj} {R : FV → List AObj → Prop} (h : kAllocA P t lo R) :
    ∃ fv lo', R fv lo' ∧ EffRel true lo lo' ∧ ∀ ⦃Lw : Nat⦄ (bs : (Base Lw)) (ρ : List Value) (H : (PH Lw)) (w : World), SatW bs ρ H lo w → ∃ v w', (Instr.alloc t true (.tuple #[])).run P w = .ok v w' ∧ After bs ρ H fv lo' v w' := by
  unfold kAllocA at h
  obtain ⟨i, z, ps, hi, hz, h, hps⟩ := zeroK_spec h
  obtain ⟨l, rfl, h⟩ := h
  have h := lenK_spec h
  have h := snocK_spec h
  refine ⟨_, _, h, EffRel.push _, fun Lw bs ρ H w s => ?_⟩
  refine ⟨.pointer (some ⟨w.heap.size, 0, none⟩), w.alloc (.cells z.cells t), ?_, ρ ++ [.slice (some ⟨w.heap.size, 0, none⟩) l.length l.length], H, List.prefix_append _ _, PH.le.refl H, ?_, ?_⟩
  · simp only [Instr.alloc, Sem.run_bind, zeroValue, typeInfo, run_program, hi, hz, run_newVar, Result.andThen_ok, Sem.run_pure]
  · refine s.push (g := w.heap.size) (.inl rfl) (s.fresh (Nat.le_refl _)) (.inr s.keep.size) (PH.le.refl H) (satH_alloc s.sath _) (fun b o v h => .inl ⟨v, h⟩) (keep_alloc w _ _) ?_
    refine ⟨w.heap.size, z.cells, t, l.length, 0, 0, rfl, heap_alloc_new w _, .inr (Nat.le_refl _), fun j c hc => ?_, fun o => ?_⟩
    · have := zeroA_cells (hps H) j c hc
      simpa using this
    · cases hx : H w.heap.size o with
      | none => rfl
      | some x => exact absurd (s.sath.lt hx) (Nat.lt_irrefl _)
  · exact ⟨w.heap.size, l.length, l.length, by simp [← s.hlen], by simp⟩

theorem storeV_core {bs : (Base Lw)} {ρ : List Value} {H : (PH Lw)} {lo : List AObj} (s : SatW bs ρ H lo w) {t : TypeId} {ti : TypeInfo} (hi : P.info? t = some ti) {k i off b n cap z : Nat} {e : TypeId} {o : AObj} {rows : List (List PV)} {row ps : List PV} {xv : Value} {xs : List Value}
    (ho : lo[k]? = some o) (hol : o.live = true) (hρ : ρ[k]? = some (.slice (some ⟨b, 0, none⟩) n cap)) (hown : w.ownsRow 0 e z (.slice (some ⟨b, 0, none⟩) n cap) rows.length xs) (hr : RepV H z rows xs) (h1 : ∀ u ∈ xs, u.oneCell' = true) (hh : ∀ o, H b o = none)
    (hrow : rows[i]? = some row) (hone : ps.all oneP = true) (hle : off + ps.length ≤ row.length) (hn : ps.length = ti.size) (rl : RepL H ps xv.cells.toList) :
    ∃ w', (Instr.storeAt t (.pointer (some ⟨b, i * z + off, none⟩)) xv).run P w = .ok () w' ∧ (∀ o', ObjOk ρ H w' (.slice (some ⟨b, 0, none⟩) n cap) o' → SatW bs ρ H (lo.set k o') w') ∧
      w'.ownsRow 0 e z (.slice (some ⟨b, 0, none⟩) n cap) (rows.set i (row.take off ++ ps ++ row.drop (off + ps.length))).length (xs.take (i * z + off) ++ xv.cells.toList ++ xs.drop (i * z + off + xv.cells.size)) ∧
      RepV H z (rows.set i (row.take off ++ ps ++ row.drop (off + ps.length))) (xs.take (i * z + off) ++ xv.cells.toList ++ xs.drop (i * z + off + xv.cells.size)) ∧
      (∀ u ∈ xs.take (i * z + off) ++ xv.cells.toList ++ xs.drop (i * z + off + xv.cells.size), u.oneCell' = true) ∧ i * z + off + ps.length ≤ xs.length ∧ xv.cells.size = ps.length ∧ row.length = z := by
  rcases hown.2 with ⟨e', _⟩ | ⟨g, cap', cur, e', _, hg, hnc, hm, hs, ht⟩
  · cases e'
  · cases e'
    have hlen := rl.length
    have hzr : row.length = z := by
      have hmem := List.mem_of_getElem? hrow
      have : ∀ {rows : List (List PV)} {vs : List Value}, RepV H z rows vs → ∀ r ∈ rows, r.length = z := by
        intro rows
        induction rows with
        | nil => intro vs _ r hr; cases hr
        | cons q qs ih =>
          intro vs x r hr
          obtain ⟨hz, _, _, _, _, y⟩ := x
          rcases List.mem_cons.1 hr with rfl | hr
          · exact hz
          · exact ih y r hr
      exact this hr row hmem
    have hil : i < rows.length := (List.getElem?_eq_some_iff.1 hrow).1
    have hxl : xs.length = rows.length * z := hr.length
    have hiz : i * z + z ≤ rows.length * z := by
      rw [← Nat.succ_mul]; exact Nat.mul_le_mul_right _ hil
    have hcl : rows.length * z ≤ cur.toList.length := by
      have h2 : cur.toList.length = cur.size := by simp
      rw [h2, hs]; exact Nat.mul_le_mul_right _ hnc
    have hsz : xv.cells.size = ps.length := by simpa using hlen
    have hone' : ∀ u ∈ xv.cells.toList, u.oneCell' = true := RepL.one (fun c hc => (List.all_eq_true.1 hone) c hc) rl
    have hrun := run_storeVar (P := P) (w := w) (t := t) (bt := e) (cur := cur.toList) hi (by simpa using hg) (x := xv) (off := i * z + off) (by omega) (by omega) hone'
    have hnew : (cur.toList.take (i * z + off) ++ xv.cells.toList ++ cur.toList.drop (i * z + off + xv.cells.size)).take (rows.length * z) = xs.take (i * z + off) ++ xv.cells.toList ++ xs.drop (i * z + off + xv.cells.size) := by
      rw [take_over (by omega) (by simp) hcl, ht]
    have hover := hr.over (off := off) hrow rl (by omega)
    have hrl : (rows.set i (row.take off ++ ps ++ row.drop (off + ps.length))).length = rows.length := by simp
    refine ⟨_, hrun, fun o' hok => s.upd (k := k) (b := b) ho hρ hol rfl hh ⟨rfl, rfl, rfl, by simp, fun x _ hx => setRow_other w b x _ hx⟩ hok, ?_, ?_, ?_, by omega, hsz, hzr⟩
    · refine ⟨?_, .inr ⟨b, cap, (cur.toList.take (i * z + off) ++ xv.cells.toList ++ cur.toList.drop (i * z + off + xv.cells.size)).toArray, by rw [hrl], Nat.zero_le _, setRow_heap w b _ _ e _ (by simpa using hg), by rw [hrl]; exact hnc, hm, ?_, ?_⟩⟩
      · rw [hrl]
        simp only [List.length_append, List.length_take, List.length_drop, Array.length_toList]
        omega
      · simp only [List.size_toArray, List.length_append, List.length_take, List.length_drop, Array.length_toList] at hcl ⊢
        omega
      · rw [hrl]; exact hnew
    · simpa using hover
    · intro u hu
      rcases List.mem_append.1 hu with hu | hu
      · rcases List.mem_append.1 hu with hu | hu
        · exact h1 u (List.mem_of_mem_take hu)
        · exact hone' u hu
      · exact h1 u (List.mem_of_mem_drop hu)

theorem setCells_heap {b : Nat} {e : TypeId} {fz : Nat × Nat} : ∀ (vs : List Value) (o : Nat) (w : World) (cs : Array Value), w.heap[b]? = some (.cells cs e fz) →
    ∃ cs', (w.setCells b o vs).heap[b]? = some (.cells cs' e fz) ∧ cs'.size = cs.size ∧ (∀ k, k < o → cs'[k]? = cs[k]?) ∧ (∀ j v, vs[j]? = some v → o + j < cs.size → cs'[o + j]? = some v) ∧ Keep (fun x => x = b) w (w.setCells b o vs)
  | [], o, w, cs, h => ⟨cs, h, rfl, fun _ _ => rfl, fun j v hv => by simp at hv, Keep.refl _ _⟩
  | v :: vs, o, w, cs, h => by
    have h1 : (w.setCell ⟨b, o, none⟩ v).heap[b]? = some (.cells (cs.setIfInBounds o v) e fz) := by
      simp [World.setCell, Array.getElem?_modify, h]
    have hk : Keep (fun x => x = b) w (w.setCell ⟨b, o, none⟩ v) := ⟨rfl, rfl, rfl, by simp [World.setCell], fun x _ hx => by
      have : b ≠ x := fun e => hx e.symm
      simp [World.setCell, Array.getElem?_modify, this]⟩
    obtain ⟨cs', a1, a2, a3, a4, a5⟩ := setCells_heap vs (o + 1) (w.setCell ⟨b, o, none⟩ v) _ h1
    refine ⟨cs', a1, by simpa using a2, fun k hk => ?_, fun j u hu hj => ?_, hk.trans a5⟩
    · rw [a3 k (by omega), Array.getElem?_setIfInBounds, if_neg (by omega)]
    · cases j with
      | zero =>
        simp only [List.getElem?_cons_zero, Option.some.injEq] at hu
        subst hu
        rw [Nat.add_zero] at hj ⊢
        rw [a3 o (by omega), Array.getElem?_setIfInBounds, if_pos rfl, if_pos hj]
      | succ j =>
        rw [show o + (j + 1) = o + 1 + j from by omega]
        exact a4 j u (by simpa using hu) (by simpa using (by omega : o + 1 + j < cs.size))

theorem kStoreE_sound {lo : List AObj} {t : TypeId} {k z i off : Nat} {x : FV} {R : FV → List AObj → Prop} (h : kStoreE P t lo k z i off x R) :
    ∃ fv lo', R fv lo' ∧ lo'.length = lo.length ∧ ∀ ⦃Lw : Nat⦄ (bs : (Base Lw)) (ρ : List Value) (H : (PH Lw)) (w : World) (a xv : Value), SatW bs ρ H lo w → RepF ρ H (.eptr k z i off) a → RepF ρ H x xv →
      ∃ w', (Instr.storeAt t a xv).run P w = .ok () w' ∧ After bs ρ H fv lo' undef w' := by
  unfold kStoreE at h
  have h0 := cellsK_spec h; clear h; obtain ⟨cs, h, hcs⟩ := h0
  have h0 := frzL_spec h; clear h; obtain ⟨ps, h, hps⟩ := h0
  have h0 := lenK_spec h; clear h; have h := h0; clear h0
  have h0 := typeK_spec h; clear h; obtain ⟨d, ti, hd, hi, h⟩ := h0
  split at h
  · rename_i hn
    have hn := beq_of hn
    have h0 := nthK_spec h; clear h; obtain ⟨o, ho, h⟩ := h0
    split at h
    · rename_i e z' rows
      obtain ⟨row, ⟨rfl, hrow, hone⟩, h⟩ := h
      obtain ⟨h, hle⟩ := overP_spec h
      obtain ⟨rows', hrows, h⟩ := h
      obtain ⟨h, hk⟩ := setK_spec h
      refine ⟨_, _, h, by simp, fun Lw bs ρ H w a xv s ra rx => ?_⟩
      obtain ⟨b, n, cap, hρ, rfl⟩ := ra
      obtain ⟨xs, hown, hr, h1, hh⟩ := s.objs k _ _ ho hρ
      obtain ⟨w', hrun, hup, c1, c2, c3, _⟩ := storeV_core s hi ho rfl hρ hown hr h1 (hh b rfl) hrow hone hle (by omega) (hps ρ H _ (hcs ρ H xv rx))
      subst hrows
      exact ⟨w', hrun, ρ, H, List.prefix_refl _, PH.le.refl H, hup _ ⟨_, c1, c2, c3, fun b' hb' => by cases hb'; exact hh b rfl⟩, by simp [RepF, RepP, RepL, undef]⟩
    · rename_i e z' rows j kt
      obtain ⟨row, kt', ⟨rfl, hrow, hone, hcase⟩, h⟩ := h
      obtain ⟨h, hle⟩ := overP_spec h
      obtain ⟨rows', hrows, h⟩ := h
      obtain ⟨h, hk⟩ := setK_spec h
      refine ⟨_, _, h, by simp, fun Lw bs ρ H w a xv s ra rx => ?_⟩
      obtain ⟨b, n, cap, hρ, rfl⟩ := ra
      obtain ⟨xs, hown, hr, h1, hh, hl⟩ := s.objs k _ _ ho hρ
      obtain ⟨w', hrun, hup, c1, c2, c3, c4, c5, c6⟩ := storeV_core s hi ho rfl hρ hown hr h1 (hh b rfl) hrow hone hle (by omega) (hps ρ H _ (hcs ρ H xv rx))
      subst hrows
      refine ⟨w', hrun, ρ, H, List.prefix_refl _, PH.le.refl H, hup _ ⟨_, c1, c2, c3, fun b' hb' => by cases hb'; exact hh b rfl, fun u hu => ?_⟩, by simp [RepF, RepP, RepL, undef]⟩
      rw [List.length_set] at hu
      have hil : i < rows.length := (List.getElem?_eq_some_iff.1 hrow).1
      rcases hcase with ⟨hjz, hout, rfl⟩ | ⟨rfl, hlast, rows3, rfl⟩
      · refine hl u ?_
        have hp : (rows.length - 1) * z' + j < i * z' + off ∨ i * z' + off + xv.cells.size ≤ (rows.length - 1) * z' + j := by
          rcases Nat.lt_or_ge i (rows.length - 1) with hlt | hge
          · right
            have : (i + 1) * z' ≤ (rows.length - 1) * z' := Nat.mul_le_mul_right _ hlt
            rw [Nat.add_mul] at this
            omega
          · have : i = rows.length - 1 := by omega
            subst this
            rcases hout with h | h
            · right; omega
            · left; omega
        rcases hp with hp | hp
        · rw [List.append_assoc, List.getElem?_append_left (by rw [List.length_take]; omega), List.getElem?_take, if_pos hp] at hu
          exact hu
        · rw [List.getElem?_append_right (by simp only [List.length_append, List.length_take, Array.length_toList]; omega), List.getElem?_drop] at hu
          rw [← hu]
          congr 1
          simp only [List.length_append, List.length_take, Array.length_toList]
          omega
      · have hi' : i = rows.length - 1 := by omega
        subst hi'
        have hx1 : xv.cells.toList = [xv] := by rw [(oneF_cells (f := .tsl kt' rows3) rfl rx).1]
        rw [hx1, List.append_assoc, List.getElem?_append_right (by rw [List.length_take]; omega), List.length_take, Nat.min_eq_left (by omega), Nat.sub_self] at hu
        simp at hu
        rw [← hu]
        exact rx.1
    · rename_i l
      split at h
      · have h0 := h; clear h; obtain ⟨c, l', ⟨rfl, rfl, hil, hnc, hl'⟩, h⟩ := h0
        have h0 := setK_spec h; clear h; obtain ⟨h, hk⟩ := h0
        subst hnc
        refine ⟨_, _, h, by simp, fun Lw bs ρ H w a xv s ra rx => ?_⟩
        obtain ⟨b, n0, cap, hρ, rfl⟩ := ra
        obtain ⟨b', cs, e', cap', lo', hi', e1, hg, hlo, h2, hH⟩ := s.objs k _ _ ho hρ
        cases e1
        have rl := hps ρ H _ (hcs ρ H xv rx)
        simp only [RepL, RepP] at rl
        obtain ⟨v0, vs', ev, rfl, rfl⟩ := rl
        have hsz : xv.cells.size = 1 := by
          have : xv.cells.toList.length = 1 := by rw [ev]; rfl
          simpa using this
        have hcell : (w.cell? ⟨b, i, none⟩).isSome = true := by
          simp only [World.cell?, hg]
          rw [h2 i _ (List.getElem?_eq_getElem hil)]
          rfl
        have hfz : w.frozen? ⟨b, i, none⟩ = false := by
          simp only [World.frozen?, hg]
          have : ¬ (lo' ≤ i ∧ i < hi') := by omega
          simpa using fun h1 => Nat.le_of_not_lt fun h2 => this ⟨h1, h2⟩
        have hrun : (Instr.storeAt t (.pointer (some ⟨b, i * 1 + 0, none⟩)) xv).run P w = .ok () (w.setCell ⟨b, i, none⟩ (.int .u8 (c.toNat : Int))) := by
          have h3 := run_storeCells_cells (P := P) b i [.int .u8 (c.toNat : Int)] 0 w (fun j hj => by
            have : j = 0 := by simpa using hj
            subst this
            simpa using hcell) (fun j hj => by
            have : j = 0 := by simpa using hj
            subst this
            simpa using hfz) (by simp [Value.oneCell'])
          simp only [Nat.add_zero] at h3
          have hti : ti.size = 1 := by
            have : [PV.int .u8 (c.toNat : Int)].length = ti.size := by simpa using hn
            simpa using this.symm
          simp [Instr.storeAt, Instr.sureAddr, storeVar, Go.sizeOf, typeInfo, hi, hti, hsz, ev, h3, World.setCells]
        have hset : (w.setCell ⟨b, i, none⟩ (.int .u8 (c.toNat : Int))).heap[b]? = some (.cells (cs.setIfInBounds i (.int .u8 (c.toNat : Int))) e' (lo', hi')) := by
          simp [World.setCell, Array.getElem?_modify, hg]
        refine ⟨_, hrun, ρ, H, List.prefix_refl _, PH.le.refl H, ?_, by simp [RepF, RepP, RepL, undef]⟩
        refine s.upd (k := k) (b := b) ho hρ rfl rfl hH ⟨rfl, rfl, rfl, by simp [World.setCell], fun x _ hx => ?_⟩ ?_
        · have : b ≠ x := fun e => hx e.symm
          simp [World.setCell, Array.getElem?_modify, this]
        · subst hl'
          refine ⟨b, _, e', cap, lo', hi', by simp, hset, by simpa using hlo, fun j c' hc' => ?_, hH⟩
          rw [List.getElem?_set] at hc'
          rw [Array.getElem?_setIfInBounds]
          split at hc'
          · rename_i hij
            subst hij
            cases hc'
            have hcs' : i < cs.size := by
              have := h2 i _ (List.getElem?_eq_getElem hil)
              exact (Array.getElem?_eq_some_iff.1 this).1
            simp [hcs']
          · rename_i hij
            simp only [hij, if_false]
            exact h2 j c' hc'
      · have h0 := h; clear h; obtain ⟨l', ⟨rfl, rfl, rfl, hll, hpe⟩, h⟩ := h0
        have h0 := setK_spec h; clear h; obtain ⟨h, hk⟩ := h0
        refine ⟨_, _, h, by simp, fun Lw bs ρ H w a xv s ra rx => ?_⟩
        obtain ⟨b, n0, cap, hρ, rfl⟩ := ra
        obtain ⟨b', cs, e', cap', lo', hi', e1, hg, hlo, h2, hH⟩ := s.objs k _ _ ho hρ
        cases e1
        have rl := hps ρ H _ (hcs ρ H xv rx)
        rw [hpe] at rl
        have hvl : xv.cells.toList.length = l.length := by rw [rl.length, List.length_map, hll]
        have hsz : xv.cells.size = l.length := by simpa using hvl
        have hcz : l.length ≤ cs.size := by
          rcases Nat.eq_zero_or_pos l.length with h0 | h0
          · omega
          · have := h2 (l.length - 1) _ (List.getElem?_eq_getElem (by omega))
            have := (Array.getElem?_eq_some_iff.1 this).1
            omega
        have hone' : ∀ u ∈ xv.cells.toList, u.oneCell' = true := by
          intro u hu
          obtain ⟨j, hj⟩ := List.getElem?_of_mem hu
          have hjl : j < l'.length := by have := (List.getElem?_eq_some_iff.1 hj).1; omega
          have := zeroA_cells rl j _ (List.getElem?_eq_getElem hjl)
          rw [hj] at this
          cases this
          rfl
        have hrun : (Instr.storeAt t (.pointer (some ⟨b, 0 * 1 + 0, none⟩)) xv).run P w = .ok () (w.setCells b 0 xv.cells.toList) := by
          have h3 := run_storeCells_cells (P := P) b 0 xv.cells.toList 0 w (fun j hj => by
            simp only [World.cell?, hg]
            have : j < l.length := by omega
            rw [show 0 + 0 + j = j from by omega]
            rw [h2 j _ (List.getElem?_eq_getElem this)]
            rfl) (fun j hj => by
            simp only [World.frozen?, hg]
            have : ¬ (lo' ≤ 0 + 0 + j ∧ 0 + 0 + j < hi') := by omega
            simpa using fun h1 => Nat.le_of_not_lt fun h2 => this ⟨by simpa using h1, by simpa using h2⟩) hone'
          have hti : ti.size = l.length := by
            have : ps.length = ti.size := by simpa using hn
            rw [← this, hpe, List.length_map, hll]
          simp only [Nat.add_zero] at h3
          simp [Instr.storeAt, Instr.sureAddr, storeVar, Go.sizeOf, typeInfo, hi, hti, hsz, h3]
        obtain ⟨cs', a1, a2, _, a4, a5⟩ := setCells_heap xv.cells.toList 0 w cs hg
        refine ⟨_, hrun, ρ, H, List.prefix_refl _, PH.le.refl H, ?_, by simp [RepF, RepP, RepL, undef]⟩
        refine s.upd (k := k) (b := b) ho hρ rfl rfl hH a5 ?_
        refine ⟨b, cs', e', cap, lo', hi', by rw [hll], a1, by rw [hll]; exact hlo, fun j c' hc' => ?_, hH⟩
        have hj := (List.getElem?_eq_some_iff.1 hc').1
        have := a4 j _ (zeroA_cells rl j c' hc') (by omega)
        simpa using this
    · exact h.elim
  · exact h.elim

/-- append to a slice whose elements may be written. -/
theorem kBuildT_spec {E : Env} {lo : List AObj} {t : TypeId} {n : Nat} {parts : List (Nat × Operand)} {R : FV → List AObj → Prop} (h : kBuildT P E lo t n parts R) :
    ∃ fv lo', R fv lo' ∧ EffRel true lo lo' ∧ ∀ ⦃Lw : Nat⦄ (bs : (Base Lw)) (ρ : List Value) (H : (PH Lw)) (w : World) (eval : Operand → Value), SatW bs ρ H lo w → (∀ x ∈ parts.map (·.2), RepF ρ H (evF (lookD E) x) (eval x)) →
      ∃ v w', (Instr.buildSlice t n (parts.map fun (i, x) => (i, eval x)).toArray).run P w = .ok v w' ∧ After bs ρ H fv lo' v w' := by
  unfold kBuildT at h
  have h0 := elemK_spec h; clear h; obtain ⟨e, i, hu, hi, h⟩ := h0
  have h0 := kBuildSlice_core h; clear h; obtain ⟨e', i', rows, hu', hi', h, hn, hmax, hs⟩ := h0
  have e1 : e' = e := by rw [hu] at hu'; cases hu'; rfl
  subst e1
  have e2 : i' = i := Option.some.inj (hi'.symm.trans hi)
  subst e2
  simp only at h
  have h := lenK_spec h
  have h := snocK_spec h
  refine ⟨_, _, h, EffRel.push _, fun Lw bs ρ H w eval s hx => ?_⟩
  obtain ⟨xs, hr, hv, hone⟩ := hs trivial ρ H w eval hx
  have hown' : (w.alloc (.cells xs.toArray e')).ownsRow 0 e' i'.size (.slice (some ⟨w.heap.size, 0, none⟩) n n) (0 + rows.length) ([] ++ xs) := by
    rw [Nat.zero_add, List.nil_append]
    refine ⟨hv.length, .inr ⟨w.heap.size, n, xs.toArray, by rw [hn], Nat.zero_le _, heap_alloc_new w _, by rw [hn]; exact Nat.le_refl _, hmax, by simp [hv.length, hn], ?_⟩⟩
    rw [← hv.length]
    exact List.take_length
  obtain ⟨hle, sat⟩ := append_world s (World.ownsRow_nil w 0 e' i'.size) (fun b hb => by simp [blkOf] at hb) (fun g hg => by simp [blkOf] at hg) (fun g hg => by simp [blkOf] at hg) hv.length (by simpa using hone) hown' (.inr ⟨rfl, keep_alloc w _ _⟩)
  simp only [Nat.zero_add, List.nil_append] at hown' sat hle
  exact ⟨_, _, hr, _, _, List.prefix_append _ _, hle, sat, by simp [← s.hlen], append_rep hv hle hown'⟩

theorem kBuildVG_spec {gr : Bool} {E : Env} {lo : List AObj} {t : TypeId} {n : Nat} {parts : List (Nat × Operand)} {R : FV → List AObj → Prop} (h : kBuildVG P gr E lo t n parts R) :
    ∃ fv lo', R fv lo' ∧ EffRel true lo lo' ∧ ∀ ⦃Lw : Nat⦄ (bs : (Base Lw)) (ρ : List Value) (H : (PH Lw)) (w : World) (eval : Operand → Value), SatW bs ρ H lo w → (∀ x ∈ parts.map (·.2), RepF ρ H (evF (lookD E) x) (eval x)) →
      ∃ v w', (Instr.buildSlice t n (parts.map fun (i, x) => (i, eval x)).toArray).run P w = .ok v w' ∧ After bs ρ H fv lo' v w' := by
  cases gr with
  | true => exact kBuildT_spec h
  | false => exact kBuildV_spec h

theorem kConvV_spec {src dst : TypeId} {lo : List AObj} {x : FV} {R : FV → List AObj → Prop} (h : kConvV P src dst lo x R) :
    ∃ fv lo', R fv lo' ∧ ∀ ⦃Lw : Nat⦄ (bs : (Base Lw)) (ρ : List Value) (H : (PH Lw)) (w : World) (v : Value), SatW bs ρ H lo w → RepF ρ H x v → ∃ u w', (convert src dst v).run P w = .ok u w' ∧ After bs ρ H fv lo' u w' := by
  unfold kConvV at h
  split at h
  · rename_i l
    split at h
    · rename_i us hs
      split at h
      · rename_i e hd
        split at h
        · rename_i he
          have h0 := lenK_spec h; clear h; have h := h0; clear h0
          have h0 := snocK_spec h; clear h; have h := h0; clear h0
          refine ⟨_, _, h, fun Lw bs ρ H w v s rx => ?_⟩
          have ev := rep_str rx
          subst ev
          refine ⟨_, _, Lib.run_convert_string_bytes w src dst e ⟨l.toArray⟩ hs hd he, ?_⟩
          have hk : Keep (fun b => b = w.heap.size) w (Lib.bytesWorld w e ⟨l.toArray⟩) := by
            refine ⟨?_, ?_, ?_, by rw [Lib.bytesWorld_size]; omega, fun k hk _ => Lib.bytesWorld_at_old w e _ k hk⟩ <;> simp [Lib.bytesWorld, World.freeze, World.alloc, World.drew, -World.alloc_eq, -World.drew_eq]
          have hz : (⟨l.toArray⟩ : ByteArray).size = l.length := ByteArray.size_mk_toArray l
          refine ⟨ρ ++ [.slice (some ⟨w.heap.size, 0, none⟩) (⟨l.toArray⟩ : ByteArray).size (grownCap w (⟨l.toArray⟩ : ByteArray).size 0 e)], H, List.prefix_append _ _, PH.le.refl H, ?_, ?_⟩
          · refine s.push (g := w.heap.size) (.inl rfl) (s.fresh (Nat.le_refl _)) (.inr s.keep.size) (PH.le.refl H) (s.sath.block hk.size fun b o v hv => Lib.bytesWorld_at_old w e _ b (s.sath.lt hv)) (fun b o v h => .inl ⟨v, h⟩) hk ?_
            refine ⟨w.heap.size, _, e, _, _, _, by rw [hz], Lib.bytesWorld_at_new w e _, ?_, ?_, fun o => ?_⟩
            · exact .inl (by simp [Lib.bytesCells])
            · intro j c hc
              have hj := (List.getElem?_eq_some_iff.1 hc).1
              simp only [Lib.bytesCells]
              rw [Array.getElem?_append_left (by simpa using hj)]
              simp [hc]
            · cases hx : H w.heap.size o with
              | none => rfl
              | some x => exact absurd (s.sath.lt hx) (Nat.lt_irrefl _)
          · simp only [RepF]
            refine ⟨by simp [← s.hlen], .inr ⟨w.heap.size, _, by rw [hz]⟩⟩
        · exact h.elim
      · exact h.elim
    · exact h.elim
  · exact h.elim

theorem append_vec {bs : (Base Lw)} {ρ : List Value} {H : (PH Lw)} {lo : List AObj} (s : SatW bs ρ H lo w) {t ty e : TypeId} {i : TypeInfo} {zv : Value} (hu : P.underlying t = some (.slice e)) (hi : P.info? e = some i) (hz : i.zero = some zv) (hzs : zv.cells.size = i.size)
    {k0 : Nat} {rows : List (List PV)} {v : Value} (ho : lo[k0]? = some (.vec e i.size rows)) (hρ : ρ[k0]? = some v) {news : List (List PV)} {x : Value} (rx : RepP H (.sl news) x) (hall : ∀ r ∈ news, r.length = i.size)
    (hb : (rows ++ news).length * i.bytes ≤ 140737488355328) (h63 : (rows ++ news).length ≤ 9223372036854775807) :
    ∃ v' w', (Builtin.append_ #[t, t] ty #[v, x]).run P w = .ok v' w' ∧ After bs ρ H (.vsl (lo.set k0 .dead).length (rows ++ news).length) (lo.set k0 .dead ++ [.vec e i.size (rows ++ news)]) v' w' := by
  obtain ⟨xs, hown, hrv, h1, hh⟩ := s.objs k0 _ _ ho hρ
  have run : ∃ vs : List Value, RepV H i.size news vs ∧ (∀ u ∈ vs, u.oneCell' = true) ∧
      ((news.length = 0 ∧ x = .slice none 0 0) ∨ ∃ a c, x = .slice (some a) news.length c ∧ ∀ j u, vs[j]? = some u → w.cell? (a.add j) = some u) := by
    rcases sl_flat rx hall with ⟨rfl, ex | ⟨a', cap', ex⟩⟩ | ⟨b, o, cap, vs, ex, _, hv, hc⟩
    · exact ⟨[], rfl, by simp, .inl ⟨rfl, ex⟩⟩
    · exact ⟨[], rfl, by simp, .inr ⟨a', cap', ex, fun j u hu => by simp at hu⟩⟩
    · exact ⟨vs, hv, RepV.one s.sath hc, .inr ⟨⟨b, o, none⟩, cap, ex, fun j u hu => by rw [Addr.add_lit]; exact (s.sath.cell _ _ _ (hc j u hu)).1⟩⟩
  obtain ⟨vs, hv, hone, hxx⟩ := run
  rw [List.length_append] at hb h63
  obtain ⟨v', w', hr, hown', hk⟩ := append_run (P := P) (w := w) (ty := ty) hu hi hz hzs hown hv.length hone hxx h63 hb
  refine ⟨v', w', hr, ?_⟩
  have sk := s.kill k0
  have hfree : ∀ g, blkOf v = some g → ∀ (k : Nat) (o' : AObj) (u : Value), (lo.set k0 .dead)[k]? = some o' → ρ[k]? = some u → o'.live = true → blkOf u ≠ some g := by
    intro g hg k o' u hk' hu' hl
    rw [List.getElem?_set] at hk'
    split at hk'
    · split at hk'
      · cases hk'; simp [AObj.live] at hl
      · cases hk'
    · rename_i hne
      exact s.excl k0 k _ o' _ u g ho hk' hρ hu' hne rfl hl hg
  have hV : ∀ {a b : List (List PV)} {us ws : List Value}, RepV H i.size a us → RepV H i.size b ws → RepV H i.size (a ++ b) (us ++ ws) := fun x y => x.append y
  have hall1 : ∀ u ∈ xs ++ vs, u.oneCell' = true := fun u hu' => by
    rcases List.mem_append.1 hu' with h | h
    · exact h1 u h
    · exact hone u h
  have hvsl : RepF (ρ ++ [v']) H (.vsl (lo.set k0 .dead).length (rows ++ news).length) v' := by
    refine ⟨by simp [← s.hlen], ?_⟩
    rw [List.length_append]
    rcases hown'.2 with ⟨rfl, h0⟩ | ⟨g, cap, cur, rfl, _⟩
    · exact .inl ⟨h0, rfl⟩
    · exact .inr ⟨g, cap, rfl⟩
  have hok : (∀ b, blkOf v' = some b → ∀ o, H b o = none) → ObjOk (ρ ++ [v']) H w' v' (.vec e i.size (rows ++ news)) := fun hn =>
    ⟨xs ++ vs, by rw [List.length_append]; exact hown', hV hrv hv, hall1, hn⟩
  refine ⟨ρ ++ [v'], H, List.prefix_append _ _, PH.le.refl H, ?_, hvsl⟩
  rcases hk with ⟨e1, k1, k2⟩ | ⟨e1, k1⟩
  · cases hvb : blkOf v with
    | none =>
      have hw := k2 hvb
      subst hw
      rw [hvb] at e1
      exact sk.push (g := w'.heap.size) (.inr e1) (sk.fresh (Nat.le_refl _)) (.inr sk.keep.size) (PH.le.refl H) sk.sath (fun b o u hu => .inl ⟨u, hu⟩) (Keep.refl _ _) (hok (fun b hb' => by rw [e1] at hb'; cases hb'))
    | some g =>
      rw [hvb] at e1
      refine sk.push (g := g) (.inl e1) (hfree g hvb) (s.own k0 _ _ g ho hρ rfl hvb) (PH.le.refl H) (s.sath.block (k1 g hvb).size fun b o u hu' => (k1 g hvb).block b (s.sath.lt hu') (fun e => by subst e; rw [hh _ hvb o] at hu'; cases hu')) (fun b o u hu => .inl ⟨u, hu⟩) (k1 g hvb) (hok (fun b hb' => by rw [e1] at hb'; cases hb'; exact hh _ hvb))
  · have hnew : ∀ o, H w.heap.size o = none := fun o => by
      cases hx : H w.heap.size o with
      | none => rfl
      | some u => exact absurd (s.sath.lt hx) (Nat.lt_irrefl _)
    refine sk.push (g := w.heap.size) (.inl e1) (sk.fresh (Nat.le_refl _)) (.inr sk.keep.size) (PH.le.refl H) (s.sath.block k1.size fun b o u hu' => k1.block b (s.sath.lt hu') (fun e => by have := s.sath.lt hu'; omega)) (fun b o u hu => .inl ⟨u, hu⟩) k1 (hok (fun b hb' => by rw [e1] at hb'; cases hb'; exact hnew))

theorem append_vl {bs : (Base Lw)} {ρ : List Value} {H : (PH Lw)} {lo : List AObj} (s : SatW bs ρ H lo w) {t ty e e2 : TypeId} {i : TypeInfo} {zv : Value} (hu : P.underlying t = some (.slice e)) (hi : P.info? e = some i) (hz : i.zero = some zv) (hzs : zv.cells.size = i.size)
    {k0 j kt0 z2 : Nat} {rows rows' : List (List PV)} {r : List PV} {v : Value} (ho : lo[k0]? = some (.vl e i.size rows j kt0)) (hρ : ρ[k0]? = some v) {news : List (List PV)} {x : Value} (rx : RepP H (.sl news) x) (hall : ∀ r ∈ news, r.length = i.size)
    (hle : rows ++ news = rows' ∨ nleR (rows ++ news) rows') (hnew : news = [r]) (hrj : r[j]? = some .nilsl) (hb : rows'.length * i.bytes ≤ 140737488355328) (h63 : rows'.length ≤ 9223372036854775807) :
    ∃ v' w', (Builtin.append_ #[t, t] ty #[v, x]).run P w = .ok v' w' ∧ After bs ρ H (.vsl (lo.set k0 AObj.dead ++ [AObj.tail e2 z2 0]).length rows'.length) (lo.set k0 .dead ++ [AObj.tail e2 z2 0] ++ [.vl e i.size rows' j (lo.set k0 .dead).length]) v' w' := by
  have hlen : (rows ++ news).length = rows'.length := by
    rcases hle with h | h
    · rw [h]
    · exact nleR_length h
  have hkl : k0 < lo.length := (List.getElem?_eq_some_iff.1 ho).1
  have s1 := s.view ho rfl (o' := .vec e i.size rows) rfl (fun v hv ok => vl_vec ok)
  have s2 : SatW bs (ρ ++ [.slice none 0 0]) H (lo.set k0 (.vec e i.size rows) ++ [.tail e2 z2 0]) w :=
    s1.push (g := w.heap.size) (.inr rfl) (s1.fresh (Nat.le_refl _)) (.inr s1.keep.size) (PH.le.refl H) s1.sath (fun b o u hu => .inl ⟨u, hu⟩) (Keep.refl _ _) ⟨[], World.ownsRow_nil w 0 e2 z2, fun b hb => by simp [blkOf] at hb⟩
  have ho2 : (lo.set k0 (.vec e i.size rows) ++ [AObj.tail e2 z2 0])[k0]? = some (.vec e i.size rows) := by
    rw [List.getElem?_append_left (by simpa using hkl)]; simp [hkl]
  have hρ2 : (ρ ++ [Value.slice none 0 0])[k0]? = some v := by
    rw [List.getElem?_append_left (List.getElem?_eq_some_iff.1 hρ).1]; exact hρ
  obtain ⟨v', w', hr, ρ3, H3, hpre, hH, s3, rv⟩ := append_vec (ty := ty) s2 hu hi hz hzs ho2 hρ2 rx hall (by rw [hlen]; exact hb) (by rw [hlen]; exact h63)
  have hset : (lo.set k0 (.vec e i.size rows) ++ [AObj.tail e2 z2 0]).set k0 .dead = lo.set k0 .dead ++ [.tail e2 z2 0] := by
    rw [List.set_append_left _ _ (by simpa using hkl), List.set_set]
  rw [hset] at s3 rv
  have hρt : ρ3[(lo.set k0 AObj.dead).length]? = some (.slice none 0 0) := by
    obtain ⟨l, rfl⟩ := hpre
    rw [List.length_set, ← s.hlen]
    simp
  have s4 := s3.view (k := (lo.set k0 AObj.dead ++ [AObj.tail e2 z2 0]).length) (o := .vec e i.size (rows ++ news)) (o' := .vl e i.size rows' j (lo.set k0 AObj.dead).length) (by simp) rfl rfl (fun u hu ok => by
    obtain ⟨xs, h1, h2, h3, h4⟩ := ok
    refine ⟨xs, by rw [← hlen]; exact h1, h2.le hle, h3, h4, fun c hc => ?_⟩
    rw [hρt]
    subst hnew
    have hlast : (rows ++ [r])[rows'.length - 1]? = some r := by
      rw [← hlen]; simp
    obtain ⟨a, ra, ha⟩ := h2.get hlast
    obtain ⟨q, hq, rq⟩ := ra.get hrj
    have := ha j q hq
    rw [hc] at this
    cases this
    simp only [RepP] at rq
    rw [rq])
  have hset2 : (lo.set k0 AObj.dead ++ [AObj.tail e2 z2 0] ++ [AObj.vec e i.size (rows ++ news)]).set (lo.set k0 AObj.dead ++ [AObj.tail e2 z2 0]).length (.vl e i.size rows' j (lo.set k0 AObj.dead).length) = lo.set k0 .dead ++ [.tail e2 z2 0] ++ [.vl e i.size rows' j (lo.set k0 .dead).length] := by
    rw [List.set_append_right _ _ (Nat.le_refl _), Nat.sub_self]; rfl
  rw [hset2] at s4
  obtain ⟨l, hl⟩ := hpre
  rw [hlen] at rv
  exact ⟨v', w', hr, ρ3, H3, ⟨[.slice none 0 0] ++ l, by rw [← hl]; simp⟩, hH, s4, rv⟩

theorem kEff_sound {o : Oper} {E : Env} {lo : List AObj} {R : FV → List AObj → Prop} (h : kEff P o.op E lo R) : ∃ fv lo', R fv lo' ∧ EffRel (mildO o.op) lo lo' ∧ StepSem P o (lookD E) lo none fv lo' := by
  obtain ⟨dst, op, ty, pos, after, guard⟩ := o
  simp only at h
  unfold kEff at h
  split at h
  · -- box
    rename_i t x
    have h0 := evS_spec h; clear h; obtain ⟨x', h, hx'⟩ := h0
    have h0 := cellsK_spec h; clear h; obtain ⟨cs, h, hcs⟩ := h0
    split at h
    · rename_i h1
      have h := lenK_spec h
      have h := snocK_spec h
      refine ⟨_, _, h, EffRel.push _, fun hg Lw bs ρ H w eval s hx => ?_⟩
      have rc := hcs ρ H _ (hx' ρ H _ hg (hx x (by simp [Op.operands])))
      simp only [execOp, Instr.box, Sem.run_bind, run_newVar, Result.andThen_ok, Sem.run_pure]
      refine ⟨_, H, List.prefix_append _ _, PH.le.refl H, s.pushBox (t := t) rc, ?_⟩
      exact ⟨w.heap.size, by simp [← s.hlen], rfl⟩
    · exact h.elim
  · -- alloc
    rename_i t
    obtain ⟨i, z, ps, hi, hz, h, hps⟩ := zeroK_spec h
    have h := mapP_spec h
    split at h
    · rename_i h1
      have h := lenK_spec h
      have h := snocK_spec h
      refine ⟨_, _, h, EffRel.push _, fun hg Lw bs ρ H w eval s hx => ?_⟩
      simp only [execOp, Instr.alloc, Sem.run_bind, zeroValue, typeInfo, run_program, hi, hz, run_newVar, Result.andThen_ok, Sem.run_pure]
      refine ⟨_, H, List.prefix_append _ _, PH.le.refl H, s.pushBox (t := t) (RepFL.of_RepL (hps H)), ?_⟩
      exact ⟨w.heap.size, by simp [← s.hlen], rfl⟩
    · exact h.elim
  · -- store
    rename_i t a x
    have h0 := evS_spec h; clear h; obtain ⟨a', h, ha'⟩ := h0
    have h0 := evS_spec h; clear h; obtain ⟨x', h, hx'⟩ := h0
    split at h
    · rename_i k off
      have h0 := cellsK_spec h; clear h; obtain ⟨cs, h, hcs⟩ := h0
      split at h
      · rename_i h1
        have h := lenK_spec h
        obtain ⟨d, i, hd, hi, h⟩ := typeK_spec h
        split at h
        · rename_i hn
          have hn := beq_of hn
          have h0 := nthK_spec h; clear h; obtain ⟨ob, hob, h⟩ := h0
          split at h
          · rename_i bt cells
            obtain ⟨h, hlen⟩ := overK_spec h
            obtain ⟨h, hk⟩ := setK_spec h
            refine ⟨_, _, h, EffRel.set _ _, fun hg Lw bs ρ H w eval s hx => ?_⟩
            obtain ⟨b, hb, e⟩ := ha' ρ H _ hg (hx a (by simp [Op.operands]))
            have rc := hcs ρ H _ (hx' ρ H _ hg (hx x (by simp [Op.operands])))
            obtain ⟨b', vs, e', hg', rcells, hH⟩ := s.objs k _ _ hob hb
            cases e'
            have hsz : (eval x).cells.size = cs.length := by have := rc.length; simpa using this
            have hr := run_storeVar (P := P) (w := w) (t := t) (bt := bt) hi hg' (x := eval x) (off := off) (by omega) (by rw [rcells.length]; omega) (allOne_spec h1 rc)
            simp only [execOp, e, Sem.run_bind, hr, Result.andThen_ok, Sem.run_pure]
            refine ⟨ρ, H, List.prefix_refl _, PH.le.refl H, s.setBox hob hb hg' hH ?_, by simp [RepF, RepP, RepL, undef]⟩
            rw [hsz]
            exact ((rcells.take off).append rc).append (rcells.drop _)
          · exact h.elim
        · exact h.elim
      · exact h.elim
    · rename_i k z i off
      have h0 := kStoreE_sound h; clear h; obtain ⟨fv, lo', h, hl, hs⟩ := h0
      refine ⟨fv, lo', h, EffRel.len hl, fun hg Lw bs ρ H w eval s hx => ?_⟩
      obtain ⟨w', hr, af⟩ := hs bs ρ H w _ _ s (ha' ρ H _ hg (hx a (by simp [Op.operands]))) (hx' ρ H _ hg (hx x (by simp [Op.operands])))
      simp only [execOp, Sem.run_bind, hr, Result.andThen_ok, Sem.run_pure]
      exact af
    · exact h.elim
  · -- append
    rename_i sx xx t t'
    split at h
    · rename_i htt
      have htt := beq_of htt
      subst htt
      have h0 := evS_spec h; clear h; obtain ⟨s', h, hs'⟩ := h0
      have h0 := evS_spec h; clear h; obtain ⟨x', h, hx'⟩ := h0
      have h0 := rowsOf_spec h; clear h; obtain ⟨news, h, hnews⟩ := h0
      split at h
      · rename_i k0 n0
        unfold kAppendV at h
        have h0 := elemK_spec h; clear h; obtain ⟨e, i, hu, hi, h⟩ := h0
        split at h
        · exact h.elim
        · split at h
          · rename_i i' hi'
            have : i' = i := Option.some.inj (hi'.symm.trans hi)
            subst this
            split at h
            · rename_i zv hzv
              split at h
              · rename_i hzs
                have hzs := beq_of hzs
                have h0 := nthK_spec h; clear h; obtain ⟨ob, hob, h⟩ := h0
                split at h
                · rename_i e' z' rows
                  obtain ⟨rows', ⟨rfl, he, hz, hall, hb, h63⟩, h⟩ := h
                  subst he; subst hz
                  obtain ⟨h, hk0⟩ := setK_spec h
                  have h := lenK_spec h
                  have h := snocK_spec h
                  refine ⟨_, _, h, EffRel.kill _ hob rfl, fun hg Lw bs ρ H w eval s hx => ?_⟩
                  obtain ⟨hρ, _⟩ := hs' ρ H _ hg (hx sx (by simp [Op.operands, Call.operands]))
                  have rx := hnews ρ H _ (hx' ρ H _ hg (hx xx (by simp [Op.operands, Call.operands])))
                  obtain ⟨v', w', hr, af⟩ := append_vec (ty := ty) s hu hi hzv hzs hob hρ rx hall hb h63
                  simp only [execOp, resolve, invoke, builtin, Sem.run_bind, Sem.run_pure, Result.andThen_ok, List.map_toArray, List.map_cons, List.map_nil, hr]
                  rw [Nat.zero_add]
                  exact af
                · rename_i e' z' rows j kt0
                  obtain ⟨rows', r, e2, z2, ⟨hle, ⟨hnew, hrj⟩, rfl, rfl, hall, hb, h63⟩, h⟩ := h
                  obtain ⟨h, hk0⟩ := setK_spec h
                  have h := lenK_spec h
                  have h := snocK_spec h
                  have h := lenK_spec h
                  have h := snocK_spec h
                  refine ⟨_, _, h, EffRel.trans (EffRel.kill _ hob rfl) (EffRel.push _), fun hg Lw bs ρ H w eval s hx => ?_⟩
                  obtain ⟨hρ, _⟩ := hs' ρ H _ hg (hx sx (by simp [Op.operands, Call.operands]))
                  have rx := hnews ρ H _ (hx' ρ H _ hg (hx xx (by simp [Op.operands, Call.operands])))
                  obtain ⟨v', w', hr, af⟩ := append_vl (ty := ty) (e2 := e2) (z2 := z2) s hu hi hzv hzs hob hρ rx hall hle hnew hrj hb h63
                  simp only [execOp, resolve, invoke, builtin, Sem.run_bind, Sem.run_pure, Result.andThen_ok, List.map_toArray, List.map_cons, List.map_nil, hr]
                  simp only [Nat.zero_add]
                  exact af
                · exact h.elim
              · exact h.elim
            · exact h.elim
          · exact h.elim
      have h0 := elemK_spec h; clear h; obtain ⟨e, i, hu, hi, h⟩ := h0
      split at h
      · exact h.elim
      · split at h
        · rename_i i' hi'
          have : i' = i := Option.some.inj (hi'.symm.trans hi)
          subst this
          split at h
          · rename_i zv hzv
            split at h
            · rename_i hzs
              have hzs := beq_of hzs
              split at h
              · -- a nil slice
                obtain ⟨⟨hall, hb, h63⟩, h⟩ := h
                have h := lenK_spec h
                have h := snocK_spec h
                refine ⟨_, _, h, EffRel.push _, fun hg Lw bs ρ H w eval s hx => ?_⟩
                have es : eval sx = .slice none 0 0 := by
                  have := hs' ρ H _ hg (hx sx (by simp [Op.operands, Call.operands]))
                  simpa [RepF, RepP] using this
                have rx := hnews ρ H _ (hx' ρ H _ hg (hx xx (by simp [Op.operands, Call.operands])))
                have run : ∃ vs : List Value, RepV H i'.size news vs ∧ (∀ u ∈ vs, u.oneCell' = true) ∧
                    ((news.length = 0 ∧ eval xx = .slice none 0 0) ∨ ∃ a c, eval xx = .slice (some a) news.length c ∧ ∀ j u, vs[j]? = some u → w.cell? (a.add j) = some u) := by
                  rcases sl_flat rx hall with ⟨rfl, ex | ⟨a', cap', ex⟩⟩ | ⟨b, o, cap, vs, ex, _, hv, hc⟩
                  · exact ⟨[], rfl, by simp, .inl ⟨rfl, ex⟩⟩
                  · exact ⟨[], rfl, by simp, .inr ⟨a', cap', ex, fun j u hu => by simp at hu⟩⟩
                  · exact ⟨vs, hv, RepV.one s.sath hc, .inr ⟨⟨b, o, none⟩, cap, ex, fun j u hu => by rw [Addr.add_lit]; exact (s.sath.cell _ _ _ (hc j u hu)).1⟩⟩
                obtain ⟨vs, hv, hone, hxx⟩ := run
                obtain ⟨v', w', hr, hown', hk⟩ := append_run (P := P) (w := w) (ty := ty) hu hi hzv hzs (World.ownsRow_nil w 0 e i'.size) hv.length hone hxx (by omega) (by simpa using hb)
                obtain ⟨hle, sat⟩ := append_world s (World.ownsRow_nil w 0 e i'.size) (fun b hb => by simp [blkOf] at hb) (fun g hg => by simp [blkOf] at hg) (fun g hg => by simp [blkOf] at hg) hv.length (by simpa using hone) hown' hk
                simp only [execOp, resolve, invoke, builtin, Sem.run_bind, Sem.run_pure, Result.andThen_ok, List.map_toArray, List.map_cons, List.map_nil, es, hr]
                simp only [Nat.zero_add, List.nil_append] at hown' sat hle
                refine ⟨_, _, List.prefix_append _ _, hle, sat, by simp [← s.hlen], append_rep hv hle hown'⟩
              · -- the call's own
                rename_i k0 rows _
                obtain ⟨⟨hall, hb, h63⟩, h⟩ := h
                have h0 := nthK_spec h; clear h; obtain ⟨ob, hob, h⟩ := h0
                split at h
                · rename_i e' z' n
                  obtain ⟨⟨he, hz, hn⟩, h⟩ := h
                  subst he; subst hz; subst hn
                  obtain ⟨h, hk0⟩ := setK_spec h
                  have h := lenK_spec h
                  have h := snocK_spec h
                  refine ⟨_, _, h, EffRel.kill _ hob rfl, fun hg Lw bs ρ H w eval s hx => ?_⟩
                  have rs := hs' ρ H _ hg (hx sx (by simp [Op.operands, Call.operands]))
                  obtain ⟨hrho, rsl⟩ := rs
                  have rx := hnews ρ H _ (hx' ρ H _ hg (hx xx (by simp [Op.operands, Call.operands])))
                  obtain ⟨xs, hown, hxs⟩ := s.objs k0 _ _ hob hrho
                  have run : ∃ vs : List Value, RepV H i'.size news vs ∧ (∀ u ∈ vs, u.oneCell' = true) ∧
                      ((news.length = 0 ∧ eval xx = .slice none 0 0) ∨ ∃ a c, eval xx = .slice (some a) news.length c ∧ ∀ j u, vs[j]? = some u → w.cell? (a.add j) = some u) := by
                    rcases sl_flat rx (fun r hr => hall r (by simp [hr])) with ⟨rfl, ex | ⟨a', cap', ex⟩⟩ | ⟨b, o, cap, vs, ex, _, hv, hc⟩
                    · exact ⟨[], rfl, by simp, .inl ⟨rfl, ex⟩⟩
                    · exact ⟨[], rfl, by simp, .inr ⟨a', cap', ex, fun j u hu => by simp at hu⟩⟩
                    · exact ⟨vs, hv, RepV.one s.sath hc, .inr ⟨⟨b, o, none⟩, cap, ex, fun j u hu => by rw [Addr.add_lit]; exact (s.sath.cell _ _ _ (hc j u hu)).1⟩⟩
                  obtain ⟨vs, hv, hone, hxx⟩ := run
                  have old : RepV H i'.size rows xs ∧ ∀ u ∈ xs, u.oneCell' = true := by
                    rcases sl_flat rsl (fun r hr => hall r (by simp [hr])) with ⟨rfl, ex⟩ | ⟨b, o, cap, us, ex, _, hv', hc⟩
                    · have : xs = [] := List.eq_nil_of_length_eq_zero (by simpa using hown.1)
                      subst this
                      exact ⟨rfl, by simp⟩
                    · have hbk : blkOf (eval sx) = some b := by rw [ex]; rfl
                      have ho : o = 0 := by
                        rcases hown.2 with ⟨e1, _⟩ | ⟨g, cap', cur, e1, _⟩
                        · rw [ex] at e1; cases e1
                        · rw [ex] at e1; injection e1 with e1; injection e1 with e1; injection e1
                      subst ho
                      have : xs = us := by
                        refine List.ext_getElem? fun j => ?_
                        have l1 : xs.length = us.length := by rw [hown.1, hv'.length]
                        rcases Nat.lt_or_ge j xs.length with hj | hj
                        · have h1 := (hxs b hbk).1 j _ (List.getElem?_eq_getElem hj)
                          have h2 := hc j _ (List.getElem?_eq_getElem (show j < us.length by omega))
                          rw [Nat.zero_add] at h2
                          rw [List.getElem?_eq_getElem hj, List.getElem?_eq_getElem (show j < us.length by omega), ← h1, ← h2]
                        · rw [List.getElem?_eq_none hj, List.getElem?_eq_none (by omega)]
                      subst this
                      exact ⟨hv', RepV.one s.sath hc⟩
                  obtain ⟨hvo, honeo⟩ := old
                  obtain ⟨v', w', hr, hown', hk⟩ := append_run (P := P) (w := w) (ty := ty) hu hi hzv hzs hown hv.length hone hxx (by rw [List.length_append] at h63; exact h63) (by rw [List.length_append] at hb; exact hb)
                  have sk := s.kill k0
                  obtain ⟨hle, sat⟩ := append_world sk hown hxs (fun g hg k o' u hk' hu' hl => by
                      rw [List.getElem?_set] at hk'
                      split at hk'
                      · first
                          | (cases hk'; simp [AObj.live] at hl; done)
                          | (split at hk' <;> first | (cases hk'; done) | (cases hk'; simp [AObj.live] at hl))
                      · rename_i hne
                        exact s.excl k0 k _ o' _ u g hob hk' hrho hu' hne rfl hl hg)
                    (fun g hg => s.own k0 _ _ g hob hrho rfl hg) hv.length (fun u hu' => by
                      rcases List.mem_append.1 hu' with h | h
                      · exact honeo u h
                      · exact hone u h) hown' hk
                  simp only [execOp, resolve, invoke, builtin, Sem.run_bind, Sem.run_pure, Result.andThen_ok, List.map_toArray, List.map_cons, List.map_nil, hr]
                  refine ⟨_, _, List.prefix_append _ _, hle, by rw [List.length_append]; exact sat, ?_, append_rep (hvo.append hv) hle (by rw [List.length_append]; exact hown')⟩
                  have : (0 + (lo.set k0 AObj.dead).length) = ρ.length := by simp [s.hlen]
                  rw [this]
                  simp
                · exact h.elim
              · exact h.elim
            · exact h.elim
          · exact h.elim
        · exact h.elim
    · have h0 := evS_spec h; clear h; obtain ⟨s', h, hs'⟩ := h0
      have h0 := evS_spec h; clear h; obtain ⟨x', h, hx'⟩ := h0
      split at h
      case h_2 => exact h.elim
      rename_i str
      split at h
      case h_2 => exact h.elim
      rename_i hut
      have h0 := elemK_spec h; clear h; obtain ⟨e, i, hu, hi, h⟩ := h0
      split at h
      case h_2 => exact h.elim
      rename_i hz1
      have hz1 := beq_of hz1
      split at h
      case h_2 => exact h.elim
      rename_i i' hi'
      have : i' = i := Option.some.inj (hi'.symm.trans hi)
      subst this
      split at h
      case h_2 => exact h.elim
      rename_i hzv
      have hbl : (bRows str).length = str.length := by simp [bRows]
      split at h
      · obtain ⟨⟨hb, h63⟩, h⟩ := h
        have h := lenK_spec h
        have h := snocK_spec h
        refine ⟨_, _, h, EffRel.push _, fun hg Lw bs ρ H w eval s hx => ?_⟩
        have es : eval sx = .slice none 0 0 := by
          have := hs' ρ H _ hg (hx sx (by simp [Op.operands, Call.operands]))
          simpa [RepF, RepP] using this
        have ex := rep_str (hx' ρ H _ hg (hx xx (by simp [Op.operands, Call.operands])))
        obtain ⟨v', w', hr, hown', hk⟩ := append_run_string (P := P) (w := w) (ty := ty) hu hut hi hzv hz1 (World.ownsRow_nil w 0 e 1) str (by omega) (by rw [hbl] at hb; simpa using hb)
        have hv := bRows_V H str
        obtain ⟨hle, sat⟩ := append_world s (World.ownsRow_nil w 0 e 1) (fun b hb => by simp [blkOf] at hb) (fun g hg => by simp [blkOf] at hg) (fun g hg => by simp [blkOf] at hg) (by rw [Lib.strCells_length, size_lit, Nat.mul_one]) (by simpa using Lib.strCells_oneCell _) hown' hk
        simp only [execOp, resolve, invoke, builtin, Sem.run_bind, Sem.run_pure, Result.andThen_ok, List.map_toArray, List.map_cons, List.map_nil, es, ex, hr]
        simp only [Nat.zero_add, List.nil_append] at hown' sat hle
        refine ⟨_, _, List.prefix_append _ _, hle, by rw [hz1, hbl]; exact sat, by simp [← s.hlen], append_rep hv hle (by rw [hbl]; exact hown')⟩
      · rename_i k0 rows
        obtain ⟨⟨hall, hb, h63⟩, h⟩ := h
        have h0 := nthK_spec h; clear h; obtain ⟨ob, hob, h⟩ := h0
        split at h
        case h_2 => exact h.elim
        rename_i e' z' n
        obtain ⟨⟨he, hz, hn⟩, h⟩ := h
        subst he; subst hz; subst hn
        obtain ⟨h, hk0⟩ := setK_spec h
        have h := lenK_spec h
        have h := snocK_spec h
        refine ⟨_, _, h, EffRel.kill _ hob rfl, fun hg Lw bs ρ H w eval s hx => ?_⟩
        have rs := hs' ρ H _ hg (hx sx (by simp [Op.operands, Call.operands]))
        obtain ⟨hrho, rsl⟩ := rs
        have ex := rep_str (hx' ρ H _ hg (hx xx (by simp [Op.operands, Call.operands])))
        obtain ⟨xs, hown, hxs⟩ := s.objs k0 _ _ hob hrho
        have old : RepV H 1 rows xs ∧ ∀ u ∈ xs, u.oneCell' = true := by
          rcases sl_flat rsl hall with ⟨rfl, ex⟩ | ⟨b, o, cap, us, ex, _, hv', hc⟩
          · have : xs = [] := List.eq_nil_of_length_eq_zero (by simpa using hown.1)
            subst this
            exact ⟨rfl, by simp⟩
          · have hbk : blkOf (eval sx) = some b := by rw [ex]; rfl
            have ho : o = 0 := by
              rcases hown.2 with ⟨e1, _⟩ | ⟨g, cap', cur, e1, _⟩
              · rw [ex] at e1; cases e1
              · rw [ex] at e1; injection e1 with e1; injection e1 with e1; injection e1
            subst ho
            have : xs = us := by
              refine List.ext_getElem? fun j => ?_
              have l1 : xs.length = us.length := by rw [hown.1, hv'.length]
              rcases Nat.lt_or_ge j xs.length with hj | hj
              · have h1 := (hxs b hbk).1 j _ (List.getElem?_eq_getElem hj)
                have h2 := hc j _ (List.getElem?_eq_getElem (show j < us.length by omega))
                rw [Nat.zero_add] at h2
                rw [List.getElem?_eq_getElem hj, List.getElem?_eq_getElem (show j < us.length by omega), ← h1, ← h2]
              · rw [List.getElem?_eq_none hj, List.getElem?_eq_none (by omega)]
            subst this
            exact ⟨hv', RepV.one s.sath hc⟩
        obtain ⟨hvo, honeo⟩ := old
        rw [List.length_append, hbl] at hb h63
        obtain ⟨v', w', hr, hown', hk⟩ := append_run_string (P := P) (w := w) (ty := ty) hu hut hi hzv hz1 hown str h63 hb
        have hv := bRows_V H str
        have sk := s.kill k0
        obtain ⟨hle, sat⟩ := append_world sk hown hxs (fun g hg k o' u hk' hu' hl => by
            rw [List.getElem?_set] at hk'
            split at hk'
            · first
                | (cases hk'; simp [AObj.live] at hl; done)
                | (split at hk' <;> first | (cases hk'; done) | (cases hk'; simp [AObj.live] at hl))
            · rename_i hne
              exact s.excl k0 k _ o' _ u g hob hk' hrho hu' hne rfl hl hg)
          (fun g hg => s.own k0 _ _ g hob hrho rfl hg) (by rw [Lib.strCells_length, size_lit, Nat.mul_one]) (fun u hu' => by
            rcases List.mem_append.1 hu' with h | h
            · exact honeo u h
            · exact Lib.strCells_oneCell _ u h) hown' hk
        simp only [execOp, resolve, invoke, builtin, Sem.run_bind, Sem.run_pure, Result.andThen_ok, List.map_toArray, List.map_cons, List.map_nil, ex, hr]
        refine ⟨_, _, List.prefix_append _ _, hle, by rw [hz1, List.length_append, hbl]; exact sat, ?_, append_rep (hvo.append hv) hle (by rw [List.length_append, hbl]; exact hown')⟩
        have : (0 + (lo.set k0 AObj.dead).length) = ρ.length := by simp [s.hlen]
        rw [this]
        simp
      · exact h.elim
  · exact kEff2_sound (o := ⟨dst, _, ty, pos, after, guard⟩) h
end
end Ax
end
section
namespace Ax
open Go
variable {Lw : Nat}

section
variable {P : Program} {w : World}

/-- A slice whose elements were written stays as it is. -/
theorem SatW.publishN {bs : (Base Lw)} {ρ : List Value} {H : (PH Lw)} {lo : List AObj} {w : World} (s : SatW bs ρ H lo w) {k : Nat} {e : TypeId} {z : Nat} {rows : List (List PV)} {v : Value} (ho : lo[k]? = some (.vec e z rows)) (hv : ρ[k]? = some v) :
    ∃ H', PH.le H H' ∧ SatW bs ρ H' (lo.set k .dead) w ∧ RepP H' (.sl rows) v ∧ ∀ b o, H b o = none → H' b o = none ∨ blkOf v = some b := by
  obtain ⟨xs, hown, hr, h1, hh⟩ := s.objs k _ _ ho hv
  rcases hown.2 with ⟨rfl, h0⟩ | ⟨g, cap, cur, hev, _, hg, hnc, _⟩
  · have : rows = [] := List.eq_nil_of_length_eq_zero h0
    subst this
    exact ⟨H, PH.le.refl H, s.kill k, by simp [RepP], fun _ _ h => .inl h⟩
  · have hb : blkOf v = some g := by rw [hev]; rfl
    have hle : PH.le H (grownH H v xs) := by
      intro b o u hu
      unfold grownH
      split
      · rename_i hc
        rw [hb] at hc
        obtain ⟨e1, _⟩ := hc
        cases e1
        rw [hh g hb o] at hu
        cases hu
      · exact hu
    have sk := s.kill k
    refine ⟨grownH H v xs, hle, ?_, append_rep hr hle hown, fun b o h => ?_⟩
    rotate_left
    · unfold grownH
      split
      · rename_i hc; exact .inr hc.1
      · exact .inl h
    refine { sath := ⟨fun b o u hu => ?_, s.sath.root.mono hle, s.sath.low, fun b o u hu hL => by
      by_cases hbv : blkOf v = some b
      · exact .own hown hbv
      · unfold grownH at hu
        rw [if_neg (fun hc => hbv hc.1)] at hu
        exact s.sath.nf b o u hu hL⟩, hlen := sk.hlen, pre := sk.pre, objs := fun i oi vi hi hvi => ?_, excl := sk.excl, own := sk.own, keep := sk.keep, leH := sk.leH.trans hle, newH := fun b o u hu => ?_ }
    · unfold grownH at hu
      split at hu
      · rename_i hc
        rw [hb] at hc
        obtain ⟨e1, _⟩ := hc
        cases e1
        have := hown.cells (g := g) (by rw [hev]; rfl) o u hu
        rw [Addr.add_lit, Nat.zero_add] at this
        exact ⟨this, h1 u (List.mem_of_getElem? hu)⟩
      · exact s.sath.cell b o u hu
    · rw [List.getElem?_set] at hi
      split at hi
      · split at hi
        · cases hi; trivial
        · cases hi
      · rename_i hne
        cases hl : oi.live with
        | false => cases oi <;> simp [AObj.live] at hl; trivial
        | true =>
          refine (s.objs i oi vi hi hvi).keep (List.prefix_refl _) hle (fun _ _ _ => rfl) (fun b o' hb' _ hn => ?_)
          unfold grownH
          rw [if_neg (fun hc => s.excl k i _ oi _ vi b ho hi hv hvi hne rfl hl hc.1 hb')]
          exact hn
    · unfold grownH at hu
      split at hu
      · rename_i hc
        exact .inr (s.own k _ v b ho hv rfl hc.1)
      · exact s.newH b o u hu

theorem SatW.publish {bs : (Base Lw)} {ρ : List Value} {H : (PH Lw)} {lo : List AObj} {w : World} (s : SatW bs ρ H lo w) {k : Nat} {e : TypeId} {z : Nat} {rows : List (List PV)} {v : Value} (ho : lo[k]? = some (.vec e z rows)) (hv : ρ[k]? = some v) :
    ∃ H', PH.le H H' ∧ SatW bs ρ H' (lo.set k .dead) w ∧ RepP H' (.sl rows) v :=
  let ⟨H', a, b, c, _⟩ := s.publishN ho hv
  ⟨H', a, b, c⟩

/-- 'make([]T, l, c)': a slice that grows (l = 0), one whose elements are written (l = c), a box of one cell (l = c = 1). -/
def kMakeS (P : Program) (own grow : Bool) (lo : List AObj) (t : TypeId) (l c : FV) (R : FV → List AObj → Prop) : Prop :=
  match l with
  | .p (.int _ l) => match c with
    | .p (.int _ c) => elemK P t fun e z => match P.info? e with
      | some i => zeroK P e fun zs => match own with
        | false => match grow with
          | false => ∃ n : Nat, (l = 0 ∧ c = n ∧ n * i.bytes ≤ 140737488355328 ∧ n ≤ 9223372036854775807) ∧ lenK lo 0 fun k => snocK lo (.tail e z 0) fun lo => R (.tsl k []) lo
          | true => ∃ (n : Nat) (rows : List (List PV)), (l = n ∧ c = n ∧ n * i.bytes ≤ 140737488355328 ∧ n ≤ 9223372036854775807 ∧ (List.replicate n zs = rows ∨ nleR (List.replicate n zs) rows) ∧ zs.length = z ∧ z ≠ 0 ∧ zs.all oneP = true) ∧
              snocK lo .dead fun lo => R (.p (.sl rows)) lo
        | true => match grow with
          | false => ∃ (n : Nat) (rows : List (List PV)), (l = n ∧ c = n ∧ n * i.bytes ≤ 140737488355328 ∧ n ≤ 9223372036854775807 ∧ (List.replicate n zs = rows ∨ nleR (List.replicate n zs) rows) ∧ zs.length = z ∧ z ≠ 0 ∧ zs.all oneP = true) ∧
              lenK lo 0 fun k => snocK lo (.vec e z rows) fun lo => R (.vsl k rows.length) lo
          | true => (l = 1 ∧ c = 1 ∧ i.bytes ≤ 140737488355328 ∧ zs.length = z ∧ z ≠ 0) ∧ mapP zs fun cs => match allOne cs with
            | true => lenK lo 0 fun k => snocK lo (.box e cs) fun lo => R (.bsl k 0 1 1) lo
            | false => False
      | none => False
    | _ => False
  | _ => False

theorem made_succ (z : Array Value) (n : Nat) (hz : z.size ≠ 0) : (madeCells z ((n + 1) * z.size)).toList = z.toList ++ (madeCells z (n * z.size)).toList := by
  unfold madeCells
  simp only [Array.toList_map, Array.toList_range]
  rw [Nat.add_mul, Nat.one_mul, Nat.add_comm (n * z.size), List.range_add, List.map_append, List.map_map]
  congr 1
  · refine List.ext_getElem? fun j => ?_
    simp only [List.getElem?_map, List.getElem?_range]
    by_cases hj : j < z.size
    · simp [List.getElem?_range hj, hj, Nat.mod_eq_of_lt hj]
    · have h2 : z.toList[j]? = none := by simp; omega
      rw [h2]
      simp; omega
  · refine List.map_congr_left fun j _ => ?_
    simp [Nat.add_mod_left]

theorem made_rows {H : (PH Lw)} {zs : List PV} {zv : Value} (hr : RepL H zs zv.cells.toList) (hne : zs.length ≠ 0) : ∀ n : Nat, RepV H zs.length (List.replicate n zs) (madeCells zv.cells (n * zv.cells.size)).toList
  | 0 => by simp [RepV, madeCells]
  | n + 1 => by
    have hl := hr.length
    have hz : zv.cells.size ≠ 0 := by simp at hl; omega
    rw [made_succ _ _ hz, List.replicate_succ]
    exact ⟨rfl, _, _, rfl, hr, made_rows hr hne n⟩

theorem kMakeS_spec {own grow : Bool} {lo : List AObj} {t : TypeId} {l c : FV} {R : FV → List AObj → Prop} (h : kMakeS P own grow lo t l c R) :
    ∃ fv lo', R fv lo' ∧ EffRel true lo lo' ∧ ∀ ⦃Lw : Nat⦄ (bs : (Base Lw)) (ρ : List Value) (H : (PH Lw)) (w : World) (vl vc : Value), SatW bs ρ H lo w → RepF ρ H l vl → RepF ρ H c vc →
      ∃ v w', (Instr.makeSlice t vl vc).run P w = .ok v w' ∧ After bs ρ H fv lo' v w' := by
  unfold kMakeS at h
  split at h
  case h_2 => exact h.elim
  rename_i kl l
  split at h
  case h_2 => exact h.elim
  rename_i kc c
  have h0 := elemK_spec h; clear h; obtain ⟨e, i, hu, hi, h⟩ := h0
  rw [hi] at h
  have h0 := zeroK_spec h; clear h; obtain ⟨i', zv, zs, hi', hz, h, hzs⟩ := h0
  obtain rfl : i' = i := Option.some.inj (hi'.symm.trans hi)
  split at h
  · split at h
    · have h0 := h; clear h; obtain ⟨n, ⟨rfl, rfl, hb, h63⟩, h⟩ := h0
      have h := lenK_spec h
      have h := snocK_spec h
      refine ⟨_, _, h, EffRel.push _, fun Lw bs ρ H w vl vc s rl rc => ?_⟩
      rw [rep_int rl, rep_int rc]
      obtain ⟨w', hr, hown, hg⟩ := run_make_own (P := P) w 0 t e i' zv i'.size hu hi hz rfl kl kc n (by rw [Nat.mul_comm]; omega) h63 (Nat.zero_le _)
      have hr2 := run_make (P := P) w t e i' zv hu hi hz kl kc 0 n (Int.le_refl _) (by omega) (by
        have : ((i'.bytes * n : Nat) : Int) ≤ 281474976710656 := by rw [Nat.mul_comm]; omega
        rwa [Int.natCast_mul] at this) (by omega)
      simp only [Int.toNat_zero, Int.toNat_natCast] at hr2
      have hw : w' = w.alloc (.cells (madeCells zv.cells (n * i'.size)) e) := by
        rw [hr] at hr2
        injection hr2
      subst hw
      refine ⟨_, _, hr, ρ ++ [.slice (some ⟨w.heap.size, 0, none⟩) 0 n], H, List.prefix_append _ _, PH.le.refl H, ?_, ?_⟩
      · refine s.push (g := w.heap.size) (.inl rfl) (s.fresh (Nat.le_refl _)) (.inr s.keep.size) (PH.le.refl H) (satH_alloc s.sath _) (fun b o v h => .inl ⟨v, h⟩) (keep_alloc w _ _) ?_
        refine ⟨[], hown, fun b hb => ⟨fun j u hu => by simp at hu, fun o _ => ?_⟩⟩
        simp only [blkOf, Option.some.injEq] at hb
        subst hb
        cases hx : H w.heap.size o with
        | none => rfl
        | some x => exact absurd (s.sath.lt hx) (Nat.lt_irrefl _)
      · refine ⟨by simp [← s.hlen], ?_⟩
        simp only [RepP]
        exact .inl ⟨trivial, .inr ⟨_, _, rfl⟩⟩
    · have h0 := h; clear h; obtain ⟨n, rows, ⟨rfl, rfl, hb, h63, hle, hzl, hz0, hone⟩, h⟩ := h0
      have h := snocK_spec h
      refine ⟨_, _, h, EffRel.push _, fun Lw bs ρ H w vl vc s rl rc => ?_⟩
      rw [rep_int rl, rep_int rc]
      have hsz : zv.cells.size = i'.size := by have := (hzs H).length; simp at this; omega
      obtain ⟨w', hr, hown, hg⟩ := run_make_full (P := P) w 0 t e i' zv i'.size hu hi hz rfl kl kc n (by rw [Nat.mul_comm]; omega) h63 (Nat.zero_le _)
      have hr2 := run_make (P := P) w t e i' zv hu hi hz kl kc n n (by omega) (Int.le_refl _) (by
        have : ((i'.bytes * n : Nat) : Int) ≤ 281474976710656 := by rw [Nat.mul_comm]; omega
        rwa [Int.natCast_mul] at this) (by omega)
      simp only [Int.toNat_natCast] at hr2
      have hw : w' = w.alloc (.cells (madeCells zv.cells (n * i'.size)) e) := by
        rw [hr] at hr2
        injection hr2
      subst hw
      have hlen : rows.length = n := by
        rcases hle with rfl | hle
        · simp
        · have := nleR_length hle; simpa using this.symm
      have hrv0 := made_rows (hzs H) (by omega) n
      have hrv : RepV H i'.size rows (madeCells zv.cells (n * i'.size)).toList := by
        rw [hsz, hzl] at hrv0
        exact RepV.le hle hrv0
      have h1 : ∀ u ∈ (madeCells zv.cells (n * i'.size)).toList, u.oneCell' = true := by
        intro u hu'
        unfold madeCells at hu'
        simp only [Array.toList_map, List.mem_map] at hu'
        obtain ⟨j, _, rfl⟩ := hu'
        have hj : j % zv.cells.size < zv.cells.size := Nat.mod_lt _ (by omega)
        have hm : zv.cells[j % zv.cells.size]! ∈ zv.cells.toList := by
          rw [getElem!_pos zv.cells _ hj]
          simp
        exact RepL.one (fun c hc => (List.all_eq_true.1 hone) c hc) (hzs H) _ hm
      have sp : SatW bs (ρ ++ [.slice (some ⟨w.heap.size, 0, none⟩) n n]) H (lo ++ [.vec e i'.size rows]) (w.alloc (.cells (madeCells zv.cells (n * i'.size)) e)) := by
        refine s.push (g := w.heap.size) (.inl rfl) (s.fresh (Nat.le_refl _)) (.inr s.keep.size) (PH.le.refl H) (satH_alloc s.sath _) (fun b o v h => .inl ⟨v, h⟩) (keep_alloc w _ _) ?_
        refine ⟨_, by rw [hlen]; exact hown, hrv, h1, fun b hb o => ?_⟩
        simp only [blkOf, Option.some.injEq] at hb
        subst hb
        cases hx : H w.heap.size o with
        | none => rfl
        | some x => exact absurd (s.sath.lt hx) (Nat.lt_irrefl _)
      obtain ⟨H', hle', sp', rp⟩ := sp.publish (k := lo.length) (e := e) (z := i'.size) (rows := rows) (v := .slice (some ⟨w.heap.size, 0, none⟩) n n) (by simp) (by simp [← s.hlen])
      have hset : (lo ++ [AObj.vec e i'.size rows]).set lo.length .dead = lo ++ [.dead] := by simp
      rw [hset] at sp'
      exact ⟨_, _, hr, _, H', List.prefix_append _ _, hle', sp', rp⟩
  · split at h
    · have h0 := h; clear h; obtain ⟨n, rows, ⟨rfl, rfl, hb, h63, hle, hzl, hz0, hone⟩, h⟩ := h0
      have h := lenK_spec h
      have h := snocK_spec h
      refine ⟨_, _, h, EffRel.push _, fun Lw bs ρ H w vl vc s rl rc => ?_⟩
      rw [rep_int rl, rep_int rc]
      have hsz : zv.cells.size = i'.size := by have := (hzs H).length; simp at this; omega
      obtain ⟨w', hr, hown, hg⟩ := run_make_full (P := P) w 0 t e i' zv i'.size hu hi hz rfl kl kc n (by rw [Nat.mul_comm]; omega) h63 (Nat.zero_le _)
      have hr2 := run_make (P := P) w t e i' zv hu hi hz kl kc n n (by omega) (Int.le_refl _) (by
        have : ((i'.bytes * n : Nat) : Int) ≤ 281474976710656 := by rw [Nat.mul_comm]; omega
        rwa [Int.natCast_mul] at this) (by omega)
      simp only [Int.toNat_natCast] at hr2
      have hw : w' = w.alloc (.cells (madeCells zv.cells (n * i'.size)) e) := by
        rw [hr] at hr2
        injection hr2
      subst hw
      have hlen : rows.length = n := by
        rcases hle with rfl | hle
        · simp
        · have := nleR_length hle; simpa using this.symm
      have hrv0 := made_rows (hzs H) (by omega) n
      have hrv : RepV H i'.size rows (madeCells zv.cells (n * i'.size)).toList := by
        rw [hsz, hzl] at hrv0
        exact RepV.le hle hrv0
      have h1 : ∀ u ∈ (madeCells zv.cells (n * i'.size)).toList, u.oneCell' = true := by
        intro u hu'
        unfold madeCells at hu'
        simp only [Array.toList_map, List.mem_map] at hu'
        obtain ⟨j, _, rfl⟩ := hu'
        have hj : j % zv.cells.size < zv.cells.size := Nat.mod_lt _ (by omega)
        have hm : zv.cells[j % zv.cells.size]! ∈ zv.cells.toList := by
          rw [getElem!_pos zv.cells _ hj]
          simp
        exact RepL.one (fun c hc => (List.all_eq_true.1 hone) c hc) (hzs H) _ hm
      refine ⟨_, _, hr, ρ ++ [.slice (some ⟨w.heap.size, 0, none⟩) n n], H, List.prefix_append _ _, PH.le.refl H, ?_, ?_⟩
      · refine s.push (g := w.heap.size) (.inl rfl) (s.fresh (Nat.le_refl _)) (.inr s.keep.size) (PH.le.refl H) (satH_alloc s.sath _) (fun b o v h => .inl ⟨v, h⟩) (keep_alloc w _ _) ?_
        refine ⟨_, by rw [hlen]; exact hown, hrv, h1, fun b hb o => ?_⟩
        simp only [blkOf, Option.some.injEq] at hb
        subst hb
        cases hx : H w.heap.size o with
        | none => rfl
        | some x => exact absurd (s.sath.lt hx) (Nat.lt_irrefl _)
      · exact ⟨by simp [← s.hlen], .inr ⟨w.heap.size, n, by rw [hlen]⟩⟩
    · have h0 := h; clear h; obtain ⟨⟨rfl, rfl, hb, hzl, hz0⟩, h⟩ := h0
      have h0 := mapP_spec h; clear h; have h := h0; clear h0
      split at h
      · rename_i h1
        have h := lenK_spec h
        have h := snocK_spec h
        refine ⟨_, _, h, EffRel.push _, fun Lw bs ρ H w vl vc s rl rc => ?_⟩
        rw [rep_int rl, rep_int rc]
        have hsz : zv.cells.size = i'.size := by have := (hzs H).length; simp at this; omega
        have hr2 := run_make (P := P) w t e i' zv hu hi hz kl kc 1 1 (by omega) (Int.le_refl _) (by omega) (by omega)
        have hm : madeCells zv.cells (1 * i'.size) = zv.cells.toList.toArray := by
          have h0 := made_succ zv.cells 0 (by omega)
          rw [Nat.zero_add, hsz] at h0
          have h3 : (madeCells zv.cells (0 * i'.size)).toList = [] := by simp [madeCells]
          rw [h3, List.append_nil] at h0
          rw [← h0]
        simp only [Int.toNat_one] at hr2
        rw [hm] at hr2
        refine ⟨_, _, hr2, _, H, List.prefix_append _ _, PH.le.refl H, s.pushBox (t := e) (RepFL.of_RepL (hzs H)), ?_⟩
        exact ⟨w.heap.size, by simp [← s.hlen], 1, rfl, .inr rfl⟩
      · exact h.elim

/-- 'copy' into a slice whose elements are written, of as many elements. -/
def kCopyV (P : Program) (lo : List AObj) (t : TypeId) (d x : FV) (R : FV → List AObj → Prop) : Prop :=
  match d with
  | .vsl k _ => rowsOf x fun src => nthK k lo fun o => match o with
    | .vec e z rows => elemK P t fun _ z' => (z' = z ∧ src.length = rows.length ∧ (∀ r ∈ src, r.length = z)) ∧ setK k (.vec e z src) lo fun lo => R (.p (.int .i64 src.length)) lo
    | _ => False
  | _ => False

theorem kCopyV_spec {lo : List AObj} {t : TypeId} {d x : FV} {R : FV → List AObj → Prop} (h : kCopyV P lo t d x R) :
    ∃ fv lo', R fv lo' ∧ EffRel false lo lo' ∧ ∀ ⦃Lw : Nat⦄ (bs : (Base Lw)) (ρ : List Value) (H : (PH Lw)) (w : World) (t' ty : TypeId) (vd vx : Value), SatW bs ρ H lo w → RepF ρ H d vd → RepF ρ H x vx →
      ∃ v w', (Builtin.copy_ #[t, t'] ty #[vd, vx]).run P w = .ok v w' ∧ After bs ρ H fv lo' v w' := by
  unfold kCopyV at h
  split at h
  case h_2 => exact h.elim
  rename_i k n
  have h0 := rowsOf_spec h; clear h; obtain ⟨src, h, hsrc⟩ := h0
  have h0 := nthK_spec h; clear h; obtain ⟨o, ho, h⟩ := h0
  split at h
  case h_2 => exact h.elim
  rename_i e z rows
  have h0 := elemK_spec h; clear h; obtain ⟨e', i, hu, hi, ⟨rfl, hlen, hw⟩, h⟩ := h0
  have h0 := setK_spec h; clear h; obtain ⟨h, _⟩ := h0
  refine ⟨_, _, h, EffRel.set _ _, fun Lw bs ρ H w t' ty vd vx s rd rx => ?_⟩
  obtain ⟨hρ, _⟩ := rd
  have rs := hsrc ρ H vx rx
  obtain ⟨xs, hown, hr, h1, hh⟩ := s.objs k _ _ ho hρ
  have ffirst : src = [] → ∃ c : Array Value, (Builtin.firstCells i.size 0 vx).run P w = .ok #[] w ∧ (Builtin.lenOf vx).run P w = .ok 0 w := by
    intro e0
    subst e0
    simp only [RepP] at rs
    have l0 : ∀ a : Addr, (loadCells a 0).run P w = .ok #[] w := fun a => by simpa using run_loadCells_list (P := P) w a [] (by simp)
    rcases rs with ⟨_, rfl | ⟨a, cap, rfl⟩⟩ | ⟨b, o', z', cap, rfl, _⟩
    · exact ⟨#[], by simp [Builtin.firstCells], by simp [Builtin.lenOf]⟩
    · exact ⟨#[], by simp [Builtin.firstCells, l0], by simp [Builtin.lenOf]⟩
    · exact ⟨#[], by simp [Builtin.firstCells, l0], by simp [Builtin.lenOf]⟩
  rcases hown.2 with ⟨rfl, h0⟩ | ⟨g, cap, cur, rfl, _, hg, hnc, hm, hs, ht⟩
  · have hr0 : rows = [] := List.eq_nil_of_length_eq_zero h0
    subst hr0
    have hs0 : src = [] := List.eq_nil_of_length_eq_zero (by simpa using hlen)
    obtain ⟨_, hf, hl⟩ := ffirst hs0
    subst hs0
    refine ⟨goInt 0, w, ?_, ρ, H, List.prefix_refl _, PH.le.refl H, ?_, by simp [RepF, RepP, goInt]⟩
    · simp [Builtin.copy_, run_underlying hu, hl, Go.sizeOf, typeInfo, hi, hf]
    · exact s.view ho rfl rfl fun v hv ok => ok
  · have hb : blkOf (Value.slice (some ⟨g, 0, none⟩) rows.length cap) = some g := rfl
    -- the cells of the source
    obtain ⟨vs, hload, hlenOf, rv, hone⟩ : ∃ vs : List Value, (Builtin.firstCells i.size src.length vx).run P w = .ok vs.toArray w ∧ (Builtin.lenOf vx).run P w = .ok src.length w ∧ RepV H i.size src vs ∧ ∀ u ∈ vs, u.oneCell' = true := by
      rcases sl_flat rs hw with ⟨e0, _⟩ | ⟨b, o', cap', vs, rfl, _, rv, hc⟩
      · obtain ⟨_, hf, hl⟩ := ffirst e0
        subst e0
        exact ⟨[], by simpa using hf, by simpa using hl, rfl, fun u hu => by cases hu⟩
      · have hl := run_loadCells_list (P := P) w ⟨b, o', none⟩ vs (fun j u hu => by
          have := (s.sath.cell b (o' + j) u (hc j u hu)).1
          rwa [Addr.add_lit])
        rw [rv.length] at hl
        exact ⟨vs, by simp [Builtin.firstCells, hl], by simp [Builtin.lenOf], rv, fun u hu => by
          obtain ⟨j, hj⟩ := List.getElem?_of_mem hu
          exact (s.sath.cell b (o' + j) u (hc j u hj)).2⟩
    have hvl : vs.length = rows.length * i.size := by rw [rv.length, hlen]
    have hcl : rows.length * i.size ≤ cur.size := by rw [hs]; exact Nat.mul_le_mul_right _ hnc
    obtain ⟨cs', a1, a2, a3, a4, a5⟩ := setCells_heap vs 0 w cur hg
    have hcell : ∀ j, j < vs.length → (w.cell? ⟨g, 0 + j, none⟩).isSome = true := fun j hj => by
      rw [cell_of_row w g _ _ e _ hg]
      have : j < cur.size := by omega
      simp [this]
    have hst := run_storeCells_cells (P := P) g 0 vs 0 w (by simpa using hcell) (fun j hj => frozen_of_row w g _ cur e hg) hone
    refine ⟨goInt src.length, w.setCells g 0 vs, ?_, ρ, H, List.prefix_refl _, PH.le.refl H, ?_, by simp [RepF, RepP, goInt]⟩
    · have hmin : Nat.min src.length rows.length = src.length := by rw [hlen]; exact Nat.min_self _
      simp [Builtin.copy_, run_underlying hu, hlenOf, Go.sizeOf, typeInfo, hi, hmin, hload, hst]
    · refine s.upd (k := k) (b := g) ho hρ rfl rfl (hh g rfl) a5 ?_
      refine ⟨vs, ⟨by rw [hvl, hlen], .inr ⟨g, cap, cs', by rw [hlen], Nat.zero_le _, a1, by rw [hlen]; exact hnc, hm, by rw [a2]; exact hs, ?_⟩⟩, rv, hone, fun b hb' o' => hh b hb' o'⟩
      rw [hlen]
      refine List.ext_getElem? fun j => ?_
      rw [List.getElem?_take]
      split
      · rename_i hj
        have hjv : j < vs.length := by omega
        have := a4 j vs[j] (by simp [hjv]) (by omega)
        rw [Nat.zero_add] at this
        rw [List.getElem?_eq_getElem hjv]
        simpa using this
      · rename_i hj
        rw [List.getElem?_eq_none (by omega)]

/-- A box that nobody writes. -/
def kBoxI (x : FV) (R : FV → Prop) : Prop :=
  cellsK x fun cs => frzL cs fun ps => match ps.all oneP with
    | true => R (.hptr ps)
    | false => False

theorem kBoxI_spec {x : FV} {R : FV → Prop} (h : kBoxI x R) :
    ∃ fv, R fv ∧ ∀ (lo : List AObj) ⦃Lw : Nat⦄ (bs : (Base Lw)) (ρ : List Value) (H : (PH Lw)) (w : World) (t : TypeId) (v : Value), SatW bs ρ H lo w → RepF ρ H x v → ∃ u w', (Instr.box t v).run P w = .ok u w' ∧ After bs ρ H fv lo u w' := by
  unfold kBoxI at h
  obtain ⟨cs, h, hcs⟩ := cellsK_spec h
  obtain ⟨ps, h, hps⟩ := frzL_spec h
  split at h
  case h_2 => exact h.elim
  rename_i hone
  refine ⟨_, h, fun lo Lw bs ρ H w t v s rv => ?_⟩
  have rl := hps ρ H _ (hcs ρ H v rv)
  have h1 := RepL.one (fun c hc => (List.all_eq_true.1 hone) c hc) rl
  have hno : ∀ o, H w.heap.size o = none := fun o => by
    cases hx : H w.heap.size o with
    | none => rfl
    | some x => exact absurd (s.sath.lt hx) (Nat.lt_irrefl _)
  let H' : (PH Lw) := fun b o => if b = w.heap.size then v.cells.toList[o]? else H b o
  have hle : PH.le H H' := fun b o u hu => by
    show (if b = w.heap.size then _ else _) = _
    rw [if_neg (fun e => by subst e; rw [hno o] at hu; cases hu)]
    exact hu
  have hnew : ∀ o u, v.cells.toList[o]? = some u → H' w.heap.size o = some u := fun o u hu => by
    show (if w.heap.size = w.heap.size then _ else _) = _
    rw [if_pos rfl]; exact hu
  have calm : Calm H w H' (w.alloc (.cells v.cells t)) := by
    refine ⟨hle, ⟨fun b o u hu => ?_, s.sath.root.mono hle, by have := s.sath.low; simp; omega, fun b o u hu hL => by
      have hu2 : (if b = w.heap.size then v.cells.toList[o]? else H b o) = some u := hu
      split at hu2
      · rename_i e1; subst e1; exact .of (heap_alloc_new w _)
      · exact (satH_alloc s.sath _).nf b o u hu2 hL⟩, ?_, fun b o u hu => ?_⟩
    · have hu2 : (if b = w.heap.size then v.cells.toList[o]? else H b o) = some u := hu
      clear hu
      split at hu2
      · rename_i e
        subst e
        refine ⟨?_, h1 u (List.mem_of_getElem? hu2)⟩
        rw [cell_of_row _ _ _ v.cells t _ (heap_alloc_new w _)]
        simpa using hu2
      · exact (satH_alloc s.sath _).cell b o u hu2
    · have := keep_alloc w (.cells v.cells t) w.heap.size
      exact ⟨this.os, this.tape, this.output, this.size, fun k hk _ => this.block k hk (fun e => by omega)⟩
    · have hu : (if b = w.heap.size then v.cells.toList[o]? else H b o) = some u := hu
      split at hu
      · rename_i e; exact .inr (by omega)
      · exact .inl ⟨u, hu⟩
  refine ⟨.pointer (some ⟨w.heap.size, 0, none⟩), w.alloc (.cells v.cells t), ?_, ρ, H', List.prefix_refl _, hle, s.calm calm, ?_⟩
  · simp only [Instr.box, Sem.run_bind, run_newVar, Result.andThen_ok, Sem.run_pure]
  · exact ⟨w.heap.size, 0, _, rfl, RepL.mono hle rl, fun j u hu => by rw [Nat.zero_add]; exact hnew j u hu⟩

end
end Ax
namespace Ax
open Go
section
variable {P : Program} {w : World}
/-- '[]*T{p}': a slice of one pointer to an object of the call's own. -/
def kBuildP (P : Program) (E : Env) (lo : List AObj) (t : TypeId) (n : Nat) (parts : List (Nat × Operand)) (R : FV → List AObj → Prop) : Prop :=
  elemK P t fun e z => match Nat.beq n 1 with
    | true => match Nat.beq z 1 with
      | true => match P.info? e with
        | some i => match i.zero with
          | some zv => match Nat.beq zv.cells.size 1 with
            | true => match parts with
              | [(0, x)] => evS E none x fun v => match v with
                | .ptr k 0 => lenK lo 0 fun m => snocK lo (.box e [.ptr k 0]) fun lo => R (.bsl m 0 1 1) lo
                | _ => False
              | _ => False
            | false => False
          | none => False
        | none => False
      | false => False
    | false => False

theorem kBuildP_spec {E : Env} {lo : List AObj} {t : TypeId} {n : Nat} {parts : List (Nat × Operand)} {R : FV → List AObj → Prop} (h : kBuildP P E lo t n parts R) :
    ∃ fv lo', R fv lo' ∧ EffRel true lo lo' ∧ ∀ ⦃Lw : Nat⦄ (bs : (Base Lw)) (ρ : List Value) (H : (PH Lw)) (w : World) (eval : Operand → Value), SatW bs ρ H lo w → (∀ x ∈ parts.map (·.2), RepF ρ H (evF (lookD E) x) (eval x)) →
      ∃ v w', (Instr.buildSlice t n (parts.map fun (i, x) => (i, eval x)).toArray).run P w = .ok v w' ∧ After bs ρ H fv lo' v w' := by
  unfold kBuildP at h
  have h0 := elemK_spec h; clear h; obtain ⟨e, i, hu, hi, h⟩ := h0
  split at h
  case h_2 => exact h.elim
  rename_i hn
  split at h
  case h_2 => exact h.elim
  rename_i hsz
  rw [hi] at h
  simp only at h
  split at h
  case h_2 => exact h.elim
  rename_i zv hzv
  split at h
  case h_2 => exact h.elim
  rename_i hzc
  split at h
  case h_2 => exact h.elim
  rename_i x
  have h0 := evS_spec h; clear h; obtain ⟨v0, h, hv0⟩ := h0
  split at h
  case h_2 => exact h.elim
  rename_i k
  have h := lenK_spec h
  have h := snocK_spec h
  have hn : n = 1 := Nat.eq_of_beq_eq_true hn
  have hsz : i.size = 1 := Nat.eq_of_beq_eq_true hsz
  have hzc : zv.cells.size = 1 := Nat.eq_of_beq_eq_true hzc
  subst hn
  refine ⟨_, _, h, EffRel.push _, fun Lw bs ρ H w eval s hx => ?_⟩
  obtain ⟨b, hb, he⟩ := hv0 ρ H _ trivial (hx x (by simp))
  have rc : RepFL ρ H [FV.ptr k 0] [Value.pointer (some ⟨b, 0, none⟩)] := ⟨_, [], rfl, ⟨b, hb, rfl⟩, rfl⟩
  have hp := s.pushBox (t := e) rc
  refine ⟨.slice (some ⟨w.heap.size, 0, none⟩) 1 1, w.alloc (.cells #[Value.pointer (some ⟨b, 0, none⟩)] e), ?_, _, H, List.prefix_append _ _, PH.le.refl H, hp, ?_⟩
  · have key : ∀ (arr : Array Value) (v : Value), arr.size = 1 → v.cells = #[v] → Instr.fill (fun i => some (i * 1, 1)) arr [(0, v)] = some #[v] := by
      intro arr v ha hv
      obtain ⟨a, rfl⟩ : ∃ a, arr = #[a] := by
        cases arr with
        | mk l =>
          match l, ha with
          | [a], _ => exact ⟨a, rfl⟩
      simp [Instr.fill, hv]
    have hf := key ((Array.range (1 * 1)).map (zv.cells[· % zv.cells.size]!)) (.pointer (some ⟨b, 0, none⟩)) (by simp) rfl
    simp only [Instr.buildSlice, Sem.run_bind, run_underlying hu, Result.andThen_ok, Go.sizeOf, typeInfo, run_program, hi, Sem.run_pure, hsz]
    simp only [show ¬ (1 * 1 > 2 ^ 24) by decide, if_false, show ¬ (1 * 1 = 0) by decide, Sem.run_bind, zeroValue, typeInfo, run_program, hi, hzv, Result.andThen_ok, Sem.run_pure, List.map_cons, List.map_nil, he]
    rw [hf]
    simp [newRow]
  · exact ⟨w.heap.size, by simp [← s.hlen], 1, rfl, .inr rfl⟩

/-- 'append(nil, p)', of a slice of one pointer. -/
def kAppendP (P : Program) (t : TypeId) (lo : List AObj) (x : FV) (R : FV → List AObj → Prop) : Prop :=
  match x with
  | .bsl k 0 1 _ => elemK P t fun e z => match Nat.beq z 1 with
    | true => match P.info? e with
      | some i => match i.zero with
        | some zv => match Nat.beq zv.cells.size 1 with
          | true => match Nat.ble i.bytes 140737488355328 with
            | true => nthK k lo fun o => match o with
              | .box _ [.ptr j 0] => lenK lo 0 fun m => snocK lo (.pbx e (.ptr j 0)) fun lo => R (.bsl m 0 1 0) lo
              | _ => False
            | false => False
          | false => False
        | none => False
      | none => False
    | false => False
  | _ => False

theorem kAppendP_spec {t : TypeId} {lo : List AObj} {x : FV} {R : FV → List AObj → Prop} (h : kAppendP P t lo x R) :
    ∃ fv lo', R fv lo' ∧ EffRel true lo lo' ∧ ∀ ⦃Lw : Nat⦄ (bs : (Base Lw)) (ρ : List Value) (H : (PH Lw)) (w : World) (ty : TypeId) (vx : Value), SatW bs ρ H lo w → RepF ρ H x vx →
      ∃ v w', (Builtin.append_ #[t, t] ty #[.slice none 0 0, vx]).run P w = .ok v w' ∧ After bs ρ H fv lo' v w' := by
  unfold kAppendP at h
  split at h
  case h_2 => exact h.elim
  rename_i k cp
  have h0 := elemK_spec h; clear h; obtain ⟨e, i, hu, hi, h⟩ := h0
  split at h
  case h_2 => exact h.elim
  rename_i hsz
  rw [hi] at h
  simp only at h
  split at h
  case h_2 => exact h.elim
  rename_i zv hzv
  split at h
  case h_2 => exact h.elim
  rename_i hzc
  split at h
  case h_2 => exact h.elim
  rename_i hby
  have h0 := nthK_spec h; clear h; obtain ⟨o, ho, h⟩ := h0
  split at h
  case h_2 => exact h.elim
  rename_i bt j
  have h := lenK_spec h
  have h := snocK_spec h
  have hsz : i.size = 1 := Nat.eq_of_beq_eq_true hsz
  have hzc : zv.cells.size = 1 := Nat.eq_of_beq_eq_true hzc
  have hby := Nat.le_of_ble_eq_true hby
  refine ⟨_, _, h, EffRel.push _, fun Lw bs ρ H w ty vx s rx => ?_⟩
  obtain ⟨b, hb, c, rfl, _⟩ := rx
  obtain ⟨b', vs, e1, hg, rc, hh⟩ := s.objs k _ _ ho hb
  cases e1
  obtain ⟨u, us, rfl, ru, e2⟩ := rc
  have e2 : us = [] := e2
  subst e2
  obtain ⟨bj, hbj, rfl⟩ := ru
  have hr := run_append_nil (P := P) w t ty e i zv hu hi hzv ⟨b, 0, none⟩ 1 c [Value.pointer (some ⟨bj, 0, none⟩)] (by simp [hsz]) (fun q u hu => by
    have := cells_of_row hg 0 q u (by simpa using hu)
    rw [Addr.add_lit]
    simpa using this) (by omega) (by omega) (by omega)
  refine ⟨_, _, hr, ρ ++ [.pointer (some ⟨w.heap.size, 0, none⟩)], H, List.prefix_append _ _, PH.le.refl H, ?_, ?_⟩
  · refine s.push (g := w.heap.size) (.inl rfl) (s.fresh (Nat.le_refl _)) (.inr s.keep.size) (PH.le.refl H) (s.sath.block (keep_drew_alloc w _ w.heap.size).size fun b o v hv => ?_) (fun b o v h => .inl ⟨v, h⟩) (keep_drew_alloc w _ _) ?_
    · exact (keep_drew_alloc w _ w.heap.size).block b (s.sath.lt hv) (fun e => absurd (s.sath.lt hv) (by omega))
    · refine ⟨w.heap.size, .pointer (some ⟨bj, 0, none⟩), (Builtin.zeroCells zv.cells (grownCap w 1 0 e - 1)).toList, rfl, ?_, ⟨bj, by rw [List.getElem?_append_left (List.getElem?_eq_some_iff.1 hbj).1]; exact hbj, rfl⟩, fun o => ?_⟩
      · refine (heap_alloc_new w.drew _).trans ?_
        congr 2
        apply Array.toList_inj.1
        simp
      · cases hx : H w.heap.size o with
        | none => rfl
        | some x => exact absurd (s.sath.lt hx) (Nat.lt_irrefl _)
  · exact ⟨w.heap.size, by simp [← s.hlen], _, rfl, .inl rfl⟩

def kBuildVP (P : Program) (p g : Bool) (E : Env) (lo : List AObj) (t : TypeId) (n : Nat) (parts : List (Nat × Operand)) (R : FV → List AObj → Prop) : Prop :=
  match p with
  | true => kBuildP P E lo t n parts R
  | false => kBuildVG P g E lo t n parts R
theorem kBuildVP_spec {p gr : Bool} {E : Env} {lo : List AObj} {t : TypeId} {n : Nat} {parts : List (Nat × Operand)} {R : FV → List AObj → Prop} (h : kBuildVP P p gr E lo t n parts R) :
    ∃ fv lo', R fv lo' ∧ EffRel true lo lo' ∧ ∀ ⦃Lw : Nat⦄ (bs : (Base Lw)) (ρ : List Value) (H : (PH Lw)) (w : World) (eval : Operand → Value), SatW bs ρ H lo w → (∀ x ∈ parts.map (·.2), RepF ρ H (evF (lookD E) x) (eval x)) →
      ∃ v w', (Instr.buildSlice t n (parts.map fun (i, x) => (i, eval x)).toArray).run P w = .ok v w' ∧ After bs ρ H fv lo' v w' := by
  cases p with
  | true => exact kBuildP_spec h
  | false => exact kBuildVG_spec h

/-- The operations of this text, as steps. -/
def kMore (P : Program) (inl : List Nat) (d : Option Tmp) (op : Op) (E : Env) (lo : List AObj) (no : Prop) (R : FV → List AObj → Prop) : Prop :=
  match op with
  | .makeSlice t l c => evS E none l fun l => evS E none c fun c => kMakeS P (ownB inl d) (growB inl d) lo t l c R
  | .call { callee := .builtin .copy, args := ⟨[x, y]⟩, argTypes := ⟨[t, _]⟩ } => evS E none x fun x => evS E none y fun y => kCopyV P lo t x y R
  | .box _ x => match ownB inl d with
    | true => evS E none x fun x => kBoxI x fun v => R v lo
    | false => no
  | .call { callee := .builtin .append, args := ⟨[s, x]⟩, argTypes := ⟨[t, t']⟩ } => ev E x fun v => match v with
    | .bsl k o n c => match Nat.beq t t' with
      | true => evS E none s fun s => match s with
        | .p .nilsl => kAppendP P t lo (.bsl k o n c) R
        | _ => False
      | false => False
    | _ => no
  | _ => no

theorem kMore_spec {inl : List Nat} {d : Option Tmp} {op : Op} {E : Env} {lo : List AObj} {no : Prop} {R : FV → List AObj → Prop} (h : kMore P inl d op E lo no R) :
    no ∨ ∃ fv lo', R fv lo' ∧ isEff op = true ∧ (∀ (o : Oper) (inl : List Nat), o.op = op → isEffI inl o = true ∧ storeB inl o = false) ∧ EffRel (mildO op) lo lo' ∧ ∀ o : Oper, o.op = op → StepSem P o (lookD E) lo none fv lo' := by
  unfold kMore at h
  split at h
  · rename_i t l c
    have h0 := evS_spec h; clear h; obtain ⟨l', h, hl⟩ := h0
    have h0 := evS_spec h; clear h; obtain ⟨c', h, hc⟩ := h0
    have h0 := kMakeS_spec h; clear h; obtain ⟨fv, lo', h, hr, hs⟩ := h0
    refine .inr ⟨fv, lo', h, rfl, fun o inl e => ⟨by simp [isEffI, e, isEff], by simp [storeB, e]⟩, hr, fun o e _ Lw bs ρ H w eval s hx => ?_⟩
    rw [e] at hx
    obtain ⟨v, w', hr, af⟩ := hs bs ρ H w _ _ s (hl ρ H _ trivial (hx l (by simp [Op.operands]))) (hc ρ H _ trivial (hx c (by simp [Op.operands])))
    simp only [execOp, e, Sem.run_bind, hr, Result.andThen_ok, Sem.run_pure]
    exact af
  · rename_i x y t t'
    have h0 := evS_spec h; clear h; obtain ⟨x', h, hx0⟩ := h0
    have h0 := evS_spec h; clear h; obtain ⟨y', h, hy0⟩ := h0
    have h0 := kCopyV_spec h; clear h; obtain ⟨fv, lo', h, hr, hs⟩ := h0
    refine .inr ⟨fv, lo', h, rfl, fun o inl e => ⟨by simp [isEffI, e, isEff], by simp [storeB, e]⟩, hr, fun o e _ Lw bs ρ H w eval s hx => ?_⟩
    rw [e] at hx
    obtain ⟨v, w', hr, af⟩ := hs bs ρ H w t' o.type _ _ s (hx0 ρ H _ trivial (hx x (by simp [Op.operands, Call.operands]))) (hy0 ρ H _ trivial (hx y (by simp [Op.operands, Call.operands])))
    simp only [execOp, e, resolve, invoke, builtin, Sem.run_bind, Sem.run_pure, Result.andThen_ok, List.map_toArray, List.map_cons, List.map_nil, hr]
    exact af
  · rename_i t x
    split at h
    · have h0 := evS_spec h; clear h; obtain ⟨x', h, hx0⟩ := h0
      have h0 := kBoxI_spec (P := P) h; clear h; obtain ⟨fv, h, hs⟩ := h0
      refine .inr ⟨fv, lo, h, rfl, fun o inl e => ⟨by simp [isEffI, e, isEff], by simp [storeB, e]⟩, EffRel.refl _, fun o e _ Lw bs ρ H w eval s hx => ?_⟩
      rw [e] at hx
      obtain ⟨v, w', hr, af⟩ := hs lo bs ρ H w t _ s (hx0 ρ H _ trivial (hx x (by simp [Op.operands])))
      simp only [execOp, e, Sem.run_bind, hr, Result.andThen_ok, Sem.run_pure]
      exact af
    · exact .inl h
  · rename_i s0 x t t'
    rw [ev_eq] at h
    split at h
    · rename_i k o n c hk
      split at h
      · rename_i htt
        have htt := Nat.eq_of_beq_eq_true htt
        subst htt
        have h0 := evS_spec h; clear h; obtain ⟨s', h, hs0⟩ := h0
        split at h
        · have h0 := kAppendP_spec h; clear h; obtain ⟨fv, lo', h, hr, hs⟩ := h0
          refine .inr ⟨fv, lo', h, rfl, fun o inl e => ⟨by simp [isEffI, e, isEff], by simp [storeB, e]⟩, hr, fun o e _ Lw bs ρ H w eval s hx => ?_⟩
          rw [e] at hx
          have r1 := hs0 ρ H _ trivial (hx s0 (by simp [Op.operands, Call.operands]))
          have r2 := hx x (by simp [Op.operands, Call.operands])
          rw [hk] at r2
          simp only [RepF, RepP] at r1
          obtain ⟨v, w', hr, af⟩ := hs bs ρ H w o.type _ s r2
          simp only [execOp, e, resolve, invoke, builtin, Sem.run_bind, Sem.run_pure, Result.andThen_ok, List.map_toArray, List.map_cons, List.map_nil, r1, hr]
          exact af
        · exact h.elim
      · exact h.elim
    · exact .inl h
  · exact .inl h
end
end Ax
end
