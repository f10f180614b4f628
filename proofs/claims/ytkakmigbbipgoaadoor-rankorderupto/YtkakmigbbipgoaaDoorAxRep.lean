/- Pure values and how the model's values and memory stand for them. -/
import Derived.Still
import Derived.Below
import Derived.Laws.AppendOwnNone
namespace Ax
open Go

/-- A pure value: what a Go value says, with the memory behind it that nobody writes any more. -/
inductive PV where
  | bool (b : Bool) | int (k : IntKind) (n : Int) | str (l : List UInt8)
  | agg (cs : List PV) | tup (vs : List PV) | nilsl | sl (rows : List (List PV))
  | nilp | fn (f : FuncId) | nilfn | nili | ifc (t : TypeId) (v : PV) | nilmap

/-- A frame's value: a pure one, or one that refers to an object of the call's own. -/
inductive FV where
  | top
  | p (v : PV)
  | opt (g : Bool) (v : FV)
  | tsl (k : Nat) (rows : List (List PV))
  | ptr (k off : Nat)
  | hptr (row : List PV)
  | bself (k : Nat)
  | bsl (k off len cap : Nat)
  | vsl (k n : Nat)
  | eptr (k z i off : Nat)
  | mref (k : Nat)
  | pair (a b : FV)

inductive AObj where
  | dead
  | box (t : TypeId) (cells : List FV)
  | tail (e : TypeId) (z n : Nat)
  | vec (e : TypeId) (z : Nat) (rows : List (List PV))
  | mp (es : List (PV × PV))

def AObj.live : AObj → Bool
  | .dead => false
  | _ => true

abbrev PH := Nat → Nat → Option Value

def PH.le (H H' : PH) : Prop := ∀ b o v, H b o = some v → H' b o = some v
theorem PH.le.refl (H : PH) : PH.le H H := fun _ _ _ h => h
theorem PH.le.trans {a b c : PH} (h : PH.le a b) (h' : PH.le b c) : PH.le a c := fun _ _ _ x => h' _ _ _ (h _ _ _ x)

mutual
def RepP (H : PH) : PV → Value → Prop
  | .bool b, v => v = .bool b
  | .int k n, v => v = .int k n
  | .str l, v => v = .string ⟨l.toArray⟩
  | .agg cs, v => ∃ vs : List Value, v = .agg vs.toArray ∧ RepL H cs vs
  | .tup cs, v => ∃ vs : List Value, v = .tuple vs.toArray ∧ RepL H cs vs
  | .nilsl, v => v = .slice none 0 0
  | .sl rows, v => (rows = [] ∧ (v = .slice none 0 0 ∨ ∃ a cap, v = .slice (some a) 0 cap)) ∨
      ∃ b o z cap, v = .slice (some ⟨b, o, none⟩) rows.length cap ∧ rows.length ≤ cap ∧ RepR H b z o rows
  | .nilp, v => v = .pointer none
  | .fn f, v => v = .func (.func f) #[] #[]
  | .nilfn, v => v = .nilFunc
  | .nili, v => v = .nilIface
  | .ifc t p, v => ∃ u, v = .iface t u ∧ RepP H p u
  | .nilmap, v => v = .map none
def RepL (H : PH) : List PV → List Value → Prop
  | [], vs => vs = []
  | c :: cs, vs => ∃ v vs', vs = v :: vs' ∧ RepP H c v ∧ RepL H cs vs'
def RepR (H : PH) (b z : Nat) : Nat → List (List PV) → Prop
  | _, [] => True
  | o, r :: rs => r.length = z ∧ (∃ vs, RepL H r vs ∧ ∀ j v, vs[j]? = some v → H b (o + j) = some v) ∧ RepR H b z (o + z) rs
end

mutual
theorem RepP.mono {H H' : PH} (h : PH.le H H') : ∀ {p : PV} {v : Value}, RepP H p v → RepP H' p v
  | .bool _, _, x | .int .., _, x | .str _, _, x | .nilsl, _, x | .nilp, _, x | .fn _, _, x | .nilfn, _, x | .nili, _, x | .nilmap, _, x => by
    simp only [RepP] at *; exact x
  | .agg cs, v, x => by
    simp only [RepP] at *
    obtain ⟨vs, e, r⟩ := x
    exact ⟨vs, e, RepL.mono h r⟩
  | .tup cs, v, x => by
    simp only [RepP] at *
    obtain ⟨vs, e, r⟩ := x
    exact ⟨vs, e, RepL.mono h r⟩
  | .sl rows, v, x => by
    simp only [RepP] at *
    rcases x with x | ⟨b, o, z, cap, e, l, r⟩
    · exact .inl x
    · exact .inr ⟨b, o, z, cap, e, l, RepR.mono h r⟩
  | .ifc t p, v, x => by
    simp only [RepP] at *
    obtain ⟨u, e, r⟩ := x
    exact ⟨u, e, RepP.mono h r⟩
theorem RepL.mono {H H' : PH} (h : PH.le H H') : ∀ {cs : List PV} {vs : List Value}, RepL H cs vs → RepL H' cs vs
  | [], _, x => by simp only [RepL] at *; exact x
  | c :: cs, vs, x => by
    simp only [RepL] at *
    obtain ⟨v, vs', e, r, rs⟩ := x
    exact ⟨v, vs', e, RepP.mono h r, RepL.mono h rs⟩
theorem RepR.mono {H H' : PH} (h : PH.le H H') {b z : Nat} : ∀ {o : Nat} {rows : List (List PV)}, RepR H b z o rows → RepR H' b z o rows
  | _, [], _ => by simp only [RepR]
  | o, r :: rs, x => by
    simp only [RepR] at *
    obtain ⟨e, ⟨vs, q, c⟩, x'⟩ := x
    exact ⟨e, ⟨vs, RepL.mono h q, fun j v hv => h _ _ _ (c j v hv)⟩, RepR.mono h x'⟩
end

theorem RepL.length {H : PH} : ∀ {cs : List PV} {vs : List Value}, RepL H cs vs → vs.length = cs.length
  | [], vs, x => by simp only [RepL] at x; simp [x]
  | c :: cs, vs, x => by
    simp only [RepL] at x
    obtain ⟨v, vs', e, _, rs⟩ := x
    simp [e, RepL.length rs]

theorem RepL.get {H : PH} : ∀ {cs : List PV} {vs : List Value} {i : Nat} {c : PV}, RepL H cs vs → cs[i]? = some c → ∃ v, vs[i]? = some v ∧ RepP H c v
  | [], _, _, _, _, h => by simp at h
  | c :: cs, vs, i, c', x, h => by
    simp only [RepL] at x
    obtain ⟨v, vs', e, r, rs⟩ := x
    subst e
    cases i with
    | zero => simp at h; subst h; exact ⟨v, by simp, r⟩
    | succ i => simp at h; obtain ⟨u, hu, ru⟩ := rs.get h; exact ⟨u, by simpa using hu, ru⟩

theorem RepL.drop {H : PH} : ∀ {cs : List PV} {vs : List Value} (n : Nat), RepL H cs vs → RepL H (cs.drop n) (vs.drop n)
  | _, _, 0, x => by simpa using x
  | [], vs, n + 1, x => by simp only [RepL] at x; simp [x, RepL]
  | c :: cs, vs, n + 1, x => by
    simp only [RepL] at x
    obtain ⟨v, vs', e, r, rs⟩ := x
    subst e
    simpa using rs.drop n

theorem RepL.take {H : PH} : ∀ {cs : List PV} {vs : List Value} (n : Nat), RepL H cs vs → RepL H (cs.take n) (vs.take n)
  | _, _, 0, x => by simp [RepL]
  | [], vs, n + 1, x => by simp only [RepL] at x; simp [x, RepL]
  | c :: cs, vs, n + 1, x => by
    simp only [RepL] at x
    obtain ⟨v, vs', e, r, rs⟩ := x
    subst e
    simp only [List.take_succ_cons, RepL]
    exact ⟨v, _, rfl, r, rs.take n⟩

theorem RepL.append {H : PH} : ∀ {cs ds : List PV} {vs us : List Value}, RepL H cs vs → RepL H ds us → RepL H (cs ++ ds) (vs ++ us)
  | [], _, vs, _, x, y => by simp only [RepL] at x; simpa [x] using y
  | c :: cs, ds, vs, us, x, y => by
    simp only [RepL] at x
    obtain ⟨v, vs', e, r, rs⟩ := x
    subst e
    simp only [List.cons_append, RepL]
    exact ⟨v, _, rfl, r, rs.append y⟩

/-- Row i of a slice's rows. -/
theorem RepR.get {H : PH} {b z : Nat} : ∀ {o : Nat} {rows : List (List PV)} {i : Nat} {r : List PV}, RepR H b z o rows → rows[i]? = some r →
    r.length = z ∧ ∃ vs, RepL H r vs ∧ ∀ j v, vs[j]? = some v → H b (o + i * z + j) = some v
  | _, [], _, _, _, h => by simp at h
  | o, q :: rs, i, r, x, h => by
    simp only [RepR] at x
    obtain ⟨e, c, x'⟩ := x
    cases i with
    | zero => simp at h; subst h; simpa using ⟨e, c⟩
    | succ i =>
      simp at h
      have := x'.get h
      have e2 : o + z + i * z = o + (i + 1) * z := by rw [Nat.add_mul]; omega
      rwa [e2] at this

theorem RepR.drop {H : PH} {b z : Nat} : ∀ {o : Nat} {rows : List (List PV)} (i : Nat), RepR H b z o rows → RepR H b z (o + i * z) (rows.drop i)
  | _, _, 0, x => by simpa using x
  | _, [], _ + 1, _ => by simp [RepR]
  | o, q :: rs, i + 1, x => by
    simp only [RepR] at x
    have := x.2.2.drop i
    have e2 : o + z + i * z = o + (i + 1) * z := by rw [Nat.add_mul]; omega
    rw [e2] at this
    simpa using this

theorem RepR.take {H : PH} {b z : Nat} : ∀ {o : Nat} {rows : List (List PV)} (i : Nat), RepR H b z o rows → RepR H b z o (rows.take i)
  | _, _, 0, _ => by simp [RepR]
  | _, [], _ + 1, _ => by simp [RepR]
  | o, q :: rs, i + 1, x => by
    simp only [RepR, List.take_succ_cons] at x ⊢
    exact ⟨x.1, x.2.1, x.2.2.take i⟩

/-! ### Frames -/
def RepF (ρ : List Value) (H : PH) : FV → Value → Prop
  | .top, _ => True
  | .p p, x => RepP H p x
  | .opt g v, x => if g = true then RepF ρ H v x else x = undef
  | .tsl k rows, x => ρ[k]? = some x ∧ RepP H (.sl rows) x
  | .ptr k off, x => ∃ b, ρ[k]? = some (.pointer (some ⟨b, 0, none⟩)) ∧ x = .pointer (some ⟨b, off, none⟩)
  | .hptr row, x => ∃ b o vs, x = .pointer (some ⟨b, o, none⟩) ∧ RepL H row vs ∧ ∀ j v, vs[j]? = some v → H b (o + j) = some v
  | .bself k, x => ∃ b, ρ[k]? = some (.pointer (some ⟨b, 0, none⟩)) ∧ (x = .pointer none ∨ x = .pointer (some ⟨b, 0, none⟩))
  | .bsl k off len cap, x => ∃ b, ρ[k]? = some (.pointer (some ⟨b, 0, none⟩)) ∧ x = .slice (some ⟨b, off, none⟩) len cap
  | .vsl k n, x => ρ[k]? = some x ∧ ∃ a cap, x = .slice a n cap
  | .eptr k z i off, x => ∃ b n cap, ρ[k]? = some (.slice (some ⟨b, 0, none⟩) n cap) ∧ x = .pointer (some ⟨b, i * z + off, none⟩)
  | .mref k, x => ∃ b, ρ[k]? = some (.map (some b)) ∧ x = .map (some b)
  | .pair a b, x => ∃ u v, x = .tuple #[u, v] ∧ RepF ρ H a u ∧ RepF ρ H b v

theorem RepF.mono {ρ ρ' : List Value} {H H' : PH} (hr : ρ <+: ρ') (h : PH.le H H') : ∀ {f : FV} {x : Value}, RepF ρ H f x → RepF ρ' H' f x
  | .top, _, _ => trivial
  | .p p, x, r => RepP.mono h (p := p) r
  | .opt g v, x, r => by
    simp only [RepF] at *
    split
    · rename_i hg; simp only [hg, if_true] at r; exact RepF.mono hr h r
    · rename_i hg; simpa [hg] using r
  | .tsl k rows, x, r => by
    obtain ⟨l, rfl⟩ := hr
    refine ⟨?_, RepP.mono h r.2⟩
    rw [List.getElem?_append_left (List.getElem?_eq_some_iff.1 r.1).1]; exact r.1
  | .ptr k off, x, r => by
    obtain ⟨l, rfl⟩ := hr
    obtain ⟨b, e, e'⟩ := r
    refine ⟨b, ?_, e'⟩
    rw [List.getElem?_append_left (List.getElem?_eq_some_iff.1 e).1]; exact e
  | .hptr row, x, r => by
    obtain ⟨b, o, vs, e, q, c⟩ := r
    exact ⟨b, o, vs, e, RepL.mono h q, fun j v hv => h _ _ _ (c j v hv)⟩
  | .bself k, x, r => by
    obtain ⟨l, rfl⟩ := hr
    obtain ⟨b, e, e'⟩ := r
    refine ⟨b, ?_, e'⟩
    rw [List.getElem?_append_left (List.getElem?_eq_some_iff.1 e).1]; exact e
  | .bsl k off len cap, x, r => by
    obtain ⟨l, rfl⟩ := hr
    obtain ⟨b, e, e'⟩ := r
    refine ⟨b, ?_, e'⟩
    rw [List.getElem?_append_left (List.getElem?_eq_some_iff.1 e).1]; exact e
  | .vsl k n, x, r => by
    obtain ⟨l, rfl⟩ := hr
    refine ⟨?_, r.2⟩
    rw [List.getElem?_append_left (List.getElem?_eq_some_iff.1 r.1).1]; exact r.1
  | .eptr k z i off, x, r => by
    obtain ⟨l, rfl⟩ := hr
    obtain ⟨b, n, cap, e, e'⟩ := r
    refine ⟨b, n, cap, ?_, e'⟩
    rw [List.getElem?_append_left (List.getElem?_eq_some_iff.1 e).1]; exact e
  | .mref k, x, r => by
    obtain ⟨l, rfl⟩ := hr
    obtain ⟨b, e, e'⟩ := r
    refine ⟨b, ?_, e'⟩
    rw [List.getElem?_append_left (List.getElem?_eq_some_iff.1 e).1]; exact e
  | .pair a b, x, r => by
    obtain ⟨u, v, e, ra, rb⟩ := r
    exact ⟨u, v, e, ra.mono hr h, rb.mono hr h⟩

def RepFL (ρ : List Value) (H : PH) : List FV → List Value → Prop
  | [], vs => vs = []
  | c :: cs, vs => ∃ v vs', vs = v :: vs' ∧ RepF ρ H c v ∧ RepFL ρ H cs vs'

theorem RepFL.mono {ρ ρ' : List Value} {H H' : PH} (hr : ρ <+: ρ') (h : PH.le H H') : ∀ {cs : List FV} {vs : List Value}, RepFL ρ H cs vs → RepFL ρ' H' cs vs
  | [], _, x => x
  | c :: cs, vs, x => by
    obtain ⟨v, vs', e, r, rs⟩ := x
    exact ⟨v, vs', e, r.mono hr h, rs.mono hr h⟩

theorem RepFL.length {ρ : List Value} {H : PH} : ∀ {cs : List FV} {vs : List Value}, RepFL ρ H cs vs → vs.length = cs.length
  | [], vs, x => by simp only [RepFL] at x; simp [x]
  | c :: cs, vs, x => by
    obtain ⟨v, vs', e, _, rs⟩ := x
    simp [e, RepFL.length rs]

theorem RepFL.drop {ρ : List Value} {H : PH} : ∀ {cs : List FV} {vs : List Value} (n : Nat), RepFL ρ H cs vs → RepFL ρ H (cs.drop n) (vs.drop n)
  | _, _, 0, x => by simpa using x
  | [], vs, n + 1, x => by simp only [RepFL] at x; simp [x, RepFL]
  | c :: cs, vs, n + 1, x => by
    obtain ⟨v, vs', e, r, rs⟩ := x
    subst e
    simpa using rs.drop n

theorem RepFL.take {ρ : List Value} {H : PH} : ∀ {cs : List FV} {vs : List Value} (n : Nat), RepFL ρ H cs vs → RepFL ρ H (cs.take n) (vs.take n)
  | _, _, 0, x => by simp [RepFL]
  | [], vs, n + 1, x => by simp only [RepFL] at x; simp [x, RepFL]
  | c :: cs, vs, n + 1, x => by
    obtain ⟨v, vs', e, r, rs⟩ := x
    subst e
    simp only [List.take_succ_cons, RepFL]
    exact ⟨v, _, rfl, r, rs.take n⟩

theorem RepFL.of_RepL {ρ : List Value} {H : PH} : ∀ {cs : List PV} {vs : List Value}, RepL H cs vs → RepFL ρ H (cs.map .p) vs
  | [], _, x => by simp only [RepL] at x; simpa [RepFL] using x
  | c :: cs, vs, x => by
    simp only [RepL] at x
    obtain ⟨v, vs', e, r, rs⟩ := x
    exact ⟨v, vs', e, r, RepFL.of_RepL rs⟩

/-! ### The world -/
/-- A cell that Go's library reads and nothing writes. -/
def RootOk (H : PH) : Prop := ∃ m, H 0 0 = some (.int .i64 m)
structure SatH (H : PH) (w : World) : Prop where
  cell : ∀ b o v, H b o = some v → w.cell? ⟨b, o, none⟩ = some v ∧ v.oneCell' = true
  root : RootOk H
instance {H : PH} {w : World} : CoeFun (SatH H w) (fun _ => ∀ b o v, H b o = some v → w.cell? ⟨b, o, none⟩ = some v ∧ v.oneCell' = true) := ⟨SatH.cell⟩
theorem RootOk.mono {H H' : PH} (h : RootOk H) (hle : ∀ b o v, H b o = some v → H' b o = some v) : RootOk H' := let ⟨m, hm⟩ := h; ⟨m, hle _ _ _ hm⟩

structure Keep (S : Nat → Prop) (w0 w : World) : Prop where
  os : w.os = w0.os
  tape : w.tape = w0.tape
  output : w.output = w0.output
  size : w0.heap.size ≤ w.heap.size
  block : ∀ k, k < w0.heap.size → ¬ S k → w.heap[k]? = w0.heap[k]?

theorem Keep.refl (S : Nat → Prop) (w : World) : Keep S w w := ⟨rfl, rfl, rfl, Nat.le_refl _, fun _ _ _ => rfl⟩
theorem Keep.trans {S : Nat → Prop} {a b c : World} (h : Keep S a b) (k : Keep S b c) : Keep S a c :=
  ⟨k.os.trans h.os, k.tape.trans h.tape, k.output.trans h.output, Nat.le_trans h.size k.size,
   fun i hi hs => (k.block i (Nat.lt_of_lt_of_le hi h.size) hs).trans (h.block i hi hs)⟩
/-- A step that may write blocks that are S's own or were not there in the beginning. -/
theorem Keep.step {S S' : Nat → Prop} {a b c : World} (h : Keep S a b) (k : Keep S' b c) (hs : ∀ i, S' i → S i ∨ a.heap.size ≤ i) : Keep S a c :=
  ⟨k.os.trans h.os, k.tape.trans h.tape, k.output.trans h.output, Nat.le_trans h.size k.size,
   fun i hi hn => (k.block i (Nat.lt_of_lt_of_le hi h.size) (fun x => (hs i x).elim hn (by omega))).trans (h.block i hi hn)⟩
abbrev Nobody : Nat → Prop := fun _ => False

structure Base where
  S : Nat → Prop
  w0 : World
  H0 : PH
  r0 : List Value

def blkOf : Value → Option Nat
  | .pointer (some a) => some a.block
  | .slice (some a) _ _ => some a.block
  | .map r => r
  | _ => none

/-- The cells of rows, one behind the other. -/
def RepV (H : PH) (z : Nat) : List (List PV) → List Value → Prop
  | [], vs => vs = []
  | r :: rs, vs => r.length = z ∧ ∃ a b, vs = a ++ b ∧ RepL H r a ∧ RepV H z rs b
theorem RepV.mono {H H' : PH} (h : PH.le H H') {z : Nat} : ∀ {rows : List (List PV)} {vs : List Value}, RepV H z rows vs → RepV H' z rows vs
  | [], _, x => x
  | r :: rs, vs, x => by
    obtain ⟨hz, a, b, e, q, y⟩ := x
    exact ⟨hz, a, b, e, RepL.mono h q, y.mono h⟩
/-- A map's entries. -/
def RepM (H : PH) : List (PV × PV) → List MapEntry → Prop
  | [], l => l = []
  | (k, p) :: es, l => ∃ e l', l = e :: l' ∧ RepP H k e.key ∧ RepP H p e.val ∧ RepM H es l'
theorem RepM.mono {H H' : PH} (h : PH.le H H') : ∀ {es : List (PV × PV)} {l : List MapEntry}, RepM H es l → RepM H' es l
  | [], _, x => x
  | (k, p) :: es, l, x => by
    obtain ⟨e, l', e1, rk, rp, rr⟩ := x
    exact ⟨e, l', e1, RepP.mono h rk, RepP.mono h rp, rr.mono h⟩

def ObjOk (ρ : List Value) (H : PH) (w : World) (v : Value) : AObj → Prop
  | .dead => True
  | .box t cells => ∃ b vs, v = .pointer (some ⟨b, 0, none⟩) ∧ w.heap[b]? = some (.cells vs.toArray t (0, 0)) ∧ RepFL ρ H cells vs ∧ ∀ o, H b o = none
  | .tail e z n => ∃ xs, w.ownsRow 0 e z v n xs ∧ ∀ b, blkOf v = some b → (∀ j u, xs[j]? = some u → H b j = some u) ∧ ∀ o, n * z ≤ o → H b o = none
  | .vec e z rows => ∃ xs, w.ownsRow 0 e z v rows.length xs ∧ RepV H z rows xs ∧ (∀ u ∈ xs, u.oneCell' = true) ∧ ∀ b, blkOf v = some b → ∀ o, H b o = none
  | .mp es => ∃ b ents clock, v = .map (some b) ∧ w.heap[b]? = some (.map ents clock) ∧ RepM H es ents.toList ∧ ∀ o, H b o = none

structure SatW (bs : Base) (ρ : List Value) (H : PH) (lo : List AObj) (w : World) : Prop where
  sath : SatH H w
  hlen : ρ.length = lo.length
  pre : bs.r0 <+: ρ
  objs : ∀ (k : Nat) (o : AObj) (v : Value), lo[k]? = some o → ρ[k]? = some v → ObjOk ρ H w v o
  excl : ∀ (k k' : Nat) (o o' : AObj) (v v' : Value) (b : Nat), lo[k]? = some o → lo[k']? = some o' → ρ[k]? = some v → ρ[k']? = some v' → k ≠ k' →
    o.live = true → o'.live = true → blkOf v = some b → blkOf v' ≠ some b
  own : ∀ (k : Nat) (o : AObj) (v : Value) (b : Nat), lo[k]? = some o → ρ[k]? = some v → o.live = true → blkOf v = some b → bs.S b ∨ bs.w0.heap.size ≤ b
  keep : Keep bs.S bs.w0 w
  leH : PH.le bs.H0 H
  newH : ∀ b o v, H b o = some v → (∃ v, bs.H0 b o = some v) ∨ bs.S b ∨ bs.w0.heap.size ≤ b

structure Sat (bs : Base) (N : Nat) (ρ : List Value) (H : PH) (e : Nat → FV) (lo : List AObj) (a : Act) (w : World) : Prop extends SatW bs ρ H lo w where
  slots : ∀ t, RepF ρ H (e t) (a.tmps.getD t undef)
  width : a.tmps.size = N
  defers : a.defers = []

/-- What only makes new memory. -/
structure Calm (H : PH) (w : World) (H' : PH) (w' : World) : Prop where
  le : PH.le H H'
  sat : SatH H' w'
  keep : Keep Nobody w w'
  new : ∀ b o v, H' b o = some v → (∃ v, H b o = some v) ∨ w.heap.size ≤ b

theorem Calm.refl {H : PH} {w : World} (h : SatH H w) : Calm H w H w := ⟨PH.le.refl H, h, Keep.refl _ w, fun _ _ v h => .inl ⟨v, h⟩⟩
theorem Calm.trans {H H' H'' : PH} {w w' w'' : World} (h : Calm H w H' w') (k : Calm H' w' H'' w'') : Calm H w H'' w'' :=
  ⟨h.le.trans k.le, k.sat, h.keep.trans k.keep, fun b o v hv => by
    rcases k.new b o v hv with ⟨v', hv'⟩ | hb
    · exact h.new b o v' hv'
    · exact .inr (Nat.le_trans h.keep.size hb)⟩

theorem SatH.block {H : PH} {w w' : World} (h : SatH H w) (e : ∀ b o v, H b o = some v → w'.heap[b]? = w.heap[b]?) : SatH H w' := ⟨fun b o v hv => by
  rw [World.cell?_of_block (w := w) (a := ⟨b, o, none⟩) (e b o v hv)]; exact h.cell b o v hv, h.root⟩

theorem SatH.lt {H : PH} {w : World} (h : SatH H w) {b o : Nat} {v : Value} (hv : H b o = some v) : b < w.heap.size :=
  World.block_lt_of_cell? w ⟨b, o, none⟩ (h.cell b o v hv).1

theorem lt_of_get {w : World} {b : Nat} {o : Obj} (h : w.heap[b]? = some o) : b < w.heap.size := (Array.getElem?_eq_some_iff.1 h).1

theorem ownsRow_block {w w' : World} {e : TypeId} {z n : Nat} {v : Value} {xs : List Value} (h : w.ownsRow 0 e z v n xs)
    (hb : ∀ b, blkOf v = some b → b < w.heap.size → w'.heap[b]? = w.heap[b]?) : w'.ownsRow 0 e z v n xs := by
  refine ⟨h.1, ?_⟩
  rcases h.2 with h2 | ⟨g, cap, cur, hv, h0, hg, r⟩
  · exact .inl h2
  · refine .inr ⟨g, cap, cur, hv, h0, ?_, r⟩
    rw [hb g (by simp [hv, blkOf]) (lt_of_get hg)]; exact hg

/-- An object stays what it is where its block is left alone and nothing of it becomes common. -/
theorem ObjOk.keep {ρ ρ' : List Value} {H H' : PH} {w w' : World} {v : Value} {o : AObj} (h : ObjOk ρ H w v o) (hr : ρ <+: ρ') (hH : PH.le H H')
    (hb : ∀ b, blkOf v = some b → b < w.heap.size → w'.heap[b]? = w.heap[b]?) (hn : ∀ b o', blkOf v = some b → b < w.heap.size → H b o' = none → H' b o' = none) :
    ObjOk ρ' H' w' v o := by
  cases o with
  | dead => trivial
  | box t cells =>
    obtain ⟨b, vs, rfl, hg, hc, hh⟩ := h
    have hlt := lt_of_get hg
    exact ⟨b, vs, rfl, by rw [hb b (by simp [blkOf]) hlt]; exact hg, hc.mono hr hH, fun o => hn b o (by simp [blkOf]) hlt (hh o)⟩
  | tail e z n =>
    obtain ⟨xs, ho, hh⟩ := h
    refine ⟨xs, ownsRow_block ho hb, fun b hv => ⟨fun j u hu => hH _ _ _ ((hh b hv).1 j u hu), fun o hno => ?_⟩⟩
    have hlt : b < w.heap.size := by
      rcases ho.2 with ⟨rfl, _⟩ | ⟨g, cap, cur, rfl, _, hg, _⟩
      · simp [blkOf] at hv
      · simp [blkOf] at hv; subst hv; exact lt_of_get hg
    exact hn b o hv hlt ((hh b hv).2 o hno)
  | vec e z rows =>
    obtain ⟨xs, ho, hr', h1, hh⟩ := h
    refine ⟨xs, ownsRow_block ho hb, hr'.mono hH, h1, fun b hv o => ?_⟩
    have hlt : b < w.heap.size := by
      rcases ho.2 with ⟨rfl, _⟩ | ⟨g, cap, cur, rfl, _, hg, _⟩
      · simp [blkOf] at hv
      · simp [blkOf] at hv; subst hv; exact lt_of_get hg
    exact hn b o hv hlt (hh b hv o)
  | mp es =>
    obtain ⟨b, ents, clock, rfl, hg, hr', hh⟩ := h
    have hlt := lt_of_get hg
    exact ⟨b, ents, clock, rfl, by rw [hb b (by simp [blkOf]) hlt]; exact hg, hr'.mono hH, fun o => hn b o (by simp [blkOf]) hlt (hh o)⟩

theorem SatW.calm {bs : Base} {ρ : List Value} {H H' : PH} {lo : List AObj} {w w' : World} (s : SatW bs ρ H lo w) (c : Calm H w H' w') : SatW bs ρ H' lo w' where
  sath := c.sat
  hlen := s.hlen
  pre := s.pre
  objs := fun k o v hk hv => (s.objs k o v hk hv).keep (List.prefix_refl _) c.le (fun b _ hb => c.keep.block b hb id) (fun b o' _ hb hn => by
    cases hx : H' b o' with
    | none => rfl
    | some x =>
      rcases c.new b o' x hx with ⟨y, hy⟩ | hge
      · rw [hn] at hy; cases hy
      · omega)
  excl := s.excl
  own := s.own
  keep := s.keep.step c.keep (fun _ h => h.elim)
  leH := s.leH.trans c.le
  newH := fun b o v hv => by
    rcases c.new b o v hv with ⟨y, hy⟩ | hge
    · exact s.newH b o y hy
    · exact .inr (.inr (Nat.le_trans s.keep.size hge))

end Ax
