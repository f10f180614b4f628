/- (*strings.Builder).String as a call that is gone into. -/
import Derived.Test.YtkakmigbbipgoaaDoorAxString
namespace Ax
open Go Go.Proofs Go.RowKit

/-- Another world in which all but v's block is as it was, and its cells are. -/
structure Shut (v : Value) (w w' : World) : Prop where
  os : w'.os = w.os
  tape : w'.tape = w.tape
  output : w'.output = w.output
  size : w.heap.size ≤ w'.heap.size
  block : ∀ k, k < w.heap.size → blkOf v ≠ some k → w'.heap[k]? = w.heap[k]?
  cell : ∀ a x, w.cell? a = some x → w'.cell? a = some x

theorem Shut.of {l : List UInt8} {v : Value} {w w' : World} {e : Ending} (h : StrPost l v w e w') : Shut v w w' := by
  obtain ⟨_, rfl | ⟨g, n, hg, rfl⟩ | ⟨o, rfl⟩⟩ := h
  · exact ⟨rfl, rfl, rfl, Nat.le_refl _, fun _ _ _ => rfl, fun _ _ h => h⟩
  · have hb : ∀ k, k ≠ g → (w.drew.freeze ⟨g, 0, none⟩ n).heap[k]? = w.heap[k]? := by
      intro k hk
      unfold World.freeze
      split
      · rfl
      · simp only [Array.getElem?_modify]
        rw [if_neg (by omega)]; rfl
    refine ⟨?_, ?_, ?_, ?_, fun k _ hk => hb k (fun e => hk (by rw [hg, e])), fun a x hx => ?_⟩
    · unfold World.freeze; split <;> rfl
    · unfold World.freeze; split <;> rfl
    · unfold World.freeze; split <;> rfl
    · unfold World.freeze; split
      · exact Nat.le_refl _
      · simp
    · unfold World.freeze
      split
      · exact hx
      · unfold World.cell? at hx ⊢
        split at hx
        · rename_i c el fz hh
          have hh' : w.drew.heap[a.block]? = some (.cells c el fz) := hh
          simp only [Array.getElem?_modify, hh', Option.map_some]
          by_cases hga : g = a.block
          · simp only [hga, if_true]; exact hx
          · simp only [hga, if_false]; exact hx
        · exact absurd hx (by simp)
  · refine ⟨rfl, rfl, rfl, by simp, fun k hk _ => ?_, fun a x hx => ?_⟩
    · exact Go.RowKit.Below.heap_alloc w.drew o k hk
    · rw [World.cell?_alloc_lt (h := World.block_lt_of_cell? w.drew a hx)]; exact hx

theorem SatW.shut {bs : Base} {ρ : List Value} {H : PH} {lo : List AObj} {w w' : World} (s : SatW bs ρ H lo w) {j : Nat} {v : Value} {e : TypeId} {z n : Nat} (hj : lo[j]? = some (.tail e z n)) (hv : ρ[j]? = some v)
    (h : Shut v w w') : SatW bs ρ H (lo.set j .dead) w' where
  sath := ⟨fun b o x hx => ⟨h.cell _ _ (s.sath.cell b o x hx).1, (s.sath.cell b o x hx).2⟩, s.sath.root⟩
  hlen := by simpa using s.hlen
  pre := s.pre
  objs := fun i o u hi hu => by
    rw [List.getElem?_set] at hi
    split at hi
    · split at hi
      · cases hi; trivial
      · cases hi
    · rename_i hne
      cases hl : o.live with
      | false => cases o <;> simp [AObj.live] at hl; trivial
      | true =>
        refine (s.objs i o u hi hu).keep (List.prefix_refl _) (PH.le.refl H) (fun b hb hlt => h.block b hlt fun e => ?_) (fun _ _ _ _ hn => hn)
        exact s.excl i j o _ u v b hi hj hu hv (fun e => hne e.symm) hl rfl hb e
  excl := s.kill j |>.excl
  own := s.kill j |>.own
  keep := by
    refine ⟨h.os.trans s.keep.os, h.tape.trans s.keep.tape, h.output.trans s.keep.output, Nat.le_trans s.keep.size h.size, fun k hk hS => ?_⟩
    rw [h.block k (Nat.lt_of_lt_of_le hk s.keep.size) fun e => ?_]
    · exact s.keep.block k hk hS
    · rcases s.own j _ v k hj hv rfl e with h1 | h1
      · exact hS h1
      · omega
  leH := s.leH
  newH := s.newH

theorem CallsI.string {P : Program} {f : FuncId} {T E : TypeId} (hent : ∀ args w, (callFunc f args).run P w = .ok (.enter f args) w)
    (hc : ∀ (b : Nat) (l : List UInt8) (w : World) (p v : Value), w.heap[b]? = some (.cells #[p, v] T (0, 0)) → w.ownsRow 0 E 1 v l.length (Lib.byteCells l) → l ≠ [] →
      Calls P f #[.pointer (some ⟨b, 0, none⟩)] w (StrPost l v w))
    {k j : Nat} {a : FV} {bs : List UInt8} {lo : List AObj} {n : Nat} {R : FV → List AObj → Prop} (hk : lo[k]? = some (.box T [a, .tsl j (bRows bs)])) (hj : lo[j]? = some (.tail E 1 n))
    (h0 : bs ≠ []) (h : R (.p (.str bs)) (lo.set j .dead)) : CallsI P f [.ptr k 0] lo R := by
  intro bs' ρ H w vs s rl
  obtain ⟨u, _, rfl, ru, rfl⟩ := rl
  obtain ⟨b, hb, rfl⟩ := ru
  rw [show ([Value.pointer (some ⟨b, 0, none⟩)] : List Value).toArray = #[.pointer (some ⟨b, 0, none⟩)] from rfl, hent]
  refine ⟨rfl, ?_⟩
  obtain ⟨b', vs, e', hg, hcs, _⟩ := s.objs k _ _ hk hb
  cases e'
  simp only [RepFL] at hcs
  obtain ⟨p, _, rfl, _, v, _, rfl, ⟨hv, hrep⟩, rfl⟩ := hcs
  obtain ⟨xs, how, hx⟩ := s.objs j _ v hj hv
  have hxs : n = bs.length ∧ xs = Lib.byteCells bs := by
    simp only [RepP] at hrep
    rcases hrep with ⟨e0, _⟩ | ⟨g, o, z, cap, rfl, _, rr⟩
    · exact absurd (by simpa [bRows] using e0) h0
    · rcases how.2 with ⟨e0, _⟩ | ⟨g', cap', cur, e0, _⟩
      · cases e0
      · simp only [Value.slice.injEq, Option.some.injEq, Addr.mk.injEq] at e0
        obtain ⟨⟨rfl, rfl, _⟩, hn, _⟩ := e0
        have hn' : n = bs.length := by rw [← hn]; simp [bRows]
        refine ⟨hn', ?_⟩
        have hl := how.1
        have hcell := rows_bytes s.sath rr
        refine List.ext_getElem (by rw [hl, Lib.byteCells_length, hn', Nat.mul_one]) fun j h1 h2 => ?_
        have hj' : j < bs.length := by rw [Lib.byteCells_length] at h2; exact h2
        have c1 := how.cells (g := g) rfl j _ (List.getElem?_eq_getElem h1)
        rw [hcell j hj'] at c1
        simp only [Option.some.injEq] at c1
        rw [← c1]
        simp [Lib.byteCells]
  obtain ⟨rfl, rfl⟩ := hxs
  refine (hc b bs w p v hg how h0).mono fun e w' hp => ?_
  exact ⟨_, .p (.str bs), lo.set j .dead, hp.1, ⟨ρ, H, List.prefix_refl _, PH.le.refl H, s.shut hj hv (Shut.of hp), by simp [RepF, RepP]⟩, h⟩

theorem SatH.below {H : PH} {w w' : World} (s : SatH H w) (h : Below w.heap.size w w') : Calm H w H w' :=
  ⟨PH.le.refl H, s.block fun b _ _ hv => h.block b (s.lt hv), ⟨h.os, h.tape, h.output, h.size, fun k hk _ => h.block k hk⟩, fun _ _ v hv => .inl ⟨v, hv⟩⟩

abbrev StringEmpty (P : Program) (f : FuncId) (T E : TypeId) : Prop := ∀ (b : Nat) (w : World) (p v : Value), w.heap[b]? = some (.cells #[p, v] T (0, 0)) → w.ownsRow 0 E 1 v 0 [] →
      Calls P f #[.pointer (some ⟨b, 0, none⟩)] w fun e w' => e = .returned (.string ⟨#[]⟩) ∧ Below w.heap.size w w'

theorem CallsI.string_nil {P : Program} {f : FuncId} {T E : TypeId} (hent : ∀ args w, (callFunc f args).run P w = .ok (.enter f args) w) (hc : StringEmpty P f T E)
    {k : Nat} {a : FV} {lo : List AObj} {R : FV → List AObj → Prop} (hk : lo[k]? = some (.box T [a, .p .nilsl])) (h : R (.p (.str [])) lo) : CallsI P f [.ptr k 0] lo R := by
  intro bs' ρ H w vs s rl
  obtain ⟨u, _, rfl, ru, rfl⟩ := rl
  obtain ⟨b, hb, rfl⟩ := ru
  rw [show ([Value.pointer (some ⟨b, 0, none⟩)] : List Value).toArray = #[.pointer (some ⟨b, 0, none⟩)] from rfl, hent]
  refine ⟨rfl, ?_⟩
  obtain ⟨b', vs, e', hg, hcs, _⟩ := s.objs k _ _ hk hb
  cases e'
  simp only [RepFL] at hcs
  obtain ⟨p, _, rfl, _, v, _, rfl, hv, rfl⟩ := hcs
  simp only [RepF, RepP] at hv
  subst hv
  refine (hc b w p _ hg (World.ownsRow_nil w 0 E 1)).mono fun e w' hp => ?_
  exact ⟨_, .p (.str []), lo, hp.1, ⟨ρ, H, List.prefix_refl _, PH.le.refl H, s.calm (s.sath.below hp.2), by simp [RepF, RepP]⟩, h⟩

theorem CallsI.string_any {P : Program} {f : FuncId} {T E : TypeId} (hent : ∀ args w, (callFunc f args).run P w = .ok (.enter f args) w)
    (hc : ∀ (b : Nat) (l : List UInt8) (w : World) (p v : Value), w.heap[b]? = some (.cells #[p, v] T (0, 0)) → w.ownsRow 0 E 1 v l.length (Lib.byteCells l) → l ≠ [] →
      Calls P f #[.pointer (some ⟨b, 0, none⟩)] w (StrPost l v w)) (hc0 : StringEmpty P f T E)
    {k j : Nat} {a : FV} {bs : List UInt8} {lo : List AObj} {n : Nat} {R : FV → List AObj → Prop} (hk : lo[k]? = some (.box T [a, .tsl j (bRows bs)])) (hj : lo[j]? = some (.tail E 1 n))
    (h : R (.p (.str bs)) (lo.set j .dead)) : CallsI P f [.ptr k 0] lo R := by
  by_cases h0 : bs = []
  · subst h0
    intro bs' ρ H w vs s rl
    obtain ⟨u, _, rfl, ru, rfl⟩ := rl
    obtain ⟨b, hb, rfl⟩ := ru
    rw [show ([Value.pointer (some ⟨b, 0, none⟩)] : List Value).toArray = #[.pointer (some ⟨b, 0, none⟩)] from rfl, hent]
    refine ⟨rfl, ?_⟩
    obtain ⟨b', vs, e', hg, hcs, _⟩ := s.objs k _ _ hk hb
    cases e'
    simp only [RepFL] at hcs
    obtain ⟨p, _, rfl, _, v, _, rfl, ⟨hv, hrep⟩, rfl⟩ := hcs
    obtain ⟨xs, how, hx⟩ := s.objs j _ v hj hv
    have hn : n = 0 := by
      simp only [RepP, bRows, List.map_nil] at hrep
      rcases hrep with ⟨_, e0⟩ | ⟨g, o, z, cap, rfl, _, _⟩
      · rcases how.2 with ⟨_, hz⟩ | ⟨g', cap', cur, e1, _⟩
        · exact hz
        · rcases e0 with e0 | ⟨a0, c0, e0⟩
          · rw [e0] at e1; cases e1
          · rw [e0] at e1
            simp only [Value.slice.injEq] at e1
            exact e1.2.1.symm
      · rcases how.2 with ⟨e1, hz⟩ | ⟨g', cap', cur, e1, _⟩
        · cases e1
        · simp only [Value.slice.injEq] at e1
          exact e1.2.1.symm
    subst hn
    have hxs : xs = [] := by have := how.1; simpa using this
    subst hxs
    refine (hc0 b w p v hg how).mono fun e w' hp => ?_
    exact ⟨_, .p (.str []), lo.set j .dead, hp.1, ⟨ρ, H, List.prefix_refl _, PH.le.refl H, (s.kill j).calm (s.sath.below hp.2), by simp [RepF, RepP]⟩, h⟩
  · exact CallsI.string hent hc hk hj h0 h
end Ax
