/- A part of the proof: the plain law. -/
import Derived.WalkKit
import Derived.WalkSpells
import Derived.WalkLawsBesides
import Derived.Test.YtglihheagfnakaaGreatC
import Derived.Test.YtglihheagfnakaaGreatD
import Derived.Test.YtglihheagfnakaaGreatI
import Derived.Test.YtglihheagfnakaaGreatJ
import Derived.Test.YtglihheagfnakaaGreatK
set_option linter.unusedVariables false
set_option linter.unusedSimpArgs false
set_option linter.unnecessarySimpa false
set_option linter.deprecated false
set_option linter.unusedSectionVars false
set_option linter.constructorNameAsVariable false
open Go.IntKind renaming wrap->kwr,bits->kbt
open List renaming getElem?_eq_getElem->jf
open Nat renaming le_refl->jw,lt_irrefl->jQ,zero_le->jR
section
open Go Go.Proofs Ax Go.RowKit
namespace W
def oD (H : PH 0) (b : Nat) : Prop := ∃ o u, H b o = some u
def oJ (H : PH 0) (w : World) : Prop := ∀ b o u, H b o = some u -> (∃ u', w.cell? ⟨b, o, none⟩ = some u' /\ oG u u') /\ fZ w b o u
theorem oJ.block {H : PH 0} {w w' : World} (s : oJ H w) (h : ∀ b, oD H b -> w'.heap[b]? = w.heap[b]?) : oJ H w' := fun b o u hu => by
  obtain ⟨⟨u', h1, h2⟩, h3⟩ := s b o u hu
  have e := h b ⟨o, u, hu⟩
  exact ⟨⟨u', by rw [World.cell?_of_block (w := w) (a := ⟨b, o, none⟩) e]; exact h1, h2⟩, h3.block e⟩
def lX (H : PH 0) (b p : Nat) : Prop := (∃ q k, H b q = some (.int .i64 k) /\ q <= p /\ p <= q + 5) \/ ∃ s, H b p = some (.string s)
structure oK (H : PH 0) (w w' : World) : Prop where
  sp : oJ H w'
  keep : Keep (oD H) w w'
  stay : ∀ b p, b < w.heap.size -> ¬ lX H b p -> w'.cell? ⟨b, p, none⟩ = w.cell? ⟨b, p, none⟩
theorem oK.refl {H : PH 0} {w : World} (s : oJ H w) : oK H w w := ⟨s, Keep.refl _ _, fun _ _ _ _ => rfl⟩
def oF (H : PH 0) (b o : Nat) (l : List Val) : Prop := ∀ (i : Nat) (v : Val), l[i]? = some v -> ∃ us, qU H v.cells us /\ ∀ (j : Nat) (u : Value), us[j]? = some u -> H b (o + i * 6 + j) = some u
def oE (H : PH 0) (b o : Nat) (l : List (List UInt8)) : Prop := ∀ (i : Nat) (s : List UInt8), l[i]? = some s -> H b (o + i) = some (.string ⟨s.toArray⟩)
theorem oJ.kin {H : PH 0} {w : World} (s : oJ H w) {b o : Nat} {u : Value} (h : H b o = some u) : ∃ u', w.cell? ⟨b, o, none⟩ = some u' /\ oG u u' := (s b o u h).1
theorem oJ.fz {H : PH 0} {w : World} (s : oJ H w) {b o : Nat} {u : Value} (h : H b o = some u) (h8 : ∀ m, u ≠ .int .u8 m) : w.frozen? ⟨b, o, none⟩ = false := by
  rcases (s b o u h).2 with ⟨m, e⟩ | e
  · exact absurd e (h8 m)
  · exact e
theorem oJ.lt {H : PH 0} {w : World} (s : oJ H w) {b : Nat} (h : oD H b) : b < w.heap.size := by
  obtain ⟨o, u, hu⟩ := h
  obtain ⟨u', h1, _⟩ := s.kin hu
  exact World.block_lt_of_cell? w ⟨b, o, none⟩ h1
theorem oK.other {H : PH 0} {w w' : World} (s : oK H w w') {b : Nat} (hb : b < w.heap.size) (hn : ¬ oD H b) : w'.heap[b]? = w.heap[b]? := s.keep.block b hb hn
theorem oK.trans {H : PH 0} {a b c : World} (h : oK H a b) (k : oK H b c) : oK H a c := ⟨k.sp, h.keep.trans k.keep, fun g p hb hn => (k.stay g p (Nat.lt_of_lt_of_le hb h.keep.size) hn).trans (h.stay g p hb hn)⟩
def aL : Val -> List Val
  | .mk _ _ _ _ l _ => l
def aK : Val -> List (List UInt8)
  | .mk _ _ _ _ _ ks => ks
theorem oJ.set {H : PH 0} {w : World} (s : oJ H w) {b o : Nat} {u v : Value} (h : H b o = some u) (hk : oG u v) (ht : lX H b o) : oK H w (w.setCell ⟨b, o, none⟩ v) := by
  obtain ⟨u', hc, _⟩ := s.kin h
  refine ⟨fun b2 o2 u2 h2 => ⟨?_, ?_⟩, ⟨rfl, rfl, rfl, by simp [World.setCell], fun k hk hn => heap_setCell_other w _ k v (fun e => hn (by subst e; exact ⟨o, u, h⟩))⟩, fun b2 o2 _ hn => World.cell?_setCell_other w ⟨b, o, none⟩ ⟨b2, o2, none⟩ v (by intro e2; simp only [Addr.mk.injEq] at e2; exact hn (by rw [← e2.1, ← e2.2.1]; exact ht))⟩
  · by_cases e : b2 = b /\ o2 = o
    · obtain ⟨rfl, rfl⟩ := e
      rw [h] at h2
      cases h2
      exact ⟨v, World.cell?_setCell_same' _ _ _ (by rw [hc]; rfl), hk⟩
    · obtain ⟨u3, h3, h4⟩ := s.kin h2
      exact ⟨u3, by rw [World.cell?_setCell_other (a := ⟨b, o, none⟩) (b := ⟨b2, o2, none⟩) (h := by intro e2; simp only [Addr.mk.injEq] at e2; exact e ⟨e2.1.symm, e2.2.1.symm⟩)]; exact h3, h4⟩
  · rcases (s b2 o2 u2 h2).2 with x | x
    · exact .inl x
    · exact .inr (by rw [World.frozen?_setCell]; exact x)
theorem shape {H : PH 0} {v : Val} {us : List Value} (h : qU H v.cells us) : ∃ (k i : Int) (bb : Bool) (s : ByteArray) (x y : Value), us = [.int .i64 k, .bool bb, .int .i64 i, .string s, x, y] /\ qu H (.sl (Val.rows (aL v))) x /\ qu H (.sl (qi (aK v))) y := by
  obtain ⟨k, b, i, s, l, ks⟩ := v
  simp only [Val.cells, qU, qu] at h
  obtain ⟨_, _, rfl, rfl, _, _, rfl, rfl, _, _, rfl, rfl, _, _, rfl, rfl, x, _, rfl, hx, y, _, rfl, hy, rfl⟩ := h
  exact ⟨k, i, b, ⟨s.toArray⟩, x, y, rfl, by simp only [qu]; exact hx, by simp only [qu]; exact hy⟩
structure oI (H : PH 0) (w : World) (b q : Nat) (us : List Value) (e1 e2 e3 e4 e5 e6 : Value) : Prop where
  kin : ed us [e1, e2, e3, e4, e5, e6]
  c : w.cell? ⟨b, q, none⟩ = some e1 /\ w.cell? ⟨b, q + 1, none⟩ = some e2 /\ w.cell? ⟨b, q + 2, none⟩ = some e3 /\ w.cell? ⟨b, q + 3, none⟩ = some e4 /\ w.cell? ⟨b, q + 4, none⟩ = some e5 /\ w.cell? ⟨b, q + 5, none⟩ = some e6
  f : w.frozen? ⟨b, q, none⟩ = false /\ w.frozen? ⟨b, q + 1, none⟩ = false /\ w.frozen? ⟨b, q + 2, none⟩ = false /\ w.frozen? ⟨b, q + 3, none⟩ = false /\ w.frozen? ⟨b, q + 4, none⟩ = false /\ w.frozen? ⟨b, q + 5, none⟩ = false
theorem Sq {Lw : Nat} {H : PH Lw} {rows : List (List PV)} {x : Value} (h : qu H (.sl rows) x) : ∀ m, x ≠ .int .u8 m := by
  simp only [qu] at h
  rintro m rfl
  rcases h with ⟨_, h | ⟨_, _, h⟩⟩ | ⟨_, _, _, _, h, _⟩ <;> cases h
theorem oJ.six {H : PH 0} {w : World} (s : oJ H w) {v : Val} {us : List Value} (hus : qU H v.cells us) {b q : Nat} (hcs : ∀ (j : Nat) (u : Value), us[j]? = some u -> H b (q + j) = some u) :
    ∃ e1 e2 e3 e4 e5 e6, oI H w b q us e1 e2 e3 e4 e5 e6 := by
  obtain ⟨k, i, bb, st, x, y, rfl, hx, hy⟩ := shape hus
  have a1 := hcs 0 _ rfl; have a2 := hcs 1 _ rfl; have a3 := hcs 2 _ rfl; have a4 := hcs 3 _ rfl; have a5 := hcs 4 _ rfl; have a6 := hcs 5 _ rfl
  obtain ⟨e1, c1, k1⟩ := s.kin a1
  obtain ⟨e2, c2, k2⟩ := s.kin a2
  obtain ⟨e3, c3, k3⟩ := s.kin a3
  obtain ⟨e4, c4, k4⟩ := s.kin a4
  obtain ⟨e5, c5, k5⟩ := s.kin a5
  obtain ⟨e6, c6, k6⟩ := s.kin a6
  refine ⟨e1, e2, e3, e4, e5, e6, ⟨rfl, fun j v u hv hu => ?_⟩, ⟨c1, c2, c3, c4, c5, c6⟩, s.fz a1 (by simp), s.fz a2 (by simp), s.fz a3 (by simp), s.fz a4 (by simp), s.fz a5 (Sq hx), s.fz a6 (Sq hy)⟩
  match j with
  | 0 => cases hv; cases hu; exact k1
  | 1 => cases hv; cases hu; exact k2
  | 2 => cases hv; cases hu; exact k3
  | 3 => cases hv; cases hu; exact k4
  | 4 => cases hv; cases hu; exact k5
  | 5 => cases hv; cases hu; exact k6
  | j + 6 => simp at hv
theorem ix {Lw : Nat} {H : PH Lw} {rows : List (List PV)} {x : Value} (h : qu H (.sl rows) x) : oG x (.slice none 0 0) := by
  simp only [qu] at h
  rcases h with ⟨_, rfl | ⟨_, _, rfl⟩⟩ | ⟨_, _, _, _, rfl, _⟩ <;> exact .inr rfl
theorem oJ.six_set {H : PH 0} {w : World} (s : oJ H w) {v : Val} {us : List Value} (hus : qU H v.cells us) {b q : Nat} (hcs : ∀ (j : Nat) (u : Value), us[j]? = some u -> H b (q + j) = some u) (k i : Int) (bb : Bool) (st : ByteArray) :
    oK H w ((((((w.setCell ⟨b, q, none⟩ (.int .i64 k)).setCell ⟨b, q + 1, none⟩ (.bool bb)).setCell ⟨b, q + 2, none⟩ (.int .i64 i)).setCell ⟨b, q + 3, none⟩ (.string st)).setCell ⟨b, q + 4, none⟩ (.slice none 0 0)).setCell ⟨b, q + 5, none⟩ (.slice none 0 0)) := by
  obtain ⟨k', i', bb', st', x, y, rfl, hx, hy⟩ := shape hus
  have h1 := s.set (v := .int .i64 k) (hcs 0 _ rfl) ⟨_, rfl⟩ (.inl ⟨q, k', hcs 0 _ rfl, by omega, by omega⟩)
  have h2 := h1.sp.set (v := .bool bb) (hcs 1 _ rfl) ⟨_, rfl⟩ (.inl ⟨q, k', hcs 0 _ rfl, by omega, by omega⟩)
  have h3 := h2.sp.set (v := .int .i64 i) (hcs 2 _ rfl) ⟨_, rfl⟩ (.inl ⟨q, k', hcs 0 _ rfl, by omega, by omega⟩)
  have h4 := h3.sp.set (v := .string st) (hcs 3 _ rfl) ⟨_, rfl⟩ (.inl ⟨q, k', hcs 0 _ rfl, by omega, by omega⟩)
  have h5 := h4.sp.set (v := .slice none 0 0) (hcs 4 _ rfl) (ix hx) (.inl ⟨q, k', hcs 0 _ rfl, by omega, by omega⟩)
  have h6 := h5.sp.set (v := .slice none 0 0) (hcs 5 _ rfl) (ix hy) (.inl ⟨q, k', hcs 0 _ rfl, by omega, by omega⟩)
  exact ((((h1.trans h2).trans h3).trans h4).trans h5).trans h6
abbrev oR (k : Int) (bb : Bool) (ii : Int) (s : ByteArray) (x y : Value) : Array Value := #[.int .i64 k, .bool bb, .int .i64 ii, .string s, x, y]
set_option maxHeartbeats 1000000 in
theorem Pc (H : PH 0) (k ii : Int) (bb : Bool) (s : ByteArray) (b o kb ko : Nat) (lp kp : Option Addr) (lc kc : Nat) (l : List Val) (ks : List (List UInt8)) (hp : l ≠ [] -> lp = some ⟨b, o, none⟩) (hq : ks ≠ [] -> kp = some ⟨kb, ko, none⟩)
    (hl : oF H b o l) (hk : oE H kb ko ks) (hln : l.length < 9223372036854775807) (hkn : ks.length < 9223372036854775807) (w : World) (sp : oJ H w)
    (ih : ∀ v ∈ l, ∀ us xs w, qU H v.cells us -> ed us xs -> oJ H w -> Calls Tryz.prog 32 #[.agg xs.toArray] w fun e w' => e = .returned (.tuple #[]) /\ oK H w w') :
    Calls Tryz.prog 32 #[.agg #[.int .i64 k, .bool bb, .int .i64 ii, .string s, .slice lp l.length lc, .slice kp ks.length kc]] w fun e w' => e = .returned (.tuple #[]) /\ oK H w w' := by
  have hnb : ¬ oD H w.heap.size := fun h => absurd (sp.lt h) (jQ _)
  go_enter Tryz.func32, Tryz.ntmps32
  go_wp2
  go_loopw [2] (fun vi wr => ∃ (i : Nat), vi = .int .i64 i /\ i <= l.length /\ oK H (w.alloc (.cells (oR k bb ii s (.slice lp l.length lc) (.slice kp ks.length kc)) 35)) wr) (fun vi _ => l.length - (RowKit.intOf vi).toNat)
  case atStart => exact ⟨0, rfl, jR _, oK.refl (sp.block fun b hb => heap_alloc_old w _ (sp.lt hb))⟩
  case round =>
    obtain ⟨i, rfl, hin, hS⟩ := hrel
    have cb : ∀ w', oK H wr w' -> w'.cell? ⟨w.heap.size, 4, none⟩ = some (.slice lp l.length lc) /\ w'.cell? ⟨w.heap.size, 5, none⟩ = some (.slice kp ks.length kc) := fun w' h => by
      have e := (hS.trans h).other (b := w.heap.size) (by simp) hnb
      exact ⟨by rw [World.cell?_of_block (a := ⟨w.heap.size, 4, none⟩) e, World.cell?_alloc_new]; rfl, by rw [World.cell?_of_block (a := ⟨w.heap.size, 5, none⟩) e, World.cell?_alloc_new]; rfl⟩
    obtain ⟨c4, c5⟩ := cb wr (oK.refl hS.sp)
    rcases Nat.lt_or_ge i l.length with hlt | hge
    · obtain rfl := hp (List.ne_nil_of_length_pos (by omega))
      have hv := jf hlt
      generalize l[i] = vi at hv
      obtain ⟨us, hus, hcs⟩ := hl i vi hv
      obtain ⟨e1, e2, e3, e4, e5, e6, ⟨hkin, ⟨he1, he2, he3, he4, he5, he6⟩, _⟩⟩ := hS.sp.six hus hcs
      have hc := ih vi (List.mem_of_getElem? hv) us [e1, e2, e3, e4, e5, e6] wr hus hkin hS.sp
      have aft : ∀ w', oK H wr w' -> ∃ g1 g2 g3 g4 g5 g6, oI H w' b (o + i * 6) us g1 g2 g3 g4 g5 g6 := fun w' h => h.sp.six hus hcs
      clear ih
      go_wp2_with (go_at_call 32; refine hc.mono ?_; rintro e w1 ⟨rfl, h1⟩; obtain ⟨d4, _⟩ := cb w1 h1; obtain ⟨g1, g2, g3, g4, g5, g6, ⟨hkin', ⟨hg1, hg2, hg3, hg4, hg5, hg6⟩, ⟨z1, z2, z3, z4, z5, z6⟩⟩⟩ := aft w1 h1)
      go_roundw
      case rel => exact ⟨i + 1, by congr 1 <;> omega, hlt, hS.trans (h1.trans (h1.sp.six_set hus hcs _ _ _ _))⟩
      case measure => simp [RowKit.intOf]; omega
    · clear ih
      go_wp2
      go_loopw [3] (fun vi wk => ∃ (i : Nat), vi = .int .i64 i /\ i <= ks.length /\ oK H wr wk) (fun vi _ => ks.length - (RowKit.intOf vi).toNat)
      case atStart => exact ⟨0, rfl, jR _, oK.refl hS.sp⟩
      case round =>
        rename World => wk
        obtain ⟨j, rfl, hjn, hS2⟩ := hrel
        obtain ⟨_, d5⟩ := cb _ hS2
        rcases Nat.lt_or_ge j ks.length with hlt | hge
        · obtain rfl := hq (List.ne_nil_of_length_pos (by omega))
          have hj := hk j _ (jf hlt)
          obtain ⟨g1, hg1, _⟩ := hS2.sp.kin hj
          have z1 := hS2.sp.fz hj (by simp)
          go_wp2
          go_roundw
          case rel => exact ⟨j + 1, by congr 1 <;> omega, hlt, hS2.trans (hS2.sp.set hj ⟨_, rfl⟩ (.inr ⟨_, hj⟩))⟩
          case measure => simp [RowKit.intOf]; omega
        · go_wp2
          go_end0
          have h3 := hS.trans hS2
          exact ⟨rfl, h3.sp, ⟨h3.keep.os, h3.keep.tape, h3.keep.output, Nat.le_trans (by simp) h3.keep.size, fun k hk hn => (h3.keep.block k (by simp; omega) hn).trans (heap_alloc_old w _ hk)⟩, fun b p hb hn => (h3.stay b p (by simp; omega) hn).trans (World.cell?_of_block (a := ⟨b, p, none⟩) (heap_alloc_old w _ hb))⟩
mutual
def vsz : Val -> Nat
  | .mk _ _ _ _ l ks => 1 + Ce l + ks.length
def Ce : List Val -> Nat
  | [] => 0
  | v :: l => 1 + vsz v + Ce l
end
theorem Gl : ∀ l : List Val, l.length <= Ce l
  | [] => jw _
  | v :: l => by have := Gl l; simp only [Ce, List.length_cons]; omega
theorem Gm : ∀ {l : List Val} {v : Val}, v ∈ l -> vsz v < Ce l
  | [], _, h => by cases h
  | a :: l, v, h => by
    simp only [Ce]
    rcases List.mem_cons.1 h with rfl | h
    · omega
    · have := Gm h; omega
theorem iX {H : PH 0} {l : List Val} {x x' : Value} (h : qu H (.sl (Val.rows l)) x) (k : oG x x') :
    ∃ lp l' b o lc, x' = .slice lp (l' : List Val).length lc /\ (l' ≠ [] -> lp = some ⟨b, o, none⟩) /\ oF H b o l' /\ (l' = l \/ l' = []) := by
  have nil : ∀ (lp : Option Addr) lc, x' = .slice lp 0 lc -> ∃ lp l' b o lc, x' = .slice lp (l' : List Val).length lc /\ (l' ≠ [] -> lp = some ⟨b, o, none⟩) /\ oF H b o l' /\ (l' = l \/ l' = []) := fun lp lc e =>
    ⟨lp, [], 0, 0, lc, e, fun h => absurd rfl h, fun i v hv => by simp at hv, .inr rfl⟩
  simp only [qu] at h
  rcases h with ⟨_, rfl | ⟨a, c, rfl⟩⟩ | ⟨b, o, z, cap, rfl, _, hr⟩
  · rcases k with rfl | rfl <;> exact nil _ _ rfl
  · rcases k with rfl | rfl <;> exact nil _ _ rfl
  · rcases k with rfl | rfl
    · refine ⟨some ⟨b, o, none⟩, l, b, o, cap, by rw [tL], fun _ => rfl, fun i v hv => ?_, .inl rfl⟩
      have h1 : (Val.rows l)[i]? = some v.cells := Codec.getN xZ hv
      obtain ⟨e, vs, h2, h3⟩ := hr.get h1
      rw [ma] at e
      subst e
      exact ⟨vs, h2, h3⟩
    · exact nil _ _ rfl
theorem iS {H : PH 0} {l : List (List UInt8)} {x x' : Value} (h : qu H (.sl (qi l)) x) (k : oG x x') :
    ∃ lp l' b o lc, x' = .slice lp (l' : List (List UInt8)).length lc /\ (l' ≠ [] -> lp = some ⟨b, o, none⟩) /\ oE H b o l' /\ (l' = l \/ l' = []) := by
  have nil : ∀ (lp : Option Addr) lc, x' = .slice lp 0 lc -> ∃ lp l' b o lc, x' = .slice lp (l' : List (List UInt8)).length lc /\ (l' ≠ [] -> lp = some ⟨b, o, none⟩) /\ oE H b o l' /\ (l' = l \/ l' = []) := fun lp lc e =>
    ⟨lp, [], 0, 0, lc, e, fun h => absurd rfl h, fun i v hv => by simp at hv, .inr rfl⟩
  simp only [qu] at h
  rcases h with ⟨_, rfl | ⟨a, c, rfl⟩⟩ | ⟨b, o, z, cap, rfl, _, hr⟩
  · rcases k with rfl | rfl <;> exact nil _ _ rfl
  · rcases k with rfl | rfl <;> exact nil _ _ rfl
  · rcases k with rfl | rfl
    · refine ⟨some ⟨b, o, none⟩, l, b, o, cap, by simp [qi], fun _ => rfl, fun i v hv => ?_, .inl rfl⟩
      have h1 : (qi l)[i]? = some [PV.str v] := Codec.getN cV hv
      obtain ⟨e, vs, h2, h3⟩ := hr.get h1
      simp only [List.length_singleton] at e
      subst e
      simp only [qU, qu] at h2
      obtain ⟨_, _, rfl, rfl, rfl⟩ := h2
      have := h3 0 _ rfl
      simpa using this
    · exact nil _ _ rfl
theorem Lc (H : PH 0) : ∀ (n : Nat) (v : Val), vsz v < n -> n <= 4611686018427387904 -> ∀ us xs w, qU H v.cells us -> ed us xs -> oJ H w -> Calls Tryz.prog 32 #[.agg xs.toArray] w fun e w' => e = .returned (.tuple #[]) /\ oK H w w' := by
  intro n
  induction n with
  | zero => intro v h; omega
  | succ n ih =>
    intro v hv hn us xs w hus hk sp
    obtain ⟨k, i, bb, s, x, y, rfl, hx, hy⟩ := shape hus
    obtain ⟨hlen, hk⟩ := hk
    obtain ⟨a1, a2, a3, a4, a5, a6, rfl⟩ : ∃ a1 a2 a3 a4 a5 a6, xs = [a1, a2, a3, a4, a5, a6] := by
      match xs, hlen with
      | [a1, a2, a3, a4, a5, a6], _ => exact ⟨_, _, _, _, _, _, rfl⟩
    obtain ⟨k', rfl⟩ := hk 0 _ _ rfl rfl
    obtain ⟨bb', rfl⟩ := hk 1 _ _ rfl rfl
    obtain ⟨i', rfl⟩ := hk 2 _ _ rfl rfl
    obtain ⟨s', rfl⟩ := hk 3 _ _ rfl rfl
    obtain ⟨lp, l, b, o, lc, rfl, hp, hl, el⟩ := iX hx (hk 4 _ _ rfl rfl)
    obtain ⟨kp, ks, kb, ko, kc, rfl, hq, hK, ek⟩ := iS hy (hk 5 _ _ rfl rfl)
    obtain ⟨q1, q2, q3, q4, ql, qk⟩ := v
    simp only [aL, aK] at el ek
    simp only [vsz] at hv
    have hl1 : Ce l <= Ce ql := by rcases el with rfl | rfl <;> simp [Ce]
    have hk1 : ks.length <= qk.length := by rcases ek with rfl | rfl <;> simp
    have := Gl l
    exact Pc H k' i' bb' s' b o kb ko lp kp lc kc l ks hp hq hl hK (by omega) (by omega) w sp
      (fun v hv' us xs w h1 h2 h3 => ih v (by have := Gm hv'; omega) (by omega) us xs w h1 h2 h3)
def oC {A : Type} (H : PH 0) (cells : A -> List PV) (z b o : Nat) (l : List A) : Prop := ∀ (i : Nat) (v : A), l[i]? = some v -> ∃ us, qU H (cells v) us /\ ∀ (j : Nat) (u : Value), us[j]? = some u -> H b (o + i * z + j) = some u
theorem FX {A : Type} (C : Codec A) {H : PH 0} {l : List A} {x x' : Value} (h : qu H (.sl (C.rows l)) x) (k : oG x x') :
    ∃ lp l' b o lc, x' = .slice lp (l' : List A).length lc /\ (l' ≠ [] -> lp = some ⟨b, o, none⟩) /\ oC H C.cells C.z b o l' /\ (l' = l \/ l' = []) := by
  have nil : ∀ (lp : Option Addr) lc, x' = .slice lp 0 lc -> ∃ lp l' b o lc, x' = .slice lp (l' : List A).length lc /\ (l' ≠ [] -> lp = some ⟨b, o, none⟩) /\ oC H C.cells C.z b o l' /\ (l' = l \/ l' = []) := fun lp lc e =>
    ⟨lp, [], 0, 0, lc, e, fun h => absurd rfl h, fun i v hv => by simp at hv, .inr rfl⟩
  simp only [qu] at h
  rcases h with ⟨_, rfl | ⟨a, c, rfl⟩⟩ | ⟨b, o, z, cap, rfl, _, hr⟩
  · rcases k with rfl | rfl <;> exact nil _ _ rfl
  · rcases k with rfl | rfl <;> exact nil _ _ rfl
  · rcases k with rfl | rfl
    · refine ⟨some ⟨b, o, none⟩, l, b, o, cap, by rw [Codec.length], fun _ => rfl, fun i v hv => ?_, .inl rfl⟩
      have h1 : (C.rows l)[i]? = some (C.cells v) := Codec.getN C hv
      obtain ⟨e, vs, h2, h3⟩ := hr.get h1
      rw [C.hz] at e
      subst e
      exact ⟨vs, h2, h3⟩
    · exact nil _ _ rfl
structure eM (H : PH 0) (w : World) (b q : Nat) (d : Node) (k : Int) (x y z : Value) : Prop where
  c : w.cell? ⟨b, q, none⟩ = some (.int .i64 k) /\ w.cell? ⟨b, q + 1, none⟩ = some x /\ w.cell? ⟨b, q + 2, none⟩ = some y /\ w.cell? ⟨b, q + 3, none⟩ = some z
  f : w.frozen? ⟨b, q, none⟩ = false
  l : ∃ x0, qu H (.sl (qi d.labels)) x0 /\ oG x0 x
  k : ∃ y0, qu H (.sl (qi d.keys)) y0 /\ oG y0 y
  v : ∃ z0, qu H (.sl (Val.rows d.vals)) z0 /\ oG z0 z
  i : ∃ k0, H b q = some (.int .i64 k0)
theorem oJ.four {H : PH 0} {w : World} (s : oJ H w) {d : Node} {us : List Value} (hus : qU H d.cells us) {b q : Nat} (hcs : ∀ (j : Nat) (u : Value), us[j]? = some u -> H b (q + j) = some u) : ∃ k x y z, eM H w b q d k x y z := by
  obtain ⟨k, l, ks, vs⟩ := d
  simp only [Node.cells, qU] at hus
  obtain ⟨i0, _, rfl, h1, x0, _, rfl, h2, y0, _, rfl, h3, z0, _, rfl, h4, rfl⟩ := hus
  simp only [qu] at h1
  subst h1
  have a1 := hcs 0 _ rfl; have a2 := hcs 1 _ rfl; have a3 := hcs 2 _ rfl; have a4 := hcs 3 _ rfl
  obtain ⟨e1, c1, k', rfl⟩ := s.kin a1
  obtain ⟨e2, c2, k2⟩ := s.kin a2
  obtain ⟨e3, c3, k3⟩ := s.kin a3
  obtain ⟨e4, c4, k4⟩ := s.kin a4
  exact ⟨k', e2, e3, e4, ⟨c1, c2, c3, c4⟩, s.fz a1 (by simp), ⟨x0, h2, k2⟩, ⟨y0, h3, k3⟩, ⟨z0, h4, k4⟩, _, a1⟩
structure eN (H : PH 0) (w : World) (b q : Nat) (d : Edge) (k f t : Int) (s : ByteArray) (y z : Value) : Prop where
  c : w.cell? ⟨b, q, none⟩ = some (.int .i64 k) /\ w.cell? ⟨b, q + 1, none⟩ = some (.int .i64 f) /\ w.cell? ⟨b, q + 2, none⟩ = some (.int .i64 t) /\ w.cell? ⟨b, q + 3, none⟩ = some (.string s) /\ w.cell? ⟨b, q + 4, none⟩ = some y /\ w.cell? ⟨b, q + 5, none⟩ = some z
  f : w.frozen? ⟨b, q + 1, none⟩ = false
  k : ∃ y0, qu H (.sl (qi d.keys)) y0 /\ oG y0 y
  v : ∃ z0, qu H (.sl (Val.rows d.vals)) z0 /\ oG z0 z
  i : ∃ k0, H b (q + 1) = some (.int .i64 k0)
theorem oJ.sixE {H : PH 0} {w : World} (s : oJ H w) {d : Edge} {us : List Value} (hus : qU H d.cells us) {b q : Nat} (hcs : ∀ (j : Nat) (u : Value), us[j]? = some u -> H b (q + j) = some u) : ∃ k f t st y z, eN H w b q d k f t st y z := by
  obtain ⟨k, f, t, st, ks, vs⟩ := d
  simp only [Edge.cells, qU] at hus
  obtain ⟨i0, _, rfl, h1, i1, _, rfl, h2, i2, _, rfl, h3, i3, _, rfl, h4, y0, _, rfl, h5, z0, _, rfl, h6, rfl⟩ := hus
  simp only [qu] at h1 h2 h3 h4
  subst h1 h2 h3 h4
  have a1 := hcs 0 _ rfl; have a2 := hcs 1 _ rfl; have a3 := hcs 2 _ rfl; have a4 := hcs 3 _ rfl; have a5 := hcs 4 _ rfl; have a6 := hcs 5 _ rfl
  obtain ⟨e1, c1, k', rfl⟩ := s.kin a1
  obtain ⟨e2, c2, f', rfl⟩ := s.kin a2
  obtain ⟨e3, c3, t', rfl⟩ := s.kin a3
  obtain ⟨e4, c4, s', rfl⟩ := s.kin a4
  obtain ⟨e5, c5, k5⟩ := s.kin a5
  obtain ⟨e6, c6, k6⟩ := s.kin a6
  exact ⟨k', f', t', s', e5, e6, ⟨c1, c2, c3, c4, c5, c6⟩, s.fz a2 (by simp), ⟨y0, h5, k5⟩, ⟨z0, h6, k6⟩, _, a2⟩
theorem oK.alloc {H : PH 0} {a w : World} (h : oK H a w) (o : Obj) : oK H a (w.alloc o) := by
  refine h.trans ⟨h.sp.block fun b hb => heap_alloc_old w _ (h.sp.lt hb), ⟨rfl, rfl, rfl, by simp, fun k hk _ => heap_alloc_old w o hk⟩, fun b p hb _ => World.cell?_of_block (a := ⟨b, p, none⟩) (heap_alloc_old w _ hb)⟩
theorem oK.fresh {H : PH 0} {w w' : World} (s : oJ H w) (ho : w'.os = w.os) (ht : w'.tape = w.tape) (hu : w'.output = w.output) (hz : w.heap.size <= w'.heap.size) (hb : ∀ k, k < w.heap.size -> w'.heap[k]? = w.heap[k]?) : oK H w w' :=
  ⟨s.block fun b h => hb b (s.lt h), ⟨ho, ht, hu, hz, fun k hk _ => hb k hk⟩, fun b p hk _ => World.cell?_of_block (a := ⟨b, p, none⟩) (hb b hk)⟩
structure oB (H : PH 0) (wr wk : World) (j1 j2 : Nat) (x z : Value) : Prop where
  s : oK H wr wk
  lt : wr.heap.size < wk.heap.size
  c1 : wk.cell? ⟨wr.heap.size, j1, none⟩ = some x
  c2 : wk.cell? ⟨wr.heap.size, j2, none⟩ = some z
theorem oB.adv {H : PH 0} {wr wk wk' : World} {j1 j2 : Nat} {x z : Value} (h : oB H wr wk j1 j2 x z) (sp : oJ H wr) (k : oK H wk wk') : oB H wr wk' j1 j2 x z := by
  have e := k.other h.lt (fun hb => absurd (sp.lt hb) (jQ _))
  exact ⟨h.s.trans k, Nat.lt_of_lt_of_le h.lt k.keep.size, by rw [World.cell?_of_block (a := ⟨wr.heap.size, j1, none⟩) e]; exact h.c1, by rw [World.cell?_of_block (a := ⟨wr.heap.size, j2, none⟩) e]; exact h.c2⟩
set_option maxHeartbeats 4000000 in
set_option maxRecDepth 100000 in
theorem Mz (H : PH 0) (lp ep : Option Addr) (b o eb eo lc ec : Nat) (l : List Node) (es : List Edge) (hp : l ≠ [] -> lp = some ⟨b, o, none⟩) (hq : es ≠ [] -> ep = some ⟨eb, eo, none⟩) (hl : oC H Node.cells 4 b o l) (hk : oC H Edge.cells 6 eb eo es)
    (hln : l.length < 4611686018427387904) (hen : es.length < 4611686018427387904) (hlv : ∀ d ∈ l, Ce d.vals < 4611686018427387904 /\ d.labels.length < 4611686018427387904) (hev : ∀ d ∈ es, Ce d.vals < 4611686018427387904) (w : World) (sp : oJ H w) :
    Calls Tryz.prog 11 #[.agg #[.slice lp l.length lc, .slice ep es.length ec]] w fun e w' => e = .returned (.tuple #[]) /\ oK H w w' := by
  have hnb : ¬ oD H w.heap.size := fun h => absurd (sp.lt h) (jQ _)
  have cb : ∀ w', oK H (w.alloc (.cells #[.slice lp l.length lc, .slice ep es.length ec] 29)) w' -> w'.cell? ⟨w.heap.size, 0, none⟩ = some (.slice lp l.length lc) /\ w'.cell? ⟨w.heap.size, 1, none⟩ = some (.slice ep es.length ec) := fun w' h => by
    have e := h.other (b := w.heap.size) (by simp) hnb
    exact ⟨by rw [World.cell?_of_block (a := ⟨w.heap.size, 0, none⟩) e, World.cell?_alloc_new]; rfl, by rw [World.cell?_of_block (a := ⟨w.heap.size, 1, none⟩) e, World.cell?_alloc_new]; rfl⟩
  go_enter Tryz.func11, Tryz.ntmps11
  go_wp2
  go_loopw [2, 3, 4, 5] (fun vi _ _ _ wr => ∃ (i : Nat), vi = .int .i64 i /\ i <= l.length /\ oK H (w.alloc (.cells #[.slice lp l.length lc, .slice ep es.length ec] 29)) wr) (fun vi _ _ _ _ => l.length - (RowKit.intOf vi).toNat)
  case atStart => exact ⟨0, rfl, jR _, oK.refl (sp.block fun b hb => heap_alloc_old w _ (sp.lt hb))⟩
  case round =>
    obtain ⟨i, rfl, hin, hS⟩ := hrel
    obtain ⟨c0, c1⟩ := cb wr hS
    have hwr : w.heap.size < wr.heap.size := Nat.lt_of_lt_of_le (by simp) hS.keep.size
    rcases Nat.lt_or_ge i l.length with hlt | hge
    · obtain rfl := hp (List.ne_nil_of_length_pos (by omega))
      have hv := jf hlt
      have hmem := List.getElem_mem hlt
      generalize l[i] = d at hv hmem
      obtain ⟨us, hus, hcs⟩ := hl i d hv
      obtain ⟨k, x, y, z, ⟨⟨e1, e2, e3, e4⟩, _, ⟨x0, hx0, kx⟩, ⟨y0, hy0, ky⟩, ⟨z0, hz0, kz⟩, _⟩⟩ := hS.sp.four hus hcs
      have hfo : ∀ w', oK H wr w' -> ∃ k x y z, eM H w' b (o + i * 4) d k x y z := fun w' h => h.sp.four hus hcs
      obtain ⟨dv, dl⟩ := hlv d hmem
      obtain ⟨xp, xl, xb, xo, xc, rfl, hxp, hxl, exl⟩ := FX cV hx0 kx
      obtain ⟨yp, yl, yb, yo, yc, rfl, hyp, hyl, eyl⟩ := FX cV hy0 ky
      obtain ⟨zp, zl, zb, zo, zc, rfl, hzp, hzl, ezl⟩ := FX xZ hz0 kz
      have hxn : xl.length < 4611686018427387904 := by
        rcases exl with rfl | rfl
        · exact dl
        · simp
      have hzn : Ce zl < 4611686018427387904 := by
        rcases ezl with rfl | rfl
        · exact dv
        · simp [Ce]
      have hzn2 := Gl zl
      go_wp2
      go_loopw [4] (fun vi wk => ∃ (j : Nat), vi = .int .i64 j /\ j <= xl.length /\ oB H wr wk 1 3 (.slice xp xl.length xc) (.slice zp zl.length zc)) (fun vi _ => xl.length - (RowKit.intOf vi).toNat)
      case atStart =>
        exact ⟨0, rfl, jR _, (oK.refl hS.sp).alloc _, by simp, by rw [World.cell?_alloc_new]; rfl, by rw [World.cell?_alloc_new]; rfl⟩
      case round =>
        rename World => wk
        obtain ⟨j, rfl, hjn, hB⟩ := hrel
        have d1 := hB.c1
        have d3 := hB.c2
        rcases Nat.lt_or_ge j xl.length with hjt | hge
        · obtain rfl := hxp (List.ne_nil_of_length_pos (by omega))
          obtain ⟨su, hsu, hsc⟩ := hxl j _ (jf hjt)
          simp only [cV, qU, qu] at hsu
          obtain ⟨_, _, rfl, rfl, rfl⟩ := hsu
          have hj := hsc 0 _ rfl
          have hj : H xb (xo + j) = some (.string ⟨xl[j].toArray⟩) := by simpa [cV] using hj
          obtain ⟨g1, hg1, _⟩ := hB.s.sp.kin hj
          have z1 := hB.s.sp.fz hj (by simp)
          go_wp2
          go_roundw
          case rel => exact ⟨j + 1, by congr 1 <;> omega, hjt, hB.adv hS.sp (hB.s.sp.set hj ⟨_, rfl⟩ (.inr ⟨_, hj⟩))⟩
          case measure => simp [RowKit.intOf]; omega
        · go_wp2
          go_loopw [5] (fun vi wm => ∃ (j : Nat), vi = .int .i64 j /\ j <= zl.length /\ oB H wr wm 1 3 (.slice xp xl.length xc) (.slice zp zl.length zc)) (fun vi _ => zl.length - (RowKit.intOf vi).toNat)
          case atStart => exact ⟨0, rfl, jR _, hB⟩
          case round =>
            rename World => wm
            obtain ⟨m, rfl, hmn, hM⟩ := hrel
            have d1 := hM.c1
            have d3 := hM.c2
            rcases Nat.lt_or_ge m zl.length with hmt | hge
            · obtain rfl := hzp (List.ne_nil_of_length_pos (by omega))
              have hv2 := jf hmt
              have hmem2 := List.getElem_mem hmt
              generalize zl[m] = vi at hv2 hmem2
              obtain ⟨us2, hus2, hcs2⟩ := hzl m vi hv2
              have hcs2 : ∀ (j : Nat) (u : Value), us2[j]? = some u -> H zb (zo + m * 6 + j) = some u := hcs2
              obtain ⟨f1, f2, f3, f4, f5, f6, ⟨hkin, ⟨hf1, hf2, hf3, hf4, hf5, hf6⟩, _⟩⟩ := hM.s.sp.six hus2 hcs2
              have hc := Lc H _ vi (Nat.lt_succ_self _) (by have := Gm hmem2; omega) us2 [f1, f2, f3, f4, f5, f6] _ hus2 hkin hM.s.sp
              have aft : ∀ w', oK H wr w' -> ∃ g1 g2 g3 g4 g5 g6, oI H w' zb (zo + m * 6) us2 g1 g2 g3 g4 g5 g6 := fun w' h => h.sp.six hus2 hcs2
              go_wp2_with (go_at_call 32; refine hc.mono ?_; rintro e w1 ⟨rfl, h1⟩; have hM1 := hM.adv hS.sp h1; have q1 := hM1.c1; have q3 := hM1.c2; obtain ⟨g1, g2, g3, g4, g5, g6, ⟨hkin', ⟨hg1, hg2, hg3, hg4, hg5, hg6⟩, ⟨z1, z2, z3, z4, z5, z6⟩⟩⟩ := aft w1 hM1.s)
              go_roundw
              case rel =>
                have hd : decide (j < xl.length) = false := kdf (by omega)
                simp only [hd]
                refine ⟨_, _, _, _, _, _, _, _, _, _, _, _, _, _, _, _, _, _, _, ?_, rfl⟩
                exact ⟨m + 1, by congr 1 <;> omega, hmt, hM1.adv hS.sp (h1.sp.six_set hus2 hcs2 _ _ _ _)⟩
              case measure => simp [RowKit.intOf]; omega
            · obtain ⟨n0, n1⟩ := cb _ (hS.trans hM.s)
              obtain ⟨k', x', y', z', ⟨⟨e1', e2', e3', e4'⟩, hf', _, _, _, ⟨k0, hk0⟩⟩⟩ := hfo _ hM.s
              go_wp2
              go_roundw
              case rel => exact ⟨i + 1, by congr 1 <;> omega, hlt, hS.trans (hM.s.trans (hM.s.sp.set hk0 ⟨_, rfl⟩ (.inl ⟨_, k0, hk0, jw _, by omega⟩)))⟩
              case measure => simp [RowKit.intOf]; omega
    · go_wp2
      go_loopw [6, 7, 8] (fun vi _ _ wk => ∃ (i : Nat), vi = .int .i64 i /\ i <= es.length /\ oK H (w.alloc (.cells #[.slice lp l.length lc, .slice ep es.length ec] 29)) wk) (fun vi _ _ _ => es.length - (RowKit.intOf vi).toNat)
      case atStart => exact ⟨0, rfl, jR _, hS⟩
      case round =>
        rename World => we
        obtain ⟨i', rfl, hin', hE⟩ := hrel
        obtain ⟨c0', c1'⟩ := cb we hE
        have hwe : w.heap.size < we.heap.size := Nat.lt_of_lt_of_le (by simp) hE.keep.size
        rcases Nat.lt_or_ge i' es.length with hlt | hge
        · obtain rfl := hq (List.ne_nil_of_length_pos (by omega))
          have hv := jf hlt
          have hmem := List.getElem_mem hlt
          generalize es[i'] = d at hv hmem
          obtain ⟨us, hus, hcs⟩ := hk i' d hv
          obtain ⟨k, f, t, st, y, z, ⟨⟨e1, e2, e3, e4, e5, e6⟩, _, ⟨y0, hy0, ky⟩, ⟨z0, hz0, kz⟩, _⟩⟩ := hE.sp.sixE hus hcs
          have hfo : ∀ w', oK H we w' -> ∃ k f t st y z, eN H w' eb (eo + i' * 6) d k f t st y z := fun w' h => h.sp.sixE hus hcs
          have dv := hev d hmem
          obtain ⟨yp, yl, yb, yo, yc, rfl, hyp, hyl, eyl⟩ := FX cV hy0 ky
          obtain ⟨zp, zl, zb, zo, zc, rfl, hzp, hzl, ezl⟩ := FX xZ hz0 kz
          have hzn : Ce zl < 4611686018427387904 := by
            rcases ezl with rfl | rfl
            · exact dv
            · simp [Ce]
          have hzn2 := Gl zl
          go_wp2
          go_loopw [8] (fun vi wm => ∃ (j : Nat), vi = .int .i64 j /\ j <= zl.length /\ oB H we wm 5 5 (.slice zp zl.length zc) (.slice zp zl.length zc)) (fun vi _ => zl.length - (RowKit.intOf vi).toNat)
          case atStart =>
            exact ⟨0, rfl, jR _, (oK.refl hE.sp).alloc _, by simp, by rw [World.cell?_alloc_new]; rfl, by rw [World.cell?_alloc_new]; rfl⟩
          case round =>
            rename World => wm
            obtain ⟨m, rfl, hmn, hM⟩ := hrel
            have d3 := hM.c2
            rcases Nat.lt_or_ge m zl.length with hmt | hge
            · obtain rfl := hzp (List.ne_nil_of_length_pos (by omega))
              have hv2 := jf hmt
              have hmem2 := List.getElem_mem hmt
              generalize zl[m] = vi at hv2 hmem2
              obtain ⟨us2, hus2, hcs2⟩ := hzl m vi hv2
              have hcs2 : ∀ (j : Nat) (u : Value), us2[j]? = some u -> H zb (zo + m * 6 + j) = some u := hcs2
              obtain ⟨f1, f2, f3, f4, f5, f6, ⟨hkin, ⟨hf1, hf2, hf3, hf4, hf5, hf6⟩, _⟩⟩ := hM.s.sp.six hus2 hcs2
              have hc := Lc H _ vi (Nat.lt_succ_self _) (by have := Gm hmem2; omega) us2 [f1, f2, f3, f4, f5, f6] _ hus2 hkin hM.s.sp
              have aft : ∀ w', oK H we w' -> ∃ g1 g2 g3 g4 g5 g6, oI H w' zb (zo + m * 6) us2 g1 g2 g3 g4 g5 g6 := fun w' h => h.sp.six hus2 hcs2
              go_wp2_with (go_at_call 32; refine hc.mono ?_; rintro e w1 ⟨rfl, h1⟩; have hM1 := hM.adv hE.sp h1; have q3 := hM1.c2; obtain ⟨g1, g2, g3, g4, g5, g6, ⟨hkin', ⟨hg1, hg2, hg3, hg4, hg5, hg6⟩, ⟨z1, z2, z3, z4, z5, z6⟩⟩⟩ := aft w1 hM1.s)
              go_roundw
              case rel => exact ⟨m + 1, by congr 1 <;> omega, hmt, hM1.adv hE.sp (h1.sp.six_set hus2 hcs2 _ _ _ _)⟩
              case measure => simp [RowKit.intOf]; omega
            · obtain ⟨n0, n1⟩ := cb _ (hE.trans hM.s)
              obtain ⟨k', f', t', s', y', z', ⟨⟨e1', e2', e3', e4', e5', e6'⟩, hf', _, _, ⟨k0, hk0⟩⟩⟩ := hfo _ hM.s
              go_wp2
              go_roundw
              case rel =>
                have hd : decide (i < l.length) = false := kdf (by omega)
                simp only [hd]
                refine ⟨_, _, _, _, _, _, _, _, _, _, _, _, _, _, _, _, _, _, _, _, _, _, _, _, _, _, _, _, _, _, _, _, _, _, _, _, _, _, ?_, rfl⟩
                exact ⟨i' + 1, by congr 1 <;> omega, hlt, hE.trans (hM.s.trans (hM.s.sp.set hk0 ⟨_, rfl⟩ (.inl ⟨_, k0, hk0, jw _, by omega⟩)))⟩
              case measure => simp [RowKit.intOf]; omega
        · go_wp2
          go_end0
          exact ⟨rfl, ((oK.refl sp).alloc _).trans hE⟩
end W
end
section
open Go Go.Proofs Ax Go.RowKit
namespace W
theorem aG {La : Nat} {H : PH La} {w : World} (s : SatH H w) : SatH (Lw := w.heap.size) H w :=
  ⟨s.cell, s.root, jw _, fun b o v hv hb => absurd (s.lt hv) (by omega)⟩
theorem aH {L : Nat} {H : PH L} {w : World} (s : SatH H w) : oJ (part L w.heap.size H) w := fun b o u hu => by
  unfold Ax.part at hu
  split at hu
  · rename_i hb
    exact ⟨⟨u, (s.cell b o u hu).1, oG.refl u⟩, s.nf b o u hu hb.1⟩
  · cases hu
theorem ll {L : Nat} {H : PH L} {hi b : Nat} (h : oD (part L hi H) b) : L <= b := by
  obtain ⟨o, u, hu⟩ := h
  unfold Ax.part at hu
  split at hu
  · rename_i hb; exact hb.1
  · cases hu
theorem Sc {A : Type} {N : A -> List PV} {cells : A -> List PV} {z L hi : Nat} {H : PH L} (hh : ∀ b o v, H b o = some v -> b < hi) (hz : ∀ d, (N d).length = z) (hw : ∀ d, wkL (N d) = cells d) (hn : ∀ d, nwL (N d)) {l : List A} {v : Value} (r : qu H (.nsl (l.map N)) v) :
    ∃ lp b o lc, v = .slice lp l.length lc /\ (l ≠ [] -> lp = some ⟨b, o, none⟩) /\ oC (part L hi H) cells z b o l := by
  simp only [qu] at r
  rcases r with ⟨e, r⟩ | ⟨b, o, z', cap, rfl, _, hb, rr⟩
  · have : l = [] := by simpa using e
    subst this
    rcases r with rfl | ⟨a, c, rfl⟩
    · exact ⟨none, 0, 0, 0, rfl, fun h => absurd rfl h, fun i r h => by simp at h⟩
    · exact ⟨some a, 0, 0, c, rfl, fun h => absurd rfl h, fun i r h => by simp at h⟩
  · refine ⟨_, b, o, cap, by simp, fun _ => rfl, fun i d h => ?_⟩
    have h1 : (l.map N)[i]? = some (N d) := by rw [List.getElem?_map, h]; rfl
    obtain ⟨e, vs, h2, h3⟩ := rr.get h1
    rw [hz] at e
    subst e
    have h4 := XT hh (hn d) h2
    rw [hw] at h4
    exact ⟨vs, h4, fun j u hu => HL hh (h3 j u hu) hb.1⟩
theorem Nk {Lw : Nat} {H : PH Lw} {rows : List (List PV)} {v : Value} (h : qu H (.nsl rows) v) : ∃ p n c, v = .slice p n c := by
  simp only [qu] at h
  rcases h with ⟨_, rfl | ⟨a, cap, rfl⟩⟩ | ⟨b, o, z', cap, rfl, _⟩
  · exact ⟨_, _, _, rfl⟩
  · exact ⟨_, _, _, rfl⟩
  · exact ⟨_, _, _, rfl⟩
theorem bZ {w : World} {b : Nat} {cs : Array Value} {t : TypeId} (h : w.heap[b]? = some (.cells cs t)) (i : Nat) {v : Value} (hi : cs[i]? = some v) : w.cell? ⟨b, i, none⟩ = some v := by simp [World.cell?, h, hi]
theorem TN (d : Node) : wkL d.cells = d.cells := by
  obtain ⟨x1, x2, x3, x4⟩ := d
  simp only [Node.cells, wkL, wkP, tQ, Vb]
theorem Cd : ∀ l : List Node, wkR (Node.rows l) = Node.rows l
  | [] => rfl
  | d :: l => by
    show wkR (d.cells :: Node.rows l) = d.cells :: Node.rows l
    simp only [wkR, TN d, Cd l]
theorem TM (d : Edge) : wkL d.cells = d.cells := by
  obtain ⟨x1, x2, x3, x4, x5, x6⟩ := d
  simp only [Edge.cells, wkL, wkP, tQ, Vb]
theorem Cc : ∀ l : List Edge, wkR (Edge.rows l) = Edge.rows l
  | [] => rfl
  | d :: l => by
    show wkR (d.cells :: Edge.rows l) = d.cells :: Edge.rows l
    simp only [wkR, TM d, Cc l]
theorem lA {La Lb : Nat} {H : PH La} {H' : PH Lb} (h : ∀ b o v, H b o = some v -> H' b o = some v) {p : PV} (hp : wkP p = p) {v : Value} (r : qu H p v) : qu H' p v := by
  have := qu.base h r
  rwa [hp] at this
theorem BN {L : Nat} {H : PH L} {s : State} {v : Value} (r : qu H (.agg (mH.cells s)) v) : ∃ x y, v = .agg #[x, y, .int .i64 s.next.node, .int .i64 s.next.edge] /\ qu H (.sl (Node.rows s.g.nodes)) x /\ qu H (.sl (Edge.rows s.g.edges)) y := by
  obtain ⟨⟨x1, x2⟩, ⟨x3, x4⟩⟩ := s
  obtain ⟨us, rfl, r⟩ := r
  simp only [mH, State.cells, qU] at r
  obtain ⟨x, _, rfl, hx, y, _, rfl, hy, _, _, rfl, h3, _, _, rfl, h4, rfl⟩ := r
  simp only [qu] at h3 h4
  subst h3 h4
  exact ⟨x, y, rfl, hx, hy⟩
theorem QZ {L : Nat} {H : PH L} {s : State} {x y : Value} (hx : qu H (.sl (Node.rows s.g.nodes)) x) (hy : qu H (.sl (Edge.rows s.g.edges)) y) : qu H (.agg (mH.cells s)) (.agg #[x, y, .int .i64 s.next.node, .int .i64 s.next.edge]) := by
  obtain ⟨⟨x1, x2⟩, ⟨x3, x4⟩⟩ := s
  exact ⟨[x, y, .int .i64 x3, .int .i64 x4], rfl, x, _, rfl, hx, y, _, rfl, hy, _, _, rfl, rfl, _, _, rfl, rfl, rfl⟩
abbrev ax : qd := ⟨0, [], ⟨0, false, 0, [], [], []⟩, [], []⟩
abbrev xK (vars : List (List UInt8)) (dt : Bool) : qy := ⟨8, [], [], ax, [], [], false, [], [], [], [], vars, dt⟩
structure TS (n : Nat) (vars : List (List UInt8)) (dt : Bool) (a : Given) (r : State × Int) : Prop where
  may : vr n a (xK vars dt) = some true
  copy : nc n a.s = some a.s
  del : xQ n vars dt a.v a.s = some r
  ref : cO n vars dt a.v a.s = some r
  same : dW n r.1 r.1 = some true
  own : dW n a.s a.s = some true
  works : ct n = some true
  nl : r.1.g.nodes.length < 4611686018427387904
  el : r.1.g.edges.length < 4611686018427387904
  nv : ∀ d ∈ r.1.g.nodes, Ce d.vals < 4611686018427387904 /\ d.labels.length < 4611686018427387904
  ev : ∀ d ∈ r.1.g.edges, Ce d.vals < 4611686018427387904
theorem QV {L : Nat} {H : PH L} : qu H (.sl []) (.slice none 0 0) := by simp [qu]
theorem NF {L : Nat} {H : PH L} {vars : List (List UInt8)} {dt : Bool} {vv : Value} (rv : qu H (.sl (qi vars)) vv) : qu H (.agg (ub.cells (xK vars dt))) (.agg #[.int .i64 8, .slice none 0 0, .slice none 0 0, .int .i64 0, .string ⟨#[]⟩, .int .i64 0, .bool false, .int .i64 0, .string ⟨#[]⟩, .slice none 0 0, .slice none 0 0, .slice none 0 0, .slice none 0 0, .string ⟨#[]⟩, .slice none 0 0, .bool false, .slice none 0 0, .slice none 0 0, .slice none 0 0, .slice none 0 0, vv, .bool dt]) := by
  refine ⟨_, rfl, ?_⟩
  simp only [ub, qy.cells, qU]
  exact ⟨_, _, rfl, rfl, _, _, rfl, QV, _, _, rfl, QV, _, _, rfl, rfl, _, _, rfl, rfl, _, _, rfl, rfl, _, _, rfl, rfl, _, _, rfl, rfl, _, _, rfl, rfl, _, _, rfl, QV, _, _, rfl, QV, _, _, rfl, QV, _, _, rfl, QV, _, _, rfl, rfl, _, _, rfl, QV, _, _, rfl, rfl, _, _, rfl, QV, _, _, rfl, QV, _, _, rfl, QV, _, _, rfl, QV, vv, _, rfl, rv, _, _, rfl, rfl, rfl⟩
theorem Ro {L : Nat} {H : PH L} {x1 : List (List UInt8)} {x2 : List Val} {x3 : List Node} {x4 : List Edge} {x5 x6 x7 x9 : Int} {x8 : Bool} {x10 : List UInt8} {x11 : List Val} {x12 : List (List UInt8)} {v1 v2 v3 v4 v11 v12 : Value}
    (r1 : qu H (.sl (qi x1)) v1) (r2 : qu H (.sl (Val.rows x2)) v2) (r3 : qu H (.sl (Node.rows x3)) v3) (r4 : qu H (.sl (Edge.rows x4)) v4) (r11 : qu H (.sl (Val.rows x11)) v11) (r12 : qu H (.sl (qi x12)) v12) :
    qu H (.agg (XM.cells ⟨⟨x1, x2⟩, ⟨⟨x3, x4⟩, ⟨x5, x6⟩⟩, ⟨x7, x8, x9, x10, x11, x12⟩⟩)) (.agg #[v1, v2, v3, v4, .int .i64 x5, .int .i64 x6, .int .i64 x7, .bool x8, .int .i64 x9, .string ⟨x10.toArray⟩, v11, v12]) := by
  refine ⟨_, rfl, ?_⟩
  simp only [XM, Given.cells, qU]
  exact ⟨v1, _, rfl, r1, v2, _, rfl, r2, v3, _, rfl, r3, v4, _, rfl, r4, _, _, rfl, rfl, _, _, rfl, rfl, _, _, rfl, rfl, _, _, rfl, rfl, _, _, rfl, rfl, _, _, rfl, rfl, v11, _, rfl, r11, v12, _, rfl, r12, rfl⟩
theorem Bu {L : Nat} {H : PH L} {x1 : List (List UInt8)} {x2 : List Val} {x3 : List Node} {x4 : List Edge} {x5 x6 x7 x9 : Int} {x8 : Bool} {x10 : List UInt8} {x11 : List Val} {x12 : List (List UInt8)} {va : Value}
    (r : qu H (.agg (XM.cells ⟨⟨x1, x2⟩, ⟨⟨x3, x4⟩, ⟨x5, x6⟩⟩, ⟨x7, x8, x9, x10, x11, x12⟩⟩)) va) :
    ∃ v1 v2 v3 v4 v11 v12, va = .agg #[v1, v2, v3, v4, .int .i64 x5, .int .i64 x6, .int .i64 x7, .bool x8, .int .i64 x9, .string ⟨x10.toArray⟩, v11, v12] /\ qu H (.sl (qi x1)) v1 /\ qu H (.sl (Val.rows x2)) v2 /\ qu H (.sl (Node.rows x3)) v3 /\ qu H (.sl (Edge.rows x4)) v4 /\ qu H (.sl (Val.rows x11)) v11 /\ qu H (.sl (qi x12)) v12 := by
  obtain ⟨us, rfl, ra⟩ := r
  simp only [XM, Given.cells, qU] at ra
  obtain ⟨v1, _, rfl, r1, v2, _, rfl, r2, v3, _, rfl, r3, v4, _, rfl, r4, v5, _, rfl, r5, v6, _, rfl, r6, v7, _, rfl, r7, v8, _, rfl, r8, v9, _, rfl, r9, v10, _, rfl, r10, v11, _, rfl, r11, v12, _, rfl, r12, rfl⟩ := ra
  simp only [qu] at r5 r6 r7 r8 r9 r10
  subst r5 r6 r7 r8 r9 r10
  exact ⟨v1, v2, v3, v4, v11, v12, rfl, r1, r2, r3, r4, r11, r12⟩
theorem Ra {L : Nat} {H : PH L} {x1 : List (List UInt8)} {x2 : List Val} {v1 v2 : Value} (r1 : qu H (.sl (qi x1)) v1) (r2 : qu H (.sl (Val.rows x2)) v2) : qu H (.agg (SV.cells ⟨x1, x2⟩)) (.agg #[v1, v2]) :=
  ⟨_, rfl, v1, _, rfl, r1, v2, _, rfl, r2, rfl⟩
theorem aq {L : Nat} {H : PH L} {p q : PV} {u v : Value} (h : qu H p u) (k : qu H q v) : qU H [p, q] [u, v] := ⟨u, _, rfl, h, v, _, rfl, k, rfl⟩
theorem au {L : Nat} {H : PH L} {p q r s : PV} {a b c d : Value} (h1 : qu H p a) (h2 : qu H q b) (h3 : qu H r c) (h4 : qu H s d) : qU H [p, q, r, s] [a, b, c, d] := ⟨a, _, rfl, h1, b, _, rfl, h2, c, _, rfl, h3, d, _, rfl, h4, rfl⟩
theorem ez {L : Nat} {H : PH L} {p : PV} {u : Value} (h : qu H p u) : qU H [p] [u] := ⟨u, _, rfl, h, rfl⟩
section
variable {n : Nat} {vars : List (List UInt8)} {dt : Bool} {x1 : List (List UInt8)} {x2 : List Val} {x3 : List Node} {x4 : List Edge} {x5 x6 x7 x9 : Int} {x8 : Bool} {x10 : List UInt8} {x11 : List Val} {x12 : List (List UInt8)} {v1 v2 v3 v4 v11 v12 vv : Value} {r : State × Int}
theorem aw {b : Bool} (f : vr n ⟨⟨x1, x2⟩, ⟨⟨x3, x4⟩, ⟨x5, x6⟩⟩, ⟨x7, x8, x9, x10, x11, x12⟩⟩ (xK vars dt) = some b) {L : Nat} {H : PH L} {w : World} (hs : SatH H w)
    (r1 : qu H (.sl (qi x1)) v1) (r2 : qu H (.sl (Val.rows x2)) v2) (r3 : qu H (.sl (Node.rows x3)) v3) (r4 : qu H (.sl (Edge.rows x4)) v4) (r11 : qu H (.sl (Val.rows x11)) v11) (r12 : qu H (.sl (qi x12)) v12) (rv : qu H (.sl (qi vars)) vv) :
    Calls Tryz.prog 5 #[.agg #[v1, v2, v3, v4, .int .i64 x5, .int .i64 x6, .int .i64 x7, .bool x8, .int .i64 x9, .string ⟨x10.toArray⟩, v11, v12], .agg #[.int .i64 8, .slice none 0 0, .slice none 0 0, .int .i64 0, .string ⟨#[]⟩, .int .i64 0, .bool false, .int .i64 0, .string ⟨#[]⟩, .slice none 0 0, .slice none 0 0, .slice none 0 0, .slice none 0 0, .string ⟨#[]⟩, .slice none 0 0, .bool false, .slice none 0 0, .slice none 0 0, .slice none 0 0, .slice none 0 0, vv, .bool dt]] w fun e w' => e = .returned (.bool b) /\ ∃ H' : PH L, Calm H w H' w' :=
  ((Xt n _ _ _ f).calls (fun _ _ => Tryz.call5 _ _) hs (vs := [_, _]) (aq (Ro r1 r2 r3 r4 r11 r12) (NF rv))).mono fun e w' ⟨v, H', h1, h2, h3⟩ => by
    have h3 : v = .bool b := h3
    subst h3
    exact ⟨h1, H', h2⟩
theorem av (f : nc n ⟨⟨x3, x4⟩, ⟨x5, x6⟩⟩ = some ⟨⟨x3, x4⟩, ⟨x5, x6⟩⟩) {L : Nat} {H : PH L} {w : World} (hs : SatH H w) (r3 : qu H (.sl (Node.rows x3)) v3) (r4 : qu H (.sl (Edge.rows x4)) v4) :
    Calls Tryz.prog 7 #[.agg #[v3, v4, .int .i64 x5, .int .i64 x6]] w fun e w' => ∃ p n c q m d, e = .returned (.agg #[.slice p n c, .slice q m d, .int .i64 x5, .int .i64 x6]) /\ ∃ H' : PH L, Calm H w H' w' /\ qu H' (.sl (Node.rows x3)) (.slice p n c) /\ qu H' (.sl (Edge.rows x4)) (.slice q m d) :=
  ((Dd n _ _ f).calls (fun _ _ => Tryz.call7 _ _) hs (vs := [_]) (ez (QZ (s := ⟨⟨x3, x4⟩, ⟨x5, x6⟩⟩) r3 r4))).mono fun e w' ⟨v, H', h1, h2, h3⟩ => by
    obtain ⟨x, y, rfl, hx, hy⟩ := BN h3
    obtain ⟨p, c, rfl⟩ := xu hx
    obtain ⟨q, d, rfl⟩ := xu hy
    exact ⟨_, _, _, _, _, _, h1, H', h2, hx, hy⟩
theorem eB (f : cO n vars dt ⟨x1, x2⟩ ⟨⟨x3, x4⟩, ⟨x5, x6⟩⟩ = some r) {L : Nat} {H : PH L} {w : World} (hs : SatH H w) (rv : qu H (.sl (qi vars)) vv) (r1 : qu H (.sl (qi x1)) v1) (r2 : qu H (.sl (Val.rows x2)) v2) (r3 : qu H (.sl (Node.rows x3)) v3) (r4 : qu H (.sl (Edge.rows x4)) v4) :
    Calls Tryz.prog 9 #[vv, .bool dt, .agg #[v1, v2], .agg #[v3, v4, .int .i64 x5, .int .i64 x6]] w fun e w' => ∃ p n c q m d, e = .returned (.tuple #[.agg #[.slice p n c, .slice q m d, .int .i64 r.1.next.node, .int .i64 r.1.next.edge], .int .i64 r.2]) /\ ∃ H' : PH L, Calm H w H' w' /\ qu H' (.sl (Node.rows r.1.g.nodes)) (.slice p n c) /\ qu H' (.sl (Edge.rows r.1.g.edges)) (.slice q m d) :=
  ((GN n _ _ _ _ _ f).calls (fun _ _ => Tryz.call9 _ _) hs (vs := [_, _, _, _]) (au rv (by rfl) (Ra r1 r2) (QZ (s := ⟨⟨x3, x4⟩, ⟨x5, x6⟩⟩) r3 r4))).mono fun e w' ⟨v, H', h1, h2, h3⟩ => by
    obtain ⟨us, rfl, a, _, rfl, ha, b, _, rfl, hb, rfl⟩ := h3
    obtain ⟨x, y, rfl, hx, hy⟩ := BN ha
    have hb : b = .int .i64 r.2 := hb
    subst hb
    obtain ⟨p, c, rfl⟩ := xu hx
    obtain ⟨q, d, rfl⟩ := xu hy
    exact ⟨_, _, _, _, _, _, h1, H', h2, hx, hy⟩
theorem eA (f : xQ n vars dt ⟨x1, x2⟩ ⟨⟨x3, x4⟩, ⟨x5, x6⟩⟩ = some r) {L : Nat} {H : PH L} {w : World} (hs : SatH H w) (rv : qu H (.sl (qi vars)) vv) (r1 : qu H (.sl (qi x1)) v1) (r2 : qu H (.sl (Val.rows x2)) v2) (r3 : qu H (.sl (Node.rows x3)) v3) (r4 : qu H (.sl (Edge.rows x4)) v4) :
    Calls Tryz.prog 8 #[vv, .bool dt, .agg #[v1, v2], .agg #[v3, v4, .int .i64 x5, .int .i64 x6]] w fun e w' => ∃ p n c q m d, e = .returned (.tuple #[.agg #[.slice p n c, .slice q m d, .int .i64 r.1.next.node, .int .i64 r.1.next.edge], .int .i64 r.2]) /\ ∃ H' : PH L, Calm H w H' w' /\ qu H' (.nsl (Node.rowsN r.1.g.nodes)) (.slice p n c) /\ qu H' (.nsl (Edge.rowsN r.1.g.edges)) (.slice q m d) :=
  ((XA n _ _ _ _ _ f).calls (fun _ _ => Tryz.call8 _ _) hs (vs := [_, _, _, _]) (au rv (by rfl) (Ra r1 r2) (QZ (s := ⟨⟨x3, x4⟩, ⟨x5, x6⟩⟩) r3 r4))).mono fun e w' ⟨v, H', h1, h2, h3⟩ => by
    obtain ⟨us, rfl, a, _, rfl, ha, b, _, rfl, hb, rfl⟩ := h3
    obtain ⟨us, rfl, x, _, rfl, hx, y, _, rfl, hy, c, _, rfl, hc, d, _, rfl, hd, rfl⟩ := ha
    have hb : b = .int .i64 r.2 := hb
    have hc : c = .int .i64 r.1.next.node := hc
    have hd : d = .int .i64 r.1.next.edge := hd
    subst hb hc hd
    obtain ⟨p, n, c, rfl⟩ := Nk hx
    obtain ⟨q, m, d, rfl⟩ := Nk hy
    exact ⟨_, _, _, _, _, _, h1, H', h2, hx, hy⟩
theorem im {s t : State} {b : Bool} (f : dW n s t = some b) {L : Nat} {H : PH L} {w : World} (hs : SatH H w) (r1 : qu H (.sl (Node.rows s.g.nodes)) v1) (r2 : qu H (.sl (Edge.rows s.g.edges)) v2) (r3 : qu H (.sl (Node.rows t.g.nodes)) v3) (r4 : qu H (.sl (Edge.rows t.g.edges)) v4) :
    Calls Tryz.prog 10 #[.agg #[v1, v2, .int .i64 s.next.node, .int .i64 s.next.edge], .agg #[v3, v4, .int .i64 t.next.node, .int .i64 t.next.edge]] w fun e w' => e = .returned (.bool b) /\ ∃ H' : PH L, Calm H w H' w' :=
  ((De n _ _ _ f).calls (fun _ _ => Tryz.call10 _ _) hs (vs := [_, _]) (aq (QZ r1 r2) (QZ r3 r4))).mono fun e w' ⟨v, H', h1, h2, h3⟩ => by
    have h3 : v = .bool b := h3
    subst h3
    exact ⟨h1, H', h2⟩
theorem RW {b : Bool} (f : ct n = some b) {L : Nat} {H : PH L} {w : World} (hs : SatH H w) : Calls Tryz.prog 6 #[] w fun e w' => e = .returned (.bool b) /\ ∃ H' : PH L, Calm H w H' w' :=
  ((Ci n _ f).calls (fun _ _ => Tryz.call6 _ _) hs (vs := []) rfl).mono fun e w' ⟨v, H', h1, h2, h3⟩ => by
    have h3 : v = .bool b := h3
    subst h3
    exact ⟨h1, H', h2⟩
end
theorem iY {L : Nat} {H : PH L} {w : World} (hs : SatH H w) {l : List Node} {es : List Edge} {x y : Value} (rx : qu H (.nsl (Node.rowsN l)) x) (ry : qu H (.nsl (Edge.rowsN es)) y)
    (nl : l.length < 4611686018427387904) (el : es.length < 4611686018427387904) (nv : ∀ d ∈ l, Ce d.vals < 4611686018427387904 /\ d.labels.length < 4611686018427387904) (ev : ∀ d ∈ es, Ce d.vals < 4611686018427387904) :
    Calls Tryz.prog 11 #[.agg #[x, y]] w fun e w' => e = .returned (.tuple #[]) /\ Keep (fun k => L <= k) w w' := by
  have hh : ∀ b o v, H b o = some v -> b < w.heap.size := fun b o v hv => hs.lt hv
  obtain ⟨lp, b, o, lc, rfl, hp, hl⟩ := Sc (N := Node.cellsN) (cells := Node.cells) (z := 4) hh (fun ⟨_, _, _, _⟩ => rfl) SC (fun ⟨_, _, _, _⟩ => by simp only [Node.cellsN, nwL, nwP, Ed, Ec, and_self]) rx
  obtain ⟨ep, eb, eo, ec, rfl, hq, hk⟩ := Sc (N := Edge.cellsN) (cells := Edge.cells) (z := 6) hh (fun ⟨_, _, _, _, _, _⟩ => rfl) SB (fun ⟨_, _, _, _, _, _⟩ => by simp only [Edge.cellsN, nwL, nwP, Ed, Ec, and_self]) ry
  exact (Mz _ lp ep b o eb eo lc ec l es hp hq hl hk nl el nv ev w (aH hs)).mono fun e w' ⟨h1, h2⟩ => ⟨h1, h2.keep.os, h2.keep.tape, h2.keep.output, h2.keep.size, fun i hi hn => h2.keep.block i hi fun h => hn (ll h)⟩
end W
end
section
open Go Go.Proofs Ax Go.RowKit
namespace W
set_option maxHeartbeats 2000000 in
set_option maxRecDepth 100000 in
theorem He {n : Nat} {vars : List (List UInt8)} {dt : Bool} {x1 : List (List UInt8)} {x2 : List Val} {x3 : List Node} {x4 : List Edge} {x5 x6 x7 x9 : Int} {x8 : Bool} {x10 : List UInt8} {x11 : List Val} {x12 : List (List UInt8)} {r : State × Int}
    (f : TS n vars dt ⟨⟨x1, x2⟩, ⟨⟨x3, x4⟩, ⟨x5, x6⟩⟩, ⟨x7, x8, x9, x10, x11, x12⟩⟩ r) {Lw : Nat} {H : PH Lw} {w : World} {vv va : Value} (hs : SatH H w) (rv : qu H (.sl (qi vars)) vv) (ra : qu H (.agg (XM.cells ⟨⟨x1, x2⟩, ⟨⟨x3, x4⟩, ⟨x5, x6⟩⟩, ⟨x7, x8, x9, x10, x11, x12⟩⟩)) va) :
    Calls Tryz.prog 3 #[vv, .bool dt, va] w fun e w' => e = .returned (.bool true) /\ Below w.heap.size w w' := by
  obtain ⟨v1, v2, v3, v4, v11, v12, rfl, r1, r2, r3, r4, r11, r12⟩ := Bu ra
  obtain ⟨pv, cv, rfl⟩ := xu rv
  obtain ⟨p1, c1, rfl⟩ := xu r1
  obtain ⟨p2, c2, rfl⟩ := xu r2
  obtain ⟨p3, c3, rfl⟩ := xu r3
  obtain ⟨p4, c4, rfl⟩ := xu r4
  obtain ⟨p11, c11, rfl⟩ := xu r11
  obtain ⟨p12, c12, rfl⟩ := xu r12
  generalize (qi vars).length = nv at *
  generalize (qi x1).length = n1 at *
  generalize (Val.rows x2).length = n2 at *
  generalize (Node.rows x3).length = n3 at *
  generalize (Edge.rows x4).length = n4 at *
  generalize (Val.rows x11).length = n11 at *
  generalize (qi x12).length = n12 at *
  have hs0 : SatH H (w.alloc (.cells #[.slice p1 n1 c1, .slice p2 n2 c2, .slice p3 n3 c3, .slice p4 n4 c4, .int .i64 x5, .int .i64 x6, .int .i64 x7, .bool x8, .int .i64 x9, .string ⟨x10.toArray⟩, .slice p11 n11 c11, .slice p12 n12 c12] 37)) := hs.block (by simp) fun b _ _ hv => heap_alloc_old w _ (hs.lt hv)
  have b0 := Zc w (.cells #[.slice p1 n1 c1, .slice p2 n2 c2, .slice p3 n3 c3, .slice p4 n4 c4, .int .i64 x5, .int .i64 x6, .int .i64 x7, .bool x8, .int .i64 x9, .string ⟨x10.toArray⟩, .slice p11 n11 c11, .slice p12 n12 c12] 37) _ rfl
  have z0 : w.heap.size < (w.alloc (.cells #[.slice p1 n1 c1, .slice p2 n2 c2, .slice p3 n3 c3, .slice p4 n4 c4, .int .i64 x5, .int .i64 x6, .int .i64 x7, .bool x8, .int .i64 x9, .string ⟨x10.toArray⟩, .slice p11 n11 c11, .slice p12 n12 c12] 37)).heap.size := by simp
  have B0 : Below w.heap.size w (w.alloc (.cells #[.slice p1 n1 c1, .slice p2 n2 c2, .slice p3 n3 c3, .slice p4 n4 c4, .int .i64 x5, .int .i64 x6, .int .i64 x7, .bool x8, .int .i64 x9, .string ⟨x10.toArray⟩, .slice p11 n11 c11, .slice p12 n12 c12] 37)) := (Below.refl _ w).alloc (jw _) _
  have m5 := aw f.may hs0 r1 r2 r3 r4 r11 r12 rv
  go_enter Tryz.func3, Tryz.ntmps3
  go_wp2_with (first
    | (go_at_call 5; refine m5.mono ?_; clear m5; rintro e w1 ⟨rfl, H1, k1⟩
       have b1 := (k1.keep.block _ z0 id).trans b0
       have z1 := Nat.lt_of_lt_of_le z0 k1.keep.size
       have B1 := B0.trans (k1.below.mono (Nat.le_of_lt z0))
       have g2 := bZ b1 2 rfl; have g3 := bZ b1 3 rfl; have g4 := bZ b1 4 rfl; have g5 := bZ b1 5 rfl
       have m7 := av f.copy k1.sat (qu.mono k1.le r3) (qu.mono k1.le r4))
    | (go_at_call 7; refine m7.mono ?_; clear m7; rintro e w2 ⟨q3, m3, d3, q4, m4, d4, rfl, H2, k2, s3, s4⟩
       have z2 := Nat.lt_of_lt_of_le z1 k2.keep.size
       have b3 := (heap_alloc_old w2 (.cells #[.slice q3 m3 d3, .slice q4 m4 d4, .int .i64 x5, .int .i64 x6] 33) z2).trans ((k2.keep.block _ z1 id).trans b1)
       have o3 := Zc w2 (.cells #[.slice q3 m3 d3, .slice q4 m4 d4, .int .i64 x5, .int .i64 x6] 33) _ rfl
       have B3 := (B1.trans (k2.below.mono (Nat.le_of_lt z1))).alloc (Nat.le_of_lt z2) (.cells #[.slice q3 m3 d3, .slice q4 m4 d4, .int .i64 x5, .int .i64 x6] 33)
       have u3 : SatH H2 (w2.alloc (.cells #[.slice q3 m3 d3, .slice q4 m4 d4, .int .i64 x5, .int .i64 x6] 33)) := k2.sat.block (by simp) fun b _ _ hv => heap_alloc_old w2 _ (k2.sat.lt hv)
       have t3 := aG u3
       have hL : (w2.alloc (.cells #[.slice q3 m3 d3, .slice q4 m4 d4, .int .i64 x5, .int .i64 x6] 33)).heap.size = w2.heap.size + 1 := by simp
       have le2 := k1.le.trans k2.le
       have rv3 := lA (Lb := (w2.alloc (.cells #[.slice q3 m3 d3, .slice q4 m4 d4, .int .i64 x5, .int .i64 x6] 33)).heap.size) (H' := H2) (fun _ _ _ h => h) (by simp only [wkP, tQ]) (qu.mono le2 rv)
       have r13 := lA (Lb := (w2.alloc (.cells #[.slice q3 m3 d3, .slice q4 m4 d4, .int .i64 x5, .int .i64 x6] 33)).heap.size) (H' := H2) (fun _ _ _ h => h) (by simp only [wkP, tQ]) (qu.mono le2 r1)
       have r23 := lA (Lb := (w2.alloc (.cells #[.slice q3 m3 d3, .slice q4 m4 d4, .int .i64 x5, .int .i64 x6] 33)).heap.size) (H' := H2) (fun _ _ _ h => h) (by simp only [wkP, Vb]) (qu.mono le2 r2)
       have r33 := lA (Lb := (w2.alloc (.cells #[.slice q3 m3 d3, .slice q4 m4 d4, .int .i64 x5, .int .i64 x6] 33)).heap.size) (H' := H2) (fun _ _ _ h => h) (by simp only [wkP, Cd]) (qu.mono le2 r3)
       have r43 := lA (Lb := (w2.alloc (.cells #[.slice q3 m3 d3, .slice q4 m4 d4, .int .i64 x5, .int .i64 x6] 33)).heap.size) (H' := H2) (fun _ _ _ h => h) (by simp only [wkP, Cc]) (qu.mono le2 r4)
       have s33 := lA (Lb := (w2.alloc (.cells #[.slice q3 m3 d3, .slice q4 m4 d4, .int .i64 x5, .int .i64 x6] 33)).heap.size) (H' := H2) (fun _ _ _ h => h) (by simp only [wkP, Cd]) s3
       have s43 := lA (Lb := (w2.alloc (.cells #[.slice q3 m3 d3, .slice q4 m4 d4, .int .i64 x5, .int .i64 x6] 33)).heap.size) (H' := H2) (fun _ _ _ h => h) (by simp only [wkP, Cc]) s4
       have h0 := bZ b3 0 rfl
       have h1 := bZ b3 1 rfl
       have m8 := eA f.del t3 rv3 r13 r23 s33 s43
       have zB3 : w.heap.size < (w2.alloc (.cells #[.slice q3 m3 d3, .slice q4 m4 d4, .int .i64 x5, .int .i64 x6] 33)).heap.size := by omega
       have zO3 : w2.heap.size < (w2.alloc (.cells #[.slice q3 m3 d3, .slice q4 m4 d4, .int .i64 x5, .int .i64 x6] 33)).heap.size := by omega
       clear u3 r1 r2 r3 r4 r11 r12 s3 s4)
    | (go_at_call 8; refine m8.mono ?_; clear m8; rintro e w4 ⟨y3, i3, j3, y4, i4, j4, rfl, H4, k4, n3, n4⟩
       have hold5 : ∀ k, k < (w2.alloc (.cells #[.slice q3 m3 d3, .slice q4 m4 d4, .int .i64 x5, .int .i64 x6] 33)).heap.size -> (w4.alloc (.cells #[.slice y3 i3 j3, .slice y4 i4 j4, .int .i64 r.1.next.node, .int .i64 r.1.next.edge] 33)).heap[k]? = (w2.alloc (.cells #[.slice q3 m3 d3, .slice q4 m4 d4, .int .i64 x5, .int .i64 x6] 33)).heap[k]? := fun k hk => (heap_alloc_old w4 _ (Nat.lt_of_lt_of_le hk k4.keep.size)).trans (k4.keep.block k hk id)
       have b5 := (hold5 _ zB3).trans b3
       have e5 := Zc w4 (.cells #[.slice y3 i3 j3, .slice y4 i4 j4, .int .i64 r.1.next.node, .int .i64 r.1.next.edge] 33) _ rfl
       have t5 : SatH H4 (w4.alloc (.cells #[.slice y3 i3 j3, .slice y4 i4 j4, .int .i64 r.1.next.node, .int .i64 r.1.next.edge] 33)) := k4.sat.block (by simp) fun b _ _ hv => heap_alloc_old w4 _ (k4.sat.lt hv)
       have h50 := bZ b5 0 rfl
       have h51 := bZ b5 1 rfl
       have h52 := bZ b5 2 rfl
       have h53 := bZ b5 3 rfl
       have h54 := bZ b5 4 rfl
       have h55 := bZ b5 5 rfl
       have zE : w4.heap.size < (w4.alloc (.cells #[.slice y3 i3 j3, .slice y4 i4 j4, .int .i64 r.1.next.node, .int .i64 r.1.next.edge] 33)).heap.size := by simp
       have z35 := k4.keep.size
       have m9 := eB f.ref t5 (qu.mono k4.le rv3) (qu.mono k4.le r13) (qu.mono k4.le r23) (qu.mono k4.le r33) (qu.mono k4.le r43))
    | (go_at_call 9; refine m9.mono ?_; clear m9; rintro e w6 ⟨u3, a3, c3', u4, a4, c4', rfl, H6, k6, p3', p4'⟩
       have z6 := k6.keep.size
       have e6 := (k6.keep.block _ zE id).trans e5
       have e7 := (heap_alloc_old w6 (.cells #[.slice u3 a3 c3', .slice u4 a4 c4', .int .i64 r.1.next.node, .int .i64 r.1.next.edge] 33) (Nat.lt_of_lt_of_le zE z6)).trans e6
       have t7 : SatH H6 (w6.alloc (.cells #[.slice u3 a3 c3', .slice u4 a4 c4', .int .i64 r.1.next.node, .int .i64 r.1.next.edge] 33)) := k6.sat.block (by simp) fun b _ _ hv => heap_alloc_old w6 _ (k6.sat.lt hv)
       have hold7 : ∀ k, k < (w2.alloc (.cells #[.slice q3 m3 d3, .slice q4 m4 d4, .int .i64 x5, .int .i64 x6] 33)).heap.size -> (w6.alloc (.cells #[.slice u3 a3 c3', .slice u4 a4 c4', .int .i64 r.1.next.node, .int .i64 r.1.next.edge] 33)).heap[k]? = (w2.alloc (.cells #[.slice q3 m3 d3, .slice q4 m4 d4, .int .i64 x5, .int .i64 x6] 33)).heap[k]? := fun k hk => (heap_alloc_old w6 _ (by have := Nat.lt_of_lt_of_le hk z35; omega)).trans ((k6.keep.block k (by have := Nat.lt_of_lt_of_le hk z35; omega) id).trans (hold5 k hk))
       have h70 := bZ e7 0 rfl
       have h71 := bZ e7 1 rfl
       have h72 := bZ e7 2 rfl
       have h73 := bZ e7 3 rfl
       have n36 := qu.base (H' := H6) (fun b o v hv => k6.le b o v hv) n3
       have n46 := qu.base (H' := H6) (fun b o v hv => k6.le b o v hv) n4
       simp only [wkP, Em, Ek] at n36 n46
       have m10 := im f.same t7 n36 n46 p3' p4')
    | (go_at_call 10; refine m12.mono ?_; clear m12; rintro e w10 ⟨rfl, H10, k10⟩
       have m13 := RW f.works k10.sat)
    | (go_at_call 10; refine m10.mono ?_; clear m10; rintro e w8 ⟨rfl, H8, k8⟩
       have z7 : (w6.alloc (.cells #[.slice u3 a3 c3', .slice u4 a4 c4', .int .i64 r.1.next.node, .int .i64 r.1.next.edge] 33)).heap.size = w6.heap.size + 1 := by simp
       have z8 := k8.keep.size
       have e8 := (k8.keep.block _ (by omega) id).trans e7
       have h80 := bZ e8 0 rfl
       have h81 := bZ e8 1 rfl
       have hold8 : ∀ k, k < (w2.alloc (.cells #[.slice q3 m3 d3, .slice q4 m4 d4, .int .i64 x5, .int .i64 x6] 33)).heap.size -> w8.heap[k]? = (w2.alloc (.cells #[.slice q3 m3 d3, .slice q4 m4 d4, .int .i64 x5, .int .i64 x6] 33)).heap[k]? := fun k hk => (k8.keep.block k (by have := Nat.lt_of_lt_of_le hk z35; omega) id).trans (hold7 k hk)
       have m11 := iY k8.sat (qu.mono (k6.le.trans k8.le) n3) (qu.mono (k6.le.trans k8.le) n4) f.nl f.el f.nv f.ev)
    | (go_at_call 11; refine m11.mono ?_; clear m11; rintro e w9 ⟨rfl, k9⟩
       have z9 := k9.size
       have hold9 : ∀ k, k < (w2.alloc (.cells #[.slice q3 m3 d3, .slice q4 m4 d4, .int .i64 x5, .int .i64 x6] 33)).heap.size -> w9.heap[k]? = (w2.alloc (.cells #[.slice q3 m3 d3, .slice q4 m4 d4, .int .i64 x5, .int .i64 x6] 33)).heap[k]? := fun k hk => (k9.block k (by have := Nat.lt_of_lt_of_le hk z35; omega) (by omega)).trans (hold8 k hk)
       have b9 := (hold9 _ zB3).trans b3
       have o9 := (hold9 _ zO3).trans o3
       have t9 := SatH.block t3 (by omega) fun b o v hv => hold9 b (t3.lt hv)
       have g2 := bZ b9 2 rfl
       have g3 := bZ b9 3 rfl
       have g4 := bZ b9 4 rfl
       have g5 := bZ b9 5 rfl
       have g90 := bZ o9 0 rfl
       have g91 := bZ o9 1 rfl
       have g92 := bZ o9 2 rfl
       have g93 := bZ o9 3 rfl
       have m12 := im f.own t9 s33 s43 r33 r43)
    | (go_at_call 6; refine m13.mono ?_; clear m13; rintro e w11 ⟨rfl, H11, k11⟩))
  go_ret
  have hz4 : w.heap.size <= w4.heap.size := by omega
  have Y4 := B3.trans (k4.below.mono (Nat.le_of_lt zB3))
  have Y5 := Y4.alloc hz4 (.cells #[.slice y3 i3 j3, .slice y4 i4 j4, .int .i64 r.1.next.node, .int .i64 r.1.next.edge] 33)
  have Y6 := Y5.trans (k6.below.mono (by omega))
  have Y7 := Y6.alloc Y6.size (.cells #[.slice u3 a3 c3', .slice u4 a4 c4', .int .i64 r.1.next.node, .int .i64 r.1.next.edge] 33)
  have Y8 := Y7.trans (k8.below.mono Y7.size)
  have Y9 := Y8.trans ⟨k9.os, k9.tape, k9.output, k9.size, fun k hk => k9.block k (Nat.lt_of_lt_of_le hk Y8.size) (by omega)⟩
  have Y10 := Y9.trans (k10.below.mono Y9.size)
  exact ⟨rfl, Y10.trans (k11.below.mono Y10.size)⟩
set_option maxHeartbeats 2000000 in
set_option maxRecDepth 100000 in
theorem DH {n : Nat} {vars : List (List UInt8)} {dt : Bool} {x1 : List (List UInt8)} {x2 : List Val} {x3 : List Node} {x4 : List Edge} {x5 x6 x7 x9 : Int} {x8 : Bool} {x10 : List UInt8} {x11 : List Val} {x12 : List (List UInt8)}
    (f : vr n ⟨⟨x1, x2⟩, ⟨⟨x3, x4⟩, ⟨x5, x6⟩⟩, ⟨x7, x8, x9, x10, x11, x12⟩⟩ (xK vars dt) = some false) (fk : ct n = some true) {Lw : Nat} {H : PH Lw} {w : World} {vv va : Value} (hs : SatH H w) (rv : qu H (.sl (qi vars)) vv) (ra : qu H (.agg (XM.cells ⟨⟨x1, x2⟩, ⟨⟨x3, x4⟩, ⟨x5, x6⟩⟩, ⟨x7, x8, x9, x10, x11, x12⟩⟩)) va) :
    Calls Tryz.prog 3 #[vv, .bool dt, va] w fun e w' => e = .returned (.bool true) /\ Below w.heap.size w w' := by
  obtain ⟨v1, v2, v3, v4, v11, v12, rfl, r1, r2, r3, r4, r11, r12⟩ := Bu ra
  obtain ⟨pv, cv, rfl⟩ := xu rv
  obtain ⟨p1, c1, rfl⟩ := xu r1
  obtain ⟨p2, c2, rfl⟩ := xu r2
  obtain ⟨p3, c3, rfl⟩ := xu r3
  obtain ⟨p4, c4, rfl⟩ := xu r4
  obtain ⟨p11, c11, rfl⟩ := xu r11
  obtain ⟨p12, c12, rfl⟩ := xu r12
  generalize (qi vars).length = nv at *
  generalize (qi x1).length = n1 at *
  generalize (Val.rows x2).length = n2 at *
  generalize (Node.rows x3).length = n3 at *
  generalize (Edge.rows x4).length = n4 at *
  generalize (Val.rows x11).length = n11 at *
  generalize (qi x12).length = n12 at *
  have hs0 : SatH H (w.alloc (.cells #[.slice p1 n1 c1, .slice p2 n2 c2, .slice p3 n3 c3, .slice p4 n4 c4, .int .i64 x5, .int .i64 x6, .int .i64 x7, .bool x8, .int .i64 x9, .string ⟨x10.toArray⟩, .slice p11 n11 c11, .slice p12 n12 c12] 37)) := hs.block (by simp) fun b _ _ hv => heap_alloc_old w _ (hs.lt hv)
  have b0 := Zc w (.cells #[.slice p1 n1 c1, .slice p2 n2 c2, .slice p3 n3 c3, .slice p4 n4 c4, .int .i64 x5, .int .i64 x6, .int .i64 x7, .bool x8, .int .i64 x9, .string ⟨x10.toArray⟩, .slice p11 n11 c11, .slice p12 n12 c12] 37) _ rfl
  have z0 : w.heap.size < (w.alloc (.cells #[.slice p1 n1 c1, .slice p2 n2 c2, .slice p3 n3 c3, .slice p4 n4 c4, .int .i64 x5, .int .i64 x6, .int .i64 x7, .bool x8, .int .i64 x9, .string ⟨x10.toArray⟩, .slice p11 n11 c11, .slice p12 n12 c12] 37)).heap.size := by simp
  have B0 : Below w.heap.size w (w.alloc (.cells #[.slice p1 n1 c1, .slice p2 n2 c2, .slice p3 n3 c3, .slice p4 n4 c4, .int .i64 x5, .int .i64 x6, .int .i64 x7, .bool x8, .int .i64 x9, .string ⟨x10.toArray⟩, .slice p11 n11 c11, .slice p12 n12 c12] 37)) := (Below.refl _ w).alloc (jw _) _
  have m5 := aw f hs0 r1 r2 r3 r4 r11 r12 rv
  go_enter Tryz.func3, Tryz.ntmps3
  go_wp2_with (first
    | (go_at_call 5; refine m5.mono ?_; clear m5; rintro e w1 ⟨rfl, H1, k1⟩
       have m13 := RW fk k1.sat)
    | (go_at_call 6; refine m13.mono ?_; clear m13; rintro e w2 ⟨rfl, H2, k2⟩))
  go_ret
  have y1 := B0.trans (k1.below.mono (Nat.le_of_lt z0))
  exact ⟨rfl, y1.trans (k2.below.mono y1.size)⟩
end W
end
section
open Go Go.Proofs Ax
namespace W
set_option maxRecDepth 100000 in
set_option maxHeartbeats 4000000 in
theorem TO (m : Nat) : ct (m + 1000) = some true := by kernel_rfl
end W
end
section
open Go Ax Go.Proofs
namespace W
theorem TB {g:Graph} (s:Xo g<=1048576) (u:cG):oM 34359738368 (fun n=>Qy n ⟨g,u⟩) (fun b=>b=true->sO g):=by
 obtain⟨nodes,edges⟩:=g;obtain⟨d,f⟩:=u;obtain⟨A,a2,a3,a4⟩:=Pu s;unfold Qy
 dsimp only
 refine oM.bnd (oM.gs fun _=>Rq s) fun b a=>?_
 refine oM.cond (fun _=>.one fun h=>by cases h) fun r=>?_
 have l:sO ⟨nodes,edges⟩:=by
  generalize (bif(bif(bif(decide (d<(1:Int)))then true else(decide (d>(4611686018427387904:Int))))then true else(decide (f<(1:Int))))then true else(decide (f>(4611686018427387904:Int))))=c at a r;cases c with
  | true=>cases r
  | false=>
   rw[zC]at r;have v:b=true:=by simpa using r
   obtain⟨w,y,_,z⟩:=a rfl v;exact⟨w,y,s,fun e he=>(z e he).2.2⟩
 refine oM.loop (fun m st=>∃ j:Nat,st=((j:Nat):Int)/\j+m=nodes.length) ?_ ⟨0,rfl,by omega⟩ (by omega:nodes.length<34359738368);rintro m _ ⟨j,rfl,hm⟩;unfold po;rw[FM];refine zB.cond (fun q=>?_) fun q=>.tot ?_
 ·have t:j<nodes.length:=by have:=kod q; omega
  refine zB.bnd (oM.idx (uq t) (P:=fun _=>True) trivial) fun x _=>?_
  obtain⟨i,k,o,p⟩:=x;refine zB.cond (fun _=>.one fun h=>by cases h) fun _=>?_
  rw[vm (by omega)];exact .next ⟨m - 1,by omega,j+1,rfl,by omega⟩
 refine oM.loop (fun m st=>∃ j:Nat,st=((j:Nat):Int)/\j+m=edges.length) ?_ ⟨0,rfl,by omega⟩ (by omega:edges.length<34359738368);rintro m _ ⟨j,rfl,hm⟩;unfold pq;rw[sH];refine zB.cond (fun q=>?_) fun q=>.one fun _=>l
 have t:j<edges.length:=by have:=kod q; omega
 refine zB.bnd (oM.idx (uq t) (P:=fun _=>True) trivial) fun x _=>?_
 obtain⟨i,k,o,p,B,C⟩:=x;refine zB.cond (fun _=>.one fun h=>by cases h) fun _=>?_
 rw[vm (by omega)];exact .next ⟨m - 1,by omega,j+1,rfl,by omega⟩
theorem NX {n:Nat}:∀ (l:List (List UInt8)),l.length<n->n<=1099511627776->zF n l l=some true:=fun l h a=>by
 obtain⟨b,c,d⟩:=uf (x:=l) (y:=l) h a;rw[c,d.2 rfl]
theorem lk (n:Nat) (vars:List (List UInt8)) (dt:Bool):Xx n (xK vars dt)=some (xK vars dt):=rfl
theorem TC {n:Nat} (a:n<=1099511627776) {vars:List (List UInt8)} (dt:Bool) (h:vars.length<n) (c:10<n):gm n (xK vars dt) (xK vars dt)=some true:=by
 have b:=NX vars h a;obtain⟨m,rfl⟩:∃ m,n=m+11:=⟨n - 11,by omega⟩;have e1:zQ (m+11) [] []=some true:=rfl;have e2:xB (m+11) ⟨0,[],⟨0,false,0,[],[],[]⟩,[],[]⟩ ⟨0,[],⟨0,false,0,[],[],[]⟩,[],[]⟩=some true:=rfl;unfold gm
 dsimp only
 simp only[bne_self_eq_false,zC,e1,e2,b,nS,cH,Bool.not_false,Bool.not_true,kbs];rfl
theorem DZ {vars:List (List UInt8)} (dt:Bool) (h:QU vars<=1048576):oM 34359738368 (fun n=>fe n (xK vars dt)) (fun _=>True):=by
 have i:=gl vars;unfold fe
 dsimp only
 refine oM.bnd (P:=fun r=>r=xK vars dt) (.of (fun n _ _=>lk n vars dt) rfl) fun r a=>?_
 subst a
 dsimp only
 refine oM.bnd (P:=fun r=>r=true) (.of (fun n e c=>TC c dt (by omega) (by omega)) rfl) fun r a=>?_
 subst a;refine oM.cond (fun h=>by cases h) fun _=>?_
 refine oM.loop (fun m st=>st=(0:Int)/\m=0) ?_ ⟨rfl,rfl⟩ (by omega)
 rintro m _ ⟨rfl,rfl⟩;unfold gP;refine zB.cond (fun h=>by cases h) fun _=>zB.cond (fun h=>by cases h) fun _=>zB.cond (fun h=>by cases h) fun _=>zB.cond (fun h=>by cases h) fun _=>?_
 unfold uj;refine zB.cond (fun h=>by cases h) fun _=>zB.cond (fun h=>by cases h) fun _=>zB.cond (fun h=>by cases h) fun _=>zB.cond (fun h=>by cases h) fun _=>?_
 unfold uk;refine zB.cond (fun h=>by cases h) fun _=>zB.cond (fun _=>.tot ?_) fun h=>by cases h
 refine oM.loop (fun m st=>∃ j:Nat,st=((j:Nat):Int)/\j+m=vars.length) ?_ ⟨0,rfl,by omega⟩ (by omega:vars.length<34359738368);rintro m _ ⟨j,rfl,hm⟩;unfold gQ;rw[zP];refine zB.cond (fun f=>?_) fun _=>.one trivial;have d:j<vars.length:=by have:=kod f; omega
 refine zB.bnd (oM.idx (uq d) (P:=fun x=>x=vars[j]) rfl) fun x g=>?_
 subst g;have l:vars[j].length<=QU vars:=by
  have:=Eg (fun k:List UInt8=>1+k.length) (List.getElem_mem d)
  unfold QU; omega
 refine zB.bnd (P:=fun _=>True) (.of (fun n e c=>Cp (by omega) (by omega) c) trivial) fun b _=>zB.cond (fun _=>.one trivial) fun _=>?_
 rw[vm (by omega)];exact .next ⟨m - 1,by omega,j+1,rfl,by omega⟩
theorem RQ (vars:List (List UInt8)) (dt:Bool):∃ r,∀ m,ns (m+40) ⟨[xK vars dt]⟩=some r:=⟨_,fun m=>rfl⟩
theorem Mr {vars:List (List UInt8)} (dt:Bool) (h:QU vars<=1048576):oM 34359738368 (fun n=>sg n ⟨[xK vars dt]⟩) (fun _=>True):=by
 unfold sg
 dsimp only
 refine oM.loop (fun m st=>(st=(0:Int)/\m=1)\/(st=(1:Int)/\m=0)) ?_ (.inl ⟨rfl,rfl⟩) (by omega);rintro m _ (⟨rfl,rfl⟩|⟨rfl,rfl⟩)
 ·unfold bT
  refine zB.cond (fun _=>?_) fun h=>by cases h
  refine zB.bnd (P:=fun r=>r=xK vars dt) (.of (fun n _ _=>rfl) rfl) fun r a=>?_
  subst a
  dsimp only
  refine zB.bnd (DZ dt h) fun b _=>?_;refine zB.bnd (P:=fun r=>(!(!b))=true->r=xK vars dt) (oM.gs (P:=fun r=>r=xK vars dt) fun _=>.of (fun n _ _=>rfl) rfl) fun r _=>?_
  obtain⟨w0,t,w2,⟨u,v,⟨w,x,y,z,A,c⟩,d,e⟩,f,g,i,j,k,l,o,p,q⟩:=r
  dsimp only
  refine zB.cond (fun _=>.one trivial) fun _=>?_;exact zB.next (s:=(kwr .i64 ((0:Int)+(1:Int)))) ⟨0,by omega,.inr ⟨by decide,rfl⟩⟩
 unfold bT;refine zB.cond (fun h=>by cases h) fun _=>?_
 refine zB.bnd (P:=fun r=>r=xK vars dt) (.of (fun n _ _=>rfl) rfl) fun r a=>?_
 subst a
 dsimp only
 refine zB.bnd (P:=fun r=>r=xK vars dt) (.of (fun n _ _=>rfl) rfl) fun r a=>?_
 subst a
 dsimp only
 refine zB.bnd (P:=fun _=>True) (.of (fun n _ _=>rfl) trivial) fun r _=>.one trivial
def Hm (a:Given):Nat:=QU a.v.names+uT a.v.vals+Xo a.s.g+tP a.params
theorem iZ {vars:List (List UInt8)} (dt:Bool) {a:Given} (A:QU vars+Hm a<=1048576):oM 34359738368 (fun n=>vr n a (xK vars dt)) (fun b=>b=true->sO a.s.g/\a.v.names.length=a.v.vals.length):=by
 obtain⟨⟨f,i⟩,⟨⟨d,e⟩,⟨p,q⟩⟩,pv⟩:=a;have A:QU vars+(QU f+uT i+Xo ⟨d,e⟩+tP pv)<=1048576:=A;obtain⟨t,u,w,j,k,o⟩:=pv;obtain⟨C,a2,a3,a4⟩:=Pu (nodes:=d) (edges:=e) (by omega);unfold vr
 dsimp only
 refine oM.bnd (oM.gs fun _=>TB (g:=⟨d,e⟩) (by omega) ⟨p,q⟩) fun c1 y=>?_
 refine oM.bnd (P:=fun _=>True) ((oM.gs fun _=>Th C a2).imp fun _ _=>trivial) fun c2 _=>?_
 refine oM.bnd (oM.gs fun _=>NW (names:=f) (vals:=i) (by omega)) fun D B=>?_
 refine oM.bnd (P:=fun _=>True) ((oM.gs fun _=>Ea (v:=⟨t,u,w,j,k,o⟩) (by omega)).imp fun _ _=>trivial) fun F _=>?_
 refine oM.cond (fun _=>.one fun h=>by cases h) fun x=>?_
 have z:sO ⟨d,e⟩/\f.length=i.length:=by
  generalize (bif decide (((Node.rows d).length:Int)>100)then true else decide (((Edge.rows e).length:Int)>100))=c at y B x;cases c with
  | true=>cases x
  | false=>
   cases c1 with
   | false=>cases x
   | true=>
    cases c2 with
    | false=>cases x
    | true=>
     cases D with
     | false=>cases x
     | true=>exact⟨y rfl rfl,(B rfl rfl).1⟩
 have l:oM 34359738368 (fun n=>ns n ⟨[xK vars dt]⟩) (fun _=>True):=by
  obtain⟨r,E⟩:=RQ vars dt;refine .of (r:=r) (fun n y _=>?_) trivial;obtain⟨m,rfl⟩:∃ m,n=m+40:=⟨n - 40,by omega⟩;exact E m
 refine oM.bnd l fun G _=>oM.bnd (P:=fun _=>True) ((oM.gs fun _=>Mr dt (by omega)).imp fun _ _=>trivial) fun H _=>.one fun _=>z
mutual
theorem aM:∀ v:Val,vsz v<=tP v
 | .mk k b i s l ks=>by
  have h1:=Ej l;have h2:ks.length<=(ks.map fun k=>1+k.length).sum:=gl ks
  simp only[vsz,tP]; omega
theorem Ej:∀ l:List Val,Ce l<=uT l
 | []=>by simp[Ce]
 | v::l=>by
  have h1:=aM v;have h2:=Ej l;simp only[Ce,uT];omega
end
theorem Tz {g:Graph} (b:Xo g<=1048576) (a:cG):oM 34359738368 (fun n=>nc n ⟨g,a⟩) (fun r=>r=⟨g,a⟩):=by
 obtain⟨nodes,edges⟩:=g;obtain⟨x,y⟩:=a;unfold nc
 dsimp only
 refine oM.bnd (FQ b) fun r c=>?_;subst c;exact .one rfl
theorem Nt {g:Graph} (c:Xo g<=1048576) (a:cG) {n:Nat} (f:34359738368<=n) (e:n<=1099511627776):dW n ⟨g,a⟩ ⟨g,a⟩=some true:=by
 obtain⟨nodes,edges⟩:=g;obtain⟨x,y⟩:=a;obtain⟨i,a2,a3,a4⟩:=Pu c;obtain⟨r,e1,e2⟩:=Tx e (g:=⟨nodes,edges⟩) (h:=⟨nodes,edges⟩) (by simp only; omega) (by simp only; omega) (fun d b=>by have:=a3 d b; omega) (fun d b=>by have:=a4 d b; omega)
 obtain rfl:=e2.2 rfl;unfold dW;simp only[kbs,xA,nS,e1,cH]
theorem NA {n:Nat} (h:1000<=n):ct n=some true:=by
 obtain⟨m,rfl⟩:=Nat.exists_eq_add_of_le h;rw[Nat.add_comm]; exact TO m
theorem SU {g:Graph} (h:sO g) (a:cG) (c:Int):sO (TX a (c,g)).1.g:=by
 unfold TX;split
 ·exact h
 exact Gf
theorem Mo {n:Nat} (j:34359738368<=n) (k:n<=1099511627776) {vars:List (List UInt8)} (dt:Bool) {a:Given} (t:QU vars+Hm a<=1048576) :
  vr n a (xK vars dt)=some false\/∃ r,TS n vars dt a r:=by
 obtain⟨b,u,v⟩:=iZ dt t;have hm:=v n j k;cases b with
 | false=>exact .inl hm
 | true=>
  obtain⟨o,hlen⟩:=u rfl;obtain⟨⟨e,f⟩,⟨g,h⟩,pv⟩:=a;have t:QU vars+(QU e+uT f+Xo g+tP pv)<=1048576:=t;have l1:=gl vars;have l2:=gl e;have l3:=vY f;have m:=(NI (names:=e) (vals:=f) (by omega) hlen (by omega) (vars:=vars) (by omega) o dt h).at j k;have w:=(lu (names:=e) (vals:=f) (by omega) hlen (by omega) (vars:=vars) (by omega) o dt h).at j k;have p:=PW (names:=e) (vals:=f) (dt:=dt) (l:=vars) o;generalize hq:PU e f dt vars g=q at m w p;obtain⟨c,s⟩:=q;have i:=SU p h c;simp only at i;obtain⟨g1,g2,g3,g4⟩:=Pu (nodes:=(TX h (c,s)).1.g.nodes) (edges:=(TX h (c,s)).1.g.edges) i.big;have x:=(TX h (c,s)).1;refine .inr ⟨TX h (c,s),hm,(Tz o.big h).at j k,m,w,Nt i.big _ j k,Nt o.big _ j k,NA (by omega),by omega,by omega,fun d m=>?_,fun d m=>?_⟩
  ·have:=g3 d m
   have:=Ej d.vals;have:=Nj d;exact⟨by omega,by omega⟩
  have:=g4 d m;have:=Ej d.vals;have:=MR d;omega
end W
end
