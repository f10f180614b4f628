/- A part of the proof: the plain law. -/
import Derived.WalkKit
import Derived.WalkSpells
import Derived.WalkLawsBesides
import Derived.Maps.AppendAt
import Derived.Deep.RegionWith
import Derived.Test.YtglihheagfnakaaGreatC
set_option linter.unusedVariables false
set_option linter.unusedSimpArgs false
set_option linter.unnecessarySimpa false
set_option linter.deprecated false
set_option linter.unusedSectionVars false
set_option linter.constructorNameAsVariable false
section
namespace Go.Proofs
theorem Tryz.bits_Len (x : Int) (w : World) (h0 : 0 <= x) (h1 : x <= 18446744073709551615) :
    Calls Tryz.prog 157 #[.int .u64 x] w fun e w' => e = .returned (.int .i64 (Lib.bitLen x.toNat)) /\ w' = w := Any.bits_Len Tryz.lays125 x w h0 h1
theorem Tryz.Builder_Extra_156 : Builder.Extra Tryz.prog Tryz.lays156_ren where
  sizeBuilder := by kernel_rfl
  liesBuilder := by kernel_rfl
  t5 := Tryz.underlying5
  a5 := Tryz.isAgg5
  z5 := Tryz.sizeOf5
  v5 := Tryz.zeroValue5
  infoByte := by kernel_rfl
  cellsByte := by kernel_rfl
  sizeByte := by kernel_rfl
  neB5 := by decide
open Go.RowKit in
theorem Tryz.strings_Join_none (a : Option Addr) (c : Nat) (sep : ByteArray) (w : World) :
    Calls Tryz.prog 97 #[.slice a 0 c, .string sep] w fun e w' => e = .returned (.string ⟨#[]⟩) /\ w' = w := Any.strings_Join_none Tryz.lays156 Tryz.Builder_Extra_156 a c sep w
open Go.RowKit in
theorem Tryz.strings_Join (bk o c : Nat) (xs : List ByteArray) (sep : ByteArray) (w : World) (hcells : ∀ (j : Nat) x, xs[j]? = some x -> w.cell? ⟨bk, o + j, none⟩ = some (.string x)) (hbk : bk < w.heap.size) (hN : xs.length <= 140737488355328) (hcap : xs.length <= c) (hlen : (Lib.join (xs.map (·.data.toList)) sep.data.toList).length <= 140737488355328) :
    Calls Tryz.prog 97 #[.slice (some ⟨bk, o, none⟩) xs.length c, .string sep] w fun e w' => e = .returned (.string ⟨(Lib.join (xs.map (·.data.toList)) sep.data.toList).toArray⟩) /\ Below w.heap.size w w' := Any.strings_Join Tryz.lays156 Tryz.Builder_Extra_156 bk o c xs sep w hcells hbk hN hcap hlen
theorem Tryz.Builder_Extra_169 : Builder.Extra Tryz.prog Tryz.lays169_ren where
  sizeBuilder := by kernel_rfl
  liesBuilder := by kernel_rfl
  t5 := Tryz.underlying5
  a5 := Tryz.isAgg5
  z5 := Tryz.sizeOf5
  v5 := Tryz.zeroValue5
  infoByte := by kernel_rfl
  cellsByte := by kernel_rfl
  sizeByte := by kernel_rfl
  neB5 := by decide
end Go.Proofs
open Go Go.Proofs Ax Go.RowKit
namespace W
set_option maxHeartbeats 4000000 in
set_option maxRecDepth 100000 in
theorem DL (p : Option Addr) (n cap : Nat) (hn : n <= 1) (w : World) : Calls Tryz.prog 185 #[.slice p n cap, .int .i64 0, .int .i64 n] w fun e w' => e = .returned (.tuple #[]) /\ Below w.heap.size w w' := by
  go_enter Tryz.func185, Tryz.ntmps185
  go_wp2
  go_loopw [6, 7] (fun vi _ wr => vi = .int .i64 1 /\ Below w.heap.size w wr) (fun _ _ _ => 0)
  case atStart => exact ⟨rfl, Below.refl _ _⟩
  case round =>
    obtain ⟨rfl, hS⟩ := hrel
    go_wp2
    go_end0
    exact ⟨rfl, hS⟩
set_option maxHeartbeats 4000000 in
set_option maxRecDepth 100000 in
theorem lq (p : Option Addr) (n cap : Nat) (hn : n <= 1) (b : Int) (w : World) : Calls Tryz.prog 156 #[.slice p n cap, .int .i64 0, .int .i64 n, .int .i64 b] w fun e w' => e = .returned (.tuple #[]) /\ Below w.heap.size w w' := by
  go_enter Tryz.func156, Tryz.ntmps156
  go_wp2
  go_loopw [1, 2, 3, 8, 9, 10] (fun a b _ _ _ _ wr => a = .int .i64 0 /\ b = .int .i64 n /\ wr = w) (fun _ _ _ _ _ _ _ => 0)
  case atStart => exact ⟨rfl, rfl, rfl⟩
  case round =>
    obtain ⟨rfl, rfl, rfl⟩ := hrel
    have hc := DL p n cap hn wr
    go_wp2_with (go_at_call 185; refine hc.mono ?_; rintro e w1 ⟨rfl, h1⟩)
    exact bodyPost_ret (results_none rfl _ _ _) rfl ⟨rfl, h1⟩
set_option maxHeartbeats 4000000 in
set_option maxRecDepth 100000 in
theorem TF (p : Option Addr) (n cap : Nat) (hn : n <= 1) (w : World) : Calls Tryz.prog 109 #[.slice p n cap] w fun e w' => e = .returned (.tuple #[]) /\ Below w.heap.size w w' := by
  go_enter Tryz.func109, Tryz.ntmps109
  have h0 := Tryz.bits_Len (n : Int) w (by omega) (by omega)
  have hc := fun b => lq p n cap hn b w
  go_wp2_with (first | (go_at_call 157; refine h0.mono ?_; rintro e w1 ⟨rfl, rfl⟩) | (go_at_call 156; refine (hc _).mono ?_; rintro e w1 ⟨rfl, h1⟩))
  go_end0
  exact ⟨rfl, h1⟩
set_option maxHeartbeats 4000000 in
set_option maxRecDepth 100000 in
theorem LN (p : Option Addr) (n cap : Nat) (hn : n <= 1) (w : World) : Calls Tryz.prog 111 #[.slice p n cap] w fun e w' => e = .returned (.slice p n cap) /\ Below w.heap.size w w' := by
  go_enter Tryz.func111, Tryz.ntmps111
  go_wp2
  go_ret
  exact ⟨rfl, Below.refl _ _⟩
theorem xu {Lw : Nat} {H : PH Lw} {rows : List (List PV)} {v : Value} (h : qu H (.sl rows) v) : ∃ p cap, v = .slice p rows.length cap := by
  simp only [qu] at h
  rcases h with ⟨h0, rfl | ⟨a, cap, rfl⟩⟩ | ⟨b, o, z', cap, e, hc, r⟩
  · exact ⟨none, 0, by rw [h0]; rfl⟩
  · exact ⟨some a, cap, by rw [h0]; rfl⟩
  · exact ⟨_, _, e⟩
theorem nW (l : List (List UInt8)) : (qi l).length = l.length := Codec.length (C := cV) l
def PA (_n : Nat) (l : List (List UInt8)) : Option Unit := bif Nat.ble l.length 1 then some () else none
set_option maxRecDepth 100000 in
theorem PB (n : Nat) : ∀ (l : List (List UInt8)) (r : Unit), PA n l = some r -> qc Tryz.prog 109 [PV.sl (qi l)] (PV.tup []) := by
  intro l r h Lw H w vs s rl
  have hn : l.length <= 1 := by
    unfold PA at h
    cases e : Nat.ble l.length 1
    · rw [e] at h; cases h
    · exact Nat.le_of_ble_eq_true e
  obtain ⟨v, vs', rfl, rv, hvs⟩ := rl
  obtain rfl : vs' = [] := hvs
  obtain ⟨p, cap, rfl⟩ := xu rv
  rw [show (callFunc 109 [_].toArray).run Tryz.prog w = _ from Tryz.call109 _ _]
  refine ⟨rfl, (TF p _ cap (by rw [nW]; exact hn) w).mono ?_⟩
  rintro e w1 ⟨rfl, h1⟩
  exact ⟨_, H, rfl, bj s h1, [], rfl, rfl⟩
def Gy (_n : Nat) (l : List (List UInt8)) : Option (List (List UInt8)) := bif Nat.ble l.length 1 then some l else none
set_option maxRecDepth 100000 in
theorem Ep (n : Nat) : ∀ (l r : List (List UInt8)), Gy n l = some r -> qc Tryz.prog 111 [PV.sl (qi l)] (PV.sl (qi r)) := by
  intro l r h Lw H w vs s rl
  have hn : l.length <= 1 /\ r = l := by
    unfold Gy at h
    cases e : Nat.ble l.length 1
    · rw [e] at h; cases h
    · rw [e] at h; exact ⟨Nat.le_of_ble_eq_true e, (Option.some.inj h).symm⟩
  obtain ⟨hn, rfl⟩ := hn
  obtain ⟨v, vs', rfl, rv, hvs⟩ := rl
  obtain rfl : vs' = [] := hvs
  have rv0 : qu H (.sl (qi r)) v := rv
  obtain ⟨p, cap, rfl⟩ := xu rv
  rw [show (callFunc 111 [_].toArray).run Tryz.prog w = _ from Tryz.call111 _ _]
  refine ⟨rfl, (LN p _ cap (by rw [nW]; exact hn) w).mono ?_⟩
  rintro e w1 ⟨rfl, h1⟩
  exact ⟨_, H, rfl, bj s h1, rv0⟩
def rN (_ : Nat) (a : List (List UInt8)) (sep : List UInt8) : Option (List UInt8) :=
  chk (decide ((Lib.join a sep).length <= 140737488355328)) (chk (decide (a.length <= 140737488355328)) (some (Lib.join a sep)))
set_option maxRecDepth 100000 in
theorem sC (n : Nat) : ∀ (a : List (List UInt8)) (sep r : List UInt8), rN n a sep = some r -> qc Tryz.prog 97 [.sl (qi a), .str sep] (.str r) := by
  intro a sep r h
  obtain ⟨h1, h⟩ := qb h
  obtain ⟨h2, h⟩ := qb h
  obtain rfl := Option.some.inj h
  intro Lw H w vs hsat hr
  simp only [qU] at hr
  obtain ⟨v, _, rfl, rv, u, _, rfl, ru, rfl⟩ := hr
  simp only [qu] at rv ru
  subst ru
  rw [Tryz.call97]
  refine ⟨rfl, ?_⟩
  rcases rv with ⟨h0, rv⟩ | ⟨b, o, z, cap, rfl, hcap, rr⟩
  · have ha : a = [] := by cases a with | nil => rfl | cons _ _ => cases h0
    subst ha
    have go : ∀ (p : Option Addr) (c : Nat), Calls Tryz.prog 97 #[.slice p 0 c, .string ⟨sep.toArray⟩] w fun e w'' => ∃ v H', e = .returned v /\ Calm H w H' w'' /\ qu H' (.str (Lib.join [] sep)) v := fun p c =>
      (Tryz.strings_Join_none p c ⟨sep.toArray⟩ w).mono fun e w' q => by obtain ⟨rfl, rfl⟩ := q; exact ⟨_, H, rfl, Calm.refl hsat, by simp [qu, Lib.join]⟩
    rcases rv with rfl | ⟨p, cap, rfl⟩
    · exact go none 0
    · exact go (some p) cap
  · have hl : (qi a).length = a.length := by simp [qi]
    rw [hl] at hcap ⊢
    have em : (a.map fun l => (⟨l.toArray⟩ : ByteArray)).map (fun x => x.data.toList) = a := by rw [List.map_map]; exact List.map_id' a
    cases ha : a with
    | nil =>
      subst ha
      exact (Tryz.strings_Join_none (some ⟨b, o, none⟩) cap ⟨sep.toArray⟩ w).mono fun e w' q => by obtain ⟨rfl, rfl⟩ := q; exact ⟨_, H, rfl, Calm.refl hsat, by simp [qu, Lib.join]⟩
    | cons x0 a0 =>
      rw [← ha]
      have hcells : ∀ (j : Nat) x, (a.map fun l => (⟨l.toArray⟩ : ByteArray))[j]? = some x -> w.cell? ⟨b, o + j, none⟩ = some (.string x) := by
        intro j x hj
        rw [List.getElem?_map] at hj
        obtain ⟨l, hl, rfl⟩ := Option.map_eq_some_iff.1 hj
        exact (hsat.cell _ _ _ (Zl rr j l hl)).1
      have hbk : b < w.heap.size := hsat.lt (Zl rr 0 x0 (by rw [ha]; rfl))
      have c := Tryz.strings_Join b o cap (a.map fun l => ⟨l.toArray⟩) ⟨sep.toArray⟩ w hcells hbk (by rw [List.length_map]; exact kod h2) (by rw [List.length_map]; exact hcap) (by rw [em]; exact kod h1)
      rw [List.length_map, em] at c
      exact c.mono fun e w' p => ⟨_, H, p.1, bj hsat p.2, by simp [qu]⟩
theorem MS : ∀ (args : Array Value) (w : World), (callFunc 52 args).run Tryz.prog w = .ok (.enter 52 args) w := fun _ _ => Tryz.call52 _ _
theorem ZI (b : Nat) (l : List UInt8) (w : World) (p v : Value) (hbk : w.heap[b]? = some (.cells #[p, v] 124 (0, 0))) (hown : w.ownsRow 0 5 1 v l.length (Lib.byteCells l)) (h0 : l ≠ []) :
    Calls Tryz.prog 52 #[.pointer (some ⟨b, 0, none⟩)] w (Fk l v w) := Any.String_exact Tryz.lays169 Tryz.Builder_Extra_169 b l w p v hbk hown h0
theorem ZH : Fl Tryz.prog 52 124 5 := fun b w p v hbk hown => Any.String_empty Tryz.lays169 Tryz.Builder_Extra_169 b w p v hbk hown
end W
end
section
open Go Go.Proofs Ax Go.RowKit
namespace W
theorem Ha (w : World) (cs : List Value) (t : TypeId) (j : Nat) (v : Value) (h : cs[j]? = some v) : (w.alloc (.cells cs.toArray t)).cell? ((⟨w.heap.size, 0, none⟩ : Addr).add j) = some v := by
  have e : (⟨w.heap.size, 0, none⟩ : Addr).add j = ⟨w.heap.size, j, none⟩ := by
    unfold Addr.add
    split
    · rename_i h0; rw [h0]
    · simp
  rw [e, World.cell?_alloc_new]
  simpa using h
theorem Zc (w : World) (o : Obj) (j : Nat) (h : w.heap.size = j) : (w.alloc o).heap[j]? = some o := by
  subst h
  exact Array.getElem?_push_size
theorem SN {w : World} {b : Nat} {cs : List Value} {t : TypeId} (h : w.heap[b]? = some (.cells cs.toArray t)) (j : Nat) (v : Value) (hj : cs[j]? = some v) : w.cell? ((⟨b, 0, none⟩ : Addr).add j) = some v := by
  have e : (⟨b, 0, none⟩ : Addr).add j = ⟨b, j, none⟩ := by
    unfold Addr.add
    split
    · rename_i h0; rw [h0]
    · simp
  rw [e]
  simp [World.cell?, h, hj]
set_option maxRecDepth 100000 in
theorem BO {f : FuncId} {args : List PV} {r : PV} (hf : ∀ (vs : Array Value) (w : World), (callFunc f vs).run Tryz.prog w = .ok (.enter f vs) w) (h : qc Tryz.prog f args r) {Lw : Nat} {H : PH Lw} {w : World} {vs : List Value} (s : SatH H w) (rl : qU H args vs) :
    Calls Tryz.prog f vs.toArray w fun e w' => ∃ v H', e = .returned v /\ Calm H w H' w' /\ qu H' r v := by
  have h0 := h H w vs s rl
  rw [hf vs.toArray w] at h0
  exact h0.2
theorem Eh {Lw : Nat} {H : PH Lw} {v : Val} {us : List Value} (h : qU H v.cells us) : ∃ (k i : Int) (b : Bool) (s : ByteArray) (p q : Option Addr) (n c m e : Nat), us = [.int .i64 k, .bool b, .int .i64 i, .string s, .slice p n c, .slice q m e] := by
  obtain ⟨k, b, i, s, l, ks⟩ := v
  simp only [Val.cells, qU] at h
  obtain ⟨i0, _, rfl, h1, i1, _, rfl, h2, i2, _, rfl, h3, i3, _, rfl, h4, y0, _, rfl, h5, z0, _, rfl, h6, rfl⟩ := h
  obtain ⟨p, c, rfl⟩ := xu h5
  obtain ⟨q, e, rfl⟩ := xu h6
  simp only [qu] at h1 h2 h3 h4
  subst h1 h2 h3 h4
  exact ⟨_, _, _, _, _, _, _, _, _, _, rfl⟩
set_option maxHeartbeats 4000000 in
set_option maxRecDepth 100000 in
theorem NK (pl e1 e2 : Value) (p q : Option Addr) (ln lc kn kc : Nat) (nm d : ByteArray) (a c : Int) (b : Bool) (w : World) : Calls Tryz.prog 178 #[pl, .agg #[.int .i64 1, .string nm, .int .i64 a, .bool b, .int .i64 c, .string d, .slice p ln lc, .slice q kn kc, e1, e2]] w fun e w' => e = .returned (.tuple #[.agg #[.int .i64 a, .bool b, .int .i64 c, .string d, .slice p ln lc, .slice q kn kc], .int .i64 0]) /\ Below w.heap.size w w' := by
  go_enter Tryz.func178, Tryz.ntmps178
  go_wp2
  refine bodyPost_ret (v := .tuple #[.agg #[.int .i64 a, .bool b, .int .i64 c, .string d, .slice p ln lc, .slice q kn kc], .int .i64 0]) ?_ rfl ⟨rfl, ?_⟩
  · have hl := run_loadCells_list (P := Tryz.prog) _ _ _ (Ha (w.alloc (.cells #[.int .i64 1, .string nm, .int .i64 a, .bool b, .int .i64 c, .string d, .slice p ln lc, .slice q kn kc, e1, e2] 42)) [.int .i64 a, .bool b, .int .i64 c, .string d, .slice p ln lc, .slice q kn kc] 35)
    simp at hl
    simp [results, Tryz.f178, loadVar, asAddr, hl]
  · exact ((Below.refl _ w).alloc (Nat.le_refl _) _).alloc (by simp) _
theorem sI (w : World) (b i : Nat) (v : Value) : w.grownBy (w.setCell ⟨b, i, none⟩ v) (some b) :=
  ⟨rfl, rfl, rfl, by simp, fun k _ hn => Below.heap_setCell _ _ _ _ (fun e => hn (by rw [e]))⟩
theorem nR {a b c : World} {r : Option Nat} (h : a.grownBy b r) (k : b.grownBy c r) : a.grownBy c r :=
  ⟨k.os.trans h.os, k.tape.trans h.tape, k.output.trans h.output, Nat.le_trans h.size k.size, fun i hi hn => (k.block i (Nat.lt_of_lt_of_le hi h.size) hn).trans (h.block i hi hn)⟩
theorem oA (w : World) (b : Nat) (z0 z1 z2 z3 z4 z5 c0 c1 c2 c3 c4 c5 : Value) (t : TypeId) (h : w.heap[b]? = some (.cells #[z0, z1, z2, z3, z4, z5] t)) :
    ∃ w', (((((w.setCell ⟨b, 0, none⟩ c0).setCell ⟨b, 1, none⟩ c1).setCell ⟨b, 2, none⟩ c2).setCell ⟨b, 3, none⟩ c3).setCell ⟨b, 4, none⟩ c4).setCell ⟨b, 5, none⟩ c5 = w' /\ w'.heap[b]? = some (.cells #[c0, c1, c2, c3, c4, c5] t) /\ w.grownBy w' (some b) := by
  have s1 := heap_setCell_same w b 0 _ _ c0 h
  have g1 := sI w b 0 c0
  generalize w.setCell ⟨b, 0, none⟩ c0 = w1 at s1 g1 ⊢
  have s2 := heap_setCell_same w1 b 1 _ _ c1 s1
  have g2 := nR g1 (sI w1 b 1 c1)
  generalize w1.setCell ⟨b, 1, none⟩ c1 = w2 at s2 g2 ⊢
  have s3 := heap_setCell_same w2 b 2 _ _ c2 s2
  have g3 := nR g2 (sI w2 b 2 c2)
  generalize w2.setCell ⟨b, 2, none⟩ c2 = w3 at s3 g3 ⊢
  have s4 := heap_setCell_same w3 b 3 _ _ c3 s3
  have g4 := nR g3 (sI w3 b 3 c3)
  generalize w3.setCell ⟨b, 3, none⟩ c3 = w4 at s4 g4 ⊢
  have s5 := heap_setCell_same w4 b 4 _ _ c4 s4
  have g5 := nR g4 (sI w4 b 4 c4)
  generalize w4.setCell ⟨b, 4, none⟩ c4 = w5 at s5 g5 ⊢
  have s6 := heap_setCell_same w5 b 5 _ _ c5 s5
  have g6 := nR g5 (sI w5 b 5 c5)
  exact ⟨_, rfl, s6, g6⟩
theorem MN {Lw : Nat} {H H1 : PH Lw} {w w1 w2 : World} (c : Calm H w H1 w1) {row : Option Nat} (k : w1.grownBy w2 row) (hrow : ∀ b, row = some b -> w.heap.size <= b /\ ∀ o u, H1 b o ≠ some u) {e : TypeId} {z n : Nat} {v' : Value} {xs : List Value}
    (hown : w2.ownsRow w.heap.size e z v' n xs) (hv : ∀ b, qI v' = some b -> ∀ o u, H1 b o ≠ some u) (h1 : ∀ u ∈ xs, u.oneCell' = true) : Calm H w (xk H1 v' xs) w2 /\ PH.le H1 (xk H1 v' xs) := by
  have hle : PH.le H1 (xk H1 v' xs) := by
    intro b o u hu
    unfold xk
    rw [if_neg (fun hc => hv b hc.1 o u hu)]
    exact hu
  have hge : ∀ b, qI v' = some b -> w.heap.size <= b := by
    intro b hb
    rcases hown.2 with ⟨rfl, _⟩ | ⟨g, cap, cur, rfl, hg, _⟩
    · simp [qI] at hb
    · simp [qI] at hb; omega
  have hown0 : w2.ownsRow 0 e z v' n xs := ⟨hown.1, hown.2.imp id fun ⟨g, cap, cur, a, b, c⟩ => ⟨g, cap, cur, a, Nat.zero_le _, c⟩⟩
  have hcell : ∀ g, qI v' = some g -> ∀ o u, xs[o]? = some u -> w2.cell? ⟨g, o, none⟩ = some u := by
    intro g hg o u hu
    have := hown0.cells (g := g) (by
      rcases hown0.2 with ⟨rfl, _⟩ | ⟨g', cap, cur, rfl, _⟩
      · simp [qI] at hg
      · simpa [qI, Value.ownBlock] using hg) o u hu
    rwa [Addr.add_lit, Nat.zero_add] at this
  have hblk : ∀ b o u, H1 b o = some u -> w2.heap[b]? = w1.heap[b]? := fun b o u hu => k.block b (c.sat.lt hu) fun e => (hrow b e.symm).2 o u hu
  refine ⟨⟨fun b o u hu => hle b o u (c.le b o u hu), ⟨?_, c.sat.root.mono hle, Nat.le_trans c.sat.low k.size, ?_⟩, ⟨k.os.trans c.keep.os, k.tape.trans c.keep.tape, k.output.trans c.keep.output, Nat.le_trans c.keep.size k.size, fun i hi hn => ?_⟩, fun b o u hu => ?_⟩, hle⟩
  · intro b o u hu
    unfold xk at hu
    split at hu
    · rename_i hc
      exact ⟨hcell b hc.1 o u hu, h1 u (List.mem_of_getElem? hu)⟩
    · obtain ⟨hcl, hone⟩ := c.sat.cell b o u hu
      refine ⟨?_, hone⟩
      rw [World.cell?_of_block (w := w1) (a := ⟨b, o, none⟩) (hblk b o u hu)]
      exact hcl
  · intro b o u hu hL
    by_cases hbv : qI v' = some b
    · exact .own hown0 hbv
    · unfold xk at hu
      rw [if_neg (fun hc => hbv hc.1)] at hu
      exact (c.sat.nf b o u hu hL).block (hblk b o u hu)
  · have h2 := c.keep.block i hi hn
    rw [← h2]
    exact k.block i (Nat.lt_of_lt_of_le hi c.keep.size) fun e => by have := (hrow i e.symm).1; omega
  · unfold xk at hu
    split at hu
    · rename_i hc; exact .inr (hge b hc.1)
    · exact c.new b o u hu
theorem Rw : ((Tryz.prog.info? 9).map fun i => (i.size, i.bytes, i.zero.map (·.cells.size))) = some (1, 16, some 1) := by kernel_rfl
theorem ej : ∃ i0 zv, Tryz.prog.info? 9 = some i0 /\ i0.zero = some zv /\ i0.size = 1 /\ i0.bytes = 16 /\ zv.cells.size = 1 := by
  obtain ⟨i, hi, h⟩ := Option.map_eq_some_iff.1 Rw
  simp only [Prod.mk.injEq] at h
  obtain ⟨h1, h2, h3⟩ := h
  obtain ⟨z, hz, h4⟩ := Option.map_eq_some_iff.1 h3
  exact ⟨i, z, hi, hz, h1, h2, h4⟩
set_option maxHeartbeats 4000000 in
set_option maxRecDepth 100000 in
theorem EV (p : Option Addr) (c : Nat) (s : ByteArray) (w : World) : Calls Tryz.prog 180 #[.slice p 0 c, .string s] w fun e w' => e = .returned (.tuple #[.int .i64 0, .bool false]) /\ w' = w := by
  go_enter Tryz.func180, Tryz.ntmps180
  go_wp2
  go_loopw [7, 8, 9] (fun i j _ wr => i = .int .i64 0 /\ j = .int .i64 0 /\ wr = w) (fun _ _ _ _ => 0)
  case atStart => exact ⟨rfl, rfl, rfl⟩
  case round =>
    obtain ⟨rfl, rfl, rfl⟩ := hrel
    go_wp2
    go_ret2
    exact ⟨rfl, rfl⟩
theorem LV (base : Nat) (p : Option Addr) (c : Nat) (b o cc : Nat) (s : Value) (w : World) (hown : w.ownsRow base 9 1 (.slice p 0 c) 0 []) (hc : w.cell? ⟨b, o, none⟩ = some s) (h1 : s.oneCell' = true) (hb : base <= w.heap.size) :
    Calls Tryz.prog 183 #[.slice p 0 c, .int .i64 0, .slice (some ⟨b, o, none⟩) 1 cc] w fun e w' => ∃ v', e = .returned v' /\ w'.ownsRow base 9 1 v' 1 [s] /\ w.grownBy w' (Value.slice p 0 c).ownBlock /\ (v'.ownBlock = (Value.slice p 0 c).ownBlock \/ v'.ownBlock = some w.heap.size) := by
  obtain ⟨i0, zv, hi, hz0, hz1, hz2, hzs⟩ := ej
  have hnew : ∀ j u, [s][j]? = some u -> w.cell? ((⟨b, o, none⟩ : Addr).add j) = some u := by
    intro j u hj
    cases j with
    | zero => simp at hj; subst hj; rw [Addr.add_lit]; exact hc
    | succ j => simp at hj
  have oX : ∀ (v' : Value) (w1 : World), w1.ownsRow base 9 1 v' (0 + 1) ([] ++ [s]) -> w1.ownsRow base 9 1 v' 1 [s] := fun _ _ h => h
  cases p with
  | none =>
    go_enter Tryz.func183, Tryz.ntmps183
    go_wp2_with (at_builtin; refine wpList_append_own_at _ rfl _ _ 22 rfl base 9 i0 zv 1 16 Tryz.underlying22 hi hz0 hz1 hz2 hzs (by decide) _ _ _ rfl hown ⟨b, o, none⟩ 1 cc [s] rfl rfl hnew (by intro u hu; simp at hu; subst hu; exact h1) (by unfold maxLen; omega) (by omega) hb ?_; intro v' w1 ho hg _ hat)
    go_ret
    exact ⟨v', rfl, oX _ _ ho, hg, hat⟩
  | some a =>
    go_enter Tryz.func183, Tryz.ntmps183
    go_wp2_with (at_builtin; refine wpList_append_own_at _ rfl _ _ 22 rfl base 9 i0 zv 1 16 Tryz.underlying22 hi hz0 hz1 hz2 hzs (by decide) _ _ _ rfl hown ⟨b, o, none⟩ 1 cc [s] rfl rfl hnew (by intro u hu; simp at hu; subst hu; exact h1) (by unfold maxLen; omega) (by omega) hb ?_; intro v' w1 ho hg _ hat)
    go_ret
    exact ⟨v', rfl, oX _ _ ho, hg, hat⟩
set_option maxHeartbeats 4000000 in
set_option maxRecDepth 100000 in
theorem LW (base : Nat) (p : Option Addr) (c : Nat) (b o cc : Nat) (us : List Value) (hl : us.length = 6) (w : World) (hown : w.ownsRow base 35 6 (.slice p 0 c) 0 []) (hc : ∀ j u, us[j]? = some u -> w.cell? ⟨b, o + j, none⟩ = some u) (h1 : ∀ u ∈ us, u.oneCell' = true) (hb : base <= w.heap.size) :
    Calls Tryz.prog 184 #[.slice p 0 c, .int .i64 0, .slice (some ⟨b, o, none⟩) 1 cc] w fun e w' => ∃ v', e = .returned v' /\ w'.ownsRow base 35 6 v' 1 us /\ w.grownBy w' (Value.slice p 0 c).ownBlock /\ (v'.ownBlock = (Value.slice p 0 c).ownBlock \/ v'.ownBlock = some w.heap.size) := by
  obtain ⟨i0, zv, hi, hz0, hz1, hz2, hzs⟩ := Hq
  have hnew : ∀ j u, us[j]? = some u -> w.cell? ((⟨b, o, none⟩ : Addr).add j) = some u := fun j u hj => by rw [Addr.add_lit]; exact hc j u hj
  have oX : ∀ (v' : Value) (w1 : World), w1.ownsRow base 35 6 v' (0 + 1) ([] ++ us) -> w1.ownsRow base 35 6 v' 1 us := fun _ _ h => h
  cases p with
  | none =>
    go_enter Tryz.func184, Tryz.ntmps184
    go_wp2_with (at_builtin; refine wpList_append_own_at _ rfl _ _ 23 rfl base 35 i0 zv 6 88 Tryz.underlying23 hi hz0 hz1 hz2 hzs (by decide) _ _ _ rfl hown ⟨b, o, none⟩ 1 cc us rfl hl hnew h1 (by unfold maxLen; omega) (by omega) hb ?_; intro v' w1 ho hg _ hat)
    go_ret
    exact ⟨v', rfl, oX _ _ ho, hg, hat⟩
  | some a =>
    go_enter Tryz.func184, Tryz.ntmps184
    go_wp2_with (at_builtin; refine wpList_append_own_at _ rfl _ _ 23 rfl base 35 i0 zv 6 88 Tryz.underlying23 hi hz0 hz1 hz2 hzs (by decide) _ _ _ rfl hown ⟨b, o, none⟩ 1 cc us rfl hl hnew h1 (by unfold maxLen; omega) (by omega) hb ?_; intro v' w1 ho hg _ hat)
    go_ret
    exact ⟨v', rfl, oX _ _ ho, hg, hat⟩
set_option maxHeartbeats 4000000 in
set_option maxRecDepth 100000 in
theorem NG (p : Option Addr) (c : Nat) (w : World) : Calls Tryz.prog 56 #[.slice p 0 c] w fun e w' => ∃ q d, e = .returned (.slice q 0 d) /\ w'.ownsRow w.heap.size 9 1 (.slice q 0 d) 0 [] /\ Below w.heap.size w w' := by
  cases p with
  | none => exact (Tryz.slices_Clone_string_nil 0 c w).mono fun e w' ⟨h1, h2⟩ => by subst h2; exact ⟨none, 0, h1, World.ownsRow_nil _ _ _ _, Below.refl _ _⟩
  | some a =>
    refine (Tryz.slices_Clone_string_zero a c w).mono fun e w' ⟨v', h1, ho, _, hb⟩ => ?_
    rcases ho.2 with ⟨rfl, _⟩ | ⟨g, cap, cur, rfl, hg⟩
    · exact ⟨none, 0, h1, ho, hb⟩
    · exact ⟨_, cap, h1, ho, hb⟩
set_option maxHeartbeats 4000000 in
set_option maxRecDepth 100000 in
theorem LO (p q : Option Addr) (c d : Nat) (w : World) : Calls Tryz.prog 147 #[.slice p 0 c, .slice q 0 d] w fun e w' => ∃ p' c' q' d', e = .returned (.tuple #[.slice p' 0 c', .slice q' 0 d']) /\ w'.ownsRow w.heap.size 9 1 (.slice p' 0 c') 0 [] /\ w'.ownsRow w.heap.size 35 6 (.slice q' 0 d') 0 [] /\ (∀ k, (Value.slice p' 0 c').ownBlock = some k -> (Value.slice q' 0 d').ownBlock ≠ some k) /\ Below w.heap.size w w' := by
  obtain ⟨i0, zv, hi, hz0, hz1, hz2, hzs⟩ := Hq
  go_enter Tryz.func147, Tryz.ntmps147
  go_wp2_with (at_make; refine wpList_make_own _ rfl _ _ 23 rfl w.heap.size 35 i0 zv 6 Tryz.underlying23 hi hz0 hz1 _ _ _ 0 rfl rfl rfl (by omega) (by unfold maxLen; omega) (Nat.le_refl _) ?_; intro w1 hrow hg)
  go_loopw [6, 8, 14] (fun v6 _ v14 wr => v6 = .slice (some ⟨w.heap.size, 0, none⟩) 0 0 /\ v14 = .int .i64 0 /\ wr = w1) (fun _ _ _ _ => 0)
  case atStart => exact ⟨rfl, rfl, rfl⟩
  case round =>
    obtain ⟨rfl, rfl, rfl⟩ := hrel
    have hc := NG p c wr
    go_wp2_with (go_at_call 56; refine hc.mono ?_; rintro e w2 ⟨p', c', rfl, ho, hb⟩)
    go_ret2
    have hlt : w.heap.size < wr.heap.size := (hrow.lt w.heap.size rfl).2
    have hB : Below w.heap.size w wr := ⟨hg.os, hg.tape, hg.output, hg.size, fun k hk => hg.block k hk (by simp)⟩
    refine ⟨p', c', some ⟨w.heap.size, 0, none⟩, 0, rfl, ⟨ho.1, ho.2.imp id fun ⟨g, cap, cur, a, h, r⟩ => ⟨g, cap, cur, a, Nat.le_trans (Nat.le_of_lt hlt) h, r⟩⟩, ?_, fun k hk e => ?_, hB.trans (hb.mono (Nat.le_of_lt hlt))⟩
    · exact hrow.kept (row := none) ⟨hb.os, hb.tape, hb.output, hb.size, fun k hk _ => hb.block k hk⟩ (.inr (by simp [Value.ownBlock]))
    · have := (ho.lt k hk).1
      simp [Value.ownBlock] at e
      omega
theorem Mu {w : World} {base e z n : Nat} {v : Value} {xs : List Value} (h : w.ownsRow base e z v n xs) : qI v = v.ownBlock := by
  rcases h.2 with ⟨rfl, _⟩ | ⟨g, cap, cur, rfl, _⟩ <;> rfl
theorem No {w : World} {base e z n : Nat} {v : Value} {xs : List Value} (h : w.ownsRow base e z v n xs) : w.drew.ownsRow base e z v n xs := h
section
variable {Lw : Nat} {H H' : PH Lw} {w w2 w3 w4 w5 : World} {X Y : Obj} {vp vq v1 v2 s : Value} {us : List Value}
theorem Tt (hb2 : Below w.heap.size w w2) (ho1 : w2.ownsRow (w.heap.size + 1) 9 1 vp 0 []) (ho2 : w2.ownsRow (w.heap.size + 1) 35 6 vq 0 []) (hne : ∀ k, vp.ownBlock = some k -> vq.ownBlock ≠ some k) (g3 : (w2.alloc X).drew.grownBy w3 vp.ownBlock) :
    Below w.heap.size w w3 /\ w3.ownsRow (w.heap.size + 1) 35 6 vq 0 [] /\ (∀ k, k < w2.heap.size -> vp.ownBlock ≠ some k -> w3.heap[k]? = w2.heap[k]?) := by
  have hk : ∀ k, k < w2.heap.size -> vp.ownBlock ≠ some k -> w3.heap[k]? = w2.heap[k]? := fun k hk hn =>
    (g3.block k (by simp [World.drew]; omega) fun e => hn e.symm).trans (Below.heap_alloc w2 X k hk)
  refine ⟨⟨g3.os.trans hb2.os, ?_, g3.output.trans hb2.output, Nat.le_trans hb2.size (Nat.le_trans (by simp [World.drew]) g3.size), fun k hk' => ?_⟩, ?_, hk⟩
  · exact g3.tape.trans hb2.tape
  · exact (hk k (Nat.lt_of_lt_of_le hk' hb2.size) fun e => by have := (ho1.lt k e).1; omega).trans (hb2.block k hk')
  · refine (No (ho2.alloc X)).kept g3 ?_
    cases hq : vq.ownBlock with
    | none => exact .inl rfl
    | some b => exact .inr fun e => hne b e.symm hq
theorem Ts (hb2 : Below w.heap.size w w2) (ho1 : w2.ownsRow (w.heap.size + 1) 9 1 vp 0 []) (ho2 : w2.ownsRow (w.heap.size + 1) 35 6 vq 0 []) (hne : ∀ k, vp.ownBlock = some k -> vq.ownBlock ≠ some k) (g3 : (w2.alloc X).drew.grownBy w3 vp.ownBlock)
    (hv1 : v1.ownBlock = vp.ownBlock \/ v1.ownBlock = some (w2.alloc X).drew.heap.size) (hown1 : w3.ownsRow (w.heap.size + 1) 9 1 v1 1 [s]) (hs1 : s.oneCell' = true)
    (c0 : Calm H w H w3) (hC : Calm H w3 H' w4) (hus : ∀ u ∈ us, u.oneCell' = true) (g5 : (w4.alloc Y).grownBy w5 vq.ownBlock) (hv2 : v2.ownBlock = vq.ownBlock \/ v2.ownBlock = some (w4.alloc Y).heap.size) (hown2 : w5.ownsRow (w.heap.size + 1) 35 6 v2 1 us)
    (hsat : SatH H w) {k : List UInt8} {u : Val} (hsk : s = .string ⟨k.toArray⟩) (hr : qU H' (xZ.cells u) us) :
    ∃ H5, Calm H w H5 w5 /\ qu H5 (PV.tup [PV.sl (qi [k]), PV.sl (Val.rows [u])]) (.tuple #[v1, v2]) := by
  have c1 : Calm H w H' w4 := c0.trans hC
  have h13 : ∀ b, v1.ownBlock = some b -> w.heap.size + 1 <= b /\ b < w3.heap.size := fun b hb => hown1.lt b hb
  have hq2 : ∀ b, vq.ownBlock = some b -> w.heap.size + 1 <= b /\ b < w2.heap.size := fun b hb => ho2.lt b hb
  have h23 : w2.heap.size <= w3.heap.size := Nat.le_trans (by simp [World.drew]) g3.size
  have hold : ∀ b o x, H' b o = some x -> b < w.heap.size \/ w3.heap.size <= b := fun b o x hx => by
    rcases hC.new b o x hx with ⟨y, hy⟩ | h
    · exact .inl (hsat.lt hy)
    · exact .inr h
  have k1 : w3.grownBy w4 none := ⟨hC.keep.os, hC.keep.tape, hC.keep.output, hC.keep.size, fun k hk _ => hC.keep.block k hk id⟩
  have own4 : w4.ownsRow w.heap.size 9 1 v1 1 [s] := by
    have := hown1.kept k1 (by cases hv : v1.ownBlock <;> simp)
    exact ⟨this.1, this.2.imp id fun ⟨g, cap, cur, a, h, r⟩ => ⟨g, cap, cur, a, by omega, r⟩⟩
  obtain ⟨c2, le2⟩ := MN c1 (row := none) (w2 := w4) ⟨rfl, rfl, rfl, Nat.le_refl _, fun _ _ _ => rfl⟩ (fun b h => by cases h) own4 (fun b hb o x hx => by
    rw [Mu own4] at hb
    have := h13 b hb
    rcases hold b o x hx with h | h <;> omega) (by intro x hx; simp at hx; subst hx; exact hs1)
  have hv1q : ∀ b, vq.ownBlock = some b -> v1.ownBlock ≠ some b := fun b hb e => by
    rcases hv1 with h | h
    · exact hne b (h.symm.trans e) hb
    · rw [h] at e
      have := hq2 b hb
      simp [World.drew] at e
      omega
  have hq : ∀ b, vq.ownBlock = some b -> ∀ o x, xk H' v1 [s] b o ≠ some x := fun b hb o x hx => by
    unfold xk at hx
    split at hx
    · rename_i hc
      rw [Mu own4] at hc
      exact hv1q b hb hc.1
    · have := hq2 b hb
      rcases hold b o x hx with h | h <;> omega
  have g45 : w4.grownBy w5 vq.ownBlock := ⟨g5.os, g5.tape, g5.output, Nat.le_trans (by simp) g5.size, fun k hk hn => (g5.block k (by simp; omega) hn).trans (Below.heap_alloc w4 Y k hk)⟩
  have own5 : w5.ownsRow w.heap.size 35 6 v2 1 us := ⟨hown2.1, hown2.2.imp id fun ⟨g, cap, cur, a, h, r⟩ => ⟨g, cap, cur, a, by omega, r⟩⟩
  obtain ⟨c3, le3⟩ := MN c2 g45 (fun b hb => ⟨by have := hq2 b hb; omega, hq b hb⟩) own5 (fun b hb o x hx => by
    rw [Mu own5] at hb
    rcases hv2 with h | h
    · exact hq b (h.symm.trans hb) o x hx
    · rw [h] at hb
      have := c2.sat.lt hx
      simp at hb
      omega) hus
  refine ⟨_, c3, [v1, v2], rfl, _, _, rfl, ?_, _, _, rfl, ?_, rfl⟩
  · subst hsk
    have a4 : w4.ownsRow 0 9 1 v1 (qi [k]).length [.string ⟨k.toArray⟩] := ⟨own4.1, own4.2.imp id fun ⟨g, cap, cur, a, h, r⟩ => ⟨g, cap, cur, a, Nat.zero_le _, r⟩⟩
    exact qu.mono le3 (ue (rows := qi [k]) (z := 1) ⟨rfl, [.string ⟨k.toArray⟩], [], rfl, ⟨_, [], rfl, rfl, rfl⟩, rfl⟩ le2 a4)
  · have a5 : w5.ownsRow 0 35 6 v2 (Val.rows [u]).length us := ⟨own5.1, own5.2.imp id fun ⟨g, cap, cur, a, h, r⟩ => ⟨g, cap, cur, a, Nat.zero_le _, r⟩⟩
    exact ue (rows := Val.rows [u]) (z := 6) ⟨xZ.hz u, us, [], by simp, qU.mono le2 hr, rfl⟩ le3 a5
end
end W
end
