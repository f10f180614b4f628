/- A part of the proof: the plain law. -/
import Derived.Maps.OwnSet
import Derived.Maps.Views
import Derived.Maps.AppendAt
import Derived.RangeFuncNested
import Derived.Deep.RegionHeld3
import Derived.Deep.RegionHeldLaw
import Derived.Deep.AppendLies
import Derived.OrdersHeld
import Derived.RangeFuncBound
import Derived.RangeFuncCalls
import Derived.RangeFuncLeaves
import Derived.Shelf.Abstract
import Derived.Shelf.RegionOpen
import Derived.OwnWalkIn
import Derived.TacticsInMore
import Derived.LoopNIn
import Derived.LoopIn
import Derived.OrdersIn
import Derived.TacticsIn
import Derived.Maps.OwnIn
import Derived.Test.YtlbjambmfdlniaaGreatC
import Derived.Test.YtlbjambmfdlniaaGreatF
import Derived.Test.YtlbjambmfdlniaaGreatG
set_option linter.unusedVariables false
set_option linter.unusedSimpArgs false
set_option linter.unnecessarySimpa false
set_option linter.deprecated false
set_option linter.unusedSectionVars false
set_option linter.constructorNameAsVariable false
open List renaming length_cons->ja,length_append->jb,length_nil->jc,getElem?_eq_getElem->jf,mem_cons->jg,nil_append->jt,mem_singleton->jy,size_toArray->jL,map_nil->jN,map_append->jX
open Bool renaming and_eq_true->ji
open Nat renaming le_refl->jv,lt_irrefl->jQ,zero_le->jR
open Array renaming getElem?_eq_some_iff->jH
section
open Go Go.Proofs Ax Go.RowKit
namespace W
theorem xe {w w' : World} {base e z n : Nat} {v : Value} {xs : List Value} (h : w.ownsRow base e z v n xs) (k : ∀ b, v.ownBlock = some b -> w'.heap[b]? = w.heap[b]?) : w'.ownsRow base e z v n xs := by
  refine ⟨h.1, h.2.imp id fun ⟨g, cap, cur, e1, e2, e3, r⟩ => ⟨g, cap, cur, e1, e2, ?_, r⟩⟩
  rw [k g (by rw [e1]; rfl)]
  exact e3
theorem UU {L : Nat} {H : PH L} {z : Nat} : ∀ {rows rows' : List (List PV)} {vs : List Value}, xG H z (rows ++ rows') vs -> ∃ a b, vs = a ++ b /\ xG H z rows a /\ xG H z rows' b
  | [], _, vs, h => ⟨[], vs, rfl, rfl, h⟩
  | r :: rows, _, vs, h => by
    obtain ⟨e, a, b, rfl, ha, hb⟩ := h
    obtain ⟨c, d, rfl, hc, hd⟩ := UU hb
    exact ⟨a ++ c, d, by simp, ⟨e, a, c, rfl, ha, hc⟩, hd⟩
abbrev DM := DataW Unit
theorem dQ {w w' : World} {P : Program} {k : TypeId} {R : Value -> Option (DM × List MemPlace)} {b n : Nat} {D : DM} (h : w.ownsMap P k R b n D) (e : w'.heap[b]? = w.heap[b]?) : w'.ownsMap P k R b n D := by
  obtain ⟨es, clock, h1, r⟩ := h
  exact ⟨es, clock, by rw [e]; exact h1, r⟩
theorem Lj {w : World} {base e z n : Nat} {v : Value} {xs : List Value} (h : w.ownsRow base e z v n xs) : qC v = v.ownBlock := by
  rcases h.2 with ⟨rfl, _⟩ | ⟨g, cap, cur, rfl, _⟩ <;> rfl
theorem Fq {w : World} {base e z n : Nat} {p : Option Addr} {c : Nat} {xs : List Value} (h : w.ownsRow base e z (.slice p (n + 1) c) (n + 1) xs) : w.ownsRow base e z (.slice p n c) n (xs.take (n * z)) /\ (Value.slice p n c).ownBlock = (Value.slice p (n + 1) c).ownBlock := by
  obtain ⟨h1, h2⟩ := h
  rcases h2 with ⟨_, h0⟩ | ⟨g, cap, cur, e1, e2, e3, e4, e5, e6, e7⟩
  · omega
  · cases e1
    refine ⟨⟨?_, .inr ⟨g, _, cur, rfl, e2, e3, by omega, e5, e6, ?_⟩⟩, rfl⟩
    · rw [List.length_take, h1]
      have : n * z <= (n + 1) * z := Nat.mul_le_mul_right _ (by omega)
      omega
    · rw [← e7, List.take_take]
      congr 1
      have : n * z <= (n + 1) * z := Nat.mul_le_mul_right _ (by omega)
      omega
inductive Tg where
  | box
  | map
  | nm
  | vl
  | fd
  deriving DecidableEq
structure PT where
  s : TypeId
  k : TypeId
  v : TypeId
  e : TypeId
  km : TypeId
  mv : TypeId
structure bS where
  names : List (List UInt8)
  vals : List Val
def fQ (e : bS) : List PV := [.sl (qy e.names), .sl (Val.rows e.vals)]
def VB (l : List (List UInt8)) : List Value := l.map fun s => .string ⟨s.toArray⟩
structure Qo {L : Nat} (P : Program) (T : PT) (H : PH L) (w : World) (g1 g2 bn bv bf vn vv vf : Value) (sb mb : Nat) (names : List (List UInt8)) (vals : List Val) (found : List bS) (cnt : Nat) (D : DM) (lab : Nat -> Option Tg) : Prop where
  sat : SatH H w
  box : w.heap[sb]? = some (.cells #[g1, g2, bn, bv, .map (some mb), bf] T.s)
  bl : lab sb = some .box
  nm : w.ownsRow L T.k 1 vn names.length (VB names)
  nl : ∀ b, vn.ownBlock = some b -> lab b = some .nm
  vl : ∃ xs, w.ownsRow L T.v 6 vv vals.length xs /\ xG H 6 (Val.rows vals) xs
  vll : ∀ b, vv.ownBlock = some b -> lab b = some .vl
  fd : ∃ ys, w.ownsRow L T.e 2 vf found.length ys /\ xG H 2 (found.map fQ) ys
  fl : ∀ b, vf.ownBlock = some b -> lab b = some .fd
  mp : w.ownsMap P T.km (plainElem P T.mv) mb cnt D
  ml : lab mb = some .map
  fresh : ∀ b t, lab b = some t -> L <= b /\ b < w.heap.size /\ ∀ o u, H b o ≠ some u
section
variable {L : Nat} {P : Program} {T : PT} {H H' : PH L} {w w' : World} {g1 g2 bn bv bf vn vv vf : Value} {sb mb : Nat} {names : List (List UInt8)} {vals : List Val} {found : List bS} {cnt : Nat} {D : DM} {lab : Nat -> Option Tg}
theorem Qo.move (h : Qo P T H w g1 g2 bn bv bf vn vv vf sb mb names vals found cnt D lab) (s : SatH H' w') (le : PH.le H H') (hk : ∀ b t, lab b = some t -> w'.heap[b]? = w.heap[b]?) (hz : w.heap.size <= w'.heap.size) (hn : ∀ b t, lab b = some t -> ∀ o u, H' b o ≠ some u) :
    Qo P T H' w' g1 g2 bn bv bf vn vv vf sb mb names vals found cnt D lab where
  sat := s
  box := by rw [hk _ _ h.bl]; exact h.box
  bl := h.bl
  nm := xe h.nm fun b hb => hk b _ (h.nl b hb)
  nl := h.nl
  vl := by
    obtain ⟨xs, h1, h2⟩ := h.vl
    exact ⟨xs, xe h1 fun b hb => hk b _ (h.vll b hb), h2.mono le⟩
  vll := h.vll
  fd := by
    obtain ⟨ys, h1, h2⟩ := h.fd
    exact ⟨ys, xe h1 fun b hb => hk b _ (h.fl b hb), h2.mono le⟩
  fl := h.fl
  mp := dQ h.mp (hk _ _ h.ml)
  ml := h.ml
  fresh := fun b t hb => by
    obtain ⟨h1, h2, _⟩ := h.fresh b t hb
    exact ⟨h1, Nat.lt_of_lt_of_le h2 hz, hn b t hb⟩
theorem Qo.calm (h : Qo P T H w g1 g2 bn bv bf vn vv vf sb mb names vals found cnt D lab) (c : Calm H w H' w') : Qo P T H' w' g1 g2 bn bv bf vn vv vf sb mb names vals found cnt D lab :=
  h.move c.sat c.le (fun b t hb => c.keep.block b (h.fresh b t hb).2.1 id) c.keep.size fun b t hb o u hu => by
    obtain ⟨_, h2, h3⟩ := h.fresh b t hb
    rcases c.new b o u hu with ⟨v, hv⟩ | h4
    · exact h3 o v hv
    · omega
theorem Qo.below (h : Qo P T H w g1 g2 bn bv bf vn vv vf sb mb names vals found cnt D lab) (k : Below w.heap.size w w') : Qo P T H w' g1 g2 bn bv bf vn vv vf sb mb names vals found cnt D lab :=
  h.move (h.sat.block k.size fun b _ _ hv => k.block b (h.sat.lt hv)) (PH.le.refl H) (fun b t hb => k.block b (h.fresh b t hb).2.1) k.size fun b t hb => (h.fresh b t hb).2.2
theorem Qo.turn (h : Qo P T H w g1 g2 bn bv bf vn vv vf sb mb names vals found cnt D lab) {row : Option Nat} (k : w.grownBy w' row) {t0 : Tg} (hr : ∀ b, row = some b -> lab b = some t0) :
    SatH H w' /\ (∀ b t, lab b = some t -> t ≠ t0 -> w'.heap[b]? = w.heap[b]?) /\ w.heap.size <= w'.heap.size :=
  ⟨h.sat.block k.size fun b o u hu => k.block b (h.sat.lt hu) fun e => (h.fresh _ _ (hr b e.symm)).2.2 o u hu,
   fun b t hb ht => k.block b (h.fresh b t hb).2.1 fun e => ht (Option.some.inj (hb.symm.trans (hr b e.symm))), k.size⟩
def Vv (lab : Nat -> Option Tg) (v : Value) (t : Tg) : Nat -> Option Tg := fun b => if v.ownBlock = some b then some t else lab b
theorem Vx {lab : Nat -> Option Tg} {v v0 : Value} {t : Tg} {z : Nat} (hat : v.ownBlock = v0.ownBlock \/ v.ownBlock = some z) (h0 : ∀ b, v0.ownBlock = some b -> lab b = some t) (hz : ∀ b u, lab b = some u -> b < z) {b : Nat} {u : Tg} (hb : lab b = some u) : Vv lab v t b = some u := by
  unfold Vv
  split
  · rename_i e
    rcases hat with e2 | e2
    · exact (h0 b (e2.symm.trans e)).symm.trans hb
    · rw [e] at e2
      cases e2
      exact absurd (hz _ _ hb) (jQ _)
  · exact hb
theorem Vw (lab : Nat -> Option Tg) (v : Value) (t : Tg) {b : Nat} (h : v.ownBlock = some b) : Vv lab v t b = some t := if_pos h
theorem Qo.relab_fresh (h : Qo P T H w g1 g2 bn bv bf vn vv vf sb mb names vals found cnt D lab) {v v0 : Value} {t : Tg} (hat : v.ownBlock = v0.ownBlock \/ v.ownBlock = some w.heap.size) (h0 : ∀ b, v0.ownBlock = some b -> lab b = some t) (hz : w.heap.size <= w'.heap.size) (hv : ∀ b, v.ownBlock = some b -> L <= b /\ b < w'.heap.size) :
    ∀ b u, Vv lab v t b = some u -> L <= b /\ b < w'.heap.size /\ ∀ o x, H b o ≠ some x := fun b u hb => by
  unfold Vv at hb
  split at hb
  · rename_i e
    refine ⟨(hv b e).1, (hv b e).2, fun o x hx => ?_⟩
    rcases hat with e2 | e2
    · exact (h.fresh _ _ (h0 b (e2.symm.trans e))).2.2 o x hx
    · rw [e] at e2
      cases e2
      exact absurd (h.sat.lt hx) (jQ _)
  · obtain ⟨a1, a2, a3⟩ := h.fresh b u hb
    exact ⟨a1, Nat.lt_of_lt_of_le a2 hz, a3⟩
theorem Qo.nmGrow (h : Qo P T H w g1 g2 bn bv bf vn vv vf sb mb names vals found cnt D lab) {v' : Value} {s : List UInt8} (hown : w'.ownsRow L T.k 1 v' (names.length + 1) (VB names ++ [.string ⟨s.toArray⟩])) (hgr : w.grownBy w' vn.ownBlock) (hat : v'.ownBlock = vn.ownBlock \/ v'.ownBlock = some w.heap.size) :
    Qo P T H w' g1 g2 bn bv bf v' vv vf sb mb (names ++ [s]) vals found cnt D (Vv lab v' .nm) := by
  obtain ⟨s1, k1, z1⟩ := h.turn hgr h.nl
  have old : ∀ {b : Nat} {u : Tg}, lab b = some u -> Vv lab v' .nm b = some u := fun hb => Vx hat h.nl (fun b u hb => (h.fresh b u hb).2.1) hb
  obtain ⟨xs, x1, x2⟩ := h.vl
  obtain ⟨ys, y1, y2⟩ := h.fd
  exact ⟨s1, by rw [k1 _ _ h.bl (by simp)]; exact h.box, old h.bl, by rw [jb, VB, jX]; exact hown, fun b hb => Vw _ _ _ hb,
    ⟨xs, xe x1 fun b hb => k1 b _ (h.vll b hb) (by simp), x2⟩, fun b hb => old (h.vll b hb), ⟨ys, xe y1 fun b hb => k1 b _ (h.fl b hb) (by simp), y2⟩, fun b hb => old (h.fl b hb), dQ h.mp (k1 _ _ h.ml (by simp)), old h.ml,
    h.relab_fresh hat h.nl z1 fun b hb => hown.lt b hb⟩
theorem Qo.vlGrow (h : Qo P T H w g1 g2 bn bv bf vn vv vf sb mb names vals found cnt D lab) {v' : Value} {xs us : List Value} {x : Val} (hr : qJ H (xV.cells x) us) (hx : w.ownsRow L T.v 6 vv vals.length xs /\ xG H 6 (Val.rows vals) xs)
    (hown : w'.ownsRow L T.v 6 v' (vals.length + 1) (xs ++ us)) (hgr : w.grownBy w' vv.ownBlock) (hat : v'.ownBlock = vv.ownBlock \/ v'.ownBlock = some w.heap.size) :
    Qo P T H w' g1 g2 bn bv bf vn v' vf sb mb names (vals ++ [x]) found cnt D (Vv lab v' .vl) := by
  obtain ⟨s1, k1, z1⟩ := h.turn hgr h.vll
  have old : ∀ {b : Nat} {u : Tg}, lab b = some u -> Vv lab v' .vl b = some u := fun hb => Vx hat h.vll (fun b u hb => (h.fresh b u hb).2.1) hb
  obtain ⟨ys, y1, y2⟩ := h.fd
  refine ⟨s1, by rw [k1 _ _ h.bl (by simp)]; exact h.box, old h.bl, xe h.nm fun b hb => k1 b _ (h.nl b hb) (by simp), fun b hb => old (h.nl b hb),
    ⟨xs ++ us, by rw [jb]; exact hown, ?_⟩, fun b hb => Vw _ _ _ hb, ⟨ys, xe y1 fun b hb => k1 b _ (h.fl b hb) (by simp), y2⟩, fun b hb => old (h.fl b hb), dQ h.mp (k1 _ _ h.ml (by simp)), old h.ml,
    h.relab_fresh hat h.vll z1 fun b hb => hown.lt b hb⟩
  rw [show Val.rows (vals ++ [x]) = Val.rows vals ++ Val.rows [x] from (Codec.append xV vals [x]).symm]
  exact hx.2.append ⟨mo x, us, [], by simp, hr, rfl⟩
theorem Qo.fdGrow (h : Qo P T H w g1 g2 bn bv bf vn vv vf sb mb names vals found cnt D lab) {v' : Value} {ys us : List Value} {x : bS} (hr : qJ H (fQ x) us) (hy : w.ownsRow L T.e 2 vf found.length ys /\ xG H 2 (found.map fQ) ys)
    (hown : w'.ownsRow L T.e 2 v' (found.length + 1) (ys ++ us)) (hgr : w.grownBy w' vf.ownBlock) (hat : v'.ownBlock = vf.ownBlock \/ v'.ownBlock = some w.heap.size) :
    Qo P T H w' g1 g2 bn bv bf vn vv v' sb mb names vals (found ++ [x]) cnt D (Vv lab v' .fd) := by
  obtain ⟨s1, k1, z1⟩ := h.turn hgr h.fl
  have old : ∀ {b : Nat} {u : Tg}, lab b = some u -> Vv lab v' .fd b = some u := fun hb => Vx hat h.fl (fun b u hb => (h.fresh b u hb).2.1) hb
  obtain ⟨xs, x1, x2⟩ := h.vl
  refine ⟨s1, by rw [k1 _ _ h.bl (by simp)]; exact h.box, old h.bl, xe h.nm fun b hb => k1 b _ (h.nl b hb) (by simp), fun b hb => old (h.nl b hb),
    ⟨xs, xe x1 fun b hb => k1 b _ (h.vll b hb) (by simp), x2⟩, fun b hb => old (h.vll b hb), ⟨ys ++ us, by rw [jb]; exact hown, ?_⟩, fun b hb => Vw _ _ _ hb, dQ h.mp (k1 _ _ h.ml (by simp)), old h.ml,
    h.relab_fresh hat h.fl z1 fun b hb => hown.lt b hb⟩
  rw [jX]
  exact hy.2.append ⟨rfl, us, [], by simp, hr, rfl⟩
theorem Qo.pop {p q : Option Addr} {c e : Nat} {s : List UInt8} {x : Val} (h : Qo P T H w g1 g2 bn bv bf (.slice p (names.length + 1) c) (.slice q (vals.length + 1) e) vf sb mb (names ++ [s]) (vals ++ [x]) found cnt D lab) :
    Qo P T H w g1 g2 bn bv bf (.slice p names.length c) (.slice q vals.length e) vf sb mb names vals found cnt D lab := by
  have h1 := h.nm
  obtain ⟨xs, x1, x2⟩ := h.vl
  rw [jb, List.length_singleton] at h1 x1
  obtain ⟨n1, n2⟩ := Fq h1
  obtain ⟨m1, m2⟩ := Fq x1
  refine ⟨h.sat, h.box, h.bl, ?_, fun b hb => h.nl b (n2 ▸ hb), ⟨xs.take (vals.length * 6), m1, ?_⟩, fun b hb => h.vll b (m2 ▸ hb), h.fd, h.fl, h.mp, h.ml, h.fresh⟩
  · have e1 : (VB (names ++ [s])).take (names.length * 1) = VB names := by
      rw [VB, jX, Nat.mul_one, List.take_left' (by simp)]
      rfl
    rw [← e1]
    exact n1
  · rw [show Val.rows (vals ++ [x]) = Val.rows vals ++ Val.rows [x] from (Codec.append xV vals [x]).symm] at x2
    obtain ⟨a, b, rfl, ha, hb⟩ := UU x2
    have : a.length = vals.length * 6 := by
      have := ha.length
      rw [this, show (Val.rows vals).length = _ from tG vals]
    rw [List.take_left' this]
    exact ha
end
end W
end
section
open Go Go.Proofs Ax Go.RowKit
namespace W
def uo (D : DM) (us : List Int) : Prop := (∀ x : Int, D.atKey (.int .i64 x) (.lit (.int .i64 0)) = .lit (.int .i64 (if x ∈ us then 1 else 0))) /\ Maps.size D <= us.length
def Mo (sb mb : Nat) (vn vv vf : Value) (b : Nat) : Prop := b = sb \/ b = mb \/ vn.ownBlock = some b \/ vv.ownBlock = some b \/ vf.ownBlock = some b
structure Gw {L : Nat} (H : PH L) (M : Nat -> Prop) (w : World) (H' : PH L) (M' : Nat -> Prop) (w' : World) : Prop where
  le : PH.le H H'
  os : w'.os = w.os
  tape : w'.tape = w.tape
  output : w'.output = w.output
  size : w.heap.size <= w'.heap.size
  un : ∀ b, b < w.heap.size -> ¬ M b -> w'.heap[b]? = w.heap[b]?
  sub : ∀ b, M' b -> M b \/ w.heap.size <= b
  new : ∀ b o v, H' b o = some v -> (∃ v, H b o = some v) \/ w.heap.size <= b
section
variable {L : Nat} {H H' H'' : PH L} {M M' M'' : Nat -> Prop} {w w' w'' : World}
theorem Gw.refl (H : PH L) (M : Nat -> Prop) (w : World) : Gw H M w H M w := ⟨PH.le.refl H, rfl, rfl, rfl, jv _, fun _ _ _ => rfl, fun _ h => .inl h, fun _ _ v h => .inl ⟨v, h⟩⟩
theorem Gw.trans (h : Gw H M w H' M' w') (k : Gw H' M' w' H'' M'' w'') : Gw H M w H'' M'' w'' where
  le := h.le.trans k.le
  os := k.os.trans h.os
  tape := k.tape.trans h.tape
  output := k.output.trans h.output
  size := Nat.le_trans h.size k.size
  un := fun b hb hm => (k.un b (Nat.lt_of_lt_of_le hb h.size) fun hm' => by
    rcases h.sub b hm' with h1 | h1
    · exact hm h1
    · omega).trans (h.un b hb hm)
  sub := fun b hb => by
    rcases k.sub b hb with h1 | h1
    · exact h.sub b h1
    · exact .inr (Nat.le_trans h.size h1)
  new := fun b o v hv => by
    rcases k.new b o v hv with ⟨v', h1⟩ | h1
    · exact h.new b o v' h1
    · exact .inr (Nat.le_trans h.size h1)
theorem Gw.calm (c : Calm H w H' w') : Gw H M w H' M w' := ⟨c.le, c.keep.os, c.keep.tape, c.keep.output, c.keep.size, fun b hb _ => c.keep.block b hb id, fun _ h => .inl h, c.new⟩
theorem Gw.below (c : Below w.heap.size w w') : Gw H M w H M w' := ⟨PH.le.refl H, c.os, c.tape, c.output, c.size, fun b hb _ => c.block b hb, fun _ h => .inl h, fun _ _ v h => .inl ⟨v, h⟩⟩
theorem Gw.grown {row : Option Nat} (k : w.grownBy w' row) (hr : ∀ b, row = some b -> M b) (hs : ∀ b, M' b -> M b \/ w.heap.size <= b) : Gw H M w H M' w' :=
  ⟨PH.le.refl H, k.os, k.tape, k.output, k.size, fun b hb hm => k.block b hb fun e => hm (hr b e.symm), hs, fun _ _ v h => .inl ⟨v, h⟩⟩
end
def TM : PT := ⟨117, 9, 32, 26, 2, 3⟩
structure SK where
  g1 : Value
  g2 : Value
  sb : Nat
  mb : Nat
def SK.M (K : SK) (vn vv vf : Value) : Nat -> Prop := Mo K.sb K.mb vn vv vf
def Sg {L : Nat} (K : SK) (H0 : PH L) (M0 : Nat -> Prop) (w0 : World) (H : PH L) (w : World) (bn bv bf vn vv vf : Value) (names : List (List UInt8)) (vals : List Val) (found : List bS) (cnt : Nat) (D : DM) : Prop :=
  ∃ lab, Qo Tryz.prog TM H w K.g1 K.g2 bn bv bf vn vv vf K.sb K.mb names vals found cnt D lab /\ (∀ b t, lab b = some t -> K.M vn vv vf b) /\ Gw H0 M0 w0 H (K.M vn vv vf) w
section
variable {L : Nat} {K : SK} {H0 H H' : PH L} {M0 : Nat -> Prop} {w0 w w' : World} {bn bv bf vn vv vf : Value} {names : List (List UInt8)} {vals : List Val} {found : List bS} {cnt : Nat} {D : DM} {lab : Nat -> Option Tg}
open Classical in
theorem Qo.tight (h : Qo Tryz.prog TM H w K.g1 K.g2 bn bv bf vn vv vf K.sb K.mb names vals found cnt D lab) (g : Gw H0 M0 w0 H (K.M vn vv vf) w) : Sg K H0 M0 w0 H w bn bv bf vn vv vf names vals found cnt D := by
  refine ⟨fun b => if K.M vn vv vf b then lab b else none, ⟨h.sat, h.box, ?_, h.nm, fun b hb => ?_, h.vl, fun b hb => ?_, h.fd, fun b hb => ?_, h.mp, ?_, fun b t hb => ?_⟩, fun b t hb => ?_, g⟩
  · rw [if_pos (.inl rfl)]; exact h.bl
  · rw [if_pos (.inr (.inr (.inl hb)))]; exact h.nl b hb
  · rw [if_pos (.inr (.inr (.inr (.inl hb))))]; exact h.vll b hb
  · rw [if_pos (.inr (.inr (.inr (.inr hb))))]; exact h.fl b hb
  · rw [if_pos (.inr (.inl rfl))]; exact h.ml
  · split at hb
    · exact h.fresh b t hb
    · cases hb
  · dsimp only at hb
    split at hb
    · assumption
    · cases hb
theorem Sg.gw (h : Sg K H0 M0 w0 H w bn bv bf vn vv vf names vals found cnt D) : Gw H0 M0 w0 H (K.M vn vv vf) w := h.choose_spec.2.2
theorem Sg.calm (h : Sg K H0 M0 w0 H w bn bv bf vn vv vf names vals found cnt D) (c : Calm H w H' w') : Sg K H0 M0 w0 H' w' bn bv bf vn vv vf names vals found cnt D := by
  obtain ⟨lab, s, t, g⟩ := h
  exact ⟨lab, s.calm c, t, g.trans (Gw.calm c)⟩
theorem Sg.below (h : Sg K H0 M0 w0 H w bn bv bf vn vv vf names vals found cnt D) (c : Below w.heap.size w w') : Sg K H0 M0 w0 H w' bn bv bf vn vv vf names vals found cnt D := by
  obtain ⟨lab, s, t, g⟩ := h
  exact ⟨lab, s.below c, t, g.trans (Gw.below c)⟩
theorem Sg.alloc (h : Sg K H0 M0 w0 H w bn bv bf vn vv vf names vals found cnt D) (o : Obj) : Sg K H0 M0 w0 H (w.alloc o) bn bv bf vn vv vf names vals found cnt D := h.below ((Below.refl _ w).alloc (jv _) _)
theorem Sg.drew (h : Sg K H0 M0 w0 H w bn bv bf vn vv vf names vals found cnt D) : Sg K H0 M0 w0 H w.drew bn bv bf vn vv vf names vals found cnt D := h.below ⟨rfl, rfl, rfl, jv _, fun _ _ => rfl⟩
theorem Sg.nm (h : Sg K H0 M0 w0 H w bn bv bf vn vv vf names vals found cnt D) {v' : Value} {s : List UInt8} (hown : w'.ownsRow L TM.k 1 v' (names.length + 1) (VB names ++ [.string ⟨s.toArray⟩])) (hgr : w.grownBy w' vn.ownBlock) (hat : v'.ownBlock = vn.ownBlock \/ v'.ownBlock = some w.heap.size) :
    Sg K H0 M0 w0 H w' bn bv bf v' vv vf (names ++ [s]) vals found cnt D := by
  obtain ⟨lab, s, t, g⟩ := h
  refine (s.nmGrow hown hgr hat).tight (g.trans (Gw.grown hgr (fun b e => .inr (.inr (.inl e))) fun b hb => ?_))
  rcases hb with hb | hb | hb | hb
  · exact .inl (.inl hb)
  · exact .inl (.inr (.inl hb))
  · rcases hat with e | e
    · exact .inl (.inr (.inr (.inl (e ▸ hb))))
    · rw [e] at hb; exact .inr (by cases hb; exact jv _)
  · exact .inl (.inr (.inr (.inr hb)))
theorem Sg.vl (h : Sg K H0 M0 w0 H w bn bv bf vn vv vf names vals found cnt D) {v' : Value} {xs us : List Value} {x : Val} (hr : qJ H (xV.cells x) us) (hx : w.ownsRow L TM.v 6 vv vals.length xs /\ xG H 6 (Val.rows vals) xs)
    (hown : w'.ownsRow L TM.v 6 v' (vals.length + 1) (xs ++ us)) (hgr : w.grownBy w' vv.ownBlock) (hat : v'.ownBlock = vv.ownBlock \/ v'.ownBlock = some w.heap.size) :
    Sg K H0 M0 w0 H w' bn bv bf vn v' vf names (vals ++ [x]) found cnt D := by
  obtain ⟨lab, s, t, g⟩ := h
  refine (s.vlGrow hr hx hown hgr hat).tight (g.trans (Gw.grown hgr (fun b e => .inr (.inr (.inr (.inl e)))) fun b hb => ?_))
  rcases hb with hb | hb | hb | hb | hb
  · exact .inl (.inl hb)
  · exact .inl (.inr (.inl hb))
  · exact .inl (.inr (.inr (.inl hb)))
  · rcases hat with e | e
    · exact .inl (.inr (.inr (.inr (.inl (e ▸ hb)))))
    · rw [e] at hb; exact .inr (by cases hb; exact jv _)
  · exact .inl (.inr (.inr (.inr (.inr hb))))
theorem Sg.fd (h : Sg K H0 M0 w0 H w bn bv bf vn vv vf names vals found cnt D) {v' : Value} {ys us : List Value} {x : bS} (hr : qJ H (fQ x) us) (hy : w.ownsRow L TM.e 2 vf found.length ys /\ xG H 2 (found.map fQ) ys)
    (hown : w'.ownsRow L TM.e 2 v' (found.length + 1) (ys ++ us)) (hgr : w.grownBy w' vf.ownBlock) (hat : v'.ownBlock = vf.ownBlock \/ v'.ownBlock = some w.heap.size) :
    Sg K H0 M0 w0 H w' bn bv bf vn vv v' names vals (found ++ [x]) cnt D := by
  obtain ⟨lab, s, t, g⟩ := h
  refine (s.fdGrow hr hy hown hgr hat).tight (g.trans (Gw.grown hgr (fun b e => .inr (.inr (.inr (.inr e)))) fun b hb => ?_))
  rcases hb with hb | hb | hb | hb | hb
  · exact .inl (.inl hb)
  · exact .inl (.inr (.inl hb))
  · exact .inl (.inr (.inr (.inl hb)))
  · exact .inl (.inr (.inr (.inr (.inl hb))))
  · rcases hat with e | e
    · exact .inl (.inr (.inr (.inr (.inr (e ▸ hb)))))
    · rw [e] at hb; exact .inr (by cases hb; exact jv _)
theorem Sg.mp (h : Sg K H0 M0 w0 H w bn bv bf vn vv vf names vals found cnt D) {cnt' : Nat} {D' : DM} (hm : w'.ownsMap Tryz.prog TM.km (plainElem Tryz.prog TM.mv) K.mb cnt' D') (hgr : w.grownBy w' (some K.mb)) :
    Sg K H0 M0 w0 H w' bn bv bf vn vv vf names vals found cnt' D' := by
  obtain ⟨lab, s, t, g⟩ := h
  obtain ⟨s1, k1, z1⟩ := s.turn hgr (t0 := .map) fun b e => by cases e; exact s.ml
  obtain ⟨xs, x1, x2⟩ := s.vl
  obtain ⟨ys, y1, y2⟩ := s.fd
  exact ⟨lab, ⟨s1, by rw [k1 _ _ s.bl (by simp)]; exact s.box, s.bl, xe s.nm fun b hb => k1 b _ (s.nl b hb) (by simp), s.nl, ⟨xs, xe x1 fun b hb => k1 b _ (s.vll b hb) (by simp), x2⟩, s.vll, ⟨ys, xe y1 fun b hb => k1 b _ (s.fl b hb) (by simp), y2⟩, s.fl, hm, s.ml,
    fun b u hb => ⟨(s.fresh b u hb).1, Nat.lt_of_lt_of_le (s.fresh b u hb).2.1 z1, (s.fresh b u hb).2.2⟩⟩, t, g.trans (Gw.grown hgr (fun b e => by cases e; exact .inr (.inl rfl)) fun b hb => .inl hb)⟩
theorem Sg.set (h : Sg K H0 M0 w0 H w bn bv bf vn vv vf names vals found cnt D) {bn' bv' bf' : Value} (hgr : w.grownBy w' (some K.sb)) (hb : w'.heap[K.sb]? = some (.cells #[K.g1, K.g2, bn', bv', .map (some K.mb), bf'] TM.s)) :
    Sg K H0 M0 w0 H w' bn' bv' bf' vn vv vf names vals found cnt D := by
  obtain ⟨lab, s, t, g⟩ := h
  obtain ⟨s1, k1, z1⟩ := s.turn hgr (t0 := .box) fun b e => by cases e; exact s.bl
  obtain ⟨xs, x1, x2⟩ := s.vl
  obtain ⟨ys, y1, y2⟩ := s.fd
  exact ⟨lab, ⟨s1, hb, s.bl, xe s.nm fun b hb => k1 b _ (s.nl b hb) (by simp), s.nl, ⟨xs, xe x1 fun b hb => k1 b _ (s.vll b hb) (by simp), x2⟩, s.vll, ⟨ys, xe y1 fun b hb => k1 b _ (s.fl b hb) (by simp), y2⟩, s.fl, dQ s.mp (k1 _ _ s.ml (by simp)), s.ml,
    fun b u hb => ⟨(s.fresh b u hb).1, Nat.lt_of_lt_of_le (s.fresh b u hb).2.1 z1, (s.fresh b u hb).2.2⟩⟩, t, g.trans (Gw.grown hgr (fun b e => by cases e; exact .inl rfl) fun b hb => .inl hb)⟩
theorem Sg.pop {p q : Option Addr} {c e : Nat} {s : List UInt8} {x : Val} (h : Sg K H0 M0 w0 H w bn bv bf (.slice p (names.length + 1) c) (.slice q (vals.length + 1) e) vf (names ++ [s]) (vals ++ [x]) found cnt D) :
    Sg K H0 M0 w0 H w bn bv bf (.slice p names.length c) (.slice q vals.length e) vf names vals found cnt D := by
  obtain ⟨lab, s, t, g⟩ := h
  have h1 := s.nm
  obtain ⟨xs, x1, x2⟩ := s.vl
  rw [jb, List.length_singleton] at h1 x1
  refine s.pop.tight (g.trans ⟨PH.le.refl H, rfl, rfl, rfl, jv _, fun _ _ _ => rfl, fun b hb => .inl ?_, fun _ _ v h => .inl ⟨v, h⟩⟩)
  rcases hb with hb | hb | hb | hb | hb
  · exact .inl hb
  · exact .inr (.inl hb)
  · exact .inr (.inr (.inl ((Fq h1).2 ▸ hb)))
  · exact .inr (.inr (.inr (.inl ((Fq x1).2 ▸ hb))))
  · exact .inr (.inr (.inr (.inr hb)))
theorem Sg.fresh (h : Sg K H0 M0 w0 H w bn bv bf vn vv vf names vals found cnt D) {b : Nat} (hb : K.M vn vv vf b) : L <= b /\ b < w.heap.size /\ ∀ o u, H b o ≠ some u := by
  obtain ⟨lab, s, t, g⟩ := h
  rcases hb with rfl | rfl | hb | hb | hb
  · exact s.fresh _ _ s.bl
  · exact s.fresh _ _ s.ml
  · exact s.fresh _ _ (s.nl b hb)
  · exact s.fresh _ _ (s.vll b hb)
  · exact s.fresh _ _ (s.fl b hb)
theorem Vr {w : World} {base e z n : Nat} {v : Value} {xs : List Value} (h : w.ownsRow base e z v n xs) {b : Nat} (hb : v.ownBlock = some b) : ∃ o : Obj, w.heap[b]? = some o /\ o.isCells = true := by
  rcases h.2 with ⟨rfl, _⟩ | ⟨g, cap, cur, rfl, _, h3, _⟩
  · cases hb
  · cases hb
    exact ⟨_, h3, rfl⟩
theorem Sg.cells (h : Sg K H0 M0 w0 H w bn bv bf vn vv vf names vals found cnt D) {b : Nat} (hb : K.M vn vv vf b) (hm : b ≠ K.mb) : ∃ o : Obj, w.heap[b]? = some o /\ o.isCells = true := by
  obtain ⟨lab, s, t, g⟩ := h
  obtain ⟨xs, x1, x2⟩ := s.vl
  obtain ⟨ys, y1, y2⟩ := s.fd
  rcases hb with rfl | hb | hb | hb | hb
  · exact ⟨_, s.box, rfl⟩
  · exact absurd hb hm
  · exact Vr s.nm hb
  · exact Vr x1 hb
  · exact Vr y1 hb
theorem UX {H : PH L} {w : World} (s : SatH H w) {b o : Nat} {v : Value} (hv : H b o = some v) : ∃ o : Obj, w.heap[b]? = some o /\ o.isCells = true := by
  have := (s.cell b o v hv).1
  unfold World.cell? at this
  cases ho : w.heap[b]? with
  | none => simp [ho] at this
  | some o => cases o <;> simp [ho] at this <;> exact ⟨_, rfl, rfl⟩
theorem Sg.own (h : Sg K H0 M0 w0 H w bn bv bf vn vv vf names vals found cnt D) {row : Option Nat} {B : Nat} (hg : w.grownBy w' row) (hr : ∀ r, row = some r -> B <= r /\ ∃ o : Obj, w.heap[r]? = some o /\ o.isCells = false) (hB : K.mb < B) (h0 : w0.heap.size <= B) :
    Sg K H0 M0 w0 H w' bn bv bf vn vv vf names vals found cnt D := by
  have hc : ∀ {b : Nat}, K.M vn vv vf b -> b ≠ K.mb -> ∃ o : Obj, w.heap[b]? = some o /\ o.isCells = true := fun hb hm => h.cells hb hm
  obtain ⟨lab, s, t, g⟩ := h
  have hk : ∀ b t, lab b = some t -> w'.heap[b]? = w.heap[b]? := fun b u hb => hg.block b (s.fresh b u hb).2.1 fun e => by
    obtain ⟨h1, o, h2, h3⟩ := hr b e.symm
    obtain ⟨o', h4, h5⟩ := hc (t b u hb) (by omega)
    rw [h2] at h4; cases h4; rw [h3] at h5; cases h5
  refine ⟨lab, s.move (s.sat.block hg.size fun b o v hv => hg.block b (s.sat.lt hv) fun e => ?_) (PH.le.refl H) hk hg.size (fun b t hb => (s.fresh b t hb).2.2), t, ⟨g.le, hg.os.trans g.os, hg.tape.trans g.tape, hg.output.trans g.output, Nat.le_trans g.size hg.size, fun b hb hm => (hg.block b (Nat.lt_of_lt_of_le hb g.size) fun e => ?_).trans (g.un b hb hm), g.sub, g.new⟩⟩
  · obtain ⟨h1, o, h2, h3⟩ := hr b e.symm
    obtain ⟨o', h4, h5⟩ := UX s.sat hv
    rw [h2] at h4; cases h4; rw [h3] at h5; cases h5
  · have := (hr b e.symm).1
    omega
end
end W
end
section
open Go Go.Proofs Ax Go.RowKit
namespace W
theorem tG : ∀ l : List Val, (Val.rows l).length = l.length := fun l => by rw [rows_eq, vals, List.length_map]
theorem qc {w : World} {b : Nat} {cs : Array Value} {t : TypeId} (h : w.heap[b]? = some (.cells cs t)) (i : Nat) {v : Value} (hi : cs[i]? = some v) : w.cell? ⟨b, i, none⟩ = some v := by simp [World.cell?, h, hi]
theorem xl (w : World) (o : Obj) (j : Nat) (h : w.heap.size = j) : (w.alloc o).heap[j]? = some o := by
  subst h
  exact Array.getElem?_push_size
theorem gQ {w : World} {b o : Nat} {v : Value} (h : w.cell? ⟨b, o, none⟩ = some v) : b < w.heap.size := by
  apply Classical.byContradiction
  intro hc
  simp [World.cell?, Array.getElem?_eq_none (Nat.le_of_not_lt hc)] at h
theorem zV {w : World} {a : Addr} {v : Value} (o : Obj) (h : w.cell? a = some v) : (w.alloc o).cell? a = some v := (World.cell?_alloc_some w a o (by rw [h]; rfl)).trans h
theorem Vs {w : World} {base base' e z n : Nat} {v : Value} {xs : List Value} (h : w.ownsRow base e z v n xs) (hb : base' <= base) : w.ownsRow base' e z v n xs :=
  ⟨h.1, h.2.imp id fun ⟨g, cap, cur, e1, e2, r⟩ => ⟨g, cap, cur, e1, Nat.le_trans hb e2, r⟩⟩
theorem vJ {w : World} {base e z n : Nat} {v : Value} {xs : List Value} (h : w.ownsRow base e z v n xs) : ∃ p c, v = .slice p n c := by
  rcases h.2 with ⟨rfl, rfl⟩ | ⟨g, cap, cur, rfl, _⟩
  · exact ⟨_, _, rfl⟩
  · exact ⟨_, _, rfl⟩
theorem DZ {L : Nat} {H : PH L} {w : World} (s : SatH H w) {e : TypeId} {z n base : Nat} {v : Value} {xs : List Value} (hown : w.ownsRow base e z v n xs) (hf : ∀ b, v.ownBlock = some b -> ∀ o u, H b o ≠ some u) (h1 : ∀ u ∈ xs, u.oneCell' = true) :
    SatH (zl H v xs) w /\ PH.le H (zl H v xs) := by
  have e0 := Lj hown
  have hle : PH.le H (zl H v xs) := by
    intro b o u hu
    unfold zl
    rw [if_neg (fun hc => hf b (by rw [← e0]; exact hc.1) o u hu)]
    exact hu
  refine ⟨⟨fun b o u hu => ?_, s.root.mono hle, s.low, fun b o u hu hL => ?_⟩, hle⟩
  · unfold zl at hu
    split at hu
    · rename_i hc
      have := hown.cells (g := b) (by rw [← e0]; exact hc.1) o u hu
      rw [Addr.add_lit, Nat.zero_add] at this
      exact ⟨this, h1 u (List.mem_of_getElem? hu)⟩
    · exact s.cell b o u hu
  · by_cases hbv : qC v = some b
    · exact .own (Vs hown (jR _)) hbv
    · unfold zl at hu
      rw [if_neg (fun hc => hbv hc.1)] at hu
      exact s.nf b o u hu hL
theorem Ee (l : List (List UInt8)) : ∀ u ∈ VB l, u.oneCell' = true := fun u hu => by
  obtain ⟨s, _, rfl⟩ := List.mem_map.1 hu
  rfl
theorem Fu {L : Nat} {H : PH L} : ∀ l : List (List UInt8), xG H 1 (qy l) (VB l)
  | [] => by simp [qy, VB, xG]
  | s :: l => ⟨rfl, [.string ⟨s.toArray⟩], VB l, rfl, by simp only [qJ]; exact ⟨_, _, rfl, by simp only [qp], rfl⟩, Fu l⟩
theorem HL : ((Tryz.prog.info? 9).map fun i => (i.size, i.bytes, i.zero)) = some (1, 16, some (.string ⟨#[]⟩)) := by kernel_rfl
theorem Ra : ∃ i0, Tryz.prog.info? 9 = some i0 /\ i0.zero = some (.string ⟨#[]⟩) /\ i0.size = 1 /\ i0.bytes = 16 := by
  obtain ⟨i, hi, h⟩ := Option.map_eq_some_iff.1 HL
  simp only [Prod.mk.injEq] at h
  exact ⟨i, hi, h.2.2, h.1, h.2.1⟩
theorem Et : ((Tryz.prog.info? 32).map fun i => (i.size, i.bytes, i.zero)) = some (6, 88, some (.agg #[.int .i64 0, .bool false, .int .i64 0, .string ⟨#[]⟩, .slice none 0 0, .slice none 0 0])) := by kernel_rfl
theorem HK : ∃ i0, Tryz.prog.info? 32 = some i0 /\ i0.zero = some (.agg #[.int .i64 0, .bool false, .int .i64 0, .string ⟨#[]⟩, .slice none 0 0, .slice none 0 0]) /\ i0.size = 6 /\ i0.bytes = 88 := by
  obtain ⟨i, hi, h⟩ := Option.map_eq_some_iff.1 Et
  simp only [Prod.mk.injEq] at h
  exact ⟨i, hi, h.2.2, h.1, h.2.1⟩
def Ep (n : Nat) (names : List (List UInt8)) (name : List UInt8) : Bool := match zp n names name with
  | some i => name.isEmpty || decide (i < 0)
  | none => false
section
variable {L : Nat} {K : SK} {H0 H : PH L} {M0 : Nat -> Prop} {w0 w : World} {bn bv bf vn vv vf : Value} {names : List (List UInt8)} {vals : List Val} {found : List bS} {cnt : Nat} {D : DM}
theorem Sg.sat (h : Sg K H0 M0 w0 H w bn bv bf vn vv vf names vals found cnt D) : SatH H w := h.choose_spec.1.sat
theorem Sg.box (h : Sg K H0 M0 w0 H w bn bv bf vn vv vf names vals found cnt D) : w.heap[K.sb]? = some (.cells #[K.g1, K.g2, bn, bv, .map (some K.mb), bf] TM.s) := h.choose_spec.1.box
theorem Sg.ownN (h : Sg K H0 M0 w0 H w bn bv bf vn vv vf names vals found cnt D) : w.ownsRow L TM.k 1 vn names.length (VB names) := h.choose_spec.1.nm
theorem Sg.ownV (h : Sg K H0 M0 w0 H w bn bv bf vn vv vf names vals found cnt D) : ∃ xs, w.ownsRow L TM.v 6 vv vals.length xs /\ xG H 6 (Val.rows vals) xs := h.choose_spec.1.vl
theorem Sg.ownF (h : Sg K H0 M0 w0 H w bn bv bf vn vv vf names vals found cnt D) : ∃ ys, w.ownsRow L TM.e 2 vf found.length ys /\ xG H 2 (found.map fQ) ys := h.choose_spec.1.fd
theorem Sg.map (h : Sg K H0 M0 w0 H w bn bv bf vn vv vf names vals found cnt D) : w.ownsMap Tryz.prog TM.km (plainElem Tryz.prog TM.mv) K.mb cnt D := h.choose_spec.1.mp
theorem Sg.nsb (h : Sg K H0 M0 w0 H w bn bv bf vn vv vf names vals found cnt D) : vn.ownBlock ≠ some K.sb := fun e => by
  obtain ⟨lab, s, _⟩ := h
  have := s.nl _ e; rw [s.bl] at this; cases this
theorem Sg.fsb (h : Sg K H0 M0 w0 H w bn bv bf vn vv vf names vals found cnt D) : vf.ownBlock ≠ some K.sb := fun e => by
  obtain ⟨lab, s, _⟩ := h
  have := s.fl _ e; rw [s.bl] at this; cases this
theorem xT (w : World) (b i : Nat) (v : Value) : w.grownBy (w.setCell ⟨b, i, none⟩ v) (some b) :=
  ⟨rfl, rfl, rfl, by simp, fun k _ hn => Below.heap_setCell _ _ _ _ (fun e => hn (by rw [e]))⟩
theorem Sg.set2 (h : Sg K H0 M0 w0 H w bn bv bf vn vv vf names vals found cnt D) (v : Value) : Sg K H0 M0 w0 H (w.setCell ⟨K.sb, 2, none⟩ v) v bv bf vn vv vf names vals found cnt D := h.set (xT w K.sb 2 v) (heap_setCell_same w K.sb 2 _ _ v h.box)
theorem Sg.set3 (h : Sg K H0 M0 w0 H w bn bv bf vn vv vf names vals found cnt D) (v : Value) : Sg K H0 M0 w0 H (w.setCell ⟨K.sb, 3, none⟩ v) bn v bf vn vv vf names vals found cnt D := h.set (xT w K.sb 3 v) (heap_setCell_same w K.sb 3 _ _ v h.box)
theorem Sg.set5 (h : Sg K H0 M0 w0 H w bn bv bf vn vv vf names vals found cnt D) (v : Value) : Sg K H0 M0 w0 H (w.setCell ⟨K.sb, 5, none⟩ v) bn bv v vn vv vf names vals found cnt D := h.set (xT w K.sb 5 v) (heap_setCell_same w K.sb 5 _ _ v h.box)
theorem Sg.nofrz (h : Sg K H0 M0 w0 H w bn bv bf vn vv vf names vals found cnt D) (i : Nat) : w.frozen? ⟨K.sb, i, none⟩ = false := by simp [World.frozen?, h.box]
theorem Sg.index (h : Sg K H0 M0 w0 H w bn bv bf vn vv vf names vals found cnt D) {n : Nat} {name : List UInt8} {i : Int} (hi : zp n names name = some i) :
    Calls Tryz.prog 133 #[vn, .string ⟨name.toArray⟩] w fun e w' => e = .returned (.int .i64 i) /\ Below w.heap.size w w' := by
  obtain ⟨s1, hle⟩ := DZ h.sat h.ownN (fun b hb => (h.fresh (.inr (.inr (.inl hb)))).2.2) (Ee names)
  have rn : qp (zl H vn (VB names)) (.sl (qy names)) vn := xD (Fu names) hle (by rw [show (qy names).length = names.length from by simp [qy]]; exact Vs h.ownN (jR _))
  refine ((vz n _ _ _ hi).calls (fun _ _ => Tryz.call133 _ _) s1 (vs := [vn, .string ⟨name.toArray⟩]) (by simp only [qJ]; exact ⟨_, _, rfl, rn, _, _, rfl, by simp only [qp], rfl⟩)).mono ?_
  rintro e w' ⟨v, H', rfl, c, r⟩
  simp only [vF, qp] at r
  subst r
  exact ⟨rfl, c.below⟩
abbrev Ro : Value := .agg #[.int .i64 0, .bool false, .int .i64 0, .string ⟨#[]⟩, .slice none 0 0, .slice none 0 0]
set_option maxHeartbeats 4000000 in
set_option maxRecDepth 100000 in
theorem DB (h : Sg K H0 M0 w0 H w vn vv vf vn vv vf names vals found cnt D) {n : Nat} {name : List UInt8} (hf : Ep n names name = true) :
    Calls Tryz.prog 97 #[.pointer (some ⟨K.sb, 0, none⟩), .string ⟨name.toArray⟩] w fun e w' => e = .returned (.tuple #[Ro, .bool false]) /\ Below w.heap.size w w' := by
  unfold Ep at hf
  split at hf
  · rename_i i hi
    obtain ⟨p, c, hvn⟩ := vJ h.ownN
    have h1 := h.alloc (.cells #[.int .i64 0, .bool false, .int .i64 0, .string ⟨#[]⟩, .slice none 0 0, .slice none 0 0] 32)
    have m := h1.index hi
    have hb := h.box
    obtain ⟨xs, x1, x2⟩ := h.ownV
    obtain ⟨q, c2, hvv⟩ := vJ x1
    have k2 : (w.alloc (.cells #[.int .i64 0, .bool false, .int .i64 0, .string ⟨#[]⟩, .slice none 0 0, .slice none 0 0] 32)).cell? ⟨K.sb, 2, none⟩ = some (.slice p names.length c) := by rw [← hvn]; exact qc h1.box 2 rfl
    rw [hvn] at m
    by_cases hn : name = []
    · subst hn
      go_enter Tryz.func97, Tryz.ntmps97
      go_wp2_with (
        go_at_call 133; refine m.mono ?_; rintro e w1 ⟨rfl, c1⟩
        have b4 : w1.heap[w.heap.size]? = some (.cells #[.int .i64 0, .bool false, .int .i64 0, .string ⟨#[]⟩, .slice none 0 0, .slice none 0 0] 32) := (c1.block _ (by simp)).trans (World.alloc_heap_new w _)
        have q0 : w1.cell? ⟨w.heap.size, 0, none⟩ = some (.int .i64 0) := qc b4 0 rfl
        have q1 : w1.cell? ⟨w.heap.size, 1, none⟩ = some (.bool false) := qc b4 1 rfl
        have q2 : w1.cell? ⟨w.heap.size, 2, none⟩ = some (.int .i64 0) := qc b4 2 rfl
        have q3 : w1.cell? ⟨w.heap.size, 3, none⟩ = some (.string ⟨#[]⟩) := qc b4 3 rfl
        have q4 : w1.cell? ⟨w.heap.size, 4, none⟩ = some (.slice none 0 0) := qc b4 4 rfl
        have q5 : w1.cell? ⟨w.heap.size, 5, none⟩ = some (.slice none 0 0) := qc b4 5 rfl
        have qf : ∀ i, w1.frozen? ⟨w.heap.size, i, none⟩ = false := fun i => by simp [World.frozen?, b4])
      have kb : Below w.heap.size w w1 := ((Below.refl _ w).alloc (jv _) _).trans (c1.mono (by simp))
      exact bodyPost_ret (v := .tuple #[Ro, .bool false]) (by simp [results, Tryz.results97, go_sem, q0, q1, q2, q3, q4, q5]) rfl ⟨rfl, (((((kb.setCell (jv _) _).setCell (jv _) _).setCell (jv _) _).setCell (jv _) _).setCell (jv _) _).setCell (jv _) _⟩
    · have hne : ¬ ((⟨name.toArray⟩ : ByteArray) = ⟨#[]⟩) := fun e => hn (by have := congrArg (fun b : ByteArray => b.data.toList) e; simpa using this)
      have hi0 : i < 0 := by
        cases name with
        | nil => exact absurd rfl hn
        | cons _ _ => simpa using hf
      go_enter Tryz.func97, Tryz.ntmps97
      go_wp2_with (
        go_at_call 133; refine m.mono ?_; rintro e w1 ⟨rfl, c1⟩
        have b4 : w1.heap[w.heap.size]? = some (.cells #[.int .i64 0, .bool false, .int .i64 0, .string ⟨#[]⟩, .slice none 0 0, .slice none 0 0] 32) := (c1.block _ (by simp)).trans (World.alloc_heap_new w _)
        have q0 : w1.cell? ⟨w.heap.size, 0, none⟩ = some (.int .i64 0) := qc b4 0 rfl
        have q1 : w1.cell? ⟨w.heap.size, 1, none⟩ = some (.bool false) := qc b4 1 rfl
        have q2 : w1.cell? ⟨w.heap.size, 2, none⟩ = some (.int .i64 0) := qc b4 2 rfl
        have q3 : w1.cell? ⟨w.heap.size, 3, none⟩ = some (.string ⟨#[]⟩) := qc b4 3 rfl
        have q4 : w1.cell? ⟨w.heap.size, 4, none⟩ = some (.slice none 0 0) := qc b4 4 rfl
        have q5 : w1.cell? ⟨w.heap.size, 5, none⟩ = some (.slice none 0 0) := qc b4 5 rfl
        have qf : ∀ i, w1.frozen? ⟨w.heap.size, i, none⟩ = false := fun i => by simp [World.frozen?, b4])
      have kb : Below w.heap.size w w1 := ((Below.refl _ w).alloc (jv _) _).trans (c1.mono (by simp))
      exact bodyPost_ret (v := .tuple #[Ro, .bool false]) (by simp [results, Tryz.results97, go_sem, q0, q1, q2, q3, q4, q5]) rfl ⟨rfl, (((((kb.setCell (jv _) _).setCell (jv _) _).setCell (jv _) _).setCell (jv _) _).setCell (jv _) _).setCell (jv _) _⟩
  · cases hf
end
end W
end
section
open Go
namespace W
def fY (P : Program) (md : Region.Mode) (ops : Array Oper) (Q : Exit -> Act -> World -> Prop) (S : World -> Prop) (z : Nat) : Nat -> Array Bool -> Act -> World -> Prop
  | 0, listed, a, w => Region.ready md ops listed = [] /\ Q .normal a w
  | fuel + 1, listed, a, w =>
    (Region.ready md ops listed = [] -> Q .normal a w) /\
    ∀ i ∈ Region.ready md ops listed, wpOp P ops Q i (fun a' w' => ((listed.setIfInBounds i true).getD z true = false -> S w') /\ fY P md ops Q S z fuel (listed.setIfInBounds i true) a' w') a w
section
variable {P : Program} {ops : Array Oper} {Q : Exit -> Act -> World -> Prop} {md : Region.Mode} {S S0 : World -> Prop} {z : Nat}
theorem Gd : ∀ (fuel : Nat) (listed : Array Bool) (a : Act) (w : World), fY P md ops Q S z fuel listed a w -> wpAny P md ops Q fuel listed a w
  | 0, _, _, _, h => h
  | fuel + 1, _, _, _, h => ⟨h.1, fun i hi => wpOp_mono (fun a' w' h' => Gd fuel _ a' w' h'.2) (h.2 i hi)⟩
theorem Zr {i : Nat} {oi : Oper} {v : Value} (hi : ops[i]? = some oi) (hsel : ∀ (j : Nat) (o : Oper) cs b, ops[j]? = some o -> o.op ≠ .select cs b)
    (hQ : ∀ c a w, Q (.panic c) (a.put oi.dst v) w -> Q (.panic c) a w) (Inv : Array Bool -> Prop)
    (hstep : ∀ (listed : Array Bool), Inv listed -> i ∈ Region.ready md ops listed -> ∀ j ∈ Region.ready md ops listed, j ≠ i -> Inv (listed.setIfInBounds j true) /\ ∀ w', (((listed.setIfInBounds i true).setIfInBounds j true).getD z true = false -> S w') -> S0 w' /\ ((listed.setIfInBounds j true).getD z true = false -> S w')) :
    ∀ (fuel : Nat) (listed : Array Bool) (a : Act) (w : World), Inv listed ->
      (∀ j oj, ops[j]? = some oj -> j ≠ i -> listed.getD j true = false -> (∀ e ∈ oj.after, Region.binds md e = true -> e.on ≠ i) -> oi.apart ops oj = true) ->
      i ∈ Region.ready md ops listed -> YieldsIf P ops S0 oi v a -> S0 w -> ((listed.setIfInBounds i true).getD z true = false -> S w) ->
      fY P md ops Q S z fuel (listed.setIfInBounds i true) (a.put oi.dst v) w -> fY P md ops Q S z (fuel + 1) listed a w := by
  intro fuel
  induction fuel with
  | zero =>
    intro listed a w _ _ hr hy hS hS1 H
    refine ⟨fun h => (by rw [h] at hr; cases hr), fun j hj => ?_⟩
    by_cases hji : j = i
    · subst hji; exact hy.wpOp hi hS ⟨hS1, H⟩
    · have := ready_mono hj hji
      rw [H.1] at this
      cases this
  | succ fuel ih =>
    intro listed a w hinv hfree hr hy hS hS1 H
    refine ⟨fun h => (by rw [h] at hr; cases hr), fun j hj => ?_⟩
    by_cases hji : j = i
    · subst hji; exact hy.wpOp hi hS ⟨hS1, H⟩
    · have h1 := H.2 j (ready_mono hj hji)
      obtain ⟨hjun, oj, hoj, hall⟩ := mem_ready.1 hj
      have hnot : ∀ e ∈ oj.after, Region.binds md e = true -> e.on ≠ i := fun e he hb heq => by
        have h1 := hall e he hb
        have h0 := (mem_ready.1 hr).1
        rw [heq] at h1
        rcases Nat.lt_or_ge i listed.size with h' | h'
        · simp [h'] at h0 h1; rw [h0] at h1; cases h1
        · simp [Array.getElem?_eq_none h'] at h1
      have h2 := wpOp_putIf hoj (hfree j oj hoj hji hjun hnot) (fun cs b => hsel i oi cs b hi) (fun cs b => hsel j oj cs b hoj) hQ hy h1
      have hfree' : ∀ k ok, ops[k]? = some ok -> k ≠ i -> (listed.setIfInBounds j true).getD k true = false ->
          (∀ e ∈ ok.after, Region.binds md e = true -> e.on ≠ i) -> oi.apart ops ok = true := fun k ok hk hki hun hno => by
        refine hfree k ok hk hki ?_ hno
        by_cases hjk : j = k
        · subst hjk; exact hjun
        · rw [getD_set_ne true hjk] at hun; exact hun
      obtain ⟨hinv', hs⟩ := hstep listed hinv hr j hj hji
      refine wpOp_mono (fun a' w' h3 => ?_) h2
      obtain ⟨hy', hs2, h4⟩ := h3
      obtain ⟨s1, s2⟩ := hs w' hs2
      refine ⟨s2, ih (listed.setIfInBounds j true) a' w' hinv' hfree' (ready_mono hr (Ne.symm hji)) hy' s1 ?_ ?_⟩
      · rw [Array.setIfInBounds_comm _ _ hji]; exact hs2
      · rw [Array.setIfInBounds_comm _ _ hji]; exact h4
theorem xS {i : Nat} {oi : Oper} {v : Value} {fuel : Nat} {listed : Array Bool} {a : Act} {w : World} (hi : ops[i]? = some oi) (hs : Region.noSelect ops = true) (hf : Region.free md ops listed i = true) (hr : (Region.ready md ops listed).contains i = true)
    (hQ : ∀ c a w, Q (.panic c) (a.put oi.dst v) w -> Q (.panic c) a w) (hz : i ≠ z) (hy : YieldsIf P ops (fun _ => True) oi v a) (hS : listed.getD z true = false -> S w) (h : fY P md ops Q S z fuel (listed.setIfInBounds i true) (a.put oi.dst v) w) : fY P md ops Q S z (fuel + 1) listed a w :=
  Zr (S0 := fun _ => True) hi (Region.noSelect_spec hs) hQ (fun _ => True) (fun l _ _ j _ hji => ⟨trivial, fun w' hw => ⟨trivial, fun e => hw (by rw [Array.setIfInBounds_comm _ _ (Ne.symm hji), getD_set_ne true hz]; exact e)⟩⟩) fuel listed a w trivial (Region.free_spec hi hf) (by simpa using hr) hy trivial (fun e => hS (by rw [getD_set_ne true hz] at e; exact e)) h
theorem NQ {l : Array Bool} {i m : Nat} {om : Oper} (hr : i ∈ Region.ready md ops l) (hm : ops[m]? = some om) (he : ∃ e ∈ om.after, Region.binds md e = true /\ e.on = i) : m ∉ Region.ready md ops l := fun hj => by
  obtain ⟨_, oj, hoj, hall⟩ := mem_ready.1 hj
  rw [hm] at hoj; cases hoj
  obtain ⟨e, h1, h2, h3⟩ := he
  have h1 := hall e h1 h2
  have h0 := (mem_ready.1 hr).1
  rw [h3] at h1
  rcases Nat.lt_or_ge i l.size with h' | h'
  · simp [h'] at h0 h1; rw [h0] at h1; cases h1
  · simp [Array.getElem?_eq_none h'] at h1
theorem He {i : Nat} {oi : Oper} {v : Value} {fuel : Nat} {listed : Array Bool} {a : Act} {w : World} (m : Nat) (hi : ops[i]? = some oi) (hs : Region.noSelect ops = true) (hf : Region.free md ops listed i = true) (hr : (Region.ready md ops listed).contains i = true)
    (hQ : ∀ c a w, Q (.panic c) (a.put oi.dst v) w -> Q (.panic c) a w) (hz : i ≠ z) (hm1 : ∃ om, ops[m]? = some om /\ ∃ e ∈ om.after, Region.binds md e = true /\ e.on = i) (hz1 : z = m \/ ∃ oz, ops[z]? = some oz /\ ∃ e ∈ oz.after, Region.binds md e = true /\ e.on = m) (hlm : listed.getD m true = false) (hlz : listed.getD z true = false)
    (hy : YieldsIf P ops S oi v a) (hS : S w) (h : fY P md ops Q S z fuel (listed.setIfInBounds i true) (a.put oi.dst v) w) : fY P md ops Q S z (fuel + 1) listed a w := by
  obtain ⟨om, hm, hme⟩ := hm1
  refine Zr (S0 := S) hi (Region.noSelect_spec hs) hQ (fun l => l.getD m true = false /\ l.getD z true = false) (fun l hl hr j hj hji => ?_) fuel listed a w ⟨hlm, hlz⟩ (Region.free_spec hi hf) (by simpa using hr) hy hS (fun _ => hS) h
  have jm : j ≠ m := fun e => NQ hr hm hme (e ▸ hj)
  have jz : j ≠ z := fun e => by
    rcases hz1 with h1 | ⟨oz, h1, e', h2, h3, h4⟩
    · exact jm (e.trans h1)
    · subst e
      obtain ⟨_, oj, hoj, hall⟩ := mem_ready.1 hj
      rw [h1] at hoj; cases hoj
      have h5 := hall e' h2 h3
      rw [h4] at h5
      have h6 := hl.1
      rcases Nat.lt_or_ge m l.size with h' | h'
      · simp [h'] at h5 h6; rw [h6] at h5; cases h5
      · simp [Array.getElem?_eq_none h'] at h5
  have hl2 : (l.setIfInBounds j true).getD z true = false := by rw [getD_set_ne true jz]; exact hl.2
  refine ⟨⟨by rw [getD_set_ne true jm]; exact hl.1, hl2⟩, fun w' hw => ?_⟩
  have := hw (by rw [Array.setIfInBounds_comm _ _ (Ne.symm hji), getD_set_ne true hz]; exact hl2)
  exact ⟨this, fun _ => this⟩
theorem Ds (S : World -> Prop) (z : Nat) {id : Nat} {a : Act} {w : World} (hm : P.follows .mixedOrders = true)
    (h : fY P .any ops Q S z ops.size (Array.replicate ops.size false) a { w with drawn := w.drawn + 1 }) : (Code.region id ops true).wp P Q a w :=
  wp_region_any hm (Gd _ _ _ _ h)
theorem Gb {rs : List Nat} {fuel : Nat} {listed : Array Bool} {a : Act} {w : World} (hr : Region.ready md ops listed = rs) (hne : rs ≠ [])
    (h : ∀ i ∈ rs, wpOp P ops Q i (fun a' w' => ((listed.setIfInBounds i true).getD z true = false -> S w') /\ fY P md ops Q S z fuel (listed.setIfInBounds i true) a' w') a w) : fY P md ops Q S z (fuel + 1) listed a w :=
  ⟨fun h0 => absurd (hr ▸ h0) hne, hr ▸ h⟩
theorem FI {i : Nat} {o : Oper} {K' : Act -> World -> Prop} {a : Act} {w : World} (hi : ops[i]? = some o) (h : ∀ K : Act -> World -> Prop, (∀ a w, K' a w -> K a w) -> if Region.wanted o (yielded ops a.tmps) = true then Oper.wp P o a w K Q else K (a.put o.dst undef) w) : wpOp P ops Q i K' a w := by
  have := h K' (fun _ _ h => h)
  unfold wpOp
  simp only [hi]
  split
  · rename_i hw
    rw [if_pos hw] at this
    exact .inl this
  · rename_i hw
    rw [if_neg hw] at this
    exact this
theorem xF {i : Nat} {fuel : Nat} {listed : Array Bool} {a : Act} {w : World} (hr : Region.ready md ops listed = [i])
    (h : wpOp P ops Q i (fun a' w' => ((listed.setIfInBounds i true).getD z true = false -> S w') /\ fY P md ops Q S z fuel (listed.setIfInBounds i true) a' w') a w) : fY P md ops Q S z (fuel + 1) listed a w :=
  Gb hr (by simp) fun j hj => by
    obtain rfl := jy.1 hj
    exact h
theorem Gc {i j : Nat} {fuel : Nat} {listed : Array Bool} {a : Act} {w : World} (hr : Region.ready md ops listed = [i, j])
    (h : wpOp P ops Q i (fun a' w' => ((listed.setIfInBounds i true).getD z true = false -> S w') /\ fY P md ops Q S z fuel (listed.setIfInBounds i true) a' w') a w)
    (h2 : wpOp P ops Q j (fun a' w' => ((listed.setIfInBounds j true).getD z true = false -> S w') /\ fY P md ops Q S z fuel (listed.setIfInBounds j true) a' w') a w) : fY P md ops Q S z (fuel + 1) listed a w :=
  Gb hr (by simp) fun k hk => by
    rcases jg.1 hk with rfl | hk
    · exact h
    · obtain rfl := jy.1 hk
      exact h2
theorem Hc {listed : Array Bool} {a : Act} {w : World} (hr : Region.ready md ops listed = []) (h : Q .normal a w) : ∀ fuel, fY P md ops Q S z fuel listed a w
  | 0 => ⟨hr, h⟩
  | _ + 1 => ⟨fun _ => h, by rw [hr]; simp⟩
end
end W
end
section
open Go Go.Proofs Ax Go.RowKit
namespace W
theorem zL {Lw : Nat} {H : PH Lw} {rows : List (List PV)} {v : Value} (h : qp H (.sl rows) v) : ∃ p c, v = .slice p rows.length c := by
  simp only [qp] at h
  rcases h with ⟨rfl, rfl | ⟨a, cap, rfl⟩⟩ | ⟨b, o, z, cap, rfl, _⟩
  · exact ⟨_, _, rfl⟩
  · exact ⟨_, _, rfl⟩
  · exact ⟨_, _, rfl⟩
theorem Qk {Lw : Nat} {H : PH Lw} {v : Val} {us : List Value} (h : qJ H v.cells us) : ∃ (k i : Int) (b : Bool) (s : ByteArray) (p q : Option Addr) (n c m e : Nat), us = [.int .i64 k, .bool b, .int .i64 i, .string s, .slice p n c, .slice q m e] := by
  obtain ⟨k, b, i, s, l, ks⟩ := v
  simp only [Val.cells, qJ] at h
  obtain ⟨i0, _, rfl, h1, i1, _, rfl, h2, i2, _, rfl, h3, i3, _, rfl, h4, y0, _, rfl, h5, z0, _, rfl, h6, rfl⟩ := h
  obtain ⟨p, c, rfl⟩ := zL h5
  obtain ⟨q, e, rfl⟩ := zL h6
  simp only [qp] at h1 h2 h3 h4
  subst h1 h2 h3 h4
  exact ⟨_, _, _, _, _, _, _, _, _, _, rfl⟩
def Ur {L : Nat} (K : SK) (H0 : PH L) (M0 : Nat -> Prop) (w0 : World) (names : List (List UInt8)) (vals : List Val) (used : List Int) (found : List bS) (w : World) : Prop :=
  ∃ (H : PH L) (vn vv vf : Value) (D : DM), Sg K H0 M0 w0 H w vn vv vf vn vv vf names vals found used.length D /\ uo D used
section
variable {L : Nat} {K : SK} {H0 H : PH L} {M0 : Nat -> Prop} {w0 w : World} {bn bv bf vn vv vf : Value} {names : List (List UInt8)} {vals : List Val} {used : List Int} {found found' : List bS} {cnt : Nat} {D : DM}
theorem Sg.start (h : Sg K H0 M0 w0 H w bn bv bf vn vv vf names vals found cnt D) : Sg K H (K.M vn vv vf) w H w bn bv bf vn vv vf names vals found cnt D := by
  obtain ⟨lab, s, t, g⟩ := h
  exact ⟨lab, s, t, Gw.refl _ _ _⟩
theorem Ur.base {M : Nat -> Prop} {w' : World} (h : Ur K H M w names vals used found w') (g : Gw H0 M0 w0 H M w) : Ur K H0 M0 w0 names vals used found w' := by
  obtain ⟨H', vn, vv, vf, D, ⟨lab, s, t, g'⟩, u⟩ := h
  exact ⟨H', vn, vv, vf, D, ⟨lab, s, t, g.trans g'⟩, u⟩
abbrev dE (k i : Int) (b : Bool) (s : ByteArray) (p q : Option Addr) (n c m e : Nat) : Array Value := #[.int .i64 k, .bool b, .int .i64 i, .string s, .slice p n c, .slice q m e]
set_option maxHeartbeats 8000000 in
set_option maxRecDepth 100000 in
theorem Dq (h : Sg K H0 M0 w0 H w vn vv vf vn vv vf names vals found used.length D) (hu : uo D used) {n : Nat} {name : List UInt8} (hf : Ep n names name = true) {x : Val} {us : List Value} (hx : qJ H x.cells us)
    {k : Nat} {caps : Array Value} (hk : ∀ (args : Array Value) (w : World), (callFunc k args).run Tryz.prog w = .ok (.enter k args) w) {b : Bool} (hl : names.length < 1000000000) (hlv : vals.length = names.length)
    (hth : ∀ (H1 : PH L) (w1 : World) (vn1 vv1 vf1 : Value) (D1 : DM), Sg K H (K.M vn vv vf) w H1 w1 vn1 vv1 vf1 vn1 vv1 vf1 (if name = [] then names else names ++ [name]) (if name = [] then vals else vals ++ [x]) found used.length D1 -> uo D1 used ->
      Calls Tryz.prog k caps w1 fun e w' => e = .returned (.bool b) /\ Ur K H (K.M vn vv vf) w (if name = [] then names else names ++ [name]) (if name = [] then vals else vals ++ [x]) used found' w') :
    Calls Tryz.prog 69 #[.pointer (some ⟨K.sb, 0, none⟩), .string ⟨name.toArray⟩, .agg us.toArray, .func (.func k) #[] caps] w fun e w' => e = .returned (.bool b) /\ Ur K H (K.M vn vv vf) w names vals used found' w' := by
  obtain ⟨k1, i1, b1, s1, p1, q1, n1, c1', m1, e1, rfl⟩ := Qk hx
  have h1 := h.start.alloc (.cells (dE k1 i1 b1 s1 p1 q1 n1 c1' m1 e1) 32)
  have m := DB h1 hf
  by_cases hn : name = []
  · subst hn
    simp only [if_true] at hth
    go_enter Tryz.func69, Tryz.ntmps69
    go_wp2_with (first
      | (go_at_call 97; refine m.mono ?_; rintro e w1 ⟨rfl, c1⟩)
      | (go_at_fn k; refine (hth _ _ _ _ _ _ ((h1.below c1).alloc _) hu).mono ?_; rintro e w2 ⟨rfl, r⟩))
    go_ret
    exact ⟨rfl, r⟩
  · rw [if_neg hn, if_neg hn] at hth
    have hne : ¬ ((⟨name.toArray⟩ : ByteArray) = ⟨#[]⟩) := fun e => hn (by have := congrArg (fun b : ByteArray => b.data.toList) e; simpa using this)
    have hie : name.isEmpty = false := by cases name with | nil => exact absurd rfl hn | cons _ _ => rfl
    go_enter Tryz.func69, Tryz.ntmps69
    go_wp2_with (
      go_at_call 97; refine m.mono ?_; rintro e w1 ⟨rfl, c1⟩)
    have h2 := (h1.below c1).alloc (.cells #[.int .i64 0, .bool false, .int .i64 0, .string ⟨#[]⟩, .slice none 0 0, .slice none 0 0] 32)
    have bv : w1.heap[w.heap.size]? = some (.cells (dE k1 i1 b1 s1 p1 q1 n1 c1' m1 e1) 32) := (c1.block _ (by simp)).trans (World.alloc_heap_new w _)
    have bv2 := (heap_alloc_old w1 (.cells #[.int .i64 0, .bool false, .int .i64 0, .string ⟨#[]⟩, .slice none 0 0, .slice none 0 0] 32) (gQ (qc bv 0 rfl))).trans bv
    generalize w1.alloc (.cells #[.int .i64 0, .bool false, .int .i64 0, .string ⟨#[]⟩, .slice none 0 0, .slice none 0 0] 32) = w2 at h2 bv2 ⊢
    obtain ⟨p, c, hvn⟩ := vJ h2.ownN
    obtain ⟨xs, x1, x2⟩ := h2.ownV
    obtain ⟨q, c2, hvv⟩ := vJ x1
    rw [hlv] at hvv
    have hb := h2.box
    obtain ⟨S, hSe⟩ : ∃ S : World -> Prop, S = fun w' : World => w'.cell? ⟨K.sb, 2, none⟩ = some (.slice p names.length c) /\ w'.cell? ⟨K.sb, 3, none⟩ = some (.slice q names.length c2) /\ w'.cell? ⟨w.heap.size, 0, none⟩ = some (.int .i64 k1) /\ w'.cell? ⟨w.heap.size, 1, none⟩ = some (.bool b1) /\ w'.cell? ⟨w.heap.size, 2, none⟩ = some (.int .i64 i1) /\ w'.cell? ⟨w.heap.size, 3, none⟩ = some (.string s1) /\ w'.cell? ⟨w.heap.size, 4, none⟩ = some (.slice p1 n1 c1') /\ w'.cell? ⟨w.heap.size, 5, none⟩ = some (.slice q1 m1 e1) := ⟨_, rfl⟩
    have hS : S w2.drew := by
      rw [hSe]
      exact ⟨by rw [← hvn]; exact qc hb 2 rfl, by rw [← hvv]; exact qc hb 3 rfl, qc bv2 0 rfl, qc bv2 1 rfl, qc bv2 2 rfl, qc bv2 3 rfl, qc bv2 4 rfl, qc bv2 5 rfl⟩
    have hsb : K.sb < w2.heap.size := (h2.fresh (.inl rfl)).2.1
    have hwb : w.heap.size < w2.heap.size := gQ (qc bv2 0 rfl)
    have nw : vn.ownBlock ≠ some w.heap.size := fun e => jQ _ (h.fresh (.inr (.inr (.inl e)))).2.1
    have nsb := h2.nsb
    have hSA : ∀ (W : World) (o : Obj), S W -> S (W.alloc o) := fun W o hW => by
      rw [hSe] at hW ⊢
      obtain ⟨s2, s3, t0, t1, t2, t3, t4, t5⟩ := hW
      exact ⟨zV _ s2, zV _ s3, zV _ t0, zV _ t1, zV _ t2, zV _ t3, zV _ t4, zV _ t5⟩
    have hSG : ∀ (W W' : World), S W -> W.grownBy W' vn.ownBlock -> S W' := fun W W' hW hg => by
      rw [hSe] at hW ⊢
      obtain ⟨s2, s3, t0, t1, t2, t3, t4, t5⟩ := hW
      have k1 : W'.heap[K.sb]? = W.heap[K.sb]? := hg.block _ (gQ s2) fun e => nsb e.symm
      have k2 : W'.heap[w.heap.size]? = W.heap[w.heap.size]? := hg.block _ (gQ t0) fun e => nw e.symm
      exact ⟨(World.cell?_of_block (w := W) (a := ⟨K.sb, 2, none⟩) k1).trans s2, (World.cell?_of_block (w := W) (a := ⟨K.sb, 3, none⟩) k1).trans s3, (World.cell?_of_block (w := W) (a := ⟨w.heap.size, 0, none⟩) k2).trans t0, (World.cell?_of_block (w := W) (a := ⟨w.heap.size, 1, none⟩) k2).trans t1,
        (World.cell?_of_block (w := W) (a := ⟨w.heap.size, 2, none⟩) k2).trans t2, (World.cell?_of_block (w := W) (a := ⟨w.heap.size, 3, none⟩) k2).trans t3, (World.cell?_of_block (w := W) (a := ⟨w.heap.size, 4, none⟩) k2).trans t4, (World.cell?_of_block (w := W) (a := ⟨w.heap.size, 5, none⟩) k2).trans t5⟩
    have hd := h2.drew
    have hsb3 : K.sb < w2.drew.heap.size := hsb
    have hwb3 : w.heap.size < w2.drew.heap.size := hwb
    have hL3 : L <= w2.drew.heap.size := h2.sat.low
    obtain ⟨i9, p91, p92, p93, p94⟩ := Ra
    obtain ⟨i32, p31, p32, p33, p34⟩ := HK
    refine Ds S 17 (by kernel_rfl) ?_
    change fY _ _ _ _ _ _ _ _ _ w2.drew
    generalize w2.drew = w3 at hS hd hsb3 hwb3 hL3 ⊢
    simp only [jL, ja, jc, Nat.reduceAdd, Array.replicate_succ, Array.replicate_zero, List.push_toArray, jt, List.cons_append]
    refine xS (i := 0) (v := ?_) rfl (by kernel_rfl) (by kernel_rfl) (by kernel_rfl) (fun _ _ _ h => h) (by decide) (Or.inl ⟨by rfl, ?_⟩) (fun _ => hS) ?_; rotate_left
    · intro w _; go_simp; try with_reducible rfl
    try simp only [Act.put, List.setIfInBounds_toArray, List.set_cons_zero, List.set_cons_succ]
    refine xS (i := 1) (v := ?_) rfl (by kernel_rfl) (by kernel_rfl) (by kernel_rfl) (fun _ _ _ h => h) (by decide) (Or.inl ⟨by rfl, ?_⟩) (fun _ => hS) ?_; rotate_left
    · intro w _; go_simp; try with_reducible rfl
    try simp only [Act.put, List.setIfInBounds_toArray, List.set_cons_zero, List.set_cons_succ]
    refine xS (i := 2) (v := ?_) rfl (by kernel_rfl) (by kernel_rfl) (by kernel_rfl) (fun _ _ _ h => h) (by decide) (Or.inl ⟨by rfl, ?_⟩) (fun _ => hS) ?_; rotate_left
    · intro w _; go_simp; try with_reducible rfl
    try simp only [Act.put, List.setIfInBounds_toArray, List.set_cons_zero, List.set_cons_succ]
    refine xS (i := 3) (v := ?_) rfl (by kernel_rfl) (by kernel_rfl) (by kernel_rfl) (fun _ _ _ h => h) (by decide) (Or.inl ⟨by rfl, ?_⟩) (fun _ => hS) ?_; rotate_left
    · intro w _; go_simp; try with_reducible rfl
    try simp only [Act.put, List.setIfInBounds_toArray, List.set_cons_zero, List.set_cons_succ]
    refine xS (i := 4) (v := ?_) rfl (by kernel_rfl) (by kernel_rfl) (by kernel_rfl) (fun _ _ _ h => h) (by decide) (Or.inl ⟨by rfl, ?_⟩) (fun _ => hS) ?_; rotate_left
    · intro w _; go_simp; try with_reducible rfl
    try simp only [Act.put, List.setIfInBounds_toArray, List.set_cons_zero, List.set_cons_succ]
    refine xS (i := 5) (v := ?_) rfl (by kernel_rfl) (by kernel_rfl) (by kernel_rfl) (fun _ _ _ h => h) (by decide) (Or.inl ⟨by rfl, ?_⟩) (fun _ => hS) ?_; rotate_left
    · intro w _; go_simp; try with_reducible rfl
    try simp only [Act.put, List.setIfInBounds_toArray, List.set_cons_zero, List.set_cons_succ]
    refine He (i := 6) (v := ?_) 9 rfl (by kernel_rfl) (by kernel_rfl) (by kernel_rfl) (fun _ _ _ h => h) (by decide) ⟨_, rfl, by decide⟩ (.inr ⟨_, rfl, by decide⟩) (by rfl) (by rfl) (Or.inl ⟨by rfl, ?_⟩) hS ?_; rotate_left
    · intro w hw; rw [hSe] at hw; obtain ⟨s2, s3, t0, t1, t2, t3, t4, t5⟩ := hw; go_simp; try with_reducible rfl
    try simp only [Act.put, List.setIfInBounds_toArray, List.set_cons_zero, List.set_cons_succ]
    refine xS (i := 7) (v := ?_) rfl (by kernel_rfl) (by kernel_rfl) (by kernel_rfl) (fun _ _ _ h => h) (by decide) (Or.inl ⟨by rfl, ?_⟩) (fun _ => hS) ?_; rotate_left
    · intro w _; go_simp; try with_reducible rfl
    try simp only [Act.put, List.setIfInBounds_toArray, List.set_cons_zero, List.set_cons_succ]
    refine xS (i := 10) (v := ?_) rfl (by kernel_rfl) (by kernel_rfl) (by kernel_rfl) (fun _ _ _ h => h) (by decide) (Or.inl ⟨by rfl, ?_⟩) (fun _ => hS) ?_; rotate_left
    · intro w _; go_simp; try with_reducible rfl
    try simp only [Act.put, List.setIfInBounds_toArray, List.set_cons_zero, List.set_cons_succ]
    refine xS (i := 11) (v := ?_) rfl (by kernel_rfl) (by kernel_rfl) (by kernel_rfl) (fun _ _ _ h => h) (by decide) (Or.inl ⟨by rfl, ?_⟩) (fun _ => hS) ?_; rotate_left
    · intro w _; go_simp; try with_reducible rfl
    try simp only [Act.put, List.setIfInBounds_toArray, List.set_cons_zero, List.set_cons_succ]
    refine xS (i := 12) (v := ?_) rfl (by kernel_rfl) (by kernel_rfl) (by kernel_rfl) (fun _ _ _ h => h) (by decide) (Or.inl ⟨by rfl, ?_⟩) (fun _ => hS) ?_; rotate_left
    · intro w _; go_simp; try with_reducible rfl
    try simp only [Act.put, List.setIfInBounds_toArray, List.set_cons_zero, List.set_cons_succ]
    refine xS (i := 13) (v := ?_) rfl (by kernel_rfl) (by kernel_rfl) (by kernel_rfl) (fun _ _ _ h => h) (by decide) (Or.inl ⟨by rfl, ?_⟩) (fun _ => hS) ?_; rotate_left
    · intro w _; go_simp; try with_reducible rfl
    try simp only [Act.put, List.setIfInBounds_toArray, List.set_cons_zero, List.set_cons_succ]
    refine He (i := 14) (v := ?_) 17 rfl (by kernel_rfl) (by kernel_rfl) (by kernel_rfl) (fun _ _ _ h => h) (by decide) ⟨_, rfl, by decide⟩ (.inl rfl) (by rfl) (by rfl) (Or.inl ⟨by rfl, ?_⟩) hS ?_; rotate_left
    · intro w hw; rw [hSe] at hw; obtain ⟨s2, s3, t0, t1, t2, t3, t4, t5⟩ := hw; go_simp; try with_reducible rfl
    try simp only [Act.put, List.setIfInBounds_toArray, List.set_cons_zero, List.set_cons_succ]
    refine He (i := 15) (v := ?_) 16 rfl (by kernel_rfl) (by kernel_rfl) (by kernel_rfl) (fun _ _ _ h => h) (by decide) ⟨_, rfl, by decide⟩ (.inr ⟨_, rfl, by decide⟩) (by rfl) (by rfl) (Or.inl ⟨by rfl, ?_⟩) hS ?_; rotate_left
    · intro w hw; rw [hSe] at hw; obtain ⟨s2, s3, t0, t1, t2, t3, t4, t5⟩ := hw; go_simp; try with_reducible rfl
    try simp only [Act.put, List.setIfInBounds_toArray, List.set_cons_zero, List.set_cons_succ]
    refine Gc (i := 8) (j := 16) (by kernel_rfl) ?_ ?_
    refine FI rfl fun Kk hKk => ?_
    go_simp
    refine hKk _ _ ⟨fun _ => hSA _ _ hS, ?_⟩
    try simp only [Act.put, List.setIfInBounds_toArray, List.set_cons_zero, List.set_cons_succ]
    have hS1 := hSA _ (.cells #[.string ⟨name.toArray⟩] 9) hS
    have d1 := hd.alloc (.cells #[.string ⟨name.toArray⟩] 9)
    have q8 : (w3.alloc (.cells #[.string ⟨name.toArray⟩] 9)).heap[w3.heap.size]? = some (.cells #[.string ⟨name.toArray⟩] 9) := xl w3 (.cells #[.string ⟨name.toArray⟩] 9) _ rfl
    have l1 : L <= (w3.alloc (.cells #[.string ⟨name.toArray⟩] 9)).heap.size := Nat.le_trans hL3 (by simp)
    refine Gc (i := 9) (j := 16) (by kernel_rfl) ?_ ?_
    refine FI rfl fun Kk hKk => ?_
    refine step_append_lies _ (by rfl) _ _ _ (by rfl) L 9 i9 _ 1 16 Tryz.underlying23 p91 p92 p93 p94 rfl (by omega) (.slice p names.length c) names.length (VB names) (by rfl) (by rw [← hvn]; exact d1.ownN) ⟨w3.heap.size, 0, none⟩ 1 1 [.string ⟨name.toArray⟩] (by rfl) (by rfl) (World.news_of_block (cs := #[.string ⟨name.toArray⟩]) (t := 9) (fr := (0, 0)) (by exact q8)) (by simp [Value.oneCell']) (by omega) (by unfold maxLen; omega) (by omega) l1 _ rfl ?_
    intro g1 cap1 w4 hown1 hgr1 hat1 hlt1
    rw [← hvn] at hgr1 hat1
    refine hKk _ _ ⟨fun _ => hSG _ _ hS1 hgr1, ?_⟩
    try simp only [Act.put, List.setIfInBounds_toArray, List.set_cons_zero, List.set_cons_succ]
    have hS2 := hSG _ _ hS1 hgr1
    have d2 := d1.nm hown1 hgr1 (hat1.imp (fun e => e.symm) fun e => by rw [e]; rfl)
    have l2 : L <= w4.heap.size := Nat.le_trans l1 hgr1.size
    refine xF (i := 16) (by kernel_rfl) ?_
    refine FI rfl fun Kk hKk => ?_
    go_simp
    refine hKk _ _ ⟨fun _ => hSA _ _ hS2, ?_⟩
    try simp only [Act.put, List.setIfInBounds_toArray, List.set_cons_zero, List.set_cons_succ]
    have hS3 := hSA _ (.cells (dE k1 i1 b1 s1 p1 q1 n1 c1' m1 e1) 32) hS2
    have d3 := d2.alloc (.cells (dE k1 i1 b1 s1 p1 q1 n1 c1' m1 e1) 32)
    have q16 : (w4.alloc (.cells (dE k1 i1 b1 s1 p1 q1 n1 c1' m1 e1) 32)).heap[w4.heap.size]? = some (.cells (dE k1 i1 b1 s1 p1 q1 n1 c1' m1 e1) 32) := xl w4 (.cells (dE k1 i1 b1 s1 p1 q1 n1 c1' m1 e1) 32) _ rfl
    have l3 : L <= (w4.alloc (.cells (dE k1 i1 b1 s1 p1 q1 n1 c1' m1 e1) 32)).heap.size := Nat.le_trans l2 (by simp)
    refine xF (i := 17) (by kernel_rfl) ?_
    refine FI rfl fun Kk hKk => ?_
    obtain ⟨ys, y1, y2⟩ := d3.ownV
    refine step_append_lies _ (by rfl) _ _ _ (by rfl) L 32 i32 _ 6 88 Tryz.underlying24 p31 p32 p33 p34 rfl (by omega) (.slice q names.length c2) names.length ys (by rfl) (by rw [← hvv, ← hlv]; exact y1) ⟨w4.heap.size, 0, none⟩ 1 1 [.int .i64 k1, .bool b1, .int .i64 i1, .string s1, .slice p1 n1 c1', .slice q1 m1 e1] (by rfl) (by rfl) (World.news_of_block (cs := dE k1 i1 b1 s1 p1 q1 n1 c1' m1 e1) (t := 32) (fr := (0, 0)) (by exact q16)) (by simp [Value.oneCell']) (by omega) (by unfold maxLen; omega) (by omega) l3 _ rfl ?_
    intro g2 cap2 w5 hown2 hgr2 hat2 hlt2
    rw [← hvv] at hgr2 hat2
    have hown3 := hown2
    rw [← hlv] at hown3
    refine hKk _ _ ⟨fun e => (by cases e), ?_⟩
    try simp only [Act.put, List.setIfInBounds_toArray, List.set_cons_zero, List.set_cons_succ]
    have hE := d3.vl hx ⟨y1, y2⟩ hown3 hgr2 (hat2.imp (fun e => e.symm) fun e => by rw [e]; rfl)
    have e2 := qc hE.box 2 rfl
    have e3 := qc hE.box 3 rfl
    have ef := hE.nofrz
    refine xS (i := 18) (v := ?_) rfl (by kernel_rfl) (by kernel_rfl) (by kernel_rfl) (fun _ _ _ h => h) (by decide) (Or.inl ⟨by rfl, ?_⟩) (fun e => absurd e (by decide)) ?_; rotate_left
    · intro w _; go_simp; try with_reducible rfl
    try simp only [Act.put, List.setIfInBounds_toArray, List.set_cons_zero, List.set_cons_succ]
    refine xS (i := 19) (v := ?_) rfl (by kernel_rfl) (by kernel_rfl) (by kernel_rfl) (fun _ _ _ h => h) (by decide) (Or.inl ⟨by rfl, ?_⟩) (fun e => absurd e (by decide)) ?_; rotate_left
    · intro w _; go_simp; try with_reducible rfl
    try simp only [Act.put, List.setIfInBounds_toArray, List.set_cons_zero, List.set_cons_succ]
    refine xS (i := 20) (v := ?_) rfl (by kernel_rfl) (by kernel_rfl) (by kernel_rfl) (fun _ _ _ h => h) (by decide) (Or.inl ⟨by rfl, ?_⟩) (fun e => absurd e (by decide)) ?_; rotate_left
    · intro w _; go_simp; try with_reducible rfl
    try simp only [Act.put, List.setIfInBounds_toArray, List.set_cons_zero, List.set_cons_succ]
    refine xF (i := 21) (by kernel_rfl) ?_
    refine FI rfl fun Kk hKk => ?_
    go_simp
    refine hKk _ _ ⟨fun e => absurd e (by decide), ?_⟩
    try simp only [Act.put, List.setIfInBounds_toArray, List.set_cons_zero, List.set_cons_succ]
    refine xS (i := 22) (v := ?_) rfl (by kernel_rfl) (by kernel_rfl) (by kernel_rfl) (fun _ _ _ h => h) (by decide) (Or.inl ⟨by rfl, ?_⟩) (fun e => absurd e (by decide)) ?_; rotate_left
    · intro w _; go_simp; try with_reducible rfl
    try simp only [Act.put, List.setIfInBounds_toArray, List.set_cons_zero, List.set_cons_succ]
    refine xS (i := 23) (v := ?_) rfl (by kernel_rfl) (by kernel_rfl) (by kernel_rfl) (fun _ _ _ h => h) (by decide) (Or.inl ⟨by rfl, ?_⟩) (fun e => absurd e (by decide)) ?_; rotate_left
    · intro w _; go_simp; try with_reducible rfl
    try simp only [Act.put, List.setIfInBounds_toArray, List.set_cons_zero, List.set_cons_succ]
    refine xS (i := 24) (v := ?_) rfl (by kernel_rfl) (by kernel_rfl) (by kernel_rfl) (fun _ _ _ h => h) (by decide) (Or.inl ⟨by rfl, ?_⟩) (fun e => absurd e (by decide)) ?_; rotate_left
    · intro w _; go_simp; try with_reducible rfl
    try simp only [Act.put, List.setIfInBounds_toArray, List.set_cons_zero, List.set_cons_succ]
    refine xF (i := 25) (by kernel_rfl) ?_
    refine FI rfl fun Kk hKk => ?_
    go_simp
    refine hKk _ _ ⟨fun e => absurd e (by decide), ?_⟩
    try simp only [Act.put, List.setIfInBounds_toArray, List.set_cons_zero, List.set_cons_succ]
    refine Hc (by kernel_rfl) ?_ _
    rotate_left
    refine FI rfl fun Kk hKk => ?_
    go_simp
    refine hKk _ _ ⟨fun _ => hSA _ _ hS1, ?_⟩
    try simp only [Act.put, List.setIfInBounds_toArray, List.set_cons_zero, List.set_cons_succ]
    have hS2 := hSA _ (.cells (dE k1 i1 b1 s1 p1 q1 n1 c1' m1 e1) 32) hS1
    have d2 := d1.alloc (.cells (dE k1 i1 b1 s1 p1 q1 n1 c1' m1 e1) 32)
    have q16 : ((w3.alloc (.cells #[.string ⟨name.toArray⟩] 9)).alloc (.cells (dE k1 i1 b1 s1 p1 q1 n1 c1' m1 e1) 32)).heap[w3.heap.size + 1]? = some (.cells (dE k1 i1 b1 s1 p1 q1 n1 c1' m1 e1) 32) := xl (w3.alloc (.cells #[.string ⟨name.toArray⟩] 9)) (.cells (dE k1 i1 b1 s1 p1 q1 n1 c1' m1 e1) 32) _ (by simp)
    have l2 : L <= ((w3.alloc (.cells #[.string ⟨name.toArray⟩] 9)).alloc (.cells (dE k1 i1 b1 s1 p1 q1 n1 c1' m1 e1) 32)).heap.size := Nat.le_trans l1 (by simp)
    have q8 := (heap_alloc_old (w3.alloc (.cells #[.string ⟨name.toArray⟩] 9)) (.cells (dE k1 i1 b1 s1 p1 q1 n1 c1' m1 e1) 32) (jH.1 q8).1).trans q8
    refine xF (i := 9) (by kernel_rfl) ?_
    refine FI rfl fun Kk hKk => ?_
    refine step_append_lies _ (by rfl) _ _ _ (by rfl) L 9 i9 _ 1 16 Tryz.underlying23 p91 p92 p93 p94 rfl (by omega) (.slice p names.length c) names.length (VB names) (by rfl) (by rw [← hvn]; exact d2.ownN) ⟨w3.heap.size, 0, none⟩ 1 1 [.string ⟨name.toArray⟩] (by rfl) (by rfl) (World.news_of_block (cs := #[.string ⟨name.toArray⟩]) (t := 9) (fr := (0, 0)) (by exact q8)) (by simp [Value.oneCell']) (by omega) (by unfold maxLen; omega) (by omega) l2 _ rfl ?_
    intro g1 cap1 w4 hown1 hgr1 hat1 hlt1
    rw [← hvn] at hgr1 hat1
    refine hKk _ _ ⟨fun _ => hSG _ _ hS2 hgr1, ?_⟩
    try simp only [Act.put, List.setIfInBounds_toArray, List.set_cons_zero, List.set_cons_succ]
    have hS3 := hSG _ _ hS2 hgr1
    have d3 := d2.nm hown1 hgr1 (hat1.imp (fun e => e.symm) fun e => by rw [e]; rfl)
    have l3 : L <= w4.heap.size := Nat.le_trans l2 hgr1.size
    have q16 := (hgr1.block _ (jH.1 q16).1 (fun e => absurd (hd.fresh (.inr (.inr (.inl e.symm)))).2.1 (by omega))).trans q16
    refine xF (i := 17) (by kernel_rfl) ?_
    refine FI rfl fun Kk hKk => ?_
    obtain ⟨ys, y1, y2⟩ := d3.ownV
    refine step_append_lies _ (by rfl) _ _ _ (by rfl) L 32 i32 _ 6 88 Tryz.underlying24 p31 p32 p33 p34 rfl (by omega) (.slice q names.length c2) names.length ys (by rfl) (by rw [← hvv, ← hlv]; exact y1) ⟨w3.heap.size + 1, 0, none⟩ 1 1 [.int .i64 k1, .bool b1, .int .i64 i1, .string s1, .slice p1 n1 c1', .slice q1 m1 e1] (by rfl) (by rfl) (World.news_of_block (cs := dE k1 i1 b1 s1 p1 q1 n1 c1' m1 e1) (t := 32) (fr := (0, 0)) (by exact q16)) (by simp [Value.oneCell']) (by omega) (by unfold maxLen; omega) (by omega) l3 _ rfl ?_
    intro g2 cap2 w5 hown2 hgr2 hat2 hlt2
    rw [← hvv] at hgr2 hat2
    have hown3 := hown2
    rw [← hlv] at hown3
    refine hKk _ _ ⟨fun e => (by cases e), ?_⟩
    try simp only [Act.put, List.setIfInBounds_toArray, List.set_cons_zero, List.set_cons_succ]
    have hE := d3.vl hx ⟨y1, y2⟩ hown3 hgr2 (hat2.imp (fun e => e.symm) fun e => by rw [e]; rfl)
    have e2 := qc hE.box 2 rfl
    have e3 := qc hE.box 3 rfl
    have ef := hE.nofrz
    refine xS (i := 18) (v := ?_) rfl (by kernel_rfl) (by kernel_rfl) (by kernel_rfl) (fun _ _ _ h => h) (by decide) (Or.inl ⟨by rfl, ?_⟩) (fun e => absurd e (by decide)) ?_; rotate_left
    · intro w _; go_simp; try with_reducible rfl
    try simp only [Act.put, List.setIfInBounds_toArray, List.set_cons_zero, List.set_cons_succ]
    refine xS (i := 19) (v := ?_) rfl (by kernel_rfl) (by kernel_rfl) (by kernel_rfl) (fun _ _ _ h => h) (by decide) (Or.inl ⟨by rfl, ?_⟩) (fun e => absurd e (by decide)) ?_; rotate_left
    · intro w _; go_simp; try with_reducible rfl
    try simp only [Act.put, List.setIfInBounds_toArray, List.set_cons_zero, List.set_cons_succ]
    refine xS (i := 20) (v := ?_) rfl (by kernel_rfl) (by kernel_rfl) (by kernel_rfl) (fun _ _ _ h => h) (by decide) (Or.inl ⟨by rfl, ?_⟩) (fun e => absurd e (by decide)) ?_; rotate_left
    · intro w _; go_simp; try with_reducible rfl
    try simp only [Act.put, List.setIfInBounds_toArray, List.set_cons_zero, List.set_cons_succ]
    refine xF (i := 21) (by kernel_rfl) ?_
    refine FI rfl fun Kk hKk => ?_
    go_simp
    refine hKk _ _ ⟨fun e => absurd e (by decide), ?_⟩
    try simp only [Act.put, List.setIfInBounds_toArray, List.set_cons_zero, List.set_cons_succ]
    refine xS (i := 22) (v := ?_) rfl (by kernel_rfl) (by kernel_rfl) (by kernel_rfl) (fun _ _ _ h => h) (by decide) (Or.inl ⟨by rfl, ?_⟩) (fun e => absurd e (by decide)) ?_; rotate_left
    · intro w _; go_simp; try with_reducible rfl
    try simp only [Act.put, List.setIfInBounds_toArray, List.set_cons_zero, List.set_cons_succ]
    refine xS (i := 23) (v := ?_) rfl (by kernel_rfl) (by kernel_rfl) (by kernel_rfl) (fun _ _ _ h => h) (by decide) (Or.inl ⟨by rfl, ?_⟩) (fun e => absurd e (by decide)) ?_; rotate_left
    · intro w _; go_simp; try with_reducible rfl
    try simp only [Act.put, List.setIfInBounds_toArray, List.set_cons_zero, List.set_cons_succ]
    refine xS (i := 24) (v := ?_) rfl (by kernel_rfl) (by kernel_rfl) (by kernel_rfl) (fun _ _ _ h => h) (by decide) (Or.inl ⟨by rfl, ?_⟩) (fun e => absurd e (by decide)) ?_; rotate_left
    · intro w _; go_simp; try with_reducible rfl
    try simp only [Act.put, List.setIfInBounds_toArray, List.set_cons_zero, List.set_cons_succ]
    refine xF (i := 25) (by kernel_rfl) ?_
    refine FI rfl fun Kk hKk => ?_
    go_simp
    refine hKk _ _ ⟨fun e => absurd e (by decide), ?_⟩
    try simp only [Act.put, List.setIfInBounds_toArray, List.set_cons_zero, List.set_cons_succ]
    refine Hc (by kernel_rfl) ?_ _
    rotate_left
    refine FI rfl fun Kk hKk => ?_
    go_simp
    refine hKk _ _ ⟨fun _ => hSA _ _ hS, ?_⟩
    try simp only [Act.put, List.setIfInBounds_toArray, List.set_cons_zero, List.set_cons_succ]
    have hS1 := hSA _ (.cells (dE k1 i1 b1 s1 p1 q1 n1 c1' m1 e1) 32) hS
    have d1 := hd.alloc (.cells (dE k1 i1 b1 s1 p1 q1 n1 c1' m1 e1) 32)
    have q16 : (w3.alloc (.cells (dE k1 i1 b1 s1 p1 q1 n1 c1' m1 e1) 32)).heap[w3.heap.size]? = some (.cells (dE k1 i1 b1 s1 p1 q1 n1 c1' m1 e1) 32) := xl w3 (.cells (dE k1 i1 b1 s1 p1 q1 n1 c1' m1 e1) 32) _ rfl
    have l1 : L <= (w3.alloc (.cells (dE k1 i1 b1 s1 p1 q1 n1 c1' m1 e1) 32)).heap.size := Nat.le_trans hL3 (by simp)
    refine xF (i := 8) (by kernel_rfl) ?_
    refine FI rfl fun Kk hKk => ?_
    go_simp
    refine hKk _ _ ⟨fun _ => hSA _ _ hS1, ?_⟩
    try simp only [Act.put, List.setIfInBounds_toArray, List.set_cons_zero, List.set_cons_succ]
    have hS2 := hSA _ (.cells #[.string ⟨name.toArray⟩] 9) hS1
    have d2 := d1.alloc (.cells #[.string ⟨name.toArray⟩] 9)
    have q8 : ((w3.alloc (.cells (dE k1 i1 b1 s1 p1 q1 n1 c1' m1 e1) 32)).alloc (.cells #[.string ⟨name.toArray⟩] 9)).heap[w3.heap.size + 1]? = some (.cells #[.string ⟨name.toArray⟩] 9) := xl (w3.alloc (.cells (dE k1 i1 b1 s1 p1 q1 n1 c1' m1 e1) 32)) (.cells #[.string ⟨name.toArray⟩] 9) _ (by simp)
    have l2 : L <= ((w3.alloc (.cells (dE k1 i1 b1 s1 p1 q1 n1 c1' m1 e1) 32)).alloc (.cells #[.string ⟨name.toArray⟩] 9)).heap.size := Nat.le_trans l1 (by simp)
    have q16 := (heap_alloc_old (w3.alloc (.cells (dE k1 i1 b1 s1 p1 q1 n1 c1' m1 e1) 32)) (.cells #[.string ⟨name.toArray⟩] 9) (jH.1 q16).1).trans q16
    refine xF (i := 9) (by kernel_rfl) ?_
    refine FI rfl fun Kk hKk => ?_
    refine step_append_lies _ (by rfl) _ _ _ (by rfl) L 9 i9 _ 1 16 Tryz.underlying23 p91 p92 p93 p94 rfl (by omega) (.slice p names.length c) names.length (VB names) (by rfl) (by rw [← hvn]; exact d2.ownN) ⟨w3.heap.size + 1, 0, none⟩ 1 1 [.string ⟨name.toArray⟩] (by rfl) (by rfl) (World.news_of_block (cs := #[.string ⟨name.toArray⟩]) (t := 9) (fr := (0, 0)) (by exact q8)) (by simp [Value.oneCell']) (by omega) (by unfold maxLen; omega) (by omega) l2 _ rfl ?_
    intro g1 cap1 w4 hown1 hgr1 hat1 hlt1
    rw [← hvn] at hgr1 hat1
    refine hKk _ _ ⟨fun _ => hSG _ _ hS2 hgr1, ?_⟩
    try simp only [Act.put, List.setIfInBounds_toArray, List.set_cons_zero, List.set_cons_succ]
    have hS3 := hSG _ _ hS2 hgr1
    have d3 := d2.nm hown1 hgr1 (hat1.imp (fun e => e.symm) fun e => by rw [e]; rfl)
    have l3 : L <= w4.heap.size := Nat.le_trans l2 hgr1.size
    have q16 := (hgr1.block _ (jH.1 q16).1 (fun e => absurd (hd.fresh (.inr (.inr (.inl e.symm)))).2.1 (by omega))).trans q16
    refine xF (i := 17) (by kernel_rfl) ?_
    refine FI rfl fun Kk hKk => ?_
    obtain ⟨ys, y1, y2⟩ := d3.ownV
    refine step_append_lies _ (by rfl) _ _ _ (by rfl) L 32 i32 _ 6 88 Tryz.underlying24 p31 p32 p33 p34 rfl (by omega) (.slice q names.length c2) names.length ys (by rfl) (by rw [← hvv, ← hlv]; exact y1) ⟨w3.heap.size, 0, none⟩ 1 1 [.int .i64 k1, .bool b1, .int .i64 i1, .string s1, .slice p1 n1 c1', .slice q1 m1 e1] (by rfl) (by rfl) (World.news_of_block (cs := dE k1 i1 b1 s1 p1 q1 n1 c1' m1 e1) (t := 32) (fr := (0, 0)) (by exact q16)) (by simp [Value.oneCell']) (by omega) (by unfold maxLen; omega) (by omega) l3 _ rfl ?_
    intro g2 cap2 w5 hown2 hgr2 hat2 hlt2
    rw [← hvv] at hgr2 hat2
    have hown3 := hown2
    rw [← hlv] at hown3
    refine hKk _ _ ⟨fun e => (by cases e), ?_⟩
    try simp only [Act.put, List.setIfInBounds_toArray, List.set_cons_zero, List.set_cons_succ]
    have hE := d3.vl hx ⟨y1, y2⟩ hown3 hgr2 (hat2.imp (fun e => e.symm) fun e => by rw [e]; rfl)
    have e2 := qc hE.box 2 rfl
    have e3 := qc hE.box 3 rfl
    have ef := hE.nofrz
    refine xS (i := 18) (v := ?_) rfl (by kernel_rfl) (by kernel_rfl) (by kernel_rfl) (fun _ _ _ h => h) (by decide) (Or.inl ⟨by rfl, ?_⟩) (fun e => absurd e (by decide)) ?_; rotate_left
    · intro w _; go_simp; try with_reducible rfl
    try simp only [Act.put, List.setIfInBounds_toArray, List.set_cons_zero, List.set_cons_succ]
    refine xS (i := 19) (v := ?_) rfl (by kernel_rfl) (by kernel_rfl) (by kernel_rfl) (fun _ _ _ h => h) (by decide) (Or.inl ⟨by rfl, ?_⟩) (fun e => absurd e (by decide)) ?_; rotate_left
    · intro w _; go_simp; try with_reducible rfl
    try simp only [Act.put, List.setIfInBounds_toArray, List.set_cons_zero, List.set_cons_succ]
    refine xS (i := 20) (v := ?_) rfl (by kernel_rfl) (by kernel_rfl) (by kernel_rfl) (fun _ _ _ h => h) (by decide) (Or.inl ⟨by rfl, ?_⟩) (fun e => absurd e (by decide)) ?_; rotate_left
    · intro w _; go_simp; try with_reducible rfl
    try simp only [Act.put, List.setIfInBounds_toArray, List.set_cons_zero, List.set_cons_succ]
    refine xF (i := 21) (by kernel_rfl) ?_
    refine FI rfl fun Kk hKk => ?_
    go_simp
    refine hKk _ _ ⟨fun e => absurd e (by decide), ?_⟩
    try simp only [Act.put, List.setIfInBounds_toArray, List.set_cons_zero, List.set_cons_succ]
    refine xS (i := 22) (v := ?_) rfl (by kernel_rfl) (by kernel_rfl) (by kernel_rfl) (fun _ _ _ h => h) (by decide) (Or.inl ⟨by rfl, ?_⟩) (fun e => absurd e (by decide)) ?_; rotate_left
    · intro w _; go_simp; try with_reducible rfl
    try simp only [Act.put, List.setIfInBounds_toArray, List.set_cons_zero, List.set_cons_succ]
    refine xS (i := 23) (v := ?_) rfl (by kernel_rfl) (by kernel_rfl) (by kernel_rfl) (fun _ _ _ h => h) (by decide) (Or.inl ⟨by rfl, ?_⟩) (fun e => absurd e (by decide)) ?_; rotate_left
    · intro w _; go_simp; try with_reducible rfl
    try simp only [Act.put, List.setIfInBounds_toArray, List.set_cons_zero, List.set_cons_succ]
    refine xS (i := 24) (v := ?_) rfl (by kernel_rfl) (by kernel_rfl) (by kernel_rfl) (fun _ _ _ h => h) (by decide) (Or.inl ⟨by rfl, ?_⟩) (fun e => absurd e (by decide)) ?_; rotate_left
    · intro w _; go_simp; try with_reducible rfl
    try simp only [Act.put, List.setIfInBounds_toArray, List.set_cons_zero, List.set_cons_succ]
    refine xF (i := 25) (by kernel_rfl) ?_
    refine FI rfl fun Kk hKk => ?_
    go_simp
    refine hKk _ _ ⟨fun e => absurd e (by decide), ?_⟩
    try simp only [Act.put, List.setIfInBounds_toArray, List.set_cons_zero, List.set_cons_succ]
    refine Hc (by kernel_rfl) ?_ _
    rotate_left
    all_goals
      have hE4 := hE; rw [hlv] at hE4
      have hE3 := (hE4.set2 (.slice (some ⟨g1, 0, none⟩) (names.length + 1) cap1)).set3 (.slice (some ⟨g2, 0, none⟩) (names.length + 1) cap2)
      go_wp2_with (
        go_at_fn k; refine (hth _ _ _ _ _ _ hE3 hu).mono ?_; rintro e w6 ⟨rfl, H6, vn6, vv6, vf6, D6, hR, hu6⟩
        obtain ⟨p6, c6, e6⟩ := vJ hR.ownN
        obtain ⟨zs, z1, z2⟩ := hR.ownV
        obtain ⟨q6, c7, e7⟩ := vJ z1
        subst e6 e7
        simp only [jb, List.length_singleton] at hR z1
        have r2 : w6.cell? ⟨K.sb, 2, none⟩ = some (.slice p6 (names.length + 1) c6) := qc hR.box 2 rfl
        have r3 : w6.cell? ⟨K.sb, 3, none⟩ = some (.slice q6 (vals.length + 1) c7) := qc hR.box 3 rfl)
    all_goals
      have hP := hR.pop
      rw [hlv] at hP
      have hc6 : names.length + 1 <= c6 := by
        have := hR.ownN
        rw [jb, List.length_singleton] at this
        rcases this.2 with ⟨_, h0⟩ | ⟨_, _, _, h1, _, _, h2, _⟩
        · omega
        · cases h1; exact h2
      have hc7 : names.length + 1 <= c7 := by
        rw [← hlv]
        rcases z1.2 with ⟨_, h0⟩ | ⟨_, _, _, h1, _, _, h2, _⟩
        · omega
        · cases h1; exact h2
      have b0 : (0 : Int) <= (names.length : Int) := by omega
      have b1' : (names.length : Int) <= (c6 : Int) := by omega
      have b2' : (names.length : Int) <= (c7 : Int) := by omega
      have b3 : names.length <= c6 := by omega
      have b4 : names.length <= c7 := by omega
      have hfz := hR.nofrz
      have r2' : w6.drew.cell? ⟨K.sb, 2, none⟩ = some (.slice p6 (names.length + 1) c6) := r2
      have r3' : w6.drew.cell? ⟨K.sb, 3, none⟩ = some (.slice q6 (vals.length + 1) c7) := r3
      rw [hlv] at r3'
      have hfz' : ∀ i, w6.drew.frozen? ⟨K.sb, i, none⟩ = false := hfz
      go_region
    all_goals go_wp2
    all_goals go_ret
    all_goals exact ⟨rfl, H6, _, _, _, D6, ((hP.set2 _).set3 _).drew, hu6⟩
end
end W
end
section
open Go Go.Proofs Ax Go.RowKit
namespace W
def DC (K : SK) (bn bv bf : Value) : Obj := .cells #[K.g1, K.g2, bn, bv, .map (some K.mb), bf] 117
def Nb (K : SK) (used : List Int) (W : World) : Prop := ∃ D : DM, W.ownsMap Tryz.prog 2 (plainElem Tryz.prog 3) K.mb used.length D /\ uo D used
structure RW (K : SK) (used : List Int) (W W' : World) : Prop where
  size : W.heap.size <= W'.heap.size
  md : ∀ bn bv bf, W.heap[K.sb]? = some (DC K bn bv bf) -> (∀ b, K.M bn bv bf b -> b < W.heap.size) -> ∃ bn' bv' bf', W'.heap[K.sb]? = some (DC K bn' bv' bf') /\ (∀ b, K.M bn' bv' bf' b -> b < W'.heap.size) /\
    (∀ b o, W.heap[b]? = some o -> o.isCells = true -> ¬ K.M bn bv bf b -> W'.heap[b]? = some o) /\ (∀ b, K.M bn' bv' bf' b -> K.M bn bv bf b \/ W.heap.size <= b)
  mp : Nb K used W -> Nb K used W'
section
variable {L : Nat} {K : SK} {used : List Int} {W W' W'' : World}
theorem RW.trans (h : RW K used W W') (k : RW K used W' W'') : RW K used W W'' where
  size := Nat.le_trans h.size k.size
  md := fun bn bv bf hb hl => by
    obtain ⟨bn', bv', bf', h1, h2, h3, h4⟩ := h.md bn bv bf hb hl
    obtain ⟨bn2, bv2, bf2, k1, k2, k3, k4⟩ := k.md bn' bv' bf' h1 h2
    refine ⟨bn2, bv2, bf2, k1, k2, fun b o hb ho hn => k3 b o (h3 b o hb ho hn) ho fun hm => ?_, fun b hm => ?_⟩
    · rcases h4 b hm with h5 | h5
      · exact hn h5
      · have := (jH.1 hb).1; omega
    · rcases k4 b hm with h5 | h5
      · exact h4 b h5
      · exact .inr (Nat.le_trans h.size h5)
  mp := fun h1 => k.mp (h.mp h1)
theorem RW.putObj (K : SK) (used : List Int) (W : World) (l : Nat) (o o' : Obj) (hm : K.mb ≠ l) (h : W.heap[l]? = some o) (ho : o.isCells = false) : RW K used W (W.putObj l o') := by
  have hg := grownBy_putObj' W l o'
  have hk : ∀ (b : Nat) (o2 : Obj), W.heap[b]? = some o2 -> o2.isCells = true -> (W.putObj l o').heap[b]? = some o2 := fun b o2 hb ho2 => (hg.block b (jH.1 hb).1 fun e => by cases e; rw [h] at hb; cases hb; rw [ho] at ho2; cases ho2).trans hb
  refine ⟨hg.size, fun bn bv bf hb hl => ⟨bn, bv, bf, hk _ _ hb rfl, fun b hb => Nat.lt_of_lt_of_le (hl b hb) hg.size, fun b o2 hb ho2 _ => hk b o2 hb ho2, fun b hb => .inl hb⟩, fun ⟨D, d1, d2⟩ => ⟨D, d1.kept hg (fun e => hm (by cases e; rfl)), d2⟩⟩
structure RS (K : SK) (used : List Int) (Z : List (Nat × Obj)) (H : PH L) (W : World) : Prop where
  sat : SatH H W
  md : ∃ bn bv bf, W.heap[K.sb]? = some (DC K bn bv bf) /\ (∀ b, K.M bn bv bf b -> b < W.heap.size) /\ (∀ b o v, H b o = some v -> ¬ K.M bn bv bf b) /\ ∀ p ∈ Z, ¬ K.M bn bv bf p.1
  own : ∀ p ∈ Z, W.heap[p.1]? = some p.2 /\ p.2.isCells = true
  mp : Nb K used W
variable {Z : List (Nat × Obj)} {H H' : PH L}
theorem RS.kp (h : RS K used Z H W) (k : RW K used W W') : RS K used Z H W' := by
  obtain ⟨bn, bv, bf, m1, m2, m3, m4⟩ := h.md
  obtain ⟨bn', bv', bf', k1, k2, k3, k4⟩ := k.md bn bv bf m1 m2
  refine ⟨h.sat.block k.size fun b o v hv => ?_, ⟨bn', bv', bf', k1, k2, fun b o v hv hm => ?_, fun p hp hm => ?_⟩, fun p hp => ⟨k3 _ _ (h.own p hp).1 (h.own p hp).2 (m4 p hp), (h.own p hp).2⟩, k.mp h.mp⟩
  · obtain ⟨o', h1, h2⟩ := UX h.sat hv
    rw [h1]
    exact k3 b o' h1 h2 (m3 b o v hv)
  · rcases k4 b hm with h5 | h5
    · exact m3 b o v hv h5
    · have := h.sat.lt hv; omega
  · rcases k4 _ hm with h5 | h5
    · exact m4 p hp h5
    · have := (jH.1 (h.own p hp).1).1; omega
theorem RS.calm (h : RS K used Z H W) (c : Calm H W H' W') : RS K used Z H' W' := by
  obtain ⟨bn, bv, bf, m1, m2, m3, m4⟩ := h.md
  have hb : ∀ b o, W.heap[b]? = some o -> W'.heap[b]? = some o := fun b o hb => (c.keep.block b (jH.1 hb).1 id).trans hb
  refine ⟨c.sat, ⟨bn, bv, bf, hb _ _ m1, fun b hm => Nat.lt_of_lt_of_le (m2 b hm) c.keep.size, fun b o v hv hm => ?_, m4⟩, fun p hp => ⟨hb _ _ (h.own p hp).1, (h.own p hp).2⟩, ?_⟩
  · rcases c.new b o v hv with ⟨v', h1⟩ | h1
    · exact m3 b o v' h1 hm
    · have := m2 b hm; omega
  · obtain ⟨D, d1, d2⟩ := h.mp
    exact ⟨D, dQ d1 (c.keep.block _ (m2 _ (.inr (.inl rfl))) id), d2⟩
theorem RS.below (h : RS K used Z H W) (c : Below W.heap.size W W') : RS K used Z H W' := h.calm (dT h.sat c)
theorem RS.more (h : RS K used Z H W) {b : Nat} {o : Obj} (hb : W.heap[b]? = some o) (ho : o.isCells = true) (hn : ∀ bn bv bf, W.heap[K.sb]? = some (DC K bn bv bf) -> (∀ b, K.M bn bv bf b -> b < W.heap.size) -> ¬ K.M bn bv bf b) : RS K used ((b, o) :: Z) H W := by
  obtain ⟨bn, bv, bf, m1, m2, m3, m4⟩ := h.md
  refine ⟨h.sat, ⟨bn, bv, bf, m1, m2, m3, fun p hp => ?_⟩, fun p hp => ?_, h.mp⟩
  · rcases jg.1 hp with rfl | hp
    · exact hn _ _ _ m1 m2
    · exact m4 p hp
  · rcases jg.1 hp with rfl | hp
    · exact ⟨hb, ho⟩
    · exact h.own p hp
variable {H0 : PH L} {M0 : Nat -> Prop} {w0 : World} {vn vv vf vn' vv' vf' : Value} {names names' : List (List UInt8)} {vals vals' : List Val} {found found' : List bS} {D D' : DM}
theorem RW.of (h : Sg K H0 M0 w0 H W vn vv vf vn vv vf names vals found used.length D) (h2 : Sg K H (K.M vn vv vf) W H' W' vn' vv' vf' vn' vv' vf' names' vals' found' used.length D') (hu : uo D' used) : RW K used W W' where
  size := h2.gw.size
  md := fun bn bv bf hb hl => by
    have h3 := h.box
    rw [hb] at h3
    simp only [DC, Option.some.injEq, Obj.cells.injEq] at h3
    obtain ⟨h4, _⟩ := h3
    have h5 := congrArg Array.toList h4
    simp at h5
    obtain ⟨rfl, rfl, rfl⟩ := h5
    refine ⟨vn', vv', vf', h2.box, fun b hm => (h2.fresh hm).2.1, fun b o hb ho hn => (h2.gw.un b (jH.1 hb).1 hn).trans hb, h2.gw.sub⟩
  mp := fun _ => ⟨D', h2.map, hu⟩
theorem RS.of (h : Sg K H0 M0 w0 H W vn vv vf vn vv vf names vals found used.length D) (hu : uo D used) : RS K used [] H W :=
  ⟨h.sat, ⟨vn, vv, vf, h.box, fun b hm => (h.fresh hm).2.1, fun b o v hv hm => (h.fresh hm).2.2 o v hv, fun p hp => (by cases hp)⟩, fun p hp => (by cases hp), ⟨D, h.map, hu⟩⟩
theorem RS.new (h : RS K used Z H W) (o : Obj) (ho : o.isCells = true) : RS K used ((W.heap.size, o) :: Z) H (W.alloc o) :=
  (h.below ((Below.refl _ W).alloc (jv _) _)).more (World.alloc_heap_new W o) ho fun bn bv bf hb _ hm => by
    obtain ⟨bn', bv', bf', m1, m2, _⟩ := h.md
    have h3 : (W.alloc o).heap[K.sb]? = some (DC K bn' bv' bf') := (heap_alloc_old W o (m2 _ (.inl rfl))).trans m1
    rw [hb] at h3
    simp only [DC, Option.some.injEq, Obj.cells.injEq] at h3
    have h5 := congrArg Array.toList h3.1
    simp at h5
    obtain ⟨rfl, rfl, rfl⟩ := h5
    exact jQ _ (m2 _ hm)
end
end W
end
section
open Go Go.Proofs Ax Go.RowKit
namespace W
attribute [local go_sem] Oper.semAt_some
abbrev Sl := Option Addr × Nat × Nat
def Sl.v (x : Sl) : Value := .slice x.1 x.2.1 x.2.2
structure NV where
  id : Int
  l : Sl
  k : Sl
  v : Sl
abbrev NV.cells (x : NV) : Array Value := #[.int .i64 x.id, .slice x.l.1 x.l.2.1 x.l.2.2, .slice x.k.1 x.k.2.1 x.k.2.2, .slice x.v.1 x.v.2.1 x.v.2.2]
def PY (x : NV) : Array Value := #[.agg x.cells]
def Bb (n : Nat) (wt : fV) (nd : Node) : Bool := (zB n wt nd).getD false
theorem CP {L : Nat} {H : PH L} {rows : List (List PV)} {v : Value} (h : qp H (.sl rows) v) {j : Nat} {r : List PV} (hr : rows[j]? = some r) : ∃ b o cap, v = .slice (some ⟨b, o, none⟩) rows.length cap /\ ∃ us, qJ H r us /\ ∀ i u, us[i]? = some u -> H b (o + j * r.length + i) = some u := by
  simp only [qp] at h
  rcases h with ⟨e, _⟩ | ⟨b, o, z, cap, e, _, rr⟩
  · rw [e] at hr; cases hr
  · obtain ⟨e1, us, h2, h3⟩ := rr.get hr
    subst e1
    exact ⟨b, o, cap, e, us, h2, h3⟩
theorem Vo {L : Nat} {H : PH L} {x : Node} {us : List Value} (h : qJ H (bU.cells x) us) : ∃ l k v : Sl, us = [.int .i64 x.id, .slice l.1 l.2.1 l.2.2, .slice k.1 k.2.1 k.2.2, .slice v.1 v.2.1 v.2.2] := by
  obtain ⟨a, b, c, d⟩ := x
  simp only [bU, Node.cells, qJ] at h
  obtain ⟨_, _, rfl, h1, _, _, rfl, h2, _, _, rfl, h3, _, _, rfl, h4, rfl⟩ := h
  obtain ⟨p, e, rfl⟩ := zL h2
  obtain ⟨q, f, rfl⟩ := zL h3
  obtain ⟨r, g, rfl⟩ := zL h4
  simp only [qp] at h1
  subst h1
  exact ⟨(_, _, _), (_, _, _), (_, _, _), rfl⟩
theorem zP {w w' : World} (h : Below w.heap.size w w') : w.grownBy w' none := ⟨h.os, h.tape, h.output, h.size, fun k hk _ => h.block k hk⟩
theorem fN {L : Nat} {H : PH L} {ps : List PV} {us : List Value} (h : qJ H ps us) : qp H (.agg ps) (.agg us.toArray) := by
  simp only [qp]
  exact ⟨us, rfl, h⟩
section
variable {L : Nat} {K : SK} {H0 H : PH L} {M0 : Nat -> Prop} {w0 w : World} {vn vv vf : Value} {names : List (List UInt8)} {vals : List Val} {used : List Int} {found : List bS} {D : DM}
theorem Mp (w : World) (s : ByteArray) (l k v : Sl) : Calls Tryz.prog 68 #[.pointer (some ⟨K.sb, 0, none⟩), .agg #[.string s, .slice l.1 l.2.1 l.2.2, .slice k.1 k.2.1 k.2.2, .slice v.1 v.2.1 v.2.2]] w fun e w' =>
    e = .returned (.func (.func 96) #[] #[.pointer (some ⟨w.heap.size, 0, none⟩), .pointer (some ⟨w.heap.size + 1, 0, none⟩)]) /\ w' = (w.alloc (.cells #[.pointer (some ⟨K.sb, 0, none⟩)] 114)).alloc (.cells #[.string s, .slice l.1 l.2.1 l.2.2, .slice k.1 k.2.1 k.2.2, .slice v.1 v.2.1 v.2.2] 149) := by
  go_enter Tryz.func68, Tryz.ntmps68
  go_wp2
  go_ret
  exact ⟨rfl, rfl⟩
structure RY (P : Int -> Prop) where
  x : NV
  ok : P x.id
def RY.i {P : Int -> Prop} (x : RY P) : Int := x.1.id
def Ni {P : Int -> Prop} (x : RY P) : Array Value := PY x.1
def Qp (n : Nat) (wt : fV) (l : List Node) : List Int := (l.filter (Bb n wt)).map Node.id
set_option maxHeartbeats 8000000 in
set_option maxRecDepth 100000 in
theorem De (h : Sg K H0 M0 w0 H w vn vv vf vn vv vf names vals found used.length D) (hu : uo D used) {n m : Nat} {wt : fV} {g : Graph} {Bs Bw : Nat} {lb kb vb : Sl} (P : Int -> Prop) (hP : ∀ i ∈ Qp n wt g.nodes, P i) (hm : 1 <= m)
    (hs : w.heap[Bs]? = some (.cells #[.pointer (some ⟨K.sb, 0, none⟩)] 114)) (hw : w.heap[Bw]? = some (.cells #[.string ⟨wt.name.toArray⟩, .slice lb.1 lb.2.1 lb.2.2, .slice kb.1 kb.2.1 kb.2.2, .slice vb.1 vb.2.1 vb.2.2] 149)) (ns : ¬ K.M vn vv vf Bs) (nw : ¬ K.M vn vv vf Bw)
    (hr : qJ H (Xa.cells wt) [.string ⟨wt.name.toArray⟩, .slice lb.1 lb.2.1 lb.2.2, .slice kb.1 kb.2.1 kb.2.2, .slice vb.1 vb.2.1 vb.2.2]) (hf : Ep n names wt.name = true) (hg : qp H (.sl (Node.rows g.nodes)) K.g1) (hgn : g.nodes.length < 1000000000) (hp : ∀ nd ∈ g.nodes, (zB n wt nd).isSome = true) :
    SeqStopsK Fence.wide m Tryz.prog 96 #[.pointer (some ⟨Bs, 0, none⟩), .pointer (some ⟨Bw, 0, none⟩)] (Ni (P := P)) (RW K used) (fun xs => xs.map RY.i = Qp n wt g.nodes) (fun pre => ∃ rest, pre.map RY.i ++ rest = Qp n wt g.nodes) (Qp n wt g.nodes).length w := by
  intro l J Jx W hW hJ hJx hY h0
  have h1 := h.below hW
  have hsW := (hW.block Bs (jH.1 hs).1).trans hs
  have hwW := (hW.block Bw (jH.1 hw).1).trans hw
  have hI : RS K used [(Bw, .cells #[.string ⟨wt.name.toArray⟩, .slice lb.1 lb.2.1 lb.2.2, .slice kb.1 kb.2.1 kb.2.2, .slice vb.1 vb.2.1 vb.2.2] 149)] H W := by
    refine (RS.of h1 hu).more hwW rfl fun bn bv bf hb _ => ?_
    have h3 := h1.box
    rw [hb] at h3
    simp only [DC, Option.some.injEq, Obj.cells.injEq] at h3
    have h5 := congrArg Array.toList h3.1
    simp at h5
    obtain ⟨rfl, rfl, rfl⟩ := h5
    exact nw
  obtain ⟨gp, gc, hgv⟩ := zL hg
  have hgl : (Node.rows g.nodes).length = g.nodes.length := by simp [Node.rows]
  rw [hgl] at hgv
  have mb := DB h1 hf
  have b0 := qc hsW 0 rfl
  have b1 := qc hwW 0 rfl
  show CallsIn Fence.wide m Tryz.prog 96 #[.func (.yield l) #[] #[], .pointer (some ⟨Bs, 0, none⟩), .pointer (some ⟨Bw, 0, none⟩)] W _
  refine callsIn_of_wp Tryz.func96 rfl trivial ?_ rfl
  simp only [Tryz.ntmps96, jL, ja, jc, Nat.reduceAdd, Nat.reduceSub, Array.replicate_succ, Array.replicate_zero, List.push_toArray, List.append_toArray, jt, List.cons_append]
  gi_wp2_with (
    refine ⟨trivial, ?_⟩; gi_at_call 97; refine (callsIn_wide.2 mb).mono ?_; rintro e w1 ⟨rfl, c1⟩
    have hI1 := (hI.below c1).new (.cells #[.int .i64 0, .bool false, .int .i64 0, .string ⟨#[]⟩, .slice none 0 0, .slice none 0 0] 32) rfl
    have d0 : (w1.alloc (.cells #[.int .i64 0, .bool false, .int .i64 0, .string ⟨#[]⟩, .slice none 0 0, .slice none 0 0] 32)).cell? ⟨Bs, 0, none⟩ = some (.pointer (some ⟨K.sb, 0, none⟩)) := zV _ ((World.cell?_of_block (w := W) (a := ⟨Bs, 0, none⟩) (c1.block Bs (jH.1 hsW).1)).trans b0)
    have d1 : (w1.alloc (.cells #[.int .i64 0, .bool false, .int .i64 0, .string ⟨#[]⟩, .slice none 0 0, .slice none 0 0] 32)).cell? ⟨K.sb, 0, none⟩ = some (.slice gp g.nodes.length gc) := by
      rw [← hgv]
      exact zV _ ((World.cell?_of_block (w := W) (a := ⟨K.sb, 0, none⟩) (c1.block K.sb (h1.fresh (.inl rfl)).2.1)).trans (qc h1.box 0 rfl)))
  have hIa := (hI.below c1).below (W' := w1.alloc (.cells #[.int .i64 0, .bool false, .int .i64 0, .string ⟨#[]⟩, .slice none 0 0, .slice none 0 0] 32)) ((Below.refl _ w1).alloc (jv _) _)
  have hJa := hJ [] W (w1.alloc (.cells #[.int .i64 0, .bool false, .int .i64 0, .string ⟨#[]⟩, .slice none 0 0, .slice none 0 0] 32)) none h0 (zP (c1.trans (((Below.refl _ w1).alloc (jv _) _).mono c1.size))) (fun r e => by cases e)
  gi_loopw [48] (fun v wr => ∃ (j : Nat) (pre : List (RY P)) (H1 : PH L), v = .int .i64 (j : Int) /\ j <= g.nodes.length /\ PH.le H H1 /\ RS K used [(Bw, .cells #[.string ⟨wt.name.toArray⟩, .slice lb.1 lb.2.1 lb.2.2, .slice kb.1 kb.2.1 kb.2.2, .slice vb.1 vb.2.1 vb.2.2] 149)] H1 wr /\ pre.map RY.i = Qp n wt (g.nodes.take j) /\ J pre wr) (fun v _ => g.nodes.length - (intOf v).toNat)
  case atStart => exact ⟨0, [], H, rfl, jR _, PH.le.refl H, hIa, rfl, hJa⟩
  case round =>
    obtain ⟨j, pre, H1, rfl, hj, le1, i1, hpre, hJ1⟩ := hrel
    have z0 : (0 : Int) <= (j : Int) := by omega
    rcases Nat.lt_or_ge j g.nodes.length with hlt | hge
    · have z1 : (j : Int) < (g.nodes.length : Int) := by omega
      have hnd := jf hlt
      generalize g.nodes[j] = nd at hnd
      obtain ⟨gb, go, gc', e1, us, hus, hcell⟩ := CP (hg.mono le1) (j := j) (r := bU.cells nd) (by simp only [Node.rows, List.getElem?_map, hnd]; rfl)
      rw [hgv, hgl] at e1
      cases e1
      obtain ⟨l1, k1, v1, rfl⟩ := Vo hus
      have hz : (bU.cells nd).length = 4 := bU.hz nd
      rw [hz] at hcell
      have g0 : wr.cell? ⟨gb, go + j * 4, none⟩ = some (.int .i64 nd.id) := (i1.sat.cell _ _ _ (hcell 0 _ rfl)).1
      have g1 := (i1.sat.cell _ _ _ (hcell 1 _ rfl)).1
      have g2 := (i1.sat.cell _ _ _ (hcell 2 _ rfl)).1
      have g3 := (i1.sat.cell _ _ _ (hcell 3 _ rfl)).1
      have i2 := i1.below (W' := wr.alloc (.cells (NV.cells ⟨nd.id, l1, k1, v1⟩) 96)) ((Below.refl _ wr).alloc (jv _) _)
      obtain ⟨bb, hbb⟩ := Option.isSome_iff_exists.1 (hp nd (List.mem_of_getElem? hnd))
      have m99 := (uW n _ _ _ hbb).calls (fun _ _ => Tryz.call99 _ _) i2.sat (vs := [.agg #[.string ⟨wt.name.toArray⟩, .slice lb.1 lb.2.1 lb.2.2, .slice kb.1 kb.2.1 kb.2.2, .slice vb.1 vb.2.1 vb.2.2], .agg #[.int .i64 nd.id, .slice l1.1 l1.2.1 l1.2.2, .slice k1.1 k1.2.1 k1.2.2, .slice v1.1 v1.2.1 v1.2.2]]) (by simp only [qJ]; exact ⟨_, _, rfl, fN (hr.mono le1), _, _, rfl, fN hus, rfl⟩)
      have f0 : (wr.alloc (.cells (NV.cells ⟨nd.id, l1, k1, v1⟩) 96)).cell? ⟨Bw, 0, none⟩ = some (.string ⟨wt.name.toArray⟩) := qc (i2.own _ List.mem_cons_self).1 0 rfl
      have f1 : (wr.alloc (.cells (NV.cells ⟨nd.id, l1, k1, v1⟩) 96)).cell? ⟨Bw, 1, none⟩ = some (.slice lb.1 lb.2.1 lb.2.2) := qc (i2.own _ List.mem_cons_self).1 1 rfl
      have f2 : (wr.alloc (.cells (NV.cells ⟨nd.id, l1, k1, v1⟩) 96)).cell? ⟨Bw, 2, none⟩ = some (.slice kb.1 kb.2.1 kb.2.2) := qc (i2.own _ List.mem_cons_self).1 2 rfl
      have f3 : (wr.alloc (.cells (NV.cells ⟨nd.id, l1, k1, v1⟩) 96)).cell? ⟨Bw, 3, none⟩ = some (.slice vb.1 vb.2.1 vb.2.2) := qc (i2.own _ List.mem_cons_self).1 3 rfl
      have hwN : Bb n wt nd = bb := by unfold Bb; rw [hbb]; rfl
      have htk : Qp n wt (g.nodes.take (j + 1)) = Qp n wt (g.nodes.take j) ++ (if bb then [nd.id] else []) := by
        unfold Qp
        rw [List.take_add_one, hnd, List.filter_append, jX]
        cases bb <;> simp [hwN]
      cases bb with
      | false =>
        gi_wp2_with (
          refine ⟨trivial, ?_⟩; gi_at_call 99; refine (callsIn_wide.2 m99).mono ?_; rintro e w2 ⟨vk, H2, rfl, c2, r2⟩
          simp only [xI, qp] at r2
          subst r2)
        refine ⟨fun _ h => (by cases h), ?_⟩
        gi_wp2
        go_roundw
        case rel => exact ⟨j + 1, pre, H2, by congr 1 <;> omega, hlt, le1.trans c2.le, i2.calm c2, by rw [htk, hpre]; simp, hJ pre wr w2 none hJ1 (zP ((((Below.refl _ wr).alloc (jv _) _)).trans (c2.below.mono (by simp)))) (fun r e => by cases e)⟩
        case measure => simp [intOf]; omega
      | true =>
        have hPi : P nd.id := hP _ (List.mem_map.2 ⟨nd, List.mem_filter.2 ⟨List.mem_of_getElem? hnd, hwN⟩, rfl⟩)
        have hlen : pre.length < (Qp n wt g.nodes).length := by
          have e1 : (pre.map RY.i).length = pre.length := by simp
          rw [← e1, hpre]
          have e2 : (Qp n wt g.nodes).length = (Qp n wt (g.nodes.take (j + 1))).length + (Qp n wt (g.nodes.drop (j + 1))).length := by
            rw [← jb]
            unfold Qp
            rw [← jX, ← List.filter_append, List.take_append_drop]
          rw [e2, htk]
          simp
          omega
        gi_wp2_with (
          refine ⟨trivial, ?_⟩; gi_at_call 99; refine (callsIn_wide.2 m99).mono ?_; rintro e w2 ⟨vk, H2, rfl, c2, r2⟩
          simp only [xI, qp] at r2
          subst r2
          have hb9 : w2.heap[wr.heap.size]? = some (.cells (NV.cells ⟨nd.id, l1, k1, v1⟩) 96) := (c2.keep.block _ (by simp) id).trans (World.alloc_heap_new wr _)
          have q0 : w2.cell? ⟨wr.heap.size, 0, none⟩ = some (.int .i64 nd.id) := qc hb9 0 rfl
          have q1 : w2.cell? ⟨wr.heap.size, 1, none⟩ = some (.slice l1.1 l1.2.1 l1.2.2) := qc hb9 1 rfl
          have q2 : w2.cell? ⟨wr.heap.size, 2, none⟩ = some (.slice k1.1 k1.2.1 k1.2.2) := qc hb9 2 rfl
          have q3 : w2.cell? ⟨wr.heap.size, 3, none⟩ = some (.slice v1.1 v1.2.1 v1.2.2) := qc hb9 3 rfl
          have hJ2 := hJ pre wr w2 none hJ1 (zP ((((Below.refl _ wr).alloc (jv _) _)).trans (c2.below.mono (by simp)))) (fun r e => by cases e)
          obtain ⟨fn, tmps, assign, body, hy, hR⟩ := hY pre ⟨⟨nd.id, l1, k1, v1⟩, hPi⟩ w2 hJ2 hlen
          simp only [Ni, PY, NV.cells] at hy)
        refine hR.mono ?_
        rintro e W3 (⟨rfl, hJ3, hk3⟩ | ⟨rfl, hJx3⟩)
        · gi_wp2
          go_roundw
          case rel => exact ⟨j + 1, pre ++ [⟨⟨nd.id, l1, k1, v1⟩, hPi⟩], H2, by congr 1 <;> omega, hlt, le1.trans c2.le, (i2.calm c2).kp hk3, by rw [htk, jX, hpre]; rfl, hJ3⟩
          case measure => simp [intOf]; omega
        · gi_wp2
          refine bodyPost_ret (results_none rfl _ _ _) rfl ?_
          refine ⟨⟨_, rfl⟩, .inr ⟨pre ++ [⟨⟨nd.id, l1, k1, v1⟩, hPi⟩], ⟨Qp n wt (g.nodes.drop (j + 1)), ?_⟩, hJx3⟩⟩
          rw [jX, hpre, show [(⟨⟨nd.id, l1, k1, v1⟩, hPi⟩ : RY P)].map RY.i = [nd.id] from rfl]
          have e2 : Qp n wt g.nodes = Qp n wt (g.nodes.take (j + 1)) ++ Qp n wt (g.nodes.drop (j + 1)) := by
            unfold Qp
            rw [← jX, ← List.filter_append, List.take_append_drop]
          rw [e2, htk]
          rfl
    · have hje : j = g.nodes.length := by omega
      have z1 : ¬ (j : Int) < (g.nodes.length : Int) := by omega
      gi_wp2
      go_end0
      exact ⟨⟨_, rfl⟩, .inl ⟨pre, by rw [hpre, hje, List.take_length], hJ1⟩⟩
end
end W
end
section
open Go
namespace W
structure Hd (p : Prop) : Prop where
  h : p
def Fo (ops : Array Oper) : Bool := ops.all fun o => match o.op with
  | .defer _ => false
  | _ => true
theorem Zm {ops : Array Oper} (h : Fo ops = true) : ∀ (j : Nat) (o : Oper) c, ops[j]? = some o -> o.op ≠ .defer c := fun j o c hj e => by
  unfold Fo at h
  rw [Array.all_eq_true] at h
  obtain ⟨hlt, he⟩ := jH.1 hj
  have := h j hlt
  rw [he, e] at this
  cases this
def ur (F : Fence) (n : Nat) (P : Program) (md : Region.Mode) (ops : Array Oper) (Q : Exit -> Act -> World -> Prop) (S : World -> Prop) (z : Nat) : Nat -> Array Bool -> Act -> World -> Prop
  | 0, listed, a, w => Region.ready md ops listed = [] /\ Q .normal a w
  | fuel + 1, listed, a, w =>
    (Region.ready md ops listed = [] -> Q .normal a w) /\
    ∀ i ∈ Region.ready md ops listed, wpOpIn F n P ops Q i (fun a' w' => ((listed.setIfInBounds i true).getD z true = false -> S w') /\ ur F n P md ops Q S z fuel (listed.setIfInBounds i true) a' w') a w
def cy (P : Program) (ops : Array Oper) (S : World -> Prop) (o : Oper) (v : Value) (a : Act) : Prop := YieldsIf P ops S o v a /\ ∀ w, o.about P w a.eval = none
section
variable {F : Fence} {n : Nat} {P : Program} {ops : Array Oper} {Q : Exit -> Act -> World -> Prop} {md : Region.Mode} {S S0 : World -> Prop} {z : Nat}
theorem Zs : ∀ (fuel : Nat) (listed : Array Bool) (a : Act) (w : World), ur F n P md ops Q S z fuel listed a w -> wpAnyIn F n P md ops Q fuel listed a w
  | 0, _, _, _, h => h
  | fuel + 1, _, _, _, h => ⟨h.1, fun i hi => wpOpIn_mono (fun a' w' h' => Zs fuel _ a' w' h'.2) (h.2 i hi)⟩
theorem cy.of_same {o : Oper} {v : Value} {a a' : Act} (hy : cy P ops S o v a) (he : execOp a'.eval o = execOp a.eval o)
    (hw : Region.wanted o (yielded ops a'.tmps) = Region.wanted o (yielded ops a.tmps)) (hb : ∀ w, o.about P w a'.eval = o.about P w a.eval) : cy P ops S o v a' :=
  ⟨hy.1.of_same he hw, fun w => by rw [hb w]; exact hy.2 w⟩
theorem cy.wpOp {i : Nat} {o : Oper} {v : Value} {a : Act} (hnd : ∀ c, o.op ≠ .defer c) (hi : ops[i]? = some o) (hy : cy P ops S o v a)
    {K : Act -> World -> Prop} {w : World} (hS : S w) (h : K (a.put o.dst v) w) : wpOpIn F n P ops Q i K a w := by
  unfold Go.wpOpIn
  simp only [hi]
  have hab : ∀ f, o.about P w a.eval = some f -> F.fn f := fun f hf => by rw [hy.2 w] at hf; cases hf
  rcases hy.1 with ⟨hw, hv⟩ | ⟨hw, rfl⟩
  · simp only [hw, if_true, Oper.wpIn, Oper.semAt_eq F.round a.eval o hnd, hv w hS, Oper.uponIn]; exact ⟨hab, h⟩
  · simp only [hw, Bool.false_eq_true, if_false]; exact ⟨hab, h⟩
theorem Dr {j : Nat} {oi oj : Oper} {v : Value} (hnd : ∀ c, oj.op ≠ .defer c) (hj : ops[j]? = some oj) (hap : oi.apart ops oj = true)
    (hsi : ∀ cs b, oi.op ≠ .select cs b) (hsj : ∀ cs b, oj.op ≠ .select cs b)
    (hQ : ∀ c a w, Q (.panic c) (a.put oi.dst v) w -> Q (.panic c) a w) {K : Act -> World -> Prop} {a : Act} {w : World}
    (hy : cy P ops S oi v a) (h : wpOpIn F n P ops Q j K (a.put oi.dst v) w) :
    wpOpIn F n P ops Q j (fun a' w' => cy P ops S oi v a' /\ K (a'.put oi.dst v) w') a w := by
  obtain ⟨h1, h2, h3⟩ := Oper.apart_spec hap
  have keep : ∀ (a : Act), cy P ops S oi v a -> ∀ u, cy P ops S oi v (a.put oj.dst u) := fun a hy u =>
    hy.of_same (execOp_put oi hsi a oj.dst u h3) (wanted_put oi a oj.dst u h3) (fun w => about_put oi w a oj.dst u h3)
  have keepD : ∀ d, cy P ops S oi v { a with defers := d :: a.defers } := fun d => hy.of_same rfl rfl (fun _ => rfl)
  unfold wpOpIn at *
  simp only [hj] at *
  rw [wanted_put oj a oi.dst v h1, about_put oj w a oi.dst v h1] at h
  split
  · rename_i hw
    simp only [hw, if_true] at h
    unfold Oper.wpIn at *
    rw [about_put oj w a oi.dst v h1] at h
    refine ⟨h.1, ?_⟩
    have h := h.2
    rw [Oper.semAt_eq F.round _ oj hnd, execOp_put oj hsj a oi.dst v h1] at h
    rw [Oper.semAt_eq F.round _ oj hnd]
    generalize (execOp a.eval oj).run P w = r at *
    cases r with
    | ok x w' =>
      cases x <;> simp only [Oper.uponIn] at h ⊢
      case value u => exact ⟨keep a hy u, by rw [← Act.put_comm a v u h2]; exact h⟩
      case skip => exact ⟨keep a hy _, by rw [← Act.put_comm a v undef h2]; exact h⟩
      case defer d =>
        refine ⟨keep _ (keepD d) _, ?_⟩
        rw [← Act.put_comm _ v undef h2, ← Act.put_defers]
        exact h
      case enter f args =>
        refine ⟨h.1, CallsIn.mono h.2 fun e w'' he => ?_⟩
        cases e with
        | returned u => exact ⟨keep a hy u, by rw [← Act.put_comm a v u h2]; exact he⟩
        | panicked c => exact hQ _ _ _ he
        | outgrown => exact he
      case row row args => exact ⟨h.1, RowsIn.mono h.2 fun u w'' he => ⟨keep a hy u, by rw [← Act.put_comm a v u h2]; exact he⟩⟩
      case round l f tmps assign body =>
        refine ⟨h.1, RoundIn.mono h.2 fun e w'' he => ?_⟩
        cases e with
        | returned u => exact ⟨keep a hy u, by rw [← Act.put_comm a v u h2]; exact he⟩
        | panicked c => exact hQ _ _ _ he
        | outgrown => exact he
    | halt x w' =>
      cases x <;> simp only [Oper.uponIn] at h ⊢
      case panic u => exact hQ _ _ _ h
  · rename_i hw
    simp only [hw] at h
    exact ⟨h.1, keep a hy _, by rw [← Act.put_comm a v undef h2]; exact h.2⟩
theorem ta {i : Nat} {oi : Oper} {v : Value} (hnd : ∀ (j : Nat) (o : Oper) c, ops[j]? = some o -> o.op ≠ .defer c) (hi : ops[i]? = some oi) (hsel : ∀ (j : Nat) (o : Oper) cs b, ops[j]? = some o -> o.op ≠ .select cs b)
    (hQ : ∀ c a w, Q (.panic c) (a.put oi.dst v) w -> Q (.panic c) a w) (Inv : Array Bool -> Prop)
    (hstep : ∀ (listed : Array Bool), Inv listed -> i ∈ Region.ready md ops listed -> ∀ j ∈ Region.ready md ops listed, j ≠ i -> Inv (listed.setIfInBounds j true) /\ ∀ w', (((listed.setIfInBounds i true).setIfInBounds j true).getD z true = false -> S w') -> S0 w' /\ ((listed.setIfInBounds j true).getD z true = false -> S w')) :
    ∀ (fuel : Nat) (listed : Array Bool) (a : Act) (w : World), Inv listed ->
      (∀ j oj, ops[j]? = some oj -> j ≠ i -> listed.getD j true = false -> (∀ e ∈ oj.after, Region.binds md e = true -> e.on ≠ i) -> oi.apart ops oj = true) ->
      i ∈ Region.ready md ops listed -> cy P ops S0 oi v a -> S0 w -> ((listed.setIfInBounds i true).getD z true = false -> S w) ->
      ur F n P md ops Q S z fuel (listed.setIfInBounds i true) (a.put oi.dst v) w -> ur F n P md ops Q S z (fuel + 1) listed a w := by
  intro fuel
  induction fuel with
  | zero =>
    intro listed a w _ _ hr hy hS hS1 H
    refine ⟨fun h => (by rw [h] at hr; cases hr), fun j hj => ?_⟩
    by_cases hji : j = i
    · subst hji; exact hy.wpOp (fun c => hnd _ _ c hi) hi hS ⟨hS1, H⟩
    · have := ready_mono hj hji
      rw [H.1] at this
      cases this
  | succ fuel ih =>
    intro listed a w hinv hfree hr hy hS hS1 H
    refine ⟨fun h => (by rw [h] at hr; cases hr), fun j hj => ?_⟩
    by_cases hji : j = i
    · subst hji; exact hy.wpOp (fun c => hnd _ _ c hi) hi hS ⟨hS1, H⟩
    · have h1 := H.2 j (ready_mono hj hji)
      obtain ⟨hjun, oj, hoj, hall⟩ := mem_ready.1 hj
      have hnot : ∀ e ∈ oj.after, Region.binds md e = true -> e.on ≠ i := fun e he hb heq => by
        have h1 := hall e he hb
        have h0 := (mem_ready.1 hr).1
        rw [heq] at h1
        rcases Nat.lt_or_ge i listed.size with h' | h'
        · simp [h'] at h0 h1; rw [h0] at h1; cases h1
        · simp [Array.getElem?_eq_none h'] at h1
      have h2 := Dr (fun c => hnd _ _ c hoj) hoj (hfree j oj hoj hji hjun hnot) (fun cs b => hsel i oi cs b hi) (fun cs b => hsel j oj cs b hoj) hQ hy h1
      have hfree' : ∀ k ok, ops[k]? = some ok -> k ≠ i -> (listed.setIfInBounds j true).getD k true = false ->
          (∀ e ∈ ok.after, Region.binds md e = true -> e.on ≠ i) -> oi.apart ops ok = true := fun k ok hk hki hun hno => by
        refine hfree k ok hk hki ?_ hno
        by_cases hjk : j = k
        · subst hjk; exact hjun
        · rw [getD_set_ne true hjk] at hun; exact hun
      obtain ⟨hinv', hs⟩ := hstep listed hinv hr j hj hji
      refine wpOpIn_mono (fun a' w' h3 => ?_) h2
      obtain ⟨hy', hs2, h4⟩ := h3
      obtain ⟨s1, s2⟩ := hs w' hs2
      refine ⟨s2, ih (listed.setIfInBounds j true) a' w' hinv' hfree' (ready_mono hr (Ne.symm hji)) hy' s1 ?_ ?_⟩
      · rw [Array.setIfInBounds_comm _ _ hji]; exact hs2
      · rw [Array.setIfInBounds_comm _ _ hji]; exact h4
theorem SH {ops : Array Oper} {i : Nat} {o : Oper} (h : ops.toList[i]? = some o) : ops[i]? = some o := by simpa using h
theorem qe {i : Nat} {oi : Oper} {v : Value} {fuel : Nat} {listed : Array Bool} {a : Act} {w : World} (hd : Fo ops = true) (hi0 : ops.toList[i]? = some oi) (hs : Region.noSelect ops = true) (hf : Region.free md ops listed i = true) (hr : (Region.ready md ops listed).contains i = true)
    (hQ : ∀ c a w, Q (.panic c) (a.put oi.dst v) w -> Q (.panic c) a w) (hz : i ≠ z) (hy : cy P ops (fun _ => True) oi v a) (hS : listed.getD z true = false -> S w) (h : ur F n P md ops Q S z fuel (listed.setIfInBounds i true) (a.put oi.dst v) w) : ur F n P md ops Q S z (fuel + 1) listed a w :=
  ta (S0 := fun _ => True) (Zm hd) (SH hi0) (Region.noSelect_spec hs) hQ (fun _ => True) (fun l _ _ j _ hji => ⟨trivial, fun w' hw => ⟨trivial, fun e => hw (by rw [Array.setIfInBounds_comm _ _ (Ne.symm hji), getD_set_ne true hz]; exact e)⟩⟩) fuel listed a w trivial (Region.free_spec (SH hi0) hf) (by simpa using hr) hy trivial (fun e => hS (by rw [getD_set_ne true hz] at e; exact e)) h
def Lv (md : Region.Mode) (ops : Array Oper) (i m : Nat) : Bool := match ops[m]? with
  | some o => o.after.any fun e => Region.binds md e && e.on == i
  | none => false
def DD (md : Region.Mode) (ops : Array Oper) : Nat -> List Nat -> Bool
  | _, [] => true
  | i, m :: ms => Lv md ops i m && DD md ops m ms
theorem Lx {l : Array Bool} {i m : Nat} (h : Lv md ops i m = true) (hi : l.getD i true = false) : m ∉ Region.ready md ops l := fun hj => by
  obtain ⟨_, oj, hoj, hall⟩ := mem_ready.1 hj
  unfold Lv at h
  rw [hoj] at h
  simp only [Array.any_eq_true, ji, beq_iff_eq] at h
  obtain ⟨k, hk, h1, h2⟩ := h
  have h3 := hall _ (Array.getElem_mem hk) h1
  rw [h2] at h3
  rcases Nat.lt_or_ge i l.size with h' | h'
  · simp [h'] at hi h3; rw [hi] at h3; cases h3
  · simp [Array.getElem?_eq_none h'] at h3
theorem Cg {l : Array Bool} : ∀ {ms : List Nat} {i : Nat}, DD md ops i ms = true -> l.getD i true = false -> (∀ m ∈ ms, l.getD m true = false) -> ∀ m ∈ ms, m ∉ Region.ready md ops l
  | [], _, _, _, _, m, hm => (by cases hm)
  | m1 :: ms, i, h, hi, hl, m, hm => by
    simp only [DD, ji] at h
    rcases jg.1 hm with rfl | hm
    · exact Lx h.1 hi
    · exact Cg h.2 (hl m1 List.mem_cons_self) (fun k hk => hl k (List.mem_cons_of_mem _ hk)) m hm
theorem qO {i : Nat} {oi : Oper} {v : Value} {fuel : Nat} {listed : Array Bool} {a : Act} {w : World} (ms : List Nat) (hd : Fo ops = true) (hi0 : ops.toList[i]? = some oi) (hs : Region.noSelect ops = true) (hf : Region.free md ops listed i = true) (hr : (Region.ready md ops listed).contains i = true)
    (hQ : ∀ c a w, Q (.panic c) (a.put oi.dst v) w -> Q (.panic c) a w) (hc : DD md ops i ms = true) (hz : ms.contains z = true) (hl : (ms.all fun m => listed.getD m true == false) = true) (hiz : i ≠ z)
    (hy : cy P ops S oi v a) (hS : S w) (h : ur F n P md ops Q S z fuel (listed.setIfInBounds i true) (a.put oi.dst v) w) : ur F n P md ops Q S z (fuel + 1) listed a w := by
  have hz' : z ∈ ms := by simpa using hz
  refine ta (S0 := S) (Zm hd) (SH hi0) (Region.noSelect_spec hs) hQ (fun l => ∀ m ∈ ms, l.getD m true = false) (fun l hl hr j hj hji => ?_) fuel listed a w (fun m hm => by simpa using (List.all_eq_true.1 hl) m hm) (Region.free_spec (SH hi0) hf) (by simpa using hr) hy hS (fun _ => hS) h
  have hi0 : l.getD i true = false := (mem_ready.1 hr).1
  have hn := Cg hc hi0 hl
  have hl2 : ∀ m ∈ ms, (l.setIfInBounds j true).getD m true = false := fun m hm => by rw [getD_set_ne true (show j ≠ m from fun e => hn m hm (e ▸ hj))]; exact hl m hm
  refine ⟨hl2, fun w' hw => ?_⟩
  have := hw (by rw [Array.setIfInBounds_comm _ _ (Ne.symm hji), getD_set_ne true hiz]; exact hl2 z hz')
  exact ⟨this, fun _ => this⟩
theorem zH (S : World -> Prop) (z : Nat) {id : Nat} {a : Act} {w : World} (hm : P.follows .mixedOrders = true)
    (h : ur F n P .any ops Q S z ops.size (Array.replicate ops.size false) a w.drew) : (Code.region id ops true).wpIn F n P Q a w :=
  wpIn_region_any hm (Zs _ _ _ _ h)
theorem um {i : Nat} {o : Oper} {fuel : Nat} {listed : Array Bool} {a : Act} {w : World} (hr : Region.ready md ops listed = [i]) (hi0 : ops.toList[i]? = some o)
    (h : ∀ K : Act -> World -> Prop, (∀ a' w', ((listed.setIfInBounds i true).getD z true = false -> S w') -> ur F n P md ops Q S z fuel (listed.setIfInBounds i true) a' w' -> K a' w') ->
      if Region.wanted o (yielded ops a.tmps) = true then Oper.wpIn F n P o a w K Q else (∀ f, o.about P w a.eval = some f -> F.fn f) /\ K (a.put o.dst undef) w) : ur F n P md ops Q S z (fuel + 1) listed a w :=
  ⟨fun h0 => (by rw [hr] at h0; cases h0), fun j hj => by
    rw [hr] at hj
    obtain rfl := jy.1 hj
    exact wpOpIn_step (SH hi0) fun K' hK' => h K' fun a' w' h1 h2 => hK' a' w' ⟨h1, h2⟩⟩
theorem vB {listed : Array Bool} {a : Act} {w : World} (hr : Region.ready md ops listed = []) (h : Q .normal a w) : ∀ fuel, ur F n P md ops Q S z fuel listed a w
  | 0 => ⟨hr, h⟩
  | _ + 1 => ⟨fun _ => h, by rw [hr]; simp⟩
theorem dA {o : Oper} {c : Call} {fo : Operand} {f : FuncId} {lb args : Array Value} {a : Act} {w : World} {K : Act -> World -> Prop} {R : Ending -> World -> Prop} (hop : o.op = .call c) (hc : c.callee = .value fo) (hw : o.guard = none \/ Region.wanted o (yielded ops a.tmps) = true)
    (hv : a.eval fo = .func (.func f) #[] lb) (ha : c.args.map a.eval ++ lb = args) (hk : ∀ (args : Array Value) (w : World), (callFunc f args).run P w = .ok (.enter f args) w) (hF : F.fn f) (m : CallsIn F (n - 1) P f args w R)
    (h : ∀ e w1, R e w1 -> ∃ v, e = .returned v /\ K (a.put o.dst v) w1) (hd : F.depth = none := by rfl) :
    if Region.wanted o (yielded ops a.tmps) = true then Oper.wpIn F n P o a w K Q else (∀ f, o.about P w a.eval = some f -> F.fn f) /\ K (a.put o.dst undef) w := by
  have hw1 : Region.wanted o (yielded ops a.tmps) = true := by
    rcases hw with h1 | h1
    · simp only [Region.wanted, h1]
    · exact h1
  have hr : (resolve a.eval c o.type).run P w = .ok { target := .fn (.func f) lb, args := c.args.map a.eval } w := by
    simp only [resolve, hc, hv, Deferred.ofValue, Sem.run_pure, Array.empty_append]
  rw [if_pos hw1]
  refine ⟨fun f' hf => ?_, ?_⟩
  · simp only [Oper.about, hop, hr, Target.leads, Option.some.injEq] at hf
    exact hf ▸ hF
  · have he : (o.semAt F.round a.eval).run P w = .ok (.enter f args) w := by
      rw [Oper.semAt_eq F.round a.eval o (fun c' => by rw [hop]; simp)]
      unfold execOp
      simp only [hop, Sem.run_bind, hr, Result.andThen, invoke, ha, hk]
    rw [he, Oper.uponIn_enter]
    refine ⟨fun h1 => (by rw [hd] at h1; cases h1), CallsIn.mono m fun e w1 hR => ?_⟩
    obtain ⟨v, rfl, hK⟩ := h e w1 hR
    exact hK
theorem Du {o : Oper} {c : Call} {fo : Operand} {l fn : Nat} {args tmps : Array Value} {assign body : Code} {a : Act} {w : World} {K : Act -> World -> Prop} {R : Ending -> World -> Prop} (hop : o.op = .call c) (hc : c.callee = .value fo) (hw : o.guard = none \/ Region.wanted o (yielded ops a.tmps) = true)
    (hv : a.eval fo = .func (.yield l) #[] #[]) (ha : c.args.map a.eval = args) (hy : (Instr.yield l args).run P w = .ok (.round l fn tmps assign body) w) (hF : ∀ f, F.fn f) (m : RoundIn F (n - 1) P l fn tmps assign body w R)
    (h : ∀ e w1, R e w1 -> ∃ v, e = .returned v /\ K (a.put o.dst v) w1) (hd : F.depth = none := by rfl) :
    if Region.wanted o (yielded ops a.tmps) = true then Oper.wpIn F n P o a w K Q else (∀ f, o.about P w a.eval = some f -> F.fn f) /\ K (a.put o.dst undef) w := by
  have hw1 : Region.wanted o (yielded ops a.tmps) = true := by
    rcases hw with h1 | h1
    · simp only [Region.wanted, h1]
    · exact h1
  have hr : (resolve a.eval c o.type).run P w = .ok { target := .fn (.yield l) #[], args := c.args.map a.eval } w := by
    simp only [resolve, hc, hv, Deferred.ofValue, Sem.run_pure, Array.empty_append]
  rw [if_pos hw1]
  refine ⟨fun f' _ => hF f', ?_⟩
  have he : (o.semAt F.round a.eval).run P w = .ok (.round l fn tmps assign body) w := by
    rw [Oper.semAt_eq F.round a.eval o (fun c' => by rw [hop]; simp)]
    unfold execOp
    simp only [hop, Sem.run_bind, hr, Result.andThen, invoke, ha, hy]
  rw [he, Oper.uponIn_round]
  refine ⟨fun h1 => (by rw [hd] at h1; cases h1), RoundIn.mono m fun e w1 hR => ?_⟩
  obtain ⟨v, rfl, hK⟩ := h e w1 hR
  exact hK
theorem rM {i : Nat} {o : Oper} {fuel : Nat} {listed : Array Bool} {a : Act} {w : World} (hr : Region.ready md ops listed = [i]) (hi0 : ops.toList[i]? = some o) (hw : Region.wanted o (yielded ops a.tmps) = false) (hF : ∀ f, F.fn f)
    (hS : (listed.setIfInBounds i true).getD z true = false -> S w) (h : ur F n P md ops Q S z fuel (listed.setIfInBounds i true) (a.put o.dst undef) w) : ur F n P md ops Q S z (fuel + 1) listed a w :=
  um hr hi0 fun K hK => by
    rw [if_neg (by rw [hw]; simp)]
    exact ⟨fun f _ => hF f, hK _ _ hS h⟩
theorem tQ {o : Oper} {a : Act} {w w' : World} {K : Act -> World -> Prop} {x : Next} {v : Value} (hw : o.guard = none \/ Region.wanted o (yielded ops a.tmps) = true) (hnd : ∀ c, o.op ≠ .defer c) (hF : ∀ f, F.fn f) (hrun : (execOp a.eval o).run P w = .ok x w')
    (hx : x = .value v \/ (x = .skip /\ v = undef)) (h : K (a.put o.dst v) w') :
    if Region.wanted o (yielded ops a.tmps) = true then Oper.wpIn F n P o a w K Q else (∀ f, o.about P w a.eval = some f -> F.fn f) /\ K (a.put o.dst undef) w := by
  have hw1 : Region.wanted o (yielded ops a.tmps) = true := by
    rcases hw with h1 | h1
    · simp only [Region.wanted, h1]
    · exact h1
  rw [if_pos hw1]
  refine ⟨fun f' _ => hF f', ?_⟩
  rw [Oper.semAt_eq F.round a.eval o hnd, hrun]
  rcases hx with rfl | ⟨rfl, rfl⟩
  · rw [Oper.uponIn_value]; exact h
  · rw [Oper.uponIn_skip]; exact h
end
end W
end
section
open Go Go.Proofs Ax Go.RowKit
namespace W
attribute [local go_sem] Oper.semAt_some
structure EV where
  id : Int
  a : Int
  b : Int
  t : ByteArray
  k : Sl
  v : Sl
  nd : NV
  wf : (Lit.int .i64 id).wf = true
abbrev vQ (id a b : Int) (t : ByteArray) (k v : Sl) : Array Value := #[.int .i64 id, .int .i64 a, .int .i64 b, .string t, .slice k.1 k.2.1 k.2.2, .slice v.1 v.2.1 v.2.2]
def PK (x : EV) : Array Value := #[.agg (vQ x.id x.a x.b x.t x.k x.v), .agg x.nd.cells]
def EV.ids (x : EV) : Int × Int := (x.id, x.nd.id)
structure RQ (P : Int × Int -> Prop) where
  x : EV
  ok : P x.ids
def RQ.i {P : Int × Int -> Prop} (x : RQ P) : Int × Int := x.1.ids
def LV {P : Int × Int -> Prop} (x : RQ P) : Array Value := PK x.1
def SF (at_ : Int) (e : Edge) : Int := if e.to = at_ then e.from_ else e.to
def Dc (n : Nat) (g : Graph) (id : Int) : Node := ((uz n g id).map (·.1)).getD ⟨0, [], [], []⟩
def DV (n : Nat) (wt : fV) (e : Edge) : Bool := (zD n wt e.keys e.vals).getD false
def bP (n : Nat) (g : Graph) (at_ : Int) (d : RX) (used : List Int) (e : Edge) : Bool := decide (e.id ∉ used) && (DV n d.edge e && Bb n d.node (Dc n g (SF at_ e)))
def sY (n : Nat) (g : Graph) (at_ : Int) (d : RX) (used : List Int) (l : List Edge) : List (Int × Int) := (l.filter (bP n g at_ d used)).map fun e => (e.id, (Dc n g (SF at_ e)).id)
theorem Hx {L : Nat} {H : PH L} {x : Edge} {us : List Value} (h : qJ H (nQ.cells x) us) : ∃ k v : Sl, us = [.int .i64 x.id, .int .i64 x.from_, .int .i64 x.to, .string ⟨x.type_.toArray⟩, .slice k.1 k.2.1 k.2.2, .slice v.1 v.2.1 v.2.2] := by
  obtain ⟨a, b, c, d, e, f⟩ := x
  simp only [nQ, Edge.cells, qJ] at h
  obtain ⟨_, _, rfl, h1, _, _, rfl, h2, _, _, rfl, h3, _, _, rfl, h4, _, _, rfl, h5, _, _, rfl, h6, rfl⟩ := h
  obtain ⟨p, e, rfl⟩ := zL h5
  obtain ⟨q, f, rfl⟩ := zL h6
  simp only [qp] at h1 h2 h3 h4
  subst h1 h2 h3 h4
  exact ⟨(_, _, _), (_, _, _), rfl⟩
theorem GV {L : Nat} {H : PH L} {x : Edge} {a b c d k v : Value} (h : qJ H (nQ.cells x) [a, b, c, d, k, v]) : qp H (.sl (qy x.keys)) k /\ qp H (.sl (Val.rows x.vals)) v := by
  obtain ⟨_, _, _, _, _, _⟩ := x
  simp only [nQ, Edge.cells, qJ] at h
  obtain ⟨_, _, e1, _, _, _, e2, _, _, _, e3, _, _, _, e4, _, _, _, e5, h5, _, _, e6, h6, rfl⟩ := h
  simp only [List.cons.injEq] at e1 e2 e3 e4 e5 e6
  obtain ⟨rfl, rfl⟩ := e1
  obtain ⟨rfl, rfl⟩ := e2
  obtain ⟨rfl, rfl⟩ := e3
  obtain ⟨rfl, rfl⟩ := e4
  obtain ⟨rfl, rfl⟩ := e5
  obtain ⟨rfl, _⟩ := e6
  exact ⟨h5, h6⟩
abbrev Vi (a : ByteArray) (l1 k1 v1 : Sl) (o : ByteArray) (dir : Int) (b : ByteArray) (l2 k2 v2 : Sl) : List Value := [.string a, .slice l1.1 l1.2.1 l1.2.2, .slice k1.1 k1.2.1 k1.2.2, .slice v1.1 v1.2.1 v1.2.2, .string o, .int .i64 dir, .string b, .slice l2.1 l2.2.1 l2.2.2, .slice k2.1 k2.2.1 k2.2.2, .slice v2.1 v2.2.1 v2.2.2]
theorem Mj {L : Nat} {H : PH L} {x : RX} {us : List Value} (h : qJ H (Ld.cells x) us) : ∃ l1 k1 v1 l2 k2 v2 : Sl, us = Vi ⟨x.edge.name.toArray⟩ l1 k1 v1 ⟨x.of.toArray⟩ x.dir ⟨x.node.name.toArray⟩ l2 k2 v2 /\
    qJ H (Xa.cells x.edge) [.string ⟨x.edge.name.toArray⟩, .slice l1.1 l1.2.1 l1.2.2, .slice k1.1 k1.2.1 k1.2.2, .slice v1.1 v1.2.1 v1.2.2] /\ qJ H (Xa.cells x.node) [.string ⟨x.node.name.toArray⟩, .slice l2.1 l2.2.1 l2.2.2, .slice k2.1 k2.2.1 k2.2.2, .slice v2.1 v2.2.1 v2.2.2] := by
  obtain ⟨⟨a, b, c, d⟩, o, i, ⟨a', b', c', d'⟩⟩ := x
  simp only [Ld, RX.cells, qJ] at h
  obtain ⟨_, _, rfl, h1, _, _, rfl, h2, _, _, rfl, h3, _, _, rfl, h4, _, _, rfl, h5, _, _, rfl, h6, _, _, rfl, h7, _, _, rfl, h8, _, _, rfl, h9, _, _, rfl, h10, rfl⟩ := h
  obtain ⟨p2, e2, rfl⟩ := zL h2
  obtain ⟨p3, e3, rfl⟩ := zL h3
  obtain ⟨p4, e4, rfl⟩ := zL h4
  obtain ⟨p8, e8, rfl⟩ := zL h8
  obtain ⟨p9, e9, rfl⟩ := zL h9
  obtain ⟨p10, e10, rfl⟩ := zL h10
  simp only [qp] at h1 h5 h6 h7
  subst h1 h5 h6 h7
  refine ⟨(_, _, _), (_, _, _), (_, _, _), (_, _, _), (_, _, _), (_, _, _), rfl, ?_, ?_⟩
  · simp only [Xa, fV.cells, qJ]
    exact ⟨_, _, rfl, by simp only [qp], _, _, rfl, h2, _, _, rfl, h3, _, _, rfl, h4, rfl⟩
  · simp only [Xa, fV.cells, qJ]
    exact ⟨_, _, rfl, by simp only [qp], _, _, rfl, h8, _, _, rfl, h9, _, _, rfl, h10, rfl⟩
theorem LU {K : SK} (w : World) (at_ : Int) (a o b : ByteArray) (dir : Int) (l1 k1 v1 l2 k2 v2 : Sl) : Calls Tryz.prog 101 #[.pointer (some ⟨K.sb, 0, none⟩), .int .i64 at_, .agg (Vi a l1 k1 v1 o dir b l2 k2 v2).toArray] w fun e w' =>
    e = .returned (.func (.func 141) #[] #[.pointer (some ⟨w.heap.size, 0, none⟩), .pointer (some ⟨w.heap.size + 1, 0, none⟩), .pointer (some ⟨w.heap.size + 1 + 1, 0, none⟩)]) /\ w' = ((w.alloc (.cells #[.pointer (some ⟨K.sb, 0, none⟩)] 114)).alloc (.cells #[.int .i64 at_] 2)).alloc (.cells (Vi a l1 k1 v1 o dir b l2 k2 v2).toArray 154) := by
  go_enter Tryz.func101, Tryz.ntmps101
  go_wp2
  go_ret
  exact ⟨rfl, rfl⟩
theorem PF (w : World) : (zeroValue 3).run Tryz.prog w = .ok (.int .i64 0) w := by kernel_rfl
section
variable {L : Nat} {K : SK} {H0 H : PH L} {M0 : Nat -> Prop} {w0 w : World} {vn vv vf : Value} {names : List (List UInt8)} {vals : List Val} {used : List Int} {found : List bS} {D : DM}
set_option maxHeartbeats 8000000 in
set_option maxRecDepth 100000 in
theorem BD (h : Sg K H0 M0 w0 H w vn vv vf vn vv vf names vals found used.length D) (hu : uo D used) {n m : Nat} {d : RX} {g : Graph} {at_ : Int} {Bs Ba Bd : Nat} {l1 k1 v1 l2 k2 v2 : Sl} (P : Int × Int -> Prop) (hm : 1 <= m)
    (hs : w.heap[Bs]? = some (.cells #[.pointer (some ⟨K.sb, 0, none⟩)] 114)) (ha : w.heap[Ba]? = some (.cells #[.int .i64 at_] 2)) (hd : w.heap[Bd]? = some (.cells (Vi ⟨d.edge.name.toArray⟩ l1 k1 v1 ⟨d.of.toArray⟩ d.dir ⟨d.node.name.toArray⟩ l2 k2 v2).toArray 154)) (ns : ¬ K.M vn vv vf Bs) (na : ¬ K.M vn vv vf Ba) (nd : ¬ K.M vn vv vf Bd)
    (hr1 : qJ H (Xa.cells d.edge) [.string ⟨d.edge.name.toArray⟩, .slice l1.1 l1.2.1 l1.2.2, .slice k1.1 k1.2.1 k1.2.2, .slice v1.1 v1.2.1 v1.2.2]) (hr2 : qJ H (Xa.cells d.node) [.string ⟨d.node.name.toArray⟩, .slice l2.1 l2.2.1 l2.2.2, .slice k2.1 k2.2.1 k2.2.2, .slice v2.1 v2.2.1 v2.2.2])
    (hg1 : qp H (.sl (Node.rows g.nodes)) K.g1) (hg2 : qp H (.sl (Edge.rows g.edges)) K.g2) {ar : List Edge} (hA : zF n g at_ d.dir d.of = some ar) (har : ar.length < 1000000000) (hP : ∀ i ∈ sY n g at_ d used ar, P i)
    (hok : ∀ e ∈ ar, (Lit.int .i64 e.id).wf = true /\ (uz n g (SF at_ e)).isSome = true /\ (zD n d.edge e.keys e.vals).isSome = true /\ (zB n d.node (Dc n g (SF at_ e))).isSome = true) :
    SeqStopsK Fence.wide m Tryz.prog 141 #[.pointer (some ⟨Bs, 0, none⟩), .pointer (some ⟨Ba, 0, none⟩), .pointer (some ⟨Bd, 0, none⟩)] (LV (P := P)) (RW K used) (fun xs => xs.map RQ.i = sY n g at_ d used ar) (fun pre => ∃ rest, pre.map RQ.i ++ rest = sY n g at_ d used ar) (sY n g at_ d used ar).length w := by
  intro l J Jx W hW hJ hJx hY h0
  have h1 := h.below hW
  have hsW := (hW.block Bs (jH.1 hs).1).trans hs
  have haW := (hW.block Ba (jH.1 ha).1).trans ha
  have hdW := (hW.block Bd (jH.1 hd).1).trans hd
  have hmm : ∀ bn bv bf, W.heap[K.sb]? = some (DC K bn bv bf) -> bn = vn /\ bv = vv /\ bf = vf := fun bn bv bf hb => by
    have h3 := h1.box
    rw [hb] at h3
    simp only [DC, Option.some.injEq, Obj.cells.injEq] at h3
    have h5 := congrArg Array.toList h3.1
    simp at h5
    exact h5
  obtain ⟨Z, hZ⟩ : ∃ Z : List (Nat × Obj), Z = [(Bs, .cells #[.pointer (some ⟨K.sb, 0, none⟩)] 114), (Ba, .cells #[.int .i64 at_] 2), (Bd, .cells (Vi ⟨d.edge.name.toArray⟩ l1 k1 v1 ⟨d.of.toArray⟩ d.dir ⟨d.node.name.toArray⟩ l2 k2 v2).toArray 154)] := ⟨_, rfl⟩
  have hI : RS K used Z H W := by
    rw [hZ]
    exact (((RS.of h1 hu).more hdW rfl fun bn bv bf hb _ => by obtain ⟨rfl, rfl, rfl⟩ := hmm _ _ _ hb; exact nd).more haW rfl fun bn bv bf hb _ => by obtain ⟨rfl, rfl, rfl⟩ := hmm _ _ _ hb; exact na).more hsW rfl fun bn bv bf hb _ => by obtain ⟨rfl, rfl, rfl⟩ := hmm _ _ _ hb; exact ns
  have hZ3 : ∀ (H' : PH L) (W' : World), RS K used Z H' W' -> W'.heap[Bs]? = some (.cells #[.pointer (some ⟨K.sb, 0, none⟩)] 114) /\ W'.heap[Ba]? = some (.cells #[.int .i64 at_] 2) /\ W'.heap[Bd]? = some (.cells (Vi ⟨d.edge.name.toArray⟩ l1 k1 v1 ⟨d.of.toArray⟩ d.dir ⟨d.node.name.toArray⟩ l2 k2 v2).toArray 154) := fun _ _ i => by
    have := i.own
    rw [hZ] at this
    exact ⟨(this _ List.mem_cons_self).1, (this _ (List.mem_cons_of_mem _ List.mem_cons_self)).1, (this _ (List.mem_cons_of_mem _ (List.mem_cons_of_mem _ List.mem_cons_self))).1⟩
  clear hZ
  obtain ⟨gp, gc, hgv⟩ := zL hg1
  obtain ⟨ep, ec, hev⟩ := zL hg2
  have hgl : (Node.rows g.nodes).length = g.nodes.length := by simp [Node.rows]
  have hel : (Edge.rows g.edges).length = g.edges.length := by simp [Edge.rows]
  have hal : (Edge.rows ar).length = ar.length := by simp [Edge.rows]
  rw [hgl] at hgv
  rw [hel] at hev
  show CallsIn Fence.wide m Tryz.prog 141 #[.func (.yield l) #[] #[], .pointer (some ⟨Bs, 0, none⟩), .pointer (some ⟨Ba, 0, none⟩), .pointer (some ⟨Bd, 0, none⟩)] W _
  have m142 := (QC n _ _ _ _ _ hA).calls (fun _ _ => Tryz.call142 _ _) (H := H) (w := W.drew) (hI.below (W' := W.drew) ⟨rfl, rfl, rfl, jv _, fun _ _ => rfl⟩).sat (vs := [.agg #[.slice gp g.nodes.length gc, .slice ep g.edges.length ec], .int .i64 at_, .int .i64 d.dir, .string ⟨d.of.toArray⟩]) (by
    simp only [qJ]
    refine ⟨_, _, rfl, fN (us := [.slice gp g.nodes.length gc, .slice ep g.edges.length ec]) ?_, _, _, rfl, by simp only [qp], _, _, rfl, by simp only [qp], _, _, rfl, by simp only [qp], rfl⟩
    simp only [df, Graph.cells, qJ]
    exact ⟨_, _, rfl, hgv ▸ hg1, _, _, rfl, hev ▸ hg2, rfl⟩)
  refine callsIn_of_wp Tryz.func141 rfl trivial ?_ rfl
  simp only [Tryz.ntmps141, jL, ja, jc, Nat.reduceAdd, Nat.reduceSub, Array.replicate_succ, Array.replicate_zero, List.push_toArray, List.append_toArray, jt, List.cons_append]
  gi_wp2_with fail
  obtain ⟨S, hSe⟩ : ∃ S : World -> Prop, S = fun w' => Below W.heap.size W w' := ⟨_, rfl⟩
  have hS : S W.drew := by rw [hSe]; exact ⟨rfl, rfl, rfl, jv _, fun _ _ => rfl⟩
  have hC : ∀ w', S w' -> w'.cell? ⟨Bs, 0, none⟩ = some (.pointer (some ⟨K.sb, 0, none⟩)) /\ w'.cell? ⟨K.sb, 0, none⟩ = some (.slice gp g.nodes.length gc) /\ w'.cell? ⟨K.sb, 1, none⟩ = some (.slice ep g.edges.length ec) /\ w'.cell? ⟨Ba, 0, none⟩ = some (.int .i64 at_) /\ w'.cell? ⟨Bd, 4, none⟩ = some (.string ⟨d.of.toArray⟩) /\ w'.cell? ⟨Bd, 5, none⟩ = some (.int .i64 d.dir) := fun w' hw => by
    rw [hSe] at hw
    have cc : ∀ {b i : Nat} {v : Value}, W.cell? ⟨b, i, none⟩ = some v -> w'.cell? ⟨b, i, none⟩ = some v := fun {b i v} hv => (World.cell?_of_block (w := W) (a := ⟨b, i, none⟩) (hw.block b (gQ hv))).trans hv
    exact ⟨cc (qc hsW 0 rfl), cc (by rw [← hgv]; exact qc h1.box 0 rfl), cc (by rw [← hev]; exact qc h1.box 1 rfl), cc (qc haW 0 rfl), cc (qc hdW 4 rfl), cc (qc hdW 5 rfl)⟩
  refine zH S 9 (by kernel_rfl) ?_
  simp only [jL, ja, jc, Nat.reduceAdd, Array.replicate_succ, Array.replicate_zero, List.push_toArray, jt, List.cons_append]
  refine qO (i := 0) (v := .pointer (some ⟨K.sb, 0, none⟩)) [1, 2, 3, 9] (by kernel_rfl) rfl (by kernel_rfl) (by kernel_rfl) (by kernel_rfl) (fun _ _ _ h => h) (by kernel_rfl) (by kernel_rfl) (by kernel_rfl) (by decide) ⟨Or.inl ⟨by rfl, ?_⟩, fun _ => rfl⟩ hS ?_
  · intro w hw; have hc := hC w hw; clear hY hJ hJx m142 hok hC hA hr1 hr2 h hI h1 hg1 hg2 hmm; go_split_ands; go_simp
  try simp only [Act.put, List.setIfInBounds_toArray, List.set_cons_zero, List.set_cons_succ]
  refine qe (i := 1) (v := .pointer (some ⟨K.sb, 0, none⟩)) (by kernel_rfl) rfl (by kernel_rfl) (by kernel_rfl) (by kernel_rfl) (fun _ _ _ h => h) (by decide) ⟨Or.inl ⟨by rfl, ?_⟩, fun _ => rfl⟩ (fun _ => hS) ?_
  · clear hY hJ hJx m142 hok hC hA hr1 hr2 h hI h1 hg1 hg2 hmm; intro w _; go_simp
  try simp only [Act.put, List.setIfInBounds_toArray, List.set_cons_zero, List.set_cons_succ]
  refine qe (i := 2) (v := .pointer (some ⟨K.sb, 0, none⟩)) (by kernel_rfl) rfl (by kernel_rfl) (by kernel_rfl) (by kernel_rfl) (fun _ _ _ h => h) (by decide) ⟨Or.inl ⟨by rfl, ?_⟩, fun _ => rfl⟩ (fun _ => hS) ?_
  · clear hY hJ hJx m142 hok hC hA hr1 hr2 h hI h1 hg1 hg2 hmm; intro w _; go_simp
  try simp only [Act.put, List.setIfInBounds_toArray, List.set_cons_zero, List.set_cons_succ]
  refine qO (i := 3) (v := .agg #[.slice gp g.nodes.length gc, .slice ep g.edges.length ec]) [9] (by kernel_rfl) rfl (by kernel_rfl) (by kernel_rfl) (by kernel_rfl) (fun _ _ _ h => h) (by kernel_rfl) (by kernel_rfl) (by kernel_rfl) (by decide) ⟨Or.inl ⟨by rfl, ?_⟩, fun _ => rfl⟩ hS ?_
  · intro w hw; have hc := hC w hw; clear hY hJ hJx m142 hok hC hA hr1 hr2 h hI h1 hg1 hg2 hmm; go_split_ands; go_simp
  try simp only [Act.put, List.setIfInBounds_toArray, List.set_cons_zero, List.set_cons_succ]
  refine qO (i := 4) (v := .int .i64 at_) [9] (by kernel_rfl) rfl (by kernel_rfl) (by kernel_rfl) (by kernel_rfl) (fun _ _ _ h => h) (by kernel_rfl) (by kernel_rfl) (by kernel_rfl) (by decide) ⟨Or.inl ⟨by rfl, ?_⟩, fun _ => rfl⟩ hS ?_
  · intro w hw; have hc := hC w hw; clear hY hJ hJx m142 hok hC hA hr1 hr2 h hI h1 hg1 hg2 hmm; go_split_ands; go_simp
  try simp only [Act.put, List.setIfInBounds_toArray, List.set_cons_zero, List.set_cons_succ]
  refine qe (i := 5) (v := .pointer (some ⟨Bd, 5, none⟩)) (by kernel_rfl) rfl (by kernel_rfl) (by kernel_rfl) (by kernel_rfl) (fun _ _ _ h => h) (by decide) ⟨Or.inl ⟨by rfl, ?_⟩, fun _ => rfl⟩ (fun _ => hS) ?_
  · clear hY hJ hJx m142 hok hC hA hr1 hr2 h hI h1 hg1 hg2 hmm; intro w _; go_simp
  try simp only [Act.put, List.setIfInBounds_toArray, List.set_cons_zero, List.set_cons_succ]
  refine qO (i := 6) (v := .int .i64 d.dir) [9] (by kernel_rfl) rfl (by kernel_rfl) (by kernel_rfl) (by kernel_rfl) (fun _ _ _ h => h) (by kernel_rfl) (by kernel_rfl) (by kernel_rfl) (by decide) ⟨Or.inl ⟨by rfl, ?_⟩, fun _ => rfl⟩ hS ?_
  · intro w hw; have hc := hC w hw; clear hY hJ hJx m142 hok hC hA hr1 hr2 h hI h1 hg1 hg2 hmm; go_split_ands; go_simp
  try simp only [Act.put, List.setIfInBounds_toArray, List.set_cons_zero, List.set_cons_succ]
  refine qe (i := 7) (v := .pointer (some ⟨Bd, 4, none⟩)) (by kernel_rfl) rfl (by kernel_rfl) (by kernel_rfl) (by kernel_rfl) (fun _ _ _ h => h) (by decide) ⟨Or.inl ⟨by rfl, ?_⟩, fun _ => rfl⟩ (fun _ => hS) ?_
  · clear hY hJ hJx m142 hok hC hA hr1 hr2 h hI h1 hg1 hg2 hmm; intro w _; go_simp
  try simp only [Act.put, List.setIfInBounds_toArray, List.set_cons_zero, List.set_cons_succ]
  refine qO (i := 8) (v := .string ⟨d.of.toArray⟩) [9] (by kernel_rfl) rfl (by kernel_rfl) (by kernel_rfl) (by kernel_rfl) (fun _ _ _ h => h) (by kernel_rfl) (by kernel_rfl) (by kernel_rfl) (by decide) ⟨Or.inl ⟨by rfl, ?_⟩, fun _ => rfl⟩ hS ?_
  · intro w hw; have hc := hC w hw; clear hY hJ hJx m142 hok hC hA hr1 hr2 h hI h1 hg1 hg2 hmm; go_split_ands; go_simp
  try simp only [Act.put, List.setIfInBounds_toArray, List.set_cons_zero, List.set_cons_succ]
  refine qe (i := 11) (v := .int .i64 0) (by kernel_rfl) rfl (by kernel_rfl) (by kernel_rfl) (by kernel_rfl) (fun _ _ _ h => h) (by decide) ⟨Or.inl ⟨by rfl, ?_⟩, fun _ => rfl⟩ (fun _ => hS) ?_
  · clear hY hJ hJx m142 hok hC hA hr1 hr2 h hI h1 hg1 hg2 hmm; intro w _; go_simp
  try simp only [Act.put, List.setIfInBounds_toArray, List.set_cons_zero, List.set_cons_succ]
  refine um (i := 9) (by kernel_rfl) rfl fun Kk hKk => ?_
  refine dA (f := 142) (lb := #[]) rfl rfl (.inl rfl) ?hv ?ha (fun _ _ => Tryz.call142 _ _) trivial (callsIn_wide.2 m142) ?_
  case hv => rfl
  case ha => clear hY hJ hJx m142 hok hC hA hr1 hr2 h hI h1 hg1 hg2 hmm; go_simp
  rintro e w1 ⟨vr, H1, rfl, c1, r1⟩
  refine ⟨_, rfl, ?_⟩
  obtain ⟨ap, ac, hav⟩ := zL r1
  rw [hal] at hav
  subst hav
  refine hKk _ _ (fun e => absurd e (by decide)) ?_
  try simp only [Act.put, List.setIfInBounds_toArray, List.set_cons_zero, List.set_cons_succ]
  refine qe (i := 10) (v := .int .i64 (ar.length : Int)) (by kernel_rfl) rfl (by kernel_rfl) (by kernel_rfl) (by kernel_rfl) (fun _ _ _ h => h) (by decide) ⟨Or.inl ⟨by rfl, ?_⟩, fun _ => rfl⟩ (fun e => absurd e (by decide)) ?_
  · clear hY hJ hJx m142 hok hC hA hr1 hr2 h hI h1 hg1 hg2 hmm; intro w _; go_simp
  try simp only [Act.put, List.setIfInBounds_toArray, List.set_cons_zero, List.set_cons_succ]
  refine vB (by kernel_rfl) ?_ _
  have hI1 : RS K used Z H1 w1 := (hI.below (W' := W.drew) ⟨rfl, rfl, rfl, jv _, fun _ _ => rfl⟩).calm c1
  have hdr : Below W.heap.size W W.drew := ⟨rfl, rfl, rfl, jv _, fun _ _ => rfl⟩
  have hJ1 : J [] w1 := hJ [] W w1 none h0 (zP (hdr.trans c1.below)) (fun r e => by cases e)
  clear hKk hC hS hSe m142 S
  gi_wp2
  gi_loopw [21] (fun v wr => ∃ (j : Nat) (pre : List (RQ P)) (H2 : PH L), v = .int .i64 (j : Int) /\ j <= ar.length /\ PH.le H H2 /\ qp H2 (.sl (Edge.rows ar)) (.slice ap ar.length ac) /\ RS K used Z H2 wr /\ pre.map RQ.i = sY n g at_ d used (ar.take j) /\ J pre wr) (fun v _ => ar.length - (intOf v).toNat)
  case atStart => exact ⟨0, [], H1, rfl, jR _, c1.le, r1, hI1, rfl, hJ1⟩
  case round =>
    obtain ⟨j, pre, H2, rfl, hj, le2, r2, i2, hpre, hJ2⟩ := hrel
    clear hI1 hJ1 c1 r1 hI
    have z0 : (0 : Int) <= (j : Int) := by omega
    rcases Nat.lt_or_ge j ar.length with hlt | hge
    · have z1 : (j : Int) < (ar.length : Int) := by omega
      have hnd := jf hlt
      generalize ar[j] = e at hnd
      obtain ⟨gb, go, gc', e1, us, hus, hcell⟩ := CP r2 (j := j) (r := nQ.cells e) (by simp only [Edge.rows, List.getElem?_map, hnd]; rfl)
      rw [hal] at e1
      cases e1
      obtain ⟨k3, v3, rfl⟩ := Hx hus
      have hz : (nQ.cells e).length = 6 := nQ.hz e
      rw [hz] at hcell
      have g0 : wr.cell? ⟨gb, go + j * 6, none⟩ = some (.int .i64 e.id) := (i2.sat.cell _ _ _ (hcell 0 _ rfl)).1
      have g1 := (i2.sat.cell _ _ _ (hcell 1 _ rfl)).1
      have g2 := (i2.sat.cell _ _ _ (hcell 2 _ rfl)).1
      have g3 := (i2.sat.cell _ _ _ (hcell 3 _ rfl)).1
      have g4 := (i2.sat.cell _ _ _ (hcell 4 _ rfl)).1
      have g5 := (i2.sat.cell _ _ _ (hcell 5 _ rfl)).1
      obtain ⟨hwf, hN0, hP0, hQ0⟩ := hok e (List.mem_of_getElem? hnd)
      obtain ⟨⟨nd, okk⟩, hN⟩ := Option.isSome_iff_exists.1 hN0
      have hng : Dc n g (SF at_ e) = nd := by unfold Dc; rw [hN]; rfl
      obtain ⟨b1, hb1⟩ := Option.isSome_iff_exists.1 hP0
      rw [hng] at hQ0
      obtain ⟨b2, hb2⟩ := Option.isSome_iff_exists.1 hQ0
      have i3 := i2.below (W' := wr.alloc (.cells (vQ e.id e.from_ e.to ⟨e.type_.toArray⟩ k3 v3) 56)) ((Below.refl _ wr).alloc (jv _) _)
      obtain ⟨s3, a3, d3⟩ := hZ3 _ _ i3
      obtain ⟨bn, bv, bf, mb3, _⟩ := i3.md
      have e3 : (wr.alloc (.cells (vQ e.id e.from_ e.to ⟨e.type_.toArray⟩ k3 v3) 56)).heap[wr.heap.size]? = some (.cells (vQ e.id e.from_ e.to ⟨e.type_.toArray⟩ k3 v3) 56) := World.alloc_heap_new wr _
      have m98 := (XF n _ _ _ hN).calls (fun _ _ => Tryz.call98 _ _) i3.sat (vs := [.agg #[.slice gp g.nodes.length gc, .slice ep g.edges.length ec], .int .i64 (SF at_ e)]) (by
        simp only [qJ]
        refine ⟨_, _, rfl, fN (us := [.slice gp g.nodes.length gc, .slice ep g.edges.length ec]) ?_, _, _, rfl, by simp only [qp], rfl⟩
        simp only [df, Graph.cells, qJ]
        exact ⟨_, _, rfl, hgv ▸ hg1.mono le2, _, _, rfl, hev ▸ hg2.mono le2, rfl⟩)
      have htk : sY n g at_ d used (ar.take (j + 1)) = sY n g at_ d used (ar.take j) ++ (if bP n g at_ d used e then [(e.id, nd.id)] else []) := by
        unfold sY
        rw [List.take_add_one, hnd, List.filter_append, jX]
        cases hp : bP n g at_ d used e <;> simp [hp, hng]
      have hpe : DV n d.edge e = b1 := by unfold DV; rw [hb1]; rfl
      have hwn : Bb n d.node (Dc n g (SF at_ e)) = b2 := by unfold Bb; rw [hng, hb2]; rfl
      have f0 : (wr.alloc (.cells (vQ e.id e.from_ e.to ⟨e.type_.toArray⟩ k3 v3) 56)).cell? ⟨Bs, 0, none⟩ = some (.pointer (some ⟨K.sb, 0, none⟩)) := qc s3 0 rfl
      have f1 : (wr.alloc (.cells (vQ e.id e.from_ e.to ⟨e.type_.toArray⟩ k3 v3) 56)).cell? ⟨K.sb, 0, none⟩ = some (.slice gp g.nodes.length gc) := by rw [← hgv]; exact qc mb3 0 rfl
      have f2 : (wr.alloc (.cells (vQ e.id e.from_ e.to ⟨e.type_.toArray⟩ k3 v3) 56)).cell? ⟨K.sb, 1, none⟩ = some (.slice ep g.edges.length ec) := by rw [← hev]; exact qc mb3 1 rfl
      have f3 : (wr.alloc (.cells (vQ e.id e.from_ e.to ⟨e.type_.toArray⟩ k3 v3) 56)).cell? ⟨Ba, 0, none⟩ = some (.int .i64 at_) := qc a3 0 rfl
      have f4 : (wr.alloc (.cells (vQ e.id e.from_ e.to ⟨e.type_.toArray⟩ k3 v3) 56)).cell? ⟨wr.heap.size, 1, none⟩ = some (.int .i64 e.from_) := qc e3 1 rfl
      have f5 : (wr.alloc (.cells (vQ e.id e.from_ e.to ⟨e.type_.toArray⟩ k3 v3) 56)).cell? ⟨wr.heap.size, 2, none⟩ = some (.int .i64 e.to) := qc e3 2 rfl
      have hT : (bP n g at_ d used e = true -> P (e.id, nd.id)) := fun hp => by rw [← hng]; exact hP _ (List.mem_map.2 ⟨e, List.mem_filter.2 ⟨List.mem_of_getElem? hnd, hp⟩, rfl⟩)
      have hlen : bP n g at_ d used e = true -> pre.length < (sY n g at_ d used ar).length := fun hp => by
        have e1 : (pre.map RQ.i).length = pre.length := by simp
        rw [← e1, hpre]
        have e2 : (sY n g at_ d used ar).length = (sY n g at_ d used (ar.take (j + 1))).length + (sY n g at_ d used (ar.drop (j + 1))).length := by
          rw [← jb]
          unfold sY
          rw [← jX, ← List.filter_append, List.take_append_drop]
        rw [e2, htk, hp]
        simp
        omega
      replace hY := Hd.mk hY; replace hok := Hd.mk hok; replace hcell := Hd.mk hcell; replace hP := Hd.mk hP; replace hZ3 := Hd.mk hZ3; replace hJ := Hd.mk hJ; replace hJx := Hd.mk hJx; replace h := Hd.mk h; replace h1 := Hd.mk h1; replace hr1 := Hd.mk hr1; replace hr2 := Hd.mk hr2; replace hg1 := Hd.mk hg1; replace hg2 := Hd.mk hg2; replace hmm := Hd.mk hmm; replace hT := Hd.mk hT; replace hlen := Hd.mk hlen; replace htk := Hd.mk htk; replace hpre := Hd.mk hpre; replace hus := Hd.mk hus; replace r2 := Hd.mk r2
      by_cases hto : e.to = at_
      · rw [show SF at_ e = e.from_ by simp [SF, hto]] at m98
        subst hto
        gi_wp2_with (
          refine ⟨trivial, ?_⟩; gi_at_call 98; refine (callsIn_wide.2 m98).mono ?_; rintro e' w2 ⟨vk, H3, rfl, c2, r3⟩
          simp only [nt, qp, qJ] at r3
          obtain ⟨_, rfl, _, _, rfl, ⟨us2, rfl, hus2⟩, _, _, rfl, rfl, rfl⟩ := r3
          obtain ⟨l4, k4, v4, rfl⟩ := Vo hus2)
        have iB := (i3.calm c2).new (.cells (NV.cells ⟨nd.id, l4, k4, v4⟩) 96) rfl
        have eB : (w2.alloc (.cells (NV.cells ⟨nd.id, l4, k4, v4⟩) 96)).heap[wr.heap.size]? = some (.cells (vQ e.id e.from_ e.to ⟨e.type_.toArray⟩ k3 v3) 56) := (heap_alloc_old w2 _ (Nat.lt_of_lt_of_le (by simp) c2.keep.size)).trans ((c2.keep.block _ (by simp) id).trans e3)
        have nB : (w2.alloc (.cells (NV.cells ⟨nd.id, l4, k4, v4⟩) 96)).heap[w2.heap.size]? = some (.cells (NV.cells ⟨nd.id, l4, k4, v4⟩) 96) := World.alloc_heap_new w2 _
        obtain ⟨s5, a5, d5⟩ := hZ3.h _ _ ((i3.calm c2).below (W' := w2.alloc (.cells (NV.cells ⟨nd.id, l4, k4, v4⟩) 96)) ((Below.refl _ w2).alloc (jv _) _))
        obtain ⟨bn5, bv5, bf5, mb5, _⟩ := iB.md
        obtain ⟨D5, o5, u5⟩ := iB.mp
        generalize hwB : w2.alloc (.cells (NV.cells ⟨nd.id, l4, k4, v4⟩) 96) = wB at iB eB nB s5 a5 d5 mb5 o5 ⊢
        have gB : Below wr.heap.size wr wB := by
          rw [← hwB]
          exact (((Below.refl _ wr).alloc (jv _) _).trans (c2.below.mono (by simp))).trans (((Below.refl _ w2).alloc (jv _) _).mono (Nat.le_trans (by simp) c2.keep.size))
        have iZ := (i3.calm c2).below (W' := wB) (by rw [← hwB]; exact (Below.refl _ w2).alloc (jv _) _)
        obtain ⟨S, hSe⟩ : ∃ S : World -> Prop, S = fun w' => Below wB.heap.size wB w' := ⟨_, rfl⟩
        have hS : S wB.drew := by rw [hSe]; exact ⟨rfl, rfl, rfl, jv _, fun _ _ => rfl⟩
        have hC : ∀ w', S w' -> w'.cell? ⟨Bs, 0, none⟩ = some (.pointer (some ⟨K.sb, 0, none⟩)) /\ w'.cell? ⟨K.sb, 4, none⟩ = some (.map (some K.mb)) /\ w'.cell? ⟨wr.heap.size, 0, none⟩ = some (.int .i64 e.id) /\ w'.cell? ⟨wr.heap.size, 1, none⟩ = some (.int .i64 e.from_) /\ w'.cell? ⟨wr.heap.size, 2, none⟩ = some (.int .i64 e.to) /\ w'.cell? ⟨wr.heap.size, 3, none⟩ = some (.string ⟨e.type_.toArray⟩) /\
            w'.cell? ⟨wr.heap.size, 4, none⟩ = some (.slice k3.1 k3.2.1 k3.2.2) /\ w'.cell? ⟨wr.heap.size, 5, none⟩ = some (.slice v3.1 v3.2.1 v3.2.2) /\ w'.cell? ⟨Bd, 0, none⟩ = some (.string ⟨d.edge.name.toArray⟩) /\ w'.cell? ⟨Bd, 1, none⟩ = some (.slice l1.1 l1.2.1 l1.2.2) /\ w'.cell? ⟨Bd, 2, none⟩ = some (.slice k1.1 k1.2.1 k1.2.2) /\ w'.cell? ⟨Bd, 3, none⟩ = some (.slice v1.1 v1.2.1 v1.2.2) /\
            w'.cell? ⟨Bd, 6, none⟩ = some (.string ⟨d.node.name.toArray⟩) /\ w'.cell? ⟨Bd, 7, none⟩ = some (.slice l2.1 l2.2.1 l2.2.2) /\ w'.cell? ⟨Bd, 8, none⟩ = some (.slice k2.1 k2.2.1 k2.2.2) /\ w'.cell? ⟨Bd, 9, none⟩ = some (.slice v2.1 v2.2.1 v2.2.2) /\
            w'.cell? ⟨w2.heap.size, 0, none⟩ = some (.int .i64 nd.id) /\ w'.cell? ⟨w2.heap.size, 1, none⟩ = some (.slice l4.1 l4.2.1 l4.2.2) /\ w'.cell? ⟨w2.heap.size, 2, none⟩ = some (.slice k4.1 k4.2.1 k4.2.2) /\ w'.cell? ⟨w2.heap.size, 3, none⟩ = some (.slice v4.1 v4.2.1 v4.2.2) /\
            (Instr.lookup 115 (.map (some K.mb)) (.int .i64 e.id) false).run Tryz.prog w' = .ok (.int .i64 (if e.id ∈ used then 1 else 0)) w' := fun w' hw => by
          rw [hSe] at hw
          have cc : ∀ {b i : Nat} {v : Value}, wB.cell? ⟨b, i, none⟩ = some v -> w'.cell? ⟨b, i, none⟩ = some v := fun {b i v} hv => (World.cell?_of_block (w := wB) (a := ⟨b, i, none⟩) (hw.block b (gQ hv))).trans hv
          refine ⟨cc (qc s5 0 rfl), cc (qc mb5 4 rfl), cc (qc eB 0 rfl), cc (qc eB 1 rfl), cc (qc eB 2 rfl), cc (qc eB 3 rfl), cc (qc eB 4 rfl), cc (qc eB 5 rfl), cc (qc d5 0 rfl), cc (qc d5 1 rfl), cc (qc d5 2 rfl), cc (qc d5 3 rfl), cc (qc d5 6 rfl), cc (qc d5 7 rfl), cc (qc d5 8 rfl), cc (qc d5 9 rfl), cc (qc nB 0 rfl), cc (qc nB 1 rfl), cc (qc nB 2 rfl), cc (qc nB 3 rfl), ?_⟩
          obtain ⟨es, clock, hbm, _⟩ := id o5
          obtain ⟨c, hrun, hat, _⟩ := (dQ o5 (hw.block K.mb (jH.1 hbm).1)).lookup_int (Maps.int_keyed Tryz.underlying2) Tryz.underlying115 Tryz.underlying3 (PF _) (Maps.keyOf_int_mk Tryz.underlying2 hwf)
          rw [u5.1 e.id] at hat
          simp only [DataW.lit.injEq, Lit.int.injEq, true_and] at hat
          rw [hrun, ← hat]
        refine zH S 27 (by kernel_rfl) ?_
        simp only [jL, ja, jc, Nat.reduceAdd, Array.replicate_succ, Array.replicate_zero, List.push_toArray, jt, List.cons_append]
        replace s5 := Hd.mk s5; replace a5 := Hd.mk a5; replace d5 := Hd.mk d5; replace mb5 := Hd.mk mb5; replace o5 := Hd.mk o5; replace eB := Hd.mk eB; replace nB := Hd.mk nB; replace s3 := Hd.mk s3; replace a3 := Hd.mk a3; replace d3 := Hd.mk d3; replace g0 := Hd.mk g0; replace g1 := Hd.mk g1; replace g2 := Hd.mk g2; replace g3 := Hd.mk g3; replace g4 := Hd.mk g4; replace g5 := Hd.mk g5; replace f0 := Hd.mk f0; replace f1 := Hd.mk f1; replace f2 := Hd.mk f2; replace f3 := Hd.mk f3; replace f4 := Hd.mk f4; replace f5 := Hd.mk f5; replace e3 := Hd.mk e3; replace mb3 := Hd.mk mb3; replace hwB := Hd.mk hwB
        refine qO (i := 0) (v := .pointer (some ⟨K.sb, 0, none⟩)) [1, 2, 3, 6, 7, 8, 9, 10, 15, 16, 17, 18, 19, 21, 22, 23, 24, 27] (by kernel_rfl) rfl (by kernel_rfl) (by kernel_rfl) (by kernel_rfl) (fun _ _ _ h => h) (by kernel_rfl) (by kernel_rfl) (by kernel_rfl) (by decide) ⟨Or.inl ⟨by rfl, ?_⟩, fun _ => rfl⟩ hS ?_
        · intro w hw; have hc := hC w hw; clear hC hY; go_split_ands; go_simp
        try simp only [Act.put, List.setIfInBounds_toArray, List.set_cons_zero, List.set_cons_succ]
        refine qe (i := 1) (v := .pointer (some ⟨K.sb, 0, none⟩)) (by kernel_rfl) rfl (by kernel_rfl) (by kernel_rfl) (by kernel_rfl) (fun _ _ _ h => h) (by decide) ⟨Or.inl ⟨by rfl, ?_⟩, fun _ => rfl⟩ (fun _ => hS) ?_
        · clear hC hY; intro w _; go_simp
        try simp only [Act.put, List.setIfInBounds_toArray, List.set_cons_zero, List.set_cons_succ]
        refine qe (i := 2) (v := .pointer (some ⟨K.sb, 4, none⟩)) (by kernel_rfl) rfl (by kernel_rfl) (by kernel_rfl) (by kernel_rfl) (fun _ _ _ h => h) (by decide) ⟨Or.inl ⟨by rfl, ?_⟩, fun _ => rfl⟩ (fun _ => hS) ?_
        · clear hC hY; intro w _; go_simp
        try simp only [Act.put, List.setIfInBounds_toArray, List.set_cons_zero, List.set_cons_succ]
        refine qO (i := 3) (v := .map (some K.mb)) [6, 7, 8, 9, 10, 15, 16, 17, 18, 19, 21, 22, 23, 24, 27] (by kernel_rfl) rfl (by kernel_rfl) (by kernel_rfl) (by kernel_rfl) (fun _ _ _ h => h) (by kernel_rfl) (by kernel_rfl) (by kernel_rfl) (by decide) ⟨Or.inl ⟨by rfl, ?_⟩, fun _ => rfl⟩ hS ?_
        · intro w hw; have hc := hC w hw; clear hC hY; go_split_ands; go_simp
        try simp only [Act.put, List.setIfInBounds_toArray, List.set_cons_zero, List.set_cons_succ]
        refine qe (i := 4) (v := .pointer (some ⟨wr.heap.size, 0, none⟩)) (by kernel_rfl) rfl (by kernel_rfl) (by kernel_rfl) (by kernel_rfl) (fun _ _ _ h => h) (by decide) ⟨Or.inl ⟨by rfl, ?_⟩, fun _ => rfl⟩ (fun _ => hS) ?_
        · clear hC hY; intro w _; go_simp
        try simp only [Act.put, List.setIfInBounds_toArray, List.set_cons_zero, List.set_cons_succ]
        refine qO (i := 5) (v := .int .i64 e.id) [6, 7, 8, 9, 10, 15, 16, 17, 18, 19, 21, 22, 23, 24, 27] (by kernel_rfl) rfl (by kernel_rfl) (by kernel_rfl) (by kernel_rfl) (fun _ _ _ h => h) (by kernel_rfl) (by kernel_rfl) (by kernel_rfl) (by decide) ⟨Or.inl ⟨by rfl, ?_⟩, fun _ => rfl⟩ hS ?_
        · intro w hw; have hc := hC w hw; clear hC hY; go_split_ands; go_simp
        try simp only [Act.put, List.setIfInBounds_toArray, List.set_cons_zero, List.set_cons_succ]
        by_cases hmem : e.id ∈ used
        · have hq : bP n g e.to d used e = false := by simp [bP, hmem]
          simp only [hmem, if_true] at hC
          refine qO (i := 6) (v := .int .i64 1) [7, 8, 9, 10, 15, 16, 17, 18, 19, 21, 22, 23, 24, 27] (by kernel_rfl) rfl (by kernel_rfl) (by kernel_rfl) (by kernel_rfl) (fun _ _ _ h => h) (by kernel_rfl) (by kernel_rfl) (by kernel_rfl) (by decide) ⟨Or.inl ⟨by rfl, ?_⟩, fun _ => rfl⟩ hS ?_
          · intro w hw; have hc := hC w hw; clear hC hY; go_split_ands; go_simp
          try simp only [Act.put, List.setIfInBounds_toArray, List.set_cons_zero, List.set_cons_succ]
          refine qe (i := 7) (v := .bool false) (by kernel_rfl) rfl (by kernel_rfl) (by kernel_rfl) (by kernel_rfl) (fun _ _ _ h => h) (by decide) ⟨Or.inl ⟨by rfl, ?_⟩, fun _ => rfl⟩ (fun _ => hS) ?_
          · clear hC hY; intro w _; go_simp
          try simp only [Act.put, List.setIfInBounds_toArray, List.set_cons_zero, List.set_cons_succ]
          refine qe (i := 8) (v := .bool false) (by kernel_rfl) rfl (by kernel_rfl) (by kernel_rfl) (by kernel_rfl) (fun _ _ _ h => h) (by decide) ⟨Or.inl ⟨by rfl, ?_⟩, fun _ => rfl⟩ (fun _ => hS) ?_
          · clear hC hY; intro w _; go_simp
          try simp only [Act.put, List.setIfInBounds_toArray, List.set_cons_zero, List.set_cons_succ]
          refine qe (i := 9) (v := undef) (by kernel_rfl) rfl (by kernel_rfl) (by kernel_rfl) (by kernel_rfl) (fun _ _ _ h => h) (by decide) ⟨Or.inr ⟨by rfl, rfl⟩, fun _ => rfl⟩ (fun _ => hS) ?_
          try simp only [Act.put, List.setIfInBounds_toArray, List.set_cons_zero, List.set_cons_succ]
          refine qe (i := 10) (v := undef) (by kernel_rfl) rfl (by kernel_rfl) (by kernel_rfl) (by kernel_rfl) (fun _ _ _ h => h) (by decide) ⟨Or.inr ⟨by rfl, rfl⟩, fun _ => rfl⟩ (fun _ => hS) ?_
          try simp only [Act.put, List.setIfInBounds_toArray, List.set_cons_zero, List.set_cons_succ]
          refine qe (i := 11) (v := undef) (by kernel_rfl) rfl (by kernel_rfl) (by kernel_rfl) (by kernel_rfl) (fun _ _ _ h => h) (by decide) ⟨Or.inr ⟨by rfl, rfl⟩, fun _ => rfl⟩ (fun _ => hS) ?_
          try simp only [Act.put, List.setIfInBounds_toArray, List.set_cons_zero, List.set_cons_succ]
          refine qe (i := 12) (v := undef) (by kernel_rfl) rfl (by kernel_rfl) (by kernel_rfl) (by kernel_rfl) (fun _ _ _ h => h) (by decide) ⟨Or.inr ⟨by rfl, rfl⟩, fun _ => rfl⟩ (fun _ => hS) ?_
          try simp only [Act.put, List.setIfInBounds_toArray, List.set_cons_zero, List.set_cons_succ]
          refine qe (i := 13) (v := undef) (by kernel_rfl) rfl (by kernel_rfl) (by kernel_rfl) (by kernel_rfl) (fun _ _ _ h => h) (by decide) ⟨Or.inr ⟨by rfl, rfl⟩, fun _ => rfl⟩ (fun _ => hS) ?_
          try simp only [Act.put, List.setIfInBounds_toArray, List.set_cons_zero, List.set_cons_succ]
          refine qe (i := 14) (v := undef) (by kernel_rfl) rfl (by kernel_rfl) (by kernel_rfl) (by kernel_rfl) (fun _ _ _ h => h) (by decide) ⟨Or.inr ⟨by rfl, rfl⟩, fun _ => rfl⟩ (fun _ => hS) ?_
          try simp only [Act.put, List.setIfInBounds_toArray, List.set_cons_zero, List.set_cons_succ]
          refine rM (i := 15) (by kernel_rfl) rfl (by rfl) (fun _ => trivial) (fun _ => hS) ?_
          try simp only [Act.put, List.setIfInBounds_toArray, List.set_cons_zero, List.set_cons_succ]
          refine qe (i := 16) (v := .bool false) (by kernel_rfl) rfl (by kernel_rfl) (by kernel_rfl) (by kernel_rfl) (fun _ _ _ h => h) (by decide) ⟨Or.inl ⟨by rfl, ?_⟩, fun _ => rfl⟩ (fun _ => hS) ?_
          · clear hC hY; intro w _; go_simp
          try simp only [Act.put, List.setIfInBounds_toArray, List.set_cons_zero, List.set_cons_succ]
          refine qe (i := 17) (v := .bool false) (by kernel_rfl) rfl (by kernel_rfl) (by kernel_rfl) (by kernel_rfl) (fun _ _ _ h => h) (by decide) ⟨Or.inl ⟨by rfl, ?_⟩, fun _ => rfl⟩ (fun _ => hS) ?_
          · clear hC hY; intro w _; go_simp
          try simp only [Act.put, List.setIfInBounds_toArray, List.set_cons_zero, List.set_cons_succ]
          refine qe (i := 18) (v := undef) (by kernel_rfl) rfl (by kernel_rfl) (by kernel_rfl) (by kernel_rfl) (fun _ _ _ h => h) (by decide) ⟨Or.inr ⟨by rfl, rfl⟩, fun _ => rfl⟩ (fun _ => hS) ?_
          try simp only [Act.put, List.setIfInBounds_toArray, List.set_cons_zero, List.set_cons_succ]
          refine qe (i := 19) (v := undef) (by kernel_rfl) rfl (by kernel_rfl) (by kernel_rfl) (by kernel_rfl) (fun _ _ _ h => h) (by decide) ⟨Or.inr ⟨by rfl, rfl⟩, fun _ => rfl⟩ (fun _ => hS) ?_
          try simp only [Act.put, List.setIfInBounds_toArray, List.set_cons_zero, List.set_cons_succ]
          refine qe (i := 20) (v := undef) (by kernel_rfl) rfl (by kernel_rfl) (by kernel_rfl) (by kernel_rfl) (fun _ _ _ h => h) (by decide) ⟨Or.inr ⟨by rfl, rfl⟩, fun _ => rfl⟩ (fun _ => hS) ?_
          try simp only [Act.put, List.setIfInBounds_toArray, List.set_cons_zero, List.set_cons_succ]
          refine rM (i := 21) (by kernel_rfl) rfl (by rfl) (fun _ => trivial) (fun _ => hS) ?_
          try simp only [Act.put, List.setIfInBounds_toArray, List.set_cons_zero, List.set_cons_succ]
          refine qe (i := 22) (v := .bool false) (by kernel_rfl) rfl (by kernel_rfl) (by kernel_rfl) (by kernel_rfl) (fun _ _ _ h => h) (by decide) ⟨Or.inl ⟨by rfl, ?_⟩, fun _ => rfl⟩ (fun _ => hS) ?_
          · clear hC hY; intro w _; go_simp
          try simp only [Act.put, List.setIfInBounds_toArray, List.set_cons_zero, List.set_cons_succ]
          refine qe (i := 23) (v := .bool false) (by kernel_rfl) rfl (by kernel_rfl) (by kernel_rfl) (by kernel_rfl) (fun _ _ _ h => h) (by decide) ⟨Or.inl ⟨by rfl, ?_⟩, fun _ => rfl⟩ (fun _ => hS) ?_
          · clear hC hY; intro w _; go_simp
          try simp only [Act.put, List.setIfInBounds_toArray, List.set_cons_zero, List.set_cons_succ]
          refine qe (i := 24) (v := undef) (by kernel_rfl) rfl (by kernel_rfl) (by kernel_rfl) (by kernel_rfl) (fun _ _ _ h => h) (by decide) ⟨Or.inr ⟨by rfl, rfl⟩, fun _ => rfl⟩ (fun _ => hS) ?_
          try simp only [Act.put, List.setIfInBounds_toArray, List.set_cons_zero, List.set_cons_succ]
          refine qe (i := 25) (v := undef) (by kernel_rfl) rfl (by kernel_rfl) (by kernel_rfl) (by kernel_rfl) (fun _ _ _ h => h) (by decide) ⟨Or.inr ⟨by rfl, rfl⟩, fun _ => rfl⟩ (fun _ => hS) ?_
          try simp only [Act.put, List.setIfInBounds_toArray, List.set_cons_zero, List.set_cons_succ]
          refine qe (i := 26) (v := undef) (by kernel_rfl) rfl (by kernel_rfl) (by kernel_rfl) (by kernel_rfl) (fun _ _ _ h => h) (by decide) ⟨Or.inr ⟨by rfl, rfl⟩, fun _ => rfl⟩ (fun _ => hS) ?_
          try simp only [Act.put, List.setIfInBounds_toArray, List.set_cons_zero, List.set_cons_succ]
          refine rM (i := 27) (by kernel_rfl) rfl (by rfl) (fun _ => trivial) (fun e => absurd e (by decide)) ?_
          try simp only [Act.put, List.setIfInBounds_toArray, List.set_cons_zero, List.set_cons_succ]
          refine qe (i := 28) (v := undef) (by kernel_rfl) rfl (by kernel_rfl) (by kernel_rfl) (by kernel_rfl) (fun _ _ _ h => h) (by decide) ⟨Or.inr ⟨by rfl, rfl⟩, fun _ => rfl⟩ (fun e => absurd e (by decide)) ?_
          try simp only [Act.put, List.setIfInBounds_toArray, List.set_cons_zero, List.set_cons_succ]
          refine qe (i := 29) (v := .bool false) (by kernel_rfl) rfl (by kernel_rfl) (by kernel_rfl) (by kernel_rfl) (fun _ _ _ h => h) (by decide) ⟨Or.inl ⟨by rfl, ?_⟩, fun _ => rfl⟩ (fun e => absurd e (by decide)) ?_
          · clear hC hY; intro w _; go_simp
          try simp only [Act.put, List.setIfInBounds_toArray, List.set_cons_zero, List.set_cons_succ]
          refine vB (by kernel_rfl) ?_ _
          gi_wp2
          go_roundw
          case rel => exact ⟨j + 1, pre, H3, by congr 1 <;> omega, hlt, (le2.trans c2.le), (r2.h.mono c2.le), iZ.below (W' := wB.drew) ⟨rfl, rfl, rfl, jv _, fun _ _ => rfl⟩, by rw [htk.h, hq, hpre.h]; simp, hJ.h pre wr wB.drew none hJ2 (zP (gB.trans ⟨rfl, rfl, rfl, jv _, fun _ _ => rfl⟩)) (fun r e => by cases e)⟩
          case measure => simp [intOf]; omega
        · simp only [hmem, if_false] at hC
          refine qO (i := 6) (v := .int .i64 0) [7, 8, 9, 10, 15, 16, 17, 18, 19, 21, 22, 23, 24, 27] (by kernel_rfl) rfl (by kernel_rfl) (by kernel_rfl) (by kernel_rfl) (fun _ _ _ h => h) (by kernel_rfl) (by kernel_rfl) (by kernel_rfl) (by decide) ⟨Or.inl ⟨by rfl, ?_⟩, fun _ => rfl⟩ hS ?_
          · intro w hw; have hc := hC w hw; clear hC hY; go_split_ands; go_simp
          try simp only [Act.put, List.setIfInBounds_toArray, List.set_cons_zero, List.set_cons_succ]
          refine qe (i := 7) (v := .bool true) (by kernel_rfl) rfl (by kernel_rfl) (by kernel_rfl) (by kernel_rfl) (fun _ _ _ h => h) (by decide) ⟨Or.inl ⟨by rfl, ?_⟩, fun _ => rfl⟩ (fun _ => hS) ?_
          · clear hC hY; intro w _; go_simp
          try simp only [Act.put, List.setIfInBounds_toArray, List.set_cons_zero, List.set_cons_succ]
          refine qe (i := 8) (v := .bool true) (by kernel_rfl) rfl (by kernel_rfl) (by kernel_rfl) (by kernel_rfl) (fun _ _ _ h => h) (by decide) ⟨Or.inl ⟨by rfl, ?_⟩, fun _ => rfl⟩ (fun _ => hS) ?_
          · clear hC hY; intro w _; go_simp
          try simp only [Act.put, List.setIfInBounds_toArray, List.set_cons_zero, List.set_cons_succ]
          refine qe (i := 9) (v := .pointer (some ⟨Bd, 0, none⟩)) (by kernel_rfl) rfl (by kernel_rfl) (by kernel_rfl) (by kernel_rfl) (fun _ _ _ h => h) (by decide) ⟨Or.inl ⟨by rfl, ?_⟩, fun _ => rfl⟩ (fun _ => hS) ?_
          · clear hC hY; intro w _; go_simp
          try simp only [Act.put, List.setIfInBounds_toArray, List.set_cons_zero, List.set_cons_succ]
          refine qO (i := 10) (v := .agg #[.string ⟨d.edge.name.toArray⟩, .slice l1.1 l1.2.1 l1.2.2, .slice k1.1 k1.2.1 k1.2.2, .slice v1.1 v1.2.1 v1.2.2]) [15, 16, 17, 18, 19, 21, 22, 23, 24, 27] (by kernel_rfl) rfl (by kernel_rfl) (by kernel_rfl) (by kernel_rfl) (fun _ _ _ h => h) (by kernel_rfl) (by kernel_rfl) (by kernel_rfl) (by decide) ⟨Or.inl ⟨by rfl, ?_⟩, fun _ => rfl⟩ hS ?_
          · intro w hw; have hc := hC w hw; clear hC hY; go_split_ands; go_simp
          try simp only [Act.put, List.setIfInBounds_toArray, List.set_cons_zero, List.set_cons_succ]
          refine qe (i := 11) (v := .pointer (some ⟨wr.heap.size, 4, none⟩)) (by kernel_rfl) rfl (by kernel_rfl) (by kernel_rfl) (by kernel_rfl) (fun _ _ _ h => h) (by decide) ⟨Or.inl ⟨by rfl, ?_⟩, fun _ => rfl⟩ (fun _ => hS) ?_
          · clear hC hY; intro w _; go_simp
          try simp only [Act.put, List.setIfInBounds_toArray, List.set_cons_zero, List.set_cons_succ]
          refine qO (i := 12) (v := .slice k3.1 k3.2.1 k3.2.2) [15, 16, 17, 18, 19, 21, 22, 23, 24, 27] (by kernel_rfl) rfl (by kernel_rfl) (by kernel_rfl) (by kernel_rfl) (fun _ _ _ h => h) (by kernel_rfl) (by kernel_rfl) (by kernel_rfl) (by decide) ⟨Or.inl ⟨by rfl, ?_⟩, fun _ => rfl⟩ hS ?_
          · intro w hw; have hc := hC w hw; clear hC hY; go_split_ands; go_simp
          try simp only [Act.put, List.setIfInBounds_toArray, List.set_cons_zero, List.set_cons_succ]
          refine qe (i := 13) (v := .pointer (some ⟨wr.heap.size, 5, none⟩)) (by kernel_rfl) rfl (by kernel_rfl) (by kernel_rfl) (by kernel_rfl) (fun _ _ _ h => h) (by decide) ⟨Or.inl ⟨by rfl, ?_⟩, fun _ => rfl⟩ (fun _ => hS) ?_
          · clear hC hY; intro w _; go_simp
          try simp only [Act.put, List.setIfInBounds_toArray, List.set_cons_zero, List.set_cons_succ]
          refine qO (i := 14) (v := .slice v3.1 v3.2.1 v3.2.2) [15, 16, 17, 18, 19, 21, 22, 23, 24, 27] (by kernel_rfl) rfl (by kernel_rfl) (by kernel_rfl) (by kernel_rfl) (fun _ _ _ h => h) (by kernel_rfl) (by kernel_rfl) (by kernel_rfl) (by decide) ⟨Or.inl ⟨by rfl, ?_⟩, fun _ => rfl⟩ hS ?_
          · intro w hw; have hc := hC w hw; clear hC hY; go_split_ands; go_simp
          try simp only [Act.put, List.setIfInBounds_toArray, List.set_cons_zero, List.set_cons_succ]
          have iD := iZ.below (W' := wB.drew) ⟨rfl, rfl, rfl, jv _, fun _ _ => rfl⟩
          have gD : Below wr.heap.size wr wB.drew := gB.trans ⟨rfl, rfl, rfl, jv _, fun _ _ => rfl⟩
          have m138 := (uB n _ _ _ _ hb1).calls (fun _ _ => Tryz.call138 _ _) iD.sat (vs := [.agg #[.string ⟨d.edge.name.toArray⟩, .slice l1.1 l1.2.1 l1.2.2, .slice k1.1 k1.2.1 k1.2.2, .slice v1.1 v1.2.1 v1.2.2], .slice k3.1 k3.2.1 k3.2.2, .slice v3.1 v3.2.1 v3.2.2]) (by simp only [qJ]; exact ⟨_, _, rfl, fN (hr1.h.mono (le2.trans c2.le)), _, _, rfl, (GV hus.h).1.mono c2.le, _, _, rfl, (GV hus.h).2.mono c2.le, rfl⟩)
          refine um (i := 15) (by kernel_rfl) rfl fun Kk hKk => ?_
          refine dA (f := 138) (lb := #[]) rfl rfl (.inr (by rfl)) ?hv ?ha (fun _ _ => Tryz.call138 _ _) trivial (callsIn_wide.2 m138) ?_
          case hv => rfl
          case ha => clear hC hY m138; go_simp
          rintro e' w3 ⟨vr, H4, rfl, c3, r4⟩
          simp only [uY, qp] at r4
          subst r4
          have hS3 : S w3 := by
            rw [hSe] at hS ⊢
            exact hS.trans (c3.below.mono hS.size)
          have g3 : Below wr.heap.size wr w3 := gD.trans (c3.below.mono gD.size)
          have iE := iD.calm c3
          refine ⟨_, rfl, hKk _ _ (fun _ => hS3) ?_⟩
          try simp only [Act.put, List.setIfInBounds_toArray, List.set_cons_zero, List.set_cons_succ]
          clear hKk m138
          cases b1 with
          | false =>
            have hq : bP n g e.to d used e = false := by simp [bP, hmem, hpe]
            refine qe (i := 16) (v := .bool false) (by kernel_rfl) rfl (by kernel_rfl) (by kernel_rfl) (by kernel_rfl) (fun _ _ _ h => h) (by decide) ⟨Or.inl ⟨by rfl, ?_⟩, fun _ => rfl⟩ (fun _ => hS3) ?_
            · clear hC hY; intro w _; go_simp
            try simp only [Act.put, List.setIfInBounds_toArray, List.set_cons_zero, List.set_cons_succ]
            refine qe (i := 17) (v := .bool false) (by kernel_rfl) rfl (by kernel_rfl) (by kernel_rfl) (by kernel_rfl) (fun _ _ _ h => h) (by decide) ⟨Or.inl ⟨by rfl, ?_⟩, fun _ => rfl⟩ (fun _ => hS3) ?_
            · clear hC hY; intro w _; go_simp
            try simp only [Act.put, List.setIfInBounds_toArray, List.set_cons_zero, List.set_cons_succ]
            refine qe (i := 18) (v := undef) (by kernel_rfl) rfl (by kernel_rfl) (by kernel_rfl) (by kernel_rfl) (fun _ _ _ h => h) (by decide) ⟨Or.inr ⟨by rfl, rfl⟩, fun _ => rfl⟩ (fun _ => hS3) ?_
            try simp only [Act.put, List.setIfInBounds_toArray, List.set_cons_zero, List.set_cons_succ]
            refine qe (i := 19) (v := undef) (by kernel_rfl) rfl (by kernel_rfl) (by kernel_rfl) (by kernel_rfl) (fun _ _ _ h => h) (by decide) ⟨Or.inr ⟨by rfl, rfl⟩, fun _ => rfl⟩ (fun _ => hS3) ?_
            try simp only [Act.put, List.setIfInBounds_toArray, List.set_cons_zero, List.set_cons_succ]
            refine qe (i := 20) (v := undef) (by kernel_rfl) rfl (by kernel_rfl) (by kernel_rfl) (by kernel_rfl) (fun _ _ _ h => h) (by decide) ⟨Or.inr ⟨by rfl, rfl⟩, fun _ => rfl⟩ (fun _ => hS3) ?_
            try simp only [Act.put, List.setIfInBounds_toArray, List.set_cons_zero, List.set_cons_succ]
            refine rM (i := 21) (by kernel_rfl) rfl (by rfl) (fun _ => trivial) (fun _ => hS3) ?_
            try simp only [Act.put, List.setIfInBounds_toArray, List.set_cons_zero, List.set_cons_succ]
            refine qe (i := 22) (v := .bool false) (by kernel_rfl) rfl (by kernel_rfl) (by kernel_rfl) (by kernel_rfl) (fun _ _ _ h => h) (by decide) ⟨Or.inl ⟨by rfl, ?_⟩, fun _ => rfl⟩ (fun _ => hS3) ?_
            · clear hC hY; intro w _; go_simp
            try simp only [Act.put, List.setIfInBounds_toArray, List.set_cons_zero, List.set_cons_succ]
            refine qe (i := 23) (v := .bool false) (by kernel_rfl) rfl (by kernel_rfl) (by kernel_rfl) (by kernel_rfl) (fun _ _ _ h => h) (by decide) ⟨Or.inl ⟨by rfl, ?_⟩, fun _ => rfl⟩ (fun _ => hS3) ?_
            · clear hC hY; intro w _; go_simp
            try simp only [Act.put, List.setIfInBounds_toArray, List.set_cons_zero, List.set_cons_succ]
            refine qe (i := 24) (v := undef) (by kernel_rfl) rfl (by kernel_rfl) (by kernel_rfl) (by kernel_rfl) (fun _ _ _ h => h) (by decide) ⟨Or.inr ⟨by rfl, rfl⟩, fun _ => rfl⟩ (fun _ => hS3) ?_
            try simp only [Act.put, List.setIfInBounds_toArray, List.set_cons_zero, List.set_cons_succ]
            refine qe (i := 25) (v := undef) (by kernel_rfl) rfl (by kernel_rfl) (by kernel_rfl) (by kernel_rfl) (fun _ _ _ h => h) (by decide) ⟨Or.inr ⟨by rfl, rfl⟩, fun _ => rfl⟩ (fun _ => hS3) ?_
            try simp only [Act.put, List.setIfInBounds_toArray, List.set_cons_zero, List.set_cons_succ]
            refine qe (i := 26) (v := undef) (by kernel_rfl) rfl (by kernel_rfl) (by kernel_rfl) (by kernel_rfl) (fun _ _ _ h => h) (by decide) ⟨Or.inr ⟨by rfl, rfl⟩, fun _ => rfl⟩ (fun _ => hS3) ?_
            try simp only [Act.put, List.setIfInBounds_toArray, List.set_cons_zero, List.set_cons_succ]
            refine rM (i := 27) (by kernel_rfl) rfl (by rfl) (fun _ => trivial) (fun e => absurd e (by decide)) ?_
            try simp only [Act.put, List.setIfInBounds_toArray, List.set_cons_zero, List.set_cons_succ]
            refine qe (i := 28) (v := undef) (by kernel_rfl) rfl (by kernel_rfl) (by kernel_rfl) (by kernel_rfl) (fun _ _ _ h => h) (by decide) ⟨Or.inr ⟨by rfl, rfl⟩, fun _ => rfl⟩ (fun e => absurd e (by decide)) ?_
            try simp only [Act.put, List.setIfInBounds_toArray, List.set_cons_zero, List.set_cons_succ]
            refine qe (i := 29) (v := .bool false) (by kernel_rfl) rfl (by kernel_rfl) (by kernel_rfl) (by kernel_rfl) (fun _ _ _ h => h) (by decide) ⟨Or.inl ⟨by rfl, ?_⟩, fun _ => rfl⟩ (fun e => absurd e (by decide)) ?_
            · clear hC hY; intro w _; go_simp
            try simp only [Act.put, List.setIfInBounds_toArray, List.set_cons_zero, List.set_cons_succ]
            refine vB (by kernel_rfl) ?_ _
            gi_wp2
            go_roundw
            case rel => exact ⟨j + 1, pre, H4, by congr 1 <;> omega, hlt, (le2.trans (c2.le.trans c3.le)), (r2.h.mono (c2.le.trans c3.le)), iE, by rw [htk.h, hq, hpre.h]; simp, hJ.h pre wr w3 none hJ2 (zP g3) (fun r e => by cases e)⟩
            case measure => simp [intOf]; omega
          | true =>
            refine qe (i := 16) (v := .bool true) (by kernel_rfl) rfl (by kernel_rfl) (by kernel_rfl) (by kernel_rfl) (fun _ _ _ h => h) (by decide) ⟨Or.inl ⟨by rfl, ?_⟩, fun _ => rfl⟩ (fun _ => hS3) ?_
            · clear hC hY; intro w _; go_simp
            try simp only [Act.put, List.setIfInBounds_toArray, List.set_cons_zero, List.set_cons_succ]
            refine qe (i := 17) (v := .bool true) (by kernel_rfl) rfl (by kernel_rfl) (by kernel_rfl) (by kernel_rfl) (fun _ _ _ h => h) (by decide) ⟨Or.inl ⟨by rfl, ?_⟩, fun _ => rfl⟩ (fun _ => hS3) ?_
            · clear hC hY; intro w _; go_simp
            try simp only [Act.put, List.setIfInBounds_toArray, List.set_cons_zero, List.set_cons_succ]
            refine qe (i := 18) (v := .pointer (some ⟨Bd, 6, none⟩)) (by kernel_rfl) rfl (by kernel_rfl) (by kernel_rfl) (by kernel_rfl) (fun _ _ _ h => h) (by decide) ⟨Or.inl ⟨by rfl, ?_⟩, fun _ => rfl⟩ (fun _ => hS3) ?_
            · clear hC hY; intro w _; go_simp
            try simp only [Act.put, List.setIfInBounds_toArray, List.set_cons_zero, List.set_cons_succ]
            refine qO (i := 19) (v := .agg #[.string ⟨d.node.name.toArray⟩, .slice l2.1 l2.2.1 l2.2.2, .slice k2.1 k2.2.1 k2.2.2, .slice v2.1 v2.2.1 v2.2.2]) [21, 22, 23, 24, 27] (by kernel_rfl) rfl (by kernel_rfl) (by kernel_rfl) (by kernel_rfl) (fun _ _ _ h => h) (by kernel_rfl) (by kernel_rfl) (by kernel_rfl) (by decide) ⟨Or.inl ⟨by rfl, ?_⟩, fun _ => rfl⟩ hS3 ?_
            · intro w hw; have hc := hC w hw; clear hC hY; go_split_ands; go_simp
            try simp only [Act.put, List.setIfInBounds_toArray, List.set_cons_zero, List.set_cons_succ]
            refine qO (i := 20) (v := .agg #[.int .i64 nd.id, .slice l4.1 l4.2.1 l4.2.2, .slice k4.1 k4.2.1 k4.2.2, .slice v4.1 v4.2.1 v4.2.2]) [21, 22, 23, 24, 27] (by kernel_rfl) rfl (by kernel_rfl) (by kernel_rfl) (by kernel_rfl) (fun _ _ _ h => h) (by kernel_rfl) (by kernel_rfl) (by kernel_rfl) (by decide) ⟨Or.inl ⟨by rfl, ?_⟩, fun _ => rfl⟩ hS3 ?_
            · intro w hw; have hc := hC w hw; clear hC hY; go_split_ands; go_simp
            try simp only [Act.put, List.setIfInBounds_toArray, List.set_cons_zero, List.set_cons_succ]
            have m99 := (uW n _ _ _ hb2).calls (fun _ _ => Tryz.call99 _ _) iE.sat (vs := [.agg #[.string ⟨d.node.name.toArray⟩, .slice l2.1 l2.2.1 l2.2.2, .slice k2.1 k2.2.1 k2.2.2, .slice v2.1 v2.2.1 v2.2.2], .agg #[.int .i64 nd.id, .slice l4.1 l4.2.1 l4.2.2, .slice k4.1 k4.2.1 k4.2.2, .slice v4.1 v4.2.1 v4.2.2]]) (by simp only [qJ]; exact ⟨_, _, rfl, fN (hr2.h.mono (le2.trans (c2.le.trans c3.le))), _, _, rfl, fN (hus2.mono c3.le), rfl⟩)
            refine um (i := 21) (by kernel_rfl) rfl fun Kk hKk => ?_
            refine dA (f := 99) (lb := #[]) rfl rfl (.inr (by rfl)) ?hv ?ha (fun _ _ => Tryz.call99 _ _) trivial (callsIn_wide.2 m99) ?_
            case hv => rfl
            case ha => clear hC hY m99; go_simp
            rintro e' w4 ⟨vr, H5, rfl, c4, r5⟩
            simp only [xI, qp] at r5
            subst r5
            have hS4 : S w4 := by rw [hSe] at hS3 ⊢; exact hS3.trans (c4.below.mono hS3.size)
            have g4' : Below wr.heap.size wr w4 := g3.trans (c4.below.mono g3.size)
            have iF := iE.calm c4
            have hJ4 := hJ.h pre wr w4 none hJ2 (zP g4') (fun r e => by cases e)
            refine ⟨_, rfl, hKk _ _ (fun _ => hS4) ?_⟩
            try simp only [Act.put, List.setIfInBounds_toArray, List.set_cons_zero, List.set_cons_succ]
            clear hKk m99
            cases b2 with
            | false =>
              have hq : bP n g e.to d used e = false := by simp [bP, hmem, hpe, hwn]
              refine qe (i := 22) (v := .bool false) (by kernel_rfl) rfl (by kernel_rfl) (by kernel_rfl) (by kernel_rfl) (fun _ _ _ h => h) (by decide) ⟨Or.inl ⟨by rfl, ?_⟩, fun _ => rfl⟩ (fun _ => hS4) ?_
              · clear hC hY; intro w _; go_simp
              try simp only [Act.put, List.setIfInBounds_toArray, List.set_cons_zero, List.set_cons_succ]
              refine qe (i := 23) (v := .bool false) (by kernel_rfl) rfl (by kernel_rfl) (by kernel_rfl) (by kernel_rfl) (fun _ _ _ h => h) (by decide) ⟨Or.inl ⟨by rfl, ?_⟩, fun _ => rfl⟩ (fun _ => hS4) ?_
              · clear hC hY; intro w _; go_simp
              try simp only [Act.put, List.setIfInBounds_toArray, List.set_cons_zero, List.set_cons_succ]
              refine qe (i := 24) (v := undef) (by kernel_rfl) rfl (by kernel_rfl) (by kernel_rfl) (by kernel_rfl) (fun _ _ _ h => h) (by decide) ⟨Or.inr ⟨by rfl, rfl⟩, fun _ => rfl⟩ (fun _ => hS4) ?_
              try simp only [Act.put, List.setIfInBounds_toArray, List.set_cons_zero, List.set_cons_succ]
              refine qe (i := 25) (v := undef) (by kernel_rfl) rfl (by kernel_rfl) (by kernel_rfl) (by kernel_rfl) (fun _ _ _ h => h) (by decide) ⟨Or.inr ⟨by rfl, rfl⟩, fun _ => rfl⟩ (fun _ => hS4) ?_
              try simp only [Act.put, List.setIfInBounds_toArray, List.set_cons_zero, List.set_cons_succ]
              refine qe (i := 26) (v := undef) (by kernel_rfl) rfl (by kernel_rfl) (by kernel_rfl) (by kernel_rfl) (fun _ _ _ h => h) (by decide) ⟨Or.inr ⟨by rfl, rfl⟩, fun _ => rfl⟩ (fun _ => hS4) ?_
              try simp only [Act.put, List.setIfInBounds_toArray, List.set_cons_zero, List.set_cons_succ]
              refine rM (i := 27) (by kernel_rfl) rfl (by rfl) (fun _ => trivial) (fun e => absurd e (by decide)) ?_
              try simp only [Act.put, List.setIfInBounds_toArray, List.set_cons_zero, List.set_cons_succ]
              refine qe (i := 28) (v := undef) (by kernel_rfl) rfl (by kernel_rfl) (by kernel_rfl) (by kernel_rfl) (fun _ _ _ h => h) (by decide) ⟨Or.inr ⟨by rfl, rfl⟩, fun _ => rfl⟩ (fun e => absurd e (by decide)) ?_
              try simp only [Act.put, List.setIfInBounds_toArray, List.set_cons_zero, List.set_cons_succ]
              refine qe (i := 29) (v := .bool false) (by kernel_rfl) rfl (by kernel_rfl) (by kernel_rfl) (by kernel_rfl) (fun _ _ _ h => h) (by decide) ⟨Or.inl ⟨by rfl, ?_⟩, fun _ => rfl⟩ (fun e => absurd e (by decide)) ?_
              · clear hC hY; intro w _; go_simp
              try simp only [Act.put, List.setIfInBounds_toArray, List.set_cons_zero, List.set_cons_succ]
              refine vB (by kernel_rfl) ?_ _
              gi_wp2
              go_roundw
              case rel => exact ⟨j + 1, pre, H5, by congr 1 <;> omega, hlt, (le2.trans (c2.le.trans (c3.le.trans c4.le))), (r2.h.mono (c2.le.trans (c3.le.trans c4.le))), iF, by rw [htk.h, hq, hpre.h]; simp, hJ4⟩
              case measure => simp [intOf]; omega
            | true =>
              have hq : bP n g e.to d used e = true := by simp [bP, hmem, hpe, hwn]
              obtain ⟨fn, tmps, assign, body, hy, hR⟩ := hY.h pre ⟨⟨e.id, e.from_, e.to, ⟨e.type_.toArray⟩, k3, v3, ⟨nd.id, l4, k4, v4⟩, hwf⟩, hT.h hq⟩ w4 hJ4 (hlen.h hq)
              simp only [LV, PK, vQ, NV.cells] at hy
              refine qe (i := 22) (v := .bool true) (by kernel_rfl) rfl (by kernel_rfl) (by kernel_rfl) (by kernel_rfl) (fun _ _ _ h => h) (by decide) ⟨Or.inl ⟨by rfl, ?_⟩, fun _ => rfl⟩ (fun _ => hS4) ?_
              · clear hC hY; intro w _; go_simp
              try simp only [Act.put, List.setIfInBounds_toArray, List.set_cons_zero, List.set_cons_succ]
              refine qe (i := 23) (v := .bool true) (by kernel_rfl) rfl (by kernel_rfl) (by kernel_rfl) (by kernel_rfl) (fun _ _ _ h => h) (by decide) ⟨Or.inl ⟨by rfl, ?_⟩, fun _ => rfl⟩ (fun _ => hS4) ?_
              · clear hC hY; intro w _; go_simp
              try simp only [Act.put, List.setIfInBounds_toArray, List.set_cons_zero, List.set_cons_succ]
              refine qe (i := 24) (v := .func (.yield l) #[] #[]) (by kernel_rfl) rfl (by kernel_rfl) (by kernel_rfl) (by kernel_rfl) (fun _ _ _ h => h) (by decide) ⟨Or.inl ⟨by rfl, ?_⟩, fun _ => rfl⟩ (fun _ => hS4) ?_
              · clear hC hY; intro w _; go_simp
              try simp only [Act.put, List.setIfInBounds_toArray, List.set_cons_zero, List.set_cons_succ]
              refine qO (i := 25) (v := .agg (vQ e.id e.from_ e.to ⟨e.type_.toArray⟩ k3 v3)) [27] (by kernel_rfl) rfl (by kernel_rfl) (by kernel_rfl) (by kernel_rfl) (fun _ _ _ h => h) (by kernel_rfl) (by kernel_rfl) (by kernel_rfl) (by decide) ⟨Or.inl ⟨by rfl, ?_⟩, fun _ => rfl⟩ hS4 ?_
              · intro w hw; have hc := hC w hw; clear hC hY; go_split_ands; go_simp
              try simp only [Act.put, List.setIfInBounds_toArray, List.set_cons_zero, List.set_cons_succ]
              refine qO (i := 26) (v := .agg #[.int .i64 nd.id, .slice l4.1 l4.2.1 l4.2.2, .slice k4.1 k4.2.1 k4.2.2, .slice v4.1 v4.2.1 v4.2.2]) [27] (by kernel_rfl) rfl (by kernel_rfl) (by kernel_rfl) (by kernel_rfl) (fun _ _ _ h => h) (by kernel_rfl) (by kernel_rfl) (by kernel_rfl) (by decide) ⟨Or.inl ⟨by rfl, ?_⟩, fun _ => rfl⟩ hS4 ?_
              · intro w hw; have hc := hC w hw; clear hC hY; go_split_ands; go_simp
              try simp only [Act.put, List.setIfInBounds_toArray, List.set_cons_zero, List.set_cons_succ]
              refine um (i := 27) (by kernel_rfl) rfl fun Kk hKk => ?_
              refine Du rfl rfl (.inr (by rfl)) ?hv ?ha hy (fun _ => trivial) hR ?_
              case hv => rfl
              case ha => clear hC hY hR hy; go_simp
              rintro e' W3 (⟨rfl, hJ3, hk3⟩ | ⟨rfl, hJx3⟩)
              · refine ⟨_, rfl, hKk _ _ (fun e => absurd e (by decide)) ?_⟩
                try simp only [Act.put, List.setIfInBounds_toArray, List.set_cons_zero, List.set_cons_succ]
                clear hKk hy hR
                refine qe (i := 28) (v := .bool false) (by kernel_rfl) rfl (by kernel_rfl) (by kernel_rfl) (by kernel_rfl) (fun _ _ _ h => h) (by decide) ⟨Or.inl ⟨by rfl, ?_⟩, fun _ => rfl⟩ (fun e => absurd e (by decide)) ?_
                · clear hC hY; intro w _; go_simp
                try simp only [Act.put, List.setIfInBounds_toArray, List.set_cons_zero, List.set_cons_succ]
                refine qe (i := 29) (v := .bool false) (by kernel_rfl) rfl (by kernel_rfl) (by kernel_rfl) (by kernel_rfl) (fun _ _ _ h => h) (by decide) ⟨Or.inl ⟨by rfl, ?_⟩, fun _ => rfl⟩ (fun e => absurd e (by decide)) ?_
                · clear hC hY; intro w _; go_simp
                try simp only [Act.put, List.setIfInBounds_toArray, List.set_cons_zero, List.set_cons_succ]
                refine vB (by kernel_rfl) ?_ _
                gi_wp2
                go_roundw
                case rel => exact ⟨j + 1, pre ++ [⟨⟨e.id, e.from_, e.to, ⟨e.type_.toArray⟩, k3, v3, ⟨nd.id, l4, k4, v4⟩, hwf⟩, hT.h hq⟩], H5, by congr 1 <;> omega, hlt, (le2.trans (c2.le.trans (c3.le.trans c4.le))), (r2.h.mono (c2.le.trans (c3.le.trans c4.le))), iF.kp hk3, by rw [htk.h, if_pos hq, jX, hpre.h]; rfl, hJ3⟩
                case measure => simp [intOf]; omega
              · refine ⟨_, rfl, hKk _ _ (fun e => absurd e (by decide)) ?_⟩
                try simp only [Act.put, List.setIfInBounds_toArray, List.set_cons_zero, List.set_cons_succ]
                clear hKk hy hR
                refine qe (i := 28) (v := .bool true) (by kernel_rfl) rfl (by kernel_rfl) (by kernel_rfl) (by kernel_rfl) (fun _ _ _ h => h) (by decide) ⟨Or.inl ⟨by rfl, ?_⟩, fun _ => rfl⟩ (fun e => absurd e (by decide)) ?_
                · clear hC hY; intro w _; go_simp
                try simp only [Act.put, List.setIfInBounds_toArray, List.set_cons_zero, List.set_cons_succ]
                refine qe (i := 29) (v := .bool true) (by kernel_rfl) rfl (by kernel_rfl) (by kernel_rfl) (by kernel_rfl) (fun _ _ _ h => h) (by decide) ⟨Or.inl ⟨by rfl, ?_⟩, fun _ => rfl⟩ (fun e => absurd e (by decide)) ?_
                · clear hC hY; intro w _; go_simp
                try simp only [Act.put, List.setIfInBounds_toArray, List.set_cons_zero, List.set_cons_succ]
                refine vB (by kernel_rfl) ?_ _
                gi_wp2
                refine bodyPost_ret (results_none rfl _ _ _) rfl ?_
                refine ⟨⟨_, rfl⟩, .inr ⟨pre ++ [⟨⟨e.id, e.from_, e.to, ⟨e.type_.toArray⟩, k3, v3, ⟨nd.id, l4, k4, v4⟩, hwf⟩, hT.h hq⟩], ⟨sY n g e.to d used (ar.drop (j + 1)), ?_⟩, hJx3⟩⟩
                have e2 : sY n g e.to d used ar = sY n g e.to d used (ar.take (j + 1)) ++ sY n g e.to d used (ar.drop (j + 1)) := by
                  unfold sY
                  rw [← jX, ← List.filter_append, List.take_append_drop]
                rw [jX, hpre.h, e2, htk.h, if_pos hq]
                rfl
      · rw [show SF at_ e = e.to by simp [SF, hto]] at m98
        gi_wp2_with (
          refine ⟨trivial, ?_⟩; gi_at_call 98; refine (callsIn_wide.2 m98).mono ?_; rintro e' w2 ⟨vk, H3, rfl, c2, r3⟩
          simp only [nt, qp, qJ] at r3
          obtain ⟨_, rfl, _, _, rfl, ⟨us2, rfl, hus2⟩, _, _, rfl, rfl, rfl⟩ := r3
          obtain ⟨l4, k4, v4, rfl⟩ := Vo hus2)
        have iB := (i3.calm c2).new (.cells (NV.cells ⟨nd.id, l4, k4, v4⟩) 96) rfl
        have eB : (w2.alloc (.cells (NV.cells ⟨nd.id, l4, k4, v4⟩) 96)).heap[wr.heap.size]? = some (.cells (vQ e.id e.from_ e.to ⟨e.type_.toArray⟩ k3 v3) 56) := (heap_alloc_old w2 _ (Nat.lt_of_lt_of_le (by simp) c2.keep.size)).trans ((c2.keep.block _ (by simp) id).trans e3)
        have nB : (w2.alloc (.cells (NV.cells ⟨nd.id, l4, k4, v4⟩) 96)).heap[w2.heap.size]? = some (.cells (NV.cells ⟨nd.id, l4, k4, v4⟩) 96) := World.alloc_heap_new w2 _
        obtain ⟨s5, a5, d5⟩ := hZ3.h _ _ ((i3.calm c2).below (W' := w2.alloc (.cells (NV.cells ⟨nd.id, l4, k4, v4⟩) 96)) ((Below.refl _ w2).alloc (jv _) _))
        obtain ⟨bn5, bv5, bf5, mb5, _⟩ := iB.md
        obtain ⟨D5, o5, u5⟩ := iB.mp
        generalize hwB : w2.alloc (.cells (NV.cells ⟨nd.id, l4, k4, v4⟩) 96) = wB at iB eB nB s5 a5 d5 mb5 o5 ⊢
        have gB : Below wr.heap.size wr wB := by
          rw [← hwB]
          exact (((Below.refl _ wr).alloc (jv _) _).trans (c2.below.mono (by simp))).trans (((Below.refl _ w2).alloc (jv _) _).mono (Nat.le_trans (by simp) c2.keep.size))
        have iZ := (i3.calm c2).below (W' := wB) (by rw [← hwB]; exact (Below.refl _ w2).alloc (jv _) _)
        obtain ⟨S, hSe⟩ : ∃ S : World -> Prop, S = fun w' => Below wB.heap.size wB w' := ⟨_, rfl⟩
        have hS : S wB.drew := by rw [hSe]; exact ⟨rfl, rfl, rfl, jv _, fun _ _ => rfl⟩
        have hC : ∀ w', S w' -> w'.cell? ⟨Bs, 0, none⟩ = some (.pointer (some ⟨K.sb, 0, none⟩)) /\ w'.cell? ⟨K.sb, 4, none⟩ = some (.map (some K.mb)) /\ w'.cell? ⟨wr.heap.size, 0, none⟩ = some (.int .i64 e.id) /\ w'.cell? ⟨wr.heap.size, 1, none⟩ = some (.int .i64 e.from_) /\ w'.cell? ⟨wr.heap.size, 2, none⟩ = some (.int .i64 e.to) /\ w'.cell? ⟨wr.heap.size, 3, none⟩ = some (.string ⟨e.type_.toArray⟩) /\
            w'.cell? ⟨wr.heap.size, 4, none⟩ = some (.slice k3.1 k3.2.1 k3.2.2) /\ w'.cell? ⟨wr.heap.size, 5, none⟩ = some (.slice v3.1 v3.2.1 v3.2.2) /\ w'.cell? ⟨Bd, 0, none⟩ = some (.string ⟨d.edge.name.toArray⟩) /\ w'.cell? ⟨Bd, 1, none⟩ = some (.slice l1.1 l1.2.1 l1.2.2) /\ w'.cell? ⟨Bd, 2, none⟩ = some (.slice k1.1 k1.2.1 k1.2.2) /\ w'.cell? ⟨Bd, 3, none⟩ = some (.slice v1.1 v1.2.1 v1.2.2) /\
            w'.cell? ⟨Bd, 6, none⟩ = some (.string ⟨d.node.name.toArray⟩) /\ w'.cell? ⟨Bd, 7, none⟩ = some (.slice l2.1 l2.2.1 l2.2.2) /\ w'.cell? ⟨Bd, 8, none⟩ = some (.slice k2.1 k2.2.1 k2.2.2) /\ w'.cell? ⟨Bd, 9, none⟩ = some (.slice v2.1 v2.2.1 v2.2.2) /\
            w'.cell? ⟨w2.heap.size, 0, none⟩ = some (.int .i64 nd.id) /\ w'.cell? ⟨w2.heap.size, 1, none⟩ = some (.slice l4.1 l4.2.1 l4.2.2) /\ w'.cell? ⟨w2.heap.size, 2, none⟩ = some (.slice k4.1 k4.2.1 k4.2.2) /\ w'.cell? ⟨w2.heap.size, 3, none⟩ = some (.slice v4.1 v4.2.1 v4.2.2) /\
            (Instr.lookup 115 (.map (some K.mb)) (.int .i64 e.id) false).run Tryz.prog w' = .ok (.int .i64 (if e.id ∈ used then 1 else 0)) w' := fun w' hw => by
          rw [hSe] at hw
          have cc : ∀ {b i : Nat} {v : Value}, wB.cell? ⟨b, i, none⟩ = some v -> w'.cell? ⟨b, i, none⟩ = some v := fun {b i v} hv => (World.cell?_of_block (w := wB) (a := ⟨b, i, none⟩) (hw.block b (gQ hv))).trans hv
          refine ⟨cc (qc s5 0 rfl), cc (qc mb5 4 rfl), cc (qc eB 0 rfl), cc (qc eB 1 rfl), cc (qc eB 2 rfl), cc (qc eB 3 rfl), cc (qc eB 4 rfl), cc (qc eB 5 rfl), cc (qc d5 0 rfl), cc (qc d5 1 rfl), cc (qc d5 2 rfl), cc (qc d5 3 rfl), cc (qc d5 6 rfl), cc (qc d5 7 rfl), cc (qc d5 8 rfl), cc (qc d5 9 rfl), cc (qc nB 0 rfl), cc (qc nB 1 rfl), cc (qc nB 2 rfl), cc (qc nB 3 rfl), ?_⟩
          obtain ⟨es, clock, hbm, _⟩ := id o5
          obtain ⟨c, hrun, hat, _⟩ := (dQ o5 (hw.block K.mb (jH.1 hbm).1)).lookup_int (Maps.int_keyed Tryz.underlying2) Tryz.underlying115 Tryz.underlying3 (PF _) (Maps.keyOf_int_mk Tryz.underlying2 hwf)
          rw [u5.1 e.id] at hat
          simp only [DataW.lit.injEq, Lit.int.injEq, true_and] at hat
          rw [hrun, ← hat]
        refine zH S 27 (by kernel_rfl) ?_
        simp only [jL, ja, jc, Nat.reduceAdd, Array.replicate_succ, Array.replicate_zero, List.push_toArray, jt, List.cons_append]
        replace s5 := Hd.mk s5; replace a5 := Hd.mk a5; replace d5 := Hd.mk d5; replace mb5 := Hd.mk mb5; replace o5 := Hd.mk o5; replace eB := Hd.mk eB; replace nB := Hd.mk nB; replace s3 := Hd.mk s3; replace a3 := Hd.mk a3; replace d3 := Hd.mk d3; replace g0 := Hd.mk g0; replace g1 := Hd.mk g1; replace g2 := Hd.mk g2; replace g3 := Hd.mk g3; replace g4 := Hd.mk g4; replace g5 := Hd.mk g5; replace f0 := Hd.mk f0; replace f1 := Hd.mk f1; replace f2 := Hd.mk f2; replace f3 := Hd.mk f3; replace f4 := Hd.mk f4; replace f5 := Hd.mk f5; replace e3 := Hd.mk e3; replace mb3 := Hd.mk mb3; replace hwB := Hd.mk hwB
        refine qO (i := 0) (v := .pointer (some ⟨K.sb, 0, none⟩)) [1, 2, 3, 6, 7, 8, 9, 10, 15, 16, 17, 18, 19, 21, 22, 23, 24, 27] (by kernel_rfl) rfl (by kernel_rfl) (by kernel_rfl) (by kernel_rfl) (fun _ _ _ h => h) (by kernel_rfl) (by kernel_rfl) (by kernel_rfl) (by decide) ⟨Or.inl ⟨by rfl, ?_⟩, fun _ => rfl⟩ hS ?_
        · intro w hw; have hc := hC w hw; clear hC hY; go_split_ands; go_simp
        try simp only [Act.put, List.setIfInBounds_toArray, List.set_cons_zero, List.set_cons_succ]
        refine qe (i := 1) (v := .pointer (some ⟨K.sb, 0, none⟩)) (by kernel_rfl) rfl (by kernel_rfl) (by kernel_rfl) (by kernel_rfl) (fun _ _ _ h => h) (by decide) ⟨Or.inl ⟨by rfl, ?_⟩, fun _ => rfl⟩ (fun _ => hS) ?_
        · clear hC hY; intro w _; go_simp
        try simp only [Act.put, List.setIfInBounds_toArray, List.set_cons_zero, List.set_cons_succ]
        refine qe (i := 2) (v := .pointer (some ⟨K.sb, 4, none⟩)) (by kernel_rfl) rfl (by kernel_rfl) (by kernel_rfl) (by kernel_rfl) (fun _ _ _ h => h) (by decide) ⟨Or.inl ⟨by rfl, ?_⟩, fun _ => rfl⟩ (fun _ => hS) ?_
        · clear hC hY; intro w _; go_simp
        try simp only [Act.put, List.setIfInBounds_toArray, List.set_cons_zero, List.set_cons_succ]
        refine qO (i := 3) (v := .map (some K.mb)) [6, 7, 8, 9, 10, 15, 16, 17, 18, 19, 21, 22, 23, 24, 27] (by kernel_rfl) rfl (by kernel_rfl) (by kernel_rfl) (by kernel_rfl) (fun _ _ _ h => h) (by kernel_rfl) (by kernel_rfl) (by kernel_rfl) (by decide) ⟨Or.inl ⟨by rfl, ?_⟩, fun _ => rfl⟩ hS ?_
        · intro w hw; have hc := hC w hw; clear hC hY; go_split_ands; go_simp
        try simp only [Act.put, List.setIfInBounds_toArray, List.set_cons_zero, List.set_cons_succ]
        refine qe (i := 4) (v := .pointer (some ⟨wr.heap.size, 0, none⟩)) (by kernel_rfl) rfl (by kernel_rfl) (by kernel_rfl) (by kernel_rfl) (fun _ _ _ h => h) (by decide) ⟨Or.inl ⟨by rfl, ?_⟩, fun _ => rfl⟩ (fun _ => hS) ?_
        · clear hC hY; intro w _; go_simp
        try simp only [Act.put, List.setIfInBounds_toArray, List.set_cons_zero, List.set_cons_succ]
        refine qO (i := 5) (v := .int .i64 e.id) [6, 7, 8, 9, 10, 15, 16, 17, 18, 19, 21, 22, 23, 24, 27] (by kernel_rfl) rfl (by kernel_rfl) (by kernel_rfl) (by kernel_rfl) (fun _ _ _ h => h) (by kernel_rfl) (by kernel_rfl) (by kernel_rfl) (by decide) ⟨Or.inl ⟨by rfl, ?_⟩, fun _ => rfl⟩ hS ?_
        · intro w hw; have hc := hC w hw; clear hC hY; go_split_ands; go_simp
        try simp only [Act.put, List.setIfInBounds_toArray, List.set_cons_zero, List.set_cons_succ]
        by_cases hmem : e.id ∈ used
        · have hq : bP n g at_ d used e = false := by simp [bP, hmem]
          simp only [hmem, if_true] at hC
          refine qO (i := 6) (v := .int .i64 1) [7, 8, 9, 10, 15, 16, 17, 18, 19, 21, 22, 23, 24, 27] (by kernel_rfl) rfl (by kernel_rfl) (by kernel_rfl) (by kernel_rfl) (fun _ _ _ h => h) (by kernel_rfl) (by kernel_rfl) (by kernel_rfl) (by decide) ⟨Or.inl ⟨by rfl, ?_⟩, fun _ => rfl⟩ hS ?_
          · intro w hw; have hc := hC w hw; clear hC hY; go_split_ands; go_simp
          try simp only [Act.put, List.setIfInBounds_toArray, List.set_cons_zero, List.set_cons_succ]
          refine qe (i := 7) (v := .bool false) (by kernel_rfl) rfl (by kernel_rfl) (by kernel_rfl) (by kernel_rfl) (fun _ _ _ h => h) (by decide) ⟨Or.inl ⟨by rfl, ?_⟩, fun _ => rfl⟩ (fun _ => hS) ?_
          · clear hC hY; intro w _; go_simp
          try simp only [Act.put, List.setIfInBounds_toArray, List.set_cons_zero, List.set_cons_succ]
          refine qe (i := 8) (v := .bool false) (by kernel_rfl) rfl (by kernel_rfl) (by kernel_rfl) (by kernel_rfl) (fun _ _ _ h => h) (by decide) ⟨Or.inl ⟨by rfl, ?_⟩, fun _ => rfl⟩ (fun _ => hS) ?_
          · clear hC hY; intro w _; go_simp
          try simp only [Act.put, List.setIfInBounds_toArray, List.set_cons_zero, List.set_cons_succ]
          refine qe (i := 9) (v := undef) (by kernel_rfl) rfl (by kernel_rfl) (by kernel_rfl) (by kernel_rfl) (fun _ _ _ h => h) (by decide) ⟨Or.inr ⟨by rfl, rfl⟩, fun _ => rfl⟩ (fun _ => hS) ?_
          try simp only [Act.put, List.setIfInBounds_toArray, List.set_cons_zero, List.set_cons_succ]
          refine qe (i := 10) (v := undef) (by kernel_rfl) rfl (by kernel_rfl) (by kernel_rfl) (by kernel_rfl) (fun _ _ _ h => h) (by decide) ⟨Or.inr ⟨by rfl, rfl⟩, fun _ => rfl⟩ (fun _ => hS) ?_
          try simp only [Act.put, List.setIfInBounds_toArray, List.set_cons_zero, List.set_cons_succ]
          refine qe (i := 11) (v := undef) (by kernel_rfl) rfl (by kernel_rfl) (by kernel_rfl) (by kernel_rfl) (fun _ _ _ h => h) (by decide) ⟨Or.inr ⟨by rfl, rfl⟩, fun _ => rfl⟩ (fun _ => hS) ?_
          try simp only [Act.put, List.setIfInBounds_toArray, List.set_cons_zero, List.set_cons_succ]
          refine qe (i := 12) (v := undef) (by kernel_rfl) rfl (by kernel_rfl) (by kernel_rfl) (by kernel_rfl) (fun _ _ _ h => h) (by decide) ⟨Or.inr ⟨by rfl, rfl⟩, fun _ => rfl⟩ (fun _ => hS) ?_
          try simp only [Act.put, List.setIfInBounds_toArray, List.set_cons_zero, List.set_cons_succ]
          refine qe (i := 13) (v := undef) (by kernel_rfl) rfl (by kernel_rfl) (by kernel_rfl) (by kernel_rfl) (fun _ _ _ h => h) (by decide) ⟨Or.inr ⟨by rfl, rfl⟩, fun _ => rfl⟩ (fun _ => hS) ?_
          try simp only [Act.put, List.setIfInBounds_toArray, List.set_cons_zero, List.set_cons_succ]
          refine qe (i := 14) (v := undef) (by kernel_rfl) rfl (by kernel_rfl) (by kernel_rfl) (by kernel_rfl) (fun _ _ _ h => h) (by decide) ⟨Or.inr ⟨by rfl, rfl⟩, fun _ => rfl⟩ (fun _ => hS) ?_
          try simp only [Act.put, List.setIfInBounds_toArray, List.set_cons_zero, List.set_cons_succ]
          refine rM (i := 15) (by kernel_rfl) rfl (by rfl) (fun _ => trivial) (fun _ => hS) ?_
          try simp only [Act.put, List.setIfInBounds_toArray, List.set_cons_zero, List.set_cons_succ]
          refine qe (i := 16) (v := .bool false) (by kernel_rfl) rfl (by kernel_rfl) (by kernel_rfl) (by kernel_rfl) (fun _ _ _ h => h) (by decide) ⟨Or.inl ⟨by rfl, ?_⟩, fun _ => rfl⟩ (fun _ => hS) ?_
          · clear hC hY; intro w _; go_simp
          try simp only [Act.put, List.setIfInBounds_toArray, List.set_cons_zero, List.set_cons_succ]
          refine qe (i := 17) (v := .bool false) (by kernel_rfl) rfl (by kernel_rfl) (by kernel_rfl) (by kernel_rfl) (fun _ _ _ h => h) (by decide) ⟨Or.inl ⟨by rfl, ?_⟩, fun _ => rfl⟩ (fun _ => hS) ?_
          · clear hC hY; intro w _; go_simp
          try simp only [Act.put, List.setIfInBounds_toArray, List.set_cons_zero, List.set_cons_succ]
          refine qe (i := 18) (v := undef) (by kernel_rfl) rfl (by kernel_rfl) (by kernel_rfl) (by kernel_rfl) (fun _ _ _ h => h) (by decide) ⟨Or.inr ⟨by rfl, rfl⟩, fun _ => rfl⟩ (fun _ => hS) ?_
          try simp only [Act.put, List.setIfInBounds_toArray, List.set_cons_zero, List.set_cons_succ]
          refine qe (i := 19) (v := undef) (by kernel_rfl) rfl (by kernel_rfl) (by kernel_rfl) (by kernel_rfl) (fun _ _ _ h => h) (by decide) ⟨Or.inr ⟨by rfl, rfl⟩, fun _ => rfl⟩ (fun _ => hS) ?_
          try simp only [Act.put, List.setIfInBounds_toArray, List.set_cons_zero, List.set_cons_succ]
          refine qe (i := 20) (v := undef) (by kernel_rfl) rfl (by kernel_rfl) (by kernel_rfl) (by kernel_rfl) (fun _ _ _ h => h) (by decide) ⟨Or.inr ⟨by rfl, rfl⟩, fun _ => rfl⟩ (fun _ => hS) ?_
          try simp only [Act.put, List.setIfInBounds_toArray, List.set_cons_zero, List.set_cons_succ]
          refine rM (i := 21) (by kernel_rfl) rfl (by rfl) (fun _ => trivial) (fun _ => hS) ?_
          try simp only [Act.put, List.setIfInBounds_toArray, List.set_cons_zero, List.set_cons_succ]
          refine qe (i := 22) (v := .bool false) (by kernel_rfl) rfl (by kernel_rfl) (by kernel_rfl) (by kernel_rfl) (fun _ _ _ h => h) (by decide) ⟨Or.inl ⟨by rfl, ?_⟩, fun _ => rfl⟩ (fun _ => hS) ?_
          · clear hC hY; intro w _; go_simp
          try simp only [Act.put, List.setIfInBounds_toArray, List.set_cons_zero, List.set_cons_succ]
          refine qe (i := 23) (v := .bool false) (by kernel_rfl) rfl (by kernel_rfl) (by kernel_rfl) (by kernel_rfl) (fun _ _ _ h => h) (by decide) ⟨Or.inl ⟨by rfl, ?_⟩, fun _ => rfl⟩ (fun _ => hS) ?_
          · clear hC hY; intro w _; go_simp
          try simp only [Act.put, List.setIfInBounds_toArray, List.set_cons_zero, List.set_cons_succ]
          refine qe (i := 24) (v := undef) (by kernel_rfl) rfl (by kernel_rfl) (by kernel_rfl) (by kernel_rfl) (fun _ _ _ h => h) (by decide) ⟨Or.inr ⟨by rfl, rfl⟩, fun _ => rfl⟩ (fun _ => hS) ?_
          try simp only [Act.put, List.setIfInBounds_toArray, List.set_cons_zero, List.set_cons_succ]
          refine qe (i := 25) (v := undef) (by kernel_rfl) rfl (by kernel_rfl) (by kernel_rfl) (by kernel_rfl) (fun _ _ _ h => h) (by decide) ⟨Or.inr ⟨by rfl, rfl⟩, fun _ => rfl⟩ (fun _ => hS) ?_
          try simp only [Act.put, List.setIfInBounds_toArray, List.set_cons_zero, List.set_cons_succ]
          refine qe (i := 26) (v := undef) (by kernel_rfl) rfl (by kernel_rfl) (by kernel_rfl) (by kernel_rfl) (fun _ _ _ h => h) (by decide) ⟨Or.inr ⟨by rfl, rfl⟩, fun _ => rfl⟩ (fun _ => hS) ?_
          try simp only [Act.put, List.setIfInBounds_toArray, List.set_cons_zero, List.set_cons_succ]
          refine rM (i := 27) (by kernel_rfl) rfl (by rfl) (fun _ => trivial) (fun e => absurd e (by decide)) ?_
          try simp only [Act.put, List.setIfInBounds_toArray, List.set_cons_zero, List.set_cons_succ]
          refine qe (i := 28) (v := undef) (by kernel_rfl) rfl (by kernel_rfl) (by kernel_rfl) (by kernel_rfl) (fun _ _ _ h => h) (by decide) ⟨Or.inr ⟨by rfl, rfl⟩, fun _ => rfl⟩ (fun e => absurd e (by decide)) ?_
          try simp only [Act.put, List.setIfInBounds_toArray, List.set_cons_zero, List.set_cons_succ]
          refine qe (i := 29) (v := .bool false) (by kernel_rfl) rfl (by kernel_rfl) (by kernel_rfl) (by kernel_rfl) (fun _ _ _ h => h) (by decide) ⟨Or.inl ⟨by rfl, ?_⟩, fun _ => rfl⟩ (fun e => absurd e (by decide)) ?_
          · clear hC hY; intro w _; go_simp
          try simp only [Act.put, List.setIfInBounds_toArray, List.set_cons_zero, List.set_cons_succ]
          refine vB (by kernel_rfl) ?_ _
          gi_wp2
          go_roundw
          case rel => exact ⟨j + 1, pre, H3, by congr 1 <;> omega, hlt, (le2.trans c2.le), (r2.h.mono c2.le), iZ.below (W' := wB.drew) ⟨rfl, rfl, rfl, jv _, fun _ _ => rfl⟩, by rw [htk.h, hq, hpre.h]; simp, hJ.h pre wr wB.drew none hJ2 (zP (gB.trans ⟨rfl, rfl, rfl, jv _, fun _ _ => rfl⟩)) (fun r e => by cases e)⟩
          case measure => simp [intOf]; omega
        · simp only [hmem, if_false] at hC
          refine qO (i := 6) (v := .int .i64 0) [7, 8, 9, 10, 15, 16, 17, 18, 19, 21, 22, 23, 24, 27] (by kernel_rfl) rfl (by kernel_rfl) (by kernel_rfl) (by kernel_rfl) (fun _ _ _ h => h) (by kernel_rfl) (by kernel_rfl) (by kernel_rfl) (by decide) ⟨Or.inl ⟨by rfl, ?_⟩, fun _ => rfl⟩ hS ?_
          · intro w hw; have hc := hC w hw; clear hC hY; go_split_ands; go_simp
          try simp only [Act.put, List.setIfInBounds_toArray, List.set_cons_zero, List.set_cons_succ]
          refine qe (i := 7) (v := .bool true) (by kernel_rfl) rfl (by kernel_rfl) (by kernel_rfl) (by kernel_rfl) (fun _ _ _ h => h) (by decide) ⟨Or.inl ⟨by rfl, ?_⟩, fun _ => rfl⟩ (fun _ => hS) ?_
          · clear hC hY; intro w _; go_simp
          try simp only [Act.put, List.setIfInBounds_toArray, List.set_cons_zero, List.set_cons_succ]
          refine qe (i := 8) (v := .bool true) (by kernel_rfl) rfl (by kernel_rfl) (by kernel_rfl) (by kernel_rfl) (fun _ _ _ h => h) (by decide) ⟨Or.inl ⟨by rfl, ?_⟩, fun _ => rfl⟩ (fun _ => hS) ?_
          · clear hC hY; intro w _; go_simp
          try simp only [Act.put, List.setIfInBounds_toArray, List.set_cons_zero, List.set_cons_succ]
          refine qe (i := 9) (v := .pointer (some ⟨Bd, 0, none⟩)) (by kernel_rfl) rfl (by kernel_rfl) (by kernel_rfl) (by kernel_rfl) (fun _ _ _ h => h) (by decide) ⟨Or.inl ⟨by rfl, ?_⟩, fun _ => rfl⟩ (fun _ => hS) ?_
          · clear hC hY; intro w _; go_simp
          try simp only [Act.put, List.setIfInBounds_toArray, List.set_cons_zero, List.set_cons_succ]
          refine qO (i := 10) (v := .agg #[.string ⟨d.edge.name.toArray⟩, .slice l1.1 l1.2.1 l1.2.2, .slice k1.1 k1.2.1 k1.2.2, .slice v1.1 v1.2.1 v1.2.2]) [15, 16, 17, 18, 19, 21, 22, 23, 24, 27] (by kernel_rfl) rfl (by kernel_rfl) (by kernel_rfl) (by kernel_rfl) (fun _ _ _ h => h) (by kernel_rfl) (by kernel_rfl) (by kernel_rfl) (by decide) ⟨Or.inl ⟨by rfl, ?_⟩, fun _ => rfl⟩ hS ?_
          · intro w hw; have hc := hC w hw; clear hC hY; go_split_ands; go_simp
          try simp only [Act.put, List.setIfInBounds_toArray, List.set_cons_zero, List.set_cons_succ]
          refine qe (i := 11) (v := .pointer (some ⟨wr.heap.size, 4, none⟩)) (by kernel_rfl) rfl (by kernel_rfl) (by kernel_rfl) (by kernel_rfl) (fun _ _ _ h => h) (by decide) ⟨Or.inl ⟨by rfl, ?_⟩, fun _ => rfl⟩ (fun _ => hS) ?_
          · clear hC hY; intro w _; go_simp
          try simp only [Act.put, List.setIfInBounds_toArray, List.set_cons_zero, List.set_cons_succ]
          refine qO (i := 12) (v := .slice k3.1 k3.2.1 k3.2.2) [15, 16, 17, 18, 19, 21, 22, 23, 24, 27] (by kernel_rfl) rfl (by kernel_rfl) (by kernel_rfl) (by kernel_rfl) (fun _ _ _ h => h) (by kernel_rfl) (by kernel_rfl) (by kernel_rfl) (by decide) ⟨Or.inl ⟨by rfl, ?_⟩, fun _ => rfl⟩ hS ?_
          · intro w hw; have hc := hC w hw; clear hC hY; go_split_ands; go_simp
          try simp only [Act.put, List.setIfInBounds_toArray, List.set_cons_zero, List.set_cons_succ]
          refine qe (i := 13) (v := .pointer (some ⟨wr.heap.size, 5, none⟩)) (by kernel_rfl) rfl (by kernel_rfl) (by kernel_rfl) (by kernel_rfl) (fun _ _ _ h => h) (by decide) ⟨Or.inl ⟨by rfl, ?_⟩, fun _ => rfl⟩ (fun _ => hS) ?_
          · clear hC hY; intro w _; go_simp
          try simp only [Act.put, List.setIfInBounds_toArray, List.set_cons_zero, List.set_cons_succ]
          refine qO (i := 14) (v := .slice v3.1 v3.2.1 v3.2.2) [15, 16, 17, 18, 19, 21, 22, 23, 24, 27] (by kernel_rfl) rfl (by kernel_rfl) (by kernel_rfl) (by kernel_rfl) (fun _ _ _ h => h) (by kernel_rfl) (by kernel_rfl) (by kernel_rfl) (by decide) ⟨Or.inl ⟨by rfl, ?_⟩, fun _ => rfl⟩ hS ?_
          · intro w hw; have hc := hC w hw; clear hC hY; go_split_ands; go_simp
          try simp only [Act.put, List.setIfInBounds_toArray, List.set_cons_zero, List.set_cons_succ]
          have iD := iZ.below (W' := wB.drew) ⟨rfl, rfl, rfl, jv _, fun _ _ => rfl⟩
          have gD : Below wr.heap.size wr wB.drew := gB.trans ⟨rfl, rfl, rfl, jv _, fun _ _ => rfl⟩
          have m138 := (uB n _ _ _ _ hb1).calls (fun _ _ => Tryz.call138 _ _) iD.sat (vs := [.agg #[.string ⟨d.edge.name.toArray⟩, .slice l1.1 l1.2.1 l1.2.2, .slice k1.1 k1.2.1 k1.2.2, .slice v1.1 v1.2.1 v1.2.2], .slice k3.1 k3.2.1 k3.2.2, .slice v3.1 v3.2.1 v3.2.2]) (by simp only [qJ]; exact ⟨_, _, rfl, fN (hr1.h.mono (le2.trans c2.le)), _, _, rfl, (GV hus.h).1.mono c2.le, _, _, rfl, (GV hus.h).2.mono c2.le, rfl⟩)
          refine um (i := 15) (by kernel_rfl) rfl fun Kk hKk => ?_
          refine dA (f := 138) (lb := #[]) rfl rfl (.inr (by rfl)) ?hv ?ha (fun _ _ => Tryz.call138 _ _) trivial (callsIn_wide.2 m138) ?_
          case hv => rfl
          case ha => clear hC hY m138; go_simp
          rintro e' w3 ⟨vr, H4, rfl, c3, r4⟩
          simp only [uY, qp] at r4
          subst r4
          have hS3 : S w3 := by
            rw [hSe] at hS ⊢
            exact hS.trans (c3.below.mono hS.size)
          have g3 : Below wr.heap.size wr w3 := gD.trans (c3.below.mono gD.size)
          have iE := iD.calm c3
          refine ⟨_, rfl, hKk _ _ (fun _ => hS3) ?_⟩
          try simp only [Act.put, List.setIfInBounds_toArray, List.set_cons_zero, List.set_cons_succ]
          clear hKk m138
          cases b1 with
          | false =>
            have hq : bP n g at_ d used e = false := by simp [bP, hmem, hpe]
            refine qe (i := 16) (v := .bool false) (by kernel_rfl) rfl (by kernel_rfl) (by kernel_rfl) (by kernel_rfl) (fun _ _ _ h => h) (by decide) ⟨Or.inl ⟨by rfl, ?_⟩, fun _ => rfl⟩ (fun _ => hS3) ?_
            · clear hC hY; intro w _; go_simp
            try simp only [Act.put, List.setIfInBounds_toArray, List.set_cons_zero, List.set_cons_succ]
            refine qe (i := 17) (v := .bool false) (by kernel_rfl) rfl (by kernel_rfl) (by kernel_rfl) (by kernel_rfl) (fun _ _ _ h => h) (by decide) ⟨Or.inl ⟨by rfl, ?_⟩, fun _ => rfl⟩ (fun _ => hS3) ?_
            · clear hC hY; intro w _; go_simp
            try simp only [Act.put, List.setIfInBounds_toArray, List.set_cons_zero, List.set_cons_succ]
            refine qe (i := 18) (v := undef) (by kernel_rfl) rfl (by kernel_rfl) (by kernel_rfl) (by kernel_rfl) (fun _ _ _ h => h) (by decide) ⟨Or.inr ⟨by rfl, rfl⟩, fun _ => rfl⟩ (fun _ => hS3) ?_
            try simp only [Act.put, List.setIfInBounds_toArray, List.set_cons_zero, List.set_cons_succ]
            refine qe (i := 19) (v := undef) (by kernel_rfl) rfl (by kernel_rfl) (by kernel_rfl) (by kernel_rfl) (fun _ _ _ h => h) (by decide) ⟨Or.inr ⟨by rfl, rfl⟩, fun _ => rfl⟩ (fun _ => hS3) ?_
            try simp only [Act.put, List.setIfInBounds_toArray, List.set_cons_zero, List.set_cons_succ]
            refine qe (i := 20) (v := undef) (by kernel_rfl) rfl (by kernel_rfl) (by kernel_rfl) (by kernel_rfl) (fun _ _ _ h => h) (by decide) ⟨Or.inr ⟨by rfl, rfl⟩, fun _ => rfl⟩ (fun _ => hS3) ?_
            try simp only [Act.put, List.setIfInBounds_toArray, List.set_cons_zero, List.set_cons_succ]
            refine rM (i := 21) (by kernel_rfl) rfl (by rfl) (fun _ => trivial) (fun _ => hS3) ?_
            try simp only [Act.put, List.setIfInBounds_toArray, List.set_cons_zero, List.set_cons_succ]
            refine qe (i := 22) (v := .bool false) (by kernel_rfl) rfl (by kernel_rfl) (by kernel_rfl) (by kernel_rfl) (fun _ _ _ h => h) (by decide) ⟨Or.inl ⟨by rfl, ?_⟩, fun _ => rfl⟩ (fun _ => hS3) ?_
            · clear hC hY; intro w _; go_simp
            try simp only [Act.put, List.setIfInBounds_toArray, List.set_cons_zero, List.set_cons_succ]
            refine qe (i := 23) (v := .bool false) (by kernel_rfl) rfl (by kernel_rfl) (by kernel_rfl) (by kernel_rfl) (fun _ _ _ h => h) (by decide) ⟨Or.inl ⟨by rfl, ?_⟩, fun _ => rfl⟩ (fun _ => hS3) ?_
            · clear hC hY; intro w _; go_simp
            try simp only [Act.put, List.setIfInBounds_toArray, List.set_cons_zero, List.set_cons_succ]
            refine qe (i := 24) (v := undef) (by kernel_rfl) rfl (by kernel_rfl) (by kernel_rfl) (by kernel_rfl) (fun _ _ _ h => h) (by decide) ⟨Or.inr ⟨by rfl, rfl⟩, fun _ => rfl⟩ (fun _ => hS3) ?_
            try simp only [Act.put, List.setIfInBounds_toArray, List.set_cons_zero, List.set_cons_succ]
            refine qe (i := 25) (v := undef) (by kernel_rfl) rfl (by kernel_rfl) (by kernel_rfl) (by kernel_rfl) (fun _ _ _ h => h) (by decide) ⟨Or.inr ⟨by rfl, rfl⟩, fun _ => rfl⟩ (fun _ => hS3) ?_
            try simp only [Act.put, List.setIfInBounds_toArray, List.set_cons_zero, List.set_cons_succ]
            refine qe (i := 26) (v := undef) (by kernel_rfl) rfl (by kernel_rfl) (by kernel_rfl) (by kernel_rfl) (fun _ _ _ h => h) (by decide) ⟨Or.inr ⟨by rfl, rfl⟩, fun _ => rfl⟩ (fun _ => hS3) ?_
            try simp only [Act.put, List.setIfInBounds_toArray, List.set_cons_zero, List.set_cons_succ]
            refine rM (i := 27) (by kernel_rfl) rfl (by rfl) (fun _ => trivial) (fun e => absurd e (by decide)) ?_
            try simp only [Act.put, List.setIfInBounds_toArray, List.set_cons_zero, List.set_cons_succ]
            refine qe (i := 28) (v := undef) (by kernel_rfl) rfl (by kernel_rfl) (by kernel_rfl) (by kernel_rfl) (fun _ _ _ h => h) (by decide) ⟨Or.inr ⟨by rfl, rfl⟩, fun _ => rfl⟩ (fun e => absurd e (by decide)) ?_
            try simp only [Act.put, List.setIfInBounds_toArray, List.set_cons_zero, List.set_cons_succ]
            refine qe (i := 29) (v := .bool false) (by kernel_rfl) rfl (by kernel_rfl) (by kernel_rfl) (by kernel_rfl) (fun _ _ _ h => h) (by decide) ⟨Or.inl ⟨by rfl, ?_⟩, fun _ => rfl⟩ (fun e => absurd e (by decide)) ?_
            · clear hC hY; intro w _; go_simp
            try simp only [Act.put, List.setIfInBounds_toArray, List.set_cons_zero, List.set_cons_succ]
            refine vB (by kernel_rfl) ?_ _
            gi_wp2
            go_roundw
            case rel => exact ⟨j + 1, pre, H4, by congr 1 <;> omega, hlt, (le2.trans (c2.le.trans c3.le)), (r2.h.mono (c2.le.trans c3.le)), iE, by rw [htk.h, hq, hpre.h]; simp, hJ.h pre wr w3 none hJ2 (zP g3) (fun r e => by cases e)⟩
            case measure => simp [intOf]; omega
          | true =>
            refine qe (i := 16) (v := .bool true) (by kernel_rfl) rfl (by kernel_rfl) (by kernel_rfl) (by kernel_rfl) (fun _ _ _ h => h) (by decide) ⟨Or.inl ⟨by rfl, ?_⟩, fun _ => rfl⟩ (fun _ => hS3) ?_
            · clear hC hY; intro w _; go_simp
            try simp only [Act.put, List.setIfInBounds_toArray, List.set_cons_zero, List.set_cons_succ]
            refine qe (i := 17) (v := .bool true) (by kernel_rfl) rfl (by kernel_rfl) (by kernel_rfl) (by kernel_rfl) (fun _ _ _ h => h) (by decide) ⟨Or.inl ⟨by rfl, ?_⟩, fun _ => rfl⟩ (fun _ => hS3) ?_
            · clear hC hY; intro w _; go_simp
            try simp only [Act.put, List.setIfInBounds_toArray, List.set_cons_zero, List.set_cons_succ]
            refine qe (i := 18) (v := .pointer (some ⟨Bd, 6, none⟩)) (by kernel_rfl) rfl (by kernel_rfl) (by kernel_rfl) (by kernel_rfl) (fun _ _ _ h => h) (by decide) ⟨Or.inl ⟨by rfl, ?_⟩, fun _ => rfl⟩ (fun _ => hS3) ?_
            · clear hC hY; intro w _; go_simp
            try simp only [Act.put, List.setIfInBounds_toArray, List.set_cons_zero, List.set_cons_succ]
            refine qO (i := 19) (v := .agg #[.string ⟨d.node.name.toArray⟩, .slice l2.1 l2.2.1 l2.2.2, .slice k2.1 k2.2.1 k2.2.2, .slice v2.1 v2.2.1 v2.2.2]) [21, 22, 23, 24, 27] (by kernel_rfl) rfl (by kernel_rfl) (by kernel_rfl) (by kernel_rfl) (fun _ _ _ h => h) (by kernel_rfl) (by kernel_rfl) (by kernel_rfl) (by decide) ⟨Or.inl ⟨by rfl, ?_⟩, fun _ => rfl⟩ hS3 ?_
            · intro w hw; have hc := hC w hw; clear hC hY; go_split_ands; go_simp
            try simp only [Act.put, List.setIfInBounds_toArray, List.set_cons_zero, List.set_cons_succ]
            refine qO (i := 20) (v := .agg #[.int .i64 nd.id, .slice l4.1 l4.2.1 l4.2.2, .slice k4.1 k4.2.1 k4.2.2, .slice v4.1 v4.2.1 v4.2.2]) [21, 22, 23, 24, 27] (by kernel_rfl) rfl (by kernel_rfl) (by kernel_rfl) (by kernel_rfl) (fun _ _ _ h => h) (by kernel_rfl) (by kernel_rfl) (by kernel_rfl) (by decide) ⟨Or.inl ⟨by rfl, ?_⟩, fun _ => rfl⟩ hS3 ?_
            · intro w hw; have hc := hC w hw; clear hC hY; go_split_ands; go_simp
            try simp only [Act.put, List.setIfInBounds_toArray, List.set_cons_zero, List.set_cons_succ]
            have m99 := (uW n _ _ _ hb2).calls (fun _ _ => Tryz.call99 _ _) iE.sat (vs := [.agg #[.string ⟨d.node.name.toArray⟩, .slice l2.1 l2.2.1 l2.2.2, .slice k2.1 k2.2.1 k2.2.2, .slice v2.1 v2.2.1 v2.2.2], .agg #[.int .i64 nd.id, .slice l4.1 l4.2.1 l4.2.2, .slice k4.1 k4.2.1 k4.2.2, .slice v4.1 v4.2.1 v4.2.2]]) (by simp only [qJ]; exact ⟨_, _, rfl, fN (hr2.h.mono (le2.trans (c2.le.trans c3.le))), _, _, rfl, fN (hus2.mono c3.le), rfl⟩)
            refine um (i := 21) (by kernel_rfl) rfl fun Kk hKk => ?_
            refine dA (f := 99) (lb := #[]) rfl rfl (.inr (by rfl)) ?hv ?ha (fun _ _ => Tryz.call99 _ _) trivial (callsIn_wide.2 m99) ?_
            case hv => rfl
            case ha => clear hC hY m99; go_simp
            rintro e' w4 ⟨vr, H5, rfl, c4, r5⟩
            simp only [xI, qp] at r5
            subst r5
            have hS4 : S w4 := by rw [hSe] at hS3 ⊢; exact hS3.trans (c4.below.mono hS3.size)
            have g4' : Below wr.heap.size wr w4 := g3.trans (c4.below.mono g3.size)
            have iF := iE.calm c4
            have hJ4 := hJ.h pre wr w4 none hJ2 (zP g4') (fun r e => by cases e)
            refine ⟨_, rfl, hKk _ _ (fun _ => hS4) ?_⟩
            try simp only [Act.put, List.setIfInBounds_toArray, List.set_cons_zero, List.set_cons_succ]
            clear hKk m99
            cases b2 with
            | false =>
              have hq : bP n g at_ d used e = false := by simp [bP, hmem, hpe, hwn]
              refine qe (i := 22) (v := .bool false) (by kernel_rfl) rfl (by kernel_rfl) (by kernel_rfl) (by kernel_rfl) (fun _ _ _ h => h) (by decide) ⟨Or.inl ⟨by rfl, ?_⟩, fun _ => rfl⟩ (fun _ => hS4) ?_
              · clear hC hY; intro w _; go_simp
              try simp only [Act.put, List.setIfInBounds_toArray, List.set_cons_zero, List.set_cons_succ]
              refine qe (i := 23) (v := .bool false) (by kernel_rfl) rfl (by kernel_rfl) (by kernel_rfl) (by kernel_rfl) (fun _ _ _ h => h) (by decide) ⟨Or.inl ⟨by rfl, ?_⟩, fun _ => rfl⟩ (fun _ => hS4) ?_
              · clear hC hY; intro w _; go_simp
              try simp only [Act.put, List.setIfInBounds_toArray, List.set_cons_zero, List.set_cons_succ]
              refine qe (i := 24) (v := undef) (by kernel_rfl) rfl (by kernel_rfl) (by kernel_rfl) (by kernel_rfl) (fun _ _ _ h => h) (by decide) ⟨Or.inr ⟨by rfl, rfl⟩, fun _ => rfl⟩ (fun _ => hS4) ?_
              try simp only [Act.put, List.setIfInBounds_toArray, List.set_cons_zero, List.set_cons_succ]
              refine qe (i := 25) (v := undef) (by kernel_rfl) rfl (by kernel_rfl) (by kernel_rfl) (by kernel_rfl) (fun _ _ _ h => h) (by decide) ⟨Or.inr ⟨by rfl, rfl⟩, fun _ => rfl⟩ (fun _ => hS4) ?_
              try simp only [Act.put, List.setIfInBounds_toArray, List.set_cons_zero, List.set_cons_succ]
              refine qe (i := 26) (v := undef) (by kernel_rfl) rfl (by kernel_rfl) (by kernel_rfl) (by kernel_rfl) (fun _ _ _ h => h) (by decide) ⟨Or.inr ⟨by rfl, rfl⟩, fun _ => rfl⟩ (fun _ => hS4) ?_
              try simp only [Act.put, List.setIfInBounds_toArray, List.set_cons_zero, List.set_cons_succ]
              refine rM (i := 27) (by kernel_rfl) rfl (by rfl) (fun _ => trivial) (fun e => absurd e (by decide)) ?_
              try simp only [Act.put, List.setIfInBounds_toArray, List.set_cons_zero, List.set_cons_succ]
              refine qe (i := 28) (v := undef) (by kernel_rfl) rfl (by kernel_rfl) (by kernel_rfl) (by kernel_rfl) (fun _ _ _ h => h) (by decide) ⟨Or.inr ⟨by rfl, rfl⟩, fun _ => rfl⟩ (fun e => absurd e (by decide)) ?_
              try simp only [Act.put, List.setIfInBounds_toArray, List.set_cons_zero, List.set_cons_succ]
              refine qe (i := 29) (v := .bool false) (by kernel_rfl) rfl (by kernel_rfl) (by kernel_rfl) (by kernel_rfl) (fun _ _ _ h => h) (by decide) ⟨Or.inl ⟨by rfl, ?_⟩, fun _ => rfl⟩ (fun e => absurd e (by decide)) ?_
              · clear hC hY; intro w _; go_simp
              try simp only [Act.put, List.setIfInBounds_toArray, List.set_cons_zero, List.set_cons_succ]
              refine vB (by kernel_rfl) ?_ _
              gi_wp2
              go_roundw
              case rel => exact ⟨j + 1, pre, H5, by congr 1 <;> omega, hlt, (le2.trans (c2.le.trans (c3.le.trans c4.le))), (r2.h.mono (c2.le.trans (c3.le.trans c4.le))), iF, by rw [htk.h, hq, hpre.h]; simp, hJ4⟩
              case measure => simp [intOf]; omega
            | true =>
              have hq : bP n g at_ d used e = true := by simp [bP, hmem, hpe, hwn]
              obtain ⟨fn, tmps, assign, body, hy, hR⟩ := hY.h pre ⟨⟨e.id, e.from_, e.to, ⟨e.type_.toArray⟩, k3, v3, ⟨nd.id, l4, k4, v4⟩, hwf⟩, hT.h hq⟩ w4 hJ4 (hlen.h hq)
              simp only [LV, PK, vQ, NV.cells] at hy
              refine qe (i := 22) (v := .bool true) (by kernel_rfl) rfl (by kernel_rfl) (by kernel_rfl) (by kernel_rfl) (fun _ _ _ h => h) (by decide) ⟨Or.inl ⟨by rfl, ?_⟩, fun _ => rfl⟩ (fun _ => hS4) ?_
              · clear hC hY; intro w _; go_simp
              try simp only [Act.put, List.setIfInBounds_toArray, List.set_cons_zero, List.set_cons_succ]
              refine qe (i := 23) (v := .bool true) (by kernel_rfl) rfl (by kernel_rfl) (by kernel_rfl) (by kernel_rfl) (fun _ _ _ h => h) (by decide) ⟨Or.inl ⟨by rfl, ?_⟩, fun _ => rfl⟩ (fun _ => hS4) ?_
              · clear hC hY; intro w _; go_simp
              try simp only [Act.put, List.setIfInBounds_toArray, List.set_cons_zero, List.set_cons_succ]
              refine qe (i := 24) (v := .func (.yield l) #[] #[]) (by kernel_rfl) rfl (by kernel_rfl) (by kernel_rfl) (by kernel_rfl) (fun _ _ _ h => h) (by decide) ⟨Or.inl ⟨by rfl, ?_⟩, fun _ => rfl⟩ (fun _ => hS4) ?_
              · clear hC hY; intro w _; go_simp
              try simp only [Act.put, List.setIfInBounds_toArray, List.set_cons_zero, List.set_cons_succ]
              refine qO (i := 25) (v := .agg (vQ e.id e.from_ e.to ⟨e.type_.toArray⟩ k3 v3)) [27] (by kernel_rfl) rfl (by kernel_rfl) (by kernel_rfl) (by kernel_rfl) (fun _ _ _ h => h) (by kernel_rfl) (by kernel_rfl) (by kernel_rfl) (by decide) ⟨Or.inl ⟨by rfl, ?_⟩, fun _ => rfl⟩ hS4 ?_
              · intro w hw; have hc := hC w hw; clear hC hY; go_split_ands; go_simp
              try simp only [Act.put, List.setIfInBounds_toArray, List.set_cons_zero, List.set_cons_succ]
              refine qO (i := 26) (v := .agg #[.int .i64 nd.id, .slice l4.1 l4.2.1 l4.2.2, .slice k4.1 k4.2.1 k4.2.2, .slice v4.1 v4.2.1 v4.2.2]) [27] (by kernel_rfl) rfl (by kernel_rfl) (by kernel_rfl) (by kernel_rfl) (fun _ _ _ h => h) (by kernel_rfl) (by kernel_rfl) (by kernel_rfl) (by decide) ⟨Or.inl ⟨by rfl, ?_⟩, fun _ => rfl⟩ hS4 ?_
              · intro w hw; have hc := hC w hw; clear hC hY; go_split_ands; go_simp
              try simp only [Act.put, List.setIfInBounds_toArray, List.set_cons_zero, List.set_cons_succ]
              refine um (i := 27) (by kernel_rfl) rfl fun Kk hKk => ?_
              refine Du rfl rfl (.inr (by rfl)) ?hv ?ha hy (fun _ => trivial) hR ?_
              case hv => rfl
              case ha => clear hC hY hR hy; go_simp
              rintro e' W3 (⟨rfl, hJ3, hk3⟩ | ⟨rfl, hJx3⟩)
              · refine ⟨_, rfl, hKk _ _ (fun e => absurd e (by decide)) ?_⟩
                try simp only [Act.put, List.setIfInBounds_toArray, List.set_cons_zero, List.set_cons_succ]
                clear hKk hy hR
                refine qe (i := 28) (v := .bool false) (by kernel_rfl) rfl (by kernel_rfl) (by kernel_rfl) (by kernel_rfl) (fun _ _ _ h => h) (by decide) ⟨Or.inl ⟨by rfl, ?_⟩, fun _ => rfl⟩ (fun e => absurd e (by decide)) ?_
                · clear hC hY; intro w _; go_simp
                try simp only [Act.put, List.setIfInBounds_toArray, List.set_cons_zero, List.set_cons_succ]
                refine qe (i := 29) (v := .bool false) (by kernel_rfl) rfl (by kernel_rfl) (by kernel_rfl) (by kernel_rfl) (fun _ _ _ h => h) (by decide) ⟨Or.inl ⟨by rfl, ?_⟩, fun _ => rfl⟩ (fun e => absurd e (by decide)) ?_
                · clear hC hY; intro w _; go_simp
                try simp only [Act.put, List.setIfInBounds_toArray, List.set_cons_zero, List.set_cons_succ]
                refine vB (by kernel_rfl) ?_ _
                gi_wp2
                go_roundw
                case rel => exact ⟨j + 1, pre ++ [⟨⟨e.id, e.from_, e.to, ⟨e.type_.toArray⟩, k3, v3, ⟨nd.id, l4, k4, v4⟩, hwf⟩, hT.h hq⟩], H5, by congr 1 <;> omega, hlt, (le2.trans (c2.le.trans (c3.le.trans c4.le))), (r2.h.mono (c2.le.trans (c3.le.trans c4.le))), iF.kp hk3, by rw [htk.h, if_pos hq, jX, hpre.h]; rfl, hJ3⟩
                case measure => simp [intOf]; omega
              · refine ⟨_, rfl, hKk _ _ (fun e => absurd e (by decide)) ?_⟩
                try simp only [Act.put, List.setIfInBounds_toArray, List.set_cons_zero, List.set_cons_succ]
                clear hKk hy hR
                refine qe (i := 28) (v := .bool true) (by kernel_rfl) rfl (by kernel_rfl) (by kernel_rfl) (by kernel_rfl) (fun _ _ _ h => h) (by decide) ⟨Or.inl ⟨by rfl, ?_⟩, fun _ => rfl⟩ (fun e => absurd e (by decide)) ?_
                · clear hC hY; intro w _; go_simp
                try simp only [Act.put, List.setIfInBounds_toArray, List.set_cons_zero, List.set_cons_succ]
                refine qe (i := 29) (v := .bool true) (by kernel_rfl) rfl (by kernel_rfl) (by kernel_rfl) (by kernel_rfl) (fun _ _ _ h => h) (by decide) ⟨Or.inl ⟨by rfl, ?_⟩, fun _ => rfl⟩ (fun e => absurd e (by decide)) ?_
                · clear hC hY; intro w _; go_simp
                try simp only [Act.put, List.setIfInBounds_toArray, List.set_cons_zero, List.set_cons_succ]
                refine vB (by kernel_rfl) ?_ _
                gi_wp2
                refine bodyPost_ret (results_none rfl _ _ _) rfl ?_
                refine ⟨⟨_, rfl⟩, .inr ⟨pre ++ [⟨⟨e.id, e.from_, e.to, ⟨e.type_.toArray⟩, k3, v3, ⟨nd.id, l4, k4, v4⟩, hwf⟩, hT.h hq⟩], ⟨sY n g at_ d used (ar.drop (j + 1)), ?_⟩, hJx3⟩⟩
                have e2 : sY n g at_ d used ar = sY n g at_ d used (ar.take (j + 1)) ++ sY n g at_ d used (ar.drop (j + 1)) := by
                  unfold sY
                  rw [← jX, ← List.filter_append, List.take_append_drop]
                rw [jX, hpre.h, e2, htk.h, if_pos hq]
                rfl
    · have hje : j = ar.length := by omega
      have z1 : ¬ (j : Int) < (ar.length : Int) := by omega
      gi_wp2
      go_end0
      exact ⟨⟨_, rfl⟩, .inl ⟨pre, by rw [hpre, hje, List.take_length], hJ2⟩⟩
end
end W
end
section
open Go Go.Proofs Ax Go.RowKit
namespace W
abbrev RT := List Int -> List (List UInt8) -> List Val -> List bS -> Bool × List bS
abbrev RV := List Int -> List (List UInt8) -> List Val -> Bool
def fX (id : Int) : Val := ⟨6, false, id, [], [], []⟩
def GU (id : Int) : Val := ⟨7, false, id, [], [], []⟩
def uF (ns : List (List UInt8)) (name : List UInt8) : List (List UInt8) := if name = [] then ns else ns ++ [name]
def uR (vs : List Val) (name : List UInt8) (x : Val) : List Val := if name = [] then vs else vs ++ [x]
def Sq {β : Type} (f : β -> List bS -> Bool × List bS) : List β -> List bS -> Bool × List bS
  | [], fd => (true, fd)
  | x :: xs, fd => if (f x fd).1 = true then Sq f xs (f x fd).2 else (false, (f x fd).2)
def nY (n : Nat) (g : Graph) (k : RT) : List RX -> Int -> RT
  | [], _ => k
  | d :: legs, at_ => fun us ns vs => Sq (fun (e : Int × Int) => nY n g k legs e.2 (e.1 :: us) (uF (uF ns d.edge.name) d.node.name) (uR (uR vs d.edge.name (GU e.1)) d.node.name (fX e.2))) (sY n g at_ d us ((zF n g at_ d.dir d.of).getD []))
def XU (n : Nat) (v : Val) : Val := (xi n v).getD v
def rQ (n : Nat) (g : Graph) : List qK -> RT
  | [] => fun _ ns vs fd => if 4096 <= fd.length then (false, fd) else (true, fd ++ [⟨ns, vs.map (XU n)⟩])
  | t :: rest => fun us ns vs => Sq (fun (id : Int) => nY n g (rQ n g rest) t.legs id us (uF ns t.first.name) (uR vs t.first.name (fX id))) (Qp n t.first g.nodes)
def Sy (n : Nat) (ns : List (List UInt8)) (name : List UInt8) : Bool := Ep n ns name && decide (ns.length < 1000000000)
def Sx (n : Nat) (g : Graph) (at_ : Int) (d : RX) (e : Edge) : Bool := (Lit.int .i64 e.id).wf && ((uz n g (SF at_ e)).isSome && ((zD n d.edge e.keys e.vals).isSome && (zB n d.node (Dc n g (SF at_ e))).isSome))
def VE (n : Nat) (g : Graph) (ok : RV) : List RX -> Int -> RV
  | [], _ => ok
  | d :: legs, at_ => fun us ns vs => match zF n g at_ d.dir d.of with
    | none => false
    | some ar => decide (ar.length < 1000000000) && (decide (us.length < 1000000000) && (ar.all (Sx n g at_ d) && (Sy n ns d.edge.name && (Sy n (uF ns d.edge.name) d.node.name &&
      (sY n g at_ d us ar).all fun e => VE n g ok legs e.2 (e.1 :: us) (uF (uF ns d.edge.name) d.node.name) (uR (uR vs d.edge.name (GU e.1)) d.node.name (fX e.2))))))
def Dy (n : Nat) (g : Graph) : List qK -> RV
  | [] => fun _ ns vs => decide (ns.length < 1000000000) && vs.all fun v => (xi n v).isSome
  | t :: rest => fun us ns vs => g.nodes.all (fun nd => (zB n t.first nd).isSome) && (Sy n ns t.first.name && ((Qp n t.first g.nodes).all fun id => VE n g (Dy n g rest) t.legs id us (uF ns t.first.name) (uR vs t.first.name (fX id))))
theorem GX {β : Type} {f : β -> List bS -> Bool × List bS} {x : β} : ∀ {pre : List β} {fd f1 : List bS}, Sq f pre fd = (true, f1) -> Sq f (pre ++ [x]) fd = f x f1
  | [], fd, f1, h => by
    simp only [Sq, Prod.mk.injEq, true_and] at h
    subst h
    simp only [jt, Sq]
    split
    · rename_i h1; exact Prod.ext h1.symm rfl
    · rename_i h1; exact Prod.ext (by simpa using h1) rfl
  | y :: pre, fd, f1, h => by
    simp only [Sq] at h
    split at h
    · rename_i h1
      simp only [List.cons_append, Sq, if_pos h1]
      exact GX h
    · cases h
theorem GY {β : Type} {f : β -> List bS -> Bool × List bS} {rest : List β} : ∀ {pre : List β} {fd f1 : List bS}, Sq f pre fd = (false, f1) -> Sq f (pre ++ rest) fd = (false, f1)
  | [], fd, f1, h => by cases h
  | y :: pre, fd, f1, h => by
    simp only [Sq] at h
    split at h
    · rename_i h1
      simp only [List.cons_append, Sq, if_pos h1]
      exact GY h
    · rename_i h1
      simp only [List.cons_append, Sq, if_neg h1]
      exact h
theorem NH {ns : List (List UInt8)} {vs : List Val} (h : vs.length = ns.length) (name : List UInt8) (x : Val) : (uR vs name x).length = (uF ns name).length := by
  unfold uR uF
  split
  · exact h
  · simp [h]
structure LO {L : Nat} (K : SK) (H : PH L) (g : Graph) : Prop where
  nd : qp H (.sl (Node.rows g.nodes)) K.g1
  ed : qp H (.sl (Edge.rows g.edges)) K.g2
  ln : g.nodes.length < 1000000000
theorem LO.mono {L : Nat} {K : SK} {H H' : PH L} {g : Graph} (h : LO K H g) (hl : PH.le H H') : LO K H' g := ⟨h.nd.mono hl, h.ed.mono hl, h.ln⟩
def RO (g : Graph) (ts : List qK) (k : RT) (ok : RV) : Prop := ∀ {L : Nat} {K : SK} {H0 H : PH L} {M0 : Nat -> Prop} {w0 w : World} {vn vv vf : Value} {names : List (List UInt8)} {vals : List Val} {used : List Int} {found : List bS} {D : DM},
  Sg K H0 M0 w0 H w vn vv vf vn vv vf names vals found used.length D -> uo D used -> vals.length = names.length -> LO K H g -> ok used names vals = true -> ∀ v, qp H (.sl (qK.rows ts)) v ->
  Calls Tryz.prog 48 #[.pointer (some ⟨K.sb, 0, none⟩), v] w fun e w' => e = .returned (.bool (k used names vals found).1) /\ Ur K H (K.M vn vv vf) w names vals used (k used names vals found).2 w'
def RP (g : Graph) (at_ : Int) (legs : List RX) (ts : List qK) (k : RT) (ok : RV) : Prop := ∀ {L : Nat} {K : SK} {H0 H : PH L} {M0 : Nat -> Prop} {w0 w : World} {vn vv vf : Value} {names : List (List UInt8)} {vals : List Val} {used : List Int} {found : List bS} {D : DM},
  Sg K H0 M0 w0 H w vn vv vf vn vv vf names vals found used.length D -> uo D used -> vals.length = names.length -> LO K H g -> ok used names vals = true -> ∀ vl vt, qp H (.sl (RX.rows legs)) vl -> qp H (.sl (qK.rows ts)) vt ->
  Calls Tryz.prog 71 #[.pointer (some ⟨K.sb, 0, none⟩), .int .i64 at_, vl, vt] w fun e w' => e = .returned (.bool (k used names vals found).1) /\ Ur K H (K.M vn vv vf) w names vals used (k used names vals found).2 w'
theorem uo.put {D : DM} {us : List Int} (h : uo D us) (ht : Maps.Tidy D) (x : Int) : uo (D.put (.int .i64 x) (.lit (.int .i64 1))) (x :: us) := by
  refine ⟨fun y => ?_, ?_⟩
  · by_cases hy : y = x
    · subst hy
      rw [Maps.atKey_put_same ht.isMap (show WideAt.IsKeyLit (.int .i64 y) from trivial)]
      simp
    · rw [Maps.atKey_put_other (fun e => hy (by cases e; rfl)), h.1 y]
      simp [hy]
  · rw [Maps.size_put ht]
    have := h.2
    split <;> simp <;> omega
theorem uo.del {D : DM} {us : List Int} {x : Int} (h : uo D (x :: us)) (ht : Maps.Tidy D) (hx : x ∉ us) : uo (D.del (.int .i64 x)) us := by
  refine ⟨fun y => ?_, ?_⟩
  · by_cases hy : y = x
    · subst hy
      rw [Maps.atKey_del_same]
      simp [hx]
    · rw [Maps.atKey_del_other (fun e => hy (by cases e; rfl)), h.1 y]
      simp [hy]
  · have h1 := Maps.size_del (k := .int .i64 x) ht
    have h2 : Maps.has D (.int .i64 x) = true := by
      cases hh : Maps.has D (.int .i64 x) with
      | true => rfl
      | false =>
        have h3 := Maps.atKey_of_not_has hh (.lit (.int .i64 0))
        rw [h.1 x] at h3
        simp at h3
    rw [h2] at h1
    have := h.2
    simp at h1 this
    omega
theorem Mr {w : World} {P : Program} {k : TypeId} {R : Value -> Option (DM × List MemPlace)} {b n : Nat} {D : DM} (h : w.ownsMap P k R b n D) {m : Nat} (hm : Maps.size D <= m) : w.ownsMap P k R b m D := by
  obtain ⟨es, clock, hb, F, hs, rfl⟩ := h
  refine ⟨es, clock, hb, F, ?_, rfl⟩
  have e1 : es.size = ((es.toList.map (WideElems.rg P k R)).foldr DataW.insert []).length := by rw [length_sorted]; simp
  rw [e1]
  exact hm
theorem Ed {L : Nat} {H : PH L} {r : List PV} {rows : List (List PV)} {v : Value} (h : qp H (.sl (r :: rows)) v) : ∃ b o c, v = .slice (some ⟨b, o, none⟩) (rows.length + 1) c /\ 1 <= c /\
    qp H (.sl rows) (.slice (if c = 1 then some ⟨b, o, none⟩ else some ⟨b, o + 1 * r.length, none⟩) rows.length (c - 1)) := by
  simp only [qp] at h
  rcases h with ⟨h, _⟩ | ⟨b, o, z, c, e1, hl, hr⟩
  · cases h
  · simp only [ja] at hl e1
    simp only [fa] at hr
    obtain ⟨hz, _, hr⟩ := hr
    refine ⟨b, o, c, e1, by omega, ?_⟩
    by_cases hc : c = 1
    · have : rows = [] := List.eq_nil_of_length_eq_zero (by omega)
      subst this
      rw [if_pos hc]
      simp only [qp]
      exact .inl ⟨trivial, .inr ⟨_, _, rfl⟩⟩
    · rw [if_neg hc]
      simp only [qp]
      exact .inr ⟨b, o + 1 * r.length, z, c - 1, rfl, by omega, by rw [hz, Nat.one_mul]; exact hr⟩
end W
end
section
open Go Go.Proofs Ax Go.RowKit
namespace W
attribute [local go_sem] Oper.semAt_some
theorem NL (w : World) : (Go.sizeOf 154).run Tryz.prog w = Result.ok 10 w := by kernel_rfl
theorem NK (w : World) : (Go.sizeOf 152).run Tryz.prog w = Result.ok 5 w := by kernel_rfl
theorem Dk (b o k c : Nat) (wx : World) : (Instr.sliceAt 150 (.slice (some ⟨b, o, none⟩) (k + 1) c) (some (.int .i64 1)) none none).run Tryz.prog wx = .ok (.slice (if c = 1 then some ⟨b, o, none⟩ else some ⟨b, o + 1 * 10, none⟩) k (c - 1)) wx := by
  have h1 : (0 : Int) <= 1 /\ (1 : Int) <= (k : Int) + 1 := by omega
  have h2 : (1 : Int) <= (k : Int) + 1 := by omega
  have hs := NL
  go_simp
theorem Dj (b o k c : Nat) (wx : World) : (Instr.sliceAt 111 (.slice (some ⟨b, o, none⟩) (k + 1) c) (some (.int .i64 1)) none none).run Tryz.prog wx = .ok (.slice (if c = 1 then some ⟨b, o, none⟩ else some ⟨b, o + 1 * 5, none⟩) k (c - 1)) wx := by
  have h1 : (0 : Int) <= 1 /\ (1 : Int) <= (k : Int) + 1 := by omega
  have h2 : (1 : Int) <= (k : Int) + 1 := by omega
  have hs := NK
  go_simp
theorem UZ {L : Nat} {H : PH L} {x : qK} {us : List Value} (h : qJ H (mB.cells x) us) : ∃ l k v lg : Sl, us = [.string ⟨x.first.name.toArray⟩, .slice l.1 l.2.1 l.2.2, .slice k.1 k.2.1 k.2.2, .slice v.1 v.2.1 v.2.2, .slice lg.1 lg.2.1 lg.2.2] /\
    qJ H (Xa.cells x.first) [.string ⟨x.first.name.toArray⟩, .slice l.1 l.2.1 l.2.2, .slice k.1 k.2.1 k.2.2, .slice v.1 v.2.1 v.2.2] /\ qp H (.sl (RX.rows x.legs)) (.slice lg.1 lg.2.1 lg.2.2) := by
  obtain ⟨⟨a, b, c, d⟩, e⟩ := x
  simp only [mB, qK.cells, qJ] at h
  obtain ⟨_, _, rfl, h1, _, _, rfl, h2, _, _, rfl, h3, _, _, rfl, h4, _, _, rfl, h5, rfl⟩ := h
  obtain ⟨p2, e2, rfl⟩ := zL h2
  obtain ⟨p3, e3, rfl⟩ := zL h3
  obtain ⟨p4, e4, rfl⟩ := zL h4
  obtain ⟨p5, e5, rfl⟩ := zL h5
  simp only [qp] at h1
  subst h1
  refine ⟨(_, _, _), (_, _, _), (_, _, _), (_, _, _), rfl, ?_, h5⟩
  simp only [Xa, fV.cells, qJ]
  exact ⟨_, _, rfl, by simp only [qp], _, _, rfl, h2, _, _, rfl, h3, _, _, rfl, h4, rfl⟩
theorem CF {L : Nat} (H : PH L) (id : Int) : qJ H (fX id).cells [.int .i64 6, .bool false, .int .i64 id, .string ⟨#[]⟩, .slice none 0 0, .slice none 0 0] := by
  simp only [fX, Val.cells, Val.rows, qy, jN, qJ, qp]
  exact ⟨_, _, rfl, rfl, _, _, rfl, rfl, _, _, rfl, rfl, _, _, rfl, rfl, _, _, rfl, .inl ⟨by trivial, .inl rfl⟩, _, _, rfl, .inl ⟨by trivial, .inl rfl⟩, rfl⟩
theorem Hw {L : Nat} (H : PH L) (id : Int) : qJ H (GU id).cells [.int .i64 7, .bool false, .int .i64 id, .string ⟨#[]⟩, .slice none 0 0, .slice none 0 0] := by
  simp only [GU, Val.cells, Val.rows, qy, jN, qJ, qp]
  exact ⟨_, _, rfl, rfl, _, _, rfl, rfl, _, _, rfl, rfl, _, _, rfl, rfl, _, _, rfl, .inl ⟨by trivial, .inl rfl⟩, _, _, rfl, .inl ⟨by trivial, .inl rfl⟩, rfl⟩
section
variable {L : Nat} {K : SK} {H0 H : PH L} {M0 : Nat -> Prop} {w0 w : World} {vn vv vf : Value} {names : List (List UInt8)} {vals : List Val} {used : List Int} {found : List bS} {D : DM} {g : Graph} {ts : List qK} {k : RT} {ok : RV}
theorem Sg.dr (h : Sg K H0 M0 w0 H w vn vv vf vn vv vf names vals found used.length D) : Gw H (K.M vn vv vf) w H (K.M vn vv vf) w.drew := Gw.below ⟨rfl, rfl, rfl, jv _, fun _ _ => rfl⟩
set_option maxHeartbeats 4000000 in
set_option maxRecDepth 100000 in
theorem Ly {id : Int} {d : RX} {legs : List RX} (hW : RP g id legs ts k ok) (h : Sg K H0 M0 w0 H w vn vv vf vn vv vf names vals found used.length D) (hu : uo D used) (hlv : vals.length = names.length) (hg : LO K H g) (hok : ok used names vals = true) {b0 b1 b2 b3 : Nat} {nd : NV} {vl vt : Value} (hid : nd.id = id)
    (h0 : w.heap[b0]? = some (.cells #[.pointer (some ⟨K.sb, 0, none⟩)] 114)) (h1 : w.heap[b1]? = some (.cells nd.cells 96)) (h2 : w.heap[b2]? = some (.cells #[vl] 150)) (h3 : w.heap[b3]? = some (.cells #[vt] 111)) (hl : qp H (.sl (RX.rows (d :: legs))) vl) (ht : qp H (.sl (qK.rows ts)) vt) :
    Calls Tryz.prog 103 #[.pointer (some ⟨b0, 0, none⟩), .pointer (some ⟨b1, 0, none⟩), .pointer (some ⟨b2, 0, none⟩), .pointer (some ⟨b3, 0, none⟩)] w fun e w' => e = .returned (.bool (k used names vals found).1) /\ Ur K H (K.M vn vv vf) w names vals used (k used names vals found).2 w' := by
  subst hid
  obtain ⟨tb, to, tc, rfl, htc, htl⟩ := Ed (r := Ld.cells d) (rows := RX.rows legs) hl
  rw [show (RX.rows legs).length = legs.length by simp [RX.rows], show (Ld.cells d).length = 10 from Ld.hz d] at htl
  rw [show (RX.rows legs).length = legs.length by simp [RX.rows]] at h2
  have hT := Dk tb to legs.length tc
  generalize hpa : (if tc = 1 then some (⟨tb, to, none⟩ : Addr) else some ⟨tb, to + 1 * 10, none⟩) = pa at htl hT
  clear hpa
  have m71 := hW h.drew hu hlv hg hok _ _ htl ht
  refine (callsIn_wide (n := 1)).1 ?_
  refine callsIn_of_wp Tryz.func103 rfl trivial ?_ rfl
  simp only [Tryz.ntmps103, jL, ja, jc, Nat.reduceAdd, Nat.reduceSub, Array.replicate_succ, Array.replicate_zero, List.push_toArray, List.append_toArray, jt, List.cons_append]
  gi_wp2_with fail
  obtain ⟨S, hSe⟩ : ∃ S : World -> Prop, S = fun w' => Below w.heap.size w w' := ⟨_, rfl⟩
  have hS : S w.drew := by rw [hSe]; exact ⟨rfl, rfl, rfl, jv _, fun _ _ => rfl⟩
  have hC : ∀ w', S w' -> w'.cell? ⟨b0, 0, none⟩ = some (.pointer (some ⟨K.sb, 0, none⟩)) /\ w'.cell? ⟨b1, 0, none⟩ = some (.int .i64 nd.id) /\ w'.cell? ⟨b2, 0, none⟩ = some (.slice (some ⟨tb, to, none⟩) (legs.length + 1) tc) /\ w'.cell? ⟨b3, 0, none⟩ = some vt := fun w' hw => by
    rw [hSe] at hw
    have cc : ∀ {b i : Nat} {v : Value}, w.cell? ⟨b, i, none⟩ = some v -> w'.cell? ⟨b, i, none⟩ = some v := fun {b i v} hv => (World.cell?_of_block (w := w) (a := ⟨b, i, none⟩) (hw.block b (gQ hv))).trans hv
    exact ⟨cc (qc h0 0 rfl), cc (qc h1 0 rfl), cc (qc h2 0 rfl), cc (qc h3 0 rfl)⟩
  refine zH S 6 (by kernel_rfl) ?_
  simp only [jL, ja, jc, Nat.reduceAdd, Array.replicate_succ, Array.replicate_zero, List.push_toArray, jt, List.cons_append]
  refine qO (i := 0) (v := .pointer (some ⟨K.sb, 0, none⟩)) [6] (by kernel_rfl) rfl (by kernel_rfl) (by kernel_rfl) (by kernel_rfl) (fun _ _ _ h => h) (by kernel_rfl) (by kernel_rfl) (by kernel_rfl) (by decide) ⟨Or.inl ⟨by rfl, ?_⟩, fun _ => rfl⟩ hS ?_
  · intro w hw; have hc := hC w hw; clear hC h hu hg h0 h1 h2 hok m71 hW; go_split_ands; go_simp
  try simp only [Act.put, List.setIfInBounds_toArray, List.set_cons_zero, List.set_cons_succ]
  refine qe (i := 1) (v := .pointer (some ⟨b1, 0, none⟩)) (by kernel_rfl) rfl (by kernel_rfl) (by kernel_rfl) (by kernel_rfl) (fun _ _ _ h => h) (by decide) ⟨Or.inl ⟨by rfl, ?_⟩, fun _ => rfl⟩ (fun _ => hS) ?_
  · clear hC h hu hg h0 h1 h2 hok m71 hW; intro w _; go_simp
  try simp only [Act.put, List.setIfInBounds_toArray, List.set_cons_zero, List.set_cons_succ]
  refine qO (i := 2) (v := .int .i64 nd.id) [6] (by kernel_rfl) rfl (by kernel_rfl) (by kernel_rfl) (by kernel_rfl) (fun _ _ _ h => h) (by kernel_rfl) (by kernel_rfl) (by kernel_rfl) (by decide) ⟨Or.inl ⟨by rfl, ?_⟩, fun _ => rfl⟩ hS ?_
  · intro w hw; have hc := hC w hw; clear hC h hu hg h0 h1 h2 hok m71 hW; go_split_ands; go_simp
  try simp only [Act.put, List.setIfInBounds_toArray, List.set_cons_zero, List.set_cons_succ]
  refine qO (i := 3) (v := .slice (some ⟨tb, to, none⟩) (legs.length + 1) tc) [4, 6] (by kernel_rfl) rfl (by kernel_rfl) (by kernel_rfl) (by kernel_rfl) (fun _ _ _ h => h) (by kernel_rfl) (by kernel_rfl) (by kernel_rfl) (by decide) ⟨Or.inl ⟨by rfl, ?_⟩, fun _ => rfl⟩ hS ?_
  · intro w hw; have hc := hC w hw; clear hC h hu hg h0 h1 h2 hok m71 hW; go_split_ands; go_simp
  try simp only [Act.put, List.setIfInBounds_toArray, List.set_cons_zero, List.set_cons_succ]
  refine qe (i := 4) (v := .slice pa legs.length (tc - 1)) (by kernel_rfl) rfl (by kernel_rfl) (by kernel_rfl) (by kernel_rfl) (fun _ _ _ h => h) (by decide) ⟨Or.inl ⟨by rfl, ?_⟩, fun _ => rfl⟩ (fun _ => hS) ?_
  · clear hC h hu hg h0 h1 h2 hok m71 hW; intro w _; go_simp
  try simp only [Act.put, List.setIfInBounds_toArray, List.set_cons_zero, List.set_cons_succ]
  refine qO (i := 5) (v := vt) [6] (by kernel_rfl) rfl (by kernel_rfl) (by kernel_rfl) (by kernel_rfl) (fun _ _ _ h => h) (by kernel_rfl) (by kernel_rfl) (by kernel_rfl) (by decide) ⟨Or.inl ⟨by rfl, ?_⟩, fun _ => rfl⟩ hS ?_
  · intro w hw; have hc := hC w hw; clear hC h hu hg h0 h1 h2 hok m71 hW; go_split_ands; go_simp
  try simp only [Act.put, List.setIfInBounds_toArray, List.set_cons_zero, List.set_cons_succ]
  refine um (i := 6) (by kernel_rfl) rfl fun Kk hKk => ?_
  refine dA (f := 71) (lb := #[]) rfl rfl (.inl rfl) ?hv ?ha (fun _ _ => Tryz.call71 _ _) trivial (callsIn_wide.2 m71) ?_
  case hv => rfl
  case ha => clear hC h hu hg h0 h1 h2 hok m71 hW; go_simp
  rintro e w1 ⟨rfl, r⟩
  refine ⟨_, rfl, hKk _ _ (fun e => absurd e (by decide)) ?_⟩
  try simp only [Act.put, List.setIfInBounds_toArray, List.set_cons_zero, List.set_cons_succ]
  refine qe (i := 7) (v := .bool (k used names vals found).1) (by kernel_rfl) rfl (by kernel_rfl) (by kernel_rfl) (by kernel_rfl) (fun _ _ _ h => h) (by decide) ⟨Or.inl ⟨by rfl, ?_⟩, fun _ => rfl⟩ (fun e => absurd e (by decide)) ?_
  · clear hC h hu hg h0 h1 h2 hok m71 hW; intro w _; go_simp
  try simp only [Act.put, List.setIfInBounds_toArray, List.set_cons_zero, List.set_cons_succ]
  refine vB (by kernel_rfl) ?_ _
  gi_wp2
  go_ret
  exact ⟨rfl, r.base h.dr⟩
set_option maxHeartbeats 4000000 in
set_option maxRecDepth 100000 in
theorem MB {n : Nat} {id : Int} {d : RX} {legs : List RX} (hW : RP g id legs ts k ok) (h : Sg K H0 M0 w0 H w vn vv vf vn vv vf names vals found used.length D) (hu : uo D used) (hlv : vals.length = names.length) (hg : LO K H g) (hf : Sy n names d.node.name = true) (hok : ok used (uF names d.node.name) (uR vals d.node.name (fX id)) = true) {b0 b1 b2 b3 b4 : Nat} {nd : NV} {vl vt : Value} {l1 k1 v1 l2 k2 v2 : Sl} (hid : nd.id = id)
    (h0 : w.heap[b0]? = some (.cells #[.pointer (some ⟨K.sb, 0, none⟩)] 114)) (h4 : w.heap[b4]? = some (.cells (Vi ⟨d.edge.name.toArray⟩ l1 k1 v1 ⟨d.of.toArray⟩ d.dir ⟨d.node.name.toArray⟩ l2 k2 v2).toArray 154)) (h1 : w.heap[b1]? = some (.cells nd.cells 96)) (h2 : w.heap[b2]? = some (.cells #[vl] 150)) (h3 : w.heap[b3]? = some (.cells #[vt] 111)) (hl : qp H (.sl (RX.rows (d :: legs))) vl) (ht : qp H (.sl (qK.rows ts)) vt)
    (hM : ∀ b, b = b0 \/ b = b1 \/ b = b2 \/ b = b3 -> ¬ K.M vn vv vf b) :
    Calls Tryz.prog 102 #[.pointer (some ⟨b0, 0, none⟩), .pointer (some ⟨b4, 0, none⟩), .pointer (some ⟨b1, 0, none⟩), .pointer (some ⟨b2, 0, none⟩), .pointer (some ⟨b3, 0, none⟩)] w fun e w' => e = .returned (.bool (k used (uF names d.node.name) (uR vals d.node.name (fX id)) found).1) /\ Ur K H (K.M vn vv vf) w names vals used (k used (uF names d.node.name) (uR vals d.node.name (fX id)) found).2 w' := by
  unfold Sy at hf
  simp only [ji, kde] at hf
  have m69 := Dq (k := 103) (caps := #[.pointer (some ⟨b0, 0, none⟩), .pointer (some ⟨b1, 0, none⟩), .pointer (some ⟨b2, 0, none⟩), .pointer (some ⟨b3, 0, none⟩)]) (found' := (k used (uF names d.node.name) (uR vals d.node.name (fX id)) found).2) h hu hf.1 (CF H id) (fun _ _ => Tryz.call103 _ _) (b := (k used (uF names d.node.name) (uR vals d.node.name (fX id)) found).1) hf.2 hlv (fun H1 w1 vn1 vv1 vf1 D1 hs hu1 => by
    have un : ∀ b o, w.heap[b]? = some o -> (b = b0 \/ b = b1 \/ b = b2 \/ b = b3) -> w1.heap[b]? = some o := fun b o ho hb => (hs.gw.un b (jH.1 ho).1 (hM b hb)).trans ho
    refine (Ly hW hs hu1 (NH hlv d.node.name (fX id)) (hg.mono hs.gw.le) hok hid (un _ _ h0 (.inl rfl)) (un _ _ h1 (.inr (.inl rfl))) (un _ _ h2 (.inr (.inr (.inl rfl)))) (un _ _ h3 (.inr (.inr (.inr rfl)))) (hl.mono hs.gw.le) (ht.mono hs.gw.le)).mono ?_
    rintro e w' ⟨rfl, r⟩
    exact ⟨rfl, r.base hs.gw⟩)
  have c0 : w.cell? ⟨b0, 0, none⟩ = some (.pointer (some ⟨K.sb, 0, none⟩)) := qc h0 0 rfl
  have c4 : w.cell? ⟨b4, 6, none⟩ = some (.string ⟨d.node.name.toArray⟩) := qc h4 6 rfl
  have c1 : w.cell? ⟨b1, 0, none⟩ = some (.int .i64 nd.id) := qc h1 0 rfl
  subst hid
  go_enter Tryz.func102, Tryz.ntmps102
  go_wp2_with (
    go_at_call 69; refine m69.mono ?_; rintro e w1 ⟨rfl, r⟩)
  go_ret
  exact ⟨rfl, r⟩
set_option maxHeartbeats 4000000 in
set_option maxRecDepth 100000 in
theorem Nc {id : Int} {t : qK} (hW : RP g id t.legs ts k ok) (h : Sg K H0 M0 w0 H w vn vv vf vn vv vf names vals found used.length D) (hu : uo D used) (hlv : vals.length = names.length) (hg : LO K H g) (hok : ok used names vals = true) {b0 b1 b2 : Nat} {nd : NV} {vt : Value} (hid : nd.id = id)
    (h0 : w.heap[b0]? = some (.cells #[.pointer (some ⟨K.sb, 0, none⟩)] 114)) (h1 : w.heap[b1]? = some (.cells nd.cells 96)) (h2 : w.heap[b2]? = some (.cells #[vt] 111)) (ht : qp H (.sl (qK.rows (t :: ts))) vt) :
    Calls Tryz.prog 70 #[.pointer (some ⟨b0, 0, none⟩), .pointer (some ⟨b1, 0, none⟩), .pointer (some ⟨b2, 0, none⟩)] w fun e w' => e = .returned (.bool (k used names vals found).1) /\ Ur K H (K.M vn vv vf) w names vals used (k used names vals found).2 w' := by
  subst hid
  obtain ⟨tb, to, tc, rfl, htc, htl⟩ := Ed (r := mB.cells t) (rows := qK.rows ts) ht
  obtain ⟨tb', to', tc', e0, us, hus, hcell⟩ := CP ht (j := 0) (r := mB.cells t) rfl
  cases e0
  obtain ⟨l9, k9, v9, lg, rfl, _, hlg⟩ := UZ hus
  rw [show (mB.cells t).length = 5 from mB.hz t] at hcell
  have q4 : w.cell? ⟨tb, to + 4, none⟩ = some (.slice lg.1 lg.2.1 lg.2.2) := by
    have := (h.sat.cell _ _ _ (hcell 4 _ rfl)).1
    simpa using this
  rw [show (qK.rows ts).length = ts.length by simp [qK.rows], show (mB.cells t).length = 5 from mB.hz t] at htl
  rw [show (qK.rows ts).length = ts.length by simp [qK.rows]] at h2
  have hT := Dj tb to ts.length tc
  generalize hpa : (if tc = 1 then some (⟨tb, to, none⟩ : Addr) else some ⟨tb, to + 1 * 5, none⟩) = pa at htl hT
  clear hpa
  have m71 := hW h.drew hu hlv hg hok _ _ hlg htl
  refine (callsIn_wide (n := 1)).1 ?_
  refine callsIn_of_wp Tryz.func70 rfl trivial ?_ rfl
  simp only [Tryz.ntmps70, jL, ja, jc, Nat.reduceAdd, Nat.reduceSub, Array.replicate_succ, Array.replicate_zero, List.push_toArray, List.append_toArray, jt, List.cons_append]
  gi_wp2_with fail
  obtain ⟨S, hSe⟩ : ∃ S : World -> Prop, S = fun w' => Below w.heap.size w w' := ⟨_, rfl⟩
  have hS : S w.drew := by rw [hSe]; exact ⟨rfl, rfl, rfl, jv _, fun _ _ => rfl⟩
  have hC : ∀ w', S w' -> w'.cell? ⟨b0, 0, none⟩ = some (.pointer (some ⟨K.sb, 0, none⟩)) /\ w'.cell? ⟨b1, 0, none⟩ = some (.int .i64 nd.id) /\ w'.cell? ⟨b2, 0, none⟩ = some (.slice (some ⟨tb, to, none⟩) (ts.length + 1) tc) /\ w'.cell? ⟨tb, to + 4, none⟩ = some (.slice lg.1 lg.2.1 lg.2.2) := fun w' hw => by
    rw [hSe] at hw
    have cc : ∀ {b i : Nat} {v : Value}, w.cell? ⟨b, i, none⟩ = some v -> w'.cell? ⟨b, i, none⟩ = some v := fun {b i v} hv => (World.cell?_of_block (w := w) (a := ⟨b, i, none⟩) (hw.block b (gQ hv))).trans hv
    exact ⟨cc (qc h0 0 rfl), cc (qc h1 0 rfl), cc (qc h2 0 rfl), cc q4⟩
  have hz : (0 : Int) < (ts.length : Int) + 1 := by omega
  refine zH S 9 (by kernel_rfl) ?_
  simp only [jL, ja, jc, Nat.reduceAdd, Array.replicate_succ, Array.replicate_zero, List.push_toArray, jt, List.cons_append]
  refine qO (i := 0) (v := .pointer (some ⟨K.sb, 0, none⟩)) [9] (by kernel_rfl) rfl (by kernel_rfl) (by kernel_rfl) (by kernel_rfl) (fun _ _ _ h => h) (by kernel_rfl) (by kernel_rfl) (by kernel_rfl) (by decide) ⟨Or.inl ⟨by rfl, ?_⟩, fun _ => rfl⟩ hS ?_
  · intro w hw; have hc := hC w hw; clear hC h hu hg h0 h1 h2 hok m71 hW; go_split_ands; go_simp
  try simp only [Act.put, List.setIfInBounds_toArray, List.set_cons_zero, List.set_cons_succ]
  refine qe (i := 1) (v := .pointer (some ⟨b1, 0, none⟩)) (by kernel_rfl) rfl (by kernel_rfl) (by kernel_rfl) (by kernel_rfl) (fun _ _ _ h => h) (by decide) ⟨Or.inl ⟨by rfl, ?_⟩, fun _ => rfl⟩ (fun _ => hS) ?_
  · clear hC h hu hg h0 h1 h2 hok m71 hW; intro w _; go_simp
  try simp only [Act.put, List.setIfInBounds_toArray, List.set_cons_zero, List.set_cons_succ]
  refine qO (i := 2) (v := .int .i64 nd.id) [9] (by kernel_rfl) rfl (by kernel_rfl) (by kernel_rfl) (by kernel_rfl) (fun _ _ _ h => h) (by kernel_rfl) (by kernel_rfl) (by kernel_rfl) (by decide) ⟨Or.inl ⟨by rfl, ?_⟩, fun _ => rfl⟩ hS ?_
  · intro w hw; have hc := hC w hw; clear hC h hu hg h0 h1 h2 hok m71 hW; go_split_ands; go_simp
  try simp only [Act.put, List.setIfInBounds_toArray, List.set_cons_zero, List.set_cons_succ]
  refine qO (i := 3) (v := .slice (some ⟨tb, to, none⟩) (ts.length + 1) tc) [4, 5, 6, 9] (by kernel_rfl) rfl (by kernel_rfl) (by kernel_rfl) (by kernel_rfl) (fun _ _ _ h => h) (by kernel_rfl) (by kernel_rfl) (by kernel_rfl) (by decide) ⟨Or.inl ⟨by rfl, ?_⟩, fun _ => rfl⟩ hS ?_
  · intro w hw; have hc := hC w hw; clear hC h hu hg h0 h1 h2 hok m71 hW; go_split_ands; go_simp
  try simp only [Act.put, List.setIfInBounds_toArray, List.set_cons_zero, List.set_cons_succ]
  refine qe (i := 4) (v := .pointer (some ⟨tb, to, none⟩)) (by kernel_rfl) rfl (by kernel_rfl) (by kernel_rfl) (by kernel_rfl) (fun _ _ _ h => h) (by decide) ⟨Or.inl ⟨by rfl, ?_⟩, fun _ => rfl⟩ (fun _ => hS) ?_
  · clear hC h hu hg h0 h1 h2 hok m71 hW; intro w _; go_simp
  try simp only [Act.put, List.setIfInBounds_toArray, List.set_cons_zero, List.set_cons_succ]
  refine qe (i := 5) (v := .pointer (some ⟨tb, to + 4, none⟩)) (by kernel_rfl) rfl (by kernel_rfl) (by kernel_rfl) (by kernel_rfl) (fun _ _ _ h => h) (by decide) ⟨Or.inl ⟨by rfl, ?_⟩, fun _ => rfl⟩ (fun _ => hS) ?_
  · clear hC h hu hg h0 h1 h2 hok m71 hW; intro w _; go_simp
  try simp only [Act.put, List.setIfInBounds_toArray, List.set_cons_zero, List.set_cons_succ]
  refine qO (i := 6) (v := .slice lg.1 lg.2.1 lg.2.2) [9] (by kernel_rfl) rfl (by kernel_rfl) (by kernel_rfl) (by kernel_rfl) (fun _ _ _ h => h) (by kernel_rfl) (by kernel_rfl) (by kernel_rfl) (by decide) ⟨Or.inl ⟨by rfl, ?_⟩, fun _ => rfl⟩ hS ?_
  · intro w hw; have hc := hC w hw; clear hC h hu hg h0 h1 h2 hok m71 hW; go_split_ands; go_simp
  try simp only [Act.put, List.setIfInBounds_toArray, List.set_cons_zero, List.set_cons_succ]
  refine qO (i := 7) (v := .slice (some ⟨tb, to, none⟩) (ts.length + 1) tc) [8, 9] (by kernel_rfl) rfl (by kernel_rfl) (by kernel_rfl) (by kernel_rfl) (fun _ _ _ h => h) (by kernel_rfl) (by kernel_rfl) (by kernel_rfl) (by decide) ⟨Or.inl ⟨by rfl, ?_⟩, fun _ => rfl⟩ hS ?_
  · intro w hw; have hc := hC w hw; clear hC h hu hg h0 h1 h2 hok m71 hW; go_split_ands; go_simp
  try simp only [Act.put, List.setIfInBounds_toArray, List.set_cons_zero, List.set_cons_succ]
  refine qe (i := 8) (v := .slice pa ts.length (tc - 1)) (by kernel_rfl) rfl (by kernel_rfl) (by kernel_rfl) (by kernel_rfl) (fun _ _ _ h => h) (by decide) ⟨Or.inl ⟨by rfl, ?_⟩, fun _ => rfl⟩ (fun _ => hS) ?_
  · clear hC h hu hg h0 h1 h2 hok m71 hW; intro w _; go_simp
  try simp only [Act.put, List.setIfInBounds_toArray, List.set_cons_zero, List.set_cons_succ]
  refine um (i := 9) (by kernel_rfl) rfl fun Kk hKk => ?_
  refine dA (f := 71) (lb := #[]) rfl rfl (.inl rfl) ?hv ?ha (fun _ _ => Tryz.call71 _ _) trivial (callsIn_wide.2 m71) ?_
  case hv => rfl
  case ha => clear hC h hu hg h0 h1 h2 hok m71 hW; go_simp
  rintro e w1 ⟨rfl, r⟩
  refine ⟨_, rfl, hKk _ _ (fun e => absurd e (by decide)) ?_⟩
  try simp only [Act.put, List.setIfInBounds_toArray, List.set_cons_zero, List.set_cons_succ]
  refine qe (i := 10) (v := .bool (k used names vals found).1) (by kernel_rfl) rfl (by kernel_rfl) (by kernel_rfl) (by kernel_rfl) (fun _ _ _ h => h) (by decide) ⟨Or.inl ⟨by rfl, ?_⟩, fun _ => rfl⟩ (fun e => absurd e (by decide)) ?_
  · clear hC h hu hg h0 h1 h2 hok m71 hW; intro w _; go_simp
  try simp only [Act.put, List.setIfInBounds_toArray, List.set_cons_zero, List.set_cons_succ]
  refine vB (by kernel_rfl) ?_ _
  gi_wp2
  go_ret
  exact ⟨rfl, r.base h.dr⟩
end
end W
end
