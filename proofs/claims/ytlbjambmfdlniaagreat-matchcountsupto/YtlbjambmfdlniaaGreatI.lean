/- A part of the proof: the plain law. -/
import Derived.Lib.SliceRun
import Derived.Carry
import Derived.Test.YtlbjambmfdlniaaGreatH
set_option linter.unusedVariables false
set_option linter.unusedSimpArgs false
set_option linter.unnecessarySimpa false
set_option linter.deprecated false
set_option linter.unusedSectionVars false
set_option linter.constructorNameAsVariable false
open List renaming length_cons->ja,length_nil->jc,getElem?_eq_getElem->jf,mem_cons->jg,map_cons->jk,length_map->jl,nil_append->jt,mem_append->jx,size_toArray->jL,map_nil->jN,map_map->jU,map_append->jX
open Bool renaming and_eq_true->ji
open Nat renaming le_refl->jv,zero_add->jw,zero_le->jR
open Array renaming getElem?_eq_some_iff->jH
section
open Go Go.Proofs Ax Go.RowKit
namespace W
section
variable {L : Nat} {K : SK} {H0 H H' : PH L} {M0 : Nat -> Prop} {w0 w w' : World} {bn bv bf vn vv vf : Value} {names : List (List UInt8)} {vals : List Val} {used : List Int} {found : List bS} {cnt : Nat} {D : DM}
theorem Sg.turnOther (h : Sg K H0 M0 w0 H w bn bv bf vn vv vf names vals found cnt D) {b : Nat} (hg : w.grownBy w' (some b)) (hM : ¬ K.M vn vv vf b) (hH : ∀ o v, H b o ≠ some v) (h0 : w0.heap.size <= b) : Sg K H0 M0 w0 H w' bn bv bf vn vv vf names vals found cnt D := by
  obtain ⟨lab, s, t, g⟩ := h
  have hk : ∀ c t, lab c = some t -> w'.heap[c]? = w.heap[c]? := fun c u hc => hg.block c (s.fresh c u hc).2.1 fun e => hM (by cases e; exact t _ u hc)
  exact ⟨lab, s.move (s.sat.block hg.size fun c o v hv => hg.block c (s.sat.lt hv) fun e => by cases e; exact hH _ _ hv) (PH.le.refl H) hk hg.size (fun c t hc => (s.fresh c t hc).2.2), t, ⟨g.le, hg.os.trans g.os, hg.tape.trans g.tape, hg.output.trans g.output, Nat.le_trans g.size hg.size, fun c hc hm => (hg.block c (Nat.lt_of_lt_of_le hc g.size) fun e => by cases e; omega).trans (g.un c hc hm), g.sub, g.new⟩⟩
theorem Sg.back {Hb : PH L} {Mb : Nat -> Prop} {wb : World} (h : Sg K H0 M0 w0 H w bn bv bf vn vv vf names vals found cnt D) (g : Gw Hb Mb wb H0 M0 w0) : Sg K Hb Mb wb H w bn bv bf vn vv vf names vals found cnt D := by
  obtain ⟨lab, s, t, g'⟩ := h
  exact ⟨lab, s, t, g.trans g'⟩
theorem Sg.keeps (h : Sg K H0 M0 w0 H w vn vv vf vn vv vf names vals found cnt D) {M' : Nat -> Prop} (g : Gw H (K.M vn vv vf) w H' M' w') {B : Nat} (hB : K.mb < B) : KeepsFrom B w w' :=
  ⟨g.size, fun k o hk ho hc => (g.un k (jH.1 ho).1 fun hm => by
    obtain ⟨o', h1, h2⟩ := h.cells hm (by omega)
    rw [ho] at h1; cases h1; rw [hc] at h2; cases h2).trans ho⟩
theorem Ur.own {β : Type} {B : Nat} (hB : K.mb < B) (h0 : w0.heap.size <= B) (F : β -> List bS -> Prop) : OwnFrom B (fun s W => ∃ f1, F s f1 /\ Ur K H0 M0 w0 names vals used f1 W) := by
  rintro s X Y row ⟨f1, hf, H1, vn, vv, vf, D, hs, hu⟩ hg hr
  exact ⟨f1, hf, H1, vn, vv, vf, D, hs.own hg (fun r e => hr r e) hB h0, hu⟩
theorem Ur.one {B : Nat} (hB : K.mb < B) (h0 : w0.heap.size <= B) {X Y : World} {row : Option Nat} (h : Ur K H0 M0 w0 names vals used found X) (hg : X.grownBy Y row) (hr : ∀ r, row = some r -> B <= r /\ ∃ o : Obj, X.heap[r]? = some o /\ o.isCells = false) : Ur K H0 M0 w0 names vals used found Y := by
  obtain ⟨H1, vn, vv, vf, D, hs, hu⟩ := h
  exact ⟨H1, vn, vv, vf, D, hs.own hg (fun r e => hr r e) hB h0, hu⟩
theorem Sg.put1 (h : Sg K H0 M0 w0 H w bn bv bf vn vv vf names vals found used.length D) (hu : uo D used) (hn : used.length < 1000000000) {x : Int} (hwf : (Lit.int .i64 x).wf = true) :
    ∃ w' D', (Instr.mapUpdate 115 (.map (some K.mb)) (.int .i64 x) (.int .i64 1)).run Tryz.prog w = .ok () w' /\ Sg K H0 M0 w0 H w' bn bv bf vn vv vf names vals found (x :: used).length D' /\ uo D' (x :: used) := by
  have hm := h.map
  obtain ⟨w', hrun, hm', hg⟩ := hm.update (Maps.int_keyed Tryz.underlying2) Tryz.underlying115 (by unfold maxLen; omega) (Maps.keyOf_int_mk Tryz.underlying2 hwf) (plainElem_int Tryz.underlying3 (a := 1) (by decide))
  exact ⟨w', _, hrun, h.mp hm' hg, hu.put (hm.tidy (Maps.int_keyed Tryz.underlying2)) x⟩
theorem Sg.del1 {x : Int} (h : Sg K H0 M0 w0 H w bn bv bf vn vv vf names vals found (x :: used).length D) (hu : uo D (x :: used)) (hx : x ∉ used) (hwf : (Lit.int .i64 x).wf = true) :
    ∃ w' D', (Builtin.delete_ #[115, 2] 0 #[.map (some K.mb), .int .i64 x]).run Tryz.prog w = .ok (.tuple #[]) w' /\ Sg K H0 M0 w0 H w' bn bv bf vn vv vf names vals found used.length D' /\ uo D' used := by
  have hm := h.map
  obtain ⟨w', hrun, hm', hg⟩ := hm.drop (Maps.int_keyed Tryz.underlying2) Tryz.underlying115 (Maps.keyOf_int_mk Tryz.underlying2 hwf) 0
  have hu' := hu.del (hm.tidy (Maps.int_keyed Tryz.underlying2)) hx
  exact ⟨w', _, hrun, h.mp (Mr hm' hu'.2) hg.grown, hu'⟩
end
end W
end
section
open Go Go.Proofs Ax Go.RowKit
namespace W
attribute [local go_sem] Oper.semAt_some
section
variable {g : Graph} {ts : List qK} {k : RT} {ok : RV}
set_option maxHeartbeats 8000000 in
set_option maxRecDepth 100000 in
theorem Lz {n : Nat} {d : RX} {legs : List RX} {at_ : Int} (hW : ∀ id, RP g id legs ts (nY n g k legs id) (VE n g ok legs id)) : RP g at_ (d :: legs) ts (nY n g k (d :: legs) at_) (VE n g ok (d :: legs) at_) := by
  intro L K H0 H M0 w0 w vn vv vf names vals used found D h hu hlv hg hok vl vt hl ht
  simp only [VE] at hok
  cases hA : zF n g at_ d.dir d.of with
  | none => rw [hA] at hok; cases hok
  | some ar =>
  rw [hA] at hok
  simp only [ji, kde, List.all_eq_true] at hok
  obtain ⟨har, husl, hE, hf1, hf2, hR⟩ := hok
  obtain ⟨f, hf⟩ : ∃ f : Int × Int -> List bS -> Bool × List bS, f = fun e => nY n g k legs e.2 (e.1 :: used) (uF (uF names d.edge.name) d.node.name) (uR (uR vals d.edge.name (GU e.1)) d.node.name (fX e.2)) := ⟨_, rfl⟩
  have hspec : nY n g k (d :: legs) at_ used names vals found = Sq f (sY n g at_ d used ar) found := by simp only [nY, hA, Option.getD_some, hf]
  rw [hspec]
  obtain ⟨P, hPe⟩ : ∃ P : Int × Int -> Prop, P = fun e => e.1 ∉ used /\ VE n g ok legs e.2 (e.1 :: used) (uF (uF names d.edge.name) d.node.name) (uR (uR vals d.edge.name (GU e.1)) d.node.name (fX e.2)) = true := ⟨_, rfl⟩
  have hP : ∀ i ∈ sY n g at_ d used ar, P i := fun i hi => by
    rw [hPe]
    refine ⟨?_, hR i hi⟩
    obtain ⟨e, he, rfl⟩ := List.mem_map.1 hi
    have := (List.mem_filter.1 he).2
    simp only [bP, ji, kde] at this
    exact this.1
  obtain ⟨tb, to, tc, rfl, us, hus, hcell⟩ := CP hl (j := 0) (r := Ld.cells d) rfl
  rw [show (RX.rows (d :: legs)).length = legs.length + 1 by simp [RX.rows]] at hl ⊢
  obtain ⟨l1, k1, v1, l2, k2, v2, rfl, hr1, hr2⟩ := Mj hus
  rw [show (Ld.cells d).length = 10 from Ld.hz d, Nat.zero_mul, Nat.add_zero] at hcell
  have t0 : w.cell? ⟨tb, to, none⟩ = some (.string ⟨d.edge.name.toArray⟩) := (h.sat.cell _ _ _ (hcell 0 _ rfl)).1
  have t1 : w.cell? ⟨tb, to + 1, none⟩ = some (.slice l1.1 l1.2.1 l1.2.2) := (h.sat.cell _ _ _ (hcell 1 _ rfl)).1
  have t2 : w.cell? ⟨tb, to + 2, none⟩ = some (.slice k1.1 k1.2.1 k1.2.2) := (h.sat.cell _ _ _ (hcell 2 _ rfl)).1
  have t3 : w.cell? ⟨tb, to + 3, none⟩ = some (.slice v1.1 v1.2.1 v1.2.2) := (h.sat.cell _ _ _ (hcell 3 _ rfl)).1
  have t4 : w.cell? ⟨tb, to + 4, none⟩ = some (.string ⟨d.of.toArray⟩) := (h.sat.cell _ _ _ (hcell 4 _ rfl)).1
  have t5 : w.cell? ⟨tb, to + 5, none⟩ = some (.int .i64 d.dir) := (h.sat.cell _ _ _ (hcell 5 _ rfl)).1
  have t6 : w.cell? ⟨tb, to + 6, none⟩ = some (.string ⟨d.node.name.toArray⟩) := (h.sat.cell _ _ _ (hcell 6 _ rfl)).1
  have t7 : w.cell? ⟨tb, to + 7, none⟩ = some (.slice l2.1 l2.2.1 l2.2.2) := (h.sat.cell _ _ _ (hcell 7 _ rfl)).1
  have t8 : w.cell? ⟨tb, to + 8, none⟩ = some (.slice k2.1 k2.2.1 k2.2.2) := (h.sat.cell _ _ _ (hcell 8 _ rfl)).1
  have t9 : w.cell? ⟨tb, to + 9, none⟩ = some (.slice v2.1 v2.2.1 v2.2.2) := (h.sat.cell _ _ _ (hcell 9 _ rfl)).1
  obtain ⟨tp, tq, hvt⟩ := zL ht
  subst hvt
  obtain ⟨W4, hW4⟩ : ∃ W4, W4 = (((w.alloc (.cells #[.pointer (some ⟨K.sb, 0, none⟩)] 114)).alloc (.cells #[.slice (some ⟨tb, to, none⟩) (legs.length + 1) tc] 150)).alloc (.cells #[.slice tp (qK.rows ts).length tq] 111)).alloc (.cells #[.bool false] 4) := ⟨_, rfl⟩
  have al : ∀ {a v}, w.cell? a = some v -> W4.cell? a = some v := fun hv => by rw [hW4]; exact zV _ (zV _ (zV _ (zV _ hv)))
  replace t0 := al t0
  replace t1 := al t1
  replace t2 := al t2
  replace t3 := al t3
  replace t4 := al t4
  replace t5 := al t5
  replace t6 := al t6
  replace t7 := al t7
  replace t8 := al t8
  replace t9 := al t9
  clear al
  subst hW4
  have hb := h.box
  have s0 : w.cell? ⟨K.sb, 0, none⟩ = some K.g1 := qc hb 0 rfl
  have z0 : ¬ ((legs.length : Int) + 1 = 0) := by omega
  have z1 : (0 : Int) < (legs.length : Int) + 1 := by omega
  have hf1' := hf1
  have hl' := hl
  replace h := Hd.mk h; replace hu := Hd.mk hu; replace hg := Hd.mk hg; replace hE := Hd.mk hE; replace hR := Hd.mk hR; replace hP := Hd.mk hP; replace hW := Hd.mk hW; replace hl' := Hd.mk hl'; replace ht := Hd.mk ht; replace hus := Hd.mk hus; replace hcell := Hd.mk hcell; replace hb := Hd.mk hb; replace hspec := Hd.mk hspec; replace hf := Hd.mk hf; replace hPe := Hd.mk hPe; replace hr1 := Hd.mk hr1; replace hr2 := Hd.mk hr2; replace hf1' := Hd.mk hf1'; replace hf2 := Hd.mk hf2; replace hA := Hd.mk hA
  clear hl hf1
  refine (callsIn_wide (n := 6)).1 ?_
  refine callsIn_of_wp_marks Tryz.func71 rfl trivial ?_ rfl
  simp only [Tryz.ntmps71, jL, ja, jc, Nat.reduceAdd, Nat.reduceSub, Array.replicate_succ, Array.replicate_zero, List.push_toArray, List.append_toArray, jt, List.cons_append]
  gi_wp2_with (
    refine ⟨trivial, ?_⟩; gi_at_call 101; refine (callsIn_wide.2 (LU (K := K) _ at_ ⟨d.edge.name.toArray⟩ ⟨d.of.toArray⟩ ⟨d.node.name.toArray⟩ d.dir l1 k1 v1 l2 k2 v2)).mono ?_; rintro e w' ⟨rfl, rfl⟩)
  have h8 : Sg K H0 M0 w0 H ((((((((w.alloc (.cells #[.pointer (some ⟨K.sb, 0, none⟩)] 114)).alloc (.cells #[.slice (some ⟨tb, to, none⟩) (legs.length + 1) tc] 150)).alloc (.cells #[.slice tp (qK.rows ts).length tq] 111)).alloc (.cells #[.bool false] 4)).alloc (.cells #[.string ⟨d.edge.name.toArray⟩, .slice l1.1 l1.2.1 l1.2.2, .slice k1.1 k1.2.1 k1.2.2, .slice v1.1 v1.2.1 v1.2.2, .string ⟨d.of.toArray⟩, .int .i64 d.dir, .string ⟨d.node.name.toArray⟩, .slice l2.1 l2.2.1 l2.2.2, .slice k2.1 k2.2.1 k2.2.2, .slice v2.1 v2.2.1 v2.2.2] 154)).alloc (.cells #[.pointer (some ⟨K.sb, 0, none⟩)] 114)).alloc (.cells #[.int .i64 at_] 2)).alloc (.cells #[.string ⟨d.edge.name.toArray⟩, .slice l1.1 l1.2.1 l1.2.2, .slice k1.1 k1.2.1 k1.2.2, .slice v1.1 v1.2.1 v1.2.2, .string ⟨d.of.toArray⟩, .int .i64 d.dir, .string ⟨d.node.name.toArray⟩, .slice l2.1 l2.2.1 l2.2.2, .slice k2.1 k2.2.1 k2.2.2, .slice v2.1 v2.2.1 v2.2.2] 154)) vn vv vf vn vv vf names vals found used.length D := ((((((((h.h.alloc _).alloc _).alloc _).alloc _).alloc _).alloc _).alloc _).alloc _)
  have bl8 : Below w.heap.size w ((((((((w.alloc (.cells #[.pointer (some ⟨K.sb, 0, none⟩)] 114)).alloc (.cells #[.slice (some ⟨tb, to, none⟩) (legs.length + 1) tc] 150)).alloc (.cells #[.slice tp (qK.rows ts).length tq] 111)).alloc (.cells #[.bool false] 4)).alloc (.cells #[.string ⟨d.edge.name.toArray⟩, .slice l1.1 l1.2.1 l1.2.2, .slice k1.1 k1.2.1 k1.2.2, .slice v1.1 v1.2.1 v1.2.2, .string ⟨d.of.toArray⟩, .int .i64 d.dir, .string ⟨d.node.name.toArray⟩, .slice l2.1 l2.2.1 l2.2.2, .slice k2.1 k2.2.1 k2.2.2, .slice v2.1 v2.2.1 v2.2.2] 154)).alloc (.cells #[.pointer (some ⟨K.sb, 0, none⟩)] 114)).alloc (.cells #[.int .i64 at_] 2)).alloc (.cells #[.string ⟨d.edge.name.toArray⟩, .slice l1.1 l1.2.1 l1.2.2, .slice k1.1 k1.2.1 k1.2.2, .slice v1.1 v1.2.1 v1.2.2, .string ⟨d.of.toArray⟩, .int .i64 d.dir, .string ⟨d.node.name.toArray⟩, .slice l2.1 l2.2.1 l2.2.2, .slice k2.1 k2.2.1 k2.2.2, .slice v2.1 v2.2.1 v2.2.2] 154)) := (((((((((Below.refl _ w).alloc (jv _) _).alloc (by simp) _).alloc (by simp <;> omega) _).alloc (by simp <;> omega) _).alloc (by simp <;> omega) _).alloc (by simp <;> omega) _).alloc (by simp <;> omega) _).alloc (by simp <;> omega) _)
  have sz8 : ((((((((w.alloc (.cells #[.pointer (some ⟨K.sb, 0, none⟩)] 114)).alloc (.cells #[.slice (some ⟨tb, to, none⟩) (legs.length + 1) tc] 150)).alloc (.cells #[.slice tp (qK.rows ts).length tq] 111)).alloc (.cells #[.bool false] 4)).alloc (.cells #[.string ⟨d.edge.name.toArray⟩, .slice l1.1 l1.2.1 l1.2.2, .slice k1.1 k1.2.1 k1.2.2, .slice v1.1 v1.2.1 v1.2.2, .string ⟨d.of.toArray⟩, .int .i64 d.dir, .string ⟨d.node.name.toArray⟩, .slice l2.1 l2.2.1 l2.2.2, .slice k2.1 k2.2.1 k2.2.2, .slice v2.1 v2.2.1 v2.2.2] 154)).alloc (.cells #[.pointer (some ⟨K.sb, 0, none⟩)] 114)).alloc (.cells #[.int .i64 at_] 2)).alloc (.cells #[.string ⟨d.edge.name.toArray⟩, .slice l1.1 l1.2.1 l1.2.2, .slice k1.1 k1.2.1 k1.2.2, .slice v1.1 v1.2.1 v1.2.2, .string ⟨d.of.toArray⟩, .int .i64 d.dir, .string ⟨d.node.name.toArray⟩, .slice l2.1 l2.2.1 l2.2.2, .slice k2.1 k2.2.1 k2.2.2, .slice v2.1 v2.2.1 v2.2.2] 154)).heap.size = w.heap.size + 8 := by simp
  have q0 : ((((((((w.alloc (.cells #[.pointer (some ⟨K.sb, 0, none⟩)] 114)).alloc (.cells #[.slice (some ⟨tb, to, none⟩) (legs.length + 1) tc] 150)).alloc (.cells #[.slice tp (qK.rows ts).length tq] 111)).alloc (.cells #[.bool false] 4)).alloc (.cells #[.string ⟨d.edge.name.toArray⟩, .slice l1.1 l1.2.1 l1.2.2, .slice k1.1 k1.2.1 k1.2.2, .slice v1.1 v1.2.1 v1.2.2, .string ⟨d.of.toArray⟩, .int .i64 d.dir, .string ⟨d.node.name.toArray⟩, .slice l2.1 l2.2.1 l2.2.2, .slice k2.1 k2.2.1 k2.2.2, .slice v2.1 v2.2.1 v2.2.2] 154)).alloc (.cells #[.pointer (some ⟨K.sb, 0, none⟩)] 114)).alloc (.cells #[.int .i64 at_] 2)).alloc (.cells #[.string ⟨d.edge.name.toArray⟩, .slice l1.1 l1.2.1 l1.2.2, .slice k1.1 k1.2.1 k1.2.2, .slice v1.1 v1.2.1 v1.2.2, .string ⟨d.of.toArray⟩, .int .i64 d.dir, .string ⟨d.node.name.toArray⟩, .slice l2.1 l2.2.1 l2.2.2, .slice k2.1 k2.2.1 k2.2.2, .slice v2.1 v2.2.1 v2.2.2] 154)).heap[w.heap.size]? = some (.cells #[.pointer (some ⟨K.sb, 0, none⟩)] 114) := (heap_alloc_old (((((((w.alloc (.cells #[.pointer (some ⟨K.sb, 0, none⟩)] 114)).alloc (.cells #[.slice (some ⟨tb, to, none⟩) (legs.length + 1) tc] 150)).alloc (.cells #[.slice tp (qK.rows ts).length tq] 111)).alloc (.cells #[.bool false] 4)).alloc (.cells #[.string ⟨d.edge.name.toArray⟩, .slice l1.1 l1.2.1 l1.2.2, .slice k1.1 k1.2.1 k1.2.2, .slice v1.1 v1.2.1 v1.2.2, .string ⟨d.of.toArray⟩, .int .i64 d.dir, .string ⟨d.node.name.toArray⟩, .slice l2.1 l2.2.1 l2.2.2, .slice k2.1 k2.2.1 k2.2.2, .slice v2.1 v2.2.1 v2.2.2] 154)).alloc (.cells #[.pointer (some ⟨K.sb, 0, none⟩)] 114)).alloc (.cells #[.int .i64 at_] 2)) _ (by simp <;> omega)).trans ((heap_alloc_old ((((((w.alloc (.cells #[.pointer (some ⟨K.sb, 0, none⟩)] 114)).alloc (.cells #[.slice (some ⟨tb, to, none⟩) (legs.length + 1) tc] 150)).alloc (.cells #[.slice tp (qK.rows ts).length tq] 111)).alloc (.cells #[.bool false] 4)).alloc (.cells #[.string ⟨d.edge.name.toArray⟩, .slice l1.1 l1.2.1 l1.2.2, .slice k1.1 k1.2.1 k1.2.2, .slice v1.1 v1.2.1 v1.2.2, .string ⟨d.of.toArray⟩, .int .i64 d.dir, .string ⟨d.node.name.toArray⟩, .slice l2.1 l2.2.1 l2.2.2, .slice k2.1 k2.2.1 k2.2.2, .slice v2.1 v2.2.1 v2.2.2] 154)).alloc (.cells #[.pointer (some ⟨K.sb, 0, none⟩)] 114)) _ (by simp <;> omega)).trans ((heap_alloc_old (((((w.alloc (.cells #[.pointer (some ⟨K.sb, 0, none⟩)] 114)).alloc (.cells #[.slice (some ⟨tb, to, none⟩) (legs.length + 1) tc] 150)).alloc (.cells #[.slice tp (qK.rows ts).length tq] 111)).alloc (.cells #[.bool false] 4)).alloc (.cells #[.string ⟨d.edge.name.toArray⟩, .slice l1.1 l1.2.1 l1.2.2, .slice k1.1 k1.2.1 k1.2.2, .slice v1.1 v1.2.1 v1.2.2, .string ⟨d.of.toArray⟩, .int .i64 d.dir, .string ⟨d.node.name.toArray⟩, .slice l2.1 l2.2.1 l2.2.2, .slice k2.1 k2.2.1 k2.2.2, .slice v2.1 v2.2.1 v2.2.2] 154)) _ (by simp <;> omega)).trans ((heap_alloc_old ((((w.alloc (.cells #[.pointer (some ⟨K.sb, 0, none⟩)] 114)).alloc (.cells #[.slice (some ⟨tb, to, none⟩) (legs.length + 1) tc] 150)).alloc (.cells #[.slice tp (qK.rows ts).length tq] 111)).alloc (.cells #[.bool false] 4)) _ (by simp <;> omega)).trans ((heap_alloc_old (((w.alloc (.cells #[.pointer (some ⟨K.sb, 0, none⟩)] 114)).alloc (.cells #[.slice (some ⟨tb, to, none⟩) (legs.length + 1) tc] 150)).alloc (.cells #[.slice tp (qK.rows ts).length tq] 111)) _ (by simp <;> omega)).trans ((heap_alloc_old ((w.alloc (.cells #[.pointer (some ⟨K.sb, 0, none⟩)] 114)).alloc (.cells #[.slice (some ⟨tb, to, none⟩) (legs.length + 1) tc] 150)) _ (by simp <;> omega)).trans ((heap_alloc_old (w.alloc (.cells #[.pointer (some ⟨K.sb, 0, none⟩)] 114)) _ (by simp <;> omega)).trans (World.alloc_heap_new w _)))))))
  have q1 : ((((((((w.alloc (.cells #[.pointer (some ⟨K.sb, 0, none⟩)] 114)).alloc (.cells #[.slice (some ⟨tb, to, none⟩) (legs.length + 1) tc] 150)).alloc (.cells #[.slice tp (qK.rows ts).length tq] 111)).alloc (.cells #[.bool false] 4)).alloc (.cells #[.string ⟨d.edge.name.toArray⟩, .slice l1.1 l1.2.1 l1.2.2, .slice k1.1 k1.2.1 k1.2.2, .slice v1.1 v1.2.1 v1.2.2, .string ⟨d.of.toArray⟩, .int .i64 d.dir, .string ⟨d.node.name.toArray⟩, .slice l2.1 l2.2.1 l2.2.2, .slice k2.1 k2.2.1 k2.2.2, .slice v2.1 v2.2.1 v2.2.2] 154)).alloc (.cells #[.pointer (some ⟨K.sb, 0, none⟩)] 114)).alloc (.cells #[.int .i64 at_] 2)).alloc (.cells #[.string ⟨d.edge.name.toArray⟩, .slice l1.1 l1.2.1 l1.2.2, .slice k1.1 k1.2.1 k1.2.2, .slice v1.1 v1.2.1 v1.2.2, .string ⟨d.of.toArray⟩, .int .i64 d.dir, .string ⟨d.node.name.toArray⟩, .slice l2.1 l2.2.1 l2.2.2, .slice k2.1 k2.2.1 k2.2.2, .slice v2.1 v2.2.1 v2.2.2] 154)).heap[w.heap.size + 1]? = some (.cells #[.slice (some ⟨tb, to, none⟩) (legs.length + 1) tc] 150) := (heap_alloc_old (((((((w.alloc (.cells #[.pointer (some ⟨K.sb, 0, none⟩)] 114)).alloc (.cells #[.slice (some ⟨tb, to, none⟩) (legs.length + 1) tc] 150)).alloc (.cells #[.slice tp (qK.rows ts).length tq] 111)).alloc (.cells #[.bool false] 4)).alloc (.cells #[.string ⟨d.edge.name.toArray⟩, .slice l1.1 l1.2.1 l1.2.2, .slice k1.1 k1.2.1 k1.2.2, .slice v1.1 v1.2.1 v1.2.2, .string ⟨d.of.toArray⟩, .int .i64 d.dir, .string ⟨d.node.name.toArray⟩, .slice l2.1 l2.2.1 l2.2.2, .slice k2.1 k2.2.1 k2.2.2, .slice v2.1 v2.2.1 v2.2.2] 154)).alloc (.cells #[.pointer (some ⟨K.sb, 0, none⟩)] 114)).alloc (.cells #[.int .i64 at_] 2)) _ (by simp <;> omega)).trans ((heap_alloc_old ((((((w.alloc (.cells #[.pointer (some ⟨K.sb, 0, none⟩)] 114)).alloc (.cells #[.slice (some ⟨tb, to, none⟩) (legs.length + 1) tc] 150)).alloc (.cells #[.slice tp (qK.rows ts).length tq] 111)).alloc (.cells #[.bool false] 4)).alloc (.cells #[.string ⟨d.edge.name.toArray⟩, .slice l1.1 l1.2.1 l1.2.2, .slice k1.1 k1.2.1 k1.2.2, .slice v1.1 v1.2.1 v1.2.2, .string ⟨d.of.toArray⟩, .int .i64 d.dir, .string ⟨d.node.name.toArray⟩, .slice l2.1 l2.2.1 l2.2.2, .slice k2.1 k2.2.1 k2.2.2, .slice v2.1 v2.2.1 v2.2.2] 154)).alloc (.cells #[.pointer (some ⟨K.sb, 0, none⟩)] 114)) _ (by simp <;> omega)).trans ((heap_alloc_old (((((w.alloc (.cells #[.pointer (some ⟨K.sb, 0, none⟩)] 114)).alloc (.cells #[.slice (some ⟨tb, to, none⟩) (legs.length + 1) tc] 150)).alloc (.cells #[.slice tp (qK.rows ts).length tq] 111)).alloc (.cells #[.bool false] 4)).alloc (.cells #[.string ⟨d.edge.name.toArray⟩, .slice l1.1 l1.2.1 l1.2.2, .slice k1.1 k1.2.1 k1.2.2, .slice v1.1 v1.2.1 v1.2.2, .string ⟨d.of.toArray⟩, .int .i64 d.dir, .string ⟨d.node.name.toArray⟩, .slice l2.1 l2.2.1 l2.2.2, .slice k2.1 k2.2.1 k2.2.2, .slice v2.1 v2.2.1 v2.2.2] 154)) _ (by simp <;> omega)).trans ((heap_alloc_old ((((w.alloc (.cells #[.pointer (some ⟨K.sb, 0, none⟩)] 114)).alloc (.cells #[.slice (some ⟨tb, to, none⟩) (legs.length + 1) tc] 150)).alloc (.cells #[.slice tp (qK.rows ts).length tq] 111)).alloc (.cells #[.bool false] 4)) _ (by simp <;> omega)).trans ((heap_alloc_old (((w.alloc (.cells #[.pointer (some ⟨K.sb, 0, none⟩)] 114)).alloc (.cells #[.slice (some ⟨tb, to, none⟩) (legs.length + 1) tc] 150)).alloc (.cells #[.slice tp (qK.rows ts).length tq] 111)) _ (by simp <;> omega)).trans ((heap_alloc_old ((w.alloc (.cells #[.pointer (some ⟨K.sb, 0, none⟩)] 114)).alloc (.cells #[.slice (some ⟨tb, to, none⟩) (legs.length + 1) tc] 150)) _ (by simp <;> omega)).trans (xl (w.alloc (.cells #[.pointer (some ⟨K.sb, 0, none⟩)] 114)) _ (w.heap.size + 1) (by simp)))))))
  have q2 : ((((((((w.alloc (.cells #[.pointer (some ⟨K.sb, 0, none⟩)] 114)).alloc (.cells #[.slice (some ⟨tb, to, none⟩) (legs.length + 1) tc] 150)).alloc (.cells #[.slice tp (qK.rows ts).length tq] 111)).alloc (.cells #[.bool false] 4)).alloc (.cells #[.string ⟨d.edge.name.toArray⟩, .slice l1.1 l1.2.1 l1.2.2, .slice k1.1 k1.2.1 k1.2.2, .slice v1.1 v1.2.1 v1.2.2, .string ⟨d.of.toArray⟩, .int .i64 d.dir, .string ⟨d.node.name.toArray⟩, .slice l2.1 l2.2.1 l2.2.2, .slice k2.1 k2.2.1 k2.2.2, .slice v2.1 v2.2.1 v2.2.2] 154)).alloc (.cells #[.pointer (some ⟨K.sb, 0, none⟩)] 114)).alloc (.cells #[.int .i64 at_] 2)).alloc (.cells #[.string ⟨d.edge.name.toArray⟩, .slice l1.1 l1.2.1 l1.2.2, .slice k1.1 k1.2.1 k1.2.2, .slice v1.1 v1.2.1 v1.2.2, .string ⟨d.of.toArray⟩, .int .i64 d.dir, .string ⟨d.node.name.toArray⟩, .slice l2.1 l2.2.1 l2.2.2, .slice k2.1 k2.2.1 k2.2.2, .slice v2.1 v2.2.1 v2.2.2] 154)).heap[w.heap.size + 1 + 1]? = some (.cells #[.slice tp (qK.rows ts).length tq] 111) := (heap_alloc_old (((((((w.alloc (.cells #[.pointer (some ⟨K.sb, 0, none⟩)] 114)).alloc (.cells #[.slice (some ⟨tb, to, none⟩) (legs.length + 1) tc] 150)).alloc (.cells #[.slice tp (qK.rows ts).length tq] 111)).alloc (.cells #[.bool false] 4)).alloc (.cells #[.string ⟨d.edge.name.toArray⟩, .slice l1.1 l1.2.1 l1.2.2, .slice k1.1 k1.2.1 k1.2.2, .slice v1.1 v1.2.1 v1.2.2, .string ⟨d.of.toArray⟩, .int .i64 d.dir, .string ⟨d.node.name.toArray⟩, .slice l2.1 l2.2.1 l2.2.2, .slice k2.1 k2.2.1 k2.2.2, .slice v2.1 v2.2.1 v2.2.2] 154)).alloc (.cells #[.pointer (some ⟨K.sb, 0, none⟩)] 114)).alloc (.cells #[.int .i64 at_] 2)) _ (by simp <;> omega)).trans ((heap_alloc_old ((((((w.alloc (.cells #[.pointer (some ⟨K.sb, 0, none⟩)] 114)).alloc (.cells #[.slice (some ⟨tb, to, none⟩) (legs.length + 1) tc] 150)).alloc (.cells #[.slice tp (qK.rows ts).length tq] 111)).alloc (.cells #[.bool false] 4)).alloc (.cells #[.string ⟨d.edge.name.toArray⟩, .slice l1.1 l1.2.1 l1.2.2, .slice k1.1 k1.2.1 k1.2.2, .slice v1.1 v1.2.1 v1.2.2, .string ⟨d.of.toArray⟩, .int .i64 d.dir, .string ⟨d.node.name.toArray⟩, .slice l2.1 l2.2.1 l2.2.2, .slice k2.1 k2.2.1 k2.2.2, .slice v2.1 v2.2.1 v2.2.2] 154)).alloc (.cells #[.pointer (some ⟨K.sb, 0, none⟩)] 114)) _ (by simp <;> omega)).trans ((heap_alloc_old (((((w.alloc (.cells #[.pointer (some ⟨K.sb, 0, none⟩)] 114)).alloc (.cells #[.slice (some ⟨tb, to, none⟩) (legs.length + 1) tc] 150)).alloc (.cells #[.slice tp (qK.rows ts).length tq] 111)).alloc (.cells #[.bool false] 4)).alloc (.cells #[.string ⟨d.edge.name.toArray⟩, .slice l1.1 l1.2.1 l1.2.2, .slice k1.1 k1.2.1 k1.2.2, .slice v1.1 v1.2.1 v1.2.2, .string ⟨d.of.toArray⟩, .int .i64 d.dir, .string ⟨d.node.name.toArray⟩, .slice l2.1 l2.2.1 l2.2.2, .slice k2.1 k2.2.1 k2.2.2, .slice v2.1 v2.2.1 v2.2.2] 154)) _ (by simp <;> omega)).trans ((heap_alloc_old ((((w.alloc (.cells #[.pointer (some ⟨K.sb, 0, none⟩)] 114)).alloc (.cells #[.slice (some ⟨tb, to, none⟩) (legs.length + 1) tc] 150)).alloc (.cells #[.slice tp (qK.rows ts).length tq] 111)).alloc (.cells #[.bool false] 4)) _ (by simp <;> omega)).trans ((heap_alloc_old (((w.alloc (.cells #[.pointer (some ⟨K.sb, 0, none⟩)] 114)).alloc (.cells #[.slice (some ⟨tb, to, none⟩) (legs.length + 1) tc] 150)).alloc (.cells #[.slice tp (qK.rows ts).length tq] 111)) _ (by simp <;> omega)).trans (xl ((w.alloc (.cells #[.pointer (some ⟨K.sb, 0, none⟩)] 114)).alloc (.cells #[.slice (some ⟨tb, to, none⟩) (legs.length + 1) tc] 150)) _ (w.heap.size + 1 + 1) (by simp))))))
  have q3 : ((((((((w.alloc (.cells #[.pointer (some ⟨K.sb, 0, none⟩)] 114)).alloc (.cells #[.slice (some ⟨tb, to, none⟩) (legs.length + 1) tc] 150)).alloc (.cells #[.slice tp (qK.rows ts).length tq] 111)).alloc (.cells #[.bool false] 4)).alloc (.cells #[.string ⟨d.edge.name.toArray⟩, .slice l1.1 l1.2.1 l1.2.2, .slice k1.1 k1.2.1 k1.2.2, .slice v1.1 v1.2.1 v1.2.2, .string ⟨d.of.toArray⟩, .int .i64 d.dir, .string ⟨d.node.name.toArray⟩, .slice l2.1 l2.2.1 l2.2.2, .slice k2.1 k2.2.1 k2.2.2, .slice v2.1 v2.2.1 v2.2.2] 154)).alloc (.cells #[.pointer (some ⟨K.sb, 0, none⟩)] 114)).alloc (.cells #[.int .i64 at_] 2)).alloc (.cells #[.string ⟨d.edge.name.toArray⟩, .slice l1.1 l1.2.1 l1.2.2, .slice k1.1 k1.2.1 k1.2.2, .slice v1.1 v1.2.1 v1.2.2, .string ⟨d.of.toArray⟩, .int .i64 d.dir, .string ⟨d.node.name.toArray⟩, .slice l2.1 l2.2.1 l2.2.2, .slice k2.1 k2.2.1 k2.2.2, .slice v2.1 v2.2.1 v2.2.2] 154)).heap[w.heap.size + 1 + 1 + 1]? = some (.cells #[.bool false] 4) := (heap_alloc_old (((((((w.alloc (.cells #[.pointer (some ⟨K.sb, 0, none⟩)] 114)).alloc (.cells #[.slice (some ⟨tb, to, none⟩) (legs.length + 1) tc] 150)).alloc (.cells #[.slice tp (qK.rows ts).length tq] 111)).alloc (.cells #[.bool false] 4)).alloc (.cells #[.string ⟨d.edge.name.toArray⟩, .slice l1.1 l1.2.1 l1.2.2, .slice k1.1 k1.2.1 k1.2.2, .slice v1.1 v1.2.1 v1.2.2, .string ⟨d.of.toArray⟩, .int .i64 d.dir, .string ⟨d.node.name.toArray⟩, .slice l2.1 l2.2.1 l2.2.2, .slice k2.1 k2.2.1 k2.2.2, .slice v2.1 v2.2.1 v2.2.2] 154)).alloc (.cells #[.pointer (some ⟨K.sb, 0, none⟩)] 114)).alloc (.cells #[.int .i64 at_] 2)) _ (by simp <;> omega)).trans ((heap_alloc_old ((((((w.alloc (.cells #[.pointer (some ⟨K.sb, 0, none⟩)] 114)).alloc (.cells #[.slice (some ⟨tb, to, none⟩) (legs.length + 1) tc] 150)).alloc (.cells #[.slice tp (qK.rows ts).length tq] 111)).alloc (.cells #[.bool false] 4)).alloc (.cells #[.string ⟨d.edge.name.toArray⟩, .slice l1.1 l1.2.1 l1.2.2, .slice k1.1 k1.2.1 k1.2.2, .slice v1.1 v1.2.1 v1.2.2, .string ⟨d.of.toArray⟩, .int .i64 d.dir, .string ⟨d.node.name.toArray⟩, .slice l2.1 l2.2.1 l2.2.2, .slice k2.1 k2.2.1 k2.2.2, .slice v2.1 v2.2.1 v2.2.2] 154)).alloc (.cells #[.pointer (some ⟨K.sb, 0, none⟩)] 114)) _ (by simp <;> omega)).trans ((heap_alloc_old (((((w.alloc (.cells #[.pointer (some ⟨K.sb, 0, none⟩)] 114)).alloc (.cells #[.slice (some ⟨tb, to, none⟩) (legs.length + 1) tc] 150)).alloc (.cells #[.slice tp (qK.rows ts).length tq] 111)).alloc (.cells #[.bool false] 4)).alloc (.cells #[.string ⟨d.edge.name.toArray⟩, .slice l1.1 l1.2.1 l1.2.2, .slice k1.1 k1.2.1 k1.2.2, .slice v1.1 v1.2.1 v1.2.2, .string ⟨d.of.toArray⟩, .int .i64 d.dir, .string ⟨d.node.name.toArray⟩, .slice l2.1 l2.2.1 l2.2.2, .slice k2.1 k2.2.1 k2.2.2, .slice v2.1 v2.2.1 v2.2.2] 154)) _ (by simp <;> omega)).trans ((heap_alloc_old ((((w.alloc (.cells #[.pointer (some ⟨K.sb, 0, none⟩)] 114)).alloc (.cells #[.slice (some ⟨tb, to, none⟩) (legs.length + 1) tc] 150)).alloc (.cells #[.slice tp (qK.rows ts).length tq] 111)).alloc (.cells #[.bool false] 4)) _ (by simp <;> omega)).trans (xl (((w.alloc (.cells #[.pointer (some ⟨K.sb, 0, none⟩)] 114)).alloc (.cells #[.slice (some ⟨tb, to, none⟩) (legs.length + 1) tc] 150)).alloc (.cells #[.slice tp (qK.rows ts).length tq] 111)) _ (w.heap.size + 1 + 1 + 1) (by simp)))))
  have q4 : ((((((((w.alloc (.cells #[.pointer (some ⟨K.sb, 0, none⟩)] 114)).alloc (.cells #[.slice (some ⟨tb, to, none⟩) (legs.length + 1) tc] 150)).alloc (.cells #[.slice tp (qK.rows ts).length tq] 111)).alloc (.cells #[.bool false] 4)).alloc (.cells #[.string ⟨d.edge.name.toArray⟩, .slice l1.1 l1.2.1 l1.2.2, .slice k1.1 k1.2.1 k1.2.2, .slice v1.1 v1.2.1 v1.2.2, .string ⟨d.of.toArray⟩, .int .i64 d.dir, .string ⟨d.node.name.toArray⟩, .slice l2.1 l2.2.1 l2.2.2, .slice k2.1 k2.2.1 k2.2.2, .slice v2.1 v2.2.1 v2.2.2] 154)).alloc (.cells #[.pointer (some ⟨K.sb, 0, none⟩)] 114)).alloc (.cells #[.int .i64 at_] 2)).alloc (.cells #[.string ⟨d.edge.name.toArray⟩, .slice l1.1 l1.2.1 l1.2.2, .slice k1.1 k1.2.1 k1.2.2, .slice v1.1 v1.2.1 v1.2.2, .string ⟨d.of.toArray⟩, .int .i64 d.dir, .string ⟨d.node.name.toArray⟩, .slice l2.1 l2.2.1 l2.2.2, .slice k2.1 k2.2.1 k2.2.2, .slice v2.1 v2.2.1 v2.2.2] 154)).heap[w.heap.size + 1 + 1 + 1 + 1]? = some (.cells #[.string ⟨d.edge.name.toArray⟩, .slice l1.1 l1.2.1 l1.2.2, .slice k1.1 k1.2.1 k1.2.2, .slice v1.1 v1.2.1 v1.2.2, .string ⟨d.of.toArray⟩, .int .i64 d.dir, .string ⟨d.node.name.toArray⟩, .slice l2.1 l2.2.1 l2.2.2, .slice k2.1 k2.2.1 k2.2.2, .slice v2.1 v2.2.1 v2.2.2] 154) := (heap_alloc_old (((((((w.alloc (.cells #[.pointer (some ⟨K.sb, 0, none⟩)] 114)).alloc (.cells #[.slice (some ⟨tb, to, none⟩) (legs.length + 1) tc] 150)).alloc (.cells #[.slice tp (qK.rows ts).length tq] 111)).alloc (.cells #[.bool false] 4)).alloc (.cells #[.string ⟨d.edge.name.toArray⟩, .slice l1.1 l1.2.1 l1.2.2, .slice k1.1 k1.2.1 k1.2.2, .slice v1.1 v1.2.1 v1.2.2, .string ⟨d.of.toArray⟩, .int .i64 d.dir, .string ⟨d.node.name.toArray⟩, .slice l2.1 l2.2.1 l2.2.2, .slice k2.1 k2.2.1 k2.2.2, .slice v2.1 v2.2.1 v2.2.2] 154)).alloc (.cells #[.pointer (some ⟨K.sb, 0, none⟩)] 114)).alloc (.cells #[.int .i64 at_] 2)) _ (by simp <;> omega)).trans ((heap_alloc_old ((((((w.alloc (.cells #[.pointer (some ⟨K.sb, 0, none⟩)] 114)).alloc (.cells #[.slice (some ⟨tb, to, none⟩) (legs.length + 1) tc] 150)).alloc (.cells #[.slice tp (qK.rows ts).length tq] 111)).alloc (.cells #[.bool false] 4)).alloc (.cells #[.string ⟨d.edge.name.toArray⟩, .slice l1.1 l1.2.1 l1.2.2, .slice k1.1 k1.2.1 k1.2.2, .slice v1.1 v1.2.1 v1.2.2, .string ⟨d.of.toArray⟩, .int .i64 d.dir, .string ⟨d.node.name.toArray⟩, .slice l2.1 l2.2.1 l2.2.2, .slice k2.1 k2.2.1 k2.2.2, .slice v2.1 v2.2.1 v2.2.2] 154)).alloc (.cells #[.pointer (some ⟨K.sb, 0, none⟩)] 114)) _ (by simp <;> omega)).trans ((heap_alloc_old (((((w.alloc (.cells #[.pointer (some ⟨K.sb, 0, none⟩)] 114)).alloc (.cells #[.slice (some ⟨tb, to, none⟩) (legs.length + 1) tc] 150)).alloc (.cells #[.slice tp (qK.rows ts).length tq] 111)).alloc (.cells #[.bool false] 4)).alloc (.cells #[.string ⟨d.edge.name.toArray⟩, .slice l1.1 l1.2.1 l1.2.2, .slice k1.1 k1.2.1 k1.2.2, .slice v1.1 v1.2.1 v1.2.2, .string ⟨d.of.toArray⟩, .int .i64 d.dir, .string ⟨d.node.name.toArray⟩, .slice l2.1 l2.2.1 l2.2.2, .slice k2.1 k2.2.1 k2.2.2, .slice v2.1 v2.2.1 v2.2.2] 154)) _ (by simp <;> omega)).trans (xl ((((w.alloc (.cells #[.pointer (some ⟨K.sb, 0, none⟩)] 114)).alloc (.cells #[.slice (some ⟨tb, to, none⟩) (legs.length + 1) tc] 150)).alloc (.cells #[.slice tp (qK.rows ts).length tq] 111)).alloc (.cells #[.bool false] 4)) _ (w.heap.size + 1 + 1 + 1 + 1) (by simp))))
  have q5 : ((((((((w.alloc (.cells #[.pointer (some ⟨K.sb, 0, none⟩)] 114)).alloc (.cells #[.slice (some ⟨tb, to, none⟩) (legs.length + 1) tc] 150)).alloc (.cells #[.slice tp (qK.rows ts).length tq] 111)).alloc (.cells #[.bool false] 4)).alloc (.cells #[.string ⟨d.edge.name.toArray⟩, .slice l1.1 l1.2.1 l1.2.2, .slice k1.1 k1.2.1 k1.2.2, .slice v1.1 v1.2.1 v1.2.2, .string ⟨d.of.toArray⟩, .int .i64 d.dir, .string ⟨d.node.name.toArray⟩, .slice l2.1 l2.2.1 l2.2.2, .slice k2.1 k2.2.1 k2.2.2, .slice v2.1 v2.2.1 v2.2.2] 154)).alloc (.cells #[.pointer (some ⟨K.sb, 0, none⟩)] 114)).alloc (.cells #[.int .i64 at_] 2)).alloc (.cells #[.string ⟨d.edge.name.toArray⟩, .slice l1.1 l1.2.1 l1.2.2, .slice k1.1 k1.2.1 k1.2.2, .slice v1.1 v1.2.1 v1.2.2, .string ⟨d.of.toArray⟩, .int .i64 d.dir, .string ⟨d.node.name.toArray⟩, .slice l2.1 l2.2.1 l2.2.2, .slice k2.1 k2.2.1 k2.2.2, .slice v2.1 v2.2.1 v2.2.2] 154)).heap[w.heap.size + 1 + 1 + 1 + 1 + 1]? = some (.cells #[.pointer (some ⟨K.sb, 0, none⟩)] 114) := (heap_alloc_old (((((((w.alloc (.cells #[.pointer (some ⟨K.sb, 0, none⟩)] 114)).alloc (.cells #[.slice (some ⟨tb, to, none⟩) (legs.length + 1) tc] 150)).alloc (.cells #[.slice tp (qK.rows ts).length tq] 111)).alloc (.cells #[.bool false] 4)).alloc (.cells #[.string ⟨d.edge.name.toArray⟩, .slice l1.1 l1.2.1 l1.2.2, .slice k1.1 k1.2.1 k1.2.2, .slice v1.1 v1.2.1 v1.2.2, .string ⟨d.of.toArray⟩, .int .i64 d.dir, .string ⟨d.node.name.toArray⟩, .slice l2.1 l2.2.1 l2.2.2, .slice k2.1 k2.2.1 k2.2.2, .slice v2.1 v2.2.1 v2.2.2] 154)).alloc (.cells #[.pointer (some ⟨K.sb, 0, none⟩)] 114)).alloc (.cells #[.int .i64 at_] 2)) _ (by simp <;> omega)).trans ((heap_alloc_old ((((((w.alloc (.cells #[.pointer (some ⟨K.sb, 0, none⟩)] 114)).alloc (.cells #[.slice (some ⟨tb, to, none⟩) (legs.length + 1) tc] 150)).alloc (.cells #[.slice tp (qK.rows ts).length tq] 111)).alloc (.cells #[.bool false] 4)).alloc (.cells #[.string ⟨d.edge.name.toArray⟩, .slice l1.1 l1.2.1 l1.2.2, .slice k1.1 k1.2.1 k1.2.2, .slice v1.1 v1.2.1 v1.2.2, .string ⟨d.of.toArray⟩, .int .i64 d.dir, .string ⟨d.node.name.toArray⟩, .slice l2.1 l2.2.1 l2.2.2, .slice k2.1 k2.2.1 k2.2.2, .slice v2.1 v2.2.1 v2.2.2] 154)).alloc (.cells #[.pointer (some ⟨K.sb, 0, none⟩)] 114)) _ (by simp <;> omega)).trans (xl (((((w.alloc (.cells #[.pointer (some ⟨K.sb, 0, none⟩)] 114)).alloc (.cells #[.slice (some ⟨tb, to, none⟩) (legs.length + 1) tc] 150)).alloc (.cells #[.slice tp (qK.rows ts).length tq] 111)).alloc (.cells #[.bool false] 4)).alloc (.cells #[.string ⟨d.edge.name.toArray⟩, .slice l1.1 l1.2.1 l1.2.2, .slice k1.1 k1.2.1 k1.2.2, .slice v1.1 v1.2.1 v1.2.2, .string ⟨d.of.toArray⟩, .int .i64 d.dir, .string ⟨d.node.name.toArray⟩, .slice l2.1 l2.2.1 l2.2.2, .slice k2.1 k2.2.1 k2.2.2, .slice v2.1 v2.2.1 v2.2.2] 154)) _ (w.heap.size + 1 + 1 + 1 + 1 + 1) (by simp)))
  have q6 : ((((((((w.alloc (.cells #[.pointer (some ⟨K.sb, 0, none⟩)] 114)).alloc (.cells #[.slice (some ⟨tb, to, none⟩) (legs.length + 1) tc] 150)).alloc (.cells #[.slice tp (qK.rows ts).length tq] 111)).alloc (.cells #[.bool false] 4)).alloc (.cells #[.string ⟨d.edge.name.toArray⟩, .slice l1.1 l1.2.1 l1.2.2, .slice k1.1 k1.2.1 k1.2.2, .slice v1.1 v1.2.1 v1.2.2, .string ⟨d.of.toArray⟩, .int .i64 d.dir, .string ⟨d.node.name.toArray⟩, .slice l2.1 l2.2.1 l2.2.2, .slice k2.1 k2.2.1 k2.2.2, .slice v2.1 v2.2.1 v2.2.2] 154)).alloc (.cells #[.pointer (some ⟨K.sb, 0, none⟩)] 114)).alloc (.cells #[.int .i64 at_] 2)).alloc (.cells #[.string ⟨d.edge.name.toArray⟩, .slice l1.1 l1.2.1 l1.2.2, .slice k1.1 k1.2.1 k1.2.2, .slice v1.1 v1.2.1 v1.2.2, .string ⟨d.of.toArray⟩, .int .i64 d.dir, .string ⟨d.node.name.toArray⟩, .slice l2.1 l2.2.1 l2.2.2, .slice k2.1 k2.2.1 k2.2.2, .slice v2.1 v2.2.1 v2.2.2] 154)).heap[w.heap.size + 1 + 1 + 1 + 1 + 1 + 1]? = some (.cells #[.int .i64 at_] 2) := (heap_alloc_old (((((((w.alloc (.cells #[.pointer (some ⟨K.sb, 0, none⟩)] 114)).alloc (.cells #[.slice (some ⟨tb, to, none⟩) (legs.length + 1) tc] 150)).alloc (.cells #[.slice tp (qK.rows ts).length tq] 111)).alloc (.cells #[.bool false] 4)).alloc (.cells #[.string ⟨d.edge.name.toArray⟩, .slice l1.1 l1.2.1 l1.2.2, .slice k1.1 k1.2.1 k1.2.2, .slice v1.1 v1.2.1 v1.2.2, .string ⟨d.of.toArray⟩, .int .i64 d.dir, .string ⟨d.node.name.toArray⟩, .slice l2.1 l2.2.1 l2.2.2, .slice k2.1 k2.2.1 k2.2.2, .slice v2.1 v2.2.1 v2.2.2] 154)).alloc (.cells #[.pointer (some ⟨K.sb, 0, none⟩)] 114)).alloc (.cells #[.int .i64 at_] 2)) _ (by simp <;> omega)).trans (xl ((((((w.alloc (.cells #[.pointer (some ⟨K.sb, 0, none⟩)] 114)).alloc (.cells #[.slice (some ⟨tb, to, none⟩) (legs.length + 1) tc] 150)).alloc (.cells #[.slice tp (qK.rows ts).length tq] 111)).alloc (.cells #[.bool false] 4)).alloc (.cells #[.string ⟨d.edge.name.toArray⟩, .slice l1.1 l1.2.1 l1.2.2, .slice k1.1 k1.2.1 k1.2.2, .slice v1.1 v1.2.1 v1.2.2, .string ⟨d.of.toArray⟩, .int .i64 d.dir, .string ⟨d.node.name.toArray⟩, .slice l2.1 l2.2.1 l2.2.2, .slice k2.1 k2.2.1 k2.2.2, .slice v2.1 v2.2.1 v2.2.2] 154)).alloc (.cells #[.pointer (some ⟨K.sb, 0, none⟩)] 114)) _ (w.heap.size + 1 + 1 + 1 + 1 + 1 + 1) (by simp))
  have q7 : ((((((((w.alloc (.cells #[.pointer (some ⟨K.sb, 0, none⟩)] 114)).alloc (.cells #[.slice (some ⟨tb, to, none⟩) (legs.length + 1) tc] 150)).alloc (.cells #[.slice tp (qK.rows ts).length tq] 111)).alloc (.cells #[.bool false] 4)).alloc (.cells #[.string ⟨d.edge.name.toArray⟩, .slice l1.1 l1.2.1 l1.2.2, .slice k1.1 k1.2.1 k1.2.2, .slice v1.1 v1.2.1 v1.2.2, .string ⟨d.of.toArray⟩, .int .i64 d.dir, .string ⟨d.node.name.toArray⟩, .slice l2.1 l2.2.1 l2.2.2, .slice k2.1 k2.2.1 k2.2.2, .slice v2.1 v2.2.1 v2.2.2] 154)).alloc (.cells #[.pointer (some ⟨K.sb, 0, none⟩)] 114)).alloc (.cells #[.int .i64 at_] 2)).alloc (.cells #[.string ⟨d.edge.name.toArray⟩, .slice l1.1 l1.2.1 l1.2.2, .slice k1.1 k1.2.1 k1.2.2, .slice v1.1 v1.2.1 v1.2.2, .string ⟨d.of.toArray⟩, .int .i64 d.dir, .string ⟨d.node.name.toArray⟩, .slice l2.1 l2.2.1 l2.2.2, .slice k2.1 k2.2.1 k2.2.2, .slice v2.1 v2.2.1 v2.2.2] 154)).heap[w.heap.size + 1 + 1 + 1 + 1 + 1 + 1 + 1]? = some (.cells #[.string ⟨d.edge.name.toArray⟩, .slice l1.1 l1.2.1 l1.2.2, .slice k1.1 k1.2.1 k1.2.2, .slice v1.1 v1.2.1 v1.2.2, .string ⟨d.of.toArray⟩, .int .i64 d.dir, .string ⟨d.node.name.toArray⟩, .slice l2.1 l2.2.1 l2.2.2, .slice k2.1 k2.2.1 k2.2.2, .slice v2.1 v2.2.1 v2.2.2] 154) := xl (((((((w.alloc (.cells #[.pointer (some ⟨K.sb, 0, none⟩)] 114)).alloc (.cells #[.slice (some ⟨tb, to, none⟩) (legs.length + 1) tc] 150)).alloc (.cells #[.slice tp (qK.rows ts).length tq] 111)).alloc (.cells #[.bool false] 4)).alloc (.cells #[.string ⟨d.edge.name.toArray⟩, .slice l1.1 l1.2.1 l1.2.2, .slice k1.1 k1.2.1 k1.2.2, .slice v1.1 v1.2.1 v1.2.2, .string ⟨d.of.toArray⟩, .int .i64 d.dir, .string ⟨d.node.name.toArray⟩, .slice l2.1 l2.2.1 l2.2.2, .slice k2.1 k2.2.1 k2.2.2, .slice v2.1 v2.2.1 v2.2.2] 154)).alloc (.cells #[.pointer (some ⟨K.sb, 0, none⟩)] 114)).alloc (.cells #[.int .i64 at_] 2)) _ (w.heap.size + 1 + 1 + 1 + 1 + 1 + 1 + 1) (by simp)
  generalize hW8 : ((((((((w.alloc (.cells #[.pointer (some ⟨K.sb, 0, none⟩)] 114)).alloc (.cells #[.slice (some ⟨tb, to, none⟩) (legs.length + 1) tc] 150)).alloc (.cells #[.slice tp (qK.rows ts).length tq] 111)).alloc (.cells #[.bool false] 4)).alloc (.cells #[.string ⟨d.edge.name.toArray⟩, .slice l1.1 l1.2.1 l1.2.2, .slice k1.1 k1.2.1 k1.2.2, .slice v1.1 v1.2.1 v1.2.2, .string ⟨d.of.toArray⟩, .int .i64 d.dir, .string ⟨d.node.name.toArray⟩, .slice l2.1 l2.2.1 l2.2.2, .slice k2.1 k2.2.1 k2.2.2, .slice v2.1 v2.2.1 v2.2.2] 154)).alloc (.cells #[.pointer (some ⟨K.sb, 0, none⟩)] 114)).alloc (.cells #[.int .i64 at_] 2)).alloc (.cells #[.string ⟨d.edge.name.toArray⟩, .slice l1.1 l1.2.1 l1.2.2, .slice k1.1 k1.2.1 k1.2.2, .slice v1.1 v1.2.1 v1.2.2, .string ⟨d.of.toArray⟩, .int .i64 d.dir, .string ⟨d.node.name.toArray⟩, .slice l2.1 l2.2.1 l2.2.2, .slice k2.1 k2.2.1 k2.2.2, .slice v2.1 v2.2.1 v2.2.2] 154)) = W8 at h8 bl8 sz8 q0 q1 q2 q3 q4 q5 q6 q7 ⊢
  clear hW8
  have nM : ∀ c, w.heap.size <= c -> ¬ K.M vn vv vf c := fun c hc hm => by have := (h.h.fresh hm).2.1; omega
  have mbl : K.mb < w.heap.size := (h.h.fresh (.inr (.inl rfl))).2.1
  have mb8 : K.mb < W8.heap.size := by omega
  have g8 : Gw H (K.M vn vv vf) w H (K.M vn vv vf) W8 := Gw.below bl8
  have seq := BD (n := n) (m := 6 - 1) (d := d) (g := g) (at_ := at_) (ar := ar) (l1 := l1) (k1 := k1) (v1 := v1) (l2 := l2) (k2 := k2) (v2 := v2) h8 hu.h P (by decide) q5 q6 q7 (nM _ (by omega)) (nM _ (by omega)) (nM _ (by omega)) hr1.h hr2.h hg.h.nd hg.h.ed hA.h har hP.h (fun e he => by
    have := hE.h e he
    simp only [Sx, ji] at this
    exact ⟨this.1, this.2.1, this.2.2.1, this.2.2.2⟩)
  replace h8 := Hd.mk h8; replace q5 := Hd.mk q5; replace q6 := Hd.mk q6; replace q7 := Hd.mk q7
  refine wpIn_rangeFunc_ownH (n := 6) rfl (by decide) (gf := 141) (lb := #[.pointer (some ⟨w.heap.size + 1 + 1 + 1 + 1 + 1, 0, none⟩), .pointer (some ⟨w.heap.size + 1 + 1 + 1 + 1 + 1 + 1, 0, none⟩), .pointer (some ⟨w.heap.size + 1 + 1 + 1 + 1 + 1 + 1 + 1, 0, none⟩)]) rfl trivial (fun _ _ => Tryz.call141 _ _) seq (fun h k => h.trans k) (fun W l o o' hl ho hc _ => RW.putObj K used W l o o' (by omega) ho hc) (Below.refl _ _) (fun _ => rfl)
    (fun (pre : List (RQ P)) W => ∃ f1, Sq f (pre.map RQ.i) found = (true, f1) /\ Ur K H (K.M vn vv vf) W8 names vals used f1 W)
    (fun c (pre : List (RQ P)) W => c = .ret /\ ∃ f1, Sq f (pre.map RQ.i) found = (false, f1) /\ Ur K H (K.M vn vv vf) w names vals used f1 W /\ Boxed W (w.heap.size + 1 + 1 + 1) 4 (.bool false))
    (Ur.own mb8 (jv _) (fun (pre : List (RQ P)) f1 => Sq f (pre.map RQ.i) found = (true, f1)))
    (fun c s X Y row hs hg hr => by
      obtain ⟨hc, f1, hf, hrr, hb⟩ := hs
      exact ⟨hc, f1, hf, hrr.one mb8 (by omega) hg hr, boxed_own _ _ (fun _ => .bool false) () X Y row hb hg (fun r e => (hr r e).2)⟩)
    ⟨found, rfl, H, vn, vv, vf, D, h8.h.start, hu.h⟩
    (fun x a' W => ∃ B10 B11, (W.heap[B10]? = some (.cells (vQ x.x.id x.x.a x.x.b x.x.t x.x.k x.x.v) 56) /\ W.heap[B11]? = some (.cells x.x.nd.cells 96)) /\ (W8.heap.size <= B10 /\ W8.heap.size <= B11) /\ (∀ bn bv bf, W.heap[K.sb]? = some (DC K bn bv bf) -> ¬ K.M bn bv bf B10 /\ ¬ K.M bn bv bf B11) /\
      a' = { tmps := #[.pointer (some ⟨K.sb, 0, none⟩), .int .i64 at_, .slice (some ⟨tb, to, none⟩) (legs.length + 1) tc, .slice tp (qK.rows ts).length tq, .pointer (some ⟨w.heap.size, 0, none⟩), undef, .pointer (some ⟨w.heap.size + 1, 0, none⟩), .pointer (some ⟨w.heap.size + 1 + 1, 0, none⟩), .pointer (some ⟨w.heap.size + 1 + 1 + 1, 0, none⟩), .pointer (some ⟨w.heap.size + 1 + 1 + 1 + 1, 0, none⟩), .pointer (some ⟨B10, 0, none⟩), .pointer (some ⟨B11, 0, none⟩), undef, .slice (some ⟨tb, to, none⟩) (legs.length + 1) tc, .int .i64 ((legs.length : Int) + 1), .bool false, undef, undef, undef, .slice (some ⟨tb, to, none⟩) (legs.length + 1) tc, .pointer (some ⟨tb, to, none⟩), .agg #[.string ⟨d.edge.name.toArray⟩, .slice l1.1 l1.2.1 l1.2.2, .slice k1.1 k1.2.1 k1.2.2, .slice v1.1 v1.2.1 v1.2.2, .string ⟨d.of.toArray⟩, .int .i64 d.dir, .string ⟨d.node.name.toArray⟩, .slice l2.1 l2.2.1 l2.2.2, .slice k2.1 k2.2.1 k2.2.2, .slice v2.1 v2.2.1 v2.2.2], .pointer (some ⟨K.sb, 0, none⟩), .int .i64 at_, .agg #[.string ⟨d.edge.name.toArray⟩, .slice l1.1 l1.2.1 l1.2.2, .slice k1.1 k1.2.1 k1.2.2, .slice v1.1 v1.2.1 v1.2.2, .string ⟨d.of.toArray⟩, .int .i64 d.dir, .string ⟨d.node.name.toArray⟩, .slice l2.1 l2.2.1 l2.2.2, .slice k2.1 k2.2.1 k2.2.2, .slice v2.1 v2.2.1 v2.2.2], .func (.func 141) #[] #[.pointer (some ⟨w.heap.size + 1 + 1 + 1 + 1 + 1, 0, none⟩), .pointer (some ⟨w.heap.size + 1 + 1 + 1 + 1 + 1 + 1, 0, none⟩), .pointer (some ⟨w.heap.size + 1 + 1 + 1 + 1 + 1 + 1 + 1, 0, none⟩)], .agg (vQ x.x.id x.x.a x.x.b x.x.t x.x.k x.x.v), .agg x.x.nd.cells, undef, undef, undef, undef, undef, undef, undef, undef, undef, undef, undef, undef, undef, undef, undef, undef, undef, undef, undef, undef, undef, undef, undef], defers := [] })
    (fun x a' _ X Y row hs hg hr => by
      obtain ⟨B10, B11, ⟨x10, x11⟩, hb, hn, ha⟩ := hs
      have kp : ∀ {c : Nat} {o : Obj}, X.heap[c]? = some o -> o.isCells = true -> Y.heap[c]? = some o := fun {c o} hc ho => (hg.block c (jH.1 hc).1 fun e => by
        obtain ⟨_, o', h1, h2⟩ := hr c e.symm
        rw [hc] at h1; cases h1; rw [ho] at h2; cases h2).trans hc
      refine ⟨B10, B11, ⟨kp x10 rfl, kp x11 rfl⟩, hb, fun bn bv bf h1 => hn bn bv bf ?_, ha⟩
      rw [← hg.block K.sb (Nat.lt_trans (h.h.fresh (.inl rfl)).2.1 (by have := (jH.1 x10).1; omega)) fun e => by
        have := (hr _ e.symm).1
        have := (h.h.fresh (.inl rfl)).2.1
        omega]
      exact h1)
    ?assign ?body ?done ?stop
  case assign =>
    rintro l pre x W Kk ⟨f1, hf1, H1, un, uv, uf, D1, hs, hu1⟩ hK
    have hs2 := (hs.start.alloc (.cells (vQ x.x.id x.x.a x.x.b x.x.t x.x.k x.x.v) 56)).alloc (.cells x.x.nd.cells 96)
    have e10 : ((W.alloc (.cells (vQ x.x.id x.x.a x.x.b x.x.t x.x.k x.x.v) 56)).alloc (.cells x.x.nd.cells 96)).heap[W.heap.size]? = some (.cells (vQ x.x.id x.x.a x.x.b x.x.t x.x.k x.x.v) 56) := (heap_alloc_old _ _ (by simp)).trans (World.alloc_heap_new W _)
    have e11 : ((W.alloc (.cells (vQ x.x.id x.x.a x.x.b x.x.t x.x.k x.x.v) 56)).alloc (.cells x.x.nd.cells 96)).heap[W.heap.size + 1]? = some (.cells x.x.nd.cells 96) := xl _ _ _ (by simp)
    have Sk := hK { tmps := #[.pointer (some ⟨K.sb, 0, none⟩), .int .i64 at_, .slice (some ⟨tb, to, none⟩) (legs.length + 1) tc, .slice tp (qK.rows ts).length tq, .pointer (some ⟨w.heap.size, 0, none⟩), undef, .pointer (some ⟨w.heap.size + 1, 0, none⟩), .pointer (some ⟨w.heap.size + 1 + 1, 0, none⟩), .pointer (some ⟨w.heap.size + 1 + 1 + 1, 0, none⟩), .pointer (some ⟨w.heap.size + 1 + 1 + 1 + 1, 0, none⟩), .pointer (some ⟨W.heap.size, 0, none⟩), .pointer (some ⟨W.heap.size + 1, 0, none⟩), undef, .slice (some ⟨tb, to, none⟩) (legs.length + 1) tc, .int .i64 ((legs.length : Int) + 1), .bool false, undef, undef, undef, .slice (some ⟨tb, to, none⟩) (legs.length + 1) tc, .pointer (some ⟨tb, to, none⟩), .agg #[.string ⟨d.edge.name.toArray⟩, .slice l1.1 l1.2.1 l1.2.2, .slice k1.1 k1.2.1 k1.2.2, .slice v1.1 v1.2.1 v1.2.2, .string ⟨d.of.toArray⟩, .int .i64 d.dir, .string ⟨d.node.name.toArray⟩, .slice l2.1 l2.2.1 l2.2.2, .slice k2.1 k2.2.1 k2.2.2, .slice v2.1 v2.2.1 v2.2.2], .pointer (some ⟨K.sb, 0, none⟩), .int .i64 at_, .agg #[.string ⟨d.edge.name.toArray⟩, .slice l1.1 l1.2.1 l1.2.2, .slice k1.1 k1.2.1 k1.2.2, .slice v1.1 v1.2.1 v1.2.2, .string ⟨d.of.toArray⟩, .int .i64 d.dir, .string ⟨d.node.name.toArray⟩, .slice l2.1 l2.2.1 l2.2.2, .slice k2.1 k2.2.1 k2.2.2, .slice v2.1 v2.2.1 v2.2.2], .func (.func 141) #[] #[.pointer (some ⟨w.heap.size + 1 + 1 + 1 + 1 + 1, 0, none⟩), .pointer (some ⟨w.heap.size + 1 + 1 + 1 + 1 + 1 + 1, 0, none⟩), .pointer (some ⟨w.heap.size + 1 + 1 + 1 + 1 + 1 + 1 + 1, 0, none⟩)], .agg (vQ x.x.id x.x.a x.x.b x.x.t x.x.k x.x.v), .agg x.x.nd.cells, undef, undef, undef, undef, undef, undef, undef, undef, undef, undef, undef, undef, undef, undef, undef, undef, undef, undef, undef, undef, undef, undef, undef], defers := [] } _ (((KeepsOthers.alloc W (.cells (vQ x.x.id x.x.a x.x.b x.x.t x.x.k x.x.v) 56)).from _).trans ((KeepsOthers.alloc _ (.cells x.x.nd.cells 96)).from _)) (RW.of hs hs2 hu1) ⟨f1, hf1, H1, un, uv, uf, D1, (hs.alloc _).alloc _, hu1⟩
      ⟨W.heap.size, W.heap.size + 1, ⟨e10, e11⟩, ⟨hs.gw.size, Nat.le_succ_of_le hs.gw.size⟩, fun bn bv bf hb => by
        have h3 := hs2.box
        rw [hb] at h3
        simp only [DC, Option.some.injEq, Obj.cells.injEq] at h3
        have h5 := congrArg Array.toList h3.1
        simp at h5
        obtain ⟨rfl, rfl, rfl⟩ := h5
        exact ⟨fun hm => by have := (hs.fresh hm).2.1; omega, fun hm => by have := (hs.fresh hm).2.1; omega⟩, rfl⟩
    clear hK
    simp only [LV, PK, vQ, NV.cells] at Sk ⊢
    gi_wp2
    exact Sk
  case body =>
    rintro l pre x a' W hl ⟨rr, hrr⟩ ⟨f1, hf1, H1, un, uv, uf, D1, hs, hu1⟩ ⟨B10, B11, ⟨x10, x11⟩, ⟨y10, y11⟩, hnm, rfl⟩ hlt
    obtain ⟨xnu, xok⟩ : x.x.id ∉ used /\ VE n g ok legs x.x.nd.id (x.x.id :: used) (uF (uF names d.edge.name) d.node.name) (uR (uR vals d.edge.name (GU x.x.id)) d.node.name (fX x.x.nd.id)) = true := (congrFun hPe.h x.x.ids).mp x.ok
    obtain ⟨bb, f2, hfe⟩ : ∃ bb f2, f (RQ.i x) f1 = (bb, f2) := ⟨_, _, rfl⟩
    have hfw : nY n g k legs x.x.nd.id (x.x.id :: used) (uF (uF names d.edge.name) d.node.name) (uR (uR vals d.edge.name (GU x.x.id)) d.node.name (fX x.x.nd.id)) f1 = (bb, f2) := by
      rw [← hfe, hf.h]
      rfl
    have kb : ∀ c o, W8.heap[c]? = some o -> w.heap.size <= c -> W.heap[c]? = some o := fun c o hc hw => (hs.gw.un c (jH.1 hc).1 (nM c hw)).trans hc
    have p0 := kb _ _ q0 (by omega)
    have p1 := kb _ _ q1 (by omega)
    have p2 := kb _ _ q2 (by omega)
    have p3 := kb _ _ q3 (by omega)
    have p4 := kb _ _ q4 (by omega)
    have nW : ∀ c, w.heap.size <= c -> c < W8.heap.size -> ¬ K.M un uv uf c := fun c hc hc8 hm => by
      rcases hs.gw.sub c hm with h1 | h1
      · exact nM c hc h1
      · omega
    obtain ⟨n10, n11⟩ := hnm un uv uf hs.box
    have hst := hs.start
    obtain ⟨W1, D2, hrun1, hs1, hu2⟩ := hst.drew.put1 hu1 husl x.x.wf
    have kw1 : ∀ c o, W.heap[c]? = some o -> ¬ K.M un uv uf c -> W1.heap[c]? = some o := fun c o hc hn => (hs1.gw.un c (jH.1 hc).1 hn).trans hc
    have o0 := kw1 _ _ p0 (nW _ (by omega) (by omega))
    have o4 := kw1 _ _ p4 (nW _ (by omega) (by omega))
    have o10 := kw1 _ _ x10 n10
    have m69 := Dq (k := 102) (caps := #[.pointer (some ⟨w.heap.size, 0, none⟩), .pointer (some ⟨w.heap.size + 1 + 1 + 1 + 1, 0, none⟩), .pointer (some ⟨B11, 0, none⟩), .pointer (some ⟨w.heap.size + 1, 0, none⟩), .pointer (some ⟨w.heap.size + 1 + 1, 0, none⟩)]) (found' := f2) hs1 hu2 (by have := hf1'.h; unfold Sy at this; simp only [ji] at this; exact this.1) (Hw H1 x.x.id) (fun _ _ => Tryz.call102 _ _) (b := bb) (by have := hf1'.h; unfold Sy at this; simp only [ji, kde] at this; exact this.2) hlv (fun H2 w2 vn2 vv2 vf2 D3 hs2 hu3 => by
      have kw2 : ∀ c o, W1.heap[c]? = some o -> ¬ K.M un uv uf c -> w2.heap[c]? = some o := fun c o hc hn => (hs2.gw.un c (jH.1 hc).1 hn).trans hc
      have kk : ∀ c o, W.heap[c]? = some o -> ¬ K.M un uv uf c -> w2.heap[c]? = some o := fun c o hc hn => kw2 c o (kw1 c o hc hn) hn
      have nn : ∀ c, ¬ K.M un uv uf c -> c < W1.heap.size -> ¬ K.M vn2 vv2 vf2 c := fun c hc h1 hm => by
        rcases hs2.gw.sub c hm with h2 | h2
        · exact hc h2
        · omega
      have lt1 : ∀ {c : Nat} {o : Obj}, W.heap[c]? = some o -> c < W1.heap.size := fun {c o} hc => Nat.lt_of_lt_of_le (jH.1 hc).1 hs1.gw.size
      have le2 := (hs.gw.le.trans hs1.gw.le).trans hs2.gw.le
      refine (MB (n := n) (nd := x.x.nd) (l1 := l1) (k1 := k1) (v1 := v1) (l2 := l2) (k2 := k2) (v2 := v2) (hW.h x.x.nd.id) hs2 hu3 (NH hlv d.edge.name (GU x.x.id)) (hg.h.mono le2) hf2.h xok rfl (kk _ _ p0 (nW _ (by omega) (by omega))) (kk _ _ p4 (nW _ (by omega) (by omega))) (kk _ _ x11 n11) (kk _ _ p1 (nW _ (by omega) (by omega))) (kk _ _ p2 (nW _ (by omega) (by omega))) (hl'.h.mono le2) (ht.h.mono le2) (fun c hc => ?_)).mono ?_
      · rcases hc with rfl | rfl | rfl | rfl
        · exact nn _ (nW _ (by omega) (by omega)) (lt1 p0)
        · exact nn _ n11 (lt1 x11)
        · exact nn _ (nW _ (by omega) (by omega)) (lt1 p1)
        · exact nn _ (nW _ (by omega) (by omega)) (lt1 p2)
      · rintro e w' ⟨rfl, r⟩
        have hfw' := hfw
        simp only [uF, uR] at hfw' r ⊢
        rw [hfw'] at r ⊢
        exact ⟨rfl, r.base hs2.gw⟩)
    have u0 := qc p0 0 (v := .pointer (some ⟨K.sb, 0, none⟩)) rfl
    have u4 := qc hs.box 4 (v := .map (some K.mb)) rfl
    have u10 := qc x10 0 (v := .int .i64 x.x.id) rfl
    obtain ⟨S, hSe⟩ : ∃ S : World -> Prop, S = fun w' => Below W.heap.size W w' := ⟨_, rfl⟩
    have hS : S W.drew := by rw [hSe]; exact ⟨rfl, rfl, rfl, jv _, fun _ _ => rfl⟩
    have hC : ∀ w', S w' -> w'.cell? ⟨w.heap.size, 0, none⟩ = some (.pointer (some ⟨K.sb, 0, none⟩)) /\ w'.cell? ⟨K.sb, 4, none⟩ = some (.map (some K.mb)) /\ w'.cell? ⟨B10, 0, none⟩ = some (.int .i64 x.x.id) := fun w' hw => by
      rw [hSe] at hw
      have cc : ∀ {b i : Nat} {v : Value}, W.cell? ⟨b, i, none⟩ = some v -> w'.cell? ⟨b, i, none⟩ = some v := fun {b i v} hv => (World.cell?_of_block (w := W) (a := ⟨b, i, none⟩) (hw.block b (gQ hv))).trans hv
      exact ⟨cc u0, cc u4, cc u10⟩
    replace hs := Hd.mk hs; replace hs1 := Hd.mk hs1; replace hu1 := Hd.mk hu1; replace hu2 := Hd.mk hu2; replace hf1 := Hd.mk hf1; replace hfe := Hd.mk hfe; replace hfw := Hd.mk hfw; replace p0 := Hd.mk p0; replace p1 := Hd.mk p1; replace p2 := Hd.mk p2; replace p3 := Hd.mk p3; replace p4 := Hd.mk p4; replace o0 := Hd.mk o0; replace o4 := Hd.mk o4; replace o10 := Hd.mk o10; replace x10 := Hd.mk x10; replace x11 := Hd.mk x11; replace kb := Hd.mk kb; replace kw1 := Hd.mk kw1; replace nW := Hd.mk nW; replace hnm := Hd.mk hnm; replace n10 := Hd.mk n10; replace n11 := Hd.mk n11; replace hst := Hd.mk hst; replace xok := Hd.mk xok; replace xnu := Hd.mk xnu; replace m69 := Hd.mk m69; replace u0 := Hd.mk u0; replace u4 := Hd.mk u4; replace u10 := Hd.mk u10; replace q0 := Hd.mk q0; replace q1 := Hd.mk q1; replace q2 := Hd.mk q2; replace q3 := Hd.mk q3; replace q4 := Hd.mk q4
    gi_wp2_with fail
    refine zH S 6 (by kernel_rfl) ?_
    simp only [jL, ja, jc, Nat.reduceAdd, Array.replicate_succ, Array.replicate_zero, List.push_toArray, jt, List.cons_append]
    refine qO (i := 0) (v := .pointer (some ⟨K.sb, 0, none⟩)) [1, 2, 3, 6] (by kernel_rfl) rfl (by kernel_rfl) (by kernel_rfl) (by kernel_rfl) (fun _ _ _ h => h) (by kernel_rfl) (by kernel_rfl) (by kernel_rfl) (by decide) ⟨Or.inl ⟨by rfl, ?_⟩, fun _ => rfl⟩ hS ?_
    · intro w hw; have hc := hC w hw; clear hC; go_split_ands; go_simp
    try simp only [Act.put, List.setIfInBounds_toArray, List.set_cons_zero, List.set_cons_succ]
    refine qe (i := 1) (v := .pointer (some ⟨K.sb, 0, none⟩)) (by kernel_rfl) rfl (by kernel_rfl) (by kernel_rfl) (by kernel_rfl) (fun _ _ _ h => h) (by decide) ⟨Or.inl ⟨by rfl, ?_⟩, fun _ => rfl⟩ (fun _ => hS) ?_
    · clear hC; intro w _; go_simp
    try simp only [Act.put, List.setIfInBounds_toArray, List.set_cons_zero, List.set_cons_succ]
    refine qe (i := 2) (v := .pointer (some ⟨K.sb, 4, none⟩)) (by kernel_rfl) rfl (by kernel_rfl) (by kernel_rfl) (by kernel_rfl) (fun _ _ _ h => h) (by decide) ⟨Or.inl ⟨by rfl, ?_⟩, fun _ => rfl⟩ (fun _ => hS) ?_
    · clear hC; intro w _; go_simp
    try simp only [Act.put, List.setIfInBounds_toArray, List.set_cons_zero, List.set_cons_succ]
    refine qO (i := 3) (v := .map (some K.mb)) [6] (by kernel_rfl) rfl (by kernel_rfl) (by kernel_rfl) (by kernel_rfl) (fun _ _ _ h => h) (by kernel_rfl) (by kernel_rfl) (by kernel_rfl) (by decide) ⟨Or.inl ⟨by rfl, ?_⟩, fun _ => rfl⟩ hS ?_
    · intro w hw; have hc := hC w hw; clear hC; go_split_ands; go_simp
    try simp only [Act.put, List.setIfInBounds_toArray, List.set_cons_zero, List.set_cons_succ]
    refine qe (i := 4) (v := .pointer (some ⟨B10, 0, none⟩)) (by kernel_rfl) rfl (by kernel_rfl) (by kernel_rfl) (by kernel_rfl) (fun _ _ _ h => h) (by decide) ⟨Or.inl ⟨by rfl, ?_⟩, fun _ => rfl⟩ (fun _ => hS) ?_
    · clear hC; intro w _; go_simp
    try simp only [Act.put, List.setIfInBounds_toArray, List.set_cons_zero, List.set_cons_succ]
    refine qO (i := 5) (v := .int .i64 x.x.id) [6] (by kernel_rfl) rfl (by kernel_rfl) (by kernel_rfl) (by kernel_rfl) (fun _ _ _ h => h) (by kernel_rfl) (by kernel_rfl) (by kernel_rfl) (by decide) ⟨Or.inl ⟨by rfl, ?_⟩, fun _ => rfl⟩ hS ?_
    · intro w hw; have hc := hC w hw; clear hC; go_split_ands; go_simp
    try simp only [Act.put, List.setIfInBounds_toArray, List.set_cons_zero, List.set_cons_succ]
    refine um (i := 6) (by kernel_rfl) rfl fun Kk hKk => ?_
    refine tQ (v := undef) (.inl rfl) (fun c => by simp) (fun _ => trivial) (w' := W1) (x := .skip) ?hrun (.inr ⟨rfl, rfl⟩) ?_
    case hrun => clear hKk; go_simp
    refine hKk _ _ (fun e => absurd e (by decide)) ?_
    try simp only [Act.put, List.setIfInBounds_toArray, List.set_cons_zero, List.set_cons_succ]
    clear hKk
    refine vB (by kernel_rfl) ?_ _
    clear hC hS hSe S
    have v0 : W1.cell? ⟨w.heap.size, 0, none⟩ = some (.pointer (some ⟨K.sb, 0, none⟩)) := qc o0.h 0 rfl
    have v4 : W1.cell? ⟨w.heap.size + 1 + 1 + 1 + 1, 0, none⟩ = some (.string ⟨d.edge.name.toArray⟩) := qc o4.h 0 rfl
    have v10 : W1.cell? ⟨B10, 0, none⟩ = some (.int .i64 x.x.id) := qc o10.h 0 rfl
    gi_wp2_with (
      refine ⟨trivial, ?_⟩; gi_at_call 69; refine (CallsIn.inRound l (callsIn_wide.2 m69.h)).mono ?_; rintro e w2 ⟨rfl, hr2⟩)
    obtain ⟨H3, tn, tv, tf, D4, hs3, hu4⟩ := hr2
    obtain ⟨W3, D5, hrun3, hs5, hu5⟩ := hs3.drew.del1 hu4 xnu.h x.x.wf
    have kw3 : ∀ c o, W1.heap[c]? = some o -> ¬ K.M un uv uf c -> w2.heap[c]? = some o := fun c o hc hn => (hs3.gw.un c (jH.1 hc).1 hn).trans hc
    have u0 : w2.cell? ⟨w.heap.size, 0, none⟩ = some (.pointer (some ⟨K.sb, 0, none⟩)) := qc (kw3 _ _ o0.h (nW.h _ (by omega) (by omega))) 0 rfl
    have u4 : w2.cell? ⟨K.sb, 4, none⟩ = some (.map (some K.mb)) := qc hs3.box 4 rfl
    have u10 : w2.cell? ⟨B10, 0, none⟩ = some (.int .i64 x.x.id) := qc (kw3 _ _ o10.h n10.h) 0 rfl
    clear v0 v4 v10
    obtain ⟨S, hSe⟩ : ∃ S : World -> Prop, S = fun w' => Below w2.heap.size w2 w' := ⟨_, rfl⟩
    have hS : S w2.drew := by rw [hSe]; exact ⟨rfl, rfl, rfl, jv _, fun _ _ => rfl⟩
    have hC : ∀ w', S w' -> w'.cell? ⟨w.heap.size, 0, none⟩ = some (.pointer (some ⟨K.sb, 0, none⟩)) /\ w'.cell? ⟨K.sb, 4, none⟩ = some (.map (some K.mb)) /\ w'.cell? ⟨B10, 0, none⟩ = some (.int .i64 x.x.id) := fun w' hw => by
      rw [hSe] at hw
      have cc : ∀ {b i : Nat} {v : Value}, w2.cell? ⟨b, i, none⟩ = some v -> w'.cell? ⟨b, i, none⟩ = some v := fun {b i v} hv => (World.cell?_of_block (w := w2) (a := ⟨b, i, none⟩) (hw.block b (gQ hv))).trans hv
      exact ⟨cc u0, cc u4, cc u10⟩
    have hs6 := hs5.back hs1.h.gw
    have kf : KeepsFrom W8.heap.size W W3 := hs.h.keeps hs6.gw mb8
    have kp := RW.of hs.h hs6 hu5
    have hgo := GX (x := RQ.i x) hf1.h
    rw [hfe.h] at hgo
    have bx3 : Boxed W3 (w.heap.size + 1 + 1 + 1) 4 (.bool false) := (hs6.gw.un _ (jH.1 p3.h).1 (nW.h _ (by omega) (by omega))).trans p3.h
    replace hs3 := Hd.mk hs3; replace hs5 := Hd.mk hs5; replace hs6 := Hd.mk hs6; replace hu4 := Hd.mk hu4; replace hu5 := Hd.mk hu5; replace kw3 := Hd.mk kw3; replace kf := Hd.mk kf; replace kp := Hd.mk kp; replace hgo := Hd.mk hgo; replace u0 := Hd.mk u0; replace u4 := Hd.mk u4; replace u10 := Hd.mk u10; replace bx3 := Hd.mk bx3
    refine zH S 6 (by kernel_rfl) ?_
    simp only [jL, ja, jc, Nat.reduceAdd, Array.replicate_succ, Array.replicate_zero, List.push_toArray, jt, List.cons_append]
    refine qO (i := 0) (v := .pointer (some ⟨K.sb, 0, none⟩)) [1, 2, 3, 6] (by kernel_rfl) rfl (by kernel_rfl) (by kernel_rfl) (by kernel_rfl) (fun _ _ _ h => h) (by kernel_rfl) (by kernel_rfl) (by kernel_rfl) (by decide) ⟨Or.inl ⟨by rfl, ?_⟩, fun _ => rfl⟩ hS ?_
    · intro w hw; have hc := hC w hw; clear hC; go_split_ands; go_simp
    try simp only [Act.put, List.setIfInBounds_toArray, List.set_cons_zero, List.set_cons_succ]
    refine qe (i := 1) (v := .pointer (some ⟨K.sb, 0, none⟩)) (by kernel_rfl) rfl (by kernel_rfl) (by kernel_rfl) (by kernel_rfl) (fun _ _ _ h => h) (by decide) ⟨Or.inl ⟨by rfl, ?_⟩, fun _ => rfl⟩ (fun _ => hS) ?_
    · clear hC; intro w _; go_simp
    try simp only [Act.put, List.setIfInBounds_toArray, List.set_cons_zero, List.set_cons_succ]
    refine qe (i := 2) (v := .pointer (some ⟨K.sb, 4, none⟩)) (by kernel_rfl) rfl (by kernel_rfl) (by kernel_rfl) (by kernel_rfl) (fun _ _ _ h => h) (by decide) ⟨Or.inl ⟨by rfl, ?_⟩, fun _ => rfl⟩ (fun _ => hS) ?_
    · clear hC; intro w _; go_simp
    try simp only [Act.put, List.setIfInBounds_toArray, List.set_cons_zero, List.set_cons_succ]
    refine qO (i := 3) (v := .map (some K.mb)) [6] (by kernel_rfl) rfl (by kernel_rfl) (by kernel_rfl) (by kernel_rfl) (fun _ _ _ h => h) (by kernel_rfl) (by kernel_rfl) (by kernel_rfl) (by decide) ⟨Or.inl ⟨by rfl, ?_⟩, fun _ => rfl⟩ hS ?_
    · intro w hw; have hc := hC w hw; clear hC; go_split_ands; go_simp
    try simp only [Act.put, List.setIfInBounds_toArray, List.set_cons_zero, List.set_cons_succ]
    refine qe (i := 4) (v := .pointer (some ⟨B10, 0, none⟩)) (by kernel_rfl) rfl (by kernel_rfl) (by kernel_rfl) (by kernel_rfl) (fun _ _ _ h => h) (by decide) ⟨Or.inl ⟨by rfl, ?_⟩, fun _ => rfl⟩ (fun _ => hS) ?_
    · clear hC; intro w _; go_simp
    try simp only [Act.put, List.setIfInBounds_toArray, List.set_cons_zero, List.set_cons_succ]
    refine qO (i := 5) (v := .int .i64 x.x.id) [6] (by kernel_rfl) rfl (by kernel_rfl) (by kernel_rfl) (by kernel_rfl) (fun _ _ _ h => h) (by kernel_rfl) (by kernel_rfl) (by kernel_rfl) (by decide) ⟨Or.inl ⟨by rfl, ?_⟩, fun _ => rfl⟩ hS ?_
    · intro w hw; have hc := hC w hw; clear hC; go_split_ands; go_simp
    try simp only [Act.put, List.setIfInBounds_toArray, List.set_cons_zero, List.set_cons_succ]
    refine um (i := 6) (by kernel_rfl) rfl fun Kk hKk => ?_
    refine tQ (v := .tuple #[]) (.inl rfl) (fun c => by simp) (fun _ => trivial) (w' := W3) (x := .value (.tuple #[])) ?hrun (.inl rfl) ?_
    case hrun => clear hKk; go_simp
    refine hKk _ _ (fun e => absurd e (by decide)) ?_
    try simp only [Act.put, List.setIfInBounds_toArray, List.set_cons_zero, List.set_cons_succ]
    clear hKk
    refine vB (by kernel_rfl) ?_ _
    clear hC hS hSe S
    have cR := bx3.h.cell
    have fR := bx3.h.frozen
    have hR7 := hs6.h.back hs.h.gw
    have hmp : (pre ++ [x]).map RQ.i = pre.map RQ.i ++ [RQ.i x] := by simp
    have hT := (hR7.back g8).turnOther (xT W3 (w.heap.size + 1 + 1 + 1) 0 (.bool false)) (fun hm => by
      rcases hR7.gw.sub _ hm with h1 | h1
      · exact nM _ (by omega) h1
      · omega) (fun o v hv => by
      rcases hR7.gw.new _ _ _ hv with ⟨v', h1⟩ | h1
      · have := h.h.sat.lt h1; omega
      · omega) (by omega)
    replace hT := Hd.mk hT; replace hR7 := Hd.mk hR7
    cases bb with
    | true =>
      gi_wp2
      exact ⟨kf.h, kp.h, f2, by rw [hmp]; exact hgo.h, H3, tn, tv, tf, D5, hR7.h, hu5.h⟩
    | false =>
      gi_wp2
      exact ⟨kf.h.trans ((KeepsOthers.setCell _ _ _).from _), rfl, f2, by rw [hmp]; exact hgo.h, ⟨H3, tn, tv, tf, D5, hT.h, hu5.h⟩, bx3.h.set _⟩
  case done =>
    rintro Dd xs W hD hS ⟨f1, hf1, H1, un, uv, uf, D1, hs, hu1⟩ hK
    have bx : Boxed W (w.heap.size + 1 + 1 + 1) 4 (.bool false) := (hs.gw.un _ (by omega) (nM _ (by omega))).trans q3
    have cR := bx.cell
    have fR := bx.frozen
    gi_wp2
    have hK' := (KeepsOthers.setCell W ⟨w.heap.size + 1 + 1 + 1, 0, none⟩ (.bool true)).same Dd _ hK rfl
    refine ⟨by simp, .inl ⟨_, _, rfl, run_takeDeferred hK', ?_⟩⟩
    have hc5 := cell_kept (bx.set (.bool true)).cell (grownBy_putObj' _ Dd (.deferred none)) (fun r e => by cases e; exact ⟨_, hK', rfl⟩)
    rw [hS] at hf1
    have hN := hs.gw.new
    have hR2 := ((hs.back g8).turnOther (xT W (w.heap.size + 1 + 1 + 1) 0 (.bool true)) (fun hm => by
      rcases hs.gw.sub _ hm with h1 | h1
      · exact nM _ (by omega) h1
      · omega) (fun o v hv => by
      rcases hN _ _ _ hv with ⟨v', h1⟩ | h1
      · have := h.h.sat.lt h1; omega
      · omega) (by omega)).own (grownBy_putObj' _ Dd (.deferred none)) (B := W8.heap.size) (fun r e => by cases e; exact ⟨by omega, _, hK', rfl⟩) mb8 (by omega)
    refine ⟨.bool true, ?_, by rw [hf1], ?_⟩
    · simp [results, Tryz.f71, go_sem, hc5]
    · rw [hf1]
      exact ⟨H1, un, uv, uf, D1, hR2, hu1⟩
  case stop =>
    rintro Dd c pre W hD ⟨rest, hSp⟩ ⟨rfl, f1, hf1, hr, bx⟩ hK
    gi_wp2
    refine ⟨by simp, .inl ⟨_, _, rfl, run_takeDeferred hK, ?_⟩⟩
    have hc5 := cell_kept bx.cell (grownBy_putObj' _ Dd (.deferred none)) (fun r e => by cases e; exact ⟨_, hK, rfl⟩)
    have hf2 := GY (rest := rest) hf1
    rw [hSp] at hf2
    refine ⟨.bool false, ?_, by rw [hf2], ?_⟩
    · simp [results, Tryz.f71, go_sem, hc5]
    · rw [hf2]
      exact hr.one mb8 (by omega) (grownBy_putObj' _ Dd (.deferred none)) (fun r e => by cases e; exact ⟨by omega, _, hK, rfl⟩)
set_option maxHeartbeats 4000000 in
set_option maxRecDepth 100000 in
theorem MC (hA : RO g ts k ok) (at_ : Int) : RP g at_ [] ts k ok := by
  intro L K H0 H M0 w0 w vn vv vf names vals used found D h hu hlv hg hok vl vt hl ht
  obtain ⟨lp, lq, rfl⟩ := zL hl
  obtain ⟨tp, tq, hvt⟩ := zL ht
  subst hvt
  have hz : (RX.rows ([] : List RX)).length = 0 := rfl
  rw [hz]
  have h4 := (((h.start.alloc (.cells #[.pointer (some ⟨K.sb, 0, none⟩)] 114)).alloc (.cells #[.slice lp 0 lq] 150)).alloc (.cells #[.slice tp (qK.rows ts).length tq] 111)).alloc (.cells #[.bool false] 4)
  have g4 := h4.gw
  have m48 := hA h4 hu hlv hg hok _ ht
  have bl : Below w.heap.size w ((((w.alloc (.cells #[.pointer (some ⟨K.sb, 0, none⟩)] 114)).alloc (.cells #[.slice lp 0 lq] 150)).alloc (.cells #[.slice tp (qK.rows ts).length tq] 111)).alloc (.cells #[.bool false] 4)) := ((((Below.refl _ w).alloc (jv _) _).alloc (by simp) _).alloc (by simp <;> omega) _).alloc (by simp <;> omega) _
  have q3 : ((((w.alloc (.cells #[.pointer (some ⟨K.sb, 0, none⟩)] 114)).alloc (.cells #[.slice lp 0 lq] 150)).alloc (.cells #[.slice tp (qK.rows ts).length tq] 111)).alloc (.cells #[.bool false] 4)).heap[w.heap.size + 1 + 1 + 1]? = some (.cells #[.bool false] 4) := xl _ _ _ (by simp)
  have hsb := (h.fresh (.inl rfl)).2.1
  replace h := Hd.mk h; replace h4 := Hd.mk h4; replace hu := Hd.mk hu; replace hg := Hd.mk hg; replace hok := Hd.mk hok; replace hl := Hd.mk hl; replace ht := Hd.mk ht; replace g4 := Hd.mk g4; replace bl := Hd.mk bl; replace q3 := Hd.mk q3
  clear hA
  refine (callsIn_wide (n := 2)).1 ?_
  refine callsIn_of_wp Tryz.func71 rfl trivial ?_ rfl
  simp only [Tryz.ntmps71, jL, ja, jc, Nat.reduceAdd, Nat.reduceSub, Array.replicate_succ, Array.replicate_zero, List.push_toArray, List.append_toArray, jt, List.cons_append]
  gi_wp2_with (
    refine ⟨trivial, ?_⟩; gi_at_call 48; refine (callsIn_wide.2 m48).mono ?_; rintro e w1 ⟨rfl, H1, un, uv, uf, D1, hs, hu1⟩
    have nM : ∀ c, w.heap.size <= c -> ¬ K.M vn vv vf c := fun c hc hm => by have := (h.h.fresh hm).2.1; omega
    have lt4 := (jH.1 q3.h).1
    have bx : Boxed w1 (w.heap.size + 1 + 1 + 1) 4 (.bool false) := (hs.gw.un _ lt4 (nM _ (by omega))).trans q3.h
    have cR := bx.cell
    have fR := bx.frozen)
  have hT := (hs.back g4.h).turnOther (xT w1 (w.heap.size + 1 + 1 + 1) 0 (.bool (k used names vals found).1)) (fun hm => by
    rcases hs.gw.sub _ hm with h1 | h1
    · exact nM _ (by omega) h1
    · omega) (fun o v hv => by
    rcases hs.gw.new _ _ _ hv with ⟨v', h1⟩ | h1
    · have := h.h.sat.lt h1; omega
    · omega) (by omega)
  have hc := (bx.set (.bool (k used names vals found).1)).cell
  exact bodyPost_ret (v := .bool (k used names vals found).1) (by simp [results, Tryz.results71, go_sem, hc]) rfl ⟨rfl, H1, un, uv, uf, D1, hT, hu1⟩
theorem LA {n : Nat} (hA : RO g ts k ok) : ∀ (legs : List RX) (at_ : Int), RP g at_ legs ts (nY n g k legs at_) (VE n g ok legs at_)
  | [], at_ => MC hA at_
  | d :: legs, at_ => Lz (LA hA legs)
end
end W
end
section
open Go Go.Proofs Ax Go.RowKit
namespace W
attribute [local go_sem] Oper.semAt_some
theorem LD {F : Fence} {n : Nat} {P : Program} {c : Code} {Q : Exit -> Act -> World -> Prop} {a : Act} {w : World} (h : c.wpIn F n P (fun e a w => e = .normal /\ Q .normal a w) a w) : c.wpIn F n P Q a w :=
  Code.wpIn_mono (fun e a w h => by obtain ⟨rfl, h⟩ := h; exact h) h
section
variable {g : Graph} {ts : List qK} {k : RT} {ok : RV}
set_option maxHeartbeats 8000000 in
set_option maxRecDepth 100000 in
theorem all_cons {n : Nat} {t : qK} (hA : RO g ts (rQ n g ts) (Dy n g ts)) : RO g (t :: ts) (rQ n g (t :: ts)) (Dy n g (t :: ts)) := by
  intro L K H0 H M0 w0 w vn vv vf names vals used found D h hu hlv hg hok vt ht
  have hW := LA (n := n) hA t.legs
  simp only [Dy, ji, List.all_eq_true] at hok
  obtain ⟨hnd, hf1, hR⟩ := hok
  obtain ⟨f, hf⟩ : ∃ f : Int -> List bS -> Bool × List bS, f = fun id => nY n g (rQ n g ts) t.legs id used (uF names t.first.name) (uR vals t.first.name (fX id)) := ⟨_, rfl⟩
  have hspec : rQ n g (t :: ts) used names vals found = Sq f (Qp n t.first g.nodes) found := by simp only [rQ, hf]
  rw [hspec]
  obtain ⟨P, hPe⟩ : ∃ P : Int -> Prop, P = fun id => VE n g (Dy n g ts) t.legs id used (uF names t.first.name) (uR vals t.first.name (fX id)) = true := ⟨_, rfl⟩
  have hP : ∀ i ∈ Qp n t.first g.nodes, P i := fun i hi => by
    rw [hPe]
    exact hR i hi
  obtain ⟨tb, to, tc, rfl, us, hus, hcell⟩ := CP ht (j := 0) (r := mB.cells t) rfl
  rw [show (qK.rows (t :: ts)).length = ts.length + 1 by simp [qK.rows]] at ht ⊢
  obtain ⟨l1, k1, v1, lg, rfl, hr1, hlg⟩ := UZ hus
  rw [show (mB.cells t).length = 5 from mB.hz t, Nat.zero_mul, Nat.add_zero] at hcell
  have t0 : w.cell? ⟨tb, to, none⟩ = some (.string ⟨t.first.name.toArray⟩) := (h.sat.cell _ _ _ (hcell 0 _ rfl)).1
  have t1 : w.cell? ⟨tb, to + 1, none⟩ = some (.slice l1.1 l1.2.1 l1.2.2) := (h.sat.cell _ _ _ (hcell 1 _ rfl)).1
  have t2 : w.cell? ⟨tb, to + 2, none⟩ = some (.slice k1.1 k1.2.1 k1.2.2) := (h.sat.cell _ _ _ (hcell 2 _ rfl)).1
  have t3 : w.cell? ⟨tb, to + 3, none⟩ = some (.slice v1.1 v1.2.1 v1.2.2) := (h.sat.cell _ _ _ (hcell 3 _ rfl)).1
  have hn0 : H tb to = some (.string ⟨t.first.name.toArray⟩) := hcell 0 _ rfl
  have bl3 : Below w.heap.size w (((w.alloc (.cells #[.pointer (some ⟨K.sb, 0, none⟩)] 114)).alloc (.cells #[.slice (some ⟨tb, to, none⟩) (ts.length + 1) tc] 111)).alloc (.cells #[.bool false] 4)) := ((((Below.refl _ w).alloc (jv _) _).alloc (by simp) _).alloc (by simp <;> omega) _)
  have r0 : (((w.alloc (.cells #[.pointer (some ⟨K.sb, 0, none⟩)] 114)).alloc (.cells #[.slice (some ⟨tb, to, none⟩) (ts.length + 1) tc] 111)).alloc (.cells #[.bool false] 4)).heap[w.heap.size]? = some (.cells #[.pointer (some ⟨K.sb, 0, none⟩)] 114) := (heap_alloc_old _ _ (by simp <;> omega)).trans ((heap_alloc_old _ _ (by simp <;> omega)).trans (World.alloc_heap_new w _))
  have r1 : (((w.alloc (.cells #[.pointer (some ⟨K.sb, 0, none⟩)] 114)).alloc (.cells #[.slice (some ⟨tb, to, none⟩) (ts.length + 1) tc] 111)).alloc (.cells #[.bool false] 4)).heap[w.heap.size + 1]? = some (.cells #[.slice (some ⟨tb, to, none⟩) (ts.length + 1) tc] 111) := (heap_alloc_old _ _ (by simp <;> omega)).trans (xl _ _ _ (by simp))
  have r2 : (((w.alloc (.cells #[.pointer (some ⟨K.sb, 0, none⟩)] 114)).alloc (.cells #[.slice (some ⟨tb, to, none⟩) (ts.length + 1) tc] 111)).alloc (.cells #[.bool false] 4)).heap[w.heap.size + 1 + 1]? = some (.cells #[.bool false] 4) := xl _ _ _ (by simp)
  have sz3 : (((w.alloc (.cells #[.pointer (some ⟨K.sb, 0, none⟩)] 114)).alloc (.cells #[.slice (some ⟨tb, to, none⟩) (ts.length + 1) tc] 111)).alloc (.cells #[.bool false] 4)).heap.size = w.heap.size + 3 := by simp
  have h3 : Sg K H0 M0 w0 H (((w.alloc (.cells #[.pointer (some ⟨K.sb, 0, none⟩)] 114)).alloc (.cells #[.slice (some ⟨tb, to, none⟩) (ts.length + 1) tc] 111)).alloc (.cells #[.bool false] 4)) vn vv vf vn vv vf names vals found used.length D := (((h.alloc _).alloc _).alloc _)
  have a0 := zV (.cells #[.bool false] 4) (zV (.cells #[.slice (some ⟨tb, to, none⟩) (ts.length + 1) tc] 111) (zV (.cells #[.pointer (some ⟨K.sb, 0, none⟩)] 114) t0))
  have a1 := zV (.cells #[.bool false] 4) (zV (.cells #[.slice (some ⟨tb, to, none⟩) (ts.length + 1) tc] 111) (zV (.cells #[.pointer (some ⟨K.sb, 0, none⟩)] 114) t1))
  have a2 := zV (.cells #[.bool false] 4) (zV (.cells #[.slice (some ⟨tb, to, none⟩) (ts.length + 1) tc] 111) (zV (.cells #[.pointer (some ⟨K.sb, 0, none⟩)] 114) t2))
  have a3 := zV (.cells #[.bool false] 4) (zV (.cells #[.slice (some ⟨tb, to, none⟩) (ts.length + 1) tc] 111) (zV (.cells #[.pointer (some ⟨K.sb, 0, none⟩)] 114) t3))
  have z0 : ¬ ((ts.length : Int) + 1 = 0) := by omega
  have z1 : (0 : Int) < (ts.length : Int) + 1 := by omega
  have hf1' := hf1
  replace h := Hd.mk h; replace hu := Hd.mk hu; replace hg := Hd.mk hg; replace hR := Hd.mk hR; replace hP := Hd.mk hP; replace hW := Hd.mk hW; replace ht := Hd.mk ht; replace hus := Hd.mk hus; replace hcell := Hd.mk hcell; replace hspec := Hd.mk hspec; replace hf := Hd.mk hf; replace hPe := Hd.mk hPe; replace hr1 := Hd.mk hr1; replace hf1 := Hd.mk hf1; replace hf1' := Hd.mk hf1'; replace hlg := Hd.mk hlg; replace hnd := Hd.mk hnd; replace hn0 := Hd.mk hn0; replace t0 := Hd.mk t0; replace t1 := Hd.mk t1; replace t2 := Hd.mk t2; replace t3 := Hd.mk t3; replace bl3 := Hd.mk bl3; replace r0 := Hd.mk r0; replace r1 := Hd.mk r1; replace r2 := Hd.mk r2; replace sz3 := Hd.mk sz3; replace h3 := Hd.mk h3; replace a0 := Hd.mk a0; replace a1 := Hd.mk a1; replace a2 := Hd.mk a2; replace a3 := Hd.mk a3
  refine (callsIn_wide (n := 6)).1 ?_
  refine callsIn_of_wp_marks Tryz.func48 rfl trivial ?_ rfl
  simp only [Tryz.ntmps48, jL, ja, jc, Nat.reduceAdd, Nat.reduceSub, Array.replicate_succ, Array.replicate_zero, List.push_toArray, List.append_toArray, jt, List.cons_append]
  gi_wp2_with fail
  generalize hW3 : (((w.alloc (.cells #[.pointer (some ⟨K.sb, 0, none⟩)] 114)).alloc (.cells #[.slice (some ⟨tb, to, none⟩) (ts.length + 1) tc] 111)).alloc (.cells #[.bool false] 4)) = W3 at bl3 r0 r1 r2 sz3 h3 a0 a1 a2 a3 ⊢
  clear hW3
  obtain ⟨S, hSe⟩ : ∃ S : World -> Prop, S = fun w' => Below W3.heap.size W3 w' := ⟨_, rfl⟩
  have hS : S W3.drew := by rw [hSe]; exact ⟨rfl, rfl, rfl, jv _, fun _ _ => rfl⟩
  have hC : ∀ w', S w' -> w'.cell? ⟨w.heap.size, 0, none⟩ = some (.pointer (some ⟨K.sb, 0, none⟩)) /\ w'.cell? ⟨w.heap.size + 1, 0, none⟩ = some (.slice (some ⟨tb, to, none⟩) (ts.length + 1) tc) /\ w'.cell? ⟨tb, to, none⟩ = some (.string ⟨t.first.name.toArray⟩) /\ w'.cell? ⟨tb, to + 1, none⟩ = some (.slice l1.1 l1.2.1 l1.2.2) /\ w'.cell? ⟨tb, to + 2, none⟩ = some (.slice k1.1 k1.2.1 k1.2.2) /\ w'.cell? ⟨tb, to + 3, none⟩ = some (.slice v1.1 v1.2.1 v1.2.2) := fun w' hw => by
    rw [hSe] at hw
    have cc : ∀ {b i : Nat} {v : Value}, W3.cell? ⟨b, i, none⟩ = some v -> w'.cell? ⟨b, i, none⟩ = some v := fun {b i v} hv => (World.cell?_of_block (w := W3) (a := ⟨b, i, none⟩) (hw.block b (gQ hv))).trans hv
    exact ⟨cc (qc r0.h 0 rfl), cc (qc r1.h 0 rfl), cc a0.h, cc a1.h, cc a2.h, cc a3.h⟩
  have m68 := Mp (K := K) W3.drew ⟨t.first.name.toArray⟩ l1 k1 v1
  refine LD ?_
  refine zH S 5 (by kernel_rfl) ?_
  simp only [jL, ja, jc, Nat.reduceAdd, Array.replicate_succ, Array.replicate_zero, List.push_toArray, jt, List.cons_append]
  refine qO (i := 0) (v := .pointer (some ⟨K.sb, 0, none⟩)) [5] (by kernel_rfl) rfl (by kernel_rfl) (by kernel_rfl) (by kernel_rfl) (fun _ _ _ h => by cases h.1) (by kernel_rfl) (by kernel_rfl) (by kernel_rfl) (by decide) ⟨Or.inl ⟨by rfl, ?_⟩, fun _ => rfl⟩ hS ?_
  · intro w hw; have hc := hC w hw; clear hC; go_split_ands; go_simp
  try simp only [Act.put, List.setIfInBounds_toArray, List.set_cons_zero, List.set_cons_succ]
  refine qO (i := 1) (v := .slice (some ⟨tb, to, none⟩) (ts.length + 1) tc) [2, 3, 4, 5] (by kernel_rfl) rfl (by kernel_rfl) (by kernel_rfl) (by kernel_rfl) (fun _ _ _ h => by cases h.1) (by kernel_rfl) (by kernel_rfl) (by kernel_rfl) (by decide) ⟨Or.inl ⟨by rfl, ?_⟩, fun _ => rfl⟩ hS ?_
  · intro w hw; have hc := hC w hw; clear hC; go_split_ands; go_simp
  try simp only [Act.put, List.setIfInBounds_toArray, List.set_cons_zero, List.set_cons_succ]
  refine qe (i := 2) (v := .pointer (some ⟨tb, to, none⟩)) (by kernel_rfl) rfl (by kernel_rfl) (by kernel_rfl) (by kernel_rfl) (fun _ _ _ h => by cases h.1) (by decide) ⟨Or.inl ⟨by rfl, ?_⟩, fun _ => rfl⟩ (fun _ => hS) ?_
  · clear hC; intro w _; go_simp
  try simp only [Act.put, List.setIfInBounds_toArray, List.set_cons_zero, List.set_cons_succ]
  refine qe (i := 3) (v := .pointer (some ⟨tb, to, none⟩)) (by kernel_rfl) rfl (by kernel_rfl) (by kernel_rfl) (by kernel_rfl) (fun _ _ _ h => by cases h.1) (by decide) ⟨Or.inl ⟨by rfl, ?_⟩, fun _ => rfl⟩ (fun _ => hS) ?_
  · clear hC; intro w _; go_simp
  try simp only [Act.put, List.setIfInBounds_toArray, List.set_cons_zero, List.set_cons_succ]
  refine qO (i := 4) (v := .agg #[.string ⟨t.first.name.toArray⟩, .slice l1.1 l1.2.1 l1.2.2, .slice k1.1 k1.2.1 k1.2.2, .slice v1.1 v1.2.1 v1.2.2]) [5] (by kernel_rfl) rfl (by kernel_rfl) (by kernel_rfl) (by kernel_rfl) (fun _ _ _ h => by cases h.1) (by kernel_rfl) (by kernel_rfl) (by kernel_rfl) (by decide) ⟨Or.inl ⟨by rfl, ?_⟩, fun _ => rfl⟩ hS ?_
  · intro w hw; have hc := hC w hw; clear hC; go_split_ands; go_simp
  try simp only [Act.put, List.setIfInBounds_toArray, List.set_cons_zero, List.set_cons_succ]
  refine um (i := 5) (by kernel_rfl) rfl fun Kk hKk => ?_
  refine dA (f := 68) (lb := #[]) rfl rfl (.inl rfl) ?hv ?ha (fun _ _ => Tryz.call68 _ _) trivial (callsIn_wide.2 m68) ?_
  case hv => rfl
  case ha => clear hC m68; go_simp
  rintro e w1 ⟨rfl, rfl⟩
  refine ⟨_, rfl, hKk _ _ (fun e => absurd e (by decide)) ?_⟩
  try simp only [Act.put, List.setIfInBounds_toArray, List.set_cons_zero, List.set_cons_succ]
  refine vB (by kernel_rfl) ?_ _
  refine ⟨rfl, ?_⟩
  clear hKk m68 hC hS hSe S
  gi_wp2_with fail
  have h5 : Sg K H0 M0 w0 H ((W3.drew.alloc (.cells #[.pointer (some ⟨K.sb, 0, none⟩)] 114)).alloc (.cells #[.string ⟨t.first.name.toArray⟩, .slice l1.1 l1.2.1 l1.2.2, .slice k1.1 k1.2.1 k1.2.2, .slice v1.1 v1.2.1 v1.2.2] 149)) vn vv vf vn vv vf names vals found used.length D := (h3.h.drew.alloc _).alloc _
  have bl5 : Below w.heap.size w ((W3.drew.alloc (.cells #[.pointer (some ⟨K.sb, 0, none⟩)] 114)).alloc (.cells #[.string ⟨t.first.name.toArray⟩, .slice l1.1 l1.2.1 l1.2.2, .slice k1.1 k1.2.1 k1.2.2, .slice v1.1 v1.2.1 v1.2.2] 149)) := bl3.h.trans ((((show Below W3.heap.size W3 W3.drew from ⟨rfl, rfl, rfl, jv _, fun _ _ => rfl⟩).alloc (jv _) _).alloc (show W3.heap.size <= (W3.drew.alloc _).heap.size by simp) _).mono (by have := sz3.h; omega))
  have o5 : ∀ c o, W3.heap[c]? = some o -> ((W3.drew.alloc (.cells #[.pointer (some ⟨K.sb, 0, none⟩)] 114)).alloc (.cells #[.string ⟨t.first.name.toArray⟩, .slice l1.1 l1.2.1 l1.2.2, .slice k1.1 k1.2.1 k1.2.2, .slice v1.1 v1.2.1 v1.2.2] 149)).heap[c]? = some o := fun c o hc => (heap_alloc_old _ _ (by have := (jH.1 hc).1; simp; exact Nat.lt_succ_of_lt this)).trans ((heap_alloc_old _ _ (jH.1 hc).1).trans hc)
  have q0 := o5 _ _ r0.h
  have q1 := o5 _ _ r1.h
  have q2 := o5 _ _ r2.h
  have q3 : ((W3.drew.alloc (.cells #[.pointer (some ⟨K.sb, 0, none⟩)] 114)).alloc (.cells #[.string ⟨t.first.name.toArray⟩, .slice l1.1 l1.2.1 l1.2.2, .slice k1.1 k1.2.1 k1.2.2, .slice v1.1 v1.2.1 v1.2.2] 149)).heap[W3.drew.heap.size]? = some (.cells #[.pointer (some ⟨K.sb, 0, none⟩)] 114) := (heap_alloc_old _ _ (by simp)).trans (World.alloc_heap_new _ _)
  have q4 : ((W3.drew.alloc (.cells #[.pointer (some ⟨K.sb, 0, none⟩)] 114)).alloc (.cells #[.string ⟨t.first.name.toArray⟩, .slice l1.1 l1.2.1 l1.2.2, .slice k1.1 k1.2.1 k1.2.2, .slice v1.1 v1.2.1 v1.2.2] 149)).heap[W3.drew.heap.size + 1]? = some (.cells #[.string ⟨t.first.name.toArray⟩, .slice l1.1 l1.2.1 l1.2.2, .slice k1.1 k1.2.1 k1.2.2, .slice v1.1 v1.2.1 v1.2.2] 149) := xl _ _ _ (by simp)
  have hD3 : W3.drew.heap.size = w.heap.size + 3 := sz3.h
  have sz5 : ((W3.drew.alloc (.cells #[.pointer (some ⟨K.sb, 0, none⟩)] 114)).alloc (.cells #[.string ⟨t.first.name.toArray⟩, .slice l1.1 l1.2.1 l1.2.2, .slice k1.1 k1.2.1 k1.2.2, .slice v1.1 v1.2.1 v1.2.2] 149)).heap.size = w.heap.size + 5 := by simp; exact sz3.h
  generalize hW5 : ((W3.drew.alloc (.cells #[.pointer (some ⟨K.sb, 0, none⟩)] 114)).alloc (.cells #[.string ⟨t.first.name.toArray⟩, .slice l1.1 l1.2.1 l1.2.2, .slice k1.1 k1.2.1 k1.2.2, .slice v1.1 v1.2.1 v1.2.2] 149)) = W5 at h5 bl5 sz5 q0 q1 q2 q3 q4 ⊢
  clear hW5 o5
  have nM : ∀ c, w.heap.size <= c -> ¬ K.M vn vv vf c := fun c hc hm => by have := (h.h.fresh hm).2.1; omega
  have mbl : K.mb < w.heap.size := (h.h.fresh (.inr (.inl rfl))).2.1
  have mb5 : K.mb < W5.heap.size := by omega
  have g5 : Gw H (K.M vn vv vf) w H (K.M vn vv vf) W5 := Gw.below bl5
  have seq := De (n := n) (m := 6 - 1) (wt := t.first) (g := g) (lb := l1) (kb := k1) (vb := v1) h5 hu.h P hP.h (by decide) q3 q4 (nM _ (by omega)) (nM _ (by omega)) hr1.h (by have := hf1.h; unfold Sy at this; simp only [ji] at this; exact this.1) hg.h.nd hg.h.ln hnd.h
  generalize W3.drew.heap.size = D3 at *
  replace h5 := Hd.mk h5; replace q3 := Hd.mk q3; replace q4 := Hd.mk q4; replace hD3 := Hd.mk hD3
  refine wpIn_rangeFunc_ownH (n := 6) rfl (by decide) (gf := 96) (lb := #[.pointer (some ⟨D3, 0, none⟩), .pointer (some ⟨D3 + 1, 0, none⟩)]) rfl trivial (fun _ _ => Tryz.call96 _ _) seq (fun h k => h.trans k) (fun W l o o' hl ho hc _ => RW.putObj K used W l o o' (by omega) ho hc) (Below.refl _ _) (fun _ => rfl)
    (fun (pre : List (RY P)) W => ∃ f1, Sq f (pre.map RY.i) found = (true, f1) /\ Ur K H (K.M vn vv vf) W5 names vals used f1 W)
    (fun c (pre : List (RY P)) W => c = .ret /\ ∃ f1, Sq f (pre.map RY.i) found = (false, f1) /\ Ur K H (K.M vn vv vf) w names vals used f1 W /\ Boxed W (w.heap.size + 1 + 1) 4 (.bool false))
    (Ur.own mb5 (jv _) (fun (pre : List (RY P)) f1 => Sq f (pre.map RY.i) found = (true, f1)))
    (fun c s X Y row hs hg hr => by
      obtain ⟨hc, f1, hf, hrr, hb⟩ := hs
      exact ⟨hc, f1, hf, hrr.one mb5 (by omega) hg hr, boxed_own _ _ (fun _ => .bool false) () X Y row hb hg (fun r e => (hr r e).2)⟩)
    ⟨found, rfl, H, vn, vv, vf, D, h5.h.start, hu.h⟩
    (fun x a' W => ∃ B8, W.heap[B8]? = some (.cells x.x.cells 96) /\ W5.heap.size <= B8 /\ (∀ bn bv bf, W.heap[K.sb]? = some (DC K bn bv bf) -> ¬ K.M bn bv bf B8) /\
      a' = { tmps := #[.pointer (some ⟨K.sb, 0, none⟩), .slice (some ⟨tb, to, none⟩) (ts.length + 1) tc, .pointer (some ⟨w.heap.size, 0, none⟩), .pointer (some ⟨w.heap.size + 1, 0, none⟩), .pointer (some ⟨w.heap.size + 1 + 1, 0, none⟩), undef, undef, undef, .pointer (some ⟨B8, 0, none⟩), undef, .slice (some ⟨tb, to, none⟩) (ts.length + 1) tc, .int .i64 ((ts.length : Int) + 1), .bool false, undef, undef, undef, undef, undef, undef, undef, undef, undef, undef, undef, undef, undef, undef, undef, undef, undef, undef, undef, undef, undef, undef, undef, undef, undef, undef, undef, undef, undef, undef, undef, undef, undef, undef, undef, undef, undef, undef, undef, undef, undef, .pointer (some ⟨K.sb, 0, none⟩), .slice (some ⟨tb, to, none⟩) (ts.length + 1) tc, .pointer (some ⟨tb, to, none⟩), .pointer (some ⟨tb, to, none⟩), .agg #[.string ⟨t.first.name.toArray⟩, .slice l1.1 l1.2.1 l1.2.2, .slice k1.1 k1.2.1 k1.2.2, .slice v1.1 v1.2.1 v1.2.2], .func (.func 96) #[] #[.pointer (some ⟨D3, 0, none⟩), .pointer (some ⟨D3 + 1, 0, none⟩)], .agg x.x.cells, undef, undef, undef, undef, undef, undef, undef, undef, undef, undef, undef, undef, undef], defers := [] })
    (fun x a' _ X Y row hs hg hr => by
      obtain ⟨B8, x8, hb, hn, ha⟩ := hs
      have kp : ∀ {c : Nat} {o : Obj}, X.heap[c]? = some o -> o.isCells = true -> Y.heap[c]? = some o := fun {c o} hc ho => (hg.block c (jH.1 hc).1 fun e => by
        obtain ⟨_, o', h1, h2⟩ := hr c e.symm
        rw [hc] at h1; cases h1; rw [ho] at h2; cases h2).trans hc
      refine ⟨B8, kp x8 rfl, hb, fun bn bv bf h1 => hn bn bv bf ?_, ha⟩
      rw [← hg.block K.sb (Nat.lt_trans (h.h.fresh (.inl rfl)).2.1 (by have := (jH.1 x8).1; omega)) fun e => by
        have := (hr _ e.symm).1
        have := (h.h.fresh (.inl rfl)).2.1
        omega]
      exact h1)
    ?assign ?body ?done ?stop
  case assign =>
    rintro l pre x W Kk ⟨f1, hf1, H1, un, uv, uf, D1, hs, hu1⟩ hK
    have hs2 := hs.start.alloc (.cells x.x.cells 96)
    have e8 : (W.alloc (.cells x.x.cells 96)).heap[W.heap.size]? = some (.cells x.x.cells 96) := World.alloc_heap_new W _
    have Sk := hK { tmps := #[.pointer (some ⟨K.sb, 0, none⟩), .slice (some ⟨tb, to, none⟩) (ts.length + 1) tc, .pointer (some ⟨w.heap.size, 0, none⟩), .pointer (some ⟨w.heap.size + 1, 0, none⟩), .pointer (some ⟨w.heap.size + 1 + 1, 0, none⟩), undef, undef, undef, .pointer (some ⟨W.heap.size, 0, none⟩), undef, .slice (some ⟨tb, to, none⟩) (ts.length + 1) tc, .int .i64 ((ts.length : Int) + 1), .bool false, undef, undef, undef, undef, undef, undef, undef, undef, undef, undef, undef, undef, undef, undef, undef, undef, undef, undef, undef, undef, undef, undef, undef, undef, undef, undef, undef, undef, undef, undef, undef, undef, undef, undef, undef, undef, undef, undef, undef, undef, undef, .pointer (some ⟨K.sb, 0, none⟩), .slice (some ⟨tb, to, none⟩) (ts.length + 1) tc, .pointer (some ⟨tb, to, none⟩), .pointer (some ⟨tb, to, none⟩), .agg #[.string ⟨t.first.name.toArray⟩, .slice l1.1 l1.2.1 l1.2.2, .slice k1.1 k1.2.1 k1.2.2, .slice v1.1 v1.2.1 v1.2.2], .func (.func 96) #[] #[.pointer (some ⟨D3, 0, none⟩), .pointer (some ⟨D3 + 1, 0, none⟩)], .agg x.x.cells, undef, undef, undef, undef, undef, undef, undef, undef, undef, undef, undef, undef, undef], defers := [] } _ ((KeepsOthers.alloc W (.cells x.x.cells 96)).from _) (RW.of hs hs2 hu1) ⟨f1, hf1, H1, un, uv, uf, D1, hs.alloc _, hu1⟩
      ⟨W.heap.size, e8, hs.gw.size, fun bn bv bf hb => by
        have h3 := hs2.box
        rw [hb] at h3
        simp only [DC, Option.some.injEq, Obj.cells.injEq] at h3
        have h5 := congrArg Array.toList h3.1
        simp at h5
        obtain ⟨rfl, rfl, rfl⟩ := h5
        exact fun hm => by have := (hs.fresh hm).2.1; omega, rfl⟩
    clear hK
    simp only [Ni, PY, NV.cells] at Sk ⊢
    gi_wp2
    exact Sk
  case body =>
    rintro l pre x a' W hl ⟨rr, hrr⟩ ⟨f1, hf1, H1, un, uv, uf, D1, hs, hu1⟩ ⟨B8, x8, y8, hnm, rfl⟩ hlt
    have xok : VE n g (Dy n g ts) t.legs x.x.id used (uF names t.first.name) (uR vals t.first.name (fX x.x.id)) = true := (congrFun hPe.h x.x.id).mp x.ok
    obtain ⟨bb, f2, hfe⟩ : ∃ bb f2, f (RY.i x) f1 = (bb, f2) := ⟨_, _, rfl⟩
    have hfw : nY n g (rQ n g ts) t.legs x.x.id used (uF names t.first.name) (uR vals t.first.name (fX x.x.id)) f1 = (bb, f2) := by
      rw [← hfe, hf.h]
      rfl
    have kb : ∀ c o, W5.heap[c]? = some o -> w.heap.size <= c -> W.heap[c]? = some o := fun c o hc hw => (hs.gw.un c (jH.1 hc).1 (nM c hw)).trans hc
    have p0 := kb _ _ q0 (by omega)
    have p1 := kb _ _ q1 (by omega)
    have p2 := kb _ _ q2 (by omega)
    have nW : ∀ c, w.heap.size <= c -> c < W5.heap.size -> ¬ K.M un uv uf c := fun c hc hc8 hm => by
      rcases hs.gw.sub c hm with h1 | h1
      · exact nM c hc h1
      · omega
    have n8 := hnm un uv uf hs.box
    have hst := hs.start.drew
    have m69 := Dq (k := 70) (caps := #[.pointer (some ⟨w.heap.size, 0, none⟩), .pointer (some ⟨B8, 0, none⟩), .pointer (some ⟨w.heap.size + 1, 0, none⟩)]) (found' := f2) hst hu1 (by have := hf1'.h; unfold Sy at this; simp only [ji] at this; exact this.1) (CF H1 x.x.id) (fun _ _ => Tryz.call70 _ _) (b := bb) (by have := hf1'.h; unfold Sy at this; simp only [ji, kde] at this; exact this.2) hlv (fun H2 w2 vn2 vv2 vf2 D3 hs2 hu3 => by
      have kk : ∀ c o, W.heap[c]? = some o -> ¬ K.M un uv uf c -> w2.heap[c]? = some o := fun c o hc hn => (hs2.gw.un c (show c < W.drew.heap.size from (jH.1 hc).1) hn).trans hc
      have le2 := hs.gw.le.trans hs2.gw.le
      refine (Nc (t := t) (nd := x.x) (hW.h x.x.id) hs2 hu3 (NH hlv t.first.name (fX x.x.id)) (hg.h.mono le2) xok rfl (kk _ _ p0 (nW _ (by omega) (by omega))) (kk _ _ x8 n8) (kk _ _ p1 (nW _ (by omega) (by omega))) (ht.h.mono le2)).mono ?_
      rintro e w' ⟨rfl, r⟩
      have hfw' := hfw
      simp only [uF, uR] at hfw' r ⊢
      rw [hfw'] at r ⊢
      exact ⟨rfl, r.base hs2.gw⟩)
    have u0 := qc p0 0 (v := .pointer (some ⟨K.sb, 0, none⟩)) rfl
    have u1 := qc p1 0 (v := .slice (some ⟨tb, to, none⟩) (ts.length + 1) tc) rfl
    have u8 := qc x8 0 (v := .int .i64 x.x.id) rfl
    have uc : W.cell? ⟨tb, to, none⟩ = some (.string ⟨t.first.name.toArray⟩) := (hs.sat.cell _ _ _ (hs.gw.le _ _ _ hn0.h)).1
    obtain ⟨S, hSe⟩ : ∃ S : World -> Prop, S = fun w' => Below W.heap.size W w' := ⟨_, rfl⟩
    have hS : S W.drew := by rw [hSe]; exact ⟨rfl, rfl, rfl, jv _, fun _ _ => rfl⟩
    have hC : ∀ w', S w' -> w'.cell? ⟨w.heap.size, 0, none⟩ = some (.pointer (some ⟨K.sb, 0, none⟩)) /\ w'.cell? ⟨w.heap.size + 1, 0, none⟩ = some (.slice (some ⟨tb, to, none⟩) (ts.length + 1) tc) /\ w'.cell? ⟨B8, 0, none⟩ = some (.int .i64 x.x.id) /\ w'.cell? ⟨tb, to, none⟩ = some (.string ⟨t.first.name.toArray⟩) := fun w' hw => by
      rw [hSe] at hw
      have cc : ∀ {b i : Nat} {v : Value}, W.cell? ⟨b, i, none⟩ = some v -> w'.cell? ⟨b, i, none⟩ = some v := fun {b i v} hv => (World.cell?_of_block (w := W) (a := ⟨b, i, none⟩) (hw.block b (gQ hv))).trans hv
      exact ⟨cc u0, cc u1, cc u8, cc uc⟩
    have m69' := CallsIn.inRound (n := 6 - 1 - 1 - 1) l (callsIn_wide.2 m69)
    have bx0 : Boxed W (w.heap.size + 1 + 1) 4 (.bool false) := p2
    replace hs := Hd.mk hs; replace hu1 := Hd.mk hu1; replace hf1 := Hd.mk hf1; replace hfe := Hd.mk hfe; replace hfw := Hd.mk hfw; replace p0 := Hd.mk p0; replace p1 := Hd.mk p1; replace p2 := Hd.mk p2; replace x8 := Hd.mk x8; replace kb := Hd.mk kb; replace nW := Hd.mk nW; replace hnm := Hd.mk hnm; replace n8 := Hd.mk n8; replace hst := Hd.mk hst; replace xok := Hd.mk xok; replace m69 := Hd.mk m69; replace m69' := Hd.mk m69'; replace u0 := Hd.mk u0; replace u1 := Hd.mk u1; replace u8 := Hd.mk u8; replace uc := Hd.mk uc; replace q0 := Hd.mk q0; replace q1 := Hd.mk q1; replace q2 := Hd.mk q2; replace bx0 := Hd.mk bx0
    gi_wp2_with fail
    refine zH S 10 (by kernel_rfl) ?_
    simp only [jL, ja, jc, Nat.reduceAdd, Array.replicate_succ, Array.replicate_zero, List.push_toArray, jt, List.cons_append]
    refine qO (i := 0) (v := .pointer (some ⟨K.sb, 0, none⟩)) [10] (by kernel_rfl) rfl (by kernel_rfl) (by kernel_rfl) (by kernel_rfl) (fun _ _ _ h => h) (by kernel_rfl) (by kernel_rfl) (by kernel_rfl) (by decide) ⟨Or.inl ⟨by rfl, ?_⟩, fun _ => rfl⟩ hS ?_
    · intro w hw; have hc := hC w hw; clear hC; go_split_ands; go_simp
    try simp only [Act.put, List.setIfInBounds_toArray, List.set_cons_zero, List.set_cons_succ]
    refine qO (i := 1) (v := .slice (some ⟨tb, to, none⟩) (ts.length + 1) tc) [2, 3, 4, 5, 10] (by kernel_rfl) rfl (by kernel_rfl) (by kernel_rfl) (by kernel_rfl) (fun _ _ _ h => h) (by kernel_rfl) (by kernel_rfl) (by kernel_rfl) (by decide) ⟨Or.inl ⟨by rfl, ?_⟩, fun _ => rfl⟩ hS ?_
    · intro w hw; have hc := hC w hw; clear hC; go_split_ands; go_simp
    try simp only [Act.put, List.setIfInBounds_toArray, List.set_cons_zero, List.set_cons_succ]
    refine qe (i := 2) (v := .pointer (some ⟨tb, to, none⟩)) (by kernel_rfl) rfl (by kernel_rfl) (by kernel_rfl) (by kernel_rfl) (fun _ _ _ h => h) (by decide) ⟨Or.inl ⟨by rfl, ?_⟩, fun _ => rfl⟩ (fun _ => hS) ?_
    · clear hC; intro w _; go_simp
    try simp only [Act.put, List.setIfInBounds_toArray, List.set_cons_zero, List.set_cons_succ]
    refine qe (i := 3) (v := .pointer (some ⟨tb, to, none⟩)) (by kernel_rfl) rfl (by kernel_rfl) (by kernel_rfl) (by kernel_rfl) (fun _ _ _ h => h) (by decide) ⟨Or.inl ⟨by rfl, ?_⟩, fun _ => rfl⟩ (fun _ => hS) ?_
    · clear hC; intro w _; go_simp
    try simp only [Act.put, List.setIfInBounds_toArray, List.set_cons_zero, List.set_cons_succ]
    refine qe (i := 4) (v := .pointer (some ⟨tb, to, none⟩)) (by kernel_rfl) rfl (by kernel_rfl) (by kernel_rfl) (by kernel_rfl) (fun _ _ _ h => h) (by decide) ⟨Or.inl ⟨by rfl, ?_⟩, fun _ => rfl⟩ (fun _ => hS) ?_
    · clear hC; intro w _; go_simp
    try simp only [Act.put, List.setIfInBounds_toArray, List.set_cons_zero, List.set_cons_succ]
    refine qO (i := 5) (v := .string ⟨t.first.name.toArray⟩) [10] (by kernel_rfl) rfl (by kernel_rfl) (by kernel_rfl) (by kernel_rfl) (fun _ _ _ h => h) (by kernel_rfl) (by kernel_rfl) (by kernel_rfl) (by decide) ⟨Or.inl ⟨by rfl, ?_⟩, fun _ => rfl⟩ hS ?_
    · intro w hw; have hc := hC w hw; clear hC; go_split_ands; go_simp
    try simp only [Act.put, List.setIfInBounds_toArray, List.set_cons_zero, List.set_cons_succ]
    refine qe (i := 6) (v := .pointer (some ⟨B8, 0, none⟩)) (by kernel_rfl) rfl (by kernel_rfl) (by kernel_rfl) (by kernel_rfl) (fun _ _ _ h => h) (by decide) ⟨Or.inl ⟨by rfl, ?_⟩, fun _ => rfl⟩ (fun _ => hS) ?_
    · clear hC; intro w _; go_simp
    try simp only [Act.put, List.setIfInBounds_toArray, List.set_cons_zero, List.set_cons_succ]
    refine qO (i := 7) (v := .int .i64 x.x.id) [8, 10] (by kernel_rfl) rfl (by kernel_rfl) (by kernel_rfl) (by kernel_rfl) (fun _ _ _ h => h) (by kernel_rfl) (by kernel_rfl) (by kernel_rfl) (by decide) ⟨Or.inl ⟨by rfl, ?_⟩, fun _ => rfl⟩ hS ?_
    · intro w hw; have hc := hC w hw; clear hC; go_split_ands; go_simp
    try simp only [Act.put, List.setIfInBounds_toArray, List.set_cons_zero, List.set_cons_succ]
    refine qe (i := 8) (v := .agg #[.int .i64 6, .bool false, .int .i64 x.x.id, .string ⟨#[]⟩, .slice none 0 0, .slice none 0 0]) (by kernel_rfl) rfl (by kernel_rfl) (by kernel_rfl) (by kernel_rfl) (fun _ _ _ h => h) (by decide) ⟨Or.inl ⟨by rfl, ?_⟩, fun _ => rfl⟩ (fun _ => hS) ?_
    · clear hC; intro w _; go_simp
    try simp only [Act.put, List.setIfInBounds_toArray, List.set_cons_zero, List.set_cons_succ]
    refine qe (i := 9) (v := .func (.func 70) #[] #[.pointer (some ⟨w.heap.size, 0, none⟩), .pointer (some ⟨B8, 0, none⟩), .pointer (some ⟨w.heap.size + 1, 0, none⟩)]) (by kernel_rfl) rfl (by kernel_rfl) (by kernel_rfl) (by kernel_rfl) (fun _ _ _ h => h) (by decide) ⟨Or.inl ⟨by rfl, ?_⟩, fun _ => rfl⟩ (fun _ => hS) ?_
    · clear hC; intro w _; go_simp
    try simp only [Act.put, List.setIfInBounds_toArray, List.set_cons_zero, List.set_cons_succ]
    refine um (i := 10) (by kernel_rfl) rfl fun Kk hKk => ?_
    refine dA (f := 69) (lb := #[]) rfl rfl (.inl rfl) ?hv ?ha (fun _ _ => Tryz.call69 _ _) trivial m69'.h ?_
    case hv => rfl
    case ha => clear hC; go_simp
    rintro e w2 ⟨rfl, hr2⟩
    refine ⟨_, rfl, hKk _ _ (fun e => absurd e (by decide)) ?_⟩
    try simp only [Act.put, List.setIfInBounds_toArray, List.set_cons_zero, List.set_cons_succ]
    clear hKk
    refine qe (i := 11) (v := .bool bb) (by kernel_rfl) rfl (by kernel_rfl) (by kernel_rfl) (by kernel_rfl) (fun _ _ _ h => h) (by decide) ⟨Or.inl ⟨by rfl, ?_⟩, fun _ => rfl⟩ (fun e => absurd e (by decide)) ?_
    · clear hC; intro w _; go_simp
    try simp only [Act.put, List.setIfInBounds_toArray, List.set_cons_zero, List.set_cons_succ]
    refine vB (by kernel_rfl) ?_ _
    clear hC hS hSe S
    obtain ⟨H3, tn, tv, tf, D4, hs3, hu4⟩ := hr2
    have hs6 : Sg K H1 (K.M un uv uf) W H3 w2 tn tv tf tn tv tf names vals f2 used.length D4 := hs3.back (Gw.below ⟨rfl, rfl, rfl, jv _, fun _ _ => rfl⟩)
    have kf : KeepsFrom W5.heap.size W w2 := hs.h.keeps hs6.gw mb5
    have kp := RW.of hs.h hs6 hu4
    have hgo := GX (x := RY.i x) hf1.h
    rw [hfe.h] at hgo
    have bx3 : Boxed w2 (w.heap.size + 1 + 1) 4 (.bool false) := (hs6.gw.un _ (jH.1 p2.h).1 (nW.h _ (by omega) (by omega))).trans p2.h
    have cR := bx3.cell
    have fR := bx3.frozen
    have hR7 := hs6.back hs.h.gw
    have hmp : (pre ++ [x]).map RY.i = pre.map RY.i ++ [RY.i x] := by simp
    have hT := (hR7.back g5).turnOther (xT w2 (w.heap.size + 1 + 1) 0 (.bool false)) (fun hm => by
      rcases hR7.gw.sub _ hm with h1 | h1
      · exact nM _ (by omega) h1
      · omega) (fun o v hv => by
      rcases hR7.gw.new _ _ _ hv with ⟨v', h1⟩ | h1
      · have := h.h.sat.lt h1; omega
      · omega) (by omega)
    replace hT := Hd.mk hT; replace hR7 := Hd.mk hR7; replace hs3 := Hd.mk hs3; replace hs6 := Hd.mk hs6; replace kf := Hd.mk kf; replace kp := Hd.mk kp; replace hgo := Hd.mk hgo; replace bx3 := Hd.mk bx3; replace hu4 := Hd.mk hu4
    cases bb with
    | true =>
      gi_wp2
      exact ⟨kf.h, kp.h, f2, by rw [hmp]; exact hgo.h, H3, tn, tv, tf, D4, hR7.h, hu4.h⟩
    | false =>
      gi_wp2
      exact ⟨kf.h.trans ((KeepsOthers.setCell _ _ _).from _), rfl, f2, by rw [hmp]; exact hgo.h, ⟨H3, tn, tv, tf, D4, hT.h, hu4.h⟩, bx3.h.set _⟩
  case done =>
    rintro Dd xs W hD hS ⟨f1, hf1, H1, un, uv, uf, D1, hs, hu1⟩ hK
    have bx : Boxed W (w.heap.size + 1 + 1) 4 (.bool false) := (hs.gw.un _ (by omega) (nM _ (by omega))).trans q2
    have cR := bx.cell
    have fR := bx.frozen
    gi_wp2
    have hK' := (KeepsOthers.setCell W ⟨w.heap.size + 1 + 1, 0, none⟩ (.bool true)).same Dd _ hK rfl
    refine ⟨by simp, .inl ⟨_, _, rfl, run_takeDeferred hK', ?_⟩⟩
    have hc5 := cell_kept (bx.set (.bool true)).cell (grownBy_putObj' _ Dd (.deferred none)) (fun r e => by cases e; exact ⟨_, hK', rfl⟩)
    rw [hS] at hf1
    have hN := hs.gw.new
    have hR2 := ((hs.back g5).turnOther (xT W (w.heap.size + 1 + 1) 0 (.bool true)) (fun hm => by
      rcases hs.gw.sub _ hm with h1 | h1
      · exact nM _ (by omega) h1
      · omega) (fun o v hv => by
      rcases hN _ _ _ hv with ⟨v', h1⟩ | h1
      · have := h.h.sat.lt h1; omega
      · omega) (by omega)).own (grownBy_putObj' _ Dd (.deferred none)) (B := W5.heap.size) (fun r e => by cases e; exact ⟨by omega, _, hK', rfl⟩) mb5 (by omega)
    refine ⟨.bool true, ?_, by rw [hf1], ?_⟩
    · simp [results, Tryz.f48, go_sem, hc5]
    · rw [hf1]
      exact ⟨H1, un, uv, uf, D1, hR2, hu1⟩
  case stop =>
    rintro Dd c pre W hD ⟨rest, hSp⟩ ⟨rfl, f1, hf1, hr, bx⟩ hK
    gi_wp2
    refine ⟨by simp, .inl ⟨_, _, rfl, run_takeDeferred hK, ?_⟩⟩
    have hc5 := cell_kept bx.cell (grownBy_putObj' _ Dd (.deferred none)) (fun r e => by cases e; exact ⟨_, hK, rfl⟩)
    have hf2 := GY (rest := rest) hf1
    rw [hSp] at hf2
    refine ⟨.bool false, ?_, by rw [hf2], ?_⟩
    · simp [results, Tryz.f48, go_sem, hc5]
    · rw [hf2]
      exact hr.one mb5 (by omega) (grownBy_putObj' _ Dd (.deferred none)) (fun r e => by cases e; exact ⟨by omega, _, hK, rfl⟩)
end
end W
end
section
open Go Go.Proofs Ax Go.RowKit
namespace W
attribute [local go_sem] Oper.semAt_some
theorem Es : ((Tryz.prog.info? 26).map fun i => (i.size, i.bytes, i.zero)) = some (2, 48, some (.agg #[.slice none 0 0, .slice none 0 0])) := by kernel_rfl
theorem Pt : ∃ i0, Tryz.prog.info? 26 = some i0 /\ i0.zero = some (.agg #[.slice none 0 0, .slice none 0 0]) /\ i0.size = 2 /\ i0.bytes = 48 := by
  obtain ⟨i, hi, h⟩ := Option.map_eq_some_iff.1 Es
  simp only [Prod.mk.injEq] at h
  exact ⟨i, hi, h.2.2, h.1, h.2.1⟩
theorem bM {L : Nat} {H H' : PH L} {w w' w'' : World} {row : Option Nat} (c : Calm H w H' w') (hg : w'.grownBy w'' row) (hr : ∀ b, row = some b -> w.heap.size <= b /\ ∀ o u, H' b o ≠ some u) : Calm H w H' w'' :=
  ⟨c.le, c.sat.block hg.size fun b o v hv => hg.block b (c.sat.lt hv) fun e => (hr b e.symm).2 o v hv,
    ⟨hg.os.trans c.keep.os, hg.tape.trans c.keep.tape, hg.output.trans c.keep.output, Nat.le_trans c.keep.size hg.size, fun b hb hn => (hg.block b (Nat.lt_of_lt_of_le hb c.keep.size) fun e => by have := (hr b e.symm).1; omega).trans (c.keep.block b hb hn)⟩, c.new⟩
theorem Qf {P : Program} {a : Act} {w w' : World} {o : Oper} {s x : Operand} {t : TypeId} {v vx r : Value} (ho : o.op = .call { callee := .builtin .append, args := #[s, x], argTypes := #[t, t] }) (hs : a.eval s = v) (hx : a.eval x = vx)
    (hrun : (Builtin.append_ #[t, t] o.type #[v, vx]).run P w = .ok r w') : (execOp a.eval o).run P w = .ok (.value r) w' := by
  unfold execOp
  simp only [ho, resolve, Sem.run_bind, Sem.run_pure, Result.andThen, invoke, builtin, List.map_toArray, jk, jN, hs, hx, hrun]
theorem fU {w : World} {base e z n : Nat} {v : Value} {xs : List Value} (h : w.ownsRow base e z v n xs) {b : Nat} (hb : v.ownBlock = some b) : base <= b /\ ∃ cur, w.heap[b]? = some (.cells cur e) := by
  rcases h.2 with ⟨rfl, _⟩ | ⟨g, cap, cur, rfl, h2, h3, _⟩
  · cases hb
  · cases hb
    exact ⟨h2, _, h3⟩
theorem GQ {L : Nat} {H H' : PH L} {w w' : World} {e : TypeId} {z n : Nat} {v : Value} {xs : List Value} (c : Calm H w H' w') (hown : w'.ownsRow w.heap.size e z v n xs) (hf : ∀ b, v.ownBlock = some b -> ∀ o u, H' b o ≠ some u) (h1 : ∀ u ∈ xs, u.oneCell' = true) :
    Calm H w (zl H' v xs) w' /\ PH.le H' (zl H' v xs) := by
  obtain ⟨s, l⟩ := DZ c.sat hown hf h1
  refine ⟨⟨c.le.trans l, s, c.keep, fun b o u hu => ?_⟩, l⟩
  unfold zl at hu
  split at hu
  · rename_i hc
    exact .inr (fU hown (by rw [← Lj hown]; exact hc.1)).1
  · exact c.new b o u hu
theorem UE {L : Nat} {H : PH L} : ∀ {vs : List Val} {us : List Value}, xG H 6 (Val.rows vs) us -> ∀ u ∈ us, u.oneCell' = true
  | [], us, h, u, hu => by
    simp only [Val.rows, xG] at h
    subst h
    cases hu
  | v :: vs, us, h, u, hu => by
    simp only [Val.rows, xG] at h
    obtain ⟨_, a, b, rfl, ha, hb⟩ := h
    rcases jx.1 hu with h1 | h1
    · obtain ⟨_, _, _, _, _, _, _, _, _, _, rfl⟩ := Qk ha
      simp only [jg, List.not_mem_nil, or_false] at h1
      rcases h1 with rfl | rfl | rfl | rfl | rfl | rfl <;> rfl
    · exact UE hb u h1
theorem xG.get {L : Nat} {H : PH L} {z : Nat} : ∀ {rows : List (List PV)} {vs : List Value} {j : Nat} {r : List PV}, xG H z rows vs -> rows[j]? = some r -> ∃ us, qJ H r us /\ ∀ i u, us[i]? = some u -> vs[j * z + i]? = some u
  | [], _, _, _, _, h => by cases h
  | r0 :: rows, vs, 0, r, h, e => by
    obtain ⟨hz, a, b, rfl, ha, hb⟩ := h
    simp only [List.getElem?_cons_zero, Option.some.injEq] at e
    subst e
    refine ⟨a, ha, fun i u hu => ?_⟩
    rw [Nat.zero_mul, jw, List.getElem?_append_left (List.getElem?_eq_some_iff.1 hu).1]
    exact hu
  | r0 :: rows, vs, j + 1, r, h, e => by
    obtain ⟨hz, a, b, rfl, ha, hb⟩ := h
    obtain ⟨us, h1, h2⟩ := xG.get hb (j := j) (by simpa using e)
    refine ⟨us, h1, fun i u hu => ?_⟩
    have la := ha.length
    rw [show (j + 1) * z + i = a.length + (j * z + i) by rw [la, hz, Nat.add_mul]; omega, List.getElem?_append_right (by omega), Nat.add_sub_cancel_left]
    exact h2 i u hu
theorem DX {L : Nat} {H : PH L} {z : Nat} : ∀ {rows rows' : List (List PV)} {a b : List Value}, xG H z rows a -> xG H z rows' b -> xG H z (rows ++ rows') (a ++ b)
  | [], _, _, _, h, k => by cases h; exact k
  | r :: rows, _, _, _, ⟨e, a, b, rfl, ha, hb⟩, k => ⟨e, a, b ++ _, by simp, ha, DX hb k⟩
section
variable {L : Nat} {K : SK} {H0 H : PH L} {M0 : Nat -> Prop} {w0 w : World} {bn bv bf vn vv vf : Value} {names : List (List UInt8)} {vals : List Val} {used : List Int} {found : List bS} {cnt : Nat} {D : DM}
theorem Sg.clone (h : Sg K H0 M0 w0 H w bn bv bf vn vv vf names vals found cnt D) (hl : names.length < 1000000000) : Calls Tryz.prog 46 #[vn] w fun e w' => ∃ v', e = .returned v' /\ w'.ownsRow w.heap.size 9 1 v' names.length (VB names) /\ Below w.heap.size w w' := by
  have ho := h.ownN
  rcases ho.2 with ⟨e, h0⟩ | ⟨g, cap, cur, e, _⟩
  · subst e
    have hn : names = [] := List.eq_nil_of_length_eq_zero h0
    subst hn
    refine (Tryz.slices_Clone_string_nil 0 0 w).mono ?_
    rintro e w' ⟨rfl, rfl⟩
    exact ⟨_, rfl, ⟨rfl, .inl ⟨rfl, rfl⟩⟩, Below.refl _ _⟩
  · subst e
    have hc : ∀ o u, (VB names)[o]? = some u -> w.cell? ⟨g, o, none⟩ = some u := fun o u hu => by
      have := ho.cells (g := g) rfl o u hu
      rw [Addr.add_lit, jw] at this
      exact this
    refine (Tryz.slices_Clone_string g 0 names.length cap (names.map fun s => ⟨s.toArray⟩) w (by simp) (by omega) fun j hj => ?_).mono ?_
    · rw [jw]
      refine hc j _ ?_
      rw [jl] at hj
      simp [VB, List.getD, jf hj]
    · rintro e w' ⟨v', rfl, h1, _, h3⟩
      refine ⟨v', rfl, ?_, h3⟩
      have : (List.map Value.string (List.take names.length (names.map fun s => (⟨s.toArray⟩ : ByteArray)))) = VB names := by
        rw [List.take_of_length_le (by simp)]
        simp [VB, jU, Function.comp_def]
      rw [this] at h1
      exact h1
end
section
variable {g : Graph}
set_option maxHeartbeats 8000000 in
set_option maxRecDepth 100000 in
theorem Nd {n : Nat} : RO g [] (rQ n g []) (Dy n g []) := by
  intro L K H0 H M0 w0 w vn vv vf names vals used found D h hu hlv hg hok vt ht
  simp only [Dy, ji, kde, List.all_eq_true] at hok
  obtain ⟨hln, hcp⟩ := hok
  obtain ⟨tp, tc, rfl⟩ := zL ht
  rw [show (qK.rows ([] : List qK)).length = 0 from rfl]
  have h3 : Sg K H0 M0 w0 H (((w.alloc (.cells #[.pointer (some ⟨K.sb, 0, none⟩)] 114)).alloc (.cells #[.slice tp 0 tc] 111)).alloc (.cells #[.bool false] 4)) vn vv vf vn vv vf names vals found used.length D := (((h.alloc _).alloc _).alloc _)
  have bl3 : Below w.heap.size w (((w.alloc (.cells #[.pointer (some ⟨K.sb, 0, none⟩)] 114)).alloc (.cells #[.slice tp 0 tc] 111)).alloc (.cells #[.bool false] 4)) := ((((Below.refl _ w).alloc (jv _) _).alloc (by simp) _).alloc (by simp <;> omega) _)
  have r0 : (((w.alloc (.cells #[.pointer (some ⟨K.sb, 0, none⟩)] 114)).alloc (.cells #[.slice tp 0 tc] 111)).alloc (.cells #[.bool false] 4)).heap[w.heap.size]? = some (.cells #[.pointer (some ⟨K.sb, 0, none⟩)] 114) := (heap_alloc_old _ _ (by simp <;> omega)).trans ((heap_alloc_old _ _ (by simp <;> omega)).trans (World.alloc_heap_new w _))
  have r2 : (((w.alloc (.cells #[.pointer (some ⟨K.sb, 0, none⟩)] 114)).alloc (.cells #[.slice tp 0 tc] 111)).alloc (.cells #[.bool false] 4)).heap[w.heap.size + 1 + 1]? = some (.cells #[.bool false] 4) := xl _ _ _ (by simp)
  have sz3 : (((w.alloc (.cells #[.pointer (some ⟨K.sb, 0, none⟩)] 114)).alloc (.cells #[.slice tp 0 tc] 111)).alloc (.cells #[.bool false] 4)).heap.size = w.heap.size + 3 := by simp
  obtain ⟨ys, y1, y2⟩ := h.ownF
  obtain ⟨fp, fc, hvf⟩ := vJ y1
  obtain ⟨xs, x1, x2⟩ := h.ownV
  obtain ⟨vp, vc, hvv⟩ := vJ x1
  obtain ⟨np, nc, hvn⟩ := vJ h.ownN
  have b5 : (((w.alloc (.cells #[.pointer (some ⟨K.sb, 0, none⟩)] 114)).alloc (.cells #[.slice tp 0 tc] 111)).alloc (.cells #[.bool false] 4)).cell? ⟨K.sb, 5, none⟩ = some (.slice fp found.length fc) := by rw [← hvf]; exact qc h3.box 5 rfl
  have b3 : (((w.alloc (.cells #[.pointer (some ⟨K.sb, 0, none⟩)] 114)).alloc (.cells #[.slice tp 0 tc] 111)).alloc (.cells #[.bool false] 4)).cell? ⟨K.sb, 3, none⟩ = some (.slice vp vals.length vc) := by rw [← hvv]; exact qc h3.box 3 rfl
  have b2 : (((w.alloc (.cells #[.pointer (some ⟨K.sb, 0, none⟩)] 114)).alloc (.cells #[.slice tp 0 tc] 111)).alloc (.cells #[.bool false] 4)).cell? ⟨K.sb, 2, none⟩ = some (.slice np names.length nc) := by rw [← hvn]; exact qc h3.box 2 rfl
  have nM : ∀ c, w.heap.size <= c -> ¬ K.M vn vv vf c := fun c hc hm => by have := (h.fresh hm).2.1; omega
  have g3 : Gw H (K.M vn vv vf) w H (K.M vn vv vf) (((w.alloc (.cells #[.pointer (some ⟨K.sb, 0, none⟩)] 114)).alloc (.cells #[.slice tp 0 tc] 111)).alloc (.cells #[.bool false] 4)) := Gw.below bl3
  have m46 := h3.clone hln
  rw [hvn] at m46
  by_cases hfl : 4096 <= found.length
  · have hres : rQ n g [] used names vals found = (false, found) := by simp only [rQ, if_pos hfl]
    rw [hres]
    have z1 : (4096 : Int) <= (found.length : Int) := by omega
    replace h := Hd.mk h; replace hu := Hd.mk hu; replace hg := Hd.mk hg; replace hcp := Hd.mk hcp; replace ht := Hd.mk ht; replace h3 := Hd.mk h3; replace bl3 := Hd.mk bl3; replace r0 := Hd.mk r0; replace r2 := Hd.mk r2; replace sz3 := Hd.mk sz3; replace y1 := Hd.mk y1; replace y2 := Hd.mk y2; replace x1 := Hd.mk x1; replace x2 := Hd.mk x2; replace hvf := Hd.mk hvf; replace hvv := Hd.mk hvv; replace hvn := Hd.mk hvn; replace g3 := Hd.mk g3; replace m46 := Hd.mk m46
    refine (callsIn_wide (n := 2)).1 ?_
    refine callsIn_of_wp Tryz.func48 rfl trivial ?_ rfl
    simp only [Tryz.ntmps48, jL, ja, jc, Nat.reduceAdd, Nat.reduceSub, Array.replicate_succ, Array.replicate_zero, List.push_toArray, List.append_toArray, jt, List.cons_append]
    gi_wp2
    have bx : Boxed (((w.alloc (.cells #[.pointer (some ⟨K.sb, 0, none⟩)] 114)).alloc (.cells #[.slice tp 0 tc] 111)).alloc (.cells #[.bool false] 4)) (w.heap.size + 1 + 1) 4 (.bool false) := r2.h
    have hc := bx.cell
    exact bodyPost_ret (v := .bool false) (by simp [results, Tryz.results48, go_sem, hc]) rfl ⟨rfl, H, vn, vv, vf, D, h3.h.start.back g3.h, hu.h⟩
  · have hres : rQ n g [] used names vals found = (true, found ++ [⟨names, vals.map (XU n)⟩]) := by simp only [rQ, if_neg hfl]
    rw [hres]
    have z1 : ¬ (4096 : Int) <= (found.length : Int) := by omega
    replace h := Hd.mk h; replace hu := Hd.mk hu; replace hg := Hd.mk hg; replace hcp := Hd.mk hcp; replace ht := Hd.mk ht; replace h3 := Hd.mk h3; replace bl3 := Hd.mk bl3; replace r0 := Hd.mk r0; replace r2 := Hd.mk r2; replace sz3 := Hd.mk sz3; replace y1 := Hd.mk y1; replace y2 := Hd.mk y2; replace x1 := Hd.mk x1; replace x2 := Hd.mk x2; replace hvf := Hd.mk hvf; replace hvv := Hd.mk hvv; replace hvn := Hd.mk hvn; replace g3 := Hd.mk g3
    refine (callsIn_wide (n := 2)).1 ?_
    refine callsIn_of_wp Tryz.func48 rfl trivial ?_ rfl
    simp only [Tryz.ntmps48, jL, ja, jc, Nat.reduceAdd, Nat.reduceSub, Array.replicate_succ, Array.replicate_zero, List.push_toArray, List.append_toArray, jt, List.cons_append]
    gi_wp2_with (
      refine ⟨trivial, ?_⟩; gi_at_call 46; refine (callsIn_wide.2 m46).mono ?_; rintro e w1 ⟨vc1, rfl, own1, c1⟩
      obtain ⟨cp, cc, hvc⟩ := vJ own1
      have hs1 := h3.h.below c1
      have s0 : (w1.alloc (.cells #[vc1, .slice none 0 0] 26)).cell? ⟨K.sb, 3, none⟩ = some (.slice vp vals.length vc) := by rw [← hvv.h]; exact zV _ (qc hs1.box 3 rfl)
      have s1 : (w1.alloc (.cells #[vc1, .slice none 0 0] 26)).cell? ⟨w.heap.size, 0, none⟩ = some (.pointer (some ⟨K.sb, 0, none⟩)) := zV _ (qc ((c1.block _ (jH.1 r0.h).1).trans r0.h) 0 rfl)
      subst hvc
      replace own1 := Hd.mk own1; replace hs1 := Hd.mk hs1)
    generalize hW3 : (((w.alloc (.cells #[.pointer (some ⟨K.sb, 0, none⟩)] 114)).alloc (.cells #[.slice tp 0 tc] 111)).alloc (.cells #[.bool false] 4)) = W3 at *
    have k1 := dT h3.h.sat c1
    obtain ⟨k2, l2⟩ := GQ k1 own1.h (fun b hb o u hu => by
      have := (fU own1.h hb).1
      have := h3.h.sat.lt hu
      omega) (Ee names)
    have rn : qp (zl H (.slice cp names.length cc) (VB names)) (.sl (qy names)) (.slice cp names.length cc) := xD (Fu names) l2 (by rw [show (qy names).length = names.length from by simp [qy]]; exact Vs own1.h (jR _))
    generalize hH1 : zl H (.slice cp names.length cc) (VB names) = H1 at k2 l2 rn
    have k3 := bM (row := none) k2 (World.grownBy_alloc w1 (.cells #[(.slice cp names.length cc), .slice none 0 0] 26) none) (fun b e => by cases e)
    have e26 : (w1.alloc (.cells #[(.slice cp names.length cc), .slice none 0 0] 26)).heap[w1.heap.size]? = some (.cells #[(.slice cp names.length cc), .slice none 0 0] 26) := World.alloc_heap_new w1 _
    have n26 : ∀ o u, H1 w1.heap.size o ≠ some u := fun o u hu => Nat.lt_irrefl _ (k2.sat.lt hu)
    have lw1 : W3.heap.size <= w1.heap.size := c1.size
    generalize hwS : w1.alloc (.cells #[(.slice cp names.length cc), .slice none 0 0] 26) = wS at k3 e26 s0 s1 ⊢
    generalize hB5 : w1.heap.size = B5 at e26 n26 lw1 ⊢
    clear hwS own1 hs1 c1 k1 k2 hB5 s0 s1
    replace hW3 := Hd.mk hW3; replace rn := Hd.mk rn; replace e26 := Hd.mk e26; replace n26 := Hd.mk n26; replace k3 := Hd.mk k3; replace l2 := Hd.mk l2
    gi_loopw [32] (fun v wr => ∃ (j : Nat) (Hj : PH L) (vo : Value) (zs : List Value), v = .int .i64 (j : Int) /\ j <= vals.length /\ PH.le H1 Hj /\ Calm H W3 Hj wr /\ wr.heap[B5]? = some (.cells #[(.slice cp names.length cc), vo] 26) /\ (∀ o u, Hj B5 o ≠ some u) /\ wr.ownsRow W3.heap.size 32 6 vo j zs /\ xG Hj 6 (Val.rows ((vals.take j).map (XU n))) zs /\ (∀ b, vo.ownBlock = some b -> ∀ o u, Hj b o ≠ some u)) (fun v _ => vals.length - (intOf v).toNat)
    case atStart => exact ⟨0, H1, .slice none 0 0, [], rfl, jR _, PH.le.refl H1, k3.h, e26.h, n26.h, ⟨rfl, .inl ⟨rfl, rfl⟩⟩, rfl, fun b e => by cases e⟩
    case round =>
      obtain ⟨j, Hj, vo, zs, rfl, hj, lej, kj, ej, nj, oj, rj, fj⟩ := hrel
      have z0 : (0 : Int) <= (j : Int) := by omega
      have hsj := h3.h.calm kj
      rcases Nat.lt_or_ge j vals.length with hlt | hge
      · have zz : (j : Int) < (vals.length : Int) := by omega
        have hnd := jf hlt
        generalize vals[j] = vj at hnd
        obtain ⟨as_, a1, a2⟩ := hsj.ownV
        obtain ⟨us, hus, hget⟩ := xG.get a2 (j := j) (r := vj.cells) (by rw [show Val.rows vals = vals.map Val.cells from xV.hrows vals, List.getElem?_map, hnd]; rfl)
        obtain ⟨k6, i6, b6, s6, p6, q6, n6, c6, m6, e6, rfl⟩ := Qk hus
        have hvp : ∃ vg, vp = some (⟨vg, 0, none⟩ : Addr) := by
          have := a1.2
          rw [hvv.h] at this
          rcases this with ⟨_, h0⟩ | ⟨gg, cap, cur, e1, _⟩
          · omega
          · cases e1; exact ⟨_, rfl⟩
        obtain ⟨vg, hvg⟩ := hvp
        subst hvg
        have gc : ∀ o u, as_[o]? = some u -> wr.cell? ⟨vg, o, none⟩ = some u := fun o u hu => by
          have := a1.cells (g := vg) (by rw [hvv.h]; rfl) o u hu
          rw [Addr.add_lit, jw] at this
          exact this
        have d0 : wr.cell? ⟨vg, j * 6, none⟩ = some (.int .i64 k6) := gc _ _ (hget 0 _ rfl)
        have d1 := gc _ _ (hget 1 _ rfl)
        have d2 := gc _ _ (hget 2 _ rfl)
        have d3 := gc _ _ (hget 3 _ rfl)
        have d4 := gc _ _ (hget 4 _ rfl)
        have d5 := gc _ _ (hget 5 _ rfl)
        obtain ⟨cj, hcj⟩ := Option.isSome_iff_exists.1 (hcp.h vj (List.mem_of_getElem? hnd))
        have htk : (vals.take (j + 1)).map (XU n) = (vals.take j).map (XU n) ++ [cj] := by
          rw [List.take_add_one, hnd, jX]
          simp [XU, hcj]
        have k7 := bM (row := none) kj (World.grownBy_alloc wr (.cells (dE k6 i6 b6 s6 p6 q6 n6 c6 m6 e6) 32) none) (fun b e => by cases e)
        have e7 : (wr.alloc (.cells (dE k6 i6 b6 s6 p6 q6 n6 c6 m6 e6) 32)).heap[wr.heap.size]? = some (.cells (dE k6 i6 b6 s6 p6 q6 n6 c6 m6 e6) 32) := World.alloc_heap_new wr _
        have g5 : (wr.alloc (.cells (dE k6 i6 b6 s6 p6 q6 n6 c6 m6 e6) 32)).heap[B5]? = some (.cells #[(.slice cp names.length cc), vo] 26) := (heap_alloc_old wr _ (jH.1 ej).1).trans ej
        have ov : (wr.alloc (.cells (dE k6 i6 b6 s6 p6 q6 n6 c6 m6 e6) 32)).ownsRow W3.heap.size 32 6 vo j zs := xe oj fun b hb => by
          obtain ⟨_, cur, hc⟩ := fU oj hb
          exact heap_alloc_old wr _ (jH.1 hc).1
        replace kj := Hd.mk kj; replace ej := Hd.mk ej; replace nj := Hd.mk nj; replace oj := Hd.mk oj; replace rj := Hd.mk rj; replace fj := Hd.mk fj; replace hsj := Hd.mk hsj; replace a1 := Hd.mk a1; replace a2 := Hd.mk a2; replace hus := Hd.mk hus; replace hget := Hd.mk hget; replace gc := Hd.mk gc; replace k7 := Hd.mk k7; replace e7 := Hd.mk e7; replace g5 := Hd.mk g5; replace ov := Hd.mk ov; replace htk := Hd.mk htk; replace hcj := Hd.mk hcj; replace lej := Hd.mk lej; replace hnd := Hd.mk hnd
        gi_wp2_with fail
        clear d0 d1 d2 d3 d4 d5
        generalize hw7 : wr.alloc (.cells (dE k6 i6 b6 s6 p6 q6 n6 c6 m6 e6) 32) = w7 at k7 e7 g5 ov ⊢
        clear hw7
        obtain ⟨op, oc, hvo⟩ := vJ ov.h
        subst hvo
        obtain ⟨S, hSe⟩ : ∃ S : World -> Prop, S = fun w' => Below w7.heap.size w7 w' := ⟨_, rfl⟩
        have hS : S w7.drew := by rw [hSe]; exact ⟨rfl, rfl, rfl, jv _, fun _ _ => rfl⟩
        have hC : ∀ w', S w' -> w'.cell? ⟨B5, 1, none⟩ = some (.slice op j oc) /\ w'.cell? ⟨wr.heap.size, 0, none⟩ = some (.int .i64 k6) /\ w'.cell? ⟨wr.heap.size, 1, none⟩ = some (.bool b6) /\ w'.cell? ⟨wr.heap.size, 2, none⟩ = some (.int .i64 i6) /\ w'.cell? ⟨wr.heap.size, 3, none⟩ = some (.string s6) /\ w'.cell? ⟨wr.heap.size, 4, none⟩ = some (.slice p6 n6 c6) /\ w'.cell? ⟨wr.heap.size, 5, none⟩ = some (.slice q6 m6 e6) := fun w' hw => by
          rw [hSe] at hw
          have cc : ∀ {b i : Nat} {v : Value}, w7.cell? ⟨b, i, none⟩ = some v -> w'.cell? ⟨b, i, none⟩ = some v := fun {b i v} hv => (World.cell?_of_block (w := w7) (a := ⟨b, i, none⟩) (hw.block b (gQ hv))).trans hv
          exact ⟨cc (qc g5.h 1 rfl), cc (qc e7.h 0 rfl), cc (qc e7.h 1 rfl), cc (qc e7.h 2 rfl), cc (qc e7.h 3 rfl), cc (qc e7.h 4 rfl), cc (qc e7.h 5 rfl)⟩
        have k8 := bM (row := none) k7.h (w'' := w7.drew) ⟨rfl, rfl, rfl, jv _, fun _ _ _ => rfl⟩ (fun b e => by cases e)
        have m67 := ((rL n) _ _ hcj.h).calls (fun _ _ => Tryz.call67 _ _) k8.sat (vs := [.agg (dE k6 i6 b6 s6 p6 q6 n6 c6 m6 e6)]) (by simp only [qJ]; exact ⟨_, _, rfl, fN hus.h, rfl⟩)
        refine zH S 5 (by kernel_rfl) ?_
        simp only [jL, ja, jc, Nat.reduceAdd, Array.replicate_succ, Array.replicate_zero, List.push_toArray, jt, List.cons_append]
        refine qe (i := 0) (v := .pointer (some ⟨B5, 1, none⟩)) (by kernel_rfl) rfl (by kernel_rfl) (by kernel_rfl) (by kernel_rfl) (fun _ _ _ h => h) (by decide) ⟨Or.inl ⟨by rfl, ?_⟩, fun _ => rfl⟩ (fun _ => hS) ?_
        · clear hC m67; intro w _; go_simp
        try simp only [Act.put, List.setIfInBounds_toArray, List.set_cons_zero, List.set_cons_succ]
        refine qO (i := 1) (v := .slice op j oc) [5] (by kernel_rfl) rfl (by kernel_rfl) (by kernel_rfl) (by kernel_rfl) (fun _ _ _ h => h) (by kernel_rfl) (by kernel_rfl) (by kernel_rfl) (by decide) ⟨Or.inl ⟨by rfl, ?_⟩, fun _ => rfl⟩ hS ?_
        · intro w hw; have hc := hC w hw; clear hC m67; go_split_ands; go_simp
        try simp only [Act.put, List.setIfInBounds_toArray, List.set_cons_zero, List.set_cons_succ]
        refine qO (i := 2) (v := .agg (dE k6 i6 b6 s6 p6 q6 n6 c6 m6 e6)) [3, 4, 5] (by kernel_rfl) rfl (by kernel_rfl) (by kernel_rfl) (by kernel_rfl) (fun _ _ _ h => h) (by kernel_rfl) (by kernel_rfl) (by kernel_rfl) (by decide) ⟨Or.inl ⟨by rfl, ?_⟩, fun _ => rfl⟩ hS ?_
        · intro w hw; have hc := hC w hw; clear hC m67; go_split_ands; go_simp
        try simp only [Act.put, List.setIfInBounds_toArray, List.set_cons_zero, List.set_cons_succ]
        refine um (i := 3) (by kernel_rfl) rfl fun Kk hKk => ?_
        refine dA (f := 67) (lb := #[]) rfl rfl (.inl rfl) ?hv ?ha (fun _ _ => Tryz.call67 _ _) trivial (callsIn_wide.2 m67) ?_
        case hv => rfl
        case ha => clear hC m67; go_simp
        rintro e' w8 ⟨vr, H8, rfl, c8, r8⟩
        simp only [gn, qp] at r8
        obtain ⟨us8, rfl, r8⟩ := r8
        obtain ⟨k9, i9, b9, s9, p9, q9, n9, c9, m9, e9, rfl⟩ := Qk r8
        have hS8 : S w8 := by rw [hSe] at hS ⊢; exact hS.trans (c8.below.mono hS.size)
        refine ⟨_, rfl, hKk _ _ (fun _ => hS8) ?_⟩
        try simp only [Act.put, List.setIfInBounds_toArray, List.set_cons_zero, List.set_cons_succ]
        clear hKk m67
        refine um (i := 4) (by kernel_rfl) rfl fun Kk hKk => ?_
        refine tQ (v := .slice (some ⟨w8.heap.size, 0, none⟩) 1 1) (.inl rfl) (fun c => by simp) (fun _ => trivial) (w' := w8.alloc (.cells (dE k9 i9 b9 s9 p9 q9 n9 c9 m9 e9) 32)) (x := .value (.slice (some ⟨w8.heap.size, 0, none⟩) 1 1)) ?hrun (.inl rfl) ?_
        case hrun => clear hKk hC; go_simp
        have hS9 : S (w8.alloc (.cells (dE k9 i9 b9 s9 p9 q9 n9 c9 m9 e9) 32)) := by rw [hSe] at hS8 ⊢; exact hS8.alloc hS8.size _
        refine hKk _ _ (fun _ => hS9) ?_
        try simp only [Act.put, List.setIfInBounds_toArray, List.set_cons_zero, List.set_cons_succ]
        clear hKk
        have ltb : ∀ b : Nat, (Value.slice op j oc).ownBlock = some b -> W3.heap.size <= b /\ b < w7.heap.size /\ b ≠ B5 := fun b hb => by
          obtain ⟨h1, cur, h2⟩ := fU ov.h hb
          refine ⟨h1, (jH.1 h2).1, fun e => ?_⟩
          have := g5.h
          rw [← e, h2] at this
          simp at this
        have lt5 : B5 < w7.heap.size := (jH.1 g5.h).1
        have hn5 : ∀ o u, H8 B5 o ≠ some u := fun o u hu => by
          rcases c8.new _ _ _ hu with ⟨v', h1⟩ | h1
          · exact nj.h _ _ h1
          · exact absurd (show w7.heap.size <= B5 from h1) (by omega)
        have hno : ∀ b, (Value.slice op j oc).ownBlock = some b -> ∀ o u, H8 b o ≠ some u := fun b hb o u hu => by
          rcases c8.new _ _ _ hu with ⟨v', h1⟩ | h1
          · exact fj.h b hb _ _ h1
          · exact absurd (show w7.heap.size <= b from h1) (by have := (ltb _ hb).2.1; omega)
        have sz8 : w7.heap.size <= w8.heap.size := c8.keep.size
        have k9' := bM (row := none) (k8.trans c8) (World.grownBy_alloc w8 (.cells (dE k9 i9 b9 s9 p9 q9 n9 c9 m9 e9) 32) none) (fun b e => by cases e)
        have kp : ∀ b, b < w7.heap.size -> (w8.alloc (.cells (dE k9 i9 b9 s9 p9 q9 n9 c9 m9 e9) 32)).heap[b]? = w7.heap[b]? := fun b hb => (heap_alloc_old w8 _ (Nat.lt_of_lt_of_le hb sz8)).trans (c8.keep.block b hb id)
        have ov9 : (w8.alloc (.cells (dE k9 i9 b9 s9 p9 q9 n9 c9 m9 e9) 32)).ownsRow W3.heap.size 32 6 (.slice op j oc) j zs := xe ov.h fun b hb => kp b (ltb _ hb).2.1
        have rb9 : (w8.alloc (.cells (dE k9 i9 b9 s9 p9 q9 n9 c9 m9 e9) 32)).heap[w8.heap.size]? = some (.cells (dE k9 i9 b9 s9 p9 q9 n9 c9 m9 e9) 32) := World.alloc_heap_new w8 _
        have qb9 : (w8.alloc (.cells (dE k9 i9 b9 s9 p9 q9 n9 c9 m9 e9) 32)).heap[B5]? = some (.cells #[(.slice cp names.length cc), .slice op j oc] 26) := (kp _ lt5).trans g5.h
        have hsz9 : (w8.alloc (.cells (dE k9 i9 b9 s9 p9 q9 n9 c9 m9 e9) 32)).heap.size = w8.heap.size + 1 := by simp
        generalize hw9 : w8.alloc (.cells (dE k9 i9 b9 s9 p9 q9 n9 c9 m9 e9) 32) = w9 at hS9 k9' kp ov9 rb9 qb9 hsz9 ⊢
        obtain ⟨i32, p31, p32, p33, p34⟩ := HK
        have l37 : W3.heap.size <= w7.heap.size := k7.h.keep.size
        obtain ⟨g2, cap2, w10, hrun, own2, hgr, hat, hlt2⟩ := run_append_lies (P := Tryz.prog) w9 24 24 W3.heap.size 32 i32 _ 6 88 Tryz.underlying24 p31 p32 p33 p34 rfl (by omega) (.slice op j oc) j zs ov9 ⟨w8.heap.size, 0, none⟩ 1 1 [.int .i64 k9, .bool b9, .int .i64 i9, .string s9, .slice p9 n9 c9, .slice q9 m9 e9] (by rfl) (World.news_of_block (cs := (dE k9 i9 b9 s9 p9 q9 n9 c9 m9 e9)) (t := 32) (fr := (0, 0)) rb9) (by simp [Value.oneCell']) (by omega) (by unfold maxLen; omega) (by omega) (by omega) _ rfl
        have q10 : w10.heap[B5]? = some (.cells #[(.slice cp names.length cc), .slice op j oc] 26) := (hgr.block _ (by omega) fun e => (ltb _ e.symm).2.2 rfl).trans qb9
        have cR : w10.cell? ⟨B5, 1, none⟩ = some (.slice op j oc) := qc q10 1 rfl
        have fR : w10.frozen? ⟨B5, 1, none⟩ = false := by simp [World.frozen?, q10]
        replace ltb := Hd.mk ltb; replace hn5 := Hd.mk hn5; replace hno := Hd.mk hno; replace k9' := Hd.mk k9'; replace kp := Hd.mk kp; replace ov9 := Hd.mk ov9; replace rb9 := Hd.mk rb9; replace qb9 := Hd.mk qb9; replace own2 := Hd.mk own2; replace hgr := Hd.mk hgr; replace hat := Hd.mk hat; replace q10 := Hd.mk q10; replace p31 := Hd.mk p31; replace p32 := Hd.mk p32; replace p33 := Hd.mk p33; replace p34 := Hd.mk p34
        refine um (i := 5) (by kernel_rfl) rfl fun Kk hKk => ?_
        refine tQ (v := (.slice (some ⟨g2, 0, none⟩) (j + 1) cap2)) (.inl rfl) (fun c => by simp) (fun _ => trivial) (w' := w10) (x := .value (.slice (some ⟨g2, 0, none⟩) (j + 1) cap2)) ?hrun (.inl rfl) ?_
        case hrun => exact Qf rfl rfl rfl hrun
        refine hKk _ _ (fun e => absurd e (by decide)) ?_
        try simp only [Act.put, List.setIfInBounds_toArray, List.set_cons_zero, List.set_cons_succ]
        clear hKk
        refine qe (i := 6) (v := .pointer (some ⟨B5, 1, none⟩)) (by kernel_rfl) rfl (by kernel_rfl) (by kernel_rfl) (by kernel_rfl) (fun _ _ _ h => h) (by decide) ⟨Or.inl ⟨by rfl, ?_⟩, fun _ => rfl⟩ (fun e => absurd e (by decide)) ?_
        · clear hC; intro w _; go_simp
        try simp only [Act.put, List.setIfInBounds_toArray, List.set_cons_zero, List.set_cons_succ]
        refine um (i := 7) (by kernel_rfl) rfl fun Kk hKk => ?_
        refine tQ (v := undef) (.inl rfl) (fun c => by simp) (fun _ => trivial) (w' := w10.setCell ⟨B5, 1, none⟩ (.slice (some ⟨g2, 0, none⟩) (j + 1) cap2)) (x := .skip) ?hrun (.inr ⟨rfl, rfl⟩) ?_
        case hrun => clear hKk hC; go_simp
        refine hKk _ _ (fun e => absurd e (by decide)) ?_
        try simp only [Act.put, List.setIfInBounds_toArray, List.set_cons_zero, List.set_cons_succ]
        refine vB (by kernel_rfl) ?_ _
        clear hKk hC hS hSe hS8 hS9 S
        gi_wp2
        go_roundw
        case rel =>
          have q11 : (w10.setCell ⟨B5, 1, none⟩ (.slice (some ⟨g2, 0, none⟩) (j + 1) cap2)).heap[B5]? = some (.cells #[(.slice cp names.length cc), (.slice (some ⟨g2, 0, none⟩) (j + 1) cap2)] 26) := heap_setCell_same w10 B5 1 _ _ (.slice (some ⟨g2, 0, none⟩) (j + 1) cap2) q10.h
          have own3 := xe (w' := w10.setCell ⟨B5, 1, none⟩ (.slice (some ⟨g2, 0, none⟩) (j + 1) cap2)) own2.h fun b hb => by
            obtain ⟨_, cur, hc⟩ := fU own2.h hb
            exact (xT w10 B5 1 _).block b (jH.1 hc).1 fun e => by
              cases e
              rw [q10.h] at hc
              simp at hc
          refine ⟨j + 1, H8, (.slice (some ⟨g2, 0, none⟩) (j + 1) cap2), zs ++ [.int .i64 k9, .bool b9, .int .i64 i9, .string s9, .slice p9 n9 c9, .slice q9 m9 e9], by congr 1 <;> omega, hlt, lej.h.trans c8.le, bM (bM k9'.h hgr.h fun b e => ⟨(ltb.h _ e).1, hno.h b e⟩) (xT w10 B5 1 _) (fun b e => by cases e; exact ⟨lw1, hn5.h⟩), q11, hn5.h, own3, ?_, fun b hb o u hu => ?_⟩
          · rw [htk.h, show Val.rows (List.map (XU n) (List.take j vals) ++ [cj]) = Val.rows (List.map (XU n) (List.take j vals)) ++ [cj.cells] by rw [show ∀ l, Val.rows l = l.map Val.cells from fun l => xV.hrows l, show ∀ l, Val.rows l = l.map Val.cells from fun l => xV.hrows l, jX]; rfl]
            exact DX (rj.h.mono c8.le) ⟨xV.hz cj, _, [], (List.append_nil _).symm, r8, rfl⟩
          · cases hb
            rcases hat.h with h1 | h1
            · exact hno.h _ h1 o u hu
            · have := c8.sat.lt (b := g2) hu
              omega
        case measure => simp [intOf]; omega
      · have hje : j = vals.length := by omega
        have zz : ¬ (j : Int) < (vals.length : Int) := by omega
        subst hje
        rw [List.take_length] at rj
        obtain ⟨op, oc, hvo⟩ := vJ oj
        subst hvo
        obtain ⟨kp, lp⟩ := GQ kj oj fj (UE rj)
        have lrows : (Val.rows (vals.map (XU n))).length = vals.length := by rw [tG, jl]
        have rvo : qp (zl Hj (.slice op vals.length oc) zs) (.sl (Val.rows (vals.map (XU n)))) (.slice op vals.length oc) := xD rj lp (by rw [lrows]; exact Vs oj (jR _))
        generalize hH9 : zl Hj (.slice op vals.length oc) zs = H9 at kp lp rvo
        have rnm : qp H9 (.sl (qy names)) (.slice cp names.length cc) := rn.h.mono (lej.trans lp)
        have hrx : qJ H9 (fQ ⟨names, vals.map (XU n)⟩) [(.slice cp names.length cc), .slice op vals.length oc] := by
          simp only [fQ, qJ]
          exact ⟨_, _, rfl, rnm, _, _, rfl, rvo, rfl⟩
        have hA := ((h3.h.start.back g3.h).calm kp).drew.alloc (.cells #[(.slice cp names.length cc), .slice op vals.length oc] 26)
        obtain ⟨ys2, f1, f2⟩ := hA.ownF
        rw [hvf.h] at f1
        have lr : wr.drew.heap.size = wr.heap.size := rfl
        have lW : W3.heap.size <= wr.heap.size := kp.keep.size
        have qN : wr.heap[w.heap.size]? = some (.cells #[.pointer (some ⟨K.sb, 0, none⟩)] 114) := (kp.keep.block _ (jH.1 r0.h).1 id).trans r0.h
        have qR : wr.heap[w.heap.size + 1 + 1]? = some (.cells #[.bool false] 4) := (kp.keep.block _ (jH.1 r2.h).1 id).trans r2.h
        have sbl : K.sb < w.heap.size := (h.h.fresh (.inl rfl)).2.1
        have vfl : ∀ b, vf.ownBlock = some b -> b < w.heap.size := fun b hb => (h.h.fresh (.inr (.inr (.inr (.inr hb))))).2.1
        have szR : w.heap.size + 3 <= wr.heap.size := by have := sz3.h; omega
        have b5t : ∀ b, vf.ownBlock = some b -> b ≠ B5 := fun b hb e => by have := vfl b hb; have := sz3.h; omega
        have hq9 : (wr.drew.alloc (.cells #[(.slice cp names.length cc), .slice op vals.length oc] 26)).heap[wr.heap.size]? = some (.cells #[(.slice cp names.length cc), .slice op vals.length oc] 26) := World.alloc_heap_new wr.drew _
        have sbx := ((h3.h.start.back g3.h).calm kp).box
        rw [hvf.h] at sbx
        have vfs := h.h.fsb
        have ltL : L <= wr.heap.size := Nat.le_trans h.h.sat.low (by omega)
        generalize hwA : wr.drew.alloc (.cells #[(.slice cp names.length cc), .slice op vals.length oc] 26) = wA at hA f1 hq9
        have szA : wA.heap.size = wr.heap.size + 1 := by rw [← hwA, World.size_alloc]; rfl
        have qA : ∀ b, b < wr.heap.size -> wA.heap[b]? = wr.heap[b]? := fun b hb => by rw [← hwA]; exact heap_alloc_old wr.drew _ hb
        obtain ⟨i26, p31, p32, p33, p34⟩ := Pt
        obtain ⟨g2, cap2, w10, hrun, own2, hgr, hat, hlt2⟩ := run_append_lies (P := Tryz.prog) wA 37 37 L 26 i26 _ 2 48 Tryz.underlying37 p31 p32 p33 p34 rfl (by omega) (.slice fp found.length fc) found.length ys2 f1 ⟨wr.heap.size, 0, none⟩ 1 1 [(.slice cp names.length cc), .slice op vals.length oc] (by rfl) (World.news_of_block (cs := #[(.slice cp names.length cc), .slice op vals.length oc]) (t := 26) (fr := (0, 0)) hq9) (by simp [Value.oneCell']) (by omega) (by unfold maxLen; omega) (by omega) (by omega) _ rfl
        rw [← hvf.h] at hgr hat f1
        have hF := hA.fd hrx ⟨f1, f2⟩ own2 hgr (hat.imp (fun e => e.symm) fun e => by rw [← e]; rfl)
        have hG := hF.set5 (.slice (some ⟨g2, 0, none⟩) (found.length + 1) cap2)
        have q10 : ∀ b, b < wr.heap.size -> vf.ownBlock ≠ some b -> w10.heap[b]? = wr.heap[b]? := fun b hb hn => (hgr.block b (by omega) fun e => hn e.symm).trans (qA b hb)
        have cR : w10.cell? ⟨K.sb, 5, none⟩ = some (.slice fp found.length fc) := by rw [← hvf.h]; exact qc hF.box 5 rfl
        have fR := hF.nofrz 5
        have bxR : Boxed (w10.setCell ⟨K.sb, 5, none⟩ (.slice (some ⟨g2, 0, none⟩) (found.length + 1) cap2)) (w.heap.size + 1 + 1) 4 (.bool false) := ((xT w10 K.sb 5 _).block _ (by have := hgr.size; omega) fun e => by simp only [Option.some.injEq] at e; omega).trans ((q10 _ (by omega) fun e => by have := vfl _ e; omega).trans qR)
        have cR2 := bxR.cell
        have fR2 := bxR.frozen
        have hT := hG.turnOther (xT (w10.setCell ⟨K.sb, 5, none⟩ (.slice (some ⟨g2, 0, none⟩) (found.length + 1) cap2)) (w.heap.size + 1 + 1) 0 (.bool true)) (fun hm => by
          rcases hm with h1 | h1 | h1 | h1 | h1
          · omega
          · have := (h.h.fresh (.inr (.inl h1))).2.1; omega
          · have := (h.h.fresh (.inr (.inr (.inl h1)))).2.1; omega
          · have := (h.h.fresh (.inr (.inr (.inr (.inl h1))))).2.1; omega
          · have h3 : g2 = (w.heap.size + 1 + 1) := Option.some.inj h1
            rcases hat with h2 | h2
            · have := vfl _ h2; omega
            · omega) (fun o v hv => by
          rcases kp.new _ _ _ hv with ⟨v', h1⟩ | h1
          · have := h.h.sat.lt h1; omega
          · have := sz3.h; omega) (by omega)
        have cT := (bxR.set (.bool true)).cell
        obtain ⟨S, hSe⟩ : ∃ S : World -> Prop, S = fun w' => w'.cell? ⟨w.heap.size, 0, none⟩ = some (.pointer (some ⟨K.sb, 0, none⟩)) /\ w'.cell? ⟨K.sb, 5, none⟩ = some (.slice fp found.length fc) /\ w'.cell? ⟨B5, 0, none⟩ = some (.slice cp names.length cc) /\ w'.cell? ⟨B5, 1, none⟩ = some (.slice op vals.length oc) := ⟨_, rfl⟩
        have hSw : ∀ w', w'.heap[w.heap.size]? = wr.heap[w.heap.size]? -> w'.heap[K.sb]? = wr.heap[K.sb]? -> w'.heap[B5]? = wr.heap[B5]? -> S w' := fun w' h1 h2 h3 => by
          rw [hSe]
          exact ⟨qc (h1.trans qN) 0 rfl, qc (h2.trans sbx) 5 rfl, qc (h3.trans ej) 0 rfl, qc (h3.trans ej) 1 rfl⟩
        have lt5 : B5 < wr.heap.size := (jH.1 ej).1
        have hS : S wr.drew := hSw _ rfl rfl rfl
        have hSA : S wA := hSw _ (qA _ (by omega)) (qA _ (by omega)) (qA _ lt5)
        have hS10 : S w10 := hSw _ (q10 _ (by omega) fun e => by have := vfl _ e; omega) (q10 _ (by omega) vfs) (q10 _ lt5 fun e => b5t _ e rfl)
        have hC : ∀ w', S w' -> w'.cell? ⟨w.heap.size, 0, none⟩ = some (.pointer (some ⟨K.sb, 0, none⟩)) /\ w'.cell? ⟨K.sb, 5, none⟩ = some (.slice fp found.length fc) /\ w'.cell? ⟨B5, 0, none⟩ = some (.slice cp names.length cc) /\ w'.cell? ⟨B5, 1, none⟩ = some (.slice op vals.length oc) := fun w' hw => by rw [hSe] at hw; exact hw
        replace kp := Hd.mk kp; replace lp := Hd.mk lp; replace rvo := Hd.mk rvo; replace rnm := Hd.mk rnm; replace hrx := Hd.mk hrx; replace hA := Hd.mk hA; replace f1 := Hd.mk f1; replace f2 := Hd.mk f2; replace qN := Hd.mk qN; replace qR := Hd.mk qR; replace hq9 := Hd.mk hq9; replace sbx := Hd.mk sbx; replace qA := Hd.mk qA; replace own2 := Hd.mk own2; replace hgr := Hd.mk hgr; replace hat := Hd.mk hat; replace hF := Hd.mk hF; replace hG := Hd.mk hG; replace q10 := Hd.mk q10; replace cR := Hd.mk cR; replace fR := Hd.mk fR; replace bxR := Hd.mk bxR; replace cR2 := Hd.mk cR2; replace fR2 := Hd.mk fR2; replace hT := Hd.mk hT; replace cT := Hd.mk cT; replace hS := Hd.mk hS; replace hSA := Hd.mk hSA; replace hS10 := Hd.mk hS10; replace hSw := Hd.mk hSw; replace p31 := Hd.mk p31; replace p32 := Hd.mk p32; replace p33 := Hd.mk p33; replace p34 := Hd.mk p34; replace ej := Hd.mk ej; replace nj := Hd.mk nj; replace oj := Hd.mk oj; replace rj := Hd.mk rj; replace fj := Hd.mk fj; replace hwA := Hd.mk hwA; replace lr := Hd.mk lr; replace szA := Hd.mk szA; replace kj := Hd.mk kj; replace hsj := Hd.mk hsj; replace lej := Hd.mk lej; replace b5t := Hd.mk b5t; replace vfl := Hd.mk vfl
        gi_wp2_with fail
        refine zH S 10 (by kernel_rfl) ?_
        simp only [jL, ja, jc, Nat.reduceAdd, Array.replicate_succ, Array.replicate_zero, List.push_toArray, jt, List.cons_append]
        refine qO (i := 0) (v := .pointer (some ⟨K.sb, 0, none⟩)) [8, 9, 10] (by kernel_rfl) rfl (by kernel_rfl) (by kernel_rfl) (by kernel_rfl) (fun _ _ _ h => h) (by kernel_rfl) (by kernel_rfl) (by kernel_rfl) (by decide) ⟨Or.inl ⟨by rfl, ?_⟩, fun _ => rfl⟩ hS.h ?_
        · intro w hw; have hc := hC w hw; clear hC; go_split_ands; go_simp
        try simp only [Act.put, List.setIfInBounds_toArray, List.set_cons_zero, List.set_cons_succ]
        refine qO (i := 1) (v := .pointer (some ⟨K.sb, 0, none⟩)) [2, 3, 4, 7, 8, 9, 10] (by kernel_rfl) rfl (by kernel_rfl) (by kernel_rfl) (by kernel_rfl) (fun _ _ _ h => h) (by kernel_rfl) (by kernel_rfl) (by kernel_rfl) (by decide) ⟨Or.inl ⟨by rfl, ?_⟩, fun _ => rfl⟩ hS.h ?_
        · intro w hw; have hc := hC w hw; clear hC; go_split_ands; go_simp
        try simp only [Act.put, List.setIfInBounds_toArray, List.set_cons_zero, List.set_cons_succ]
        refine qe (i := 2) (v := .pointer (some ⟨K.sb, 0, none⟩)) (by kernel_rfl) rfl (by kernel_rfl) (by kernel_rfl) (by kernel_rfl) (fun _ _ _ h => h) (by decide) ⟨Or.inl ⟨by rfl, ?_⟩, fun _ => rfl⟩ (fun _ => hS.h) ?_
        · clear hC; intro w _; go_simp
        try simp only [Act.put, List.setIfInBounds_toArray, List.set_cons_zero, List.set_cons_succ]
        refine qe (i := 3) (v := .pointer (some ⟨K.sb, 5, none⟩)) (by kernel_rfl) rfl (by kernel_rfl) (by kernel_rfl) (by kernel_rfl) (fun _ _ _ h => h) (by decide) ⟨Or.inl ⟨by rfl, ?_⟩, fun _ => rfl⟩ (fun _ => hS.h) ?_
        · clear hC; intro w _; go_simp
        try simp only [Act.put, List.setIfInBounds_toArray, List.set_cons_zero, List.set_cons_succ]
        refine qO (i := 4) (v := .slice fp found.length fc) [7, 8, 9, 10] (by kernel_rfl) rfl (by kernel_rfl) (by kernel_rfl) (by kernel_rfl) (fun _ _ _ h => h) (by kernel_rfl) (by kernel_rfl) (by kernel_rfl) (by decide) ⟨Or.inl ⟨by rfl, ?_⟩, fun _ => rfl⟩ hS.h ?_
        · intro w hw; have hc := hC w hw; clear hC; go_split_ands; go_simp
        try simp only [Act.put, List.setIfInBounds_toArray, List.set_cons_zero, List.set_cons_succ]
        refine qO (i := 5) (v := .agg #[(.slice cp names.length cc), .slice op vals.length oc]) [6, 7, 8, 9, 10] (by kernel_rfl) rfl (by kernel_rfl) (by kernel_rfl) (by kernel_rfl) (fun _ _ _ h => h) (by kernel_rfl) (by kernel_rfl) (by kernel_rfl) (by decide) ⟨Or.inl ⟨by rfl, ?_⟩, fun _ => rfl⟩ hS.h ?_
        · intro w hw; have hc := hC w hw; clear hC; go_split_ands; go_simp
        try simp only [Act.put, List.setIfInBounds_toArray, List.set_cons_zero, List.set_cons_succ]
        refine um (i := 6) (by kernel_rfl) rfl fun Kk hKk => ?_
        refine tQ (v := .slice (some ⟨wr.heap.size, 0, none⟩) 1 1) (.inl rfl) (fun c => by simp) (fun _ => trivial) (w' := wA) (x := .value (.slice (some ⟨wr.heap.size, 0, none⟩) 1 1)) ?hrun (.inl rfl) ?_
        case hrun => clear hKk hC; rw [← hwA.h]; go_simp
        refine hKk _ _ (fun _ => hSA.h) ?_
        try simp only [Act.put, List.setIfInBounds_toArray, List.set_cons_zero, List.set_cons_succ]
        clear hKk
        refine um (i := 7) (by kernel_rfl) rfl fun Kk hKk => ?_
        refine tQ (v := .slice (some ⟨g2, 0, none⟩) (found.length + 1) cap2) (.inl rfl) (fun c => by simp) (fun _ => trivial) (w' := w10) (x := .value (.slice (some ⟨g2, 0, none⟩) (found.length + 1) cap2)) ?hrun (.inl rfl) ?_
        case hrun => exact Qf rfl rfl rfl hrun
        refine hKk _ _ (fun _ => hS10.h) ?_
        try simp only [Act.put, List.setIfInBounds_toArray, List.set_cons_zero, List.set_cons_succ]
        clear hKk
        refine qe (i := 8) (v := .pointer (some ⟨K.sb, 0, none⟩)) (by kernel_rfl) rfl (by kernel_rfl) (by kernel_rfl) (by kernel_rfl) (fun _ _ _ h => h) (by decide) ⟨Or.inl ⟨by rfl, ?_⟩, fun _ => rfl⟩ (fun _ => hS10.h) ?_
        · clear hC; intro w _; go_simp
        try simp only [Act.put, List.setIfInBounds_toArray, List.set_cons_zero, List.set_cons_succ]
        refine qe (i := 9) (v := .pointer (some ⟨K.sb, 5, none⟩)) (by kernel_rfl) rfl (by kernel_rfl) (by kernel_rfl) (by kernel_rfl) (fun _ _ _ h => h) (by decide) ⟨Or.inl ⟨by rfl, ?_⟩, fun _ => rfl⟩ (fun _ => hS10.h) ?_
        · clear hC; intro w _; go_simp
        try simp only [Act.put, List.setIfInBounds_toArray, List.set_cons_zero, List.set_cons_succ]
        have cR' := cR.h
        have fR' := fR.h
        refine um (i := 10) (by kernel_rfl) rfl fun Kk hKk => ?_
        refine tQ (v := undef) (.inl rfl) (fun c => by simp) (fun _ => trivial) (w' := w10.setCell ⟨K.sb, 5, none⟩ (.slice (some ⟨g2, 0, none⟩) (found.length + 1) cap2)) (x := .skip) ?hrun (.inr ⟨rfl, rfl⟩) ?_
        case hrun => clear hKk hC; go_simp
        refine hKk _ _ (fun e => absurd e (by decide)) ?_
        try simp only [Act.put, List.setIfInBounds_toArray, List.set_cons_zero, List.set_cons_succ]
        refine vB (by kernel_rfl) ?_ _
        clear hKk hC hSw hSe hS hSA hS10 S cR' fR'
        have cR2' := cR2.h
        have fR2' := fR2.h
        gi_wp2
        have cT' := cT.h
        exact bodyPost_ret (v := .bool true) (by simp [results, Tryz.results48, go_sem, cT']) rfl ⟨rfl, H9, _, _, _, D, hT.h, hu.h⟩
theorem MG {n : Nat} : ∀ ts : List qK, RO g ts (rQ n g ts) (Dy n g ts)
  | [] => Nd
  | _ :: ts => all_cons (MG ts)
end
end W
end
section
open Go Go.Proofs Ax Go.RowKit
namespace W
attribute [local go_sem] Oper.semAt_some
def bS.env (e : bS) : Env := ⟨e.names, e.vals⟩
def xo (n : Nat) (l : List zj) (v : Env) (g : Graph) (p : Val) : Option (List Env × Int) :=
  match v with
  | ⟨[], []⟩ => match xz n l ⟨[], []⟩ g p with
    | some (ts, e) => if e = 0 then (if (decide (g.nodes.length < 1000000000) && Dy n g ts [] [] []) = true then (if (rQ n g ts [] [] [] []).1 = true then some ((rQ n g ts [] [] [] []).2.map bS.env, 0) else some ([], 8)) else none) else some ([], e)
    | none => none
  | _ => none
abbrev fK (r : List Env × Int) : PV := PV.tup [PV.sl (Env.rows r.1), PV.int .i64 r.2]
set_option maxHeartbeats 2000000 in
set_option maxRecDepth 100000 in
theorem Ek (v : Value) (hv : v = .slice none 0 0 \/ ∃ a c, v = .slice (some a) 0 c) (w : World) : Calls Tryz.prog 47 #[v] w fun e w' => ∃ v', e = .returned v' /\ w'.ownsRow w.heap.size 32 6 v' 0 [] /\ Below w.heap.size w w' := by
  obtain ⟨i0, hi, hz0, hz1, hz2⟩ := HK
  have q24 : ∀ (w : World) (a : Option Addr) (n c n' c' : Nat), (binOp .eql 24 (.slice a n c) (.slice none n' c')).run Tryz.prog w = .ok (.bool a.isNone) w := fun w a n c n' c' => Lib.run_eql_slice_nil w _ _ a n c n' c' Tryz.underlying24
  rcases hv with rfl | ⟨a, c, rfl⟩
  · go_enter Tryz.func47, Tryz.ntmps47
    go_wp2
    first | go_ret2 | go_ret
    exact ⟨_, rfl, ⟨rfl, .inl ⟨rfl, rfl⟩⟩, Below.refl _ _⟩
  · go_enter Tryz.func47, Tryz.ntmps47
    go_wp2_with (at_builtin; refine wpList_append_own _ rfl _ _ 24 rfl w.heap.size 32 i0 _ 6 88 Tryz.underlying24 hi hz0 hz1 hz2 rfl (by decide) _ _ _ rfl (World.ownsRow_made w #[] 0 (jv _) (jR _) rfl) a 0 c [] rfl rfl (by intro j u hj; simp at hj) (by intro u hu; cases hu) (by unfold maxLen; omega) (by omega) (by simp) ?_)
    intro v' w1 hown hgrow hnil
    go_wp2
    first | go_ret2 | go_ret
    exact ⟨v', rfl, by simpa using hown, ((Below.refl _ w).alloc (jv _) _).grown hgrow (by simp) (by intro k hk; simp [Value.ownBlock] at hk; omega)⟩
theorem Bz (v : Value) (hv : v = .slice none 0 0 \/ ∃ a c, v = .slice (some a) 0 c) (w : World) : Calls Tryz.prog 46 #[v] w fun e w' => ∃ v', e = .returned v' /\ w'.ownsRow w.heap.size 9 1 v' 0 [] /\ Below w.heap.size w w' := by
  rcases hv with rfl | ⟨a, c, rfl⟩
  · refine (Tryz.slices_Clone_string_nil 0 0 w).mono ?_
    rintro e w' ⟨rfl, rfl⟩
    exact ⟨_, rfl, ⟨rfl, .inl ⟨rfl, rfl⟩⟩, Below.refl _ _⟩
  · refine (Tryz.slices_Clone_string_zero a c w).mono ?_
    rintro e w' ⟨v', rfl, h1, _, h2⟩
    exact ⟨v', rfl, h1, h2⟩
theorem Zb {w : World} {base base' e z n : Nat} {v : Value} {xs : List Value} (h : w.ownsRow base e z v n xs) (hb : ∀ b, v.ownBlock = some b -> base' <= b) : w.ownsRow base' e z v n xs :=
  ⟨h.1, h.2.imp id fun ⟨g, cap, cur, e1, e2, r⟩ => ⟨g, cap, cur, e1, hb g (by rw [e1]; rfl), r⟩⟩
theorem DF {L : Nat} {H : PH L} : ∀ {vs : List bS} {us : List Value}, xG H 2 (vs.map fQ) us -> ∀ u ∈ us, u.oneCell' = true
  | [], us, h, u, hu => by
    simp only [jN, xG] at h
    subst h
    cases hu
  | v :: vs, us, h, u, hu => by
    simp only [jk, xG, fQ, qJ] at h
    obtain ⟨_, a, b, rfl, ⟨_, _, rfl, ha, _, _, rfl, hc, rfl⟩, hb⟩ := h
    obtain ⟨p2, e2, rfl⟩ := zL ha
    obtain ⟨p3, e3, rfl⟩ := zL hc
    rcases jx.1 hu with h1 | h1
    · simp only [jg, List.not_mem_nil, or_false] at h1
      rcases h1 with rfl | rfl <;> rfl
    · exact DF hb u h1
theorem EH : uo (.map []) [] := ⟨fun _ => rfl, jv _⟩
theorem UF {L : Nat} {H : PH L} {v : Value} (h : qp H (.sl []) v) : v = .slice none 0 0 \/ ∃ a c, v = .slice (some a) 0 c := by
  simp only [qp] at h
  rcases h with ⟨_, h⟩ | ⟨b, o, z, cap, h, _⟩
  · exact h
  · exact .inr ⟨_, _, h⟩
set_option maxHeartbeats 8000000 in
set_option maxRecDepth 100000 in
theorem ZC (n : Nat) : ∀ (l : List zj) (v : Env) (g : Graph) (p : Val) (r : List Env × Int), xo n l v g p = some r -> qi Tryz.prog 26 [PV.sl (zj.rows l), PV.agg (MJ.cells v), PV.agg (df.cells g), PV.agg (xV.cells p)] (fK r) := by
  intro l v g p r hM L H w vs hs rl
  rw [Tryz.call26]
  refine ⟨rfl, ?_⟩
  unfold xo at hM
  split at hM
  case h_2 => cases hM
  split at hM
  case h_2 => cases hM
  rename_i ts e hT
  simp only [qJ] at rl
  obtain ⟨lv, _, rfl, hl, _, _, rfl, hv, _, _, rfl, hg, _, _, rfl, hp, rfl⟩ := rl
  simp only [qp] at hv hg hp
  obtain ⟨ve, rfl, hv⟩ := hv
  obtain ⟨ge, rfl, hg⟩ := hg
  obtain ⟨pe, rfl, hp⟩ := hp
  obtain ⟨lp, lc, rfl⟩ := zL hl
  obtain ⟨k6, i6, b6, s6, p6, q6, n6, c6, m6, e6, rfl⟩ := Qk hp
  have hv0 := hv
  have hg0 := hg
  simp only [MJ, Env.cells, qJ] at hv0
  obtain ⟨nv, _, rfl, hnv, vv, _, rfl, hvv, rfl⟩ := hv0
  simp only [df, Graph.cells, qJ] at hg0
  obtain ⟨gv, _, rfl, hgv, ev, _, rfl, hev, rfl⟩ := hg0
  obtain ⟨gp, gc, rfl⟩ := zL hgv
  obtain ⟨ep, ec, rfl⟩ := zL hev
  have hnv' := UF hnv
  have hvv' := UF hvv
  obtain ⟨np, nc, hnp⟩ : ∃ np nc, nv = .slice np 0 nc := by rcases hnv' with h | ⟨a, c, h⟩ <;> exact ⟨_, _, h⟩
  obtain ⟨vp, vc, hvp⟩ : ∃ np nc, vv = .slice np 0 nc := by rcases hvv' with h | ⟨a, c, h⟩ <;> exact ⟨_, _, h⟩
  subst hnp hvp
  have hs3 := ((dT hs (((Below.refl _ w).alloc (jv _) (.cells #[.slice np 0 nc, .slice vp 0 vc] 26)).alloc (by simp) (.cells #[.slice gp (Node.rows g.nodes).length gc, .slice ep (Edge.rows g.edges).length ec] 30))).trans (dT (dT hs (((Below.refl _ w).alloc (jv _) _).alloc (by simp) _)).sat ((Below.refl _ _).alloc (jv _) (.cells (dE k6 i6 b6 s6 p6 q6 n6 c6 m6 e6) 32))))
  have m45 := (QG n _ _ _ _ _ hT).calls (fun _ _ => Tryz.call45 _ _) hs3.sat (vs := [.slice lp (zj.rows l).length lc, .agg #[.slice np 0 nc, .slice vp 0 vc], .agg #[.slice gp (Node.rows g.nodes).length gc, .slice ep (Edge.rows g.edges).length ec], .agg (dE k6 i6 b6 s6 p6 q6 n6 c6 m6 e6)]) (by
    simp only [qJ]
    exact ⟨_, _, rfl, hl, _, _, rfl, fN hv, _, _, rfl, fN hg, _, _, rfl, fN hp, rfl⟩)
  replace hs := Hd.mk hs; replace hl := Hd.mk hl; replace hv := Hd.mk hv; replace hg := Hd.mk hg; replace hp := Hd.mk hp; replace hnv := Hd.mk hnv; replace hvv := Hd.mk hvv; replace hgv := Hd.mk hgv; replace hev := Hd.mk hev; replace hs3 := Hd.mk hs3; replace hT := Hd.mk hT; replace hnv' := Hd.mk hnv'; replace hvv' := Hd.mk hvv'
  refine (callsIn_wide (n := 3)).1 ?_
  refine callsIn_of_wp Tryz.func26 rfl trivial ?_ rfl
  simp only [Tryz.ntmps26, jL, ja, jc, Nat.reduceAdd, Nat.reduceSub, Array.replicate_succ, Array.replicate_zero, List.push_toArray, List.append_toArray, jt, List.cons_append]
  by_cases he : e = 0
  · subst he
    rw [if_pos rfl] at hM
    gi_wp2_with fail
    · refine ⟨trivial, ?_⟩; gi_at_call 45; refine (callsIn_wide.2 m45).mono ?_; rintro e' w1 ⟨vr, H1, rfl, c1, r1⟩
      simp only [dB, qp, qJ] at r1
      obtain ⟨_, rfl, tv, _, rfl, r1, _, _, rfl, rfl, rfl⟩ := r1
      have cx : ∀ (b : Nat) (cs : Array Value) (t : TypeId), (((w.alloc (.cells #[.slice np 0 nc, .slice vp 0 vc] 26)).alloc (.cells #[.slice gp (Node.rows g.nodes).length gc, .slice ep (Edge.rows g.edges).length ec] 30)).alloc (.cells (dE k6 i6 b6 s6 p6 q6 n6 c6 m6 e6) 32)).heap[b]? = some (Obj.cells cs t) -> w1.heap[b]? = some (Obj.cells cs t) := fun b cs t hb => (c1.keep.block b (jH.1 hb).1 id).trans hb
      have q5 := cx w.heap.size _ _ ((heap_alloc_old _ _ (by simp <;> omega)).trans ((heap_alloc_old _ _ (by simp <;> omega)).trans (World.alloc_heap_new w _)))
      have q6' := cx (w.heap.size + 1) _ _ ((heap_alloc_old _ _ (by simp <;> omega)).trans (xl _ _ _ (by simp)))
      have d0 : w1.cell? ⟨w.heap.size + 1, 0, none⟩ = some (.slice gp (Node.rows g.nodes).length gc) := qc q6' 0 rfl
      have d1 : w1.cell? ⟨w.heap.size + 1, 1, none⟩ = some (.slice ep (Edge.rows g.edges).length ec) := qc q6' 1 rfl
      have hmk : ∀ w : World, (Instr.makeMap 115 none).run Tryz.prog w = .ok (.map (some w.heap.size)) (w.alloc (.map #[] 0)) := fun w => run_makeMap 115 w
      replace cx := Hd.mk cx; replace q5 := Hd.mk q5; replace q6' := Hd.mk q6'
      gi_wp2_with fail
      have hcw : Calm H w H1 w1 := hs3.h.trans c1
      have e2 : ((w1.alloc (.map #[] 0)).alloc (.cells #[(.slice gp (Node.rows g.nodes).length gc), (.slice ep (Edge.rows g.edges).length ec), .slice none 0 0, .slice none 0 0, .map (some w1.heap.size), .slice none 0 0] 117)).heap[w1.heap.size + 1]? = some (.cells #[(.slice gp (Node.rows g.nodes).length gc), (.slice ep (Edge.rows g.edges).length ec), .slice none 0 0, .slice none 0 0, .map (some w1.heap.size), .slice none 0 0] 117) := xl _ _ _ (by simp)
      have em : ((w1.alloc (.map #[] 0)).alloc (.cells #[(.slice gp (Node.rows g.nodes).length gc), (.slice ep (Edge.rows g.edges).length ec), .slice none 0 0, .slice none 0 0, .map (some w1.heap.size), .slice none 0 0] 117)).heap[w1.heap.size]? = some (.map #[] 0) := (heap_alloc_old _ _ (by simp)).trans (World.alloc_heap_new w1 _)
      have bl2 : Below w1.heap.size w1 ((w1.alloc (.map #[] 0)).alloc (.cells #[(.slice gp (Node.rows g.nodes).length gc), (.slice ep (Edge.rows g.edges).length ec), .slice none 0 0, .slice none 0 0, .map (some w1.heap.size), .slice none 0 0] 117)) := ((Below.refl _ w1).alloc (jv _) _).alloc (by simp) _
      have q5' : ((w1.alloc (.map #[] 0)).alloc (.cells #[(.slice gp (Node.rows g.nodes).length gc), (.slice ep (Edge.rows g.edges).length ec), .slice none 0 0, .slice none 0 0, .map (some w1.heap.size), .slice none 0 0] 117)).heap[w.heap.size]? = some (.cells #[.slice np 0 nc, .slice vp 0 vc] 26) := (bl2.block _ (jH.1 q5.h).1).trans q5.h
      have sz2 : ((w1.alloc (.map #[] 0)).alloc (.cells #[(.slice gp (Node.rows g.nodes).length gc), (.slice ep (Edge.rows g.edges).length ec), .slice none 0 0, .slice none 0 0, .map (some w1.heap.size), .slice none 0 0] 117)).heap.size = w1.heap.size + 2 := by simp
      generalize hw2 : (w1.alloc (.map #[] 0)).alloc (.cells #[(.slice gp (Node.rows g.nodes).length gc), (.slice ep (Edge.rows g.edges).length ec), .slice none 0 0, .slice none 0 0, .map (some w1.heap.size), .slice none 0 0] 117) = w2 at e2 em bl2 q5' sz2 ⊢
      clear hw2 hmk d0 d1
      have m46 := Bz _ hnv'.h w2.drew
      obtain ⟨S, hSe⟩ : ∃ S : World -> Prop, S = fun w' => Below w2.heap.size w2 w' := ⟨_, rfl⟩
      have hS : S w2.drew := by rw [hSe]; exact ⟨rfl, rfl, rfl, jv _, fun _ _ => rfl⟩
      have hC : ∀ w', S w' -> w'.cell? ⟨w.heap.size, 0, none⟩ = some (.slice np 0 nc) /\ w'.cell? ⟨w.heap.size, 1, none⟩ = some (.slice vp 0 vc) := fun w' hw => by
        rw [hSe] at hw
        have cc : ∀ {b i : Nat} {v : Value}, w2.cell? ⟨b, i, none⟩ = some v -> w'.cell? ⟨b, i, none⟩ = some v := fun {b i v} hv => (World.cell?_of_block (w := w2) (a := ⟨b, i, none⟩) (hw.block b (gQ hv))).trans hv
        exact ⟨cc (qc q5' 0 rfl), cc (qc q5' 1 rfl)⟩
      replace e2 := Hd.mk e2; replace em := Hd.mk em; replace q5' := Hd.mk q5'; replace hcw := Hd.mk hcw; replace c1 := Hd.mk c1; replace bl2 := Hd.mk bl2; replace r1 := Hd.mk r1
      refine zH S 6 (by kernel_rfl) ?_
      simp only [jL, ja, jc, Nat.reduceAdd, Array.replicate_succ, Array.replicate_zero, List.push_toArray, jt, List.cons_append]
      refine qe (i := 0) (v := .pointer (some ⟨w1.heap.size + 1, 0, none⟩)) (by kernel_rfl) rfl (by kernel_rfl) (by kernel_rfl) (by kernel_rfl) (fun _ _ _ h => h) (by decide) ⟨Or.inl ⟨by rfl, ?_⟩, fun _ => rfl⟩ (fun _ => hS) ?_
      · clear hC m46; intro w _; go_simp
      try simp only [Act.put, List.setIfInBounds_toArray, List.set_cons_zero, List.set_cons_succ]
      refine qe (i := 1) (v := .pointer (some ⟨w.heap.size, 0, none⟩)) (by kernel_rfl) rfl (by kernel_rfl) (by kernel_rfl) (by kernel_rfl) (fun _ _ _ h => h) (by decide) ⟨Or.inl ⟨by rfl, ?_⟩, fun _ => rfl⟩ (fun _ => hS) ?_
      · clear hC m46; intro w _; go_simp
      try simp only [Act.put, List.setIfInBounds_toArray, List.set_cons_zero, List.set_cons_succ]
      refine qO (i := 2) (v := .slice np 0 nc) [3, 6] (by kernel_rfl) rfl (by kernel_rfl) (by kernel_rfl) (by kernel_rfl) (fun _ _ _ h => h) (by kernel_rfl) (by kernel_rfl) (by kernel_rfl) (by decide) ⟨Or.inl ⟨by rfl, ?_⟩, fun _ => rfl⟩ hS ?_
      · intro w hw; have hc := hC w hw; clear hC m46; go_split_ands; go_simp
      try simp only [Act.put, List.setIfInBounds_toArray, List.set_cons_zero, List.set_cons_succ]
      refine qe (i := 4) (v := .pointer (some ⟨w.heap.size, 1, none⟩)) (by kernel_rfl) rfl (by kernel_rfl) (by kernel_rfl) (by kernel_rfl) (fun _ _ _ h => h) (by decide) ⟨Or.inl ⟨by rfl, ?_⟩, fun _ => rfl⟩ (fun _ => hS) ?_
      · clear hC m46; intro w _; go_simp
      try simp only [Act.put, List.setIfInBounds_toArray, List.set_cons_zero, List.set_cons_succ]
      refine qO (i := 5) (v := .slice vp 0 vc) [6] (by kernel_rfl) rfl (by kernel_rfl) (by kernel_rfl) (by kernel_rfl) (fun _ _ _ h => h) (by kernel_rfl) (by kernel_rfl) (by kernel_rfl) (by decide) ⟨Or.inl ⟨by rfl, ?_⟩, fun _ => rfl⟩ hS ?_
      · intro w hw; have hc := hC w hw; clear hC m46; go_split_ands; go_simp
      try simp only [Act.put, List.setIfInBounds_toArray, List.set_cons_zero, List.set_cons_succ]
      refine um (i := 3) (by kernel_rfl) rfl fun Kk hKk => ?_
      refine dA (f := 46) (lb := #[]) rfl rfl (.inl rfl) ?hv ?ha (fun _ _ => Tryz.call46 _ _) trivial (callsIn_wide.2 m46) ?_
      case hv => rfl
      case ha => clear hC m46; go_simp
      rintro e' w3 ⟨v46, rfl, own46, c46⟩
      obtain ⟨fp, fc, hfv⟩ := vJ own46
      subst hfv
      replace c46 : Below w2.heap.size w2 w3 := (show Below w2.heap.size w2 w2.drew from ⟨rfl, rfl, rfl, jv _, fun _ _ => rfl⟩).trans c46
      have hS3 : S w3 := by rw [hSe]; exact c46
      have m47 := Ek _ hvv'.h w3
      refine ⟨_, rfl, hKk _ _ (fun _ => hS3) ?_⟩
      try simp only [Act.put, List.setIfInBounds_toArray, List.set_cons_zero, List.set_cons_succ]
      clear hKk m46
      refine um (i := 6) (by kernel_rfl) rfl fun Kk hKk => ?_
      refine dA (f := 47) (lb := #[]) rfl rfl (.inl rfl) ?hv ?ha (fun _ _ => Tryz.call47 _ _) trivial (callsIn_wide.2 m47) ?_
      case hv => rfl
      case ha => clear hC m47; go_simp
      rintro e' w4 ⟨v47, rfl, own47, c47⟩
      obtain ⟨hp', hc', hhv⟩ := vJ own47
      subst hhv
      refine ⟨_, rfl, hKk _ _ (fun e => absurd e (by decide)) ?_⟩
      try simp only [Act.put, List.setIfInBounds_toArray, List.set_cons_zero, List.set_cons_succ]
      clear hKk m47
      refine qe (i := 7) (v := .agg #[.slice fp 0 fc, .slice hp' 0 hc']) (by kernel_rfl) rfl (by kernel_rfl) (by kernel_rfl) (by kernel_rfl) (fun _ _ _ h => h) (by decide) ⟨Or.inl ⟨by rfl, ?_⟩, fun _ => rfl⟩ (fun e => absurd e (by decide)) ?_
      · clear hC; intro w _; go_simp
      try simp only [Act.put, List.setIfInBounds_toArray, List.set_cons_zero, List.set_cons_succ]
      refine qe (i := 8) (v := .pointer (some ⟨w1.heap.size + 1, 0, none⟩)) (by kernel_rfl) rfl (by kernel_rfl) (by kernel_rfl) (by kernel_rfl) (fun _ _ _ h => h) (by decide) ⟨Or.inl ⟨by rfl, ?_⟩, fun _ => rfl⟩ (fun e => absurd e (by decide)) ?_
      · clear hC; intro w _; go_simp
      try simp only [Act.put, List.setIfInBounds_toArray, List.set_cons_zero, List.set_cons_succ]
      refine qe (i := 9) (v := .pointer (some ⟨w1.heap.size + 1, 2, none⟩)) (by kernel_rfl) rfl (by kernel_rfl) (by kernel_rfl) (by kernel_rfl) (fun _ _ _ h => h) (by decide) ⟨Or.inl ⟨by rfl, ?_⟩, fun _ => rfl⟩ (fun e => absurd e (by decide)) ?_
      · clear hC; intro w _; go_simp
      try simp only [Act.put, List.setIfInBounds_toArray, List.set_cons_zero, List.set_cons_succ]
      have g2 : w4.cell? ⟨w1.heap.size + 1, 2, none⟩ = some (.slice none 0 0) := qc ((c47.block _ (by have := c46.size; have : w2.drew.heap.size = w2.heap.size := rfl; omega)).trans ((c46.block _ (by omega)).trans e2.h)) 2 rfl
      have g3 : w4.cell? ⟨w1.heap.size + 1, 3, none⟩ = some (.slice none 0 0) := qc ((c47.block _ (by have := c46.size; have : w2.drew.heap.size = w2.heap.size := rfl; omega)).trans ((c46.block _ (by omega)).trans e2.h)) 3 rfl
      have gf : ∀ i, w4.frozen? ⟨w1.heap.size + 1, i, none⟩ = false := fun i => by simp [World.frozen?, (c47.block _ (by have := c46.size; have : w2.drew.heap.size = w2.heap.size := rfl; omega)).trans ((c46.block _ (by omega)).trans e2.h)]
      refine um (i := 10) (by kernel_rfl) rfl fun Kk hKk => ?_
      refine tQ (v := undef) (.inl rfl) (fun c => by simp) (fun _ => trivial) (w' := (w4.setCell ⟨w1.heap.size + 1, 2, none⟩ (.slice fp 0 fc)).setCell ⟨w1.heap.size + 1, 3, none⟩ (.slice hp' 0 hc')) (x := .skip) ?hrun (.inr ⟨rfl, rfl⟩) ?_
      case hrun => clear hKk hC; go_simp
      refine hKk _ _ (fun e => absurd e (by decide)) ?_
      try simp only [Act.put, List.setIfInBounds_toArray, List.set_cons_zero, List.set_cons_succ]
      refine vB (by kernel_rfl) ?_ _
      clear hKk hC hS hSe hS3 S g2 g3 gf
      have hMn : ∀ b, (Value.slice fp 0 fc).ownBlock = some b -> w2.heap.size <= b /\ b < w4.heap.size := fun b hb => ⟨(fU own46 hb).1, by
        obtain ⟨_, cur, hc⟩ := fU own46 hb
        have := (jH.1 hc).1
        have := c47.size
        omega⟩
      have hMv : ∀ b, (Value.slice hp' 0 hc').ownBlock = some b -> w3.heap.size <= b /\ b < w4.heap.size := fun b hb => ⟨(fU own47 hb).1, by
        obtain ⟨_, cur, hc⟩ := fU own47 hb
        exact (jH.1 hc).1⟩
      have s23 : w2.heap.size <= w3.heap.size := c46.size
      have s34 : w3.heap.size <= w4.heap.size := c47.size
      have b24 : Below w1.heap.size w1 w4 := bl2.h.trans (Below.trans (B := w1.heap.size) (c46.mono (by omega)) (c47.mono (by omega)))
      have f2 : w4.heap[w1.heap.size + 1]? = some (.cells #[(.slice gp (Node.rows g.nodes).length gc), (.slice ep (Edge.rows g.edges).length ec), .slice none 0 0, .slice none 0 0, .map (some w1.heap.size), .slice none 0 0] 117) := (c47.block _ (by omega)).trans (c46.block _ (by omega) |>.trans e2.h)
      have fm : w4.heap[w1.heap.size]? = some (.map #[] 0) := (c47.block _ (by omega)).trans (c46.block _ (by omega) |>.trans em.h)
      have f3 := heap_setCell_same w4 (w1.heap.size + 1) 2 _ _ (.slice fp 0 fc) f2
      have f4 := heap_setCell_same _ (w1.heap.size + 1) 3 _ _ (.slice hp' 0 hc') f3
      have gr : w4.grownBy ((w4.setCell ⟨w1.heap.size + 1, 2, none⟩ (.slice fp 0 fc)).setCell ⟨w1.heap.size + 1, 3, none⟩ (.slice hp' 0 hc')) (some (w1.heap.size + 1)) := ⟨rfl, rfl, rfl, by simp, fun c hc hn => ((xT _ _ _ _).block c (by simp; exact hc) hn).trans ((xT w4 (w1.heap.size + 1) 2 _).block c hc hn)⟩
      have hcal := bM (row := some (w1.heap.size + 1)) (hcw.h.trans (dT hcw.h.sat b24)) gr (fun b e => by
        simp only [Option.some.injEq] at e
        subst e
        refine ⟨by have := hcw.h.keep.size; omega, fun o u hu => ?_⟩
        have := c1.h.sat.lt hu
        omega)
      have bm : ∀ b, b ≠ w1.heap.size + 1 -> b < w4.heap.size -> ((w4.setCell ⟨w1.heap.size + 1, 2, none⟩ (.slice fp 0 fc)).setCell ⟨w1.heap.size + 1, 3, none⟩ (.slice hp' 0 hc')).heap[b]? = w4.heap[b]? := fun b hb hl => gr.block b hl fun e => hb (Option.some.inj e)
      generalize hw5 : (w4.setCell ⟨w1.heap.size + 1, 2, none⟩ (.slice fp 0 fc)).setCell ⟨w1.heap.size + 1, 3, none⟩ (.slice hp' 0 hc') = w5 at f4 gr hcal bm ⊢
      have s45 := gr.size
      have lw1 : L <= w1.heap.size := c1.h.sat.low
      obtain ⟨K, hK⟩ : ∃ K : SK, K = ⟨(.slice gp (Node.rows g.nodes).length gc), (.slice ep (Edge.rows g.edges).length ec), w1.heap.size + 1, w1.heap.size⟩ := ⟨_, rfl⟩
      open Classical in
      have hSg : Sg K H1 (K.M (.slice fp 0 fc) (.slice hp' 0 hc') (.slice none 0 0)) w5 H1 w5 (.slice fp 0 fc) (.slice hp' 0 hc') (.slice none 0 0) (.slice fp 0 fc) (.slice hp' 0 hc') (.slice none 0 0) [] [] [] ([] : List Int).length (.map []) := by
        subst hK
        refine ⟨fun b => if b = w1.heap.size + 1 then some .box else if b = w1.heap.size then some .map else if (Value.slice fp 0 fc).ownBlock = some b then some .nm else if (Value.slice hp' 0 hc').ownBlock = some b then some .vl else none, ⟨hcal.sat, f4, if_pos rfl, ?_, fun b hb => ?_, ⟨[], ?_, rfl⟩, fun b hb => ?_, ⟨[], ⟨rfl, .inl ⟨rfl, rfl⟩⟩, rfl⟩, fun b hb => (by cases hb), ?_, ?_, fun b t hb => ?_⟩, fun b t hb => ?_, Gw.refl _ _ _⟩
        · exact Zb (xe (xe own46 fun b hb => c47.block b (by
            obtain ⟨_, cur, hc⟩ := fU own46 hb
            exact (jH.1 hc).1)) fun b hb => bm b (by have := (hMn b hb).1; omega) (hMn b hb).2) fun b hb => by have := (hMn b hb).1; omega
        · try dsimp only
          rw [if_neg (by have := (hMn b hb).1; omega), if_neg (by have := (hMn b hb).1; omega), if_pos hb]
        · exact Zb (xe own47 fun b hb => bm b (by have := (hMv b hb).1; omega) (hMv b hb).2) fun b hb => by have := (hMv b hb).1; omega
        · try dsimp only
          rw [if_neg (by have := (hMv b hb).1; omega), if_neg (by have := (hMv b hb).1; omega), if_neg fun h1 => by
            obtain ⟨_, cur, hc⟩ := fU own46 h1
            have := (jH.1 hc).1
            have := (hMv b hb).1
            omega, if_pos hb]
        · exact dQ (World.ownsMap_made w1 _ _ _) (((bm w1.heap.size (by omega) (by omega)).trans fm).trans (World.alloc_heap_new w1 _).symm)
        · try dsimp only
          rw [if_neg (by omega), if_pos rfl]
        · try dsimp only at hb
          have hlo : w1.heap.size <= b /\ b < w5.heap.size := by
            split at hb
            · omega
            · split at hb
              · omega
              · split at hb
                · rename_i h1; have := hMn b h1; omega
                · split at hb
                  · rename_i h1; have := hMv b h1; omega
                  · cases hb
          exact ⟨by omega, hlo.2, fun o u hu => by have := c1.h.sat.lt hu; omega⟩
        · try dsimp only at hb
          split at hb
          · rename_i h1; exact .inl h1
          · split at hb
            · rename_i h1; exact .inr (.inl h1)
            · split at hb
              · rename_i h1; exact .inr (.inr (.inl h1))
              · split at hb
                · rename_i h1; exact .inr (.inr (.inr (.inl h1)))
                · cases hb
      have hGr : LO K H1 g := by
        rw [hK]
        split at hM
        · rename_i h1
          simp only [ji, kde] at h1
          exact ⟨hgv.h.mono hcw.h.le, hev.h.mono hcw.h.le, h1.1⟩
        · cases hM
      split at hM
      case isFalse => cases hM
      rename_i hok
      simp only [ji, kde] at hok
      have m48 := MG (n := n) ts hSg EH rfl hGr hok.2 _ r1.h
      rw [show K.sb = w1.heap.size + 1 by rw [hK]] at m48
      have hMlo : ∀ b, K.M (.slice fp 0 fc) (.slice hp' 0 hc') (.slice none 0 0) b -> w1.heap.size <= b := fun b hb => by
        rw [hK] at hb
        rcases hb with h1 | h1 | h1 | h1 | h1
        · have : b = w1.heap.size + 1 := h1
          omega
        · have : b = w1.heap.size := h1
          omega
        · have := hMn b h1; omega
        · have := hMv b h1; omega
        · cases h1
      have lww : w.heap.size <= w1.heap.size := hcw.h.keep.size
      replace hSg := Hd.mk hSg; replace hGr := Hd.mk hGr; replace hMlo := Hd.mk hMlo; replace hcal := Hd.mk hcal; replace gr := Hd.mk gr; replace bm := Hd.mk bm; replace f2 := Hd.mk f2; replace f3 := Hd.mk f3; replace f4 := Hd.mk f4; replace fm := Hd.mk fm; replace own46 := Hd.mk own46; replace own47 := Hd.mk own47; replace c46 := Hd.mk c46; replace c47 := Hd.mk c47; replace b24 := Hd.mk b24; replace hw5 := Hd.mk hw5; replace hMn := Hd.mk hMn; replace hMv := Hd.mk hMv; replace hok := Hd.mk hok
      cases hb1 : (rQ n g ts [] [] [] []).1 with
      | true =>
        rw [hb1, if_pos rfl] at hM
        cases hM
        rw [hb1] at m48
        gi_wp2_with fail
        refine ⟨trivial, ?_⟩
        gi_at_call 48
        refine (callsIn_wide.2 m48).mono ?_
        rintro e' w6 ⟨rfl, H6, un, uv, uf, D6, hs6, hu6⟩
        have gw := hs6.gw
        have hc6 : Calm H w H6 w6 := ⟨hcal.h.le.trans gw.le, hs6.sat, ⟨gw.os.trans hcal.h.keep.os, gw.tape.trans hcal.h.keep.tape, gw.output.trans hcal.h.keep.output, Nat.le_trans hcal.h.keep.size gw.size, fun b hb hn => (gw.un b (Nat.lt_of_lt_of_le hb hcal.h.keep.size) fun hm => by have := hMlo.h b hm; omega).trans (hcal.h.keep.block b hb hn)⟩, fun b o v hv => by
          rcases gw.new b o v hv with ⟨v', h1⟩ | h1
          · exact hcal.h.new b o v' h1
          · exact .inr (Nat.le_trans hcal.h.keep.size h1)⟩
        obtain ⟨ys, y1, y2⟩ := hs6.ownF
        obtain ⟨up, uc, huf⟩ := vJ y1
        have s5 := qc hs6.box 5 rfl
        rw [show K.sb = w1.heap.size + 1 by rw [hK], huf] at s5
        obtain ⟨kp, lp⟩ := GQ hc6 (Zb y1 fun b hb => by
          rcases gw.sub b (.inr (.inr (.inr (.inr hb)))) with h1 | h1
          · have := hMlo.h b h1; omega
          · omega) (fun b hb => (hs6.fresh (.inr (.inr (.inr (.inr hb))))).2.2) (DF y2)
        have rf : qp (zl H6 uf ys) (.sl ((rQ n g ts [] [] [] []).2.map fQ)) uf := xD y2 lp (by rw [jl]; exact Vs y1 (jR _))
        rw [huf] at kp rf
        replace hs6 := Hd.mk hs6; replace gw := Hd.mk gw; replace hc6 := Hd.mk hc6; replace y1 := Hd.mk y1; replace y2 := Hd.mk y2; replace kp := Hd.mk kp; replace lp := Hd.mk lp; replace rf := Hd.mk rf
        gi_wp2
        first | go_ret2 | go_ret
        refine ⟨_, _, rfl, kp.h, ?_⟩
        simp only [fK, qp, qJ, Env.rows, jU]
        exact ⟨_, rfl, _, _, rfl, rf.h, _, _, rfl, rfl, rfl⟩
      | false =>
        rw [hb1, if_neg (by simp)] at hM
        cases hM
        rw [hb1] at m48
        gi_wp2_with fail
        refine ⟨trivial, ?_⟩
        gi_at_call 48
        refine (callsIn_wide.2 m48).mono ?_
        rintro e' w6 ⟨rfl, H6, un, uv, uf, D6, hs6, hu6⟩
        have gw := hs6.gw
        have hc6 : Calm H w H6 w6 := ⟨hcal.h.le.trans gw.le, hs6.sat, ⟨gw.os.trans hcal.h.keep.os, gw.tape.trans hcal.h.keep.tape, gw.output.trans hcal.h.keep.output, Nat.le_trans hcal.h.keep.size gw.size, fun b hb hn => (gw.un b (Nat.lt_of_lt_of_le hb hcal.h.keep.size) fun hm => by have := hMlo.h b hm; omega).trans (hcal.h.keep.block b hb hn)⟩, fun b o v hv => by
          rcases gw.new b o v hv with ⟨v', h1⟩ | h1
          · exact hcal.h.new b o v' h1
          · exact .inr (Nat.le_trans hcal.h.keep.size h1)⟩
        replace hs6 := Hd.mk hs6; replace gw := Hd.mk gw; replace hc6 := Hd.mk hc6
        gi_wp2
        first | go_ret2 | go_ret
        refine ⟨_, _, rfl, hc6.h, ?_⟩
        simp only [fK, qp, qJ]
        exact ⟨_, rfl, _, _, rfl, .inl ⟨rfl, .inl rfl⟩, _, _, rfl, rfl, rfl⟩
  · rw [if_neg he] at hM
    cases hM
    gi_wp2_with fail
    refine ⟨trivial, ?_⟩; gi_at_call 45; refine (callsIn_wide.2 m45).mono ?_; rintro e' w1 ⟨vr, H1, rfl, c1, r1⟩
    simp only [dB, qp, qJ] at r1
    obtain ⟨_, rfl, tv, _, rfl, r1, _, _, rfl, rfl, rfl⟩ := r1
    replace c1 := Hd.mk c1; replace r1 := Hd.mk r1
    gi_wp2
    first | go_ret2 | go_ret
    refine ⟨_, _, rfl, hs3.h.trans c1.h, ?_⟩
    simp only [fK, qp, qJ]
    exact ⟨_, rfl, _, _, rfl, .inl ⟨rfl, .inl rfl⟩, _, _, rfl, rfl, rfl⟩
end W
end
