/- The abstract execution of one operation is right: calls, loads, and what writes an object of the call's own. -/
import Derived.Test.YtkakmigbbipgoaaDoorAxBuild
namespace Ax
open Go

section
variable {P : Program}

theorem after_calm {bs : Base} {ρ : List Value} {H H' : PH} {fv : FV} {lo : List AObj} {v : Value} {w w' : World} (s : SatW bs ρ H lo w) (c : Calm H w H' w') (r : RepF ρ H' fv v) :
    After bs ρ H fv lo v w' := ⟨ρ, H', List.prefix_refl _, c.le, s.calm c, r⟩

theorem upon_value {bs : Base} {ρ : List Value} {H : PH} {fv : FV} {lo : List AObj} {v : Value} {w : World} {x : Sem Value} (s : SatW bs ρ H lo w) (hr : x.run P w = .ok v w) (r : RepF ρ H fv v) :
    UponA P bs ρ H fv lo ((do pure (.value (← x)) : Sem Next).run P w) := by
  simp only [Sem.run_bind, hr, Result.andThen_ok, Sem.run_pure]
  exact after_same s r

theorem kPure_sound {o : Oper} {E : Env} {g : G} {R : FV → Prop} (h : kPure P o.op E g R) : ∃ fv, R fv ∧ ∀ lo, StepSem P o (lookD E) lo g fv lo := by
  obtain ⟨dst, op, ty, pos, after, guard⟩ := o
  simp only at h
  unfold kPure at h
  split at h
  · -- move
    rename_i x
    cases g with
    | none =>
      simp only [ev_eq] at h
      exact ⟨_, h, fun lo hg bs ρ H w eval s hx => after_same s (hx x (by simp [Op.operands]))⟩
    | some g =>
      obtain ⟨x', h, hx'⟩ := evS_spec h
      exact ⟨_, h, fun lo hg bs ρ H w eval s hx => after_same s (hx' ρ H _ hg (hx x (by simp [Op.operands])))⟩
  · rename_i x
    cases g with
    | none =>
      simp only [ev_eq] at h
      exact ⟨_, h, fun lo hg bs ρ H w eval s hx => after_same s (hx x (by simp [Op.operands]))⟩
    | some g =>
      obtain ⟨x', h, hx'⟩ := evS_spec h
      exact ⟨_, h, fun lo hg bs ρ H w eval s hx => after_same s (hx' ρ H _ hg (hx x (by simp [Op.operands])))⟩
  · -- pick
    rename_i c a b
    obtain ⟨c', h, hc⟩ := evS_spec h
    split at h
    · rename_i cb
      have key : ∃ fv, R fv ∧ (gOn g → ∀ (ρ : List Value) (H : PH) (va vb : Value), RepF ρ H (evF (lookD E) a) va → RepF ρ H (evF (lookD E) b) vb → RepF ρ H fv (if cb then va else vb)) := by
        have fin : ∀ (ga gb : Bool) (a' b' : FV), Str (some ga) (evF (lookD E) a) a' → Str (some gb) (evF (lookD E) b) b' → (gOn g → cb = true → ga = true) → (gOn g → cb = false → gb = true) →
            (match a', b' with
              | .p (.bool a), .p (.bool b) => R (.p (.bool (bif cb then a else b)))
              | _, _ => False) → ∃ fv, R fv ∧ (gOn g → ∀ (ρ : List Value) (H : PH) (va vb : Value), RepF ρ H (evF (lookD E) a) va → RepF ρ H (evF (lookD E) b) vb → RepF ρ H fv (if cb then va else vb)) := by
          intro ga gb a' b' ha hb h1 h2 h
          split at h
          · rename_i ab bb
            refine ⟨_, h, fun hg ρ H va vb ra rb => ?_⟩
            cases cb with
            | true =>
              have := rep_bool (ha ρ H _ (h1 hg rfl) ra)
              simp [this, RepF, RepP]
            | false =>
              have := rep_bool (hb ρ H _ (h2 hg rfl) rb)
              simp [this, RepF, RepP]
          · exact h.elim
        split at h
        · obtain ⟨a', h, ha⟩ := evS_spec h
          obtain ⟨b', h, hb⟩ := evS_spec h
          exact fin _ _ a' b' ha hb (fun _ h => h) (fun _ h => by simp [h]) h
        · obtain ⟨a', h, ha⟩ := evS_spec h
          obtain ⟨b', h, hb⟩ := evS_spec h
          exact fin _ _ a' b' ha hb (fun hg h => by simp only [gOn] at hg; simp [hg, h]) (fun hg h => by simp only [gOn] at hg; simp [hg, h]) h
      obtain ⟨fv, h, hs⟩ := key
      refine ⟨_, h, fun lo hg bs ρ H w eval s hx => ?_⟩
      have rc := rep_bool (hc ρ H _ hg (hx c (by simp [Op.operands])))
      simp only [execOp, rc, asBool, Sem.run_bind, Sem.run_pure, Result.andThen_ok]
      exact after_same s (hs hg ρ H _ _ (hx a (by simp [Op.operands])) (hx b (by simp [Op.operands])))
    · exact h.elim
  · rename_i t x f
    obtain ⟨x', h, hx'⟩ := evS_spec h
    obtain ⟨fv, h, hs⟩ := kField_spec h
    refine ⟨_, h, fun lo hg bs ρ H w eval s hx => ?_⟩
    obtain ⟨v, hr, rv⟩ := hs ρ H w _ (hx' ρ H _ hg (hx x (by simp [Op.operands])))
    exact upon_value s hr rv
  · rename_i t x f
    obtain ⟨x', h, hx'⟩ := evS_spec h
    obtain ⟨fv, h, hs⟩ := kPart_spec h
    refine ⟨_, h, fun lo hg bs ρ H w eval s hx => ?_⟩
    obtain ⟨v, hr, rv⟩ := hs ρ H w _ (hx' ρ H _ hg (hx x (by simp [Op.operands])))
    exact upon_value s hr rv
  · rename_i t x i
    obtain ⟨x', h, hx'⟩ := evS_spec h
    obtain ⟨i', h, hi'⟩ := evS_spec h
    obtain ⟨fv, h, hs⟩ := kIndexAddr_spec h
    refine ⟨_, h, fun lo hg bs ρ H w eval s hx => ?_⟩
    obtain ⟨v, hr, rv⟩ := hs hg ρ H w _ _ (hx' ρ H _ hg (hx x (by simp [Op.operands]))) (hi' ρ H _ hg (hx i (by simp [Op.operands])))
    exact upon_value s hr rv
  · rename_i t x i
    obtain ⟨x', h, hx'⟩ := evS_spec h
    obtain ⟨i', h, hi'⟩ := evS_spec h
    obtain ⟨fv, h, hs⟩ := kIndex_spec h
    refine ⟨_, h, fun lo hg bs ρ H w eval s hx => ?_⟩
    obtain ⟨v, hr, rv⟩ := hs hg ρ H w _ _ (hx' ρ H _ hg (hx x (by simp [Op.operands]))) (hi' ρ H _ hg (hx i (by simp [Op.operands])))
    exact upon_value s hr rv
  · rename_i op t x y t'
    obtain ⟨x', h, hx'⟩ := evS_spec h
    obtain ⟨y', h, hy'⟩ := evS_spec h
    have key : ∃ fv, R fv ∧ (gOn g → ∀ (ρ : List Value) (H : PH) (w : World) (xo yo : Operand) (a b : Value), RepF ρ H x' a → RepF ρ H y' b →
        ∃ v, (do eqGuard op t xo yo a b; binOp op t a b : Sem Value).run P w = .ok v w ∧ RepF ρ H fv v) := by
      split at h
      · obtain ⟨fv, h, hs⟩ := kPtr_spec h; exact ⟨fv, h, fun _ => hs⟩
      · obtain ⟨fv, h, hs⟩ := kPtr_spec h; exact ⟨fv, h, fun _ => hs⟩
      · obtain ⟨fv, h, hs⟩ := kPtr_spec h; exact ⟨fv, h, fun _ => hs⟩
      · exact kBin_spec h
    obtain ⟨fv, h, hs⟩ := key
    refine ⟨_, h, fun lo hg bs ρ H w eval s hx => ?_⟩
    obtain ⟨v, hr, rv⟩ := hs hg ρ H w x y _ _ (hx' ρ H _ hg (hx x (by simp [Op.operands]))) (hy' ρ H _ hg (hx y (by simp [Op.operands])))
    exact upon_value s hr rv
  · rename_i t x
    obtain ⟨x', h, hx'⟩ := evS_spec h
    split at h
    · rename_i b
      refine ⟨_, h, fun lo hg bs ρ H w eval s hx => ?_⟩
      have rx := rep_bool (hx' ρ H _ hg (hx x (by simp [Op.operands])))
      exact upon_value s (v := .bool !b) (by simp [rx, Op.unary]) bool_rep
    · exact h.elim
  · rename_i t x
    obtain ⟨x', h, hx'⟩ := evS_spec h
    split at h
    · rename_i k n
      refine ⟨_, h, fun lo hg bs ρ H w eval s hx => ?_⟩
      have rx := rep_int (hx' ρ H _ hg (hx x (by simp [Op.operands])))
      exact upon_value s (v := .int k (k.wrap (0 - n))) (by simp [rx, Op.unary, Op.intArith]) int_rep
    · exact h.elim
  · rename_i x
    obtain ⟨x', h, hx'⟩ := evS_spec h
    split at h
    · rename_i k off
      refine ⟨_, h, fun lo hg bs ρ H w eval s hx => ?_⟩
      have rx := hx' ρ H _ hg (hx x (by simp [Op.operands]))
      obtain ⟨b, hb, e⟩ := rx
      simp only [execOp, e]
      exact after_same s ⟨b, hb, rfl⟩
    · rename_i row
      refine ⟨_, h, fun lo hg bs ρ H w eval s hx => ?_⟩
      have rx := hx' ρ H _ hg (hx x (by simp [Op.operands]))
      obtain ⟨b, o, vs, e, q, c⟩ := rx
      simp only [execOp, e]
      exact after_same s ⟨b, o, vs, rfl, q, c⟩
    · exact h.elim
  · rename_i t x lo hi mx
    obtain ⟨x', h, hx'⟩ := evS_spec h
    obtain ⟨fv, h, hs⟩ := kSlice_spec h
    refine ⟨_, h, fun lo' hg bs ρ H w eval s hx => ?_⟩
    obtain ⟨hmx, u, hr, ru⟩ := hs ρ H w eval _ hg (hx' ρ H _ hg (hx x (by simp [Op.operands]))) (fun y hy => hx y (by simp only [Op.operands]; simp only [Array.mem_append]; exact .inl (.inl (.inr hy)))) (fun y hy => hx y (by simp only [Op.operands]; simp only [Array.mem_append]; exact .inl (.inr hy)))
    subst hmx
    exact upon_value s hr ru
  · rename_i t n parts
    obtain ⟨fv, h, hs⟩ := kBuildSlice_spec h
    refine ⟨_, h, fun lo' hg bs ρ H w eval s hx => ?_⟩
    obtain ⟨v, w', H', hr, c, rv⟩ := hs hg ρ H w eval s.sath (fun x hx' => hx x (by simpa [Op.operands] using hx'))
    simp only [execOp, List.map_toArray, Sem.run_bind, hr, Result.andThen_ok, Sem.run_pure]
    exact after_calm s c rv
  · rename_i t parts
    obtain ⟨fv, h, hs⟩ := kBuild_spec h
    refine ⟨_, h, fun lo' hg bs ρ H w eval s hx => ?_⟩
    obtain ⟨v, hr, rv⟩ := hs hg ρ H w eval (fun x hx' => hx x (by simpa [Op.operands] using hx'))
    simp only [execOp, List.map_toArray]
    exact upon_value s hr rv
  · rename_i x i
    obtain ⟨x', h, hx'⟩ := evS_spec h
    split at h
    · rename_i vs
      obtain ⟨c, hc, h⟩ := nthK_spec h
      refine ⟨_, h, fun lo hg bs ρ H w eval s hx => ?_⟩
      have rx := hx' ρ H _ hg (hx x (by simp [Op.operands]))
      simp only [RepF, RepP] at rx
      obtain ⟨us, e, q⟩ := rx
      obtain ⟨v, hv, rv⟩ := q.get hc
      exact upon_value s (v := v) (by simp [e, Instr.extract, hv]) rv
    · exact h.elim
  · rename_i t x
    obtain ⟨x', h, hx'⟩ := evS_spec h
    obtain ⟨p, h, hp⟩ := frzK_spec h
    split at h
    · exact h.elim
    · rename_i d hd hu
      refine ⟨_, h, fun lo hg bs ρ H w eval s hx => ?_⟩
      have rx := hp ρ H _ (hx' ρ H _ hg (hx x (by simp [Op.operands])))
      refine upon_value s (v := .iface t (eval x)) ?_ (by simp only [RepF, RepP]; exact ⟨_, rfl, rx⟩)
      simp only [Instr.makeInterface, Sem.run_bind, run_underlying hu, Result.andThen_ok]
      rfl
    · exact h.elim
  · rename_i x t
    obtain ⟨x', h, hx'⟩ := evS_spec h
    obtain ⟨fv, h, hs⟩ := kLen_spec h
    refine ⟨_, h, fun lo hg bs ρ H w eval s hx => ?_⟩
    obtain ⟨v, hr, rv⟩ := hs ρ H w ty _ (hx' ρ H _ hg (hx x (by simp [Op.operands, Call.operands])))
    simp only [execOp, resolve, invoke, builtin, Sem.run_bind, Sem.run_pure, Result.andThen_ok, List.map_toArray, List.map_cons, List.map_nil, hr]
    exact after_same s rv
  · rename_i f xs ts
    obtain ⟨vs, h, hvs⟩ := evL_spec h
    obtain ⟨ps, h, hps⟩ := frzL_spec h
    obtain ⟨r, hc, h⟩ := h
    refine ⟨_, h, fun lo hg bs ρ H w eval s hx => ?_⟩
    have hc := gI_on hc hg
    have rl := hps ρ H _ (hvs ρ H eval hg (fun y hy => hx y (by simp [Op.operands, Call.operands, hy])))
    have := hc H w _ s.sath rl
    have hf : (eval (.func f)) = .func (.func f) #[] #[] := by
      have := hx (.func f) (by simp [Op.operands, Call.operands])
      simpa [evF, RepF, RepP] using this
    simp only [execOp, resolve, Deferred.ofValue, invoke, hf, Sem.run_bind, Sem.run_pure, Result.andThen_ok, List.map_toArray, Array.empty_append, Array.append_empty]
    unfold CallUpon at this
    split at this
    · rename_i v w' hrun
      rw [hrun]
      obtain ⟨H', c, rv⟩ := this
      exact after_calm s c rv
    · rename_i f' args' w' hrun
      rw [hrun]
      obtain ⟨rfl, hcall⟩ := this
      exact hcall.mono fun en w'' ⟨v, H', e, c, rv⟩ => ⟨v, e, after_calm s c rv⟩
    · exact this.elim
  · exact h.elim

/-! ### Loads -/
theorem cell_of_H {H : PH} {w : World} (s : SatH H w) {b o : Nat} {v : Value} (h : H b o = some v) : w.cell? ⟨b, o, none⟩ = some v := (s.cell b o v h).1

theorem run_loadAt_cells {w : World} {t : TypeId} {d : TypeDesc} {i : TypeInfo} (hd : P.underlying t = some d) (hi : P.info? t = some i) {b o : Nat} {vs : List Value}
    (hc : ∀ j v, vs[j]? = some v → w.cell? ⟨b, o + j, none⟩ = some v) (hn : i.size ≤ vs.length) (hagg : aggD d = true) :
    (Instr.loadAt t (.pointer (some ⟨b, o, none⟩))).run P w = .ok (.agg (vs.take i.size).toArray) w := by
  have hl : (loadCells ⟨b, o, none⟩ (vs.take i.size).length).run P w = .ok (vs.take i.size).toArray w :=
    run_loadCells_list (P := P) w ⟨b, o, none⟩ (vs.take i.size) (fun j v hv => by
      rw [Addr.add_lit]
      rw [List.getElem?_take] at hv
      split at hv
      · exact hc j v hv
      · cases hv)
  rw [List.length_take, Nat.min_eq_left hn] at hl
  simp [Instr.loadAt, Instr.sureAddr, loadVar, run_isAgg hd, hagg, Go.sizeOf, typeInfo, hi, hl]

theorem run_loadAt_cell {w : World} {t : TypeId} {d : TypeDesc} (hd : P.underlying t = some d) {b o : Nat} {v : Value}
    (hc : w.cell? ⟨b, o, none⟩ = some v) (hagg : aggD d = false) : (Instr.loadAt t (.pointer (some ⟨b, o, none⟩))).run P w = .ok v w := by
  simp [Instr.loadAt, Instr.sureAddr, loadVar, run_isAgg hd, hagg, hc]

theorem kLoad_spec {t : TypeId} {lo : List AObj} {x' : FV} {R : FV → Prop} (h : kLoad P t lo x' R) :
    ∃ fv, R fv ∧ ∀ (bs : Base) (ρ : List Value) (H : PH) (w : World) (v : Value), SatW bs ρ H lo w → RepF ρ H x' v → ∃ a u, v = .pointer (some a) ∧ (Instr.loadAt t v).run P w = .ok u w ∧ RepF ρ H fv u := by
  unfold kLoad at h
  split at h
  · rename_i k off
    obtain ⟨ob, hob, h⟩ := nthK_spec h
    split at h
    · rename_i bt cells
      obtain ⟨h, hoff⟩ := dropK_spec h
      obtain ⟨d, i, hd, hi, h⟩ := typeK_spec h
      split at h
      · rename_i hagg
        obtain ⟨h, hn⟩ := takeK_spec h
        obtain ⟨ps, h, hps⟩ := frzL_spec h
        refine ⟨_, h, fun bs ρ H w v s hx => ?_⟩
        obtain ⟨b, hb, rfl⟩ := hx
        obtain ⟨b', vs, e', hg', hcs, _⟩ := s.objs k _ _ hob hb
        cases e'
        refine ⟨_, _, rfl, run_loadAt_cells hd hi (cells_of_row hg' off) (by rw [List.length_drop] at hn ⊢; rw [hcs.length]; exact hn) hagg, ?_⟩
        simp only [RepF, RepP]
        exact ⟨_, rfl, hps _ _ _ ((hcs.drop off).take _)⟩
      · rename_i hagg
        split at h
        · rename_i c r hc
          refine ⟨_, h, fun bs ρ H w v s hx => ?_⟩
          obtain ⟨b, hb, rfl⟩ := hx
          obtain ⟨b', vs, e', hg', hcs, _⟩ := s.objs k _ _ hob hb
          cases e'
          have hd2 := hcs.drop off
          rw [hc] at hd2
          obtain ⟨v, vs', e2, rv, _⟩ := hd2
          have := cells_of_row hg' off 0 v (by rw [e2]; simp)
          exact ⟨_, _, rfl, run_loadAt_cell hd (by simpa using this) hagg, rv⟩
        · exact h.elim
    · exact h.elim
  · rename_i row
    obtain ⟨d, i, hd, hi, h⟩ := typeK_spec h
    split at h
    · rename_i hagg
      obtain ⟨h, hn⟩ := takeK_spec h
      refine ⟨_, h, fun bs ρ H w v s hx => ?_⟩
      obtain ⟨b, o', vs, rfl, q, c⟩ := hx
      refine ⟨_, _, rfl, run_loadAt_cells hd hi (fun j v hv => cell_of_H s.sath (c j v hv)) (by rw [q.length]; exact hn) hagg, ?_⟩
      simp only [RepF, RepP]
      exact ⟨_, rfl, q.take _⟩
    · rename_i hagg
      split at h
      · rename_i c0 r hc
        refine ⟨_, h, fun bs ρ H w v s hx => ?_⟩
        obtain ⟨b, o', vs, rfl, q, c⟩ := hx
        simp only [RepL] at q
        obtain ⟨u, vs', e2, rv, _⟩ := q
        have := cell_of_H s.sath (c 0 u (by rw [e2]; simp))
        exact ⟨_, _, rfl, run_loadAt_cell hd (by simpa using this) hagg, rv⟩
      · exact h.elim
  · exact h.elim

theorem kLoad_sound {o : Oper} {t : TypeId} {x : Operand} (ho : o.op = .load t x) {E : Env} {g : G} {lo : List AObj} {R : FV → Prop} (h : evS E g x fun x => kLoad P t lo x R) :
    ∃ fv, R fv ∧ StepSem P o (lookD E) lo g fv lo := by
  obtain ⟨x', h, hx'⟩ := evS_spec h
  obtain ⟨fv, h, hs⟩ := kLoad_spec h
  refine ⟨_, h, fun hg bs ρ H w eval s hx => ?_⟩
  obtain ⟨a, u, _, hr, ru⟩ := hs bs ρ H w _ s (hx' ρ H _ hg (hx x (by simp [ho, Op.operands])))
  simp only [execOp, ho]
  exact upon_value s hr ru

theorem kConv_sound {o : Oper} {sr d : TypeId} {x : Operand} (ho : o.op = .convert sr d x) {E : Env} {g : G} {lo : List AObj} {R : FV → Prop} (h : evS E g x fun x => kBytes P g sr d lo x R) :
    ∃ fv, R fv ∧ StepSem P o (lookD E) lo g fv lo := by
  obtain ⟨x', h, hx'⟩ := evS_spec h
  obtain ⟨fv, h, hs⟩ := kBytes_spec h
  refine ⟨_, h, fun hg bs ρ H w eval s hx => ?_⟩
  obtain ⟨u, hr, ru⟩ := hs hg bs ρ H w _ s (hx' ρ H _ hg (hx x (by simp [ho, Op.operands])))
  simp only [execOp, ho]
  exact upon_value s hr ru
end
end Ax
