/- The abstract execution of one operation that touches no object of the call's own is right. -/
import Derived.Test.YtkakmigbbipgoaaDoorAxVc
import Derived.WalkKit
namespace Ax
open Go

def After (bs : Base) (ρ : List Value) (H : PH) (fv : FV) (lo' : List AObj) (v : Value) (w' : World) : Prop :=
  ∃ ρ' H', ρ <+: ρ' ∧ PH.le H H' ∧ SatW bs ρ' H' lo' w' ∧ RepF ρ' H' fv v

def UponA (P : Program) (bs : Base) (ρ : List Value) (H : PH) (fv : FV) (lo' : List AObj) : Result Next → Prop
  | .ok (.value v) w' => After bs ρ H fv lo' v w'
  | .ok .skip w' => After bs ρ H fv lo' undef w'
  | .ok (.enter f args) w' => Calls P f args w' fun en w'' => ∃ v, en = .returned v ∧ After bs ρ H fv lo' v w''
  | _ => False

def StepSem (P : Program) (o : Oper) (e : Nat → FV) (lo : List AObj) (g : G) (fv : FV) (lo' : List AObj) : Prop :=
  gOn g → ∀ (bs : Base) (ρ : List Value) (H : PH) (w : World) (eval : Operand → Value), SatW bs ρ H lo w →
    (∀ x ∈ o.op.operands, RepF ρ H (evF e x) (eval x)) → UponA P bs ρ H fv lo' ((execOp eval o).run P w)

theorem after_same {bs : Base} {ρ : List Value} {H : PH} {fv : FV} {lo : List AObj} {v : Value} {w : World} (s : SatW bs ρ H lo w) (r : RepF ρ H fv v) :
    After bs ρ H fv lo v w := ⟨ρ, H, List.prefix_refl _, PH.le.refl H, s, r⟩

theorem gI_on {g : G} {p : Prop} (h : gI g p) (hg : gOn g) : p := by
  cases g with
  | none => exact h
  | some b => exact h hg

theorem look_eq : ∀ (E : Env) (t : Nat) (R : FV → Prop), look E t R = R (lookD E t)
  | [], _, _ => rfl
  | (t', v) :: E, t, R => by
    simp only [look, lookD]
    cases Nat.beq t t' with
    | true => rfl
    | false => exact look_eq E t R

theorem ev_eq (E : Env) (x : Operand) (R : FV → Prop) : ev E x R = R (evF (lookD E) x) := by
  cases x with
  | tmp t => exact look_eq E t R
  | const v => exact forceF_eq _ _
  | global g => rfl
  | func f => rfl

/-- f's values, where the guard holds, are v's. -/
def Str (g : G) (f v : FV) : Prop := ∀ ρ H x, gOn g → RepF ρ H f x → RepF ρ H v x

theorem evS_spec {E : Env} {g : G} {x : Operand} {R : FV → Prop} (h : evS E g x R) : ∃ v, R v ∧ Str g (evF (lookD E) x) v := by
  unfold evS at h
  rw [ev_eq] at h
  generalize evF (lookD E) x = f at *
  cases f <;> simp only at h
  case opt g' v' =>
    refine ⟨v', h.2, fun ρ H y hg hy => ?_⟩
    have := gI_on h.1 hg
    simpa [RepF, this] using hy
  all_goals exact ⟨_, h, fun _ _ _ _ hy => hy⟩

theorem ofV1_spec {v : Value} {p : PV} (h : ofV1 v = some p) (H : PH) : RepP H p v := by
  unfold ofV1 at h
  split at h <;> (cases h) <;> simp [RepP]

theorem ofVF_spec (v : Value) (ρ : List Value) (H : PH) : RepF ρ H (ofVF v) v := by
  unfold ofVF
  split
  · simp [RepF, RepP, RepL]
  · split
    · rename_i h; exact ofV1_spec h H
    · trivial

theorem evF_rep {ρ : List Value} {H : PH} {e : Nat → FV} {a : Act} (h : ∀ t, RepF ρ H (e t) (a.tmps.getD t undef)) (x : Operand) : RepF ρ H (evF e x) (a.eval x) := by
  cases x with
  | tmp t => exact h t
  | const v => exact ofVF_spec v ρ H
  | func f => simp [evF, RepF, RepP, Act.eval]
  | global g => trivial

/-! ### What the values are -/
theorem rep_bool {ρ : List Value} {H : PH} {b : Bool} {x : Value} (h : RepF ρ H (.p (.bool b)) x) : x = .bool b := by simpa [RepF, RepP] using h
theorem rep_int {ρ : List Value} {H : PH} {k : IntKind} {n : Int} {x : Value} (h : RepF ρ H (.p (.int k n)) x) : x = .int k n := by simpa [RepF, RepP] using h
theorem rep_str {ρ : List Value} {H : PH} {l : List UInt8} {x : Value} (h : RepF ρ H (.p (.str l)) x) : x = .string ⟨l.toArray⟩ := by simpa [RepF, RepP] using h
theorem bool_rep {ρ : List Value} {H : PH} {b : Bool} : RepF ρ H (.p (.bool b)) (.bool b) := by simp [RepF, RepP]
theorem int_rep {ρ : List Value} {H : PH} {k : IntKind} {n : Int} : RepF ρ H (.p (.int k n)) (.int k n) := by simp [RepF, RepP]
theorem str_rep {ρ : List Value} {H : PH} {l : List UInt8} : RepF ρ H (.p (.str l)) (.string ⟨l.toArray⟩) := by simp [RepF, RepP]

theorem takeK_spec {α : Type} : ∀ {n : Nat} {l : List α} {R : List α → Prop}, takeK n l R → R (l.take n) ∧ n ≤ l.length
  | 0, l, R, h => by simpa [takeK] using h
  | n + 1, [], R, h => by simp [takeK] at h
  | n + 1, a :: l, R, h => by
    have := takeK_spec (n := n) (l := l) (R := fun l => R (a :: l)) h
    simpa using this
theorem dropK_spec {α : Type} : ∀ {n : Nat} {l : List α} {R : List α → Prop}, dropK n l R → R (l.drop n) ∧ n ≤ l.length
  | 0, l, R, h => by simpa [dropK] using h
  | n + 1, [], R, h => by simp [dropK] at h
  | n + 1, a :: l, R, h => by simpa using dropK_spec (n := n) (l := l) (R := R) h
theorem nthK_spec {α : Type} : ∀ {n : Nat} {l : List α} {R : α → Prop}, nthK n l R → ∃ a, l[n]? = some a ∧ R a
  | 0, [], R, h => by simp [nthK] at h
  | 0, a :: l, R, h => ⟨a, by simp, h⟩
  | n + 1, [], R, h => by simp [nthK] at h
  | n + 1, a :: l, R, h => by simpa using nthK_spec (n := n) (l := l) (R := R) h
theorem setK_spec {α : Type} : ∀ {n : Nat} {x : α} {l : List α} {R : List α → Prop}, setK n x l R → R (l.set n x) ∧ n < l.length
  | 0, x, [], R, h => by simp [setK] at h
  | 0, x, a :: l, R, h => by simpa [setK] using h
  | n + 1, x, [], R, h => by simp [setK] at h
  | n + 1, x, a :: l, R, h => by simpa using setK_spec (n := n) (x := x) (l := l) (R := fun l => R (a :: l)) h
theorem snocK_spec {α : Type} : ∀ {l : List α} {x : α} {R : List α → Prop}, snocK l x R → R (l ++ [x])
  | [], x, R, h => by simpa [snocK] using h
  | a :: l, x, R, h => snocK_spec (l := l) (x := x) (R := fun l => R (a :: l)) h
theorem lenK_spec {α : Type} : ∀ {l : List α} {n : Nat} {R : Nat → Prop}, lenK l n R → R (n + l.length)
  | [], n, R, h => by simpa [lenK] using h
  | a :: l, n, R, h => by
    have := lenK_spec (l := l) (n := n + 1) (R := R) h
    simpa [Nat.add_comm, Nat.add_left_comm, Nat.add_assoc] using this

theorem fieldK_spec {P : Program} {t f : Nat} {R : Nat → TypeId → Prop} (h : fieldK P t f R) :
    ∃ fs x i, P.underlying t = some (.struct fs) ∧ fs[f]? = some x ∧ P.info? x.type = some i ∧ i.size ≠ 0 ∧ R x.offset x.type := by
  unfold fieldK at h
  split at h
  · rename_i fs hu
    obtain ⟨x, hx, hr⟩ := nthK_spec h
    split at hr
    · rename_i i hi
      split at hr
      · exact hr.elim
      · rename_i hz
        exact ⟨_, x, i, hu, by simpa using hx, hi, fun e => by simp [e] at hz, hr⟩
    · exact hr.elim
  · exact h.elim

theorem typeK_spec {P : Program} {t : TypeId} {R : Bool → Nat → Prop} (h : typeK P t R) :
    ∃ d i, P.underlying t = some d ∧ P.info? t = some i ∧ R (aggD d) i.size := by
  unfold typeK at h
  split at h
  · rename_i d hd
    split at h
    · rename_i i hi; exact ⟨d, i, hd, hi, h⟩
    · exact h.elim
  · exact h.elim

theorem elemK_spec {P : Program} {t : TypeId} {R : TypeId → Nat → Prop} (h : elemK P t R) :
    ∃ e i, P.underlying t = some (.slice e) ∧ P.info? e = some i ∧ R e i.size := by
  unfold elemK at h
  split at h
  · rename_i e he
    split at h
    · rename_i i hi; exact ⟨e, i, he, hi, h⟩
    · exact h.elim
  · exact h.elim

theorem frzK_spec {v : FV} {R : PV → Prop} (h : frzK v R) : ∃ p, R p ∧ ∀ ρ H x, RepF ρ H v x → RepP H p x := by
  cases v <;> simp only [frzK] at h
  case p p => exact ⟨p, h, fun _ _ _ r => r⟩
  case tsl k rows => exact ⟨_, h, fun _ _ _ r => r.2⟩

theorem frzL_spec : ∀ {l : List FV} {R : List PV → Prop}, frzL l R → ∃ ps, R ps ∧ ∀ ρ H vs, RepFL ρ H l vs → RepL H ps vs
  | [], R, h => ⟨[], h, fun _ _ vs r => by simpa [RepL, RepFL] using r⟩
  | v :: l, R, h => by
    simp only [frzL] at h
    obtain ⟨p, h1, h2⟩ := frzK_spec h
    obtain ⟨ps, h3, h4⟩ := frzL_spec h1
    refine ⟨_, h3, fun ρ H vs r => ?_⟩
    obtain ⟨x, vs', e, r1, r2⟩ := r
    simp only [RepL]
    exact ⟨x, vs', e, h2 _ _ _ r1, h4 _ _ _ r2⟩

theorem evL_spec {E : Env} {g : G} : ∀ {l : List Operand} {R : List FV → Prop}, evL E g l R →
    ∃ vs, R vs ∧ ∀ ρ H (eval : Operand → Value), gOn g → (∀ x ∈ l, RepF ρ H (evF (lookD E) x) (eval x)) → RepFL ρ H vs (l.map eval)
  | [], R, h => ⟨[], h, fun _ _ _ _ _ => by simp [RepFL]⟩
  | x :: l, R, h => by
    simp only [evL] at h
    obtain ⟨v, h1, h2⟩ := evS_spec h
    obtain ⟨vs, h3, h4⟩ := evL_spec h1
    refine ⟨_, h3, fun ρ H eval hg hx => ?_⟩
    simp only [List.map_cons, RepFL]
    exact ⟨_, _, rfl, h2 _ _ _ hg (hx x (by simp)), h4 _ _ _ hg (fun y hy => hx y (by simp [hy]))⟩

theorem size_lit (l : List UInt8) : (⟨l.toArray⟩ : ByteArray).size = l.length := ByteArray.size_mk_toArray l

theorem opnd1 {P : Prop} {x : Operand} {f : Operand → Prop} (h : ∀ y ∈ #[x], f y) (k : f x → P) : P := k (h x (by simp))

/-! ### One lemma an operation -/
section
variable {P : Program} {bs : Base} {ρ : List Value} {H : PH} {lo : List AObj} {w : World}

theorem run_equalIn_bool {t : TypeId} (hu : P.underlying t = some .bool) (n : Nat) (a b : Bool) : (Op.equalIn (n + 1) t (.bool a) (.bool b)).run P w = .ok (a == b) w := by
  simp [Op.equalIn, run_underlying hu]
theorem run_equal_bool {t : TypeId} (hu : P.underlying t = some .bool) (a b : Bool) : (Op.equal t (.bool a) (.bool b)).run P w = .ok (a == b) w :=
  run_equalIn_bool hu 9999 a b

theorem kBin_spec {g : G} {op : BinOp} {t : TypeId} {x y : FV} {R : FV → Prop} (h : kBin P g op t x y R) :
    ∃ fv, R fv ∧ (gOn g → ∀ (ρ : List Value) (H : PH) (w : World) (xo yo : Operand) (a b : Value), RepF ρ H x a → RepF ρ H y b →
      ∃ v, (do eqGuard op t xo yo a b; binOp op t a b : Sem Value).run P w = .ok v w ∧ RepF ρ H fv v) := by
  unfold kBin at h
  split at h
  · rename_i k n
    split at h
    · rename_i k' m
      split at h
      · refine ⟨_, h.2, fun hg ρ H w xo yo a b ra rb => ?_⟩
        rw [rep_int ra, rep_int rb]
        have h0 := gI_on h.1 hg
        exact ⟨_, by simp [eqGuard, binOp, Op.shift, show ¬ m < 0 by omega], int_rep⟩
      · refine ⟨_, h.2, fun hg ρ H w xo yo a b ra rb => ?_⟩
        rw [rep_int ra, rep_int rb]
        have h0 := gI_on h.1 hg
        exact ⟨_, by simp [eqGuard, binOp, Op.shift, show ¬ m < 0 by omega], int_rep⟩
      · split at h
        case h_2 => exact h.elim
        rename_i hk
        have hk := kindEq_spec hk
        obtain ⟨h0, h⟩ := h
        refine ⟨_, h, fun hg ρ H w xo yo a b ra rb => ?_⟩
        rw [rep_int ra, rep_int rb]
        have h0 := gI_on h0 hg
        exact ⟨_, by simp [eqGuard, binOp, Op.intDiv, hk, h0], int_rep⟩
      · split at h
        case h_2 => exact h.elim
        rename_i hk
        have hk := kindEq_spec hk
        obtain ⟨h0, h⟩ := h
        refine ⟨_, h, fun hg ρ H w xo yo a b ra rb => ?_⟩
        rw [rep_int ra, rep_int rb]
        have h0 := gI_on h0 hg
        exact ⟨_, by simp [eqGuard, binOp, Op.intDiv, hk, h0], int_rep⟩
      · split at h
        case h_2 => exact h.elim
        rename_i hk
        have hk := kindEq_spec hk
        subst hk
        unfold binI at h
        split at h <;> first
          | exact h.elim
          | (refine ⟨_, h, fun hg ρ H w xo yo a b ra rb => ?_⟩
             rw [rep_int ra, rep_int rb]
             exact ⟨_, by simp [eqGuard, binOp, Op.intArith, Op.intBits, Op.intCmp] <;> rfl, by simp [RepF, RepP]⟩)
    · exact h.elim
  · rename_i l
    split at h
    · rename_i m
      unfold binS at h
      split at h
      · obtain ⟨hs, h⟩ := h
        refine ⟨_, h, fun hg ρ H w xo yo a b ra rb => ?_⟩
        rw [rep_str ra, rep_str rb]
        have hs := gI_on hs hg
        refine ⟨.string ⟨(l ++ m).toArray⟩, ?_, str_rep⟩
        have := run_string_add_sum (P := P) w ⟨l.toArray⟩ ⟨m.toArray⟩ (by rw [size_lit, size_lit]; unfold maxI at hs; omega)
        simp [eqGuard, binOp, this, ByteArray.mk_append_mk]
      all_goals first
        | exact h.elim
        | (refine ⟨_, h, fun hg ρ H w xo yo a b ra rb => ?_⟩
           rw [rep_str ra, rep_str rb]
           exact ⟨_, by simp [eqGuard, binOp, Op.stringOp] <;> rfl, by simp [RepF, RepP]⟩)
    · exact h.elim
  · rename_i a'
    split at h
    · rename_i b'
      unfold isBoolT at h
      split at h
      · rename_i hu
        unfold binB at h
        split at h <;> first
          | exact h.elim
          | (refine ⟨_, h, fun hg ρ H w xo yo a b ra rb => ?_⟩
             rw [rep_bool ra, rep_bool rb]
             exact ⟨_, by simp only [eqGuard, binOp, Sem.run_bind, run_equal_bool hu]; rfl, by simp [RepF, RepP]⟩)
      · exact h.elim
    · exact h.elim
  · exact h.elim

theorem kField_spec {t : TypeId} {x : FV} {f : Nat} {R : FV → Prop} (h : kField P t x f R) :
    ∃ fv, R fv ∧ ∀ (ρ : List Value) (H : PH) (w : World) (a : Value), RepF ρ H x a → ∃ v, (Instr.fieldAt t a f).run P w = .ok v w ∧ RepF ρ H fv v := by
  unfold kField at h
  split at h
  · rename_i k off
    obtain ⟨fs, y, i, hu, hf, hi, hz, hr⟩ := fieldK_spec h
    refine ⟨_, hr, fun ρ H w a ra => ?_⟩
    obtain ⟨b, hb, rfl⟩ := ra
    exact ⟨.pointer (some ⟨b, off + y.offset, none⟩), by simp [Instr.fieldAt, run_underlying hu, hf, Instr.sureAddr, fieldPlace, Go.sizeOf, typeInfo, hi, hz, Addr.add_lit], b, hb, rfl⟩
  · rename_i row
    obtain ⟨fs, y, i, hu, hf, hi, hz, hr⟩ := fieldK_spec h
    obtain ⟨hr, hlen⟩ := dropK_spec hr
    refine ⟨_, hr, fun ρ H w a ra => ?_⟩
    obtain ⟨b, o, vs, rfl, q, c⟩ := ra
    refine ⟨.pointer (some ⟨b, o + y.offset, none⟩), by simp [Instr.fieldAt, run_underlying hu, hf, Instr.sureAddr, fieldPlace, Go.sizeOf, typeInfo, hi, hz, Addr.add_lit], b, o + y.offset, vs.drop y.offset, rfl, q.drop _, fun j v hv => ?_⟩
    rw [List.getElem?_drop] at hv
    have := c _ _ hv
    rwa [← Nat.add_assoc] at this
  · exact h.elim

theorem run_isAgg {t : TypeId} {d : TypeDesc} (hu : P.underlying t = some d) : (isAgg t).run P w = .ok (aggD d) w := by
  simp only [isAgg, Sem.run_bind, run_underlying hu, Result.andThen_ok]
  cases d <;> rfl

theorem kPart_spec {t : TypeId} {x : FV} {f : Nat} {R : FV → Prop} (h : kPart P t x f R) :
    ∃ fv, R fv ∧ ∀ (ρ : List Value) (H : PH) (w : World) (a : Value), RepF ρ H x a → ∃ v, (Instr.field t a f).run P w = .ok v w ∧ RepF ρ H fv v := by
  unfold kPart at h
  split at h
  · rename_i cs
    obtain ⟨fs, y, i, hu, hf, hi, hz, hr⟩ := fieldK_spec h
    obtain ⟨hr, hlen⟩ := dropK_spec hr
    obtain ⟨d, i', hd, hi', hr⟩ := typeK_spec hr
    have hii : i' = i := Option.some.inj (hi'.symm.trans hi)
    subst hii
    split at hr
    · rename_i hagg
      obtain ⟨hr, hl⟩ := takeK_spec hr
      refine ⟨_, hr, fun ρ H w a ra => ?_⟩
      simp only [RepF, RepP] at ra
      obtain ⟨vs, rfl, q⟩ := ra
      refine ⟨.agg ((vs.drop y.offset).take i'.size).toArray, ?_, ?_⟩
      · simp [Instr.field, run_underlying hu, hf, asAgg, part, run_isAgg hd, hagg, Go.sizeOf, typeInfo, hi', List.extract_toArray, List.extract_eq_take_drop]
      · simp only [RepF, RepP]; exact ⟨_, rfl, (q.drop _).take _⟩
    · rename_i hagg
      split at hr
      · rename_i c r hc
        refine ⟨_, hr, fun ρ H w a ra => ?_⟩
        simp only [RepF, RepP] at ra
        obtain ⟨vs, rfl, q⟩ := ra
        have hg : cs[y.offset]? = some c := by
          have := congrArg (fun l => l[0]?) hc
          simpa [List.getElem?_drop] using this
        obtain ⟨v, hv, rv⟩ := q.get hg
        exact ⟨v, by simp [Instr.field, run_underlying hu, hf, asAgg, part, run_isAgg hd, hagg, hv], rv⟩
      · exact hr.elim
  · exact h.elim

theorem indexAt_rows {ρ : List Value} {H : PH} {w : World} {t e : TypeId} {ti : TypeInfo} (hu : P.underlying t = some (.slice e)) (hi : P.info? e = some ti) {rows : List (List PV)} {a : Value} (ra : RepP H (.sl rows) a)
    {k : IntKind} {i : Int} {row : List PV} (h0 : 0 ≤ i) (hrow : rows[i.toNat]? = some row) (hlen : row.length = ti.size) :
    ∃ v, (Instr.indexAt t a (.int k i)).run P w = .ok v w ∧ RepF ρ H (.hptr row) v := by
  simp only [RepP] at ra
  rcases ra with ⟨rfl, _⟩ | ⟨b, o, z, cap, rfl, hc, rr⟩
  · simp at hrow
  · obtain ⟨hz, vs, q, c⟩ := rr.get hrow
    have hlt : i < rows.length := by have := (List.getElem?_eq_some_iff.1 hrow).1; omega
    refine ⟨.pointer (some ⟨b, o + i.toNat * ti.size, none⟩), ?_, b, _, vs, rfl, q, ?_⟩
    · simp [Instr.indexAt, run_underlying hu, asIntOf, h0, hlt, Go.sizeOf, typeInfo, hi, Addr.add_lit]
    · rw [← hlen, hz]; exact c

theorem kIndexAddr_spec {g : G} {t : TypeId} {x i : FV} {R : FV → Prop} (h : kIndexAddr P g t x i R) :
    ∃ fv, R fv ∧ (gOn g → ∀ (ρ : List Value) (H : PH) (w : World) (a b : Value), RepF ρ H x a → RepF ρ H i b → ∃ v, (Instr.indexAt t a b).run P w = .ok v w ∧ RepF ρ H fv v) := by
  unfold kIndexAddr at h
  split at h
  · obtain ⟨e, ti, hu, hi, row, hr, hR⟩ := elemK_spec h
    refine ⟨_, hR, fun hg ρ H w a b ra rb => ?_⟩
    obtain ⟨h0, h1, h2⟩ := gI_on hr hg
    rw [rep_int rb]
    exact indexAt_rows hu hi ra h0 h1 h2
  · obtain ⟨e, ti, hu, hi, row, hr, hR⟩ := elemK_spec h
    refine ⟨_, hR, fun hg ρ H w a b ra rb => ?_⟩
    obtain ⟨h0, h1, h2⟩ := gI_on hr hg
    rw [rep_int rb]
    exact indexAt_rows hu hi ra.2 h0 h1 h2
  · rename_i k off kk n
    split at h
    · rename_i len e hu
      split at h
      · rename_i ti hi
        obtain ⟨hb, hR⟩ := h
        refine ⟨_, hR, fun hg ρ H w a b ra rb => ?_⟩
        obtain ⟨h0, h1⟩ := gI_on hb hg
        obtain ⟨bl, hr, rfl⟩ := ra
        rw [rep_int rb]
        refine ⟨.pointer (some ⟨bl, off + n.toNat * ti.size, none⟩), ?_, bl, hr, rfl⟩
        simp [Instr.indexAt, run_underlying hu, asIntOf, Instr.sureAddr, h0, h1, Go.sizeOf, typeInfo, hi, Addr.add_lit]
      · exact h.elim
    · exact h.elim
  · exact h.elim

theorem kIndex_spec {g : G} {t : TypeId} {x i : FV} {R : FV → Prop} (h : kIndex P g t x i R) :
    ∃ fv, R fv ∧ (gOn g → ∀ (ρ : List Value) (H : PH) (w : World) (a b : Value), RepF ρ H x a → RepF ρ H i b → ∃ v, (Instr.index t a b).run P w = .ok v w ∧ RepF ρ H fv v) := by
  unfold kIndex at h
  split at h
  · rename_i l k n
    split at h
    · rename_i hu
      obtain ⟨b, hb, hR⟩ := h
      refine ⟨_, hR, fun hg ρ H w x y ra rb => ?_⟩
      obtain ⟨h0, h1⟩ := gI_on hb hg
      rw [rep_str ra, rep_int rb]
      refine ⟨_, ?_, int_rep⟩
      have hlt := (List.getElem?_eq_some_iff.1 h1).1
      have hs : (⟨l.toArray⟩ : ByteArray)[n.toNat]? = some b := by
        rw [ByteArray.getElem?_lt' _ _ (by rw [size_lit]; exact hlt)]
        have := (List.getElem?_eq_some_iff.1 h1).2
        rw [← this]
        rfl
      simp [Instr.index, asIntOf, run_underlying hu, h0, hs]
    · exact h.elim
  · rename_i cs k n
    split at h
    · rename_i len e hu
      obtain ⟨d, ti, hd, hi, h⟩ := typeK_spec h
      split at h
      · rename_i hagg
        split at h
        · rename_i hz
          have hz : ti.size = 1 := Nat.eq_of_beq_eq_true hz
          obtain ⟨c, hb, hR⟩ := h
          refine ⟨_, hR, fun hg ρ H w x y ra rb => ?_⟩
          obtain ⟨h0, h1, h2⟩ := gI_on hb hg
          simp only [RepF, RepP] at ra
          obtain ⟨vs, rfl, q⟩ := ra
          obtain ⟨v, hv, rv⟩ := q.get h2
          rw [rep_int rb]
          refine ⟨v, ?_, rv⟩
          simp [Instr.index, asIntOf, run_underlying hu, h0, h1, Go.sizeOf, typeInfo, hi, hz, part, run_isAgg hd, hagg, hv]
        · exact h.elim
      · rename_i hagg
        obtain ⟨c, hb, hR⟩ := h
        refine ⟨_, hR, fun hg ρ H w x y ra rb => ?_⟩
        obtain ⟨h0, h1, h2⟩ := gI_on hb hg
        simp only [RepF, RepP] at ra
        obtain ⟨vs, rfl, q⟩ := ra
        rw [rep_int rb]
        refine ⟨.agg ((vs.drop (n.toNat * ti.size)).take ti.size).toArray, ?_, ?_⟩
        · simp [Instr.index, asIntOf, run_underlying hu, h0, h1, Go.sizeOf, typeInfo, hi, part, run_isAgg hd, hagg, List.extract_toArray, List.extract_eq_take_drop]
        · simp only [RepF, RepP]
          exact ⟨_, rfl, by rw [← h2]; exact (q.drop _).take _⟩
    · exact h.elim
  · exact h.elim

theorem kLen_spec {t : TypeId} {x : FV} {R : FV → Prop} (h : kLen P t x R) :
    ∃ fv, R fv ∧ ∀ (ρ : List Value) (H : PH) (w : World) (ty : TypeId) (a : Value), RepF ρ H x a → ∃ v, (Builtin.len_ #[t] ty #[a]).run P w = .ok v w ∧ RepF ρ H fv v := by
  have slice : ∀ (e : TypeId), P.underlying t = some (.slice e) → ∀ (rows : List (List PV)) (H : PH) (w : World) (ty : TypeId) (a : Value), RepP H (.sl rows) a → (Builtin.len_ #[t] ty #[a]).run P w = .ok (.int .i64 rows.length) w := by
    intro e hu rows H w ty a ra
    simp only [RepP] at ra
    rcases ra with ⟨rfl, rfl | ⟨a', cap', rfl⟩⟩ | ⟨b, o, z, cap, rfl, _, _⟩
    · simp [Builtin.len_, run_underlying hu, goInt]
    · simp [Builtin.len_, run_underlying hu, goInt]
    · simp [Builtin.len_, run_underlying hu, goInt]
  unfold kLen at h
  split at h
  · rename_i l
    split at h
    · rename_i hu
      refine ⟨_, h, fun ρ H w ty a ra => ⟨.int .i64 l.length, ?_, int_rep⟩⟩
      rw [rep_str ra]
      simp [Builtin.len_, run_underlying hu, goInt, size_lit]
    · exact h.elim
  · rename_i rows
    split at h
    · rename_i e hu
      exact ⟨_, h, fun ρ H w ty a ra => ⟨_, slice e hu rows H w ty a ra, int_rep⟩⟩
    · exact h.elim
  · rename_i k rows
    split at h
    · rename_i e hu
      exact ⟨_, h, fun ρ H w ty a ra => ⟨_, slice e hu rows H w ty a ra.2, int_rep⟩⟩
    · exact h.elim
  · rename_i k off n cap
    split at h
    · rename_i e hu
      refine ⟨_, h, fun ρ H w ty a ra => ⟨.int .i64 n, ?_, int_rep⟩⟩
      obtain ⟨b, _, rfl⟩ := ra
      simp [Builtin.len_, run_underlying hu, goInt]
    · exact h.elim
  · split at h
    · rename_i e hu
      refine ⟨_, h, fun ρ H w ty a ra => ⟨.int .i64 0, ?_, int_rep⟩⟩
      simp only [RepF, RepP] at ra
      subst ra
      simp [Builtin.len_, run_underlying hu, goInt]
    · exact h.elim
  · exact h.elim

theorem kConvert_spec {s d : TypeId} {x : FV} {R : FV → Prop} (h : kConvert P s d x R) :
    ∃ fv, R fv ∧ ∀ (ρ : List Value) (H : PH) (w : World) (a : Value), RepF ρ H x a → ∃ v, (convert s d a).run P w = .ok v w ∧ RepF ρ H fv v := by
  unfold kConvert at h
  split at h
  · split at h
    · rename_i hu
      split at h
      · rename_i k hv
        refine ⟨_, h, fun ρ H w a ra => ⟨_, ?_, int_rep⟩⟩
        rw [rep_int ra]
        simp [convert, run_underlying hu, run_underlying hv, Conv.intToInt]
      · exact h.elim
    · exact h.elim
  · split at h
    · rename_i hu
      split at h
      · rename_i hv
        refine ⟨_, h, fun ρ H w a ra => ⟨_, ?_, str_rep⟩⟩
        rw [rep_str ra]
        simp [convert, run_underlying hu, run_underlying hv]
      · exact h.elim
    · exact h.elim
  · exact h.elim

theorem boundK_spec {E : Env} {g : G} {x : Option Operand} {d : Nat} {R : Nat → Prop} (h : boundK E g x d R) :
    ∃ n, R n ∧ (∀ (ρ : List Value) (H : PH) (eval : Operand → Value), gOn g → (∀ y ∈ x.toArray, RepF ρ H (evF (lookD E) y) (eval y)) → (x = none ∧ n = d) ∨ ∃ y k, x = some y ∧ eval y = .int k n) := by
  unfold boundK at h
  split at h
  · exact ⟨d, h, fun _ _ _ _ _ => .inl ⟨rfl, rfl⟩⟩
  · rename_i y
    obtain ⟨v, h, hs⟩ := evS_spec h
    split at h
    · rename_i k i
      obtain ⟨n, hn, hR⟩ := h
      refine ⟨n, hR, fun ρ H eval hg hy => .inr ⟨y, k, rfl, ?_⟩⟩
      rw [rep_int (hs ρ H _ hg (hy y (by simp))), gI_on hn hg]
    · exact h.elim

theorem run_bounds {isSlice : Bool} {len cap : Nat} {lo hi : Option Operand} {eval : Operand → Value} {a h : Nat} (hlo : (lo = none ∧ a = 0) ∨ ∃ y k, lo = some y ∧ eval y = .int k a)
    (hhi : (hi = none ∧ h = len) ∨ ∃ y k, hi = some y ∧ eval y = .int k h) (h1 : a ≤ h) (h2 : h ≤ cap) :
    (Instr.sliceBounds isSlice len cap (lo.map eval) (hi.map eval) none).run P w = .ok (a, h, cap) w := by
  rcases hlo with ⟨rfl, rfl⟩ | ⟨y, k, rfl, hy⟩ <;> rcases hhi with ⟨rfl, rfl⟩ | ⟨y', k', rfl, hy'⟩ <;>
    simp [Instr.sliceBounds, Instr.sliceBound, asIntOf, *, Int.toNat_natCast]

theorem kSlice_spec {E : Env} {g : G} {t : TypeId} {x : FV} {lo hi mx : Option Operand} {R : FV → Prop} (h : kSlice P E g t x lo hi mx R) :
    ∃ fv, R fv ∧ (∀ (ρ : List Value) (H : PH) (w : World) (eval : Operand → Value) (v : Value), gOn g → RepF ρ H x v → (∀ y ∈ lo.toArray, RepF ρ H (evF (lookD E) y) (eval y)) → (∀ y ∈ hi.toArray, RepF ρ H (evF (lookD E) y) (eval y)) →
      mx = none ∧ ∃ u, (Instr.sliceAt t v (lo.map eval) (hi.map eval) none).run P w = .ok u w ∧ RepF ρ H fv u) := by
  have rowsCase : ∀ (e : TypeId) (i : TypeInfo) (rows : List (List PV)) (a h : Nat), P.underlying t = some (.slice e) → P.info? e = some i → (a ≤ h ∧ h ≤ rows.length ∧ ∀ r ∈ rows, r.length = i.size) →
      ∀ (H : PH) (w : World) (eval : Operand → Value) (v : Value), RepP H (.sl rows) v → ((lo = none ∧ a = 0) ∨ ∃ y k, lo = some y ∧ eval y = .int k a) → ((hi = none ∧ h = rows.length) ∨ ∃ y k, hi = some y ∧ eval y = .int k h) →
      ∃ u, (Instr.sliceAt t v (lo.map eval) (hi.map eval) none).run P w = .ok u w ∧ RepP H (.sl ((rows.take h).drop a)) u := by
    intro e i rows a h hu hi hah H w eval v rv hlo hhi
    obtain ⟨h1, h2, h3⟩ := hah
    simp only [RepP] at rv ⊢
    rcases rv with ⟨rfl, rfl | ⟨a', cap', rfl⟩⟩ | ⟨b, o, z, cap, rfl, hc, rr⟩
    rotate_left
    · have h0 : h = 0 := by simpa using h2
      subst h0
      have ha : a = 0 := by omega
      subst ha
      have := run_bounds (P := P) (w := w) (isSlice := true) (len := 0) (cap := cap') hlo (by simpa using hhi) (Nat.le_refl 0) (Nat.zero_le _)
      by_cases hcap : cap' = 0
      · subst hcap
        refine ⟨.slice (some a') 0 0, ?_, .inl ⟨by simp, .inr ⟨_, _, rfl⟩⟩⟩
        simp [Instr.sliceAt, Instr.slice, run_underlying hu, this, Go.sizeOf, typeInfo, hi]
      · refine ⟨.slice (some (a'.add 0)) 0 cap', ?_, .inl ⟨by simp, .inr ⟨_, _, rfl⟩⟩⟩
        simp [Instr.sliceAt, Instr.slice, run_underlying hu, this, Go.sizeOf, typeInfo, hi, hcap]
    rotate_right
    · have h0 : h = 0 := by simpa using h2
      subst h0
      have ha : a = 0 := by omega
      subst ha
      have := run_bounds (P := P) (w := w) (isSlice := true) (len := 0) (cap := 0) hlo (by simpa using hhi) (Nat.le_refl 0) (Nat.le_refl 0)
      refine ⟨.slice none 0 0, ?_, .inl ⟨by simp, .inl rfl⟩⟩
      simp [Instr.sliceAt, Instr.slice, run_underlying hu, this, Go.sizeOf, typeInfo, hi]
    · have := run_bounds (P := P) (w := w) (isSlice := true) (len := rows.length) (cap := cap) hlo hhi h1 (by omega)
      have hlen : ((rows.take h).drop a).length = h - a := by simp; omega
      by_cases hcap : cap = a
      · have hha : h = a := by omega
        subst hha
        refine ⟨.slice (some ⟨b, o, none⟩) 0 0, ?_, .inr ⟨b, o, z, 0, ?_, ?_, ?_⟩⟩
        · subst hcap
          simp [Instr.sliceAt, Instr.slice, run_underlying hu, this, Go.sizeOf, typeInfo, hi]
        · rw [hlen]; simp
        · rw [hlen]; simp
        · have e0 : (rows.take h).drop h = [] := by
            apply List.eq_nil_of_length_eq_zero
            rw [hlen]
            omega
          rw [e0]
          simp [RepR]
      · refine ⟨.slice (some ⟨b, o + a * i.size, none⟩) (h - a) (cap - a), ?_, .inr ⟨b, o + a * i.size, z, cap - a, by rw [hlen], by rw [hlen]; omega, ?_⟩⟩
        · simp [Instr.sliceAt, Instr.slice, run_underlying hu, this, Go.sizeOf, typeInfo, hi, hcap, Addr.add_lit]
        · have hz : rows = [] ∨ z = i.size := by
            cases rows with
            | nil => exact .inl rfl
            | cons r rs =>
              simp only [RepR] at rr
              exact .inr (by rw [← rr.1]; exact h3 r (by simp))
          rcases hz with hz | hz
          · subst hz; simp [RepR]
          · rw [← hz]; exact (rr.take h).drop a
  unfold kSlice at h
  split at h
  · exact h.elim
  · split at h
    · rename_i l
      split at h
      · rename_i hu
        obtain ⟨hh, h, hb1⟩ := boundK_spec h
        obtain ⟨aa, h, hb2⟩ := boundK_spec h
        refine ⟨_, h.2, fun ρ H w eval v hg rv hlo hhi => ⟨rfl, ?_⟩⟩
        obtain ⟨h1, h2⟩ := gI_on h.1 hg
        rw [rep_str rv]
        have := run_bounds (P := P) (w := w) (isSlice := false) (len := l.length) (cap := l.length) (hb2 ρ H eval hg hlo) (hb1 ρ H eval hg hhi) h1 h2
        refine ⟨.string ⟨((l.take hh).drop aa).toArray⟩, ?_, str_rep⟩
        simp [Instr.sliceAt, Instr.slice, run_underlying hu, size_lit, this, ByteArray.extract_mk, List.drop_take]
      · exact h.elim
    · rename_i rows
      split at h
      · rename_i e hu
        split at h
        · rename_i i hi
          obtain ⟨hh, h, hb1⟩ := boundK_spec h
          obtain ⟨aa, h, hb2⟩ := boundK_spec h
          refine ⟨_, h.2, fun ρ H w eval v hg rv hlo hhi => ⟨rfl, ?_⟩⟩
          exact rowsCase e i rows aa hh hu hi (gI_on h.1 hg) H w eval v rv (hb2 ρ H eval hg hlo) (hb1 ρ H eval hg hhi)
        · exact h.elim
      · exact h.elim
    · rename_i k rows
      split at h
      · rename_i e hu
        split at h
        · rename_i i hi
          obtain ⟨hh, h, hb1⟩ := boundK_spec h
          obtain ⟨aa, h, hb2⟩ := boundK_spec h
          refine ⟨_, h.2, fun ρ H w eval v hg rv hlo hhi => ⟨rfl, ?_⟩⟩
          exact rowsCase e i rows aa hh hu hi (gI_on h.1 hg) H w eval v rv.2 (hb2 ρ H eval hg hlo) (hb1 ρ H eval hg hhi)
        · exact h.elim
      · exact h.elim
    · rename_i k off
      split at h
      · rename_i n e hu
        split at h
        · rename_i i hi
          split at h
          · rename_i hz
            have hz : i.size = 1 := Nat.eq_of_beq_eq_true hz
            obtain ⟨hh, h, hb1⟩ := boundK_spec h
            obtain ⟨aa, h, hb2⟩ := boundK_spec h
            refine ⟨_, h.2, fun ρ H w eval v hg rv hlo hhi => ⟨rfl, ?_⟩⟩
            obtain ⟨h1, h2, h3⟩ := gI_on h.1 hg
            obtain ⟨b, hr, rfl⟩ := rv
            have := run_bounds (P := P) (w := w) (isSlice := false) (len := n) (cap := n) (hb2 ρ H eval hg hlo) (hb1 ρ H eval hg hhi) h1 h2
            have hcap : ¬ n = aa := by omega
            refine ⟨.slice (some ⟨b, off + aa, none⟩) (hh - aa) (n - aa), ?_, b, hr, rfl⟩
            simp [Instr.sliceAt, Instr.sureAddr, run_underlying hu, this, Go.sizeOf, typeInfo, hi, hz, hcap, Addr.add_lit]
          · exact h.elim
        · exact h.elim
      · exact h.elim
    · exact h.elim

theorem cells_of_row {w : World} {b : Nat} {vs : List Value} {t : TypeId} {fr : Nat × Nat} (hg : w.heap[b]? = some (.cells vs.toArray t fr)) (off : Nat) :
    ∀ j v, (vs.drop off)[j]? = some v → w.cell? ⟨b, off + j, none⟩ = some v := fun j v hv => by
  rw [cell_of_row w b (off + j) _ t fr hg]
  rw [List.getElem?_drop] at hv
  simpa using hv

end

end Ax
