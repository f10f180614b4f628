/- A region of operations, in the order of the text or in any order that is left open. -/
import Derived.Test.YtkakmigbbipgoaaDoorAxAppend
namespace Ax
open Go

def upd (e : Nat → FV) (d : Option Tmp) (v : FV) : Nat → FV :=
  match d with
  | none => e
  | some d => fun t => if t = d then v else e t

theorem lookD_cons (d : Tmp) (v : FV) (E : Env) : lookD ((d, v) :: E) = upd (lookD E) (some d) v := by
  funext t
  simp only [lookD, upd]
  by_cases h : t = d
  · subst h; simp [Nat.beq_refl]
  · have : Nat.beq t d = false := by
      cases hb : Nat.beq t d with
      | false => rfl
      | true => exact absurd (Nat.eq_of_beq_eq_true hb) h
    simp [this, h]

def GuardOk (ops : Array Oper) (o : Oper) (e : Nat → FV) (g : G) : Prop :=
  match o.guard with
  | none => g = none
  | some (j, want) => ∃ oj d b, ops[j]? = some oj ∧ oj.dst = some d ∧
      ((e d = .p (.bool b) ∧ g = some (match want with | true => b | false => !b)) ∨
       ∃ g', e d = .opt g' (.p (.bool b)) ∧ g = some (match want with | true => g' && b | false => g' && !b))

def AStep (P : Program) (inl : List Nat) (N : Nat) (ops : Array Oper) (o : Oper) (e : Nat → FV) (lo : List AObj) (e' : Nat → FV) (lo' : List AObj) : Prop :=
  ∃ g fv, GuardOk ops o e g ∧ (∀ d, o.dst = some d → d < N) ∧ e' = upd e o.dst (wrapF g fv) ∧
    ((isEffI inl o.op = true ∧ g = none ∧ StepSem P o e lo none fv lo') ∨
     (isEffI inl o.op = false ∧ isLoad o.op = true ∧ lo' = lo ∧ StepSem P o e lo g fv lo) ∨
     (isEffI inl o.op = false ∧ isLoad o.op = false ∧ lo' = lo ∧ ∀ lo, StepSem P o e lo g fv lo))

theorem isEffI_nil (o : Op) : isEffI [] o = isEff o := by
  unfold isEffI
  split
  · rfl
  · rfl

theorem guardK_spec {ops : List Oper} {o : Oper} {E : Env} {R : G → Prop} (h : guardK ops o E R) : ∃ g, GuardOk ops.toArray o (lookD E) g ∧ R g := by
  unfold guardK at h
  unfold GuardOk
  split at h
  · rename_i hg
    exact ⟨none, by simp [hg], h⟩
  · rename_i j want hg
    obtain ⟨oj, hoj, h⟩ := nthK_spec h
    split at h
    · rename_i d hd
      rw [look_eq] at h
      split at h
      · rename_i b he
        cases want with
        | true => exact ⟨_, by simp only [hg]; exact ⟨oj, d, b, by simpa using hoj, hd, .inl ⟨he, rfl⟩⟩, h⟩
        | false => exact ⟨_, by simp only [hg]; exact ⟨oj, d, b, by simpa using hoj, hd, .inl ⟨he, rfl⟩⟩, h⟩
      · rename_i g' b he
        cases want with
        | true => exact ⟨_, by simp only [hg]; exact ⟨oj, d, b, by simpa using hoj, hd, .inr ⟨g', he, rfl⟩⟩, h⟩
        | false => exact ⟨_, by simp only [hg]; exact ⟨oj, d, b, by simpa using hoj, hd, .inr ⟨g', he, rfl⟩⟩, h⟩
      · exact h.elim
    · exact h.elim

theorem putK_spec {N : Nat} {d : Option Tmp} {v : FV} {E : Env} {R : Env → Prop} (h : putK N d v E R) :
    (∀ t, d = some t → t < N) ∧ ∃ E', lookD E' = upd (lookD E) d v ∧ R E' := by
  unfold putK at h
  split at h
  · rename_i t
    split at h
    · rename_i hb
      rw [forceF_eq] at h
      refine ⟨fun t' ht => ?_, _, lookD_cons t v E, h⟩
      cases ht
      exact Nat.le_of_ble_eq_true hb
    · exact h.elim
  · exact ⟨fun t ht => (by cases ht), E, rfl, h⟩

theorem vcOp_spec {P : Program} {N : Nat} {all : List Oper} {o : Oper} {E : Env} {lo : List AObj} {R : Env → List AObj → Prop} (h : vcOp P N all o E lo R) :
    ∃ E' lo', AStep P [] N all.toArray o (lookD E) lo (lookD E') lo' ∧ R E' lo' := by
  unfold vcOp at h
  unfold AStep
  simp only [isEffI_nil]
  obtain ⟨g, hg, h⟩ := guardK_spec h
  split at h
  · rename_i hl
    have he : isEff o.op = false := by
      cases hop : o.op <;> simp [hop, isLoad] at hl <;> rfl
    split at h
    · rename_i t x ho
      obtain ⟨fv, h, hs⟩ := kLoad_sound ho h
      obtain ⟨hd, E', hE, h⟩ := putK_spec h
      exact ⟨E', lo, ⟨g, fv, hg, hd, hE, .inr (.inl ⟨he, hl, rfl, hs⟩)⟩, h⟩
    · rename_i sr d x ho
      obtain ⟨fv, h, hs⟩ := kConv_sound ho h
      obtain ⟨hd, E', hE, h⟩ := putK_spec h
      exact ⟨E', lo, ⟨g, fv, hg, hd, hE, .inr (.inl ⟨he, hl, rfl, hs⟩)⟩, h⟩
    · exact h.elim
  · rename_i hl
    split at h
    · rename_i he
      split at h
      · obtain ⟨fv, lo', h, hs⟩ := kEff_sound h
        obtain ⟨hd, E', hE, h⟩ := putK_spec h
        exact ⟨E', lo', ⟨none, fv, hg, hd, hE, .inl ⟨he, rfl, hs⟩⟩, h⟩
      · exact h.elim
    · rename_i he
      obtain ⟨fv, h, hs⟩ := kPure_sound h
      obtain ⟨hd, E', hE, h⟩ := putK_spec h
      exact ⟨E', lo, ⟨g, fv, hg, hd, hE, .inr (.inr ⟨he, hl, rfl, hs⟩)⟩, h⟩

section
variable {P : Program} {N : Nat} {ops : Array Oper} {Q : Exit → Act → World → Prop}

theorem getD_of {tmps : Array Value} {d : Nat} {b : Bool} (h : tmps.getD d undef = .bool b) : tmps[d]? = some (.bool b) := by
  rw [Array.getD_eq_getD_getElem?] at h
  cases hx : tmps[d]? with
  | none => simp [hx, undef] at h
  | some v => simp [hx] at h; rw [h]

theorem Sat.put {bs : Base} {ρ ρ' : List Value} {H H' : PH} {e : Nat → FV} {lo lo' : List AObj} {a : Act} {w w' : World} {d : Option Tmp} {v : Value} {fv : FV}
    (s : Sat bs N ρ H e lo a w) (hr : ρ <+: ρ') (hH : PH.le H H') (s' : SatW bs ρ' H' lo' w') (hd : ∀ t, d = some t → t < N) (rv : RepF ρ' H' fv v) :
    Sat bs N ρ' H' (upd e d fv) lo' (a.put d v) w' := by
  refine { s' with slots := fun t => ?_, width := ?_, defers := ?_ }
  · cases d with
    | none => exact (s.slots t).mono hr hH
    | some d =>
      have hlt : d < a.tmps.size := by rw [s.width]; exact hd d rfl
      simp only [upd, Act.put]
      by_cases h : t = d
      · subst h
        simp [Array.getD_eq_getD_getElem?, hlt, rv]
      · simp only [h, if_false]
        have := (s.slots t).mono hr hH
        rwa [show (a.tmps.setIfInBounds d v).getD t undef = a.tmps.getD t undef by
          rw [Array.getD_eq_getD_getElem?, Array.getD_eq_getD_getElem?, Array.getElem?_setIfInBounds_ne (Ne.symm h)]]
  · cases d <;> simp [Act.put, s.width]
  · cases d <;> exact s.defers

theorem wanted_of {o : Oper} {e : Nat → FV} {g : G} {a : Act} (hg : GuardOk ops o e g) {ρ : List Value} {H : PH} (hs : ∀ t, RepF ρ H (e t) (a.tmps.getD t undef)) :
    Region.wanted o (yielded ops a.tmps) = g.getD true := by
  unfold GuardOk at hg
  unfold Region.wanted
  split at hg
  · rename_i h; simp [h, hg]
  · rename_i j want h
    obtain ⟨oj, d, b, hoj, hd, hb⟩ := hg
    simp only [h]
    rcases hb with ⟨he, rfl⟩ | ⟨g', he, rfl⟩
    · have h1 := hs d
      rw [he] at h1
      have h2 := getD_of (rep_bool h1)
      simp only [yielded, hoj, Option.bind_some, hd, h2]
      cases want <;> cases b <;> rfl
    · have h1 := hs d
      rw [he] at h1
      cases g' with
      | true =>
        have h2 := getD_of (rep_bool (ρ := ρ) (H := H) (b := b) (by simpa only [RepF, if_true] using h1))
        simp only [yielded, hoj, Option.bind_some, hd, h2]
        cases want <;> cases b <;> rfl
      | false =>
        have h2 : a.tmps.getD d undef = undef := by simpa [RepF] using h1
        have h3 : ∀ b, a.tmps[d]? ≠ some (.bool b) := fun b hb => by
          rw [Array.getD_eq_getD_getElem?, hb] at h2
          simp [undef] at h2
        have h4 : yielded ops a.tmps j = none := by
          simp only [yielded, hoj, Option.bind_some, hd]
          try (split <;> first | rfl | exact absurd (by assumption) (h3 _))
        rw [h4]
        cases want <;> rfl

theorem AStep.wp {bs : Base} {ρ : List Value} {H : PH} {o : Oper} {e e' : Nat → FV} {lo lo' : List AObj} {a : Act} {w : World} {K : Act → World → Prop} {i : Nat} (ho : ops[i]? = some o)
    {inl : List Nat} (st : AStep P inl N ops o e lo e' lo') (s : Sat bs N ρ H e lo a w) (hK : ∀ ρ' H' a' w', Sat bs N ρ' H' e' lo' a' w' → K a' w') : wpOp P ops Q i K a w := by
  obtain ⟨g, fv, hg, hd, rfl, hs⟩ := st
  unfold wpOp
  simp only [ho]
  rw [wanted_of hg s.slots]
  have sem : gOn g → UponA P bs ρ H fv lo' ((execOp a.eval o).run P w) := by
    intro hon
    have hx := fun x (_ : x ∈ o.op.operands) => evF_rep s.slots x
    rcases hs with ⟨_, rfl, hs⟩ | ⟨_, _, rfl, hs⟩ | ⟨_, _, rfl, hs⟩
    · exact hs hon bs ρ H w a.eval s.toSatW hx
    · exact hs hon bs ρ H w a.eval s.toSatW hx
    · exact hs _ hon bs ρ H w a.eval s.toSatW hx
  have run : ∀ fv', (∀ ρ' H' v, RepF ρ' H' fv v → RepF ρ' H' fv' v) → (∀ ρ' H' a' w', Sat bs N ρ' H' (upd e o.dst fv') lo' a' w' → K a' w') → gOn g → o.wp P a w K Q := by
    intro fv' hf hK' hon
    have h := sem hon
    have fin : ∀ v w', After bs ρ H fv lo' v w' → K (a.put o.dst v) w' := fun v w' ⟨ρ', H', h1, h2, h3, h4⟩ => hK' _ _ _ _ (s.put h1 h2 h3 hd (hf _ _ _ h4))
    unfold Oper.wp
    generalize (execOp a.eval o).run P w = r at *
    cases r with
    | ok n w' =>
      cases n <;> simp only [UponA] at h <;> simp only [Oper.upon]
      case value v => exact fin v w' h
      case skip => exact fin undef w' h
      case enter f args => exact h.mono fun en w'' ⟨v, e1, h1⟩ => by subst e1; exact fin v w'' h1
    | halt x w' => simp only [UponA] at h
  cases g with
  | none => exact .inl (run fv (fun _ _ _ h => h) hK trivial)
  | some b =>
    cases b with
    | true => exact .inl (run _ (fun _ _ _ h => by simpa [wrapF, RepF] using h) hK rfl)
    | false =>
      have hlo : lo' = lo := by
        rcases hs with ⟨_, h, _⟩ | ⟨_, _, h, _⟩ | ⟨_, _, h, _⟩
        · cases h
        · exact h
        · exact h
      subst hlo
      exact hK _ _ _ _ (s.put (List.prefix_refl _) (PH.le.refl H) s.toSatW hd (by simp [wrapF, RepF]))

/-! ### The order of the text -/
theorem vcOps_sound {bs : Base} {all : List Oper} {K : Env → List AObj → Prop} (hQ : ∀ ρ H E lo a w, Sat bs N ρ H (lookD E) lo a w → K E lo → Q .normal a w) :
    ∀ (l : List Oper) (k : Nat), (∀ j, l[j]? = all[k + j]?) → ∀ (ρ : List Value) (H : PH) (E : Env) (lo : List AObj) (a : Act) (w : World), Sat bs N ρ H (lookD E) lo a w → vcOps P N all K l E lo →
      wpOps P all.toArray Q (List.range' k l.length) a w
  | [], k, _, ρ, H, E, lo, a, w, s, h => by
    simp only [List.length_nil, List.range'_zero, wpOps]
    exact hQ ρ H E lo a w s h
  | o :: l, k, hl, ρ, H, E, lo, a, w, s, h => by
    obtain ⟨E', lo', st, h⟩ := vcOp_spec h
    rw [List.length_cons, List.range'_succ, wpOps_cons]
    refine st.wp (by have := hl 0; simpa using this.symm) s fun ρ' H' a' w' s' => ?_
    exact vcOps_sound hQ l (k + 1) (fun j => by have := hl (j + 1); simpa [Nat.add_assoc, Nat.add_comm 1 j] using this) ρ' H' E' lo' a' w' s' h

theorem vcRegion_text {bs : Base} {ρ : List Value} {H : PH} {E : Env} {lo : List AObj} {a : Act} {w : World} {K : Env → List AObj → Prop} {id : Nat} {l : List Oper}
    (hQ : ∀ ρ H E lo a w, Sat bs N ρ H (lookD E) lo a w → K E lo → Q .normal a w) (s : Sat bs N ρ H (lookD E) lo a w) (h : vcOps P N l K l E lo) : (Code.region id l.toArray false).wp P Q a w := by
  refine wp_region ?_
  have := vcOps_sound (P := P) hQ l 0 (by simp) ρ H E lo a w s h
  simpa [List.range_eq_range'] using this

/-! ### Calls that are gone into: the callee shares the objects -/
/-- A call whose arguments may name objects: what is asked of whatever it answers and leaves. -/
def CallsI (P : Program) (f : FuncId) (args : List FV) (lo : List AObj) (R : FV → List AObj → Prop) : Prop :=
  ∀ (bs : Base) (ρ : List Value) (H : PH) (w : World) (vs : List Value), SatW bs ρ H lo w → RepFL ρ H args vs →
    match (callFunc f vs.toArray).run P w with
    | .ok (.value v) w' => ∃ r lo', After bs ρ H r lo' v w' ∧ R r lo'
    | .ok (.enter f' args') w' => w' = w ∧ Calls P f' args' w fun en w'' => ∃ v r lo', en = .returned v ∧ After bs ρ H r lo' v w'' ∧ R r lo'
    | _ => False

theorem CallsI.mono {f : FuncId} {args : List FV} {lo : List AObj} {R R' : FV → List AObj → Prop} (h : CallsI P f args lo R) (hr : ∀ r lo, R r lo → R' r lo) : CallsI P f args lo R' := by
  intro bs ρ H w vs s rl
  have := h bs ρ H w vs s rl
  generalize (callFunc f vs.toArray).run P w = x at *
  cases x with
  | ok n w' =>
    cases n <;> simp only at this ⊢ <;> try exact this
    · obtain ⟨r, lo', a, k⟩ := this; exact ⟨r, lo', a, hr _ _ k⟩
    · exact ⟨this.1, this.2.mono fun en w'' ⟨v, r, lo', e, a, k⟩ => ⟨v, r, lo', e, a, hr _ _ k⟩⟩
  | halt x w' => exact this

/-- Where a cell holds its box's own address, or none yet: both are gone through. -/
def bselfK (v : FV) (lo : List AObj) (no : Prop) (R : List AObj → Prop) : Prop :=
  match v with
  | .ptr k off => nthK k lo fun o => match o with
    | .box T cells => dropK off cells fun cs => match cs with
      | .bself j :: _ => (overK off [.p .nilp] cells fun cells' => setK k (.box T cells') lo R) ∧ (overK off [.ptr j 0] cells fun cells' => setK k (.box T cells') lo R)
      | _ => no
    | _ => no
  | _ => no

theorem RepFL.over {ρ : List Value} {H : PH} : ∀ {cs : List FV} {vs : List Value} {off : Nat} {c : FV} {v : Value}, RepFL ρ H cs vs → vs[off]? = some v → RepF ρ H c v →
    RepFL ρ H (cs.take off ++ [c] ++ cs.drop (off + 1)) vs
  | [], vs, off, c, v, h, hv, r => by simp only [RepFL] at h; subst h; simp at hv
  | d :: cs, vs, 0, c, v, h, hv, r => by
    obtain ⟨u, vs', rfl, _, rs⟩ := h
    simp only [List.getElem?_cons_zero, Option.some.injEq] at hv
    subst hv
    simpa using ⟨u, vs', rfl, r, rs⟩
  | d :: cs, vs, off + 1, c, v, h, hv, r => by
    obtain ⟨u, vs', rfl, r1, rs⟩ := h
    have := rs.over (off := off) (c := c) (v := v) (by simpa using hv) r
    have e : (d :: cs).drop (off + 1 + 1) = cs.drop (off + 1) := rfl
    rw [List.take_succ_cons, e, List.cons_append, List.cons_append]
    exact ⟨u, vs', rfl, r1, this⟩

theorem SatW.rebox {bs : Base} {ρ : List Value} {H : PH} {lo : List AObj} {w : World} {k : Nat} {T : TypeId} {cells cells' : List FV} (s : SatW bs ρ H lo w) (hk : lo[k]? = some (.box T cells))
    (h : ∀ vs, RepFL ρ H cells vs → ρ[k]? ≠ none → (∃ b, ρ[k]? = some (.pointer (some ⟨b, 0, none⟩)) ∧ w.heap[b]? = some (.cells vs.toArray T (0, 0))) → RepFL ρ H cells' vs) : SatW bs ρ H (lo.set k (.box T cells')) w where
  sath := s.sath
  hlen := by simpa using s.hlen
  pre := s.pre
  objs := fun i o v hi hv => by
    rw [List.getElem?_set] at hi
    split at hi
    · rename_i e
      subst e
      split at hi
      · cases hi
        obtain ⟨b, vs, rfl, hg, hc, hH⟩ := s.objs _ _ _ hk hv
        exact ⟨b, vs, rfl, hg, h vs hc (by rw [hv]; simp) ⟨b, hv, hg⟩, hH⟩
      · cases hi
    · exact s.objs i o v hi hv
  excl := fun i j o o' v v' b hi hj hv hv' hne hl hl' hb => by
    have key : ∀ {i : Nat} {o : AObj}, (lo.set k (.box T cells'))[i]? = some o → o.live = true → ∃ o2, lo[i]? = some o2 ∧ o2.live = true := by
      intro i o hi hl
      rw [List.getElem?_set] at hi
      split at hi
      · rename_i e; subst e; exact ⟨_, hk, rfl⟩
      · exact ⟨o, hi, hl⟩
    obtain ⟨o2, h2, l2⟩ := key hi hl
    obtain ⟨o3, h3, l3⟩ := key hj hl'
    exact s.excl i j o2 o3 v v' b h2 h3 hv hv' hne l2 l3 hb
  own := fun i o v b hi hv hl hb => by
    rw [List.getElem?_set] at hi
    split at hi
    · rename_i e; subst e; exact s.own _ _ v b hk hv rfl hb
    · exact s.own i o v b hi hv hl hb
  keep := s.keep
  leH := s.leH
  newH := s.newH

theorem bselfK_spec {bs : Base} {ρ : List Value} {H : PH} {e : Nat → FV} {lo : List AObj} {a : Act} {w : World} {v : FV} {no : Prop} {R : List AObj → Prop} (h : bselfK v lo no R) (s : Sat bs N ρ H e lo a w) :
    no ∨ ∃ lo', R lo' ∧ Sat bs N ρ H e lo' a w := by
  unfold bselfK at h
  split at h
  · rename_i k off
    obtain ⟨o, ho, h⟩ := nthK_spec h
    split at h
    · rename_i T cells
      obtain ⟨h, hoff⟩ := dropK_spec h
      split at h
      · rename_i j cs hcs
        have hc : cells[off]? = some (.bself j) := by
          have := congrArg (fun l => l[0]?) hcs
          simpa using this
        obtain ⟨h1, h2⟩ := h
        obtain ⟨h1, _⟩ := overK_spec h1
        obtain ⟨h2, _⟩ := overK_spec h2
        obtain ⟨h1, _⟩ := setK_spec h1
        obtain ⟨h2, _⟩ := setK_spec h2
        right
        have hklt : k < ρ.length := by rw [s.hlen]; exact (List.getElem?_eq_some_iff.1 ho).1
        obtain ⟨b, vs, ek, hg, hrep, _⟩ := s.objs k _ _ ho (List.getElem?_eq_getElem hklt)
        have get : ∀ {cs : List FV} {vs : List Value} {i : Nat} {c : FV}, RepFL ρ H cs vs → cs[i]? = some c → ∃ v, vs[i]? = some v ∧ RepF ρ H c v := by
          intro cs
          induction cs with
          | nil => intro vs i c _ h; simp at h
          | cons d cs ih =>
            intro vs i c x h
            obtain ⟨v, vs', rfl, r, rs⟩ := x
            cases i with
            | zero => simp at h; subst h; exact ⟨v, by simp, r⟩
            | succ i => simp at h; obtain ⟨u, hu, ru⟩ := ih rs h; exact ⟨u, by simpa using hu, ru⟩
        obtain ⟨x, hx, b', hj, hx2⟩ := get hrep hc
        have uniq : ∀ vs2, (∃ b, ρ[k]? = some (.pointer (some ⟨b, 0, none⟩)) ∧ w.heap[b]? = some (.cells vs2.toArray T (0, 0))) → vs2 = vs := by
          rintro vs2 ⟨b2, e2, hg2⟩
          rw [List.getElem?_eq_getElem hklt, ek] at e2
          cases e2
          rw [hg] at hg2
          have := congrArg Array.toList (Obj.cells.inj (Option.some.inj hg2)).1
          simpa using this.symm
        rcases hx2 with rfl | rfl
        · refine ⟨_, h1, { (s.toSatW.rebox (cells' := cells.take off ++ [.p .nilp] ++ cells.drop (off + 1)) ho fun vs2 r _ hw => ?_) with slots := s.slots, width := s.width, defers := s.defers }⟩
          have := uniq vs2 hw
          subst this
          exact r.over hx (by simp [RepF, RepP])
        · refine ⟨_, h2, { (s.toSatW.rebox (cells' := cells.take off ++ [.ptr j 0] ++ cells.drop (off + 1)) ho fun vs2 r _ hw => ?_) with slots := s.slots, width := s.width, defers := s.defers }⟩
          have := uniq vs2 hw
          subst this
          exact r.over hx ⟨b', hj, rfl⟩
      · exact .inl h
    · exact .inl h
  · exact .inl h

def vcOpS (P : Program) (inl : List Nat) (N : Nat) (all : List Oper) (o : Oper) (E : Env) (lo : List AObj) (R : Env → List AObj → Prop) : Prop :=
  match o.op with
  | .call { callee := .value (.func f), args := ⟨xs⟩, argTypes := _ } => match memB inl f with
    | true => match o.guard with
      | none => evL E none xs fun vs => CallsI P f vs lo fun r lo => putK N o.dst r E fun E => R E lo
      | some _ => False
    | false => vcOp P N all o E lo R
  | .load _ x => ev E x fun v => bselfK v lo (vcOp P N all o E lo R) (fun lo' => vcOp P N all o E lo' R)
  | _ => vcOp P N all o E lo R

def vcOpsS (P : Program) (inl : List Nat) (N : Nat) (all : List Oper) (K : Env → List AObj → Prop) : List Oper → Env → List AObj → Prop
  | [], E, lo => K E lo
  | o :: rest, E, lo => vcOpS P inl N all o E lo (vcOpsS P inl N all K rest)

theorem vcOpS_sound {bs : Base} {all : List Oper} {inl : List Nat} {o : Oper} {i : Nat} (ho : all[i]? = some o) {ρ : List Value} {H : PH} {E : Env} {lo : List AObj} {a : Act} {w : World} {R : Env → List AObj → Prop} {K : Act → World → Prop}
    (s : Sat bs N ρ H (lookD E) lo a w) (h : vcOpS P inl N all o E lo R) (hK : ∀ E' lo' ρ' H' a' w', R E' lo' → Sat bs N ρ' H' (lookD E') lo' a' w' → K a' w') : wpOp P all.toArray Q i K a w := by
  have plain : ∀ lo, Sat bs N ρ H (lookD E) lo a w → vcOp P N all o E lo R → wpOp P all.toArray Q i K a w := by
    intro lo s h
    obtain ⟨E', lo', st, h⟩ := vcOp_spec h
    exact st.wp (by simpa using ho) s fun ρ' H' a' w' s' => hK E' lo' ρ' H' a' w' h s'
  unfold vcOpS at h
  split at h
  · rename_i f xs ts hop
    split at h
    · rename_i hm
      split at h
      · rename_i hg
        obtain ⟨vs, h, hvs⟩ := evL_spec h
        have rl := hvs ρ H a.eval trivial (fun x _ => evF_rep s.slots x)
        have := h bs ρ H w _ s.toSatW rl
        have hf : a.eval (.func f) = .func (.func f) #[] #[] := rfl
        have fin : ∀ v w', (∃ r lo', After bs ρ H r lo' v w' ∧ putK N o.dst r E fun E => R E lo') → K (a.put o.dst v) w' := by
          rintro v w' ⟨r, lo', ⟨ρ', H', h1, h2, h3, h4⟩, hp⟩
          obtain ⟨hd, E', hE, hR⟩ := putK_spec hp
          exact hK E' lo' ρ' H' _ w' hR (by rw [hE]; exact s.put h1 h2 h3 hd h4)
        unfold wpOp
        have ho' : all.toArray[i]? = some o := by simpa using ho
        simp only [ho', Region.wanted, hg, if_true]
        refine .inl ?_
        unfold Oper.wp
        simp only [execOp, hop, resolve, Deferred.ofValue, invoke, hf, Sem.run_bind, Sem.run_pure, Result.andThen_ok, List.map_toArray, Array.empty_append, Array.append_empty]
        generalize (callFunc f (List.map a.eval xs).toArray).run P w = x at *
        cases x with
        | ok n w' =>
          cases n <;> simp only at this <;> simp only [Oper.upon]
          case value v => exact fin v w' this
          case enter f' args' =>
            obtain ⟨rfl, hc⟩ := this
            exact hc.mono fun en w'' ⟨v, r, lo', e, af, k⟩ => by subst e; exact fin v w'' ⟨r, lo', af, k⟩
          all_goals exact this.elim
        | halt x w' => exact this.elim
      · exact h.elim
    · exact plain lo s h
  · rename_i t x hop
    rw [ev_eq] at h
    rcases bselfK_spec h s with h | ⟨lo', h, s'⟩
    · exact plain lo s h
    · exact plain lo' s' h
  · exact plain lo s h

theorem vcOpsS_sound {bs : Base} {all : List Oper} {inl : List Nat} {K : Env → List AObj → Prop} (hQ : ∀ ρ H E lo a w, Sat bs N ρ H (lookD E) lo a w → K E lo → Q .normal a w) :
    ∀ (l : List Oper) (k : Nat), (∀ j, l[j]? = all[k + j]?) → ∀ (ρ : List Value) (H : PH) (E : Env) (lo : List AObj) (a : Act) (w : World), Sat bs N ρ H (lookD E) lo a w → vcOpsS P inl N all K l E lo →
      wpOps P all.toArray Q (List.range' k l.length) a w
  | [], k, _, ρ, H, E, lo, a, w, s, h => by
    simp only [List.length_nil, List.range'_zero, wpOps]
    exact hQ ρ H E lo a w s h
  | o :: l, k, hl, ρ, H, E, lo, a, w, s, h => by
    rw [List.length_cons, List.range'_succ, wpOps_cons]
    refine vcOpS_sound (by have := hl 0; simpa using this.symm) s h fun E' lo' ρ' H' a' w' hr s' => ?_
    exact vcOpsS_sound hQ l (k + 1) (fun j => by have := hl (j + 1); simpa [Nat.add_assoc, Nat.add_comm 1 j] using this) ρ' H' E' lo' a' w' s' hr

theorem vcRegion_textS {bs : Base} {ρ : List Value} {H : PH} {E : Env} {lo : List AObj} {a : Act} {w : World} {K : Env → List AObj → Prop} {inl : List Nat} {id : Nat} {l : List Oper}
    (hQ : ∀ ρ H E lo a w, Sat bs N ρ H (lookD E) lo a w → K E lo → Q .normal a w) (s : Sat bs N ρ H (lookD E) lo a w) (h : vcOpsS P inl N l K l E lo) : (Code.region id l.toArray false).wp P Q a w := by
  refine wp_region ?_
  have := vcOpsS_sound (P := P) hQ l 0 (by simp) ρ H E lo a w s h
  simpa [List.range_eq_range'] using this

/-! ### Any order -/
def AAny (P : Program) (inl : List Nat) (N : Nat) (ops : Array Oper) (K : (Nat → FV) → List AObj → Prop) : Nat → Array Bool → (Nat → FV) → List AObj → Prop
  | 0, listed, e, lo => Region.ready .any ops listed = [] ∧ K e lo
  | fuel + 1, listed, e, lo => (Region.ready .any ops listed = [] → K e lo) ∧
      ∀ i ∈ Region.ready .any ops listed, ∃ o e' lo', ops[i]? = some o ∧ AStep P inl N ops o e lo e' lo' ∧ AAny P inl N ops K fuel (listed.setIfInBounds i true) e' lo'

theorem wpAny_of_AAny {inl : List Nat} {bs : Base} {K : (Nat → FV) → List AObj → Prop} (hQ : ∀ ρ H e lo a w, Sat bs N ρ H e lo a w → K e lo → Q .normal a w) :
    ∀ (fuel : Nat) (listed : Array Bool) (ρ : List Value) (H : PH) (e : Nat → FV) (lo : List AObj) (a : Act) (w : World), Sat bs N ρ H e lo a w → AAny P inl N ops K fuel listed e lo → wpAny P .any ops Q fuel listed a w
  | 0, _, ρ, H, e, lo, a, w, s, h => ⟨h.1, hQ ρ H e lo a w s h.2⟩
  | fuel + 1, listed, ρ, H, e, lo, a, w, s, h => ⟨fun h0 => hQ ρ H e lo a w s (h.1 h0), fun i hi => by
    obtain ⟨o, e', lo', ho, st, h'⟩ := h.2 i hi
    exact st.wp ho s fun ρ' H' a' w' s' => wpAny_of_AAny hQ fuel _ ρ' H' e' lo' a' w' s' h'⟩

theorem StepSem.congr {o : Oper} {e e' : Nat → FV} {lo lo' : List AObj} {g : G} {fv : FV} (h : StepSem P o e lo g fv lo') (he : ∀ x ∈ o.op.operands, evF e' x = evF e x) : StepSem P o e' lo g fv lo' :=
  fun hg bs ρ H w eval s hx => h hg bs ρ H w eval s fun x hm => by rw [← he x hm]; exact hx x hm

theorem evF_upd {e : Nat → FV} {d : Option Tmp} {v : FV} {o : Oper} (h : ∀ t, d = some t → t ∉ o.looksAt ops) : ∀ x ∈ o.op.operands, evF (upd e d v) x = evF e x := by
  intro x hx
  cases d with
  | none => rfl
  | some d =>
    cases x with
    | tmp t =>
      have : t ≠ d := fun e1 => by
        subst e1
        exact h t rfl (List.mem_append_left _ (List.mem_filterMap.2 ⟨.tmp t, by simpa using hx, rfl⟩))
      simp [evF, upd, this]
    | _ => rfl

theorem guard_upd {e : Nat → FV} {d : Option Tmp} {v : FV} {o : Oper} {g : G} (h : ∀ t, d = some t → t ∉ o.looksAt ops) : GuardOk ops o (upd e d v) g ↔ GuardOk ops o e g := by
  unfold GuardOk
  split
  · exact Iff.rfl
  · rename_i j want hg
    have key : ∀ oj d', ops[j]? = some oj → oj.dst = some d' → upd e d v d' = e d' := by
      intro oj d' hoj hd'
      cases d with
      | none => rfl
      | some d =>
        have : d' ≠ d := fun e1 => by
          subst e1
          refine h d' rfl (List.mem_append_right _ ?_)
          simp [hg, hoj, hd']
        simp [upd, this]
    constructor
    · rintro ⟨oj, d', b, hoj, hd', hb⟩
      rw [key oj d' hoj hd'] at hb
      exact ⟨oj, d', b, hoj, hd', hb⟩
    · rintro ⟨oj, d', b, hoj, hd', hb⟩
      refine ⟨oj, d', b, hoj, hd', ?_⟩
      rw [key oj d' hoj hd']
      exact hb

theorem upd_comm {e : Nat → FV} {d d' : Option Tmp} {v v' : FV} (h : ∀ t, d = some t → d' ≠ some t) : upd (upd e d v) d' v' = upd (upd e d' v') d v := by
  cases d with
  | none => rfl
  | some d =>
    cases d' with
    | none => rfl
    | some d' =>
      have hne : d' ≠ d := fun e1 => h d rfl (by rw [e1])
      funext t
      simp only [upd]
      by_cases h1 : t = d'
      · have h2 : t ≠ d := fun h2 => hne (by rw [← h1, ← h2])
        simp [h1, hne]
      · by_cases h2 : t = d
        · have : ¬ d = d' := fun h3 => hne h3.symm
          simp [h2, this]
        · simp [h1, h2]

def effApart (inl : List Nat) (oi oj : Oper) : Bool := (!isEffI inl oi.op || !(isEffI inl oj.op || isLoad oj.op)) && (!isEffI inl oj.op || !(isEffI inl oi.op || isLoad oi.op))

theorem AStep.swap {inl : List Nat} {oi oj : Oper} {e e1 e2 : Nat → FV} {lo lo1 lo2 : List AObj} (hap : oi.apart ops oj = true) (hef : effApart inl oi oj = true)
    (hi : AStep P inl N ops oi e lo e1 lo1) (hj : AStep P inl N ops oj e1 lo1 e2 lo2) : ∃ e1' lo1', AStep P inl N ops oj e lo e1' lo1' ∧ AStep P inl N ops oi e1' lo1' e2 lo2 := by
  obtain ⟨a1, a2, a3⟩ := Oper.apart_spec hap
  obtain ⟨gi, fi, gki, di, rfl, si⟩ := hi
  obtain ⟨gj, fj, gkj, dj, rfl, sj⟩ := hj
  have gj' := (guard_upd a1).1 gkj
  have gi' : GuardOk ops oi (upd e oj.dst (wrapF gj fj)) gi := (guard_upd a3).2 gki
  have ci : ∀ x ∈ oi.op.operands, evF (upd e oj.dst (wrapF gj fj)) x = evF e x := evF_upd a3
  have cj : ∀ x ∈ oj.op.operands, evF e x = evF (upd e oi.dst (wrapF gi fi)) x := fun x hx => (evF_upd a1 x hx).symm
  have hcomm : upd (upd e oi.dst (wrapF gi fi)) oj.dst (wrapF gj fj) = upd (upd e oj.dst (wrapF gj fj)) oi.dst (wrapF gi fi) := upd_comm a2
  simp only [effApart, Bool.and_eq_true, Bool.or_eq_true, Bool.not_eq_true'] at hef
  rcases si with ⟨ei, rfl, hi⟩ | ⟨ei, li, rfl, hi⟩ | ⟨ei, li, rfl, hi⟩
  · rcases sj with ⟨ej, rfl, hj⟩ | ⟨ej, lj, rfl, hj⟩ | ⟨ej, lj, rfl, hj⟩
    · simp [ei, ej] at hef
    · simp [ei, ej, lj] at hef
    · exact ⟨_, lo, ⟨gj, fj, gj', dj, rfl, .inr (.inr ⟨ej, lj, rfl, fun lo => (hj lo).congr cj⟩)⟩, ⟨_, fi, gi', di, hcomm, .inl ⟨ei, rfl, hi.congr ci⟩⟩⟩
  · rcases sj with ⟨ej, rfl, hj⟩ | ⟨ej, lj, rfl, hj⟩ | ⟨ej, lj, rfl, hj⟩
    · simp [ei, ej, li] at hef
    · exact ⟨_, _, ⟨gj, fj, gj', dj, rfl, .inr (.inl ⟨ej, lj, rfl, hj.congr cj⟩)⟩, ⟨gi, fi, gi', di, hcomm, .inr (.inl ⟨ei, li, rfl, hi.congr ci⟩)⟩⟩
    · exact ⟨_, _, ⟨gj, fj, gj', dj, rfl, .inr (.inr ⟨ej, lj, rfl, fun lo => (hj lo).congr cj⟩)⟩, ⟨gi, fi, gi', di, hcomm, .inr (.inl ⟨ei, li, rfl, hi.congr ci⟩)⟩⟩
  · rcases sj with ⟨ej, rfl, hj⟩ | ⟨ej, lj, rfl, hj⟩ | ⟨ej, lj, rfl, hj⟩
    · exact ⟨_, lo2, ⟨_, fj, gj', dj, rfl, .inl ⟨ej, rfl, hj.congr cj⟩⟩, ⟨gi, fi, gi', di, hcomm, .inr (.inr ⟨ei, li, rfl, fun lo => (hi lo).congr ci⟩)⟩⟩
    · exact ⟨_, _, ⟨gj, fj, gj', dj, rfl, .inr (.inl ⟨ej, lj, rfl, hj.congr cj⟩)⟩, ⟨gi, fi, gi', di, hcomm, .inr (.inr ⟨ei, li, rfl, fun lo => (hi lo).congr ci⟩)⟩⟩
    · exact ⟨_, _, ⟨gj, fj, gj', dj, rfl, .inr (.inr ⟨ej, lj, rfl, fun lo => (hj lo).congr cj⟩)⟩, ⟨gi, fi, gi', di, hcomm, .inr (.inr ⟨ei, li, rfl, fun lo => (hi lo).congr ci⟩)⟩⟩

theorem AAny_first {inl : List Nat} {K : (Nat → FV) → List AObj → Prop} {i : Nat} {oi : Oper} (hi : ops[i]? = some oi) :
    ∀ (fuel : Nat) (listed : Array Bool) (e e1 : Nat → FV) (lo lo1 : List AObj),
      (∀ j oj, ops[j]? = some oj → j ≠ i → listed.getD j true = false → (∀ x ∈ oj.after, Region.binds .any x = true → x.on ≠ i) → oi.apart ops oj = true ∧ effApart inl oi oj = true) →
      i ∈ Region.ready .any ops listed → AStep P inl N ops oi e lo e1 lo1 →
      AAny P inl N ops K fuel (listed.setIfInBounds i true) e1 lo1 → AAny P inl N ops K (fuel + 1) listed e lo := by
  intro fuel
  induction fuel with
  | zero =>
    intro listed e e1 lo lo1 _ hr st H
    refine ⟨fun h => (by rw [h] at hr; cases hr), fun j hj => ?_⟩
    by_cases hji : j = i
    · subst hji; exact ⟨oi, e1, lo1, hi, st, H⟩
    · have := ready_mono hj hji
      rw [H.1] at this
      cases this
  | succ fuel ih =>
    intro listed e e1 lo lo1 hfree hr st H
    refine ⟨fun h => (by rw [h] at hr; cases hr), fun j hj => ?_⟩
    by_cases hji : j = i
    · subst hji; exact ⟨oi, e1, lo1, hi, st, H⟩
    · obtain ⟨oj, e2, lo2, hoj, stj, h1⟩ := H.2 j (ready_mono hj hji)
      obtain ⟨hjun, oj', hoj', hall⟩ := mem_ready.1 hj
      have : oj' = oj := Option.some.inj (hoj'.symm.trans hoj)
      subst this
      have hnot : ∀ x ∈ oj'.after, Region.binds .any x = true → x.on ≠ i := fun x he hb heq => by
        have h1 := hall x he hb
        have h0 := (mem_ready.1 hr).1
        rw [heq] at h1
        rcases Nat.lt_or_ge i listed.size with h' | h'
        · simp [h'] at h0 h1; rw [h0] at h1; cases h1
        · simp [Array.getElem?_eq_none h'] at h1
      obtain ⟨hap, hef⟩ := hfree j oj' hoj hji hjun hnot
      obtain ⟨e1', lo1', stj', sti'⟩ := AStep.swap hap hef st stj
      refine ⟨oj', e1', lo1', hoj, stj', ih (listed.setIfInBounds j true) e1' e2 lo1' lo2 (fun k ok hk hki hun hno => ?_) (ready_mono hr (Ne.symm hji)) sti' ?_⟩
      · refine hfree k ok hk hki ?_ hno
        by_cases hjk : j = k
        · subst hjk; exact hjun
        · rw [getD_set_ne true hjk] at hun; exact hun
      · rw [Array.setIfInBounds_comm _ _ hji]
        exact h1

theorem effFree_spec {inl : List Nat} {listed : Array Bool} {i : Nat} {oi : Oper} (hi : ops[i]? = some oi) (h : Region.effFree inl ops listed i = true) (j : Nat) (oj : Oper) (hj : ops[j]? = some oj) (hne : j ≠ i)
    (hun : listed.getD j true = false) (hno : ∀ x ∈ oj.after, Region.binds .any x = true → x.on ≠ i) : effApart inl oi oj = true := by
  simp only [Region.effFree, hi, List.all_eq_true, List.mem_range] at h
  have h1 := h j (Array.getElem?_eq_some_iff.1 hj).1
  simp only [hj, Bool.or_eq_true, beq_iff_eq, hne, false_or, hun, Bool.false_eq_true] at h1
  rcases h1 with h1 | h1
  · obtain ⟨x, hx, hb⟩ := Array.any_eq_true'.1 h1
    simp only [Bool.and_eq_true, beq_iff_eq] at hb
    exact absurd hb.2 (hno x hx hb.1)
  · exact h1

/-- In a region that draws its order a call that shares objects has one outcome. -/
def vcOpI (P : Program) (inl : List Nat) (N : Nat) (all : List Oper) (o : Oper) (E : Env) (lo : List AObj) (R : Env → List AObj → Prop) : Prop :=
  match o.op with
  | .call { callee := .value (.func f), args := ⟨xs⟩, argTypes := _ } => match memB inl f with
    | true => match o.guard with
      | none => evL E none xs fun vs => ∃ r lo', CallsI P f vs lo (fun a b => a = r ∧ b = lo') ∧ putK N o.dst r E fun E => R E lo'
      | some _ => False
    | false => vcOp P N all o E lo R
  | _ => vcOp P N all o E lo R

def vcOpsI (P : Program) (inl : List Nat) (N : Nat) (all : List Oper) (K : Env → List AObj → Prop) : List Oper → Env → List AObj → Prop
  | [], E, lo => K E lo
  | o :: rest, E, lo => vcOpI P inl N all o E lo (vcOpsI P inl N all K rest)

theorem vcOpI_spec {inl : List Nat} {all : List Oper} {o : Oper} {E : Env} {lo : List AObj} {R : Env → List AObj → Prop} (h : vcOpI P inl N all o E lo R) :
    ∃ E' lo', AStep P inl N all.toArray o (lookD E) lo (lookD E') lo' ∧ R E' lo' := by
  have plain : isEffI inl o.op = isEff o.op → vcOp P N all o E lo R → ∃ E' lo', AStep P inl N all.toArray o (lookD E) lo (lookD E') lo' ∧ R E' lo' := by
    intro e h
    obtain ⟨E', lo', st, h⟩ := vcOp_spec h
    refine ⟨E', lo', ?_, h⟩
    unfold AStep at st ⊢
    simp only [isEffI_nil] at st
    simp only [e]
    exact st
  unfold vcOpI at h
  split at h
  · rename_i f xs ts hop
    split at h
    · rename_i hm
      split at h
      · rename_i hg
        obtain ⟨vs, h, hvs⟩ := evL_spec h
        obtain ⟨r, lo', hc, h⟩ := h
        obtain ⟨hd, E', hE, h⟩ := putK_spec h
        refine ⟨E', lo', ⟨none, r, by simp [GuardOk, hg], hd, hE, .inl ⟨by simp [isEffI, hop, hm], rfl, ?_⟩⟩, h⟩
        intro _ bs ρ H w eval s hx
        have rl := hvs ρ H eval trivial (fun x hm' => hx x (by rw [hop]; simp [Op.operands, Call.operands, hm']))
        have := hc bs ρ H w _ s rl
        have hf : eval (.func f) = .func (.func f) #[] #[] := by
          have := hx (.func f) (by rw [hop]; simp [Op.operands, Call.operands])
          simpa [evF, RepF, RepP] using this
        simp only [execOp, hop, resolve, Deferred.ofValue, invoke, hf, Sem.run_bind, Sem.run_pure, Result.andThen_ok, List.map_toArray, Array.empty_append, Array.append_empty]
        generalize (callFunc f (List.map eval xs).toArray).run P w = x at *
        cases x with
        | ok n w' =>
          cases n <;> simp only at this <;> simp only [UponA]
          case value v =>
            obtain ⟨r', lo2, af, rfl, rfl⟩ := this
            exact af
          case enter f' args' =>
            obtain ⟨rfl, hcc⟩ := this
            exact hcc.mono fun en w'' ⟨v, r', lo2, e, af, e1, e2⟩ => by subst e1; subst e2; exact ⟨v, e, af⟩
          all_goals exact this.elim
        | halt x w' => exact this.elim
      · exact h.elim
    · rename_i hm
      exact plain (by simp only [isEffI, hop, isEff]; simpa using hm) h
  · rename_i hne
    refine plain ?_ h
    unfold isEffI
    split
    · rename_i f xs ts hop
      exact absurd hop (hne f xs.toList ts)
    · rfl

theorem AAny_lex {inl : List Nat} {K : (Nat → FV) → List AObj → Prop} {K' : Env → List AObj → Prop} {all : List Oper} (hK : ∀ E lo, K' E lo → K (lookD E) lo) :
    ∀ (l : List Oper) (k : Nat) (listed : Array Bool) (E : Env) (lo : List AObj), (∀ j, l[j]? = all[k + j]?) →
    Region.lexFrom .any all.toArray l.length k listed = true → Region.effFrom inl all.toArray l.length k listed = true → vcOpsI P inl N all K' l E lo → AAny P inl N all.toArray K l.length listed (lookD E) lo
  | [], _, _, E, lo, _, hB, _, h => ⟨by simpa [Region.lexFrom] using hB, hK E lo h⟩
  | o :: l, k, listed, E, lo, hl, hB, hF, h => by
    have h0 : all.toArray[k]? = some o := by have := hl 0; simpa using this.symm
    simp only [List.length_cons, Region.lexFrom, Region.effFrom, Bool.and_eq_true] at hB hF
    obtain ⟨⟨hr, hf⟩, hB'⟩ := hB
    obtain ⟨E', lo', st, h⟩ := vcOpI_spec h
    refine AAny_first h0 l.length listed (lookD E) (lookD E') lo lo' (fun j oj hj hne hun hno => ⟨Region.free_spec h0 hf j oj hj hne hun hno, effFree_spec h0 hF.1 j oj hj hne hun hno⟩) (by simpa using hr) st ?_
    exact AAny_lex hK l (k + 1) _ E' lo' (fun j => by have := hl (j + 1); simpa [Nat.add_assoc, Nat.add_comm 1 j] using this) hB' hF.2 h

/-- What is asked behind a region hangs on what stands in the slots alone. -/
theorem vcRegion_draw {inl : List Nat} {bs : Base} {ρ : List Value} {H : PH} {E : Env} {lo : List AObj} {a : Act} {w : World} {K : Env → List AObj → Prop} {id : Nat} {l : List Oper} (hm : P.follows .mixedOrders = true)
    (hB : drawOk inl l.toArray = true) (hQ : ∀ ρ H E lo a w, Sat bs N ρ H (lookD E) lo a w → K E lo → Q .normal a w) (s : Sat bs N ρ H (lookD E) lo a w) (h : vcOpsI P inl N l K l E lo) : (Code.region id l.toArray true).wp P Q a w := by
  simp only [drawOk, Go.Region.lexB, Bool.and_eq_true] at hB
  have s' : Sat bs N ρ H (lookD E) lo a { w with drawn := w.drawn + 1 } := by
    refine { (s.toSatW.calm (H' := H) (w' := { w with drawn := w.drawn + 1 }) ⟨PH.le.refl H, ⟨s.sath.cell, s.sath.root⟩, ⟨rfl, rfl, rfl, Nat.le_refl _, fun _ _ _ => rfl⟩, fun b o v h => .inl ⟨v, h⟩⟩) with slots := s.slots, width := s.width, defers := s.defers }
  refine wp_region_any hm (wpAny_of_AAny (inl := inl) (K := fun e lo => ∃ E, lookD E = e ∧ K E lo) (fun ρ H e lo a w s ⟨E, hE, hk⟩ => hQ ρ H E lo a w (by rw [hE]; exact s) hk) _ _ ρ H (lookD E) lo a _ s' ?_)
  have := AAny_lex (P := P) (inl := inl) (N := N) (K := fun e lo => ∃ E, lookD E = e ∧ K E lo) (K' := K) (fun E lo hk => ⟨E, rfl, hk⟩) l 0 (Array.replicate l.toArray.size false) E lo (by simp) (by simpa using hB.1.2) (by simpa using hB.2) h
  simpa using this
end
end Ax
