/- Loops by an invariant; a function's contract out of its code. -/
import Derived.Test.YtkakmigbbipgoaaDoorAxCode
import Derived.Deep.LoopGhost
namespace Ax
open Go

/-! ### The weakening, as something to compute -/
def leAll (E : Env) (π : Nat → Nat) (fresh : List Nat) : Env → Prop
  | [] => True
  | (t, v) :: E' => look E t (fun u => leF π fresh u v) ∧ leAll E π fresh E'
def leCells (π : Nat → Nat) (fresh : List Nat) (k' : Nat) : List FV → List FV → Prop
  | [], [] => True
  | c :: cs, c' :: cs' => leC π fresh k' c c' ∧ leCells π fresh k' cs cs'
  | _, _ => False
def leOb (π : Nat → Nat) (fresh : List Nat) (k' : Nat) (o o' : AObj) : Prop :=
  match o' with
  | .dead => True
  | .box t' cells' => match o with
    | .box t cells => t = t' ∧ leCells π fresh k' cells cells'
    | _ => False
  | .tail e z n => match o with
    | .tail e' z' n' => e' = e ∧ z' = z ∧ n' = n
    | _ => False
  | .vec e z rows => match o with
    | .vec e' z' rows' => e' = e ∧ z' = z ∧ rows' = rows
    | _ => False
  | .mp es => match o with
    | .mp es' => es' = es
    | _ => False
def leObs (lo : List AObj) (π : Nat → Nat) (fresh : List Nat) : Nat → List AObj → Prop
  | _, [] => True
  | k, o' :: lo' => (match fresh.contains k with
      | true => match o' with | .tail _ _ n => n = 0 | .vec _ _ rows => rows = [] | _ => False
      | false => nthK (π k) lo fun o => leOb π fresh k o o') ∧ leObs lo π fresh (k + 1) lo'

def πOf (l : List Nat) : Nat → Nat := fun k => l.getD k 0
/-- l: for each object that stays its number until now; 'fresh' are new nil slices. -/
def weakB (nb : Nat) (l fresh : List Nat) : Bool :=
  decide (nb ≤ l.length) && (List.range nb).all (fun k => l.getD k 0 == k && !fresh.contains k) &&
  (List.range l.length).all (fun i => (List.range l.length).all fun j => fresh.contains i || fresh.contains j || l.getD i 0 != l.getD j 0 || i == j) &&
  fresh.all (fun k => decide (k < l.length))
def namesB (n : Nat) : FV → Bool
  | .opt _ v => namesB n v
  | .tsl k _ => decide (k < n)
  | .ptr k _ => decide (k < n)
  | .bself k => decide (k < n)
  | .bsl k _ _ _ => decide (k < n)
  | .vsl k _ => decide (k < n)
  | .eptr k _ _ _ => decide (k < n)
  | .mref k => decide (k < n)
  | .pair a b => namesB n a && namesB n b
  | _ => true
def namesE (n : Nat) : Env → Bool
  | [] => true
  | (_, v) :: E => namesB n v && namesE n E
def namesC (n : Nat) : List FV → Bool
  | [] => true
  | v :: l => namesB n v && namesC n l
def namesO (n : Nat) : List AObj → Bool
  | [] => true
  | .box _ cells :: l => namesC n cells && namesO n l
  | _ :: l => namesO n l

/-- E, lo say all that E', lo' say. -/
def WeakK (nb : Nat) (E : Env) (lo : List AObj) (E' : Env) (lo' : List AObj) : Prop :=
  ∃ l fresh : List Nat, (weakB nb l fresh = true ∧ l.length = lo'.length ∧ namesE lo'.length E' = true ∧ namesO lo'.length lo' = true) ∧ leAll E (πOf l) fresh E' ∧ leObs lo (πOf l) fresh 0 lo'

theorem leAll_spec {E : Env} {π : Nat → Nat} {fresh : List Nat} : ∀ {E' : Env}, leAll E π fresh E' → ∀ t v, (t, v) ∈ E' → leF π fresh (lookD E t) v
  | [], _, t, v, h => by simp at h
  | (t', v') :: E', h, t, v, hm => by
    simp only [leAll, look_eq] at h
    rcases List.mem_cons.1 hm with e | hm
    · cases e; exact h.1
    · exact leAll_spec h.2 t v hm

theorem leCells_spec {π : Nat → Nat} {fresh : List Nat} {k' : Nat} : ∀ {cs cs' : List FV}, leCells π fresh k' cs cs' → cs.length = cs'.length ∧ ∀ (i : Nat) (c c' : FV), cs[i]? = some c → cs'[i]? = some c' → leC π fresh k' c c'
  | [], [], _ => ⟨rfl, fun i c c' h => by simp at h⟩
  | [], _ :: _, h => by simp [leCells] at h
  | _ :: _, [], h => by simp [leCells] at h
  | c :: cs, c' :: cs', h => by
    simp only [leCells] at h
    obtain ⟨h1, h2⟩ := leCells_spec h.2
    refine ⟨by simp [h1], fun i d d' hd hd' => ?_⟩
    cases i with
    | zero => simp at hd hd'; subst hd; subst hd'; exact h.1
    | succ i => exact h2 i d d' (by simpa using hd) (by simpa using hd')

theorem leOb_spec {π : Nat → Nat} {fresh : List Nat} {k' : Nat} {o o' : AObj} (h : leOb π fresh k' o o') : leObj π fresh k' o o' := by
  cases o' with
  | dead => trivial
  | box t' cells' =>
    cases o <;> simp only [leOb] at h
    exact ⟨h.1, leCells_spec h.2⟩
  | tail e z n =>
    cases o <;> simp only [leOb] at h
    obtain ⟨rfl, rfl, rfl⟩ := h
    rfl
  | vec e z n =>
    cases o <;> simp only [leOb] at h
    obtain ⟨rfl, rfl, rfl⟩ := h
    rfl
  | mp es =>
    cases o <;> simp only [leOb] at h
    subst h
    rfl

theorem leObs_spec {lo : List AObj} {π : Nat → Nat} {fresh : List Nat} : ∀ {lo' : List AObj} {k : Nat}, leObs lo π fresh k lo' → ∀ (i : Nat) (o' : AObj), lo'[i]? = some o' →
    (k + i ∈ fresh → ∃ e z, o' = .tail e z 0 ∨ o' = .vec e z []) ∧ (k + i ∉ fresh → ∃ o, lo[π (k + i)]? = some o ∧ leObj π fresh (k + i) o o')
  | [], _, _, i, o', h => by simp at h
  | o1 :: lo', k, h, i, o', ho => by
    simp only [leObs] at h
    cases i with
    | zero =>
      simp at ho
      subst ho
      simp only [Nat.add_zero]
      cases hf : fresh.contains k with
      | true =>
        simp only [hf] at h
        have hm : k ∈ fresh := by simpa using hf
        refine ⟨fun _ => ?_, fun hn => absurd hm hn⟩
        have h1 := h.1
        split at h1
        · rename_i e z n; exact ⟨e, z, .inl (by rw [h1])⟩
        · rename_i e z rows; exact ⟨e, z, .inr (by rw [h1])⟩
        · exact h1.elim
      | false =>
        simp only [hf] at h
        have hm : k ∉ fresh := by simpa using hf
        refine ⟨fun hn => absurd hn hm, fun _ => ?_⟩
        obtain ⟨o, ho, hl⟩ := nthK_spec h.1
        exact ⟨o, ho, leOb_spec hl⟩
    | succ i =>
      have := leObs_spec h.2 i o' (by simpa using ho)
      have e : k + 1 + i = k + (i + 1) := by omega
      rwa [e] at this

theorem namesB_spec {n : Nat} : ∀ {v : FV}, namesB n v = true → ∀ k ∈ v.names, k < n
  | .opt _ v, h, k, hk => namesB_spec (v := v) h k hk
  | .tsl k' _, h, k, hk => by simp [FV.names] at hk; subst hk; simpa [namesB] using h
  | .ptr k' _, h, k, hk => by simp [FV.names] at hk; subst hk; simpa [namesB] using h
  | .top, _, k, hk => by simp [FV.names] at hk
  | .p _, _, k, hk => by simp [FV.names] at hk
  | .hptr _, _, k, hk => by simp [FV.names] at hk
  | .bself k', h, k, hk => by simp [FV.names] at hk; subst hk; simpa [namesB] using h
  | .bsl k' _ _ _, h, k, hk => by simp [FV.names] at hk; subst hk; simpa [namesB] using h
  | .vsl k' _, h, k, hk => by simp [FV.names] at hk; subst hk; simpa [namesB] using h
  | .eptr k' _ _ _, h, k, hk => by simp [FV.names] at hk; subst hk; simpa [namesB] using h
  | .mref k', h, k, hk => by simp [FV.names] at hk; subst hk; simpa [namesB] using h
  | .pair a b, h, k, hk => by
    simp only [namesB, Bool.and_eq_true] at h
    rcases List.mem_append.1 hk with hk | hk
    · exact namesB_spec (v := a) h.1 k hk
    · exact namesB_spec (v := b) h.2 k hk
theorem namesE_spec {n : Nat} : ∀ {E : Env}, namesE n E = true → ∀ t v, (t, v) ∈ E → ∀ k ∈ v.names, k < n
  | [], _, t, v, h => by simp at h
  | (t', v') :: E, h, t, v, hm => by
    simp only [namesE, Bool.and_eq_true] at h
    rcases List.mem_cons.1 hm with e | hm
    · cases e; exact namesB_spec h.1
    · exact namesE_spec h.2 t v hm
theorem namesC_spec {n : Nat} : ∀ {l : List FV}, namesC n l = true → ∀ v ∈ l, ∀ k ∈ v.names, k < n
  | [], _, v, h => by simp at h
  | v' :: l, h, v, hm => by
    simp only [namesC, Bool.and_eq_true] at h
    rcases List.mem_cons.1 hm with e | hm
    · cases e; exact namesB_spec h.1
    · exact namesC_spec h.2 v hm
theorem namesO_spec {n : Nat} : ∀ {lo : List AObj}, namesO n lo = true → ∀ t cells, AObj.box t cells ∈ lo → ∀ c ∈ cells, ∀ k ∈ c.names, k < n
  | [], _, t, cells, h => by simp at h
  | o :: lo, h, t, cells, hm => by
    rcases List.mem_cons.1 hm with e | hm'
    · subst e
      simp only [namesO, Bool.and_eq_true] at h
      exact namesC_spec h.1
    · cases o <;> simp only [namesO, Bool.and_eq_true] at h <;> first | exact namesO_spec h.2 t cells hm' | exact namesO_spec h t cells hm'

theorem WeakK.sat {bs : Base} {N : Nat} {ρ : List Value} {H : PH} {E E' : Env} {lo lo' : List AObj} {a : Act} {w : World} (s : Sat bs N ρ H (lookD E) lo a w) (h : WeakK bs.r0.length E lo E' lo') :
    ∃ ρ', Sat bs N ρ' H (lookD E') lo' a w := by
  obtain ⟨l, fresh, ⟨hb, hl, hE, hO⟩, hA, hob⟩ := h
  simp only [weakB, Bool.and_eq_true, decide_eq_true_eq, List.all_eq_true, List.mem_range, Bool.or_eq_true, beq_iff_eq, Bool.not_eq_true', bne_iff_ne] at hb
  obtain ⟨⟨⟨h1, h2⟩, h3⟩, h4⟩ := hb
  have get := fun (i : Nat) (o' : AObj) (ho : lo'[i]? = some o') => leObs_spec hob i o' ho
  simp only [Nat.zero_add] at get
  refine ⟨_, s.weak (π := πOf l) (fresh := fresh) (lo' := lo') ?_ ⟨namesE_spec hE, namesO_spec hO⟩⟩
  refine { bounds := fun k hk hf => ?_, keep := fun k hk => ?_, nb := by omega, inj := fun i j hi hj hfi hfj e => ?_, frsh := fun k hk => ?_, obj := fun k o' ho hf => (get k o' ho).2 hf, slot := leAll_spec hA }
  · obtain ⟨o, ho, _⟩ := (get k _ (List.getElem?_eq_getElem hk)).2 hf
    exact (List.getElem?_eq_some_iff.1 ho).1
  · obtain ⟨e1, e2⟩ := h2 k hk
    exact ⟨e1, by simpa using e2⟩
  · have := h3 i (by omega) j (by omega)
    simp only [List.contains_iff_mem, hfi, hfj, false_or] at this
    rcases this with h | h
    · exact absurd e h
    · exact h
  · have hk' : k < lo'.length := by have := h4 k hk; omega
    obtain ⟨e, z, he⟩ := (get k _ (List.getElem?_eq_getElem hk')).1 hk
    exact ⟨e, z, he.imp (fun he => by rw [List.getElem?_eq_getElem hk', he]) (fun he => by rw [List.getElem?_eq_getElem hk', he])⟩

/-! ### Loops -/
theorem LoopA.of {P : Program} (inl : List Nat) {N nb : Nat} {body : Code} {K : KA} {E : Env} {lo : List AObj} {S : Type} (fr : S → Env) (ob : S → List AObj) (ok : S → Prop) (μ : S → Nat) (s0 : S) (h0 : ok s0)
    (hw : WeakK nb E lo (fr s0) (ob s0))
    (round : ∀ s, ok s → vc P inl N nb body (fun x E' lo' => match x with
      | .normal => ∃ s', ok s' ∧ μ s' < μ s ∧ WeakK nb E' lo' (fr s') (ob s')
      | .exit i => K (.exit i) E' lo'
      | .ret => K .ret E' lo') (fr s) (ob s)) : LoopA P inl N nb body K E lo := by
  intro hm hd bs ρ H a w hb sat
  subst hb
  obtain ⟨ρ', sat'⟩ := hw.sat sat
  refine wp_loop_ghost (I := fun n a w => ∃ s ρ H, μ s = n ∧ ok s ∧ Sat bs N ρ H (lookD (fr s)) (ob s) a w) (μ s0) ⟨s0, ρ', H, rfl, h0, sat'⟩ fun n a w ⟨s, ρ, H, hn, hok, sat⟩ => ?_
  refine wp_mono (vc_sound hm body _ _ _ hd (round s hok) bs ρ H a w rfl sat) fun e a w p => ?_
  obtain ⟨x, ρ2, H2, E2, lo2, hx, sat2, k⟩ := p
  cases x <;> cases e <;> simp only [AXis] at hx
  · obtain ⟨s', hok', hlt, hwk⟩ := k
    obtain ⟨ρ3, sat3⟩ := hwk.sat sat2
    exact ⟨μ s', hn ▸ hlt, s', ρ3, H2, rfl, hok', sat3⟩
  · exact ⟨.exit _, ρ2, H2, E2, lo2, hx, sat2, k⟩
  · exact ⟨.ret, ρ2, H2, E2, lo2, trivial, sat2, k⟩

/-! ### Functions -/
def resK (P : Program) (E : Env) (lo : List AObj) (r : ResultVar) (R : FV → Prop) : Prop :=
  match r with
  | .tmp t => look E t R
  | .cell a t => look E a fun v => kLoad P t lo v R
def resL (P : Program) (E : Env) (lo : List AObj) : List ResultVar → (List PV → Prop) → Prop
  | [], R => R []
  | r :: rs, R => resK P E lo r fun v => frzK v fun v => resL P E lo rs fun l => R (v :: l)
/-- What a function answers. -/
def retK (P : Program) (fn : Func) (R : PV → Prop) : KA := fun x E lo => match x with
  | .exit _ => False
  | _ => resL P E lo fn.results.toList fun vs => match vs with
      | [v] => R v
      | vs => R (.tup vs)

def initE : Nat → List PV → Env
  | _, [] => []
  | n, v :: vs => (n, .p v) :: initE (n + 1) vs

def vcFn (P : Program) (inl : List Nat) (fn : Func) (args : List PV) (R : PV → Prop) : Prop :=
  match fn.body with
  | some c => vc P inl fn.ntmps 0 c (retK P fn R) (initE 0 args) []
  | none => False

/-- What can be asked of a function's code once for all. -/
def fnOk (inl : List Nat) (fn : Func) (n : Nat) : Bool := (match fn.body with | some c => drawsOk inl c | none => false) && decide (n ≤ fn.ntmps)

def Enters (P : Program) (f : FuncId) : Prop := ∀ (args : Array Value) (w : World), (callFunc f args).run P w = .ok (.enter f args) w

def resOne (tmps : Array Value) : ResultVar → Sem Value
  | .tmp t => pure (tmps.getD t undef)
  | .cell p t => do loadVar t (← asAddr (tmps.getD p undef))

theorem results_eq (fn : Func) (tmps : Array Value) : results fn tmps = (do
    let vs ← fn.results.mapM (resOne tmps)
    pure (if h : vs.size = 1 then vs[0] else .tuple vs)) := by
  unfold results
  congr 1

theorem resL_spec {P : Program} {E : Env} {lo : List AObj} : ∀ {l : List ResultVar} {R : List PV → Prop}, resL P E lo l R → ∃ ps, R ps ∧ ps.length = l.length ∧ ∀ (bs : Base) (N : Nat) (ρ : List Value) (H : PH) (a : Act) (w : World), Sat bs N ρ H (lookD E) lo a w →
    ∃ vs : List Value, (l.mapM (m := Sem) (resOne a.tmps)).run P w = .ok vs w ∧ RepL H ps vs
  | [], R, h => ⟨[], h, rfl, fun bs N ρ H a w s => ⟨[], by simp, by simp [RepL]⟩⟩
  | r :: rs, R, h => by
    simp only [resL] at h
    have one : ∃ p, (resL P E lo rs fun l => R (p :: l)) ∧ ∀ (bs : Base) (N : Nat) (ρ : List Value) (H : PH) (a : Act) (w : World), Sat bs N ρ H (lookD E) lo a w →
        ∃ v, (resOne a.tmps r).run P w = .ok v w ∧ RepP H p v := by
      cases r with
      | tmp t =>
        simp only [resK, look_eq] at h
        obtain ⟨p, h, hp⟩ := frzK_spec h
        exact ⟨p, h, fun bs N ρ H a w s => ⟨a.tmps.getD t undef, rfl, hp _ _ _ (s.slots t)⟩⟩
      | cell q t =>
        simp only [resK, look_eq] at h
        obtain ⟨fv, h, hl⟩ := kLoad_spec h
        obtain ⟨p, h, hp⟩ := frzK_spec h
        refine ⟨p, h, fun bs N ρ H a w s => ?_⟩
        obtain ⟨ad, u, e, hr, ru⟩ := hl bs ρ H w _ s.toSatW (s.slots q)
        refine ⟨u, ?_, hp _ _ _ ru⟩
        simp only [Instr.loadAt, e, Instr.sureAddr, Sem.run_bind, Sem.run_pure, Result.andThen_ok] at hr
        simp only [resOne, e, asAddr, Sem.run_bind, Sem.run_pure, Result.andThen_ok, hr]
    obtain ⟨p, h, h1⟩ := one
    obtain ⟨ps, h, hlen, h2⟩ := resL_spec h
    refine ⟨p :: ps, h, by simp [hlen], fun bs N ρ H a w s => ?_⟩
    obtain ⟨v, hv, rv⟩ := h1 bs N ρ H a w s
    obtain ⟨vs, hvs, rvs⟩ := h2 bs N ρ H a w s
    refine ⟨v :: vs, ?_, by simp only [RepL]; exact ⟨v, vs, rfl, rv, rvs⟩⟩
    simp only [List.mapM_cons, Sem.run_bind, hv, Result.andThen_ok, hvs, Sem.run_pure]

theorem ret_spec {P : Program} {fn : Func} {E : Env} {lo : List AObj} {x : AX} {R : PV → Prop} (h : retK P fn R x E lo) : ∃ p, R p ∧ (x = .normal ∨ x = .ret) ∧
    ∀ (bs : Base) (N : Nat) (ρ : List Value) (H : PH) (a : Act) (w : World), Sat bs N ρ H (lookD E) lo a w → ∃ v, (results fn a.tmps).run P w = .ok v w ∧ RepP H p v := by
  have key : ∀ {x : AX}, (x = .normal ∨ x = .ret) → (resL P E lo fn.results.toList fun vs => match vs with
      | [v] => R v
      | vs => R (.tup vs)) → ∃ p, R p ∧ (x = .normal ∨ x = .ret) ∧
    ∀ (bs : Base) (N : Nat) (ρ : List Value) (H : PH) (a : Act) (w : World), Sat bs N ρ H (lookD E) lo a w → ∃ v, (results fn a.tmps).run P w = .ok v w ∧ RepP H p v := by
    intro x hx h
    obtain ⟨ps, h, hpl, hs⟩ := resL_spec h
    clear hpl
    split at h
    · rename_i p
      refine ⟨p, h, hx, fun bs N ρ H a w s => ?_⟩
      obtain ⟨vs, hr, rl⟩ := hs bs N ρ H a w s
      simp only [RepL] at rl
      obtain ⟨v, _, rfl, rv, rfl⟩ := rl
      refine ⟨v, ?_, rv⟩
      rw [results_eq, Array.mapM_eq_mapM_toList]
      simp only [Sem.run_bind, Sem.run_map, hr, Result.andThen_ok]
      rfl
    · rename_i hne
      refine ⟨_, h, hx, fun bs N ρ H a w s => ?_⟩
      obtain ⟨vs, hr, rl⟩ := hs bs N ρ H a w s
      refine ⟨.tuple vs.toArray, ?_, by simp only [RepP]; exact ⟨vs, rfl, rl⟩⟩
      rw [results_eq, Array.mapM_eq_mapM_toList]
      simp only [Sem.run_bind, Sem.run_map, hr, Result.andThen_ok, Sem.run_pure]
      have : ¬ vs.toArray.size = 1 := by
        intro h1
        have hl := rl.length
        simp at h1
        rw [h1] at hl
        cases ps with
        | nil => simp at hl
        | cons a l => cases l with
          | nil => exact hne a rfl
          | cons b l => simp at hl
      simp only [this, dif_neg, not_false_eq_true]
  cases x with
  | normal => exact key (.inl rfl) h
  | exit i => exact h.elim
  | ret => exact key (.inr rfl) h

theorem initE_spec : ∀ (n : Nat) (args : List PV) (t : Nat), lookD (initE n args) t = match (if n ≤ t then args[t - n]? else none) with | some v => .p v | none => .top
  | n, [], t => by simp [initE, lookD]
  | n, v :: vs, t => by
    simp only [initE, lookD]
    cases hb : Nat.beq t n with
    | true =>
      have := Nat.eq_of_beq_eq_true hb
      subst this
      simp
    | false =>
      have hne : t ≠ n := fun e => by subst e; simp [Nat.beq_refl] at hb
      simp only
      rw [initE_spec (n + 1) vs t]
      by_cases h : n ≤ t
      · have h1 : n + 1 ≤ t := by omega
        have h2 : t - n = (t - (n + 1)) + 1 := by omega
        simp [h, h1, h2]
      · have h1 : ¬ n + 1 ≤ t := by omega
        simp [h, h1]

theorem CallsF.of_vcR {P : Program} {f : FuncId} {fn : Func} {args : List PV} {r : PV} {inl : List Nat} {R : PV → Prop} (hm : P.follows .mixedOrders = true) (he : Enters P f) (hf : P.funcs[f]? = some fn) (hok : fnOk inl fn args.length = true)
    (hR : ∀ (p : PV) (v : Value) (H : PH), R p → RepP H p v → RepP H r v) (h : vcFn P inl fn args R) : CallsF P f args r := by
  intro H w vs hs rl
  rw [he]
  refine ⟨rfl, ?_⟩
  simp only [fnOk, Bool.and_eq_true, decide_eq_true_eq] at hok
  obtain ⟨hd, hn⟩ := hok
  unfold vcFn at h
  cases hb : fn.body with
  | none => simp [hb] at hd
  | some c =>
    simp only [hb] at h hd
    refine calls_of_wp hf hb ?_
    have hl := rl.length
    have sat : Sat { S := Nobody, w0 := w, H0 := H, r0 := [] } fn.ntmps [] H (lookD (initE 0 args)) [] { tmps := vs.toArray ++ Array.replicate (fn.ntmps - vs.toArray.size) undef, defers := [] } w := by
      refine { sath := hs, hlen := rfl, pre := List.prefix_refl _, objs := fun k o v h => by simp at h, excl := fun k _ o _ v _ b h => by simp at h, own := fun k o v b h => by simp at h, keep := Keep.refl _ w, leH := PH.le.refl H, newH := fun b o v h => .inl ⟨v, h⟩, slots := fun t => ?_, width := by simp; omega, defers := rfl }
      rw [initE_spec]
      simp only [Nat.zero_le, if_true, Nat.sub_zero]
      cases ht : args[t]? with
      | none => trivial
      | some p =>
        obtain ⟨v, hv, rv⟩ := rl.get ht
        have hlt := (List.getElem?_eq_some_iff.1 hv).1
        have : (vs.toArray ++ Array.replicate (fn.ntmps - vs.toArray.size) undef).getD t undef = v := by
          rw [Array.getD_eq_getD_getElem?, Array.getElem?_append_left (by simpa using hlt)]
          simp [hv]
        rw [this]
        exact rv
    refine wp_mono (vc_sound hm c _ _ _ hd h _ [] H _ w rfl sat) fun e a w' p => ?_
    obtain ⟨x, ρ', H', E', lo', hx, s', k⟩ := p
    obtain ⟨p, hp, hxx, hres⟩ := ret_spec k
    obtain ⟨v, hv, rv⟩ := hres _ _ ρ' H' a w' s'
    have fin : ∃ v, (results fn a.tmps).run P w' = .ok v w' ∧ (fun e w'' => ∃ v H', e = Ending.returned v ∧ Calm H w H' w'' ∧ RepP H' r v) (.returned v) w' :=
      ⟨v, hv, v, H', rfl, ⟨s'.leH, s'.sath, s'.keep, fun b o v hv => by
        rcases s'.newH b o v hv with h | h | h
        · exact .inl h
        · exact h.elim
        · exact .inr h⟩, hR p v H' hp rv⟩
    rcases hxx with rfl | rfl <;> cases e <;> simp only [AXis] at hx
    · exact ⟨s'.defers, fin⟩
    · exact ⟨s'.defers, fin⟩

theorem CallsF.of_vc {P : Program} {f : FuncId} {fn : Func} {args : List PV} {r : PV} {inl : List Nat} (hm : P.follows .mixedOrders = true) (he : Enters P f) (hf : P.funcs[f]? = some fn) (hok : fnOk inl fn args.length = true)
    (h : vcFn P inl fn args (fun v => v = r)) : CallsF P f args r :=
  CallsF.of_vcR (R := fun v => v = r) hm he hf hok (fun _ _ _ e x => e ▸ x) h

end Ax
