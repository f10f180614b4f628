/- A part of the proof. -/
import Derived.Carry
import Derived.ChangeArms
import Derived.ChangeSame
import Derived.DataElems
import Derived.DataReads
import Derived.Deep.LoopGhost
import Derived.Laws.Externs
import Derived.Lib.Builder
import Derived.OpenShut
import Derived.ProofKit
import Derived.Shelf.Strings.Builder1
import Derived.Test.YtajcpfcghhbbnaaDoorShelf
import Derived.WalkKit
import Derived.Test.YtajcpfcghhbbnaaDoorB
set_option linter.all false
section
namespace Ax
open Go

/-! ### The weakening, as something to compute -/
def leAll (E : Env) (π : Nat → Nat) (fresh : List Nat) : Env → Prop
  | [] => True
  | (t, v) :: E' => look E t (fun u => leF π fresh u v) ∧ leAll E π fresh E'
def leCells (π : Nat → Nat) (fresh : List Nat) (k' : Nat) : List FV → List FV → Prop
  | [], [] => True
  | c :: cs, c' :: cs' => leC π fresh k' c c' ∧ leCells π fresh k' cs cs'
  | _, _ => False
def leOb (π : Nat → Nat) (fresh : List Nat) (k' : Nat) (o o' : AObj) : Prop :=
  match o' with
  | .dead => True
  | .box t' cells' => match o with
    | .box t cells => t = t' ∧ leCells π fresh k' cells cells'
    | _ => False
  | .tail e z n => match o with
    | .tail e' z' n' => e' = e ∧ z' = z ∧ n' = n
    | _ => False
  | .vec e z rows => match o with
    | .vec e' z' rows' => e' = e ∧ z' = z ∧ rows' = rows
    | _ => False
  | .mp d es mk => match o with
    | .mp d' es' _ => mk = none ∧ d' = d ∧ es' = es
    | _ => False
  | .sit l p => match o with
    | .sit l' p' => l' = l ∧ p' = p
    | _ => False
  | .bv l => match o with
    | .bv l' => l' = l
    | _ => False
  | .vl e z rows j k' => match o with
    | .vl e' z' rows' j2 k => k' ∉ fresh ∧ e' = e ∧ z' = z ∧ rows' = rows ∧ j2 = j ∧ k = π k'
    | _ => False
  | .pbx t' c' => match o with
    | .pbx t c => t = t' ∧ leF π fresh c c'
    | _ => False
def leObs (lo : List AObj) (π : Nat → Nat) (fresh : List Nat) : Nat → List AObj → Prop
  | _, [] => True
  | k, o' :: lo' => (match fresh.contains k with
      | true => match o' with | .tail _ _ n => n = 0 | .vec _ _ rows => rows = [] | .vl _ _ rows _ _ => rows = [] | _ => False
      | false => nthK (π k) lo fun o => leOb π fresh k o o') ∧ leObs lo π fresh (k + 1) lo'

def πOf (l : List Nat) : Nat → Nat := fun k => l.getD k 0
/-- l: for each object that stays its number until now; 'fresh' are new nil slices. -/
def weakB (nb : Nat) (l fresh : List Nat) : Bool :=
  decide (nb ≤ l.length) && (List.range nb).all (fun k => l.getD k 0 == k && !fresh.contains k) &&
  (List.range l.length).all (fun i => (List.range l.length).all fun j => fresh.contains i || fresh.contains j || l.getD i 0 != l.getD j 0 || i == j) &&
  fresh.all (fun k => decide (k < l.length))
def isDead : AObj → Bool
  | .dead => true
  | _ => false
def deadB : List AObj → Nat → Bool
  | [], _ => false
  | a :: _, 0 => isDead a
  | _ :: l, i + 1 => deadB l i
theorem deadB_live {o : AObj} (hl : o.live = true) : ∀ {l : List AObj} {i : Nat}, l[i]? = some o → deadB l i = false
  | [], _, h => by simp at h
  | a :: l, 0, h => by
    simp at h; subst h
    cases a <;> first | rfl | (simp [AObj.live] at hl)
  | a :: l, i + 1, h => by
    simp at h
    exact deadB_live (l := l) (i := i) hl h
def weakD (nb : Nat) (l fresh : List Nat) (lo : List AObj) : Bool :=
  decide (nb ≤ l.length) && (List.range nb).all (fun k => l.getD k 0 == k && !fresh.contains k) &&
  (List.range l.length).all (fun i => (List.range l.length).all fun j => fresh.contains i || fresh.contains j || l.getD i 0 != l.getD j 0 || i == j || deadB lo i || deadB lo j) &&
  fresh.all (fun k => decide (k < l.length))
def namesB (n : Nat) : FV → Bool
  | .opt _ v => namesB n v
  | .tsl k _ => decide (k < n)
  | .ptr k _ => decide (k < n)
  | .bself k => decide (k < n)
  | .bsl k _ _ _ => decide (k < n)
  | .vsl k _ => decide (k < n)
  | .eptr k _ _ _ => decide (k < n)
  | .mref k => decide (k < n)
  | .pair a b => namesB n a && namesB n b
  | .stmp k => decide (k < n)
  | .asl k _ _ => decide (k < n)
  | .clo _ c => namesB n c
  | .fagg c => namesB n c
  | .cap a b => namesB n a && namesB n b
  | _ => true
def namesE (n : Nat) : Env → Bool
  | [] => true
  | (_, v) :: E => namesB n v && namesE n E
def namesC (n : Nat) : List FV → Bool
  | [] => true
  | v :: l => namesB n v && namesC n l
def namesO (n : Nat) : List AObj → Bool
  | [] => true
  | .box _ cells :: l => namesC n cells && namesO n l
  | .vl _ _ _ _ k :: l => decide (k < n) && namesO n l
  | .pbx _ c :: l => namesB n c && namesO n l
  | _ :: l => namesO n l

/-- E, lo say all that E', lo' say. -/
def WeakK (nb : Nat) (E : Env) (lo : List AObj) (E' : Env) (lo' : List AObj) : Prop :=
  ∃ l fresh : List Nat, (weakD nb l fresh lo' = true ∧ l.length = lo'.length ∧ namesE lo'.length E' = true ∧ namesO lo'.length lo' = true) ∧ leAll E (πOf l) fresh E' ∧ leObs lo (πOf l) fresh 0 lo'

theorem leAll_spec {E : Env} {π : Nat → Nat} {fresh : List Nat} : ∀ {E' : Env}, leAll E π fresh E' → ∀ t v, (t, v) ∈ E' → leF π fresh (lookD E t) v
  | [], _, t, v, h => by simp at h
  | (t', v') :: E', h, t, v, hm => by
    simp only [leAll, look_eq] at h
    rcases List.mem_cons.1 hm with e | hm
    · cases e; exact h.1
    · exact leAll_spec h.2 t v hm

theorem leCells_spec {π : Nat → Nat} {fresh : List Nat} {k' : Nat} : ∀ {cs cs' : List FV}, leCells π fresh k' cs cs' → cs.length = cs'.length ∧ ∀ (i : Nat) (c c' : FV), cs[i]? = some c → cs'[i]? = some c' → leC π fresh k' c c'
  | [], [], _ => ⟨rfl, fun i c c' h => by simp at h⟩
  | [], _ :: _, h => by simp [leCells] at h
  | _ :: _, [], h => by simp [leCells] at h
  | c :: cs, c' :: cs', h => by
    simp only [leCells] at h
    obtain ⟨h1, h2⟩ := leCells_spec h.2
    refine ⟨by simp [h1], fun i d d' hd hd' => ?_⟩
    cases i with
    | zero => simp at hd hd'; subst hd; subst hd'; exact h.1
    | succ i => exact h2 i d d' (by simpa using hd) (by simpa using hd')

theorem leOb_spec {π : Nat → Nat} {fresh : List Nat} {k' : Nat} {o o' : AObj} (h : leOb π fresh k' o o') : leObj π fresh k' o o' := by
  cases o' with
  | dead => trivial
  | box t' cells' =>
    cases o <;> simp only [leOb] at h
    exact ⟨h.1, leCells_spec h.2⟩
  | tail e z n =>
    cases o <;> simp only [leOb] at h
    obtain ⟨rfl, rfl, rfl⟩ := h
    rfl
  | vec e z n =>
    cases o <;> simp only [leOb] at h
    obtain ⟨rfl, rfl, rfl⟩ := h
    rfl
  | mp d es mk =>
    cases o <;> simp only [leOb] at h
    obtain ⟨rfl, rfl, rfl⟩ := h
    exact ⟨rfl, _, rfl⟩
  | sit l p =>
    cases o <;> simp only [leOb] at h
    obtain ⟨rfl, rfl⟩ := h
    rfl
  | bv l =>
    cases o <;> simp only [leOb] at h
    subst h
    rfl
  | vl e z rows j k' =>
    cases o <;> simp only [leOb] at h
    obtain ⟨h0, rfl, rfl, rfl, rfl, rfl⟩ := h
    exact ⟨h0, rfl⟩
  | pbx t' c' =>
    cases o <;> simp only [leOb] at h
    exact h

theorem leObs_spec {lo : List AObj} {π : Nat → Nat} {fresh : List Nat} : ∀ {lo' : List AObj} {k : Nat}, leObs lo π fresh k lo' → ∀ (i : Nat) (o' : AObj), lo'[i]? = some o' →
    (k + i ∈ fresh → ∃ e z, o' = .tail e z 0 ∨ o' = .vec e z [] ∨ ∃ j k2, o' = .vl e z [] j k2) ∧ (k + i ∉ fresh → ∃ o, lo[π (k + i)]? = some o ∧ leObj π fresh (k + i) o o')
  | [], _, _, i, o', h => by simp at h
  | o1 :: lo', k, h, i, o', ho => by
    simp only [leObs] at h
    cases i with
    | zero =>
      simp at ho
      subst ho
      simp only [Nat.add_zero]
      cases hf : fresh.contains k with
      | true =>
        simp only [hf] at h
        have hm : k ∈ fresh := by simpa using hf
        refine ⟨fun _ => ?_, fun hn => absurd hm hn⟩
        have h1 := h.1
        split at h1
        · rename_i e z n; exact ⟨e, z, .inl (by rw [h1])⟩
        · rename_i e z rows; exact ⟨e, z, .inr (.inl (by rw [h1]))⟩
        · rename_i e z rows j k2; exact ⟨e, z, .inr (.inr ⟨j, k2, by rw [h1]⟩)⟩
        · exact h1.elim
      | false =>
        simp only [hf] at h
        have hm : k ∉ fresh := by simpa using hf
        refine ⟨fun hn => absurd hn hm, fun _ => ?_⟩
        obtain ⟨o, ho, hl⟩ := nthK_spec h.1
        exact ⟨o, ho, leOb_spec hl⟩
    | succ i =>
      have := leObs_spec h.2 i o' (by simpa using ho)
      have e : k + 1 + i = k + (i + 1) := by omega
      rwa [e] at this

theorem namesB_spec {n : Nat} : ∀ {v : FV}, namesB n v = true → ∀ k ∈ v.names, k < n
  | .opt _ v, h, k, hk => namesB_spec (v := v) h k hk
  | .tsl k' _, h, k, hk => by simp [FV.names] at hk; subst hk; simpa [namesB] using h
  | .ptr k' _, h, k, hk => by simp [FV.names] at hk; subst hk; simpa [namesB] using h
  | .top, _, k, hk => by simp [FV.names] at hk
  | .p _, _, k, hk => by simp [FV.names] at hk
  | .hptr _, _, k, hk => by simp [FV.names] at hk
  | .bself k', h, k, hk => by simp [FV.names] at hk; subst hk; simpa [namesB] using h
  | .bsl k' _ _ _, h, k, hk => by simp [FV.names] at hk; subst hk; simpa [namesB] using h
  | .vsl k' _, h, k, hk => by simp [FV.names] at hk; subst hk; simpa [namesB] using h
  | .eptr k' _ _ _, h, k, hk => by simp [FV.names] at hk; subst hk; simpa [namesB] using h
  | .mref k', h, k, hk => by simp [FV.names] at hk; subst hk; simpa [namesB] using h
  | .pair a b, h, k, hk => by
    simp only [namesB, Bool.and_eq_true] at h
    rcases List.mem_append.1 hk with hk | hk
    · exact namesB_spec (v := a) h.1 k hk
    · exact namesB_spec (v := b) h.2 k hk
  | .stmp k', h, k, hk => by simp [FV.names] at hk; subst hk; simpa [namesB] using h
  | .clo _ c, h, k, hk => namesB_spec (v := c) h k hk
  | .fagg c, h, k, hk => namesB_spec (v := c) h k hk
  | .nxt _ _ _, _, k, hk => by simp [FV.names] at hk
  | .asl k' _ _, h, k, hk => by simp [FV.names] at hk; subst hk; simpa [namesB] using h
  | .cap0, _, k, hk => by simp [FV.names] at hk
  | .cap a b, h, k, hk => by
    simp only [namesB, Bool.and_eq_true] at h
    rcases List.mem_append.1 hk with hk | hk
    · exact namesB_spec (v := a) h.1 k hk
    · exact namesB_spec (v := b) h.2 k hk
theorem namesE_spec {n : Nat} : ∀ {E : Env}, namesE n E = true → ∀ t v, (t, v) ∈ E → ∀ k ∈ v.names, k < n
  | [], _, t, v, h => by simp at h
  | (t', v') :: E, h, t, v, hm => by
    simp only [namesE, Bool.and_eq_true] at h
    rcases List.mem_cons.1 hm with e | hm
    · cases e; exact namesB_spec h.1
    · exact namesE_spec h.2 t v hm
theorem namesC_spec {n : Nat} : ∀ {l : List FV}, namesC n l = true → ∀ v ∈ l, ∀ k ∈ v.names, k < n
  | [], _, v, h => by simp at h
  | v' :: l, h, v, hm => by
    simp only [namesC, Bool.and_eq_true] at h
    rcases List.mem_cons.1 hm with e | hm
    · cases e; exact namesB_spec h.1
    · exact namesC_spec h.2 v hm
theorem namesO_spec {n : Nat} : ∀ {lo : List AObj}, namesO n lo = true → ∀ t cells, AObj.box t cells ∈ lo → ∀ c ∈ cells, ∀ k ∈ c.names, k < n
  | [], _, t, cells, h => by simp at h
  | o :: lo, h, t, cells, hm => by
    rcases List.mem_cons.1 hm with e | hm'
    · subst e
      simp only [namesO, Bool.and_eq_true] at h
      exact namesC_spec h.1
    · cases o <;> simp only [namesO, Bool.and_eq_true] at h <;> first | exact namesO_spec h.2 t cells hm' | exact namesO_spec h t cells hm'
theorem namesO_spec3 {n : Nat} : ∀ {lo : List AObj}, namesO n lo = true → ∀ t c, AObj.pbx t c ∈ lo → ∀ k ∈ c.names, k < n
  | [], _, _, _, h => by simp at h
  | o :: lo, h, t, c, hm => by
    rcases List.mem_cons.1 hm with he | hm'
    · subst he
      simp only [namesO, Bool.and_eq_true] at h
      exact namesB_spec h.1
    · cases o <;> simp only [namesO, Bool.and_eq_true] at h <;> first | exact namesO_spec3 h.2 _ _ hm' | exact namesO_spec3 h _ _ hm'
theorem namesO_spec2 {n : Nat} : ∀ {lo : List AObj}, namesO n lo = true → ∀ e z rows j k, AObj.vl e z rows j k ∈ lo → k < n
  | [], _, _, _, _, _, _, h => by simp at h
  | o :: lo, h, e, z, rows, j, k, hm => by
    rcases List.mem_cons.1 hm with he | hm'
    · subst he
      simp only [namesO, Bool.and_eq_true, decide_eq_true_eq] at h
      exact h.1
    · cases o <;> simp only [namesO, Bool.and_eq_true] at h <;> first | exact namesO_spec2 h.2 _ _ _ _ _ hm' | exact namesO_spec2 h _ _ _ _ _ hm'

theorem WeakK.sat {bs : Base} {N : Nat} {ρ : List Value} {H : PH} {E E' : Env} {lo lo' : List AObj} {a : Act} {w : World} (s : Sat bs N ρ H (lookD E) lo a w) (h : WeakK bs.r0.length E lo E' lo') :
    ∃ ρ', Sat bs N ρ' H (lookD E') lo' a w := by
  obtain ⟨l, fresh, ⟨hb, hl, hE, hO⟩, hA, hob⟩ := h
  simp only [weakD, Bool.and_eq_true, decide_eq_true_eq, List.all_eq_true, List.mem_range, Bool.or_eq_true, beq_iff_eq, Bool.not_eq_true', bne_iff_ne] at hb
  obtain ⟨⟨⟨h1, h2⟩, h3⟩, h4⟩ := hb
  have get := fun (i : Nat) (o' : AObj) (ho : lo'[i]? = some o') => leObs_spec hob i o' ho
  simp only [Nat.zero_add] at get
  refine ⟨_, s.weak (π := πOf l) (fresh := fresh) (lo' := lo') ?_ ⟨namesE_spec hE, namesO_spec hO, namesO_spec2 hO, namesO_spec3 hO⟩⟩
  refine { bounds := fun k hk hf => ?_, keep := fun k hk => ?_, nb := by omega, inj := fun i j oi oj hi hj hli hlj hfi hfj e => ?_, frsh := fun k hk => ?_, obj := fun k o' ho hf => (get k o' ho).2 hf, slot := leAll_spec hA }
  · obtain ⟨o, ho, _⟩ := (get k _ (List.getElem?_eq_getElem hk)).2 hf
    exact (List.getElem?_eq_some_iff.1 ho).1
  · obtain ⟨e1, e2⟩ := h2 k hk
    exact ⟨e1, by simpa using e2⟩
  · have h1 := (List.getElem?_eq_some_iff.1 hi).1
    have h2 := (List.getElem?_eq_some_iff.1 hj).1
    have := h3 i (by omega) j (by omega)
    simp only [List.contains_iff_mem, hfi, hfj, deadB_live hli hi, deadB_live hlj hj, Bool.false_eq_true, or_false, false_or] at this
    rcases this with h | h
    · exact absurd e h
    · exact h
  · have hk' : k < lo'.length := by have := h4 k hk; omega
    obtain ⟨e, z, he⟩ := (get k _ (List.getElem?_eq_getElem hk')).1 hk
    exact ⟨e, z, he.imp (fun he => by rw [List.getElem?_eq_getElem hk', he]) (fun he => he.imp (fun he => by rw [List.getElem?_eq_getElem hk', he]) (fun ⟨j, k2, he⟩ => ⟨j, k2, by rw [List.getElem?_eq_getElem hk', he]⟩))⟩

/-! ### Loops -/
theorem LoopA.of {P : Program} (inl : List Nat) {N nb : Nat} {body : Code} {K : KA} {E : Env} {lo : List AObj} {S : Type} (fr : S → Env) (ob : S → List AObj) (ok : S → Prop) (μ : S → Nat) (s0 : S) (h0 : ok s0)
    (hw : WeakK nb E lo (fr s0) (ob s0))
    (round : ∀ s, ok s → vc P inl N nb body (fun x E' lo' => match x with
      | .normal => ∃ s', ok s' ∧ μ s' < μ s ∧ WeakK nb E' lo' (fr s') (ob s')
      | .exit i => K (.exit i) E' lo'
      | .ret => K .ret E' lo') (fr s) (ob s)) : LoopA P inl N nb body K E lo := by
  intro hm hd bs ρ H a w hb sat
  subst hb
  obtain ⟨ρ', sat'⟩ := hw.sat sat
  refine wp_loop_ghost (I := fun n a w => ∃ s ρ H, μ s = n ∧ ok s ∧ Sat bs N ρ H (lookD (fr s)) (ob s) a w) (μ s0) ⟨s0, ρ', H, rfl, h0, sat'⟩ fun n a w ⟨s, ρ, H, hn, hok, sat⟩ => ?_
  refine wp_mono (vc_sound hm body _ _ _ hd (round s hok) bs ρ H a w rfl sat) fun e a w p => ?_
  obtain ⟨x, ρ2, H2, E2, lo2, hx, sat2, k⟩ := p
  cases x <;> cases e <;> simp only [AXis] at hx
  · obtain ⟨s', hok', hlt, hwk⟩ := k
    obtain ⟨ρ3, sat3⟩ := hwk.sat sat2
    exact ⟨μ s', hn ▸ hlt, s', ρ3, H2, rfl, hok', sat3⟩
  · exact ⟨.exit _, ρ2, H2, E2, lo2, hx, sat2, k⟩
  · exact ⟨.ret, ρ2, H2, E2, lo2, trivial, sat2, k⟩

/-! ### Functions -/
def resK (P : Program) (E : Env) (lo : List AObj) (r : ResultVar) (R : FV → Prop) : Prop :=
  match r with
  | .tmp t => look E t R
  | .cell a t => look E a fun v => kLoad P t lo v R
def pub1 (lo : List AObj) (v : FV) (R : PV → List AObj → Prop) : Prop :=
  match v with
  | .vsl k _ => nthK k lo fun o => match o with
    | .vec _ _ rows => setK k .dead lo fun lo => R (.sl rows) lo
    | _ => False
  | v => frzK v fun p => R p lo
def pubL : List FV → List AObj → (List PV → List AObj → Prop) → Prop
  | [], lo, R => R [] lo
  | v :: cs, lo, R => pub1 lo v fun p lo => pubL cs lo fun ps lo => R (p :: ps) lo
/-- A slice whose elements were written is handed out: it stays as it is. -/
def pubK (lo : List AObj) (v : FV) (R : FV → List AObj → Prop) : Prop :=
  match v with
  | .vsl k _ => nthK k lo fun o => match o with
    | .vec _ _ rows => setK k .dead lo fun lo => R (.p (.sl rows)) lo
    | .vl _ _ rows _ _ => setK k .dead lo fun lo => R (.p (.sl rows)) lo
    | _ => False
  | .fagg c => chainK c fun cs => pubL cs lo fun ps lo => R (.p (.agg ps)) lo
  | v => R v lo
def resL (P : Program) (E : Env) (lo : List AObj) : List ResultVar → (List PV → Prop) → Prop
  | [], R => R []
  | r :: rs, R => resK P E lo r fun v => pubK lo v fun v lo => frzK v fun v => resL P E lo rs fun l => R (v :: l)
/-- What a function answers. -/
def retK (P : Program) (fn : Func) (R : PV → Prop) : KA := fun x E lo => match x with
  | .exit _ => False
  | _ => resL P E lo fn.results.toList fun vs => match vs with
      | [v] => R v
      | vs => R (.tup vs)

/-- A pure value as a frame's: a pointer to what nobody writes is a common row's. -/
def toF : PV → FV
  | .hp row => .hptr row
  | v => .p v
theorem toF_rep {ρ : List Value} {H : PH} {v : PV} {x : Value} (h : RepP H v x) : RepF ρ H (toF v) x := by
  cases v <;> simp only [toF] <;> first | exact h | (simp only [RepP] at h; simp only [RepF]; exact h)
def initE : Nat → List PV → Env
  | _, [] => []
  | n, v :: vs => (n, toF v) :: initE (n + 1) vs

def vcFn (P : Program) (inl : List Nat) (fn : Func) (args : List PV) (R : PV → Prop) : Prop :=
  match fn.body with
  | some c => vc P inl fn.ntmps 0 c (retK P fn R) (initE 0 args) []
  | none => False

/-- What can be asked of a function's code once for all. -/
def fnOk (inl : List Nat) (fn : Func) (n : Nat) : Bool := (match fn.body with | some c => drawsOk inl c | none => false) && decide (n ≤ fn.ntmps)

def Enters (P : Program) (f : FuncId) : Prop := ∀ (args : Array Value) (w : World), (callFunc f args).run P w = .ok (.enter f args) w

def resOne (tmps : Array Value) : ResultVar → Sem Value
  | .tmp t => pure (tmps.getD t undef)
  | .cell p t => do loadVar t (← asAddr (tmps.getD p undef))

theorem results_eq (fn : Func) (tmps : Array Value) : results fn tmps = (do
    let vs ← fn.results.mapM (resOne tmps)
    pure (if h : vs.size = 1 then vs[0] else .tuple vs)) := by
  unfold results
  congr 1

theorem pub1_spec {lo : List AObj} {v : FV} {R : PV → List AObj → Prop} (h : pub1 lo v R) : ∃ f lo', R f lo' ∧ ∀ (bs : Base) (N : Nat) (ρ : List Value) (H : PH) (e : Nat → FV) (a : Act) (w : World) (x : Value), Sat bs N ρ H e lo a w → RepF ρ H v x →
    ∃ H', PH.le H H' ∧ Sat bs N ρ H' e lo' a w ∧ RepP H' f x := by
  unfold pub1 at h
  split at h
  · rename_i k n
    obtain ⟨o, ho, h⟩ := nthK_spec h
    split at h
    · rename_i e z rows
      obtain ⟨h, _⟩ := setK_spec h
      refine ⟨_, _, h, fun bs N ρ H ev a w x s r => ?_⟩
      obtain ⟨H', hle, s', rp⟩ := s.toSatW.publish ho r.1
      exact ⟨H', hle, { s' with slots := fun t => (s.slots t).mono (List.prefix_refl _) hle, width := s.width, defers := s.defers }, rp⟩
    · exact h.elim
  · obtain ⟨p, h, hp⟩ := frzK_spec h
    exact ⟨_, _, h, fun bs N ρ H e a w x s r => ⟨H, PH.le.refl H, s, hp _ _ _ r⟩⟩
theorem pubL_spec : ∀ {cs : List FV} {lo : List AObj} {R : List PV → List AObj → Prop}, pubL cs lo R → ∃ ps lo', R ps lo' ∧ ∀ (bs : Base) (N : Nat) (ρ : List Value) (H : PH) (e : Nat → FV) (a : Act) (w : World) (vs : List Value), Sat bs N ρ H e lo a w → RepFL ρ H cs vs →
    ∃ H', PH.le H H' ∧ Sat bs N ρ H' e lo' a w ∧ RepL H' ps vs
  | [], lo, R, h => ⟨[], lo, h, fun bs N ρ H e a w vs s r => ⟨H, PH.le.refl H, s, by simp only [RepFL] at r; simp only [RepL]; exact r⟩⟩
  | v :: cs, lo, R, h => by
    simp only [pubL] at h
    obtain ⟨p, lo1, h, h1⟩ := pub1_spec h
    obtain ⟨ps, lo2, h, h2⟩ := pubL_spec h
    refine ⟨_, _, h, fun bs N ρ H e a w vs s r => ?_⟩
    obtain ⟨u, us, rfl, r1, rs⟩ := r
    obtain ⟨H1, hle1, s1, rp1⟩ := h1 bs N ρ H e a w u s r1
    obtain ⟨H2, hle2, s2, rp2⟩ := h2 bs N ρ H1 e a w us s1 (rs.mono (List.prefix_refl _) hle1)
    exact ⟨H2, hle1.trans hle2, s2, by simp only [RepL]; exact ⟨u, us, rfl, RepP.mono hle2 rp1, rp2⟩⟩

theorem pubK_spec {lo : List AObj} {v : FV} {R : FV → List AObj → Prop} (h : pubK lo v R) : ∃ f lo', R f lo' ∧ ∀ (bs : Base) (N : Nat) (ρ : List Value) (H : PH) (e : Nat → FV) (a : Act) (w : World) (x : Value), Sat bs N ρ H e lo a w → RepF ρ H v x →
    ∃ H', PH.le H H' ∧ Sat bs N ρ H' e lo' a w ∧ RepF ρ H' f x := by
  unfold pubK at h
  split at h
  · rename_i k n
    obtain ⟨o, ho, h⟩ := nthK_spec h
    split at h
    · rename_i e z rows
      obtain ⟨h, _⟩ := setK_spec h
      refine ⟨_, _, h, fun bs N ρ H ev a w x s r => ?_⟩
      obtain ⟨H', hle, s', rp⟩ := s.toSatW.publish ho r.1
      exact ⟨H', hle, { s' with slots := fun t => (s.slots t).mono (List.prefix_refl _) hle, width := s.width, defers := s.defers }, rp⟩
    · rename_i e z rows j kt
      obtain ⟨h, _⟩ := setK_spec h
      refine ⟨_, _, h, fun bs N ρ H ev a w x s r => ?_⟩
      have s1 := s.toSatW.view ho rfl (o' := .vec e z rows) rfl (fun v hv ok => vl_vec ok)
      have hkl : k < lo.length := (List.getElem?_eq_some_iff.1 ho).1
      have hk2 : (lo.set k (AObj.vec e z rows))[k]? = some (AObj.vec e z rows) := by simp [hkl]
      obtain ⟨H', hle, s', rp⟩ := s1.publish hk2 r.1
      rw [List.set_set] at s'
      exact ⟨H', hle, { s' with slots := fun t => (s.slots t).mono (List.prefix_refl _) hle, width := s.width, defers := s.defers }, rp⟩
    · exact h.elim
  · rename_i c
    obtain ⟨cs, h, hcs⟩ := chainK_spec h
    obtain ⟨ps, lo', h, hs⟩ := pubL_spec h
    refine ⟨_, _, h, fun bs N ρ H e a w x s r => ?_⟩
    obtain ⟨vs, rfl, rc⟩ := r
    obtain ⟨H', hle, s', rp⟩ := hs bs N ρ H e a w vs s (hcs _ _ _ rc)
    exact ⟨H', hle, s', by simp only [RepF, RepP]; exact ⟨vs, rfl, rp⟩⟩
  · exact ⟨_, _, h, fun bs N ρ H e a w x s r => ⟨H, PH.le.refl H, s, r⟩⟩

theorem resK_spec {P : Program} {E : Env} {lo : List AObj} {r : ResultVar} {R : FV → Prop} (h : resK P E lo r R) : ∃ f, R f ∧ ∀ (bs : Base) (N : Nat) (ρ : List Value) (H : PH) (a : Act) (w : World), Sat bs N ρ H (lookD E) lo a w →
    ∃ v, (resOne a.tmps r).run P w = .ok v w ∧ RepF ρ H f v := by
  cases r with
  | tmp t =>
    simp only [resK, look_eq] at h
    exact ⟨_, h, fun bs N ρ H a w s => ⟨a.tmps.getD t undef, rfl, s.slots t⟩⟩
  | cell q t =>
    simp only [resK, look_eq] at h
    obtain ⟨fv, h, hl⟩ := kLoad_spec h
    refine ⟨fv, h, fun bs N ρ H a w s => ?_⟩
    obtain ⟨ad, u, e, hr, ru⟩ := hl bs ρ H w _ s.toSatW (s.slots q)
    refine ⟨u, ?_, ru⟩
    simp only [Instr.loadAt, e, Instr.sureAddr, Sem.run_bind, Sem.run_pure, Result.andThen_ok] at hr
    simp only [resOne, e, asAddr, Sem.run_bind, Sem.run_pure, Result.andThen_ok, hr]

theorem resL_spec {P : Program} {E : Env} : ∀ {l : List ResultVar} {lo : List AObj} {R : List PV → Prop}, resL P E lo l R → ∃ ps, R ps ∧ ps.length = l.length ∧ ∀ (bs : Base) (N : Nat) (ρ : List Value) (H : PH) (a : Act) (w : World), Sat bs N ρ H (lookD E) lo a w →
    ∃ (vs : List Value) (H' : PH) (lo' : List AObj), (l.mapM (m := Sem) (resOne a.tmps)).run P w = .ok vs w ∧ RepL H' ps vs ∧ PH.le H H' ∧ Sat bs N ρ H' (lookD E) lo' a w
  | [], lo, R, h => ⟨[], h, rfl, fun bs N ρ H a w s => ⟨[], H, lo, by simp, by simp [RepL], PH.le.refl H, s⟩⟩
  | r :: rs, lo, R, h => by
    simp only [resL] at h
    obtain ⟨f, h, h1⟩ := resK_spec h
    obtain ⟨f', lo1, h, h2⟩ := pubK_spec h
    obtain ⟨p, h, hp⟩ := frzK_spec h
    obtain ⟨ps, h, hlen, h3⟩ := resL_spec h
    refine ⟨p :: ps, h, by simp [hlen], fun bs N ρ H a w s => ?_⟩
    obtain ⟨v, hv, rv⟩ := h1 bs N ρ H a w s
    obtain ⟨H1, hle1, s1, rv1⟩ := h2 bs N ρ H _ a w v s rv
    obtain ⟨vs, H2, lo2, hvs, rvs, hle2, s2⟩ := h3 bs N ρ H1 a w s1
    refine ⟨v :: vs, H2, lo2, ?_, by simp only [RepL]; exact ⟨v, vs, rfl, RepP.mono hle2 (hp _ _ _ rv1), rvs⟩, hle1.trans hle2, s2⟩
    simp only [List.mapM_cons, Sem.run_bind, hv, Result.andThen_ok, hvs, Sem.run_pure]

theorem ret_spec {P : Program} {fn : Func} {E : Env} {lo : List AObj} {x : AX} {R : PV → Prop} (h : retK P fn R x E lo) : ∃ p, R p ∧ (x = .normal ∨ x = .ret) ∧
    ∀ (bs : Base) (N : Nat) (ρ : List Value) (H : PH) (a : Act) (w : World), Sat bs N ρ H (lookD E) lo a w → ∃ (v : Value) (H' : PH) (lo' : List AObj), (results fn a.tmps).run P w = .ok v w ∧ RepP H' p v ∧ PH.le H H' ∧ Sat bs N ρ H' (lookD E) lo' a w := by
  have key : ∀ {x : AX}, (x = .normal ∨ x = .ret) → (resL P E lo fn.results.toList fun vs => match vs with
      | [v] => R v
      | vs => R (.tup vs)) → ∃ p, R p ∧ (x = .normal ∨ x = .ret) ∧
    ∀ (bs : Base) (N : Nat) (ρ : List Value) (H : PH) (a : Act) (w : World), Sat bs N ρ H (lookD E) lo a w → ∃ (v : Value) (H' : PH) (lo' : List AObj), (results fn a.tmps).run P w = .ok v w ∧ RepP H' p v ∧ PH.le H H' ∧ Sat bs N ρ H' (lookD E) lo' a w := by
    intro x hx h
    obtain ⟨ps, h, hpl, hs⟩ := resL_spec h
    clear hpl
    split at h
    · rename_i p
      refine ⟨p, h, hx, fun bs N ρ H a w s => ?_⟩
      obtain ⟨vs, H', lo', hr, rl, hle, s'⟩ := hs bs N ρ H a w s
      simp only [RepL] at rl
      obtain ⟨v, _, rfl, rv, rfl⟩ := rl
      refine ⟨v, H', lo', ?_, rv, hle, s'⟩
      rw [results_eq, Array.mapM_eq_mapM_toList]
      simp only [Sem.run_bind, Sem.run_map, hr, Result.andThen_ok]
      rfl
    · rename_i hne
      refine ⟨_, h, hx, fun bs N ρ H a w s => ?_⟩
      obtain ⟨vs, H', lo', hr, rl, hle, s'⟩ := hs bs N ρ H a w s
      refine ⟨.tuple vs.toArray, H', lo', ?_, by simp only [RepP]; exact ⟨vs, rfl, rl⟩, hle, s'⟩
      rw [results_eq, Array.mapM_eq_mapM_toList]
      simp only [Sem.run_bind, Sem.run_map, hr, Result.andThen_ok, Sem.run_pure]
      have : ¬ vs.toArray.size = 1 := by
        intro h1
        have hl := rl.length
        simp at h1
        rw [h1] at hl
        cases ps with
        | nil => simp at hl
        | cons a l => cases l with
          | nil => exact hne a rfl
          | cons b l => simp at hl
      simp only [this, dif_neg, not_false_eq_true]
  cases x with
  | normal => exact key (.inl rfl) h
  | exit i => exact h.elim
  | ret => exact key (.inr rfl) h

theorem initE_spec : ∀ (n : Nat) (args : List PV) (t : Nat), lookD (initE n args) t = match (if n ≤ t then args[t - n]? else none) with | some v => toF v | none => .top
  | n, [], t => by simp [initE, lookD]
  | n, v :: vs, t => by
    simp only [initE, lookD]
    cases hb : Nat.beq t n with
    | true =>
      have := Nat.eq_of_beq_eq_true hb
      subst this
      simp
    | false =>
      have hne : t ≠ n := fun e => by subst e; simp [Nat.beq_refl] at hb
      simp only
      rw [initE_spec (n + 1) vs t]
      by_cases h : n ≤ t
      · have h1 : n + 1 ≤ t := by omega
        have h2 : t - n = (t - (n + 1)) + 1 := by omega
        simp [h, h1, h2]
      · have h1 : ¬ n + 1 ≤ t := by omega
        simp [h, h1]

theorem CallsF.of_vcR {P : Program} {f : FuncId} {fn : Func} {args : List PV} {r : PV} {inl : List Nat} {R : PV → Prop} (hm : P.follows .mixedOrders = true) (he : Enters P f) (hf : P.funcs[f]? = some fn) (hok : fnOk inl fn args.length = true)
    (hR : ∀ (p : PV) (v : Value) (H : PH), R p → RepP H p v → RepP H r v) (h : vcFn P inl fn args R) : CallsF P f args r := by
  intro H w vs hs rl
  rw [he]
  refine ⟨rfl, ?_⟩
  simp only [fnOk, Bool.and_eq_true, decide_eq_true_eq] at hok
  obtain ⟨hd, hn⟩ := hok
  unfold vcFn at h
  cases hb : fn.body with
  | none => simp [hb] at hd
  | some c =>
    simp only [hb] at h hd
    refine calls_of_wp hf hb ?_
    have hl := rl.length
    have sat : Sat { S := Nobody, w0 := w, H0 := H, r0 := [] } fn.ntmps [] H (lookD (initE 0 args)) [] { tmps := vs.toArray ++ Array.replicate (fn.ntmps - vs.toArray.size) undef, defers := [] } w := by
      refine { sath := hs, hlen := rfl, pre := List.prefix_refl _, objs := fun k o v h => by simp at h, excl := fun k _ o _ v _ b h => by simp at h, own := fun k o v b h => by simp at h, keep := Keep.refl _ w, leH := PH.le.refl H, newH := fun b o v h => .inl ⟨v, h⟩, slots := fun t => ?_, width := by simp; omega, defers := rfl }
      rw [initE_spec]
      simp only [Nat.zero_le, if_true, Nat.sub_zero]
      cases ht : args[t]? with
      | none => trivial
      | some p =>
        obtain ⟨v, hv, rv⟩ := rl.get ht
        have hlt := (List.getElem?_eq_some_iff.1 hv).1
        have : (vs.toArray ++ Array.replicate (fn.ntmps - vs.toArray.size) undef).getD t undef = v := by
          rw [Array.getD_eq_getD_getElem?, Array.getElem?_append_left (by simpa using hlt)]
          simp [hv]
        rw [this]
        exact toF_rep rv
    refine wp_mono (vc_sound hm c _ _ _ hd h _ [] H _ w rfl sat) fun e a w' p => ?_
    obtain ⟨x, ρ', H', E', lo', hx, s', k⟩ := p
    obtain ⟨p, hp, hxx, hres⟩ := ret_spec k
    obtain ⟨v, H2, lo2, hv, rv, hle, s2⟩ := hres _ _ ρ' H' a w' s'
    have fin : ∃ v, (results fn a.tmps).run P w' = .ok v w' ∧ (fun e w'' => ∃ v H', e = Ending.returned v ∧ Calm H w H' w'' ∧ RepP H' r v) (.returned v) w' :=
      ⟨v, hv, v, H2, rfl, ⟨s2.leH, s2.sath, s2.keep, fun b o v hv => by
        rcases s2.newH b o v hv with h | h | h
        · exact .inl h
        · exact h.elim
        · exact .inr h⟩, hR p v H2 hp rv⟩
    rcases hxx with rfl | rfl <;> cases e <;> simp only [AXis] at hx
    · exact ⟨s'.defers, fin⟩
    · exact ⟨s'.defers, fin⟩

theorem CallsF.of_vc {P : Program} {f : FuncId} {fn : Func} {args : List PV} {r : PV} {inl : List Nat} (hm : P.follows .mixedOrders = true) (he : Enters P f) (hf : P.funcs[f]? = some fn) (hok : fnOk inl fn args.length = true)
    (h : vcFn P inl fn args (fun v => v = r)) : CallsF P f args r :=
  CallsF.of_vcR (R := fun v => v = r) hm he hf hok (fun _ _ _ e x => e ▸ x) h

end Ax
end
section
namespace Ax
open Go

/-- Whose blocks a callee may write: those of the objects at hand. -/
def lent (ρ : List Value) (lo : List AObj) : Nat → Prop := fun b => ∃ (k : Nat) (o : AObj) (v : Value), lo[k]? = some o ∧ ρ[k]? = some v ∧ o.live = true ∧ blkOf v = some b

theorem SatW.lend {bs : Base} {ρ : List Value} {H : PH} {lo : List AObj} {w : World} (s : SatW bs ρ H lo w) : SatW { S := lent ρ lo, w0 := w, H0 := H, r0 := ρ } ρ H lo w where
  sath := s.sath
  hlen := s.hlen
  pre := List.prefix_refl _
  objs := s.objs
  excl := s.excl
  own := fun k o v b hk hv hl hb => .inl ⟨k, o, v, hk, hv, hl, hb⟩
  keep := Keep.refl _ w
  leH := PH.le.refl H
  newH := fun b o v h => .inl ⟨v, h⟩

theorem SatW.back {bs : Base} {ρ ρ' : List Value} {H H' : PH} {lo lo' : List AObj} {w w' : World} (s : SatW bs ρ H lo w) (s' : SatW { S := lent ρ lo, w0 := w, H0 := H, r0 := ρ } ρ' H' lo' w') : SatW bs ρ' H' lo' w' := by
  have hS : ∀ b, lent ρ lo b → bs.S b ∨ bs.w0.heap.size ≤ b := fun b ⟨k, o, v, hk, hv, hl, hb⟩ => s.own k o v b hk hv hl hb
  refine { sath := s'.sath, hlen := s'.hlen, pre := s.pre.trans s'.pre, objs := s'.objs, excl := s'.excl, own := fun k o v b hk hv hl hb => ?_, keep := s.keep.step s'.keep hS, leH := s.leH.trans s'.leH, newH := fun b o v hv => ?_ }
  · rcases s'.own k o v b hk hv hl hb with h | h
    · exact hS b h
    · exact .inr (Nat.le_trans s.keep.size h)
  · rcases s'.newH b o v hv with ⟨u, hu⟩ | h | h
    · exact s.newH b o u hu
    · exact .inr (hS b h)
    · exact .inr (.inr (Nat.le_trans s.keep.size h))

def initF : Nat → List FV → Env
  | _, [] => []
  | n, v :: vs => (n, v) :: initF (n + 1) vs

theorem initF_spec : ∀ (n : Nat) (args : List FV) (t : Nat), lookD (initF n args) t = (if n ≤ t then args[t - n]? else none).getD .top
  | n, [], t => by simp [initF, lookD]
  | n, v :: vs, t => by
    simp only [initF, lookD]
    cases hb : Nat.beq t n with
    | true =>
      have := Nat.eq_of_beq_eq_true hb
      subst this
      simp
    | false =>
      have hne : t ≠ n := fun e => by subst e; simp [Nat.beq_refl] at hb
      simp only
      rw [initF_spec (n + 1) vs t]
      by_cases h : n ≤ t
      · have h1 : n + 1 ≤ t := by omega
        have h2 : t - n = (t - (n + 1)) + 1 := by omega
        simp [h, h1, h2]
      · have h1 : ¬ n + 1 ≤ t := by omega
        simp [h, h1]

theorem RepFL.get {ρ : List Value} {H : PH} : ∀ {cs : List FV} {vs : List Value} {i : Nat} {c : FV}, RepFL ρ H cs vs → cs[i]? = some c → ∃ v, vs[i]? = some v ∧ RepF ρ H c v
  | [], _, _, _, _, h => by simp at h
  | c :: cs, vs, i, c', x, h => by
    obtain ⟨v, vs', rfl, r, rs⟩ := x
    cases i with
    | zero => simp at h; subst h; exact ⟨v, by simp, r⟩
    | succ i => simp at h; obtain ⟨u, hu, ru⟩ := rs.get h; exact ⟨u, by simpa using hu, ru⟩

/-- Two values: frozen, or as they are. -/
def twoK (v1 v2 : FV) (R : FV → Prop) : Prop :=
  match v1 with
  | .p p1 => match v2 with
    | .p p2 => R (.p (.tup [p1, p2]))
    | .tsl _ rows => R (.p (.tup [p1, .sl rows]))
    | v2 => R (.pair (.p p1) v2)
  | .tsl _ rows1 => match v2 with
    | .p p2 => R (.p (.tup [.sl rows1, p2]))
    | .tsl _ rows => R (.p (.tup [.sl rows1, .sl rows]))
    | v2 => R (.pair (.p (.sl rows1)) v2)
  | v1 => match v2 with
    | .tsl _ rows => R (.pair v1 (.p (.sl rows)))
    | v2 => R (.pair v1 v2)
def frL (P : Program) (E : Env) (lo : List AObj) : List ResultVar → (List PV → Prop) → Prop
  | [], R => R []
  | r :: rs, R => resK P E lo r fun v => frzK v fun v => frL P E lo rs fun l => R (v :: l)
theorem twoK_spec {v1 v2 : FV} {R : FV → Prop} (h : twoK v1 v2 R) : ∃ v, R v ∧ ∀ (ρ : List Value) (H : PH) (x y : Value), RepF ρ H v1 x → RepF ρ H v2 y → RepF ρ H v (.tuple #[x, y]) := by
  have pp : ∀ (p1 p2 : PV) (ρ : List Value) (H : PH) (x y : Value), RepP H p1 x → RepP H p2 y → RepF ρ H (.p (.tup [p1, p2])) (.tuple #[x, y]) := fun p1 p2 ρ H x y r1 r2 => by
    simp only [RepF, RepP]
    exact ⟨[x, y], rfl, by simp only [RepL]; exact ⟨x, _, rfl, r1, y, [], rfl, r2, rfl⟩⟩
  unfold twoK at h
  split at h
  · split at h
    · exact ⟨_, h, fun ρ H x y r1 r2 => pp _ _ ρ H x y r1 r2⟩
    · exact ⟨_, h, fun ρ H x y r1 r2 => pp _ _ ρ H x y r1 r2.2⟩
    · exact ⟨_, h, fun ρ H x y r1 r2 => ⟨x, y, rfl, r1, r2⟩⟩
  · split at h
    · exact ⟨_, h, fun ρ H x y r1 r2 => pp _ _ ρ H x y r1.2 r2⟩
    · exact ⟨_, h, fun ρ H x y r1 r2 => pp _ _ ρ H x y r1.2 r2.2⟩
    · exact ⟨_, h, fun ρ H x y r1 r2 => ⟨x, y, rfl, r1.2, r2⟩⟩
  · split at h
    · exact ⟨_, h, fun ρ H x y r1 r2 => ⟨x, y, rfl, r1, r2.2⟩⟩
    · exact ⟨_, h, fun ρ H x y r1 r2 => ⟨x, y, rfl, r1, r2⟩⟩
theorem frL_spec {P : Program} {E : Env} {lo : List AObj} : ∀ {l : List ResultVar} {R : List PV → Prop}, frL P E lo l R → ∃ ps, R ps ∧ ps.length = l.length ∧ ∀ (bs : Base) (N : Nat) (ρ : List Value) (H : PH) (a : Act) (w : World), Sat bs N ρ H (lookD E) lo a w →
    ∃ vs : List Value, (l.mapM (m := Sem) (resOne a.tmps)).run P w = .ok vs w ∧ RepL H ps vs
  | [], R, h => ⟨[], h, rfl, fun bs N ρ H a w s => ⟨[], by simp, by simp [RepL]⟩⟩
  | r :: rs, R, h => by
    simp only [frL] at h
    obtain ⟨f, h, h1⟩ := resK_spec h
    obtain ⟨p, h, hp⟩ := frzK_spec h
    obtain ⟨ps, h, hlen, h2⟩ := frL_spec h
    refine ⟨p :: ps, h, by simp [hlen], fun bs N ρ H a w s => ?_⟩
    obtain ⟨v, hv, rv⟩ := h1 bs N ρ H a w s
    obtain ⟨vs, hvs, rvs⟩ := h2 bs N ρ H a w s
    refine ⟨v :: vs, ?_, by simp only [RepL]; exact ⟨v, vs, rfl, hp _ _ _ rv, rvs⟩⟩
    simp only [List.mapM_cons, Sem.run_bind, hv, Result.andThen_ok, hvs, Sem.run_pure]

def retI (P : Program) (fn : Func) (R : FV → List AObj → Prop) : KA := fun x E lo => match x with
  | .exit _ => False
  | _ => match fn.results.toList with
    | [r] => resK P E lo r fun v => R v lo
    | [] => R (.p (.tup [])) lo
    | [r1, r2] => resK P E lo r1 fun v1 => resK P E lo r2 fun v2 => twoK v1 v2 fun v => R v lo
    | r :: rs => frL P E lo (r :: rs) fun vs => R (.p (.tup vs)) lo

def vcI (P : Program) (inl : List Nat) (fn : Func) (args : List FV) (lo : List AObj) (R : FV → List AObj → Prop) : Prop :=
  match fn.body with
  | some c => lenK lo 0 fun nb => vc P inl fn.ntmps nb c (retI P fn R) (initF 0 args) lo
  | none => False

theorem retI_spec {P : Program} {fn : Func} {E : Env} {lo : List AObj} {x : AX} {R : FV → List AObj → Prop} (h : retI P fn R x E lo) : ∃ p, R p lo ∧ (x = .normal ∨ x = .ret) ∧
    ∀ (bs : Base) (N : Nat) (ρ : List Value) (H : PH) (a : Act) (w : World), Sat bs N ρ H (lookD E) lo a w → ∃ v, (results fn a.tmps).run P w = .ok v w ∧ RepF ρ H p v := by
  have key : ∀ {x : AX}, (x = .normal ∨ x = .ret) → (match fn.results.toList with
    | [r] => resK P E lo r fun v => R v lo
    | [] => R (.p (.tup [])) lo
    | [r1, r2] => resK P E lo r1 fun v1 => resK P E lo r2 fun v2 => twoK v1 v2 fun v => R v lo
    | r :: rs => frL P E lo (r :: rs) fun vs => R (.p (.tup vs)) lo) → ∃ p, R p lo ∧ (x = .normal ∨ x = .ret) ∧
    ∀ (bs : Base) (N : Nat) (ρ : List Value) (H : PH) (a : Act) (w : World), Sat bs N ρ H (lookD E) lo a w → ∃ v, (results fn a.tmps).run P w = .ok v w ∧ RepF ρ H p v := by
    intro x hx h
    split at h
    · rename_i r hr
      obtain ⟨f, h, hs⟩ := resK_spec h
      refine ⟨f, h, hx, fun bs N ρ H a w s => ?_⟩
      obtain ⟨v, hv, rv⟩ := hs bs N ρ H a w s
      refine ⟨v, ?_, rv⟩
      rw [results_eq, Array.mapM_eq_mapM_toList, hr]
      simp only [List.mapM_cons, List.mapM_nil, Sem.run_bind, Sem.run_map, hv, Result.andThen_ok, Sem.run_pure]
      rfl
    · rename_i hr
      refine ⟨_, h, hx, fun bs N ρ H a w s => ⟨.tuple #[], ?_, by simp only [RepF, RepP]; exact ⟨[], rfl, rfl⟩⟩⟩
      rw [results_eq, Array.mapM_eq_mapM_toList, hr]
      simp only [List.mapM_nil, Sem.run_bind, Sem.run_map, Result.andThen_ok, Sem.run_pure]
      rfl
    · rename_i r1 r2 hr
      obtain ⟨f1, h, hs1⟩ := resK_spec h
      obtain ⟨f2, h, hs2⟩ := resK_spec h
      obtain ⟨f, h, hs⟩ := twoK_spec h
      refine ⟨f, h, hx, fun bs N ρ H a w s => ?_⟩
      obtain ⟨v1, hv1, rv1⟩ := hs1 bs N ρ H a w s
      obtain ⟨v2, hv2, rv2⟩ := hs2 bs N ρ H a w s
      refine ⟨.tuple #[v1, v2], ?_, hs _ _ _ _ rv1 rv2⟩
      rw [results_eq, Array.mapM_eq_mapM_toList, hr]
      simp only [List.mapM_cons, List.mapM_nil, Sem.run_bind, Sem.run_map, hv1, hv2, Result.andThen_ok, Sem.run_pure]
      rfl
    · rename_i r rs hne1 hne2 hr
      obtain ⟨ps, h, hpl, hs⟩ := frL_spec h
      refine ⟨_, h, hx, fun bs N ρ H a w s => ?_⟩
      obtain ⟨vs, hr', rl⟩ := hs bs N ρ H a w s
      refine ⟨.tuple vs.toArray, ?_, by simp only [RepF, RepP]; exact ⟨vs, rfl, rl⟩⟩
      rw [results_eq, Array.mapM_eq_mapM_toList, hr]
      simp only [Sem.run_bind, Sem.run_map, hr', Result.andThen_ok, Sem.run_pure]
      have : ¬ vs.toArray.size = 1 := by
        intro h1
        simp at h1
        have hl : vs.length = (r :: rs).length := by rw [rl.length, hpl]
        rw [h1] at hl
        cases rs with
        | nil => exact hne1 rfl
        | cons b l => simp at hl
      simp only [this, dif_neg, not_false_eq_true]
  cases x with
  | normal => exact key (.inl rfl) h
  | exit i => exact h.elim
  | ret => exact key (.inr rfl) h

theorem CallsI.of_vc {P : Program} {f : FuncId} {fn : Func} {args : List FV} {lo : List AObj} {R : FV → List AObj → Prop} {inl : List Nat} (hm : P.follows .mixedOrders = true) (he : Enters P f) (hf : P.funcs[f]? = some fn) (hok : fnOk inl fn args.length = true)
    (h : vcI P inl fn args lo R) : CallsI P f args lo R := by
  intro bs ρ H w vs s rl
  rw [he]
  refine ⟨rfl, ?_⟩
  simp only [fnOk, Bool.and_eq_true, decide_eq_true_eq] at hok
  obtain ⟨hd, hn⟩ := hok
  unfold vcI at h
  cases hb : fn.body with
  | none => simp [hb] at hd
  | some c =>
    simp only [hb] at h hd
    have h := lenK_spec h
    rw [Nat.zero_add] at h
    refine calls_of_wp hf hb ?_
    have hl := rl.length
    have sat : Sat { S := lent ρ lo, w0 := w, H0 := H, r0 := ρ } fn.ntmps ρ H (lookD (initF 0 args)) lo { tmps := vs.toArray ++ Array.replicate (fn.ntmps - vs.toArray.size) undef, defers := [] } w := by
      refine { s.lend with slots := fun t => ?_, width := by simp; omega, defers := rfl }
      rw [initF_spec]
      simp only [Nat.zero_le, if_true, Nat.sub_zero]
      cases ht : args[t]? with
      | none => trivial
      | some p =>
        obtain ⟨v, hv, rv⟩ := rl.get ht
        have hlt := (List.getElem?_eq_some_iff.1 hv).1
        have : (vs.toArray ++ Array.replicate (fn.ntmps - vs.toArray.size) undef).getD t undef = v := by
          rw [Array.getD_eq_getD_getElem?, Array.getElem?_append_left (by simpa using hlt)]
          simp [hv]
        rw [this]
        exact rv
    refine wp_mono (vc_sound hm c _ _ _ hd h _ ρ H _ w s.hlen sat) fun e a w' p => ?_
    obtain ⟨x, ρ', H', E', lo', hx, s', k⟩ := p
    obtain ⟨p, hR, hxx, hres⟩ := retI_spec k
    obtain ⟨v, hv, rv⟩ := hres _ _ ρ' H' a w' s'
    have fin : ∃ v, (results fn a.tmps).run P w' = .ok v w' ∧ (fun en w'' => ∃ v r lo', en = Ending.returned v ∧ After bs ρ H r lo' v w'' ∧ R r lo') (.returned v) w' :=
      ⟨v, hv, v, p, lo', rfl, ⟨ρ', H', s'.pre, s'.leH, s.back s'.toSatW, rv⟩, hR⟩
    rcases hxx with rfl | rfl <;> cases e <;> simp only [AXis] at hx
    · exact ⟨s'.defers, fin⟩
    · exact ⟨s'.defers, fin⟩

end Ax
end
section
namespace Ax
open Go

/-- api.Value -/
inductive Val where
  | mk (kind : Int) (b : Bool) (i : Int) (s : List UInt8) (l : List Val) (k : List (List UInt8))

def strs (l : List (List UInt8)) : List (List PV) := l.map fun s => [.str s]

mutual
def Val.cells : Val → List PV
  | .mk k b i s l ks => [.int .i64 k, .bool b, .int .i64 i, .str s, .sl (Val.rows l), .sl (strs ks)]
def Val.rows : List Val → List (List PV)
  | [] => []
  | v :: l => v.cells :: Val.rows l
end

abbrev Val.pv (v : Val) : PV := .agg v.cells
def vals (l : List Val) : List (List PV) := l.map Val.cells

theorem rows_eq : ∀ l : List Val, Val.rows l = vals l
  | [] => rfl
  | v :: l => by simp only [Val.rows, vals, List.map_cons]; rw [rows_eq l]; rfl

@[simp] theorem strs_length (l : List (List UInt8)) : (strs l).length = l.length := by simp [strs]
@[simp] theorem vals_length (l : List Val) : (vals l).length = l.length := by simp [vals]
theorem cells_length (v : Val) : v.cells.length = 6 := by cases v; rfl
theorem strs_get {l : List (List UInt8)} {i : Nat} {s : List UInt8} (h : l[i]? = some s) : (strs l)[i]? = some [.str s] := by simp [strs, h]
theorem vals_get {l : List Val} {i : Nat} {v : Val} (h : l[i]? = some v) : (vals l)[i]? = some v.cells := by simp [vals, h]
theorem strs_wide (l : List (List UInt8)) : ∀ r ∈ strs l, r.length = 1 := by
  intro r hr
  simp only [strs, List.mem_map] at hr
  obtain ⟨s, _, rfl⟩ := hr
  rfl
theorem vals_wide (l : List Val) : ∀ r ∈ vals l, r.length = 6 := by
  intro r hr
  simp only [vals, List.mem_map] at hr
  obtain ⟨v, _, rfl⟩ := hr
  exact cells_length v

theorem wrap_ok (n : Int) (h0 : -9223372036854775808 ≤ n) (h1 : n ≤ 9223372036854775807) : IntKind.i64.wrap n = n := IntWalk.i64_in n ⟨h0, h1⟩

theorem strs_getD {l : List (List UInt8)} {i : Nat} (h : i < l.length) : (strs l)[i]? = some [.str (l.getD i [])] :=
  strs_get (by rw [List.getD_eq_getElem?_getD, List.getElem?_eq_getElem h]; rfl)

instance : Inhabited Val := ⟨.mk 0 false 0 [] [] []⟩
theorem vals_getD {l : List Val} {i : Nat} (h : i < l.length) : (vals l)[i]? = some (l.getD i default).cells :=
  vals_get (by rw [List.getD_eq_getElem?_getD, List.getElem?_eq_getElem h]; rfl)

/-- None of the first i, and not i: none of the first i + 1. -/
theorem lt_succ_none {p : Nat → Prop} {i : Nat} (h : ∀ j, j < i → p j) (hi : p i) : ∀ j, j < i + 1 → p j := fun j hj => by
  rcases Nat.lt_or_ge j i with h1 | h1
  · exact h j h1
  · have : j = i := by omega
    exact this ▸ hi

theorem all_range_false {n : Nat} {f : Nat → Bool} {i : Nat} (hi : i < n) (h : f i = true) : (List.range n).all (fun i => !f i) = false := by
  rw [List.all_eq_false]
  exact ⟨i, List.mem_range.2 hi, by simp [h]⟩
theorem all_range_true {n : Nat} {f : Nat → Bool} (h : ∀ i, i < n → f i = false) : (List.range n).all (fun i => !f i) = true := by
  rw [List.all_eq_true]
  intro i hi
  simp [h i (List.mem_range.1 hi)]

theorem toNat_pred (i : Nat) (h : 0 < i) : ((i : Int) - 1).toNat = i - 1 := by omega
theorem wrap_nat (i : Nat) (h : i < 1152921504606846976) : IntKind.i64.wrap (↑i + 1) = ((i + 1 : Nat) : Int) := by rw [wrap_ok _ (by omega) (by omega)]; omega
theorem wrap_predN (i : Nat) (h : i < 1152921504606846976) : IntKind.i64.wrap (↑i - 1) = (i : Int) - 1 := wrap_ok _ (by omega) (by omega)

end Ax
end
section
namespace Ax
open Go

def kbig : List (List UInt8) → Nat
  | [] => 0
  | k :: l => k.length + 1 + kbig l
mutual
def Val.big : Val → Nat
  | .mk _ _ _ s l ks => 1 + s.length + bigs l + kbig ks
def bigs : List Val → Nat
  | [] => 0
  | v :: l => Val.big v + bigs l
end

theorem Val.big_pos (v : Val) : 1 ≤ v.big := by cases v; simp only [Val.big]; omega
theorem bigs_len (l : List Val) : l.length ≤ bigs l := by
  induction l with
  | nil => exact Nat.le_refl _
  | cons v l ih => simp only [bigs, List.length_cons]; have := v.big_pos; omega
theorem kbig_len (l : List (List UInt8)) : l.length ≤ kbig l := by
  induction l with
  | nil => exact Nat.le_refl _
  | cons v l ih => simp only [kbig, List.length_cons]; omega
theorem bigs_get {l : List Val} {i : Nat} (h : i < l.length) : (l.getD i default).big ≤ bigs l := by
  induction l generalizing i with
  | nil => cases h
  | cons v l ih =>
    cases i with
    | zero => simp only [List.getD_cons_zero, bigs]; omega
    | succ i => simp only [List.getD_cons_succ, bigs]; have := ih (Nat.lt_of_succ_lt_succ h); omega
theorem bigs_drop (l : List Val) (i : Nat) (h : i < l.length) : bigs (l.drop i) = (l.getD i default).big + bigs (l.drop (i + 1)) := by
  induction l generalizing i with
  | nil => cases h
  | cons v l ih =>
    cases i with
    | zero => simp [bigs]
    | succ i => simp only [List.drop_succ_cons, List.getD_cons_succ]; exact ih i (Nat.lt_of_succ_lt_succ h)
theorem kbig_get {l : List (List UInt8)} {i : Nat} (h : i < l.length) : (l.getD i []).length + 1 ≤ kbig l := by
  induction l generalizing i with
  | nil => cases h
  | cons v l ih =>
    cases i with
    | zero => simp only [List.getD_cons_zero, kbig]; omega
    | succ i => simp only [List.getD_cons_succ, kbig]; have := ih (Nat.lt_of_succ_lt_succ h); omega
theorem vals_at {l : List Val} {i : Nat} {v : Val} (h : i < l.length) (e : l.getD i default = v) : (vals l)[i]? = some v.cells := e ▸ vals_getD h
theorem drop_getD {α : Type} {l : List α} {i : Nat} (d : α) (h : i < l.length) : l.drop i = l.getD i d :: l.drop (i + 1) := by
  rw [List.drop_eq_getElem_cons h, List.getD_eq_getElem?_getD, List.getElem?_eq_getElem h]; rfl
end Ax
end
section
namespace Ax
open Go

theorem bl_total : ∀ a b : List UInt8, (Op.bytesLess a b || a == b) = !Op.bytesLess b a
  | [], [] => rfl
  | [], _ :: _ => rfl
  | _ :: _, [] => rfl
  | x :: xs, y :: ys => by
    have ih := bl_total xs ys
    simp only [Op.bytesLess]
    rcases Nat.lt_trichotomy x.toNat y.toNat with h | h | h
    · have h1 : x < y := UInt8.lt_iff_toNat_lt.2 h
      have h2 : ¬ y < x := fun h' => by have := UInt8.lt_iff_toNat_lt.1 h'; omega
      have h3 : ¬ y = x := fun h' => by subst h'; omega
      simp [h1, h2, h3]
    · have h1 : x = y := UInt8.toNat.inj h
      subst h1
      have h2 : ¬ x < x := fun h' => by have := UInt8.lt_iff_toNat_lt.1 h'; omega
      simp only [h2, List.cons_beq_cons]
      simpa using ih
    · have h1 : ¬ x < y := fun h' => by have := UInt8.lt_iff_toNat_lt.1 h'; omega
      have h2 : y < x := UInt8.lt_iff_toNat_lt.2 h
      have h3 : ¬ x = y := fun h' => by subst h'; omega
      simp [h1, h2, h3]
end Ax
end
section
namespace Ax
open Go

def roundsA (P : Program) (inl : List Nat) (N nb : Nat) (body : Code) (K : KA) : Nat → Env → List AObj → Prop
  | 0, _, _ => False
  | n + 1, E, lo => vc P inl N nb body (fun x E' lo' => match x with
      | .normal => roundsA P inl N nb body K n E' lo'
      | .exit i => K (.exit i) E' lo'
      | .ret => K .ret E' lo') E lo

theorem LoopA.rounds {P : Program} (inl : List Nat) {N nb : Nat} {body : Code} {K : KA} {E : Env} {lo : List AObj} (n : Nat)
    (h : roundsA P inl N nb body K n E lo) : LoopA P inl N nb body K E lo := by
  intro hm hd bs ρ H a w hb sat
  subst hb
  refine wp_loop_ghost (I := fun n a w => ∃ ρ H E lo, roundsA P inl N bs.r0.length body K n E lo ∧ Sat bs N ρ H (lookD E) lo a w) n ⟨ρ, H, E, lo, h, sat⟩ fun n a w ⟨ρ, H, E, lo, hr, sat⟩ => ?_
  cases n with
  | zero => exact hr.elim
  | succ n =>
    refine wp_mono (vc_sound hm body _ _ _ hd hr bs ρ H a w rfl sat) fun e a w p => ?_
    obtain ⟨x, ρ2, H2, E2, lo2, hx, sat2, k⟩ := p
    cases x <;> cases e <;> simp only [AXis] at hx
    · exact ⟨n, Nat.lt_succ_self _, ρ2, H2, E2, lo2, k, sat2⟩
    · exact ⟨.exit _, ρ2, H2, E2, lo2, hx, sat2, k⟩
    · exact ⟨.ret, ρ2, H2, E2, lo2, trivial, sat2, k⟩
end Ax
end
section
namespace Ax
open Go

/-- internal/abi.NoEscape: what is handed in. -/
theorem CallsI.noEscape {P : Program} {f : FuncId} {fn : Func} (hf : P.funcs[f]? = some fn) (hname : (fn.name == "runtime.NumGoroutine") = false) (hb : fn.body.isNone = true) (hn : Extern.findNext fn = none)
    (he : Extern.find fn = some Extern.AbiNoEscape.same) {v : FV} {lo : List AObj} {R : FV → List AObj → Prop} (h : R v lo) : CallsI P f [v] lo R := by
  intro bs ρ H w vs s rl
  simp only [RepFL] at rl
  obtain ⟨v', _, rfl, rv, rfl⟩ := rl
  rw [show ([v'] : List Value).toArray = #[v'] from rfl, run_callFunc_extern hf hname hb hn he]
  exact ⟨v, lo, ⟨ρ, H, List.prefix_refl _, PH.le.refl H, s, rv⟩, h⟩
end Ax
end
section
namespace Go.Proofs
open Go Go.Shelf Go.RowKit Ax
variable {P : Program} {ρ : Ren}

def StrPost (l : List UInt8) (v : Value) (w : World) (e : Ending) (w' : World) : Prop :=
  e = .returned (.string ⟨l.toArray⟩) ∧ (w' = w.drew ∨ (∃ g n, blkOf v = some g ∧ w' = w.drew.freeze ⟨g, 0, none⟩ n) ∨ ∃ o, w' = w.drew.alloc o)

set_option maxHeartbeats 2000000 in
set_option maxRecDepth 100000 in
theorem Any.String_exact (L : Lays.n169 P ρ) (X : Builder.Extra P ρ) (b : Nat) (l : List UInt8) (w : World) (p v : Value) (hbk : w.heap[b]? = some (.cells #[p, v] (ρ.t 72) (0, 0)))
    (hown : w.ownsRow 0 (ρ.t 5) 1 v l.length (Lib.byteCells l)) (h0 : l ≠ []) :
    Calls P (ρ.f 169) #[.pointer (some ⟨b, 0, none⟩)] w (StrPost l v w) := by
  have hl0 : l.length ≠ 0 := by simpa using h0
  obtain ⟨g, cap, cur, rfl, hg, hnc, hcm, hcs, htake⟩ : ∃ g cap cur, v = .slice (some ⟨g, 0, none⟩) l.length cap ∧ w.heap[g]? = some (.cells cur (ρ.t 5) (0, 0)) ∧ l.length ≤ cap ∧ cap ≤ maxLen ∧ cur.size = cap * 1 ∧ cur.toList.take (l.length * 1) = Lib.byteCells l := by
    rcases hown.2 with ⟨_, hz⟩ | ⟨g, cap, cur, hv, _, r⟩
    · exact absurd hz hl0
    · exact ⟨g, cap, cur, hv, r⟩
  have c1 : w.drew.cell? ⟨b, 1, none⟩ = some (.slice (some ⟨g, 0, none⟩) l.length cap) := by
    have : w.drew.heap[b]? = some (.cells #[p, .slice (some ⟨g, 0, none⟩) l.length cap] (ρ.t 72) (0, 0)) := hbk
    rw [Lib.cell_of_heap this]; rfl
  have hSD : (Builtin.unsafeSliceData_ #[(ρ.t 37)] (ρ.t 127) #[.slice (some ⟨g, 0, none⟩) l.length cap]).run P w.drew = .ok (.pointer (some ⟨g, 0, none⟩)) w.drew :=
    Lib.run_unsafeSliceData_row _ _ _ _ _ _ (by omega)
  have hUS : (Builtin.unsafeString_ #[(ρ.t 127), (ρ.t 3)] (ρ.t 9) #[.pointer (some ⟨g, 0, none⟩), .int .i64 l.length]).run P w.drew = .ok (.string ⟨l.toArray⟩) (w.drew.freeze ⟨g, 0, none⟩ l.length) := by
    refine Lib.run_unsafeString_row w.drew (ρ.t 127) (ρ.t 3) (ρ.t 9) (ρ.t 5) L.t127 X.cellsByte g cur.size (by have hg' : w.drew.heap[g]? = some (.cells cur (ρ.t 5) (0, 0)) := hg; simp [World.shape?, hg']) l h0 (by omega) (by unfold maxLen at hcm; omega) ?_
    intro j x hx
    exact hown.cells (g := g) rfl j (.int .u8 x.toNat) (by simp [Lib.byteCells, hx])
  have mixed := L.mixed
  have t72 := L.t72; have a72 := L.a72; have z72 := L.z72; have v72 := L.v72; have u72 := run_underlying L.t72
  have t70 := L.t70; have a70 := L.a70; have z70 := L.z70; have v70 := L.v70; have u70 := run_underlying L.t70
  have t37 := L.t37; have a37 := L.a37; have z37 := L.z37; have v37 := L.v37; have u37 := run_underlying L.t37
  have t127 := L.t127; have a127 := L.a127; have z127 := L.z127; have v127 := L.v127; have u127 := run_underlying L.t127
  have t3 := L.t3; have a3 := L.a3; have z3 := L.z3; have v3 := L.v3; have u3 := run_underlying L.t3
  have t9 := L.t9; have a9 := L.a9; have z9 := L.z9; have v9 := L.v9; have u9 := run_underlying L.t9
  have t5 := X.t5; have a5 := X.a5; have z5 := X.z5; have v5 := X.v5; have u5 := run_underlying X.t5
  go_enter L.f169, Body.n169_ntmps ρ
  go_wp2
  go_region_o
  all_goals (go_wp2; go_ret; exact ⟨rfl, .inr (.inl ⟨g, l.length, rfl, rfl⟩)⟩)
theorem Any.String_empty (L : Lays.n169 P ρ) (X : Builder.Extra P ρ) (b : Nat) (w : World) (p v : Value) (hbk : w.heap[b]? = some (.cells #[p, v] (ρ.t 72) (0, 0)))
    (hown : w.ownsRow 0 (ρ.t 5) 1 v 0 []) :
    Calls P (ρ.f 169) #[.pointer (some ⟨b, 0, none⟩)] w fun e w' => e = .returned (.string ⟨#[]⟩) ∧ Below w.heap.size w w' := by
  rcases hown.2 with ⟨rfl, _⟩ | ⟨g, cap, cur, rfl, _, hg, _, _, _, _⟩
  · exact Any.Builder_String_nil L X _ b p w hbk
  · by_cases hc0 : cap = 0
    · subst hc0
      exact Any.Builder_String_noroom L X _ b g p cur w (Nat.le_refl _) hbk hg
    · exact Any.Builder_String_room L X _ b g cap p w hc0 hbk
end Go.Proofs
end
section
namespace Ax
open Go Go.Proofs Go.RowKit

/-- Another world in which all but v's block is as it was, and its cells are. -/
structure Shut (v : Value) (w w' : World) : Prop where
  os : w'.os = w.os
  tape : w'.tape = w.tape
  output : w'.output = w.output
  size : w.heap.size ≤ w'.heap.size
  block : ∀ k, k < w.heap.size → blkOf v ≠ some k → w'.heap[k]? = w.heap[k]?
  cell : ∀ a x, w.cell? a = some x → w'.cell? a = some x

theorem Shut.of {l : List UInt8} {v : Value} {w w' : World} {e : Ending} (h : StrPost l v w e w') : Shut v w w' := by
  obtain ⟨_, rfl | ⟨g, n, hg, rfl⟩ | ⟨o, rfl⟩⟩ := h
  · exact ⟨rfl, rfl, rfl, Nat.le_refl _, fun _ _ _ => rfl, fun _ _ h => h⟩
  · have hb : ∀ k, k ≠ g → (w.drew.freeze ⟨g, 0, none⟩ n).heap[k]? = w.heap[k]? := by
      intro k hk
      unfold World.freeze
      split
      · rfl
      · simp only [Array.getElem?_modify]
        rw [if_neg (by omega)]; rfl
    refine ⟨?_, ?_, ?_, ?_, fun k _ hk => hb k (fun e => hk (by rw [hg, e])), fun a x hx => ?_⟩
    · unfold World.freeze; split <;> rfl
    · unfold World.freeze; split <;> rfl
    · unfold World.freeze; split <;> rfl
    · unfold World.freeze; split
      · exact Nat.le_refl _
      · simp
    · unfold World.freeze
      split
      · exact hx
      · unfold World.cell? at hx ⊢
        split at hx
        · rename_i c el fz hh
          have hh' : w.drew.heap[a.block]? = some (.cells c el fz) := hh
          simp only [Array.getElem?_modify, hh', Option.map_some]
          by_cases hga : g = a.block
          · simp only [hga, if_true]; exact hx
          · simp only [hga, if_false]; exact hx
        · exact absurd hx (by simp)
  · refine ⟨rfl, rfl, rfl, by simp, fun k hk _ => ?_, fun a x hx => ?_⟩
    · exact Go.RowKit.Below.heap_alloc w.drew o k hk
    · rw [World.cell?_alloc_lt (h := World.block_lt_of_cell? w.drew a hx)]; exact hx

theorem SatW.shut {bs : Base} {ρ : List Value} {H : PH} {lo : List AObj} {w w' : World} (s : SatW bs ρ H lo w) {j : Nat} {v : Value} {e : TypeId} {z n : Nat} (hj : lo[j]? = some (.tail e z n)) (hv : ρ[j]? = some v)
    (h : Shut v w w') : SatW bs ρ H (lo.set j .dead) w' where
  sath := ⟨fun b o x hx => ⟨h.cell _ _ (s.sath.cell b o x hx).1, (s.sath.cell b o x hx).2⟩, s.sath.root⟩
  hlen := by simpa using s.hlen
  pre := s.pre
  objs := fun i o u hi hu => by
    rw [List.getElem?_set] at hi
    split at hi
    · split at hi
      · cases hi; trivial
      · cases hi
    · rename_i hne
      cases hl : o.live with
      | false => cases o <;> simp [AObj.live] at hl; trivial
      | true =>
        refine (s.objs i o u hi hu).keep (List.prefix_refl _) (PH.le.refl H) (fun b hb hlt => h.block b hlt fun e => ?_) (fun _ _ _ _ hn => hn)
        exact s.excl i j o _ u v b hi hj hu hv (fun e => hne e.symm) hl rfl hb e
  excl := s.kill j |>.excl
  own := s.kill j |>.own
  keep := by
    refine ⟨h.os.trans s.keep.os, h.tape.trans s.keep.tape, h.output.trans s.keep.output, Nat.le_trans s.keep.size h.size, fun k hk hS => ?_⟩
    rw [h.block k (Nat.lt_of_lt_of_le hk s.keep.size) fun e => ?_]
    · exact s.keep.block k hk hS
    · rcases s.own j _ v k hj hv rfl e with h1 | h1
      · exact hS h1
      · omega
  leH := s.leH
  newH := s.newH

theorem CallsI.string {P : Program} {f : FuncId} {T E : TypeId} (hent : ∀ args w, (callFunc f args).run P w = .ok (.enter f args) w)
    (hc : ∀ (b : Nat) (l : List UInt8) (w : World) (p v : Value), w.heap[b]? = some (.cells #[p, v] T (0, 0)) → w.ownsRow 0 E 1 v l.length (Lib.byteCells l) → l ≠ [] →
      Calls P f #[.pointer (some ⟨b, 0, none⟩)] w (StrPost l v w))
    {k j : Nat} {a : FV} {bs : List UInt8} {lo : List AObj} {n : Nat} {R : FV → List AObj → Prop} (hk : lo[k]? = some (.box T [a, .tsl j (bRows bs)])) (hj : lo[j]? = some (.tail E 1 n))
    (h0 : bs ≠ []) (h : R (.p (.str bs)) (lo.set j .dead)) : CallsI P f [.ptr k 0] lo R := by
  intro bs' ρ H w vs s rl
  obtain ⟨u, _, rfl, ru, rfl⟩ := rl
  obtain ⟨b, hb, rfl⟩ := ru
  rw [show ([Value.pointer (some ⟨b, 0, none⟩)] : List Value).toArray = #[.pointer (some ⟨b, 0, none⟩)] from rfl, hent]
  refine ⟨rfl, ?_⟩
  obtain ⟨b', vs, e', hg, hcs, _⟩ := s.objs k _ _ hk hb
  cases e'
  simp only [RepFL] at hcs
  obtain ⟨p, _, rfl, _, v, _, rfl, ⟨hv, hrep⟩, rfl⟩ := hcs
  obtain ⟨xs, how, hx⟩ := s.objs j _ v hj hv
  have hxs : n = bs.length ∧ xs = Lib.byteCells bs := by
    simp only [RepP] at hrep
    rcases hrep with ⟨e0, _⟩ | ⟨g, o, z, cap, rfl, _, rr⟩
    · exact absurd (by simpa [bRows] using e0) h0
    · rcases how.2 with ⟨e0, _⟩ | ⟨g', cap', cur, e0, _⟩
      · cases e0
      · simp only [Value.slice.injEq, Option.some.injEq, Addr.mk.injEq] at e0
        obtain ⟨⟨rfl, rfl, _⟩, hn, _⟩ := e0
        have hn' : n = bs.length := by rw [← hn]; simp [bRows]
        refine ⟨hn', ?_⟩
        have hl := how.1
        have hcell := rows_bytes s.sath rr
        refine List.ext_getElem (by rw [hl, Lib.byteCells_length, hn', Nat.mul_one]) fun j h1 h2 => ?_
        have hj' : j < bs.length := by rw [Lib.byteCells_length] at h2; exact h2
        have c1 := how.cells (g := g) rfl j _ (List.getElem?_eq_getElem h1)
        rw [hcell j hj'] at c1
        simp only [Option.some.injEq] at c1
        rw [← c1]
        simp [Lib.byteCells]
  obtain ⟨rfl, rfl⟩ := hxs
  refine (hc b bs w p v hg how h0).mono fun e w' hp => ?_
  exact ⟨_, .p (.str bs), lo.set j .dead, hp.1, ⟨ρ, H, List.prefix_refl _, PH.le.refl H, s.shut hj hv (Shut.of hp), by simp [RepF, RepP]⟩, h⟩

theorem SatH.below {H : PH} {w w' : World} (s : SatH H w) (h : Below w.heap.size w w') : Calm H w H w' :=
  ⟨PH.le.refl H, s.block fun b _ _ hv => h.block b (s.lt hv), ⟨h.os, h.tape, h.output, h.size, fun k hk _ => h.block k hk⟩, fun _ _ v hv => .inl ⟨v, hv⟩⟩

abbrev StringEmpty (P : Program) (f : FuncId) (T E : TypeId) : Prop := ∀ (b : Nat) (w : World) (p v : Value), w.heap[b]? = some (.cells #[p, v] T (0, 0)) → w.ownsRow 0 E 1 v 0 [] →
      Calls P f #[.pointer (some ⟨b, 0, none⟩)] w fun e w' => e = .returned (.string ⟨#[]⟩) ∧ Below w.heap.size w w'

theorem CallsI.string_nil {P : Program} {f : FuncId} {T E : TypeId} (hent : ∀ args w, (callFunc f args).run P w = .ok (.enter f args) w) (hc : StringEmpty P f T E)
    {k : Nat} {a : FV} {lo : List AObj} {R : FV → List AObj → Prop} (hk : lo[k]? = some (.box T [a, .p .nilsl])) (h : R (.p (.str [])) lo) : CallsI P f [.ptr k 0] lo R := by
  intro bs' ρ H w vs s rl
  obtain ⟨u, _, rfl, ru, rfl⟩ := rl
  obtain ⟨b, hb, rfl⟩ := ru
  rw [show ([Value.pointer (some ⟨b, 0, none⟩)] : List Value).toArray = #[.pointer (some ⟨b, 0, none⟩)] from rfl, hent]
  refine ⟨rfl, ?_⟩
  obtain ⟨b', vs, e', hg, hcs, _⟩ := s.objs k _ _ hk hb
  cases e'
  simp only [RepFL] at hcs
  obtain ⟨p, _, rfl, _, v, _, rfl, hv, rfl⟩ := hcs
  simp only [RepF, RepP] at hv
  subst hv
  refine (hc b w p _ hg (World.ownsRow_nil w 0 E 1)).mono fun e w' hp => ?_
  exact ⟨_, .p (.str []), lo, hp.1, ⟨ρ, H, List.prefix_refl _, PH.le.refl H, s.calm (s.sath.below hp.2), by simp [RepF, RepP]⟩, h⟩

theorem CallsI.string_any {P : Program} {f : FuncId} {T E : TypeId} (hent : ∀ args w, (callFunc f args).run P w = .ok (.enter f args) w)
    (hc : ∀ (b : Nat) (l : List UInt8) (w : World) (p v : Value), w.heap[b]? = some (.cells #[p, v] T (0, 0)) → w.ownsRow 0 E 1 v l.length (Lib.byteCells l) → l ≠ [] →
      Calls P f #[.pointer (some ⟨b, 0, none⟩)] w (StrPost l v w)) (hc0 : StringEmpty P f T E)
    {k j : Nat} {a : FV} {bs : List UInt8} {lo : List AObj} {n : Nat} {R : FV → List AObj → Prop} (hk : lo[k]? = some (.box T [a, .tsl j (bRows bs)])) (hj : lo[j]? = some (.tail E 1 n))
    (h : R (.p (.str bs)) (lo.set j .dead)) : CallsI P f [.ptr k 0] lo R := by
  by_cases h0 : bs = []
  · subst h0
    intro bs' ρ H w vs s rl
    obtain ⟨u, _, rfl, ru, rfl⟩ := rl
    obtain ⟨b, hb, rfl⟩ := ru
    rw [show ([Value.pointer (some ⟨b, 0, none⟩)] : List Value).toArray = #[.pointer (some ⟨b, 0, none⟩)] from rfl, hent]
    refine ⟨rfl, ?_⟩
    obtain ⟨b', vs, e', hg, hcs, _⟩ := s.objs k _ _ hk hb
    cases e'
    simp only [RepFL] at hcs
    obtain ⟨p, _, rfl, _, v, _, rfl, ⟨hv, hrep⟩, rfl⟩ := hcs
    obtain ⟨xs, how, hx⟩ := s.objs j _ v hj hv
    have hn : n = 0 := by
      simp only [RepP, bRows, List.map_nil] at hrep
      rcases hrep with ⟨_, e0⟩ | ⟨g, o, z, cap, rfl, _, _⟩
      · rcases how.2 with ⟨_, hz⟩ | ⟨g', cap', cur, e1, _⟩
        · exact hz
        · rcases e0 with e0 | ⟨a0, c0, e0⟩
          · rw [e0] at e1; cases e1
          · rw [e0] at e1
            simp only [Value.slice.injEq] at e1
            exact e1.2.1.symm
      · rcases how.2 with ⟨e1, hz⟩ | ⟨g', cap', cur, e1, _⟩
        · cases e1
        · simp only [Value.slice.injEq] at e1
          exact e1.2.1.symm
    subst hn
    have hxs : xs = [] := by have := how.1; simpa using this
    subst hxs
    refine (hc0 b w p v hg how).mono fun e w' hp => ?_
    exact ⟨_, .p (.str []), lo.set j .dead, hp.1, ⟨ρ, H, List.prefix_refl _, PH.le.refl H, (s.kill j).calm (s.sath.below hp.2), by simp [RepF, RepP]⟩, h⟩
  · exact CallsI.string hent hc hk hj h0 h
end Ax
end
section
namespace Ax
open Go

mutual
def PV.norm : PV → PV
  | .nilsl => .sl []
  | .agg cs => .agg (normL cs)
  | .tup cs => .tup (normL cs)
  | .sl rows => .sl (normR rows)
  | v => v
def normL : List PV → List PV
  | [] => []
  | c :: cs => c.norm :: normL cs
def normR : List (List PV) → List (List PV)
  | [] => []
  | r :: rs => normL r :: normR rs
end

theorem normR_length : ∀ rows : List (List PV), (normR rows).length = rows.length
  | [] => rfl
  | _ :: l => by simp [normR, normR_length l]
theorem normL_length : ∀ cs : List PV, (normL cs).length = cs.length
  | [] => rfl
  | _ :: l => by simp [normL, normL_length l]

mutual
theorem RepP.norm {H : PH} : ∀ {c : PV} {v : Value}, RepP H c v → RepP H c.norm v
  | .nilsl, v, h => by simp only [PV.norm, RepP] at *; exact .inl ⟨trivial, .inl h⟩
  | .agg cs, v, h => by
    simp only [PV.norm, RepP] at *
    obtain ⟨vs, e, r⟩ := h
    exact ⟨vs, e, RepL.norm r⟩
  | .tup cs, v, h => by
    simp only [PV.norm, RepP] at *
    obtain ⟨vs, e, r⟩ := h
    exact ⟨vs, e, RepL.norm r⟩
  | .sl rows, v, h => by
    simp only [PV.norm, RepP] at *
    rcases h with ⟨rfl, h⟩ | ⟨b, o, z, cap, e, hc, r⟩
    · exact .inl ⟨rfl, h⟩
    · exact .inr ⟨b, o, z, cap, by rw [normR_length]; exact e, by rw [normR_length]; exact hc, RepR.norm r⟩
  | .bool _, _, h | .int .., _, h | .str _, _, h | .nilp, _, h | .fn _, _, h | .nilfn, _, h | .nili, _, h | .nilmap, _, h | .ifc .., _, h | .hp _, _, h | .clo .., _, h => by
    simpa only [PV.norm] using h
theorem RepL.norm {H : PH} : ∀ {cs : List PV} {vs : List Value}, RepL H cs vs → RepL H (normL cs) vs
  | [], _, h => by simpa only [normL] using h
  | c :: cs, vs, h => by
    simp only [normL, RepL] at *
    obtain ⟨v, vs', e, r, rs⟩ := h
    exact ⟨v, vs', e, RepP.norm r, RepL.norm rs⟩
theorem RepR.norm {H : PH} {b z : Nat} : ∀ {rows : List (List PV)} {o : Nat}, RepR H b z o rows → RepR H b z o (normR rows)
  | [], _, h => by simpa only [normR] using h
  | r :: rs, o, h => by
    simp only [normR, RepR] at *
    obtain ⟨e, ⟨vs, q, c⟩, rr⟩ := h
    exact ⟨by rw [normL_length]; exact e, ⟨vs, RepL.norm q, c⟩, RepR.norm rr⟩
end

theorem CallsF.norm {P : Program} {f : FuncId} {args : List PV} {r r' : PV} (h : CallsF P f args r) (e : r.norm = r') : CallsF P f args r' := by
  subst e
  intro H w vs hs rl
  have := h H w vs hs rl
  generalize (callFunc f vs.toArray).run P w = x at *
  cases x with
  | ok n w' =>
    cases n <;> simp only [CallUpon] at this ⊢ <;> try exact this
    · obtain ⟨H', c, r⟩ := this; exact ⟨H', c, RepP.norm r⟩
    · exact ⟨this.1, this.2.mono fun en w'' ⟨v, H', e, c, r⟩ => ⟨v, H', e, c, RepP.norm r⟩⟩
  | halt x w' => exact this
theorem CallsF.args {P : Program} {f : FuncId} {args args' : List PV} {r : PV} (h : CallsF P f args' r) (e : normL args = args') : CallsF P f args r := by
  subst e
  exact fun H w vs hs rl => h H w vs hs (RepL.norm rl)
end Ax
end
section
namespace Ax
open Go

/-- The cells that the world holds when the call begins. -/
def heapH (w : World) : PH := fun b o => (w.cell? ⟨b, o, none⟩).bind fun v => bif v.oneCell' then some v else none

theorem heapH_sat {w : World} (h : ∃ m, w.cell? ⟨0, 0, none⟩ = some (.int .i64 m)) : SatH (heapH w) w where
  cell := fun b o v hv => by
    unfold heapH at hv
    obtain ⟨u, hu, h1⟩ := Option.bind_eq_some_iff.1 hv
    cases hc : u.oneCell' with
    | false => rw [hc] at h1; cases h1
    | true => rw [hc] at h1; cases h1; exact ⟨hu, hc⟩
  root := by
    obtain ⟨m, hm⟩ := h
    exact ⟨m, by simp [heapH, hm, Value.oneCell']⟩

theorem heapH_of {w : World} {a : Addr} {v : Value} (h : w.cell? a = some v) (h1 : v.oneCell' = true) : heapH w a.block a.off = some v := by
  have hs : a.spot = none := by
    unfold World.cell? at h
    split at h
    · cases hsp : a.spot with
      | none => rfl
      | some s => rw [hsp] at h; simp at h
    · cases h
  have : (⟨a.block, a.off, none⟩ : Addr) = a := by cases a; simp only at hs; subst hs; rfl
  unfold heapH
  rw [this, h]
  simp [h1]

theorem cells_get {w : World} {base : Nat} {a : Addr} {n : Nat} {cs : List Value} (h : w.cells? base a n = some cs) : cs.length = n ∧ ∀ j, j < n → w.cell? (a.add j) = cs[j]? := by
  unfold World.cells? at h
  split at h
  · exact ⟨by simpa using mapM_some_length h, fun j hj => mapM_some_get h j j (by simp [hj])⟩
  · cases h

section
variable {Hd : Type} {enc : TypeId × Value → Hd} {P : Program} {w : World}

/-- What an element's reading says of its cells. -/
def ReadsAs {α : Type} (enc : TypeId × Value → Hd) (P : Program) (w : World) (t : TypeId) (n : Nat) (row : α → List PV) (sz : α → Nat) (bulk : DataW Hd → Nat) : Prop :=
  ∀ (cs : List Value) (x : DataW Hd × List MemPlace), DataW.trod enc P w 0 (fun _ => true) true n t cs = some x → ∃ v : α, RepL (heapH w) (row v) cs ∧ (∀ u ∈ cs, u.oneCell' = true) ∧ sz v ≤ bulk x.1

theorem rowsR {α : Type} {H : PH} {b z : Nat} {row : α → List PV} : ∀ (l : List α) (o : Nat) (csOf : Nat → List Value), (∀ v ∈ l, (row v).length = z) →
    (∀ i v, l[i]? = some v → RepL H (row v) (csOf i) ∧ ∀ j u, (csOf i)[j]? = some u → H b (o + i * z + j) = some u) → RepR H b z o (l.map row)
  | [], _, _, _, _ => trivial
  | v :: l, o, csOf, hz, h => by
    simp only [List.map_cons, RepR]
    refine ⟨hz v (by simp), ⟨csOf 0, (h 0 v rfl).1, fun j u hu => by have := (h 0 v rfl).2 j u hu; simpa using this⟩, ?_⟩
    refine rowsR l (o + z) (fun i => csOf (i + 1)) (fun v hv => hz v (by simp [hv])) fun i v' hv' => ?_
    obtain ⟨h1, h2⟩ := h (i + 1) v' (by simpa using hv')
    refine ⟨h1, fun j u hu => ?_⟩
    have := h2 j u hu
    rw [Nat.add_mul, Nat.one_mul] at this
    have e : o + (i * z + z) + j = o + z + i * z + j := by omega
    rw [← e]; exact this

theorem read_slice {α : Type} [Inhabited α] {t e : TypeId} {z fuel : Nat} {row : α → List PV} {sz : α → Nat} {bulk : DataW Hd → Nat} (ht : P.underlying t = some (.slice e)) (hz : P.cellsOf e = z) (hz1 : 1 ≤ z)
    (hrow : ∀ v, (row v).length = z) (hel : ∀ n, n < fuel → ReadsAs enc P w e n row sz bulk) {cs : List Value} {x : DataW Hd × List MemPlace} (h : DataW.trod enc P w 0 (fun _ => true) true fuel t cs = some x) :
    ∃ (l : List α) (v : Value), cs = [v] ∧ v.oneCell' = true ∧ RepP (heapH w) (.sl (l.map row)) v ∧
      ((x.1 = .nil ∧ l = []) ∨ ∃ elems rest, x.1 = .slice elems rest ∧ l.length = elems.length ∧ ∀ (i : Nat) (d : DataW Hd) (v : α), elems[i]? = some d → l[i]? = some v → sz v ≤ bulk d) := by
  rcases DataW.trod_slice ht h with ⟨rfl, rfl⟩ | ⟨a, len, cap, elems, rest, n, rfl, rfl, rfl, _, hlc, _, hlen, hget, _, _⟩
  · exact ⟨[], _, rfl, rfl, by simp [RepP], .inl ⟨rfl, rfl⟩⟩
  · have hx : ∀ i, i < len → ∃ (v : α) (cs : List Value) (d : DataW Hd × List MemPlace), elems[i]? = some d ∧ RepL (heapH w) (row v) cs ∧ (∀ j u, cs[j]? = some u → heapH w a.block (a.off + i * z + j) = some u) ∧ sz v ≤ bulk d.1 := by
      intro i hi
      have h1 := hget i hi
      obtain ⟨d, hd⟩ : ∃ d, elems[i]? = some d := ⟨_, List.getElem?_eq_getElem (by omega)⟩
      rw [hd] at h1
      obtain ⟨cs, hcs, htr⟩ := Option.bind_eq_some_iff.1 h1
      obtain ⟨v, r, hone, hs⟩ := hel n (Nat.lt_succ_self n) cs d htr
      refine ⟨v, cs, d, hd, r, fun j u hu => ?_, hs⟩
      obtain ⟨hl, hc⟩ := cells_get hcs
      have hj : j < P.cellsOf e := by have := (List.getElem?_eq_some_iff.1 hu).1; omega
      have h2 := hc j hj
      rw [hu, Addr.add_add] at h2
      have := heapH_of h2 (hone u (List.mem_of_getElem? hu))
      rw [hz] at this
      have eb : (a.add (i * z + j)).block = a.block := by unfold Addr.add; split <;> rfl
      have eo : (a.add (i * z + j)).off = a.off + i * z + j := by unfold Addr.add; split <;> (try simp only) <;> omega
      rw [eb, eo] at this
      exact this
    have spot : len ≠ 0 → a.spot = none := by
      intro h0
      have h1 := hget 0 (by omega)
      obtain ⟨d, hd⟩ : ∃ d, elems[0]? = some d := ⟨_, List.getElem?_eq_getElem (by omega)⟩
      rw [hd] at h1
      obtain ⟨cs, hcs, _⟩ := Option.bind_eq_some_iff.1 h1
      obtain ⟨hl, hc⟩ := cells_get hcs
      have h2 := hc 0 (by omega)
      rw [Nat.zero_mul, Addr.add_zero', Addr.add_zero'] at h2
      cases hu : cs[0]? with
      | none => have := List.getElem?_eq_none_iff.1 hu; omega
      | some u =>
        rw [hu] at h2
        unfold World.cell? at h2
        split at h2
        · cases hsp : a.spot with
          | none => rfl
          | some s => rw [hsp] at h2; simp at h2
        · cases h2
    let f : Nat → α := fun i => if h : i < len then (hx i h).choose else default
    have hf : ∀ i, i < len → ∃ (cs : List Value) (d : DataW Hd × List MemPlace), elems[i]? = some d ∧ RepL (heapH w) (row (f i)) cs ∧ (∀ j u, cs[j]? = some u → heapH w a.block (a.off + i * z + j) = some u) ∧ sz (f i) ≤ bulk d.1 := by
      intro i hi
      have := (hx i hi).choose_spec
      simp only [f, hi, dif_pos]
      exact this
    refine ⟨(List.range len).map f, _, rfl, rfl, ?_, .inr ⟨_, _, rfl, by simp [hlen], fun i d v hd hv => ?_⟩⟩
    · simp only [RepP, List.length_map, List.length_range]
      by_cases h0 : len = 0
      · subst h0
        exact .inl ⟨rfl, .inr ⟨_, _, rfl⟩⟩
      · refine .inr ⟨a.block, a.off, z, cap, ?_, hlc, ?_⟩
        · have := spot h0
          cases a
          simp only at this
          subst this
          rfl
        · refine rowsR ((List.range len).map f) a.off (fun i => if h : i < len then (hf i h).choose else []) (fun v _ => hrow v) fun i v hv => ?_
          simp only [List.getElem?_map, Option.map_eq_some_iff] at hv
          obtain ⟨i', hi', rfl⟩ := hv
          obtain ⟨hlt, e⟩ := List.getElem?_eq_some_iff.1 hi'
          simp at hlt e
          subst e
          obtain ⟨d, hd, hr, hc, _⟩ := (hf i hlt).choose_spec
          simp only [hlt, dif_pos]
          exact ⟨hr, hc⟩
    · simp only [List.getElem?_map, Option.map_eq_some_iff] at hv hd
      obtain ⟨i', hi', rfl⟩ := hv
      obtain ⟨hlt, e⟩ := List.getElem?_eq_some_iff.1 hi'
      simp at hlt e
      subst e
      obtain ⟨d', hd', rfl⟩ := hd
      obtain ⟨_, d2, hd2, _, _, hs⟩ := hf i hlt
      rw [hd'] at hd2
      cases hd2
      exact hs
end
end Ax
end
section
namespace Ax
open Go Go.RowKit Go.ChangeShapes Go.WideShapes Go.ChangeAt

section
variable {H : Type} {enc : TypeId × Value → H} {P : Program}

theorem trodAll_stays (hl : laidOutB P = true) {W W' : World} {sp : Nat → Bool} (hb : Below W.heap.size W W') : ∀ {ts : List TypeId} {vs : List Value} {ds : List (DataW H)} {ps : List MemPlace},
    (ts.all fun t => P.readableRec t && decide (t < P.types.size)) = true → DataW.TrodAll enc P W 0 (fun _ => true) true ts vs ds ps → (∀ p ∈ ps, p.block < W.heap.size) → (∀ p ∈ ps, sp p.block = true) →
    DataW.TrodAll enc P W' 0 sp true ts vs ds ps
  | [], _, _, _, _, h, _, _ => by
    obtain ⟨rfl, rfl, rfl⟩ := trodAll_nil h
    exact trodAll_mk0
  | t :: ts, _, _, _, hr, h, hlt, hs => by
    obtain ⟨v, vs1, d, ds1, a, b, rfl, rfl, rfl, h1, h2⟩ := trodAll_cons h
    simp only [List.all_cons, Bool.and_eq_true, decide_eq_true_eq] at hr
    exact ⟨a, b, WideElems.Trod_stays hl hr.1.1 hr.1.2 h1 (fun x hx => hb.same (hlt x (List.mem_append_left _ hx))) (fun x hx => hs x (List.mem_append_left _ hx)),
      trodAll_stays hl hb hr.2 h2 (fun x hx => hlt x (List.mem_append_right _ hx)) (fun x hx => hs x (List.mem_append_right _ hx)), rfl⟩

theorem post_law {f : Func} {s : ChangeSpec} {apart fresh handsOn again : Bool} {W W' : World} {args : Array Value} {ds gs : List (DataW H)} {before : List MemPlace} {tb : TypeId} (hl : laidOutB P = true)
    (hr : (f.params.toList.all fun t => P.readableRec t && decide (t < P.types.size)) = true) (hW : DataW.Whole enc P f.params.toList s.vars apart W args.toList ds gs before) (hb : Below W.heap.size W W') (hvars : s.vars = [])
    (hfn : s.fn H (ds ++ gs) = { results := [.lit (.bool true)], args := ds }) (hrt : f.resultTypes = #[tb]) (hbool : P.underlying tb = some .bool) : s.post enc P f apart fresh handsOn again W args (.bool true) W' := by
  have hlt : ∀ p ∈ before, p.block < W.heap.size := fun p hp => by simpa using hW.lt p hp
  have hold : ∀ p ∈ before, (fun b => decide (b < W.heap.size)) p.block = true := fun p hp => by simpa using hW.lt p hp
  have hW' := hW
  obtain ⟨p, q, hA, hV, rfl, hz, hn⟩ := hW'
  have hq : q = [] ∧ gs = [] := by
    rw [hvars] at hV
    obtain ⟨h1, h2⟩ := trodVars_none hV
    exact ⟨by first | exact h2 | exact h1, by first | exact h1 | exact h2⟩
  obtain ⟨rfl, rfl⟩ := hq
  simp only [List.append_nil] at *
  have hargs : ∀ sp : Nat → Bool, (∀ x ∈ p, sp x.block = true) → DataW.TrodAll enc P W' 0 sp true f.params.toList args.toList ds p := fun sp hs => trodAll_stays hl hb hr hA hlt hs
  have hres : ∀ (b : Nat) (sp : Nat → Bool) (hd : Bool), DataW.TrodAll enc P W' b sp hd f.resultTypes.toList ((Value.bool true).resultList f.resultTypes.size) (s.fn H ds).results [] := by
    intro b sp hd
    rw [hrt, hfn]
    exact trodAll_cons_mk (shut_bool hbool _) trodAll_mk0
  have hvs : ∀ sp : Nat → Bool, DataW.TrodVars enc P W' sp s.vars (s.fn H ds).vars [] := by
    intro sp
    rw [hvars, hfn]
    rfl
  refine ⟨ds, [], p, [], p, [], hW, ?_, ?_, ?_, World.keptBut_mono (fun x hx => ⟨hx, Or.inr (Or.inl hx)⟩) (hb.frame _), fun _ => ?_⟩
  · simpa using hres _ _ _
  · simp only [List.append_nil]; rw [hfn]; exact hargs _ hold
  · simpa using hvs _
  · refine ⟨?_, _, _, ([] ++ p) ++ [], ⟨[] ++ p, [], trodAll_append (hargs _ (fun _ _ => rfl)) (hres _ _ _), hvs _, rfl, ?_, ?_⟩, ?_⟩
    · exact ok_one hrt rfl (okWide_bool_mk hbool _)
    · intro b off hp
      have hp' : MemPlace.cell b off ∈ p := by simpa using hp
      rw [hb.frozen (p := ⟨b, off, none⟩) (hlt _ hp')]
      exact hz b off hp'
    · intro ha
      simpa using hn ha
    · intro x hx _
      simpa using hx
end
end Ax
end
section
namespace Ax
open Go Go.RowKit

theorem CallsF.calls {P : Program} {f : FuncId} {args : List PV} {r : PV} (h : CallsF P f args r) (he : Enters P f) {H : PH} {w : World} {vs : List Value} (hs : SatH H w) (rl : RepL H args vs) :
    Calls P f vs.toArray w fun e w' => ∃ v H', e = .returned v ∧ Calm H w H' w' ∧ RepP H' r v := by
  have := h H w vs hs rl
  rw [he] at this
  exact this.2

theorem Calm.below {H H' : PH} {w w' : World} (c : Calm H w H' w') : Below w.heap.size w w' :=
  ⟨c.keep.os, c.keep.tape, c.keep.output, c.keep.size, fun k hk => c.keep.block k hk id⟩

theorem rep_agg {H : PH} {row : List PV} {v : Value} (h : RepL H row v.cells.toList) (hl : row.length ≠ 1) : RepP H (.agg row) v := by
  have hlen := h.length
  cases v
  case agg cs => exact ⟨cs.toList, by simp, h⟩
  all_goals exact absurd hlen.symm hl

/-- The cells of a datum of numbers. -/
def litK : Lit → Value
  | .int k n => .int k n
  | _ => undef
mutual
def cellsD : DataW Unit → List Value
  | .lit l => [litK l]
  | .agg ds => cellsDs ds
  | _ => []
def cellsDs : List (DataW Unit) → List Value
  | [] => []
  | d :: ds => cellsD d ++ cellsDs ds
end
end Ax
end
section
namespace Ax
open Go
section
variable {A R S : Type}

def chk (b : Bool) (k : Option R) : Option R := match b with | true => k | false => none
theorem chk_some {b : Bool} {k : Option R} {r : R} (h : chk b k = some r) : b = true ∧ k = some r := by
  cases b with
  | true => exact ⟨rfl, h⟩
  | false => cases h
def bnd (o : Option A) (k : A → Option R) : Option R := match o with | some a => k a | none => none
theorem bnd_some {o : Option A} {k : A → Option R} {r : R} (h : bnd o k = some r) : ∃ x, o = some x ∧ k x = some r := by
  cases o with
  | some a => exact ⟨a, rfl, h⟩
  | none => cases h
theorem cond_t {c : Bool} {a b : Option R} {r : R} (h : (bif c then a else b) = some r) (hc : c = true) : a = some r := by subst hc; exact h
theorem cond_f {c : Bool} {a b : Option R} {r : R} (h : (bif c then a else b) = some r) (hc : c = false) : b = some r := by subst hc; exact h
def idx (l : List A) (i : Int) : Option A := if 0 ≤ i then l[i.toNat]? else none
theorem idx_some {l : List A} {i : Int} {x : A} (h : idx l i = some x) : 0 ≤ i ∧ l[i.toNat]? = some x := by
  unfold idx at h
  split at h
  · exact ⟨by assumption, h⟩
  · cases h
def gsome [Inhabited A] (g : Bool) (o : Option A) : Option A := bif g then o else some default
theorem gsome_some [Inhabited A] {g : Bool} {o : Option A} {x : A} (h : gsome g o = some x) (hg : g = true) : o = some x := by subst hg; exact h
def natI (i : Int) : Option Nat := if 0 ≤ i then some i.toNat else none
theorem natI_some {i : Int} {n : Nat} (h : natI i = some n) : i = n := by
  unfold natI at h
  split at h
  · cases h; omega
  · cases h
def u8I (i : Int) : Option UInt8 := if 0 ≤ i ∧ i < 256 then some (UInt8.ofNat i.toNat) else none
theorem u8I_some {i : Int} {b : UInt8} (h : u8I i = some b) : i = (b.toNat : Int) := by
  unfold u8I at h
  split at h
  · cases h
    simp only [UInt8.toNat_ofNat']
    omega
  · cases h
theorem gd {g c : Bool} (h : (bif g then c else true) = true) (hg : g = true) : c = true := by subst hg; exact h
theorem and_l {a b : Bool} (h : (a && b) = true) : a = true := by cases a <;> simp_all
theorem and_r {a b : Bool} (h : (a && b) = true) : b = true := by cases a <;> simp_all

def loopK (B : (S → Option R) → S → Option R) : Nat → S → Option R
  | 0, _ => none
  | n + 1, s => B (loopK B n) s
end

/-- How a type's values lie in cells. -/
structure Codec (A : Type) where
  cells : A → List PV
  rows : List A → List (List PV)
  z : Nat
  hrows : ∀ l, rows l = l.map cells
  hz : ∀ a, (cells a).length = z
  hone : ∀ a, (cells a).all oneP = true

namespace Codec
variable {A : Type} (C : Codec A)
theorem at_ {l : List A} {i : Int} {x : A} (h : idx l i = some x) : 0 ≤ i ∧ (C.rows l)[i.toNat]? = some (C.cells x) ∧ (C.cells x).length = C.z := by
  obtain ⟨h0, h1⟩ := idx_some h
  exact ⟨h0, by rw [C.hrows]; simp [h1], C.hz x⟩
theorem length (l : List A) : (C.rows l).length = l.length := by rw [C.hrows]; simp
theorem append (a b : List A) : C.rows a ++ C.rows b = C.rows (a ++ b) := by simp [C.hrows]
theorem take (l : List A) (n : Nat) : (C.rows l).take n = C.rows (l.take n) := by simp [C.hrows]
theorem drop (l : List A) (n : Nat) : (C.rows l).drop n = C.rows (l.drop n) := by simp [C.hrows]
theorem cut (l : List A) (n m : Nat) : ((C.rows l).take n).drop m = C.rows ((l.take n).drop m) := by simp [C.hrows]
theorem dropAll (l : List A) (m : Nat) : ((C.rows l).take (C.rows l).length).drop m = C.rows (l.drop m) := by rw [List.take_length, C.drop]
theorem wide (l : List A) : ∀ r ∈ C.rows l, r.length = C.z := by
  intro r hr
  rw [C.hrows] at hr
  obtain ⟨a, _, rfl⟩ := List.mem_map.1 hr
  exact C.hz a
theorem one (l : List A) : ∀ r ∈ C.rows l, r.length = C.z ∧ r.all oneP = true := by
  intro r hr
  rw [C.hrows] at hr
  obtain ⟨a, _, rfl⟩ := List.mem_map.1 hr
  exact ⟨C.hz a, C.hone a⟩
theorem made (x : A) (n : Nat) {zs : List PV} (h : zs = C.cells x) : List.replicate n zs = C.rows (List.replicate n x) ∨ nleR (List.replicate n zs) (C.rows (List.replicate n x)) := by
  subst h; rw [C.hrows]; exact .inl (by simp)
theorem madeN (x : A) (n : Nat) {zs : List PV} (h : nleL zs (C.cells x)) : List.replicate n zs = C.rows (List.replicate n x) ∨ nleR (List.replicate n zs) (C.rows (List.replicate n x)) := by
  rw [C.hrows]
  refine .inr ?_
  induction n with
  | zero => trivial
  | succ n ih => simp only [List.replicate_succ, List.map_cons, nleR]; exact ⟨h, by simpa using ih⟩
end Codec

def intRows (k : IntKind) (l : List Int) : List (List PV) := l.map fun n => [PV.int k n]
def boolRows (l : List Bool) : List (List PV) := l.map fun n => [PV.bool n]
def slRows {A : Type} (C : Codec A) (l : List (List A)) : List (List PV) := l.map fun x => [PV.sl (C.rows x)]
def strC : Codec (List UInt8) := { cells := fun s => [.str s], rows := strs, z := 1, hrows := fun _ => rfl, hz := fun _ => rfl, hone := fun _ => rfl }
def byteC : Codec UInt8 := { cells := fun b => [.int .u8 b.toNat], rows := bRows, z := 1, hrows := fun _ => rfl, hz := fun _ => rfl, hone := fun _ => rfl }
def intC (k : IntKind) : Codec Int := { cells := fun n => [.int k n], rows := intRows k, z := 1, hrows := fun _ => rfl, hz := fun _ => rfl, hone := fun _ => rfl }
def boolC : Codec Bool := { cells := fun n => [.bool n], rows := boolRows, z := 1, hrows := fun _ => rfl, hz := fun _ => rfl, hone := fun _ => rfl }
def slC {A : Type} (C : Codec A) : Codec (List A) := { cells := fun x => [.sl (C.rows x)], rows := slRows C, z := 1, hrows := fun _ => rfl, hz := fun _ => rfl, hone := fun _ => rfl }
theorem Val.one (v : Val) : v.cells.all oneP = true := by cases v; rfl
def valC : Codec Val := { cells := Val.cells, rows := Val.rows, z := 6, hrows := fun l => rows_eq l, hz := cells_length, hone := Val.one }

theorem all_one {ps : List PV} (h : ps.all oneP = true) : ∀ c ∈ ps, oneP c = true := by simpa using h
theorem arr_at {k : IntKind} {es : List Int} {cs : List PV} {i x : Int} {n : Nat} (h : idx es i = some x) (e : es.map (PV.int k) = cs) (hn : es.length ≤ n) : 0 ≤ i ∧ i < (n : Int) ∧ cs[i.toNat]? = some (.int k x) := by
  obtain ⟨h0, h1⟩ := idx_some h
  have h2 := (List.getElem?_eq_some_iff.1 h1).1
  refine ⟨h0, by omega, ?_⟩
  rw [← e]
  simp [h1]

theorem len_ok {n b : Nat} (h : decide (n * b ≤ 140737488355328) = true) (hb : 1 ≤ b) : n ≤ 9223372036854775807 := by
  have := of_decide_eq_true h
  have : n * 1 ≤ n * b := Nat.mul_le_mul_left n hb
  omega

/-! ### Nil slices, again -/
theorem CallsF.leArgs {P : Program} {f : FuncId} {args args' : List PV} {r : PV} (h : CallsF P f args' r) (e : nleL args args') : CallsF P f args r :=
  fun H w vs hs rl => h H w vs hs (nleL_rep e rl)
theorem CallsF.le {P : Program} {f : FuncId} {args : List PV} {r r' : PV} (h : CallsF P f args r) (e : nle r r') : CallsF P f args r' := by
  intro H w vs hs rl
  have := h H w vs hs rl
  generalize (callFunc f vs.toArray).run P w = x at *
  cases x with
  | ok n w' =>
    cases n <;> simp only [CallUpon] at this ⊢ <;> try exact this
    · obtain ⟨H', c, r⟩ := this; exact ⟨H', c, nle_rep e r⟩
    · exact ⟨this.1, this.2.mono fun en w'' ⟨v, H', e1, c, r⟩ => ⟨v, H', e1, c, nle_rep e r⟩⟩
  | halt x w' => exact this

/-! ### Loops and joins -/
theorem LoopA.fn {P : Program} (inl : List Nat) {N nb : Nat} {body : Code} {K : KA} {E : Env} {lo : List AObj} {S R : Type} (fr : S → Env) (ob : S → List AObj) {B : (S → Option R) → S → Option R} {n : Nat} {s0 : S} {r : R}
    (h : loopK B n s0 = some r) (hw : WeakK nb E lo (fr s0) (ob s0))
    (round : ∀ (next : S → Option R) (s : S), B next s = some r → vc P inl N nb body (fun x E' lo' => match x with
      | .normal => ∃ s', next s' = some r ∧ WeakK nb E' lo' (fr s') (ob s')
      | .exit i => K (.exit i) E' lo'
      | .ret => K .ret E' lo') (fr s) (ob s)) : LoopA P inl N nb body K E lo := by
  intro hm hd bs ρ H a w hb sat
  subst hb
  obtain ⟨ρ', sat'⟩ := hw.sat sat
  refine wp_loop_ghost (I := fun n a w => ∃ s ρ H, loopK B n s = some r ∧ Sat bs N ρ H (lookD (fr s)) (ob s) a w) n ⟨s0, ρ', H, h, sat'⟩ fun n a w ⟨s, ρ, H, hs, sat⟩ => ?_
  cases n with
  | zero => cases hs
  | succ n =>
    refine wp_mono (vc_sound hm body _ _ _ hd (round (loopK B n) s hs) bs ρ H a w rfl sat) fun e a w p => ?_
    obtain ⟨x, ρ2, H2, E2, lo2, hx, sat2, k⟩ := p
    cases x <;> cases e <;> simp only [AXis] at hx
    · obtain ⟨s', hok', hwk⟩ := k
      obtain ⟨ρ3, sat3⟩ := hwk.sat sat2
      exact ⟨n, Nat.lt_succ_self _, s', ρ3, H2, hok', sat3⟩
    · exact ⟨.exit _, ρ2, H2, E2, lo2, hx, sat2, k⟩
    · exact ⟨.ret, ρ2, H2, E2, lo2, trivial, sat2, k⟩

theorem SeqA.go {P : Program} {inl : List Nat} {N nb : Nat} {x y : Code} {K : KA} {E : Env} {lo : List AObj}
    (h : vc P inl N nb x (fun e E lo => match e with | .normal => vc P inl N nb y K E lo | .exit i => K (.exit i) E lo | .ret => K .ret E lo) E lo) : SeqA P inl N nb x y K E lo := by
  intro hm hx hy bs ρ H a w hb s
  refine wp_seq (wp_mono (vc_sound hm x _ E lo hx h bs ρ H a w hb s) fun e a w p => ?_)
  obtain ⟨x', ρ', H', E', lo', hx, s', k⟩ := p
  cases x' <;> cases e <;> simp only [AXis] at hx
  · exact vc_sound hm y K E' lo' hy k bs ρ' H' a w hb s'
  · exact ⟨.exit _, ρ', H', E', lo', hx, s', k⟩
  · exact ⟨.ret, ρ', H', E', lo', trivial, s', k⟩

theorem SeqA.cut {P : Program} {inl : List Nat} {N nb : Nat} {x y : Code} {K : KA} {E : Env} {lo : List AObj} {S R : Type} (fr : S → Env) (ob : S → List AObj) (k : S → Option R) {r : R}
    (hy : ∀ s, k s = some r → vc P inl N nb y K (fr s) (ob s))
    (hx : vc P inl N nb x (fun e E lo => match e with | .normal => ∃ s, k s = some r ∧ WeakK nb E lo (fr s) (ob s) | .exit i => K (.exit i) E lo | .ret => K .ret E lo) E lo) : SeqA P inl N nb x y K E lo := by
  intro hm hdx hdy bs ρ H a w hb s
  refine wp_seq (wp_mono (vc_sound hm x _ E lo hdx hx bs ρ H a w hb s) fun e a w p => ?_)
  obtain ⟨x', ρ', H', E', lo', hx, s', kk⟩ := p
  cases x' <;> cases e <;> simp only [AXis] at hx
  · obtain ⟨st, hst, hwk⟩ := kk
    subst hb
    obtain ⟨ρ3, s3⟩ := hwk.sat s'
    exact vc_sound hm y K _ _ hdy (hy st hst) bs ρ3 H' a w rfl s3
  · exact ⟨.exit _, ρ', H', E', lo', hx, s', kk⟩
  · exact ⟨.ret, ρ', H', E', lo', trivial, s', kk⟩

theorem CallsF.of_vcN {P : Program} {f : FuncId} {fn : Func} {args : List PV} {r : PV} {inl : List Nat} (hm : P.follows .mixedOrders = true) (he : Enters P f) (hf : P.funcs[f]? = some fn) (hok : fnOk inl fn args.length = true)
    (h : vcFn P inl fn args (fun v => nle v r)) : CallsF P f args r :=
  CallsF.of_vcR hm he hf hok (fun _ _ _ => nle_rep) h

/-! ### Reckoning -/
section
variable {A R S : Type}
theorem loopK_succ (B : (S → Option R) → S → Option R) (n : Nat) (s : S) : loopK B (n + 1) s = B (loopK B n) s := rfl
@[simp] theorem bnd_eq (a : A) (k : A → Option R) : bnd (some a) k = k a := rfl
@[simp] theorem bnd_no (k : A → Option R) : bnd none k = none := rfl
@[simp] theorem chk_eq (k : Option R) : chk true k = k := rfl
@[simp] theorem chk_chk (b : Bool) (k : Option R) : chk b (chk b k) = chk b k := by cases b <;> rfl
@[simp] theorem gsome_t [Inhabited A] (o : Option A) : gsome true o = o := rfl
@[simp] theorem gsome_f [Inhabited A] (o : Option A) : gsome false o = some default := rfl
@[simp] theorem idx_nat (l : List A) (i : Nat) : idx l (i : Int) = l[i]? := by unfold idx; simp
@[simp] theorem idx_zero (l : List A) : idx l 0 = l[0]? := by unfold idx; simp
@[simp] theorem natI_nat (i : Nat) : natI (i : Int) = some i := by unfold natI; simp
@[simp] theorem u8I_byte (b : UInt8) : u8I ((b.toNat : Nat) : Int) = some b := by
  have := b.toNat_lt
  unfold u8I
  rw [if_pos ⟨Int.natCast_nonneg _, by omega⟩]
  simp
theorem idx_of {l : List A} {i : Int} (n : Nat) (h : i = n) : idx l i = l[n]? := by subst h; simp
theorem natI_of {i : Int} (n : Nat) (h : i = n) : natI i = some n := by subst h; simp
@[simp] theorem bRows_len (l : List UInt8) : (bRows l).length = l.length := by simp [bRows]
@[simp] theorem valRows_len (l : List Val) : (Val.rows l).length = l.length := by rw [rows_eq]; simp
theorem chk_of {b : Bool} (k : Option R) (h : b = true) : chk b k = k := by subst h; rfl
end
end Ax
end
section
namespace Ax
open Go

/-- m: how many of the objects stay where they are; the others are used up. -/
def CallsO (P : Program) (f : FuncId) (args : List FV) (objs : List AObj) (m : Nat) (R : FV → List AObj → Prop) : Prop :=
  ∀ (bs : Base) (ρ : List Value) (H : PH) (w : World) (vs : List Value), bs.r0 = ρ.take m → SatW bs ρ H objs w → RepFL ρ H args vs →
    match (callFunc f vs.toArray).run P w with
    | .ok (.value v) w' => ∃ r objs' ρ' H', R r objs' ∧ PH.le H H' ∧ SatW bs ρ' H' objs' w' ∧ RepF ρ' H' r v
    | .ok (.enter f' args') w' => w' = w ∧ Calls P f' args' w fun en w'' => ∃ v r objs' ρ' H', en = .returned v ∧ R r objs' ∧ PH.le H H' ∧ SatW bs ρ' H' objs' w'' ∧ RepF ρ' H' r v
    | _ => False

theorem CallsO.mono {P : Program} {f : FuncId} {args : List FV} {objs : List AObj} {m : Nat} {R R' : FV → List AObj → Prop} (h : CallsO P f args objs m R) (hr : ∀ r lo, R r lo → R' r lo) : CallsO P f args objs m R' := by
  intro bs ρ H w vs hb s rl
  have := h bs ρ H w vs hb s rl
  generalize (callFunc f vs.toArray).run P w = x at *
  cases x with
  | ok n w' =>
    cases n <;> simp only at this ⊢ <;> try exact this
    · obtain ⟨r, objs', ρ', H', h1, h2⟩ := this; exact ⟨r, objs', ρ', H', hr _ _ h1, h2⟩
    · exact ⟨this.1, this.2.mono fun en w'' ⟨v, r, objs', ρ', H', e, h1, h2⟩ => ⟨v, r, objs', ρ', H', e, hr _ _ h1, h2⟩⟩
  | halt x w' => exact this

/-! ### Out of the code -/
def retO (P : Program) (fn : Func) (m : Nat) (R : FV → List AObj → Prop) : KA := retI P fn fun r0 lo => ∃ r objs', R r objs' ∧ WeakK m [(0, r0)] lo [(0, r)] objs'

def vcO (P : Program) (inl : List Nat) (fn : Func) (args : List FV) (objs : List AObj) (m : Nat) (R : FV → List AObj → Prop) : Prop :=
  match fn.body with
  | some c => vc P inl fn.ntmps m c (retO P fn m R) (initF 0 args) objs
  | none => False

theorem CallsO.of_vc {P : Program} {f : FuncId} {fn : Func} {args : List FV} {objs : List AObj} {m : Nat} {R : FV → List AObj → Prop} {inl : List Nat} (hm : P.follows .mixedOrders = true) (he : Enters P f) (hf : P.funcs[f]? = some fn) (hok : fnOk inl fn args.length = true)
    (hml : m ≤ objs.length) (h : vcO P inl fn args objs m R) : CallsO P f args objs m R := by
  intro bs ρ H w vs hbs s rl
  rw [he]
  refine ⟨rfl, ?_⟩
  simp only [fnOk, Bool.and_eq_true, decide_eq_true_eq] at hok
  obtain ⟨hd, hn⟩ := hok
  unfold vcO at h
  cases hb : fn.body with
  | none => simp [hb] at hd
  | some c =>
    simp only [hb] at h hd
    refine calls_of_wp hf hb ?_
    have hl := rl.length
    have hr0 : bs.r0.length = m := by rw [hbs, List.length_take, s.hlen]; omega
    have sat : Sat bs fn.ntmps ρ H (lookD (initF 0 args)) objs { tmps := vs.toArray ++ Array.replicate (fn.ntmps - vs.toArray.size) undef, defers := [] } w := by
      refine { s with slots := fun t => ?_, width := by simp; omega, defers := rfl }
      rw [initF_spec]
      simp only [Nat.zero_le, if_true, Nat.sub_zero]
      cases ht : args[t]? with
      | none => trivial
      | some p =>
        obtain ⟨v, hv, rv⟩ := rl.get ht
        have hlt := (List.getElem?_eq_some_iff.1 hv).1
        have : (vs.toArray ++ Array.replicate (fn.ntmps - vs.toArray.size) undef).getD t undef = v := by
          rw [Array.getD_eq_getD_getElem?, Array.getElem?_append_left (by simpa using hlt)]
          simp [hv]
        rw [this]
        exact rv
    have hcalls := vc_sound hm c _ _ _ hd h { bs with H0 := H } ρ H _ w hr0 { sat with leH := PH.le.refl H, newH := fun b o v hv => .inl ⟨v, hv⟩ }
    refine wp_mono hcalls fun e a w' p => ?_
    obtain ⟨x, ρ', H', E', lo', hx, s', k⟩ := p
    obtain ⟨r0, hR, hxx, hres⟩ := retI_spec k
    obtain ⟨r, objs', hR, hw⟩ := hR
    obtain ⟨v, hv, rv⟩ := hres _ _ ρ' H' a w' s'
    have s1 : Sat { bs with H0 := H } 1 ρ' H' (lookD [(0, r0)]) lo' { tmps := #[v], defers := [] } w' := by
      refine { s'.toSatW with slots := fun t => ?_, width := rfl, defers := rfl }
      cases t with
      | zero => exact rv
      | succ t => simp only [lookD]; exact trivial
    obtain ⟨ρ2, s2⟩ := WeakK.sat s1 (by rw [hr0]; exact hw)
    have rv2 : RepF ρ2 H' r v := s2.slots 0
    have fin : ∃ v, (results fn a.tmps).run P w' = .ok v w' ∧ (fun en w'' => ∃ v r objs' ρ' H', en = Ending.returned v ∧ R r objs' ∧ PH.le H H' ∧ SatW bs ρ' H' objs' w'' ∧ RepF ρ' H' r v) (.returned v) w' := by
      refine ⟨v, hv, v, r, objs', ρ2, H', rfl, hR, s2.leH, ?_, rv2⟩
      refine { s2.toSatW with leH := s.leH.trans s2.leH, newH := fun b o u hu => ?_ }
      rcases s2.newH b o u hu with ⟨u', hu'⟩ | h | h
      · exact s.newH b o u' hu'
      · exact .inr (.inl h)
      · exact .inr (.inr h)
    rcases hxx with rfl | rfl <;> cases e <;> simp only [AXis] at hx
    · exact ⟨s'.defers, fin⟩
    · exact ⟨s'.defers, fin⟩

/-! ### Among the caller's objects -/
def AObj.ren (σ : Nat → Nat) : AObj → AObj
  | .box t cells => .box t (cells.map (FV.ren σ))
  | .mp d es _ => .mp d es none
  | .vl e z rows j k => .vl e z rows j (σ k)
  | .pbx t c => .pbx t (c.ren σ)
  | o => o

theorem RepF.ren {ρ ρ' : List Value} {H : PH} {σ : Nat → Nat} (h : ∀ i v, ρ[i]? = some v → ρ'[σ i]? = some v) : ∀ {f : FV} {x : Value}, RepF ρ H f x → RepF ρ' H (f.ren σ) x
  | .top, _, _ => trivial
  | .p p, x, r => r
  | .opt g v, x, r => by
    simp only [FV.ren, RepF] at *
    split
    · rename_i hg; simp only [hg, if_true] at r; exact RepF.ren h r
    · rename_i hg; simpa [hg] using r
  | .tsl k rows, x, r => ⟨h _ _ r.1, r.2⟩
  | .ptr k off, x, ⟨b, e, e'⟩ => ⟨b, h _ _ e, e'⟩
  | .hptr row, x, r => r
  | .bself k, x, ⟨b, e, e'⟩ => ⟨b, h _ _ e, e'⟩
  | .bsl k off len cap, x, ⟨b, e, e'⟩ => ⟨b, h _ _ e, e'⟩
  | .vsl k n, x, r => ⟨h _ _ r.1, r.2⟩
  | .eptr k z i off, x, ⟨b, n, cap, e, e'⟩ => ⟨b, n, cap, h _ _ e, e'⟩
  | .mref k, x, ⟨b, e, e'⟩ => ⟨b, h _ _ e, e'⟩
  | .pair a b, x, ⟨u, v, e, ra, rb⟩ => ⟨u, v, e, ra.ren h, rb.ren h⟩
  | .stmp k, x, r => h _ _ r
  | .clo f c, x, ⟨vs, e, rc⟩ => ⟨vs, e, rc.ren h⟩
  | .cap0, x, r => r
  | .cap a b, x, ⟨u, vs, e, ra, rb⟩ => ⟨u, vs, e, ra.ren h, rb.ren h⟩
  | .fagg c, x, ⟨vs, e, rc⟩ => ⟨vs, e, rc.ren h⟩
  | .nxt ok a b, x, r => r
  | .asl k off n, x, ⟨b, m, cap, c, e, e'⟩ => ⟨b, m, cap, c, h _ _ e, e'⟩

theorem RepFL.ren {ρ ρ' : List Value} {H : PH} {σ : Nat → Nat} (h : ∀ i v, ρ[i]? = some v → ρ'[σ i]? = some v) : ∀ {cs : List FV} {vs : List Value}, RepFL ρ H cs vs → RepFL ρ' H (cs.map (FV.ren σ)) vs
  | [], _, r => r
  | _ :: _, _, ⟨v, vs', e, r, rs⟩ => ⟨v, vs', e, r.ren h, rs.ren h⟩

theorem ObjOk.ren {ρ ρ' : List Value} {H : PH} {w : World} {σ : Nat → Nat} (h : ∀ i v, ρ[i]? = some v → ρ'[σ i]? = some v) {v : Value} {o : AObj} (ok : ObjOk ρ H w v o) : ObjOk ρ' H w v (o.ren σ) := by
  cases o with
  | dead => trivial
  | box t cells =>
    obtain ⟨b, vs, e, hg, rc, hh⟩ := ok
    exact ⟨b, vs, e, hg, rc.ren h, hh⟩
  | tail e z n => exact ok
  | vec e z rows => exact ok
  | mp d es mk =>
    obtain ⟨b, ents, clock, e, hg, rm, ⟨h1, h2, _⟩, hh⟩ := ok
    exact ⟨b, ents, clock, e, hg, rm, ⟨h1, h2, fun key s e => by cases e⟩, hh⟩
  | sit l p => exact ok
  | bv l => exact ok
  | vl e z rows j k =>
    obtain ⟨xs, h1, h2, h3, h4, h5⟩ := ok
    exact ⟨xs, h1, h2, h3, h4, fun u hu => h _ _ (h5 u hu)⟩
  | pbx t c =>
    obtain ⟨b, u, us, e, hg, rc, hh⟩ := ok
    exact ⟨b, u, us, e, hg, rc.ren h, hh⟩

theorem AObj.ren_live (σ : Nat → Nat) (o : AObj) : (o.ren σ).live = o.live := by cases o <;> rfl

/-- Where the callee's objects stand among the caller's, behind the call. -/
def σOf (l : List Nat) (m n : Nat) : Nat → Nat := fun i => match Nat.blt i m with
  | true => l.getD i 0
  | false => n + (i - m)
/-- The caller's object j: which of the callee's it was. -/
def posK : List Nat → List Nat → Nat → Nat → Option Nat
  | [], _, _, _ => none
  | k :: l, fresh, i, j => match Nat.beq k j with
    | true => match fresh.contains i with
      | true => posK l fresh (i + 1) j
      | false => some i
    | false => posK l fresh (i + 1) j
def mergeAt (l fresh : List Nat) (m : Nat) (σ : Nat → Nat) (objs' : List AObj) (j : Nat) (o : AObj) : AObj :=
  match posK l fresh 0 j with
  | some i => match Nat.blt i m with
    | true => match objs'[i]? with | some o' => o'.ren σ | none => .dead
    | false => .dead
  | none => o
def mergeF (l fresh : List Nat) (m : Nat) (σ : Nat → Nat) (objs' : List AObj) : Nat → List AObj → List AObj
  | _, [] => (objs'.drop m).map (AObj.ren σ)
  | j, o :: lo => mergeAt l fresh m σ objs' j o :: mergeF l fresh m σ objs' (j + 1) lo
def mergeO (l fresh : List Nat) (m : Nat) (lo objs' : List AObj) : List AObj := mergeF l fresh m (σOf l m lo.length) objs' 0 lo

theorem mergeF_get {l fresh : List Nat} {m : Nat} {σ : Nat → Nat} {objs' : List AObj} : ∀ {lo : List AObj} {j i : Nat} {o : AObj}, (mergeF l fresh m σ objs' j lo)[i]? = some o →
    (∃ o0, lo[i]? = some o0 ∧ o = mergeAt l fresh m σ objs' (j + i) o0) ∨ (lo.length ≤ i ∧ ∃ o0, objs'[m + (i - lo.length)]? = some o0 ∧ o = o0.ren σ)
  | [], j, i, o, h => by
    simp only [mergeF, List.getElem?_map, List.getElem?_drop] at h
    cases hx : objs'[m + i]? with
    | none => simp [hx] at h
    | some o0 =>
      simp [hx] at h
      exact .inr ⟨Nat.zero_le _, o0, by simpa using hx, h.symm⟩
  | x :: lo, j, 0, o, h => by
    simp only [mergeF, List.getElem?_cons_zero, Option.some.injEq] at h
    exact .inl ⟨x, rfl, h.symm⟩
  | x :: lo, j, i + 1, o, h => by
    simp only [mergeF, List.getElem?_cons_succ] at h
    rcases mergeF_get h with ⟨o0, h1, h2⟩ | ⟨h1, o0, h2, h3⟩
    · exact .inl ⟨o0, by simpa using h1, by rw [h2, Nat.add_assoc, Nat.add_comm 1 i]⟩
    · refine .inr ⟨by simpa using h1, o0, ?_, h3⟩
      simpa using h2

theorem mergeF_length {l fresh : List Nat} {m : Nat} {σ : Nat → Nat} {objs' : List AObj} : ∀ {lo : List AObj} {j : Nat}, (mergeF l fresh m σ objs' j lo).length = lo.length + (objs'.length - m)
  | [], j => by simp [mergeF]
  | x :: lo, j => by
    simp only [mergeF, List.length_cons, mergeF_length (lo := lo)]
    omega

theorem posK_some {fresh : List Nat} {j : Nat} : ∀ {l : List Nat} {i0 i : Nat}, posK l fresh i0 j = some i → i0 ≤ i ∧ l[i - i0]? = some j ∧ i ∉ fresh
  | [], _, _, h => by simp [posK] at h
  | k :: l, i0, i, h => by
    simp only [posK] at h
    have step : posK l fresh (i0 + 1) j = some i → i0 ≤ i ∧ (k :: l)[i - i0]? = some j ∧ i ∉ fresh := by
      intro h
      obtain ⟨h1, h2, h3⟩ := posK_some h
      refine ⟨by omega, ?_, h3⟩
      have e : i - i0 = (i - (i0 + 1)) + 1 := by omega
      rw [e]
      simpa using h2
    split at h
    · rename_i hk
      have hk := Nat.eq_of_beq_eq_true hk
      split at h
      · exact step h
      · rename_i hf
        cases h
        exact ⟨Nat.le_refl _, by simp [hk], by simpa using hf⟩
    · exact step h

theorem posK_none {fresh : List Nat} {j : Nat} : ∀ {l : List Nat} {i0 : Nat}, posK l fresh i0 j = none → ∀ i, l[i]? = some j → i0 + i ∈ fresh
  | [], _, _, i, h => by simp at h
  | k :: l, i0, h, i, hi => by
    simp only [posK] at h
    cases i with
    | zero =>
      simp at hi
      subst hi
      simp only [Nat.beq_refl] at h
      split at h
      · rename_i hf; simpa using hf
      · cases h
    | succ i =>
      have step : posK l fresh (i0 + 1) j = none → i0 + (i + 1) ∈ fresh := fun h => by
        have := posK_none h i (by simpa using hi)
        have e : i0 + 1 + i = i0 + (i + 1) := by omega
        rwa [e] at this
      split at h
      · split at h
        · exact step h
        · cases h
      · exact step h

def leArgs (π : Nat → Nat) (fresh : List Nat) : List FV → List FV → Prop
  | [], [] => True
  | a :: l, b :: m => leF π fresh a b ∧ leArgs π fresh l m
  | _, _ => False

theorem leArgs_rep {ρ : List Value} {H : PH} {π : Nat → Nat} {fresh : List Nat} {n : Nat} : ∀ {xs ys : List FV} {vs : List Value}, leArgs π fresh xs ys → (∀ c ∈ ys, ∀ k ∈ c.names, k < n) → RepFL ρ H xs vs → RepFL (renρ ρ π fresh n) H ys vs
  | [], [], vs, _, _, r => r
  | [], _ :: _, _, h, _, _ => by simp [leArgs] at h
  | _ :: _, [], _, h, _, _ => by simp [leArgs] at h
  | a :: xs, b :: ys, vs, h, hn, r => by
    simp only [leArgs] at h
    obtain ⟨v, vs', e, r1, rs⟩ := r
    exact ⟨v, vs', e, leF_rep h.1 (hn b (by simp)) r1, leArgs_rep h.2 (fun c hc => hn c (by simp [hc])) rs⟩

theorem leObj_live {π : Nat → Nat} {fresh : List Nat} {k : Nat} {o o' : AObj} (hle : leObj π fresh k o o') (hl : o'.live = true) : o.live = true := by
  cases o' with
  | dead => simp [AObj.live] at hl
  | box t c => cases o <;> simp only [leObj] at hle; rfl
  | tail e z n => simp only [leObj] at hle; subst hle; rfl
  | vec e z n => simp only [leObj] at hle; subst hle; rfl
  | mp d es mk => simp only [leObj] at hle; obtain ⟨_, _, rfl⟩ := hle; rfl
  | sit l p => simp only [leObj] at hle; subst hle; rfl
  | bv l => simp only [leObj] at hle; subst hle; rfl
  | vl e z rows j k' => simp only [leObj] at hle; obtain ⟨_, rfl⟩ := hle; rfl
  | pbx t c => cases o <;> simp only [leObj] at hle; rfl

theorem CallsO.use {P : Program} {f : FuncId} {args : List FV} {objs : List AObj} {m : Nat} {R : FV → List AObj → Prop} (h : CallsO P f args objs m R) (l fresh : List Nat) {args' : List FV} {lo : List AObj} {K : FV → List AObj → Prop}
    (hw : weakB 0 l fresh = true ∧ l.length = objs.length ∧ namesC objs.length args = true ∧ namesO objs.length objs = true ∧ Nat.ble m objs.length = true ∧ (List.range m).all (fun i => !fresh.contains i) = true)
    (ha : leArgs (πOf l) fresh args' args) (ho : leObs lo (πOf l) fresh 0 objs)
    (hK : ∀ r0 objs', R r0 objs' → ∃ r lo2, r0.ren (σOf l m lo.length) = r ∧ mergeO l fresh m lo objs' = lo2 ∧ K r lo2) : CallsI P f args' lo K := by
  obtain ⟨hb, hl, hnA, hnO, hml, hfr⟩ := hw
  have hml := Nat.le_of_ble_eq_true hml
  have hfr : ∀ i, i < m → i ∉ fresh := by
    intro i hi
    have := List.all_eq_true.1 hfr i (by simpa using hi)
    simpa using this
  simp only [weakB, Bool.and_eq_true, decide_eq_true_eq, List.all_eq_true, List.mem_range, Bool.or_eq_true, beq_iff_eq, Bool.not_eq_true', bne_iff_ne] at hb
  obtain ⟨⟨⟨_, _⟩, hinj⟩, hfl⟩ := hb
  have get := fun (i : Nat) (o' : AObj) (h : objs[i]? = some o') => leObs_spec ho i o' h
  simp only [Nat.zero_add] at get
  have inj : ∀ i j, i < objs.length → j < objs.length → i ∉ fresh → j ∉ fresh → πOf l i = πOf l j → i = j := by
    intro i j hi hj hfi hfj e
    have := hinj i (by omega) j (by omega)
    simp only [List.contains_iff_mem, hfi, hfj, false_or] at this
    rcases this with h | h
    · exact absurd e h
    · exact h
  have hlget : ∀ i, i < l.length → l[i]? = some (πOf l i) := fun i hi => by
    simp [πOf, List.getD_eq_getElem?_getD, List.getElem?_eq_getElem hi]
  intro bs ρ H w vs s rl
  -- the callee's view
  let π := πOf l
  let ρ2 := renρ ρ π fresh objs.length
  have weak : Weak 0 (initF 0 args') lo (initF 0 args) objs π fresh := by
    refine { bounds := fun k hk hf => ?_, keep := fun k hk => absurd hk (Nat.not_lt_zero _), nb := Nat.zero_le _, inj := fun i j oi oj hi hj _ _ => inj i j (List.getElem?_eq_some_iff.1 hi).1 (List.getElem?_eq_some_iff.1 hj).1, frsh := fun k hk => ?_, obj := fun k o' ho hf => (get k o' ho).2 hf, slot := ?_ }
    · obtain ⟨o, ho, _⟩ := (get k _ (List.getElem?_eq_getElem hk)).2 hf
      exact (List.getElem?_eq_some_iff.1 ho).1
    · have hk' : k < objs.length := by have := hfl k hk; omega
      obtain ⟨e, z, he⟩ := (get k _ (List.getElem?_eq_getElem hk')).1 hk
      exact ⟨e, z, he.imp (fun he => by rw [List.getElem?_eq_getElem hk', he]) (fun he => he.imp (fun he => by rw [List.getElem?_eq_getElem hk', he]) (fun ⟨j, k2, he⟩ => ⟨j, k2, by rw [List.getElem?_eq_getElem hk', he]⟩))⟩
    · have : ∀ (n : Nat) (xs ys : List FV), leArgs π fresh xs ys → ∀ t v, (t, v) ∈ initF n ys → leF π fresh (lookD (initF n xs) t) v := by
        intro n xs
        induction xs generalizing n with
        | nil =>
          intro ys hab t v hm
          cases ys with
          | nil => simp [initF] at hm
          | cons b ys => simp [leArgs] at hab
        | cons a xs ih =>
          intro ys hab t v hm
          cases ys with
          | nil => simp [leArgs] at hab
          | cons b ys =>
            simp only [leArgs] at hab
            simp only [initF, List.mem_cons, Prod.mk.injEq] at hm
            have hge : ∀ (n : Nat) (bs : List FV) (t : Nat) (v : FV), (t, v) ∈ initF n bs → n ≤ t := by
              intro n bs
              induction bs generalizing n with
              | nil => intro t v h; simp [initF] at h
              | cons c cs ih2 =>
                intro t v h
                simp only [initF, List.mem_cons, Prod.mk.injEq] at h
                rcases h with ⟨rfl, _⟩ | h
                · exact Nat.le_refl _
                · have := ih2 (n + 1) t v h; omega
            simp only [initF, lookD]
            rcases hm with ⟨rfl, rfl⟩ | hm
            · simp only [Nat.beq_refl]; exact hab.1
            · have := hge _ _ _ _ hm
              have hne : Nat.beq t n = false := by
                cases hx : Nat.beq t n with
                | false => rfl
                | true => have := Nat.eq_of_beq_eq_true hx; omega
              simp only [hne]
              exact ih (n + 1) ys hab.2 t v hm
      exact this 0 args' args ha
  have sat0 : Sat { bs with r0 := [] } vs.length ρ H (lookD (initF 0 args')) lo { tmps := vs.toArray, defers := [] } w := by
    refine { s with pre := List.nil_prefix, slots := fun t => ?_, width := by simp, defers := rfl }
    rw [initF_spec]
    simp only [Nat.zero_le, if_true, Nat.sub_zero]
    cases ht : args'[t]? with
    | none => trivial
    | some p =>
      obtain ⟨v, hv, rv⟩ := rl.get ht
      have : vs.toArray.getD t undef = v := by
        rw [Array.getD_eq_getD_getElem?]
        simp [hv]
      rw [this]
      exact rv
  have hnames : namesOk (initF 0 args) objs := by
    refine ⟨fun t v hm => ?_, namesO_spec hnO, namesO_spec2 hnO, namesO_spec3 hnO⟩
    have : ∀ (n : Nat) (bs : List FV) (t : Nat) (v : FV), (t, v) ∈ initF n bs → v ∈ bs := by
      intro n bs
      induction bs generalizing n with
      | nil => intro t v h; simp [initF] at h
      | cons c cs ih2 =>
        intro t v h
        simp only [initF, List.mem_cons, Prod.mk.injEq] at h
        rcases h with ⟨_, rfl⟩ | h
        · simp
        · exact List.mem_cons_of_mem _ (ih2 (n + 1) t v h)
    exact namesC_spec hnA v (this 0 args t v hm)
  have s2 := (sat0.weak weak hnames).toSatW
  have rl2 : RepFL ρ2 H args vs := leArgs_rep ha (namesC_spec hnA) rl
  have ρ2get : ∀ {i : Nat} {v : Value}, ρ2[i]? = some v → i < objs.length ∧ ((i ∈ fresh ∧ v = .slice none 0 0) ∨ (i ∉ fresh ∧ ρ[π i]? = some v)) := by
    intro i v hv
    have hk : i < objs.length := by have := (List.getElem?_eq_some_iff.1 hv).1; simpa [ρ2, renρ] using this
    have hv' := hv
    rw [show ρ2[i]? = _ from renρ_get hk] at hv'
    refine ⟨hk, ?_⟩
    by_cases hf : i ∈ fresh
    · simp [hf] at hv'; exact .inl ⟨hf, hv'.symm⟩
    · simp only [hf, if_false] at hv'
      refine .inr ⟨hf, ?_⟩
      obtain ⟨o, ho, _⟩ := (get i _ (List.getElem?_eq_getElem hk)).2 hf
      have : π i < ρ.length := by rw [s.hlen]; exact (List.getElem?_eq_some_iff.1 ho).1
      rw [List.getD_eq_getElem?_getD, List.getElem?_eq_getElem this] at hv'
      rw [List.getElem?_eq_getElem this]
      simpa using hv'
  let bs2 : Base := { S := lent ρ2 objs, w0 := w, H0 := H, r0 := ρ2.take m }
  have s2' : SatW bs2 ρ2 H objs w :=
    { sath := s2.sath, hlen := s2.hlen, pre := List.take_prefix _ _, objs := s2.objs, excl := s2.excl, own := fun k o v b hk hv hl hb => .inl ⟨k, o, v, hk, hv, hl, hb⟩, keep := Keep.refl _ w, leH := PH.le.refl H, newH := fun b o v h => .inl ⟨v, h⟩ }
  -- whose blocks the callee may write
  have lentS : ∀ b, lent ρ2 objs b → ∃ i o v, i < objs.length ∧ i ∉ fresh ∧ lo[π i]? = some o ∧ ρ[π i]? = some v ∧ o.live = true ∧ blkOf v = some b := by
    rintro b ⟨i, o, v, hi, hv, hl', hb⟩
    obtain ⟨hlt, hc⟩ := ρ2get hv
    rcases hc with ⟨_, rfl⟩ | ⟨hf, hv'⟩
    · simp [blkOf] at hb
    · obtain ⟨o0, ho0, hle⟩ := (get i o hi).2 hf
      exact ⟨i, o0, v, hlt, hf, ho0, hv', leObj_live hle hl', hb⟩
  have key : ∀ (r0 : FV) (objs' : List AObj) (ρ' : List Value) (H' : PH) (w' : World) (v : Value), R r0 objs' → PH.le H H' → SatW bs2 ρ' H' objs' w' → RepF ρ' H' r0 v → ∃ r lo', After bs ρ H r lo' v w' ∧ K r lo' := by
    intro r0 objs' ρ' H' w' v hR hle s3 rv
    obtain ⟨r, lo2, rfl, rfl, hk⟩ := hK r0 objs' hR
    refine ⟨_, _, ?_, hk⟩
    have hρ2len : ρ2.length = objs.length := by simp [ρ2, renρ]
    have hpre : ρ2.take m <+: ρ' := s3.pre
    have hm' : m ≤ ρ'.length := by
      have := hpre.length_le
      rw [List.length_take, hρ2len] at this
      omega
    have hold : ∀ i, i < m → ρ'[i]? = ρ2[i]? := by
      intro i hi
      obtain ⟨t, ht⟩ := hpre
      rw [← ht, List.getElem?_append_left (by rw [List.length_take, hρ2len]; omega), List.getElem?_take, if_pos hi]
    have hσ : ∀ i v, ρ'[i]? = some v → (ρ ++ ρ'.drop m)[σOf l m lo.length i]? = some v := by
      intro i v hv
      unfold σOf
      by_cases hi : i < m
      · have : Nat.blt i m = true := Nat.ble_eq_true_of_le hi
        simp only [this]
        rw [hold i hi] at hv
        obtain ⟨hlt, hc⟩ := ρ2get hv
        rcases hc with ⟨hf, _⟩ | ⟨_, hv'⟩
        · exact absurd hf (hfr i hi)
        · have hπ : l.getD i 0 = π i := rfl
          rw [hπ, List.getElem?_append_left (List.getElem?_eq_some_iff.1 hv').1]
          exact hv'
      · have : Nat.blt i m = false := by
          cases hx : Nat.blt i m with
          | false => rfl
          | true => exact absurd (Nat.le_of_ble_eq_true hx) hi
        simp only [this]
        rw [List.getElem?_append_right (by rw [s.hlen]; omega), s.hlen, Nat.add_sub_cancel_left, List.getElem?_drop]
        have e : m + (i - m) = i := by omega
        rw [e]
        exact hv
    -- the objects: the callee's (i) or untouched
    have cls : ∀ (j : Nat) (o : AObj) (v : Value), (mergeO l fresh m lo objs')[j]? = some o → (ρ ++ ρ'.drop m)[j]? = some v → o.live = true →
        (∃ i o0, objs'[i]? = some o0 ∧ ρ'[i]? = some v ∧ o = o0.ren (σOf l m lo.length) ∧ j = σOf l m lo.length i) ∨
        (j < lo.length ∧ lo[j]? = some o ∧ ρ[j]? = some v ∧ ∀ i, i < objs.length → i ∉ fresh → π i ≠ j) := by
      intro j o v hj hv hlive
      rcases mergeF_get hj with ⟨o0, h1, h2⟩ | ⟨h1, o0, h2, h3⟩
      · have hjl := (List.getElem?_eq_some_iff.1 h1).1
        rw [List.getElem?_append_left (by rw [s.hlen]; exact hjl)] at hv
        rw [Nat.zero_add] at h2
        unfold mergeAt at h2
        split at h2
        · rename_i i hp
          obtain ⟨_, hli, hif⟩ := posK_some hp
          rw [Nat.sub_zero] at hli
          have hil : i < l.length := (List.getElem?_eq_some_iff.1 hli).1
          have hπ : π i = j := by have := hlget i hil; rw [hli] at this; exact (Option.some.inj this).symm
          split at h2
          · rename_i him
            have him : i < m := Nat.le_of_ble_eq_true him
            split at h2
            · rename_i o' ho'
              refine .inl ⟨i, o', ho', ?_, h2, ?_⟩
              · rw [hold i him]
                have hik : i < objs.length := by omega
                rw [show ρ2[i]? = _ from renρ_get hik]
                simp only [hif, if_false]
                rw [List.getD_eq_getElem?_getD, hπ, hv]
                rfl
              · unfold σOf
                simp only [show Nat.blt i m = true from Nat.ble_eq_true_of_le him]
                exact hπ.symm
            · rw [h2] at hlive; simp [AObj.live] at hlive
          · rw [h2] at hlive; simp [AObj.live] at hlive
        · rename_i hp
          refine .inr ⟨hjl, by rw [h2]; exact h1, hv, fun i hi hf e => ?_⟩
          have := posK_none hp i (by rw [hlget i (by omega)]; exact congrArg some e)
          rw [Nat.zero_add] at this
          exact hf this
      · refine .inl ⟨m + (j - lo.length), o0, h2, ?_, h3, ?_⟩
        · rw [List.getElem?_append_right (by rw [s.hlen]; exact h1), s.hlen, List.getElem?_drop] at hv
          exact hv
        · unfold σOf
          have : Nat.blt (m + (j - lo.length)) m = false := by
            cases hx : Nat.blt (m + (j - lo.length)) m with
            | false => rfl
            | true => have := Nat.le_of_ble_eq_true hx; omega
          simp only [this]
          omega
    -- an untouched object's block is none that the callee may write, and was there
    have apart : ∀ (j : Nat) (o : AObj) (v : Value) (b : Nat), lo[j]? = some o → ρ[j]? = some v → (∀ i, i < objs.length → i ∉ fresh → π i ≠ j) → o.live = true → blkOf v = some b → ¬ lent ρ2 objs b := by
      intro j o v b hj hv hnot hlive hb hlent
      obtain ⟨i, o0, v0, hi, hf, ho0, hv0, hl0, hb0⟩ := lentS b hlent
      exact s.excl (π i) j o0 o v0 v b ho0 hj hv0 hv (hnot i hi hf) hl0 hlive hb0 hb
    have old : ∀ (j : Nat) (o : AObj) (v : Value) (b : Nat), lo[j]? = some o → ρ[j]? = some v → o.live = true → blkOf v = some b → b < w.heap.size := by
      intro j o v b hj hv hlive hb
      have hfresh := s.fresh (g := b)
      rcases Nat.lt_or_ge b w.heap.size with h | h
      · exact h
      · exact absurd hb (hfresh h j o v hj hv hlive)
    have ownS : ∀ b, bs2.S b ∨ w.heap.size ≤ b → bs.S b ∨ bs.w0.heap.size ≤ b := by
      rintro b (hb | hb)
      · obtain ⟨i, o0, v0, _, _, ho0, hv0, hl0, hb0⟩ := lentS b hb
        exact s.own _ o0 v0 b ho0 hv0 hl0 hb0
      · exact .inr (Nat.le_trans s.keep.size hb)
    refine ⟨ρ ++ ρ'.drop m, H', List.prefix_append _ _, hle, ?_, rv.ren hσ⟩
    refine { sath := s3.sath, hlen := ?_, pre := s.pre.trans (List.prefix_append _ _), objs := ?_, excl := ?_, own := ?_, keep := ?_, leH := s.leH.trans hle, newH := ?_ }
    · unfold mergeO
      rw [mergeF_length, List.length_append, List.length_drop, s.hlen, s3.hlen]
    · intro j o v hj hv
      cases hlive : o.live with
      | false => cases o <;> simp [AObj.live] at hlive; trivial
      | true =>
        rcases cls j o v hj hv hlive with ⟨i, o0, h1, h2, rfl, _⟩ | ⟨hjl, h1, h2, hnot⟩
        · exact (s3.objs i o0 v h1 h2).ren hσ
        · refine (s.objs j o v h1 h2).keep (List.prefix_append _ _) hle (fun b hb hlt => s3.keep.block b hlt (apart j o v b h1 h2 hnot hlive hb)) (fun b o' hb hlt hn => ?_)
          cases hx : H' b o' with
          | none => rfl
          | some u =>
            rcases s3.newH b o' u hx with ⟨y, hy⟩ | hS | hge
            · have hy' : H b o' = some y := hy
              rw [hn] at hy'; cases hy'
            · exact absurd hS (apart j o v b h1 h2 hnot hlive hb)
            · have hge' : w.heap.size ≤ b := hge
              omega
    · intro j1 j2 o1 o2 v1 v2 b hj1 hj2 hv1 hv2 hne hl1 hl2 hb1 hb2
      rcases cls j1 o1 v1 hj1 hv1 hl1 with ⟨i1, a1, h1, h1v, rfl, e1⟩ | ⟨hjl1, h1, h1v, hnot1⟩ <;> rcases cls j2 o2 v2 hj2 hv2 hl2 with ⟨i2, a2, h2, h2v, rfl, e2⟩ | ⟨hjl2, h2, h2v, hnot2⟩
      · exact s3.excl i1 i2 a1 a2 v1 v2 b h1 h2 h1v h2v (fun e => hne (by rw [e1, e2, e])) (by rw [← AObj.ren_live]; exact hl1) (by rw [← AObj.ren_live]; exact hl2) hb1 hb2
      · have := s3.own i1 a1 v1 b h1 h1v (by rw [← AObj.ren_live]; exact hl1) hb1
        rcases this with hS | hge
        · exact apart j2 o2 v2 b h2 h2v hnot2 hl2 hb2 hS
        · have hge' : w.heap.size ≤ b := hge
          have := old j2 o2 v2 b h2 h2v hl2 hb2
          omega
      · have := s3.own i2 a2 v2 b h2 h2v (by rw [← AObj.ren_live]; exact hl2) hb2
        rcases this with hS | hge
        · exact apart j1 o1 v1 b h1 h1v hnot1 hl1 hb1 hS
        · have hge' : w.heap.size ≤ b := hge
          have := old j1 o1 v1 b h1 h1v hl1 hb1
          omega
      · exact s.excl j1 j2 o1 o2 v1 v2 b h1 h2 h1v h2v hne hl1 hl2 hb1 hb2
    · intro j o v b hj hv hlive hb
      rcases cls j o v hj hv hlive with ⟨i, a, h1, h1v, rfl, _⟩ | ⟨_, h1, h1v, _⟩
      · exact ownS b (s3.own i a v b h1 h1v (by rw [← AObj.ren_live]; exact hlive) hb)
      · exact s.own j o v b h1 h1v hlive hb
    · exact s.keep.step s3.keep fun i hi => ownS i (.inl hi)
    · intro b o u hu
      rcases s3.newH b o u hu with ⟨y, hy⟩ | hS | hge
      · exact s.newH b o y hy
      · exact .inr (ownS b (.inl hS))
      · exact .inr (ownS b (.inr hge))
  have := h bs2 ρ2 H w vs rfl s2' rl2
  generalize (callFunc f vs.toArray).run P w = x at *
  cases x with
  | ok n w' =>
    cases n <;> simp only at this ⊢ <;> try exact this
    · obtain ⟨r0, objs', ρ', H', hR, hle, s3, rv⟩ := this
      exact key r0 objs' ρ' H' w' _ hR hle s3 rv
    · obtain ⟨rfl, hc⟩ := this
      exact ⟨rfl, hc.mono fun en w'' ⟨v, r0, objs', ρ', H', e, hR, hle, s3, rv⟩ => by
        obtain ⟨r, lo', af, k⟩ := key r0 objs' ρ' H' w'' v hR hle s3 rv
        exact ⟨v, r, lo', e, af, k⟩⟩
  | halt x w' => exact this
end Ax
end
section
namespace Ax
open Go
section
variable {K V : Type} [BEq K]
def mRows (kp : K → PV) (vp : V → PV) (l : List (K × V)) : List (PV × PV) := l.map fun e => (kp e.1, vp e.2)
def mget (k : K) : List (K × V) → Option V
  | [] => none
  | (k', v) :: l => bif k == k' then some v else mget k l
def mgetD (l : List (K × V)) (k : K) (d : V) : V := (mget k l).getD d
def mhas (l : List (K × V)) (k : K) : Bool := (mget k l).isSome
def mset (k : K) (v : V) : List (K × V) → List (K × V)
  | [] => [(k, v)]
  | (k', v') :: l => bif k == k' then (k, v) :: l else (k', v') :: mset k v l
def KeyOk (kp : K → PV) : Prop := ∀ a b, kEqP (kp a) (kp b) = (a == b)
theorem mFind_rows {kp : K → PV} (hk : KeyOk kp) (vp : V → PV) (k : K) : ∀ l : List (K × V), mFind (kp k) (mRows kp vp l) = (mget k l).map vp
  | [] => rfl
  | (k', v) :: l => by
    have := mFind_rows hk vp k l
    simp only [mRows, List.map_cons, mFind, mget] at this ⊢
    rw [hk k k']
    cases k == k' with
    | true => rfl
    | false => simpa using this
theorem look_D {kp : K → PV} (hk : KeyOk kp) (vp : V → PV) (l : List (K × V)) (k : K) (d : V) : (mFind (kp k) (mRows kp vp l)).getD (vp d) = vp (mgetD l k d) := by
  rw [mFind_rows hk, mgetD]
  cases mget k l <;> rfl
theorem look_b {kp : K → PV} (hk : KeyOk kp) (vp : V → PV) (l : List (K × V)) (k : K) : (mFind (kp k) (mRows kp vp l)).isSome = mhas l k := by
  rw [mFind_rows hk, mhas]
  cases mget k l <;> rfl
theorem set_rows {kp : K → PV} (hk : KeyOk kp) (vp : V → PV) (k : K) (v : V) : ∀ l : List (K × V), mSet (kp k) (vp v) (mRows kp vp l) = mRows kp vp (mset k v l)
  | [] => rfl
  | (k', v') :: l => by
    have := set_rows hk vp k v l
    simp only [mRows, List.map_cons, mSet, mset] at this ⊢
    rw [hk k k']
    cases k == k' with
    | true => rfl
    | false => simpa using this
theorem mRows_len (kp : K → PV) (vp : V → PV) (l : List (K × V)) : (mRows kp vp l).length = l.length := by simp [mRows]
end
theorem keyStr : KeyOk PV.str := fun _ _ => rfl
theorem keyInt (k : IntKind) : KeyOk (PV.int k) := fun _ _ => rfl
theorem keyBool : KeyOk PV.bool := fun _ _ => rfl

theorem Codec.getN {A : Type} (C : Codec A) {l : List A} {j : Nat} {x : A} (h : l[j]? = some x) : (C.rows l)[j]? = some (C.cells x) := by
  rw [C.hrows]; simp [h]
theorem Codec.setN {A : Type} (C : Codec A) (l : List A) (j : Nat) (y : A) : (C.rows l).set j (C.cells y) = C.rows (l.set j y) := by
  rw [C.hrows, C.hrows, List.map_set]

theorem CallsO.less {P : Program} {f : FuncId} {args : List FV} {objs : List AObj} {m m' : Nat} {R : FV → List AObj → Prop} (h : CallsO P f args objs m R) (hm : m' ≤ m) : CallsO P f args objs m' R := by
  intro bs ρ H w vs hb s rl
  have hp : ρ.take m' <+: ρ.take m := by
    have e : ρ.take m' = (ρ.take m).take m' := by rw [List.take_take, Nat.min_eq_left hm]
    rw [e]
    exact List.take_prefix _ _
  have := h { bs with r0 := ρ.take m } ρ H w vs rfl { s with pre := List.take_prefix _ _ } rl
  have back : ∀ {ρ' : List Value} {H' : PH} {objs' : List AObj} {w' : World}, SatW { bs with r0 := ρ.take m } ρ' H' objs' w' → SatW bs ρ' H' objs' w' := fun s' => { s' with pre := by rw [hb]; exact hp.trans s'.pre }
  generalize (callFunc f vs.toArray).run P w = x at *
  cases x with
  | ok n w' =>
    cases n <;> simp only at this ⊢ <;> try exact this
    · obtain ⟨r, objs', ρ', H', h1, h2, h3, h4⟩ := this; exact ⟨r, objs', ρ', H', h1, h2, back h3, h4⟩
    · exact ⟨this.1, this.2.mono fun en w'' ⟨v, r, objs', ρ', H', e, h1, h2, h3, h4⟩ => ⟨v, r, objs', ρ', H', e, h1, h2, back h3, h4⟩⟩
  | halt x w' => exact this
mutual
theorem nle_refl : ∀ p : PV, nle p p
  | .agg l => by simp only [nle]; exact nleL_refl l
  | .tup l => by simp only [nle]; exact nleL_refl l
  | .hp l => by simp only [nle]; exact nleL_refl l
  | .clo f l => by simp only [nle]; exact ⟨trivial, nleL_refl l⟩
  | .nilsl | .bool _ | .int _ _ | .str _ | .sl _ | .nilp | .fn _ | .nilfn | .nili | .ifc _ _ | .nilmap => by simp only [nle]
theorem nleL_refl : ∀ l : List PV, nleL l l
  | [] => trivial
  | a :: l => ⟨nle_refl a, nleL_refl l⟩
end
theorem nleR_app {p q : List (List PV)} (h : nleR p q) : ∀ l, nleR (l ++ p) (l ++ q)
  | [] => h
  | a :: l => ⟨nleL_refl a, nleR_app h l⟩
theorem vlApp {A : Type} (C : Codec A) (x : List A) (y : A) {raw : List PV} (h : nleL raw (C.cells y)) : C.rows x ++ [raw] = C.rows (x ++ [y]) ∨ nleR (C.rows x ++ [raw]) (C.rows (x ++ [y])) := by
  right
  rw [← C.append x [y]]
  refine nleR_app ?_ _
  rw [C.hrows [y]]
  exact ⟨h, trivial⟩
theorem Codec.lenSet {A : Type} (C : Codec A) (l : List A) (j : Nat) (y : A) : (C.rows l).length = (C.rows (l.set j y)).length := by simp [C.hrows]
end Ax
end
section
open Go Ax
namespace W
/-- How great a list may be, and what is done with it. -/
abbrev lim : Nat := 1073741824

section
variable {A R S T : Type}
@[simp] theorem bnd_eq (a : A) (k : A → Option R) : bnd (some a) k = k a := rfl
@[simp] theorem chk_t (k : Option R) : chk true k = k := rfl
theorem chk_of {b : Bool} {k : Option R} (h : b = true) : chk b k = k := by subst h; rfl
theorem chk_dec {p : Prop} [Decidable p] {k : Option R} (h : p) : chk (decide p) k = k := chk_of (decide_eq_true h)
@[simp] theorem gsome_t [Inhabited A] (o : Option A) : gsome true o = o := rfl
@[simp] theorem gsome_f [Inhabited A] (o : Option A) : gsome false o = some default := rfl
theorem gsome_of [Inhabited A] {g : Bool} {o : Option A} {a : A} (h : g = true → o = some a) : gsome g o = some (if g = true then a else default) := by
  cases g with
  | true => simp [h rfl]
  | false => simp
theorem loopK_succ (B : (S → Option R) → S → Option R) (n : Nat) (s : S) : loopK B (n + 1) s = B (loopK B n) s := rfl
theorem idx_nat {l : List A} {i : Nat} {x : A} (h : l[i]? = some x) : idx l (i : Int) = some x := by
  unfold idx
  rw [if_pos (Int.natCast_nonneg i)]
  simpa using h
@[simp] theorem idx_zero (x : A) (l : List A) : idx (x :: l) (0 : Int) = some x := rfl
@[simp] theorem idx_one (x y : A) (l : List A) : idx (x :: y :: l) (1 : Int) = some y := rfl
@[simp] theorem natI_nat (n : Nat) : natI (n : Int) = some n := by
  unfold natI
  rw [if_pos (Int.natCast_nonneg n)]
  simp
theorem wrapN {k : Nat} (h : k ≤ 1152921504606846976) : IntKind.i64.wrap ((k : Int) + 1) = ((k + 1 : Nat) : Int) := by
  rw [wrap_ok _ (by omega) (by omega)]; omega
theorem wrapC {i : Int} (h0 : -1152921504606846976 ≤ i) (h1 : i ≤ 1152921504606846976) : IntKind.i64.wrap i = i := wrap_ok _ (by omega) (by omega)

/-- A loop's way, step by step. -/
theorem loopK_trace {B : (S → Option R) → S → Option R} (st : Nat → S) (m : Nat) {r : Option R} (hs : ∀ k, k < m → ∀ nx, B nx (st k) = nx (st (k + 1))) (he : ∀ nx, B nx (st m) = r) {n : Nat} (hn : m < n) : loopK B n (st 0) = r := by
  have key : ∀ (d k n : Nat), k + d = m → d < n → loopK B n (st k) = r := by
    intro d
    induction d with
    | zero =>
      intro k n hk hn
      obtain ⟨n, rfl⟩ := Nat.exists_eq_succ_of_ne_zero (by omega : n ≠ 0)
      have : k = m := by omega
      subst this
      exact he _
    | succ d ih =>
      intro k n hk hn
      obtain ⟨n, rfl⟩ := Nat.exists_eq_succ_of_ne_zero (by omega : n ≠ 0)
      rw [loopK_succ, hs k (by omega)]
      exact ih (k + 1) n (by omega) (by omega)
  exact key m 0 n (by omega) hn

def orE (o k : Option R) : Option R := match o with | some r => some r | none => k
def outE (o : R ⊕ T) (k : T → Option R) : Option R := match o with | .inl r => some r | .inr t => k t
@[simp] theorem orE_some (r : R) (k : Option R) : orE (some r) k = some r := rfl
@[simp] theorem orE_none (k : Option R) : orE none k = k := rfl
@[simp] theorem outE_l (r : R) (k : T → Option R) : outE (.inl r) k = some r := rfl
@[simp] theorem outE_r (t : T) (k : T → Option R) : outE (.inr t) k = k t := rfl
/-- Over a list, from the left; it may end ahead. -/
def foldE (f : T → A → R ⊕ T) : T → List A → R ⊕ T
  | t, [] => .inr t
  | t, x :: l => match f t x with
    | .inl r => .inl r
    | .inr t' => foldE f t' l

/-- A range over a list, with a state. -/
theorem loop_fold {B : (S → Option R) → S → Option R} (mk : Nat → T → S) (I : Nat → T → Prop) {l : List A} (f : T → A → R ⊕ T) {rest : T → Option R}
    (hs : ∀ (k : Nat) (x : A) (t : T) (nx : S → Option R), l[k]? = some x → I k t → B nx (mk k t) = outE (f t x) fun t' => nx (mk (k + 1) t'))
    (hI : ∀ (k : Nat) (x : A) (t t' : T), l[k]? = some x → I k t → f t x = .inr t' → I (k + 1) t')
    (he : ∀ (t : T) (nx : S → Option R), I l.length t → B nx (mk l.length t) = rest t) {n : Nat} (hn : l.length < n) {t0 : T} (h0 : I 0 t0) :
    loopK B n (mk 0 t0) = outE (foldE f t0 l) rest := by
  have key : ∀ (suf : List A) (k n : Nat) (t : T), (∀ j, suf[j]? = l[k + j]?) → k + suf.length = l.length → suf.length < n → I k t → loopK B n (mk k t) = outE (foldE f t suf) rest := by
    intro suf
    induction suf with
    | nil =>
      intro k n t hsuf hk hn hi
      obtain ⟨n, rfl⟩ := Nat.exists_eq_succ_of_ne_zero (by omega : n ≠ 0)
      have : k = l.length := by simpa using hk
      subst this
      rw [loopK_succ, he t _ hi]
      rfl
    | cons x suf ih =>
      intro k n t hsuf hk hn hi
      obtain ⟨n, rfl⟩ := Nat.exists_eq_succ_of_ne_zero (by omega : n ≠ 0)
      have hx : l[k]? = some x := by have := hsuf 0; simpa using this.symm
      rw [loopK_succ, hs k x t _ hx hi]
      simp only [foldE]
      cases hf : f t x with
      | inl r => rfl
      | inr t' =>
        simp only [outE_r]
        refine ih (k + 1) n t' (fun j => ?_) (by simp at hk; omega) (by simp at hn; omega) (hI k x t t' hx hi hf)
        have := hsuf (j + 1)
        rw [show k + 1 + j = k + (j + 1) by omega]
        simpa using this
  exact key l 0 n t0 (fun j => by simp) (by simp) hn h0

/-- A range over a list, that may end ahead. -/
def findE (f : A → Option R) : List A → Option R
  | [] => none
  | x :: l => match f x with
    | some r => some r
    | none => findE f l
theorem loop_find {B : (S → Option R) → S → Option R} (mk : Nat → S) {l : List A} (f : A → Option R) {rest : Option R}
    (hs : ∀ (k : Nat) (x : A) (nx : S → Option R), l[k]? = some x → B nx (mk k) = orE (f x) (nx (mk (k + 1))))
    (he : ∀ (nx : S → Option R), B nx (mk l.length) = rest) {n : Nat} (hn : l.length < n) :
    loopK B n (mk 0) = orE (findE f l) rest := by
  have h := loop_fold (B := B) (fun k (_ : Unit) => mk k) (fun _ _ => True) (l := l) (fun _ x => match f x with | some r => .inl r | none => .inr ()) (rest := fun _ => rest)
    (fun k x _ nx hx _ => by rw [hs k x nx hx]; cases f x <;> rfl) (fun _ _ _ _ _ _ _ => trivial) (fun _ nx _ => he nx) hn (t0 := ()) trivial
  rw [h]
  have key : ∀ l : List A, foldE (T := Unit) (fun _ x => match f x with | some r => .inl r | none => .inr ()) () l = (match findE f l with | some r => .inl r | none => .inr ()) := by
    intro l
    induction l with
    | nil => rfl
    | cons x l ih =>
      simp only [foldE, findE]
      cases f x with
      | some r => rfl
      | none => exact ih
  rw [key]
  cases findE f l <;> rfl
end

theorem mem_lt {A : Type} {l : List A} {k : Nat} {x : A} (h : l[k]? = some x) : k < l.length := (List.getElem?_eq_some_iff.1 h).1
theorem mem_of {A : Type} {l : List A} {k : Nat} {x : A} (h : l[k]? = some x) : x ∈ l := List.mem_of_getElem? h
@[simp] theorem strs_len (l : List (List UInt8)) : (strs l).length = l.length := by simp [strs]
@[simp] theorem intRows_len (k : IntKind) (l : List Int) : (intRows k l).length = l.length := by simp [intRows]
@[simp] theorem bRows_len (l : List UInt8) : (bRows l).length = l.length := by simp [bRows]
@[simp] theorem valRows_len (l : List Val) : (Val.rows l).length = l.length := by rw [rows_eq]; simp
theorem dec_lt {k m : Nat} (h : k < m) : decide ((k : Int) < (m : Int)) = true := decide_eq_true (by omega)
theorem dec_nlt {m : Nat} : decide ((m : Int) < (m : Int)) = false := decide_eq_false (by omega)
end W
end
section
open Go Go.Proofs Go.RowKit
namespace Ax

theorem fresh_row {bs : Base} {ρ : List Value} {H : PH} {lo : List AObj} {w w' : World} (s : SatW bs ρ H lo w) {e : TypeId} {z n : Nat} {v' : Value} {xs : List Value} (hb : Below w.heap.size w w')
    (hown : w'.ownsRow w.heap.size e z v' n xs) (h1 : ∀ u ∈ xs, u.oneCell' = true) :
    PH.le H (grownH H v' xs) ∧ w'.ownsRow 0 e z v' n xs ∧ SatW bs (ρ ++ [v']) (grownH H v' xs) (lo ++ [.tail e z n]) w' := by
  have hge : ∀ b, blkOf v' = some b → w.heap.size ≤ b := by
    intro b hb
    rcases hown.2 with ⟨rfl, _⟩ | ⟨g, cap, cur, rfl, hg, _⟩
    · simp [blkOf] at hb
    · simp [blkOf] at hb; omega
  have hno : ∀ b o u, blkOf v' = some b → H b o = some u → False := fun b o u hb hu => by
    have h2 := s.sath.lt hu
    have h3 := hge b hb
    omega
  have hle : PH.le H (grownH H v' xs) := by
    intro b o u hu
    unfold grownH
    rw [if_neg (fun hc => hno b o u hc.1 hu)]
    exact hu
  have hown0 : w'.ownsRow 0 e z v' n xs := ⟨hown.1, hown.2.imp id fun ⟨g, cap, cur, a, b, c⟩ => ⟨g, cap, cur, a, Nat.zero_le _, c⟩⟩
  have hcell : ∀ g, blkOf v' = some g → ∀ o u, xs[o]? = some u → w'.cell? ⟨g, o, none⟩ = some u := by
    intro g hg o u hu
    have := hown0.cells (g := g) (by
      rcases hown0.2 with ⟨rfl, _⟩ | ⟨g', cap, cur, rfl, _⟩
      · simp [blkOf] at hg
      · simpa [blkOf, Value.ownBlock] using hg) o u hu
    rwa [Addr.add_lit, Nat.zero_add] at this
  have hkeep : ∀ S, Keep S w w' := fun S => ⟨hb.os, hb.tape, hb.output, hb.size, fun k hk _ => hb.block k hk⟩
  have hsat : SatH (grownH H v' xs) w' := by
    refine ⟨?_, s.sath.root.mono hle⟩
    intro b o u hu
    unfold grownH at hu
    split at hu
    · rename_i hc
      exact ⟨hcell b hc.1 o u hu, h1 u (List.mem_of_getElem? hu)⟩
    · obtain ⟨hcl, hone⟩ := s.sath.cell b o u hu
      refine ⟨?_, hone⟩
      rw [World.cell?_of_block (w := w) (a := ⟨b, o, none⟩) (hb.block b (s.sath.lt hu))]
      exact hcl
  have hok : ∀ ρ, ObjOk ρ (grownH H v' xs) w' v' (.tail e z n) := by
    intro ρ
    refine ⟨xs, hown0, fun b hb => ⟨fun j u hu => ?_, fun o ho => ?_⟩⟩
    · unfold grownH
      rw [if_pos ⟨hb, (List.getElem?_eq_some_iff.1 hu).1⟩]
      exact hu
    · unfold grownH
      rw [if_neg (by rw [hown.1]; omega)]
      cases hx : H b o with
      | none => rfl
      | some u => exact (hno b o u hb hx).elim
  have hnew : ∀ b o u, grownH H v' xs b o = some u → (∃ u, H b o = some u) ∨ blkOf v' = some b := by
    intro b o u hu
    unfold grownH at hu
    split at hu
    · rename_i hc; exact .inr hc.1
    · exact .inl ⟨u, hu⟩
  refine ⟨hle, hown0, ?_⟩
  cases hv : blkOf v' with
  | none =>
    refine s.push (g := w.heap.size) (.inr hv) (s.fresh (Nat.le_refl _)) (.inr s.keep.size) hle hsat (fun b o u hu => ?_) (hkeep _) (hok _)
    rcases hnew b o u hu with h | h
    · exact .inl h
    · rw [hv] at h; cases h
  | some g =>
    refine s.push (g := g) (.inl hv) (s.fresh (hge g hv)) (.inr (Nat.le_trans s.keep.size (hge g hv))) hle hsat (fun b o u hu => ?_) (hkeep _) (hok _)
    rcases hnew b o u hu with h | h
    · exact .inl h
    · rw [hv] at h; exact .inr (Option.some.inj h).symm

theorem strs_V (H : PH) : ∀ (l : List (List UInt8)), RepV H 1 (strs l) (l.map fun s => Value.string ⟨s.toArray⟩)
  | [] => by simp [strs, RepV]
  | b :: l => by
    have := strs_V H l
    unfold strs at this ⊢
    simp only [List.map_cons, RepV]
    refine ⟨rfl, [.string ⟨b.toArray⟩], l.map fun s => Value.string ⟨s.toArray⟩, by simp, ?_, this⟩
    simp [RepL, RepP]
theorem strs_cells {H : PH} {b z : Nat} : ∀ {x : List (List UInt8)} {o : Nat}, RepR H b z o (strs x) → ∀ (j : Nat) (l : List UInt8), x[j]? = some l → H b (o + j) = some (.string ⟨l.toArray⟩)
  | [], _, _, j, l, h => by simp at h
  | y :: x, o, r, j, l, h => by
    simp only [strs, List.map_cons, RepR] at r
    obtain ⟨hz, ⟨vs, rl, rc⟩, r2⟩ := r
    have hz : z = 1 := by simpa using hz.symm
    subst hz
    cases j with
    | zero =>
      simp only [List.getElem?_cons_zero, Option.some.injEq] at h
      subst h
      simp only [RepL, RepP] at rl
      obtain ⟨u, vs', rfl, rfl, _⟩ := rl
      exact rc 0 _ rfl
    | succ j =>
      have := strs_cells (x := x) r2 j l (by simpa using h)
      rw [show o + (j + 1) = o + 1 + j from by omega]
      exact this

/-- slices.Clone of texts, by its three cases. -/
theorem clone_texts {P : Program} {f : FuncId} (enter : ∀ vs w, (callFunc f vs).run P w = .ok (.enter f vs) w) {e : TypeId}
    (cNil : ∀ (n c : Nat) (w : World), Calls P f #[.slice none n c] w fun e' w' => e' = .returned (.slice none 0 0) ∧ w' = w)
    (cZero : ∀ (a : Addr) (c : Nat) (w : World), Calls P f #[.slice (some a) 0 c] w fun e' w' => ∃ v', e' = .returned v' ∧ w'.ownsRow w.heap.size e 1 v' 0 [] ∧ v' ≠ .slice none 0 0 ∧ Below w.heap.size w w')
    (cSome : ∀ (b off n c : Nat) (zs : List ByteArray) (w : World), n ≤ zs.length → n * 16 ≤ 140737488355328 → (∀ j, j < zs.length → w.cell? ⟨b, off + j, none⟩ = some (.string (zs.getD j ByteArray.empty))) →
      Calls P f #[.slice (some ⟨b, off, none⟩) n c] w fun e' w' => ∃ v', e' = .returned v' ∧ w'.ownsRow w.heap.size e 1 v' n ((zs.take n).map Value.string) ∧ v' ≠ .slice none 0 0 ∧ Below w.heap.size w w')
    (x : List (List UInt8)) (hbig : (strs x).length * 16 ≤ 140737488355328) : CallsO P f [.p (.sl (strs x))] [] 0 (fun v lo => v = .tsl 0 (strs x) ∧ lo = [.tail e 1 (strs x).length]) := by
  intro bs ρ H w vs hr0 s rl
  have hlo : ρ = [] := List.eq_nil_of_length_eq_zero s.hlen
  subst hlo
  obtain ⟨v, vs', rfl, rv, hvs⟩ := rl
  obtain rfl : vs' = [] := hvs
  have rv : RepP H (.sl (strs x)) v := rv
  rw [enter]
  refine ⟨rfl, ?_⟩
  have hl : (strs x).length = x.length := by simp [strs]
  have base : Calls P f [v].toArray w fun e' w' => ∃ v', e' = .returned v' ∧ w'.ownsRow w.heap.size e 1 v' x.length (x.map fun s => Value.string ⟨s.toArray⟩) ∧ Below w.heap.size w w' := by
    simp only [RepP] at rv
    rcases rv with ⟨h0, rfl | ⟨a, cap, rfl⟩⟩ | ⟨b, o, z, cap, rfl, hcap, rr⟩
    · have hx : x = [] := by cases x with | nil => rfl | cons _ _ => cases h0
      subst hx
      refine (cNil 0 0 w).mono fun e' w' p => ?_
      obtain ⟨rfl, rfl⟩ := p
      exact ⟨_, rfl, ⟨by simp, .inl ⟨rfl, rfl⟩⟩, Below.refl _ _⟩
    · have hx : x = [] := by cases x with | nil => rfl | cons _ _ => cases h0
      subst hx
      refine (cZero a cap w).mono fun e' w' p => ?_
      obtain ⟨v', rfl, ho, _, hb⟩ := p
      exact ⟨_, rfl, ho, hb⟩
    · rw [hl] at hbig ⊢
      refine (cSome b o x.length cap (x.map fun s => ⟨s.toArray⟩) w (by simp) hbig fun j hj => ?_).mono fun e' w' p => ?_
      · simp only [List.length_map] at hj
        have h2 := strs_cells rr j _ (List.getElem?_eq_getElem hj)
        rw [(s.sath.cell _ _ _ h2).1]
        simp [List.getD, List.getElem?_eq_getElem hj]
      · obtain ⟨v', rfl, ho, _, hb⟩ := p
        refine ⟨_, rfl, ?_, hb⟩
        rw [List.take_of_length_le (by simp), List.map_map] at ho
        exact ho
  refine base.mono fun e' w' p => ?_
  obtain ⟨v', rfl, ho, hb⟩ := p
  obtain ⟨hle, ho0, hs⟩ := fresh_row s hb ho (fun u hu => by obtain ⟨_, _, rfl⟩ := List.mem_map.1 hu; rfl)
  refine ⟨v', .tsl 0 (strs x), [.tail e 1 (strs x).length], [v'], _, rfl, ⟨rfl, rfl⟩, hle, by rw [hl]; exact hs, rfl, append_rep (strs_V H x) hle (by rw [hl]; exact ho0)⟩
end Ax
end
section
open Go Go.Proofs Ax Go.RowKit
namespace W
theorem mixed : Tryd.prog.follows .mixedOrders = true := by kernel_rfl
theorem calm_below {H : PH} {w w' : World} (s : SatH H w) (h : Below w.heap.size w w') : Calm H w H w' :=
  ⟨PH.le.refl H, s.block fun b _ _ hv => h.block b (s.lt hv), ⟨h.os, h.tape, h.output, h.size, fun k hk _ => h.block k hk⟩, fun _ _ v hv => .inl ⟨v, hv⟩⟩
def F_strings_ReplaceAll (_ : Nat) (s old new : List UInt8) : Option (List UInt8) :=
  chk (decide (s.length < 4294967281)) (chk (decide (1 ≤ old.length)) (chk (decide (s.length + Lib.countB ⟨s.toArray⟩ ⟨old.toArray⟩ * new.length ≤ 140737488355328)) (some (Lib.replaceAll s old new))))
set_option maxRecDepth 100000 in
theorem F_strings_ReplaceAll_ok (n : Nat) : ∀ (s old new : List UInt8) (r : List UInt8), F_strings_ReplaceAll n s old new = some r → CallsF Tryd.prog 85 [.str s, .str old, .str new] (.str r) := by
  intro s old new r h
  obtain ⟨hs, h⟩ := chk_some h
  obtain ⟨h1, h⟩ := chk_some h
  obtain ⟨h2, h⟩ := chk_some h
  obtain rfl := Option.some.inj h
  intro H w vs hsat hr
  obtain ⟨m, hm⟩ := hsat.root
  have c := Tryd.strings_ReplaceAll ⟨s.toArray⟩ ⟨old.toArray⟩ ⟨new.toArray⟩ m w (of_decide_eq_true hs) (hsat.cell _ _ _ hm).1 (of_decide_eq_true h1) (of_decide_eq_true h2)
  have e : vs = [.string ⟨s.toArray⟩, .string ⟨old.toArray⟩, .string ⟨new.toArray⟩] := by
    simp only [RepL, RepP] at hr
    obtain ⟨_, _, rfl, rfl, _, _, rfl, rfl, _, _, rfl, rfl, rfl⟩ := hr
    rfl
  subst e
  rw [Tryd.call85]
  refine ⟨rfl, c.mono fun e w' p => ?_⟩
  exact ⟨_, H, p.1, calm_below hsat p.2, by simp [RepP]⟩
theorem enters89 : ∀ (args : Array Value) (w : World), (callFunc 89 args).run Tryd.prog w = .ok (.enter 89 args) w := fun _ _ => Tryd.call89 _ _
theorem string_exact89 (b : Nat) (l : List UInt8) (w : World) (p v : Value) (hbk : w.heap[b]? = some (.cells #[p, v] 117 (0, 0))) (hown : w.ownsRow 0 5 1 v l.length (Lib.byteCells l)) (h0 : l ≠ []) :
    Calls Tryd.prog 89 #[.pointer (some ⟨b, 0, none⟩)] w (StrPost l v w) := Any.String_exact Tryd.lays169 Tryd.Builder_Extra_169 b l w p v hbk hown h0
theorem string_empty89 : StringEmpty Tryd.prog 89 117 5 := fun b w p v hbk hown => Any.String_empty Tryd.lays169 Tryd.Builder_Extra_169 b w p v hbk hown
set_option maxRecDepth 100000 in
theorem Clone_ok (x : List (List UInt8)) (hbig : (strs x).length * 16 ≤ 140737488355328) : CallsO Tryd.prog 65 [.p (.sl (strs x))] [] 0 (fun v lo => v = .tsl 0 (strs x) ∧ lo = [.tail 9 1 (strs x).length]) :=
  clone_texts (fun _ _ => Tryd.call65 _ _) Tryd.slices_Clone_string_nil Tryd.slices_Clone_string_zero (fun b o n c zs w h1 h2 h3 => Tryd.slices_Clone_string b o n c zs w h1 h2 h3) x hbig
end W
end
section
open Go Go.Proofs Ax Go.RowKit
namespace W
set_option maxRecDepth 10000
def eightL (m : Nat) : List UInt8 := [56, 48, 40, 32, 24, 16, 8, 0].map fun s => UInt8.ofNat (m / 2 ^ s)
theorem wrapU (n : Int) (h0 : 0 ≤ n) (h1 : n < 18446744073709551616) : IntKind.u64.wrap n = n := by
  simp only [IntKind.wrap, IntKind.bits, IntKind.signed]
  simp
  exact Int.emod_eq_of_lt h0 h1
/-- A text with a byte FF behind each nought. -/
def esc (s : List UInt8) : List UInt8 := s.flatMap fun b => if b == 0 then [0, 255] else [b]
theorem replaceK_ne (b c : UInt8) (h : b ≠ c) (new : List UInt8) : ∀ (k : Nat) (l : List UInt8), Lib.replaceK [c] new k (b :: l) = b :: Lib.replaceK [c] new k l
  | 0, _ => rfl
  | k + 1, l => by
    have hi : Lib.index (b :: l) [c] = if Lib.index l [c] == -1 then -1 else Lib.index l [c] + 1 := by
      rw [Lib.index]
      have : ([c] : List UInt8).isPrefixOf (b :: l) = false := by simp [List.isPrefixOf, Ne.symm h]
      rw [this]; rfl
    have hge := Lib.index_ge l [c]
    rw [Lib.replaceK, Lib.replaceK, hi]
    by_cases h1 : Lib.index l [c] = -1
    · simp [h1]
    · have h2 : (Lib.index l [c] == -1) = false := by simp [h1]
      have h3 : (Lib.index l [c] + 1 == -1) = false := by simp; omega
      simp only [h2, h3, if_false, Bool.false_eq_true]
      have e1 : (Lib.index l [c] + 1).toNat = (Lib.index l [c]).toNat + 1 := by omega
      rw [e1]
      simp
theorem replaceK_eq (c : UInt8) (new : List UInt8) (k : Nat) (l : List UInt8) : Lib.replaceK [c] new (k + 1) (c :: l) = new ++ Lib.replaceK [c] new k l := by
  have hi : Lib.index (c :: l) [c] = 0 := by rw [Lib.index]; simp [List.isPrefixOf]
  rw [Lib.replaceK, hi]
  simp
theorem replaceAll_esc (s : List UInt8) : Lib.replaceAll s [0] [0, 255] = esc s := by
  have key : ∀ s : List UInt8, Lib.replaceK [0] [0, 255] (Lib.count s [0]) s = esc s := by
    intro s
    induction s with
    | nil => rfl
    | cons b l ih =>
      by_cases h : b = 0
      · subst h
        rw [Lib.count_cons_eq, Nat.add_comm, replaceK_eq, ih]
        simp [esc]
      · rw [Lib.count_cons_ne _ _ _ h, replaceK_ne _ _ h, ih]
        simp [esc, h]
  unfold Lib.replaceAll Lib.replace Lib.replaceNum
  simp only [show ((-1 : Int) < 0) from by decide, true_or, if_true]
  rw [key]
  rfl
theorem esc_length (s : List UInt8) : (esc s).length ≤ 2 * s.length := by
  induction s with
  | nil => exact Nat.le_refl _
  | cons b l ih =>
    have e : esc (b :: l) = (if b == 0 then [0, 255] else [b]) ++ esc l := rfl
    rw [e, List.length_append, List.length_cons]
    split
    · show 2 + _ ≤ _; omega
    · show 1 + _ ≤ _; omega
def endedM (s : List UInt8) : List UInt8 := esc s ++ [0, 0]
/-- A number's 64 bits. -/
def bits64 (i : Int) : Nat := (i % 18446744073709551616).toNat
mutual
/-- A value's key. -/
def layM : Val → List UInt8
  | .mk k b i s l ks =>
    bif k == 1 then [6, bif b then 1 else 0]
    else bif k == 2 then 7 :: eightL (bits64 i ^^^ 9223372036854775808)
    else bif k == 3 then 5 :: endedM s
    else bif k == 6 then 2 :: eightL (bits64 i)
    else bif k == 7 then 3 :: eightL (bits64 i)
    else bif k == 4 then 4 :: layL l ++ [0]
    else bif k == 5 then 1 :: layK l ks ++ [0]
    else [8]
def layL : List Val → List UInt8
  | [] => []
  | v :: l => layM v ++ layL l
def layK : List Val → List (List UInt8) → List UInt8
  | v :: l, k :: ks => 1 :: endedM k ++ layM v ++ layK l ks
  | _, _ => []
end
theorem endedM_length (s : List UInt8) : (endedM s).length ≤ 2 * s.length + 2 := by
  have := esc_length s
  unfold endedM
  rw [List.length_append]
  show _ + 2 ≤ _
  omega
mutual
theorem layM_length : ∀ v : Val, (layM v).length ≤ 16 * v.big
  | .mk k b i s l ks => by
    have h1 := layL_length l
    have h2 := layK_length l ks
    have h3 := endedM_length s
    unfold layM
    simp only [Val.big]
    cases k == 1 <;> cases k == 2 <;> cases k == 3 <;> cases k == 6 <;> cases k == 7 <;> cases k == 4 <;> cases k == 5 <;> simp [eightL] <;> omega
theorem layL_length : ∀ l : List Val, (layL l).length ≤ 16 * bigs l
  | [] => Nat.zero_le _
  | v :: l => by
    have h1 := layM_length v
    have h2 := layL_length l
    simp only [layL, bigs, List.length_append]; omega
theorem layK_length : ∀ (l : List Val) (ks : List (List UInt8)), (layK l ks).length ≤ 16 * bigs l + 16 * kbig ks
  | [], _ => by simp [layK]
  | _ :: _, [] => by simp [layK]
  | v :: l, k :: ks => by
    have h1 := layM_length v
    have h2 := layK_length l ks
    have h3 := endedM_length k
    simp only [layK, bigs, kbig, List.length_append, List.length_cons]; omega
end
def keyBad (l : List (List UInt8)) (i : Nat) : Bool :=
  bif bif l.getD i [] == [] then true else decide (((l.getD i []).length : Int) > 64) then true
  else bif decide ((i : Int) > 0) then !Op.bytesLess (l.getD (i - 1) []) (l.getD i []) else false
def keysB (l : List (List UInt8)) : Bool := (List.range l.length).all fun i => !keyBad l i
def bareB (k : Int) (b : Bool) (i : Int) (s : List UInt8) (nl nk : Nat) : Bool :=
  bif bif bif bif bif k == 1 then true else !b then bif bif k == 2 then true else decide (k ≥ 6) then true else i == 0 else false then
    bif k == 3 then true else s == [] else false then bif bif k == 4 then true else k == 5 then true else (nl : Int) == 0 else false then
    bif k == 5 then true else (nk : Int) == 0 else false
def good1 : Val → Bool
  | .mk k b i s l ks => (decide (0 ≤ k) && decide (k ≤ 7)) && bareB k b i s l.length ks.length && !(decide (k ≥ 6) && decide (i < 1)) && !(k == 5 && (ks.length != l.length || !keysB ks))
mutual
/-- Parts, and whether all may be. -/
def lookM : Val → Int → Int → Int × Bool
  | .mk k b i s l ks, d, p => bif (decide (d < 1) || decide (p + 1 > 4096) || !good1 (.mk k b i s l ks)) then (p + 1, false) else lookL l (d - 1) (p + 1)
def lookL : List Val → Int → Int → Int × Bool
  | [], _, p => (p, true)
  | v :: l, d, p => bif (lookM v d p).2 then lookL l d (lookM v d p).1 else ((lookM v d p).1, false)
end
theorem bits64_lt (i : Int) : bits64 i < 18446744073709551616 := by
  have h := Int.emod_lt_of_pos i (show (0 : Int) < 18446744073709551616 by decide)
  unfold bits64; omega
theorem wrap64 (i : Int) : IntKind.u64.wrap i = ((bits64 i : Nat) : Int) := by
  have h := Int.emod_nonneg i (show (18446744073709551616 : Int) ≠ 0 by decide)
  simp only [bits64, IntKind.wrap, IntKind.bits, IntKind.signed]
  simp
  omega
theorem xor64 (i : Int) : IntKind.u64.wrap ((BitVec.ofInt IntKind.u64.bits (IntKind.u64.wrap i) ^^^ BitVec.ofInt IntKind.u64.bits 9223372036854775808).toNat : Int) = ((bits64 i ^^^ 9223372036854775808 : Nat) : Int) := by
  have h1 : (BitVec.ofInt IntKind.u64.bits (IntKind.u64.wrap i)).toNat = bits64 i := by
    rw [wrap64, BitVec.toNat_ofInt]
    have := bits64_lt i
    simp only [IntKind.bits]
    omega
  have h2 : (BitVec.ofInt IntKind.u64.bits 9223372036854775808).toNat = 9223372036854775808 := rfl
  rw [BitVec.toNat_xor, h1, h2]
  have : bits64 i ^^^ 9223372036854775808 < 2 ^ 64 := Nat.xor_lt_two_pow (bits64_lt i) (by decide)
  rw [wrapU _ (Int.natCast_nonneg _) (Int.ofNat_lt.2 this)]
theorem xor_add (n : Nat) (h : n < 18446744073709551616) : n ^^^ 9223372036854775808 = (n + 9223372036854775808) % 18446744073709551616 := by
  apply Nat.eq_of_testBit_eq
  intro j
  have e1 : (9223372036854775808 : Nat) = 2 ^ 63 := rfl
  have e2 : (18446744073709551616 : Nat) = 2 ^ 64 := rfl
  rw [Nat.testBit_xor, e1, Nat.testBit_two_pow]
  have tb1 : ∀ k, Nat.testBit 1 k = decide (0 = k) := fun k => Nat.testBit_two_pow (n := 0) (m := k)
  rcases Nat.lt_or_ge n (2 ^ 63) with hn | hn
  · rw [Nat.mod_eq_of_lt (by omega)]
    have := Nat.testBit_two_pow_mul_add 1 hn j
    rw [Nat.mul_one, Nat.add_comm] at this
    rw [this]
    by_cases hj : j < 63
    · have h3 : ¬ 63 = j := by omega
      rw [if_pos hj]; simp [h3]
    · rw [if_neg hj, Nat.testBit_lt_two_pow (Nat.lt_of_lt_of_le hn (Nat.pow_le_pow_right (by decide) (by omega))), tb1, Bool.false_xor, decide_eq_decide]
      omega
  · obtain ⟨m, rfl⟩ : ∃ m, n = 2 ^ 63 + m := ⟨n - 2 ^ 63, by omega⟩
    have hm : m < 2 ^ 63 := by omega
    have e : (2 ^ 63 + m + 2 ^ 63) % 18446744073709551616 = m := by omega
    rw [e]
    have := Nat.testBit_two_pow_mul_add 1 hm j
    rw [Nat.mul_one] at this
    rw [this]
    by_cases hj : j < 63
    · have h3 : ¬ 63 = j := by omega
      rw [if_pos hj]; simp [h3]
    · rw [if_neg hj, Nat.testBit_lt_two_pow (x := m) (Nat.lt_of_lt_of_le hm (Nat.pow_le_pow_right (by decide) (by omega))), tb1]
      have : decide (0 = j - 63) = decide (63 = j) := by rw [decide_eq_decide]; omega
      rw [this, Bool.xor_self]
theorem bits_off (i : Int) : (bits64 i ^^^ 9223372036854775808 : Nat) = ((i + 9223372036854775808) % 18446744073709551616).toNat := by
  rw [xor_add _ (bits64_lt i)]
  unfold bits64
  omega
theorem wrapI_mod (i : Int) : IntKind.i64.wrap i % 18446744073709551616 = i % 18446744073709551616 := by
  simp only [IntKind.wrap, IntKind.bits, IntKind.signed]
  simp
  split <;> omega
def txt : List UInt8 → Option (List UInt8 × List UInt8)
  | [] => none
  | [_] => none
  | b :: c :: r => if b = 0 then (if c = 0 then some ([], r) else if c = 255 then (txt r).map (fun x => (0 :: x.1, x.2)) else none) else (txt (c :: r)).map fun x => (b :: x.1, x.2)
theorem txt_len : ∀ {s t r : List UInt8}, txt s = some (t, r) → t.length + 2 + r.length ≤ s.length
  | [], t, r, h => by cases h
  | [b], t, r, h => by cases h
  | b :: c :: s, t, r, h => by
    rw [txt] at h
    split at h
    · split at h
      · cases h; simp; omega
      · split at h
        · cases h1 : txt s with
          | none => rw [h1] at h; cases h
          | some x => rw [h1] at h; cases h; have := txt_len h1; simp; omega
        · cases h
    · cases h1 : txt (c :: s) with
      | none => rw [h1] at h; cases h
      | some x => rw [h1] at h; cases h; have := txt_len h1; simp at this ⊢; omega
/-- Eight bytes as a number, the highest first. -/
def beN (l : List UInt8) : Nat := l.foldl (fun n b => n * 256 + b.toNat) 0
theorem beN_snoc (l : List UInt8) (b : UInt8) : beN (l ++ [b]) = beN l * 256 + b.toNat := by simp [beN]
theorem beN_lt : ∀ l : List UInt8, beN l < 256 ^ l.length := by
  intro l
  rw [← List.reverse_reverse l]
  generalize l.reverse = m
  induction m with
  | nil => simp [beN]
  | cons b m ih =>
    rw [List.reverse_cons, beN_snoc, List.length_append, List.length_singleton, Nat.pow_succ]
    have := b.toNat_lt
    omega
def offI (m : Nat) : Int := (m : Int) - 9223372036854775808
abbrev nullV : Val := .mk 0 false 0 [] [] []
section
variable (f : List UInt8 → Option (Val × List UInt8))
def rdL : Nat → List UInt8 → List Val → Option (List Val × List UInt8)
  | 0, _, _ => none
  | _ + 1, [], _ => none
  | k + 1, b :: s, acc => if b = 0 then some (acc, s) else match f (b :: s) with
    | some x => rdL k x.2 (acc ++ [x.1])
    | none => none
def rdK : Nat → List UInt8 → List Val → List (List UInt8) → Option (List Val × List (List UInt8) × List UInt8)
  | 0, _, _, _ => none
  | _ + 1, [], _, _ => none
  | k + 1, b :: s, acc, ks => if b = 0 then some (acc, ks, s) else if b = 1 then match txt s with
    | some y => match f y.2 with
      | some x => rdK k x.2 (acc ++ [x.1]) (ks ++ [y.1])
      | none => none
    | none => none
    else none
end
/-- The value at the front of a text, so many levels deep, and the rest. -/
def rd : Nat → List UInt8 → Option (Val × List UInt8)
  | 0, _ => none
  | _ + 1, [] => none
  | d + 1, m :: s =>
    if m = 8 then some (nullV, s)
    else if m = 6 then (match s with | [] => none | b :: r => if b.toNat ≤ 1 then some (.mk 1 (b == 1) 0 [] [] [], r) else none)
    else if m = 7 then (if s.length < 8 then none else some (.mk 2 false (offI (beN (s.take 8))) [] [] [], s.drop 8))
    else if m = 2 then (if s.length < 8 then none else some (.mk 6 false (IntKind.i64.wrap (beN (s.take 8))) [] [] [], s.drop 8))
    else if m = 3 then (if s.length < 8 then none else some (.mk 7 false (IntKind.i64.wrap (beN (s.take 8))) [] [] [], s.drop 8))
    else if m = 5 then (txt s).map fun x => (.mk 3 false 0 x.1 [] [], x.2)
    else if m = 4 then (rdL (rd d) (s.length + 1) s []).map fun x => (.mk 4 false 0 [] x.1 [], x.2)
    else if m = 1 then (rdK (rd d) (s.length + 1) s [] []).map fun x => (.mk 5 false 0 [] x.1 x.2.1, x.2.2)
    else none
theorem rd_cons (d : Nat) (m : UInt8) (s : List UInt8) : rd (d + 1) (m :: s) =
    if m = 8 then some (nullV, s)
    else if m = 6 then (match s with | [] => none | b :: r => if b.toNat ≤ 1 then some (.mk 1 (b == 1) 0 [] [] [], r) else none)
    else if m = 7 then (if s.length < 8 then none else some (.mk 2 false (offI (beN (s.take 8))) [] [] [], s.drop 8))
    else if m = 2 then (if s.length < 8 then none else some (.mk 6 false (IntKind.i64.wrap (beN (s.take 8))) [] [] [], s.drop 8))
    else if m = 3 then (if s.length < 8 then none else some (.mk 7 false (IntKind.i64.wrap (beN (s.take 8))) [] [] [], s.drop 8))
    else if m = 5 then (txt s).map fun x => (.mk 3 false 0 x.1 [] [], x.2)
    else if m = 4 then (rdL (rd d) (s.length + 1) s []).map fun x => (.mk 4 false 0 [] x.1 [], x.2)
    else if m = 1 then (rdK (rd d) (s.length + 1) s [] []).map fun x => (.mk 5 false 0 [] x.1 x.2.1, x.2.2)
    else none := rfl
mutual
def depth : Val → Nat
  | .mk _ _ _ _ l _ => 1 + depthL l
def depthL : List Val → Nat
  | [] => 0
  | v :: l => max (depth v) (depthL l)
end
theorem depth_pos (v : Val) : 1 ≤ depth v := by cases v; simp only [depth]; omega
mutual
theorem may_depth : ∀ (v : Val) (d p : Int), (lookM v d p).2 = true → (depth v : Int) ≤ d
  | .mk k b i s l ks, d, p, h => by
    unfold lookM at h
    cases hb : (decide (d < 1) || decide (p + 1 > 4096) || !good1 (.mk k b i s l ks)) with
    | true => rw [hb] at h; simp at h
    | false =>
      rw [hb, cond_false] at h
      have h1 : ¬ d < 1 := by simp at hb; omega
      have := may_depthL l (d - 1) (p + 1) h (by omega)
      simp only [depth]
      omega
theorem may_depthL : ∀ (l : List Val) (d p : Int), (lookL l d p).2 = true → 0 ≤ d → (depthL l : Int) ≤ d
  | [], d, p, _, h0 => by simpa [depthL] using h0
  | v :: l, d, p, h, h0 => by
    unfold lookL at h
    cases hb : (lookM v d p).2 with
    | false => rw [hb] at h; simp at h
    | true =>
      rw [hb, cond_true] at h
      have h1 := may_depth v d p hb
      have h2 := may_depthL l d _ h h0
      simp only [depthL]
      omega
end
theorem rd_4 (d : Nat) (s : List UInt8) : rd (d + 1) (4 :: s) = (rdL (rd d) (s.length + 1) s []).map fun x => (.mk 4 false 0 [] x.1 [], x.2) := rfl
theorem rd_1 (d : Nat) (s : List UInt8) : rd (d + 1) (1 :: s) = (rdK (rd d) (s.length + 1) s [] []).map fun x => (.mk 5 false 0 [] x.1 x.2.1, x.2.2) := rfl
theorem txt_ended : ∀ (s r : List UInt8), txt (endedM s ++ r) = some (s, r)
  | [], r => by simp [endedM, esc, txt]
  | b :: s, r => by
    have ih := txt_ended s r
    by_cases hb : b = 0
    · subst hb
      have e : endedM (0 :: s) ++ r = 0 :: 255 :: (endedM s ++ r) := by simp [endedM, esc]
      rw [e, txt, if_pos rfl, if_neg (by decide), if_pos rfl, ih]
      rfl
    · have e : endedM (b :: s) ++ r = b :: (endedM s ++ r) := by simp [endedM, esc, hb]
      have hne : endedM s ++ r ≠ [] := by simp [endedM]
      rw [e]
      cases h : endedM s ++ r with
      | nil => exact absurd h hne
      | cons c t =>
        rw [txt, if_neg hb, ← h, ih]
        rfl
theorem u8_mod (q : Nat) : (UInt8.ofNat q).toNat = q % 256 := by simp
theorem beN_eight (m : Nat) (hm : m < 18446744073709551616) : beN (eightL m) = m := by
  have e : eightL m = [UInt8.ofNat (m / 2 ^ 56), UInt8.ofNat (m / 2 ^ 48), UInt8.ofNat (m / 2 ^ 40), UInt8.ofNat (m / 2 ^ 32), UInt8.ofNat (m / 2 ^ 24), UInt8.ofNat (m / 2 ^ 16), UInt8.ofNat (m / 2 ^ 8), UInt8.ofNat (m / 2 ^ 0)] := rfl
  rw [e]
  simp only [beN, List.foldl, u8_mod]
  have h1 : m / 2 ^ 8 = m / 256 := rfl
  have h2 : m / 2 ^ 16 = m / 256 / 256 := by rw [Nat.div_div_eq_div_mul]
  have h3 : m / 2 ^ 24 = m / 256 / 256 / 256 := by rw [Nat.div_div_eq_div_mul, Nat.div_div_eq_div_mul]
  have h4 : m / 2 ^ 32 = m / 256 / 256 / 256 / 256 := by rw [Nat.div_div_eq_div_mul, Nat.div_div_eq_div_mul, Nat.div_div_eq_div_mul]
  have h5 : m / 2 ^ 40 = m / 256 / 256 / 256 / 256 / 256 := by rw [Nat.div_div_eq_div_mul, Nat.div_div_eq_div_mul, Nat.div_div_eq_div_mul, Nat.div_div_eq_div_mul]
  have h6 : m / 2 ^ 48 = m / 256 / 256 / 256 / 256 / 256 / 256 := by rw [Nat.div_div_eq_div_mul, Nat.div_div_eq_div_mul, Nat.div_div_eq_div_mul, Nat.div_div_eq_div_mul, Nat.div_div_eq_div_mul]
  have h7 : m / 2 ^ 56 = m / 256 / 256 / 256 / 256 / 256 / 256 / 256 := by rw [Nat.div_div_eq_div_mul, Nat.div_div_eq_div_mul, Nat.div_div_eq_div_mul, Nat.div_div_eq_div_mul, Nat.div_div_eq_div_mul, Nat.div_div_eq_div_mul]
  rw [h1, h2, h3, h4, h5, h6, h7, show m / 2 ^ 0 = m by simp]
  omega
theorem eight_length (m : Nat) : (eightL m).length = 8 := rfl
/-- The whole numbers are of 64 bits. -/
def int64 (i : Int) : Bool := decide (-9223372036854775808 ≤ i ∧ i < 9223372036854775808)
mutual
def range64 : Val → Bool
  | .mk _ _ i _ l _ => int64 i && range64L l
def range64L : List Val → Bool
  | [] => true
  | v :: l => range64 v && range64L l
end
theorem bits_back (i : Int) (h : int64 i = true) : IntKind.i64.wrap (bits64 i : Int) = i := by
  simp only [int64, decide_eq_true_eq] at h
  unfold bits64
  simp only [IntKind.wrap, IntKind.bits, IntKind.signed]
  simp
  split <;> omega
theorem off_back (i : Int) (h : int64 i = true) : offI (bits64 i ^^^ 9223372036854775808) = i := by
  simp only [int64, decide_eq_true_eq] at h
  rw [xor_add _ (bits64_lt i)]
  unfold offI bits64
  omega
theorem off_lt (i : Int) : bits64 i ^^^ 9223372036854775808 < 18446744073709551616 := Nat.xor_lt_two_pow (n := 64) (bits64_lt i) (by decide)
mutual
def right : Val → Bool
  | .mk k b i s l ks => good1 (.mk k b i s l ks) && rightL l
def rightL : List Val → Bool
  | [] => true
  | v :: l => right v && rightL l
end
mutual
theorem may_right : ∀ (v : Val) (d p : Int), (lookM v d p).2 = true → right v = true
  | .mk k b i s l ks, d, p, h => by
    unfold lookM at h
    cases hb : (decide (d < 1) || decide (p + 1 > 4096) || !good1 (.mk k b i s l ks)) with
    | true => rw [hb] at h; simp at h
    | false =>
      rw [hb, cond_false] at h
      have := may_rightL l _ _ h
      simp only [right, this, Bool.and_true]
      simp at hb
      exact hb.2
theorem may_rightL : ∀ (l : List Val) (d p : Int), (lookL l d p).2 = true → rightL l = true
  | [], _, _, _ => rfl
  | v :: l, d, p, h => by
    unfold lookL at h
    cases hb : (lookM v d p).2 with
    | false => rw [hb] at h; simp at h
    | true =>
      rw [hb, cond_true] at h
      simp only [rightL, may_right v d p hb, may_rightL l d _ h, Bool.and_true]
end
/-- A good value's fields, by its kind. -/
theorem good_shape {k : Int} {b : Bool} {i : Int} {s : List UInt8} {l : List Val} {ks : List (List UInt8)} (h : good1 (.mk k b i s l ks) = true) :
    (k = 0 ∧ b = false ∧ i = 0 ∧ s = [] ∧ l = [] ∧ ks = []) ∨ (k = 1 ∧ i = 0 ∧ s = [] ∧ l = [] ∧ ks = []) ∨ (k = 2 ∧ b = false ∧ s = [] ∧ l = [] ∧ ks = []) ∨ (k = 3 ∧ b = false ∧ i = 0 ∧ l = [] ∧ ks = []) ∨
    (k = 4 ∧ b = false ∧ i = 0 ∧ s = [] ∧ ks = []) ∨ (k = 5 ∧ b = false ∧ i = 0 ∧ s = [] ∧ ks.length = l.length ∧ keysB ks = true) ∨ (k = 6 ∧ b = false ∧ s = [] ∧ l = [] ∧ ks = [] ∧ 1 ≤ i) ∨ (k = 7 ∧ b = false ∧ s = [] ∧ l = [] ∧ ks = [] ∧ 1 ≤ i) := by
  have hk : k = 0 ∨ k = 1 ∨ k = 2 ∨ k = 3 ∨ k = 4 ∨ k = 5 ∨ k = 6 ∨ k = 7 := by
    simp only [good1, Bool.and_eq_true, decide_eq_true_eq] at h; omega
  have nl : ∀ {n : Nat}, ((n : Int) == 0) = true → n = 0 := fun h => by simpa using h
  rcases hk with rfl | rfl | rfl | rfl | rfl | rfl | rfl | rfl <;> simp [good1, bareB] at h <;> simp [h]
theorem lay_head (v : Val) : ∃ m t, layM v = m :: t ∧ m ≠ 0 := by
  obtain ⟨k, b, i, s, l, ks⟩ := v
  unfold layM
  cases k == 1 <;> cases k == 2 <;> cases k == 3 <;> cases k == 6 <;> cases k == 7 <;> cases k == 4 <;> cases k == 5 <;> exact ⟨_, _, rfl, by decide⟩
theorem rdL_cons {f : List UInt8 → Option (Val × List UInt8)} {k : Nat} {b : UInt8} {s : List UInt8} {acc : List Val} (hb : b ≠ 0) {x : Val × List UInt8} (h : f (b :: s) = some x) : rdL f (k + 1) (b :: s) acc = rdL f k x.2 (acc ++ [x.1]) := by
  rw [rdL, if_neg hb, h]
mutual
theorem rd_lay : ∀ (v : Val) (r : List UInt8) (d : Nat), right v = true → range64 v = true → depth v ≤ d → rd d (layM v ++ r) = some (v, r)
  | .mk k b i s l ks, r, d, hr, hi, hd => by
    simp only [right, Bool.and_eq_true] at hr
    simp only [range64, Bool.and_eq_true] at hi
    simp only [depth] at hd
    obtain ⟨d, rfl⟩ : ∃ j, d = j + 1 := ⟨d - 1, by omega⟩
    have ih := rd_layL l
    have ihk := rd_layK l
    rcases good_shape hr.1 with ⟨rfl, rfl, rfl, rfl, rfl, rfl⟩ | ⟨rfl, rfl, rfl, rfl, rfl⟩ | ⟨rfl, rfl, rfl, rfl, rfl⟩ | ⟨rfl, rfl, rfl, rfl, rfl⟩ | ⟨rfl, rfl, rfl, rfl, rfl⟩ | ⟨rfl, rfl, rfl, rfl, hkl, _⟩ | ⟨rfl, rfl, rfl, rfl, rfl, _⟩ | ⟨rfl, rfl, rfl, rfl, rfl, _⟩
    · rfl
    · cases b <;> rfl
    · have e : layM (.mk 2 false i [] [] []) ++ r = 7 :: (eightL (bits64 i ^^^ 9223372036854775808) ++ r) := rfl
      rw [e, rd_cons, if_neg (by decide), if_neg (by decide), if_pos rfl, if_neg (by simp [eight_length]), List.take_left' (eight_length _), List.drop_left' (eight_length _), beN_eight _ (off_lt i), off_back i hi.1]
    · have e : layM (.mk 3 false 0 s [] []) ++ r = 5 :: (endedM s ++ r) := rfl
      rw [e, rd_cons, if_neg (by decide), if_neg (by decide), if_neg (by decide), if_neg (by decide), if_neg (by decide), if_pos rfl, txt_ended]
      rfl
    · have e : layM (.mk 4 false 0 [] l []) ++ r = 4 :: (layL l ++ 0 :: r) := by
        show (4 :: layL l ++ [0]) ++ r = _
        simp
      rw [e, rd_4, ih r [] d _ hr.2 hi.2 (by omega) (by simp)]
      rfl
    · have e : layM (.mk 5 false 0 [] l ks) ++ r = 1 :: (layK l ks ++ 0 :: r) := by
        show (1 :: layK l ks ++ [0]) ++ r = _
        simp
      rw [e, rd_1, ihk ks r [] [] d _ hr.2 hi.2 hkl (by omega) (by simp)]
      rfl
    · have e : layM (.mk 6 false i [] [] []) ++ r = 2 :: (eightL (bits64 i) ++ r) := rfl
      rw [e, rd_cons, if_neg (by decide), if_neg (by decide), if_neg (by decide), if_pos rfl, if_neg (by simp [eight_length]), List.take_left' (eight_length _), List.drop_left' (eight_length _), beN_eight _ (bits64_lt i), bits_back i hi.1]
    · have e : layM (.mk 7 false i [] [] []) ++ r = 3 :: (eightL (bits64 i) ++ r) := rfl
      rw [e, rd_cons, if_neg (by decide), if_neg (by decide), if_neg (by decide), if_neg (by decide), if_pos rfl, if_neg (by simp [eight_length]), List.take_left' (eight_length _), List.drop_left' (eight_length _), beN_eight _ (bits64_lt i), bits_back i hi.1]
theorem rd_layL : ∀ (l : List Val) (r : List UInt8) (acc : List Val) (d k : Nat), rightL l = true → range64L l = true → depthL l ≤ d → (layL l ++ 0 :: r).length < k → rdL (rd d) k (layL l ++ 0 :: r) acc = some (acc ++ l, r)
  | [], r, acc, d, k, _, _, _, hk => by
    obtain ⟨k, rfl⟩ : ∃ j, k = j + 1 := ⟨k - 1, by omega⟩
    simp [layL, rdL]
  | v :: l, r, acc, d, k, hr, hi, hd, hk => by
    obtain ⟨k, rfl⟩ : ∃ j, k = j + 1 := ⟨k - 1, by omega⟩
    simp only [rightL, Bool.and_eq_true] at hr
    simp only [range64L, Bool.and_eq_true] at hi
    simp only [depthL] at hd
    have h1 := rd_lay v (layL l ++ 0 :: r) d hr.1 hi.1 (by omega)
    obtain ⟨m, t, hm, hm0⟩ := lay_head v
    have e : layL (v :: l) ++ 0 :: r = m :: (t ++ (layL l ++ 0 :: r)) := by simp [layL, hm]
    rw [hm, List.cons_append] at h1
    simp only [layL, List.length_append, List.length_cons, hm] at hk
    rw [e, rdL_cons hm0 h1, rd_layL l r _ d k hr.2 hi.2 (by omega) (by simp; omega)]
    simp
theorem rd_layK : ∀ (l : List Val) (ks : List (List UInt8)) (r : List UInt8) (acc : List Val) (ka : List (List UInt8)) (d k : Nat), rightL l = true → range64L l = true → ks.length = l.length → depthL l ≤ d → (layK l ks ++ 0 :: r).length < k →
    rdK (rd d) k (layK l ks ++ 0 :: r) acc ka = some (acc ++ l, ka ++ ks, r)
  | [], ks, r, acc, ka, d, k, _, _, hl, _, hk => by
    obtain ⟨k, rfl⟩ : ∃ j, k = j + 1 := ⟨k - 1, by omega⟩
    have : ks = [] := List.length_eq_zero_iff.1 hl
    subst this
    simp [layK, rdK]
  | v :: l, [], r, acc, ka, d, k, _, _, hl, _, _ => by cases hl
  | v :: l, key :: ks, r, acc, ka, d, k, hr, hi, hl, hd, hk => by
    obtain ⟨k, rfl⟩ : ∃ j, k = j + 1 := ⟨k - 1, by omega⟩
    simp only [rightL, Bool.and_eq_true] at hr
    simp only [range64L, Bool.and_eq_true] at hi
    simp only [depthL] at hd
    have h1 := rd_lay v (layK l ks ++ 0 :: r) d hr.1 hi.1 (by omega)
    have h2 := txt_ended key (layM v ++ (layK l ks ++ 0 :: r))
    have e : layK (v :: l) (key :: ks) ++ 0 :: r = 1 :: (endedM key ++ (layM v ++ (layK l ks ++ 0 :: r))) := by simp [layK]
    simp only [layK, List.length_append, List.length_cons] at hk
    rw [e, rdK, if_neg (by decide), if_pos rfl, h2]
    simp only
    rw [h1]
    simp only
    rw [rd_layK l ks r _ _ d k hr.2 hi.2 (by simpa using hl) (by omega) (by simp; omega)]
    simp
end
end W
end
section
namespace Ax
open Go

/-- The slice k is rows that nobody writes any more. -/
def subV (k : Nat) (p : PV) : FV → FV
  | .vsl k' n => match Nat.beq k' k with | true => .p p | false => .vsl k' n
  | v => v
def subE (k : Nat) (p : PV) : Env → Env
  | [] => []
  | (t, v) :: E => (t, subV k p v) :: subE k p E
def subC (k : Nat) (p : PV) : List FV → List FV
  | [] => []
  | v :: l => subV k p v :: subC k p l
def subOb (k : Nat) (p : PV) : AObj → AObj
  | .box t cs => .box t (subC k p cs)
  | .pbx t c => .pbx t (subV k p c)
  | o => o
def subO (k : Nat) (p : PV) : Nat → List AObj → List AObj
  | _, [] => []
  | 0, _ :: l => .dead :: l.map (subOb k p)
  | n + 1, o :: l => subOb k p o :: subO k p n l

theorem subV_rep {ρ : List Value} {H H' : PH} {k : Nat} {p : PV} {v : Value} (hv : ρ[k]? = some v) (hr : RepP H' p v) (hle : PH.le H H') {f : FV} {x : Value} (r : RepF ρ H f x) : RepF ρ H' (subV k p f) x := by
  cases f with
  | vsl k' n =>
    simp only [subV]
    split
    · rename_i hb
      have e := Nat.eq_of_beq_eq_true hb
      subst e
      have : x = v := Option.some.inj (r.1.symm.trans hv)
      subst this
      exact hr
    · exact r.mono (List.prefix_refl _) hle
  | _ => exact r.mono (List.prefix_refl _) hle
theorem subE_look {k : Nat} {p : PV} : ∀ (E : Env) (t : Nat), lookD (subE k p E) t = subV k p (lookD E t)
  | [], t => rfl
  | (t', v) :: E, t => by
    simp only [subE, lookD]
    split
    · rfl
    · exact subE_look E t
theorem subC_rep {ρ : List Value} {H H' : PH} {k : Nat} {p : PV} {v : Value} (hv : ρ[k]? = some v) (hr : RepP H' p v) (hle : PH.le H H') : ∀ {cs : List FV} {vs : List Value}, RepFL ρ H cs vs → RepFL ρ H' (subC k p cs) vs
  | [], _, r => r
  | c :: cs, vs, r => by
    obtain ⟨u, us, e, r1, r2⟩ := r
    exact ⟨u, us, e, subV_rep hv hr hle r1, subC_rep hv hr hle r2⟩
theorem subO_get {k : Nat} {p : PV} : ∀ {n : Nat} {lo : List AObj} {i : Nat} {o : AObj}, (subO k p n lo)[i]? = some o → (i = n ∧ o = .dead ∧ i < lo.length) ∨ (i ≠ n ∧ ∃ o', lo[i]? = some o' ∧ o = subOb k p o')
  | _, [], i, o, h => by simp [subO] at h
  | 0, a :: l, 0, o, h => by simp [subO] at h; exact .inl ⟨rfl, h.symm, by simp⟩
  | 0, a :: l, i + 1, o, h => by
    simp [subO] at h
    obtain ⟨o', h1, h2⟩ := h
    exact .inr ⟨by omega, o', by simpa using h1, h2.symm⟩
  | n + 1, a :: l, 0, o, h => by simp [subO] at h; exact .inr ⟨by omega, a, rfl, h.symm⟩
  | n + 1, a :: l, i + 1, o, h => by
    simp [subO] at h
    rcases subO_get (n := n) (lo := l) (i := i) (o := o) h with ⟨h1, h2, h3⟩ | ⟨h1, o', h2, h3⟩
    · exact .inl ⟨by omega, h2, by simpa using h3⟩
    · exact .inr ⟨by omega, o', by simpa using h2, h3⟩
theorem subO_length {k : Nat} {p : PV} : ∀ {n : Nat} {lo : List AObj}, (subO k p n lo).length = lo.length
  | _, [] => by simp [subO]
  | 0, a :: l => by simp [subO]
  | n + 1, a :: l => by simp [subO, subO_length (n := n) (lo := l)]
theorem subOb_live {k : Nat} {p : PV} (o : AObj) : (subOb k p o).live = o.live := by cases o <;> rfl
theorem subOb_ok {ρ : List Value} {H H' : PH} {w : World} {k : Nat} {p : PV} {v : Value} (hv : ρ[k]? = some v) (hr : RepP H' p v) {o : AObj} {u : Value} (hn : o.live = true → ∀ b, blkOf u = some b → ∀ o, H b o = none → H' b o = none)
    (hle : PH.le H H') (h : ObjOk ρ H w u o) : ObjOk ρ H' w u (subOb k p o) := by
  cases o with
  | dead => trivial
  | box t cs =>
    obtain ⟨b, vs, rfl, hg, hc, hh⟩ := h
    exact ⟨b, vs, rfl, hg, subC_rep hv hr hle hc, fun o => hn rfl b (by simp [blkOf]) o (hh o)⟩
  | pbx t c =>
    obtain ⟨b, x, xs, rfl, hg, hc, hh⟩ := h
    exact ⟨b, x, xs, rfl, hg, subV_rep hv hr hle hc, fun o => hn rfl b (by simp [blkOf]) o (hh o)⟩
  | _ => exact h.keep (List.prefix_refl _) hle (fun _ _ _ => rfl) (fun b o' hb _ hno => hn rfl b hb o' hno)

theorem publish_sub {bs : Base} {N : Nat} {ρ : List Value} {H : PH} {E : Env} {lo : List AObj} {a : Act} {w : World} (s : Sat bs N ρ H (lookD E) lo a w) {k : Nat} {e : TypeId} {z : Nat} {rows : List (List PV)} (ho : lo[k]? = some (.vec e z rows)) :
    ∃ H', Sat bs N ρ H' (lookD (subE k (.sl rows) E)) (subO k (.sl rows) k lo) a w := by
  have hk : k < ρ.length := by rw [s.hlen]; exact (List.getElem?_eq_some_iff.1 ho).1
  have hv : ρ[k]? = some ρ[k] := List.getElem?_eq_getElem hk
  obtain ⟨xs, hown, hrV, h1, hh⟩ := s.objs k _ _ ho hv
  obtain ⟨H', hle, sp, hr, hnew⟩ := s.toSatW.publishN ho hv
  -- nothing of another object becomes common
  have hno : ∀ i oi vi, i ≠ k → lo[i]? = some oi → ρ[i]? = some vi → oi.live = true → ∀ b, blkOf vi = some b → ∀ o, H b o = none → H' b o = none := by
    intro i oi vi hne hi hvi hl b hb o hn
    rcases hnew b o hn with h | h
    · exact h
    · exact absurd hb (s.excl k i _ oi _ vi b ho hi hv hvi (fun e => hne e.symm) rfl hl h)
  refine ⟨H', { sath := sp.sath, hlen := by rw [subO_length]; exact s.hlen, pre := s.pre, objs := fun i o vi hi hvi => ?_, excl := fun i j oi oj vi vj b hi hj hvi hvj hne hli hlj hb => ?_, own := fun i o vi b hi hvi hl hb => ?_, keep := s.keep, leH := sp.leH, newH := sp.newH, slots := fun t => ?_, width := s.width, defers := s.defers }⟩
  · rcases subO_get hi with ⟨rfl, rfl, _⟩ | ⟨hne, o', ho', rfl⟩
    · trivial
    · exact subOb_ok hv hr (fun hl b hb o hn => hno i o' vi hne ho' hvi hl b hb o hn) hle (s.objs i o' vi ho' hvi)
  · rcases subO_get hi with ⟨_, rfl, _⟩ | ⟨_, o1, ho1, rfl⟩
    · cases hli
    · rcases subO_get hj with ⟨_, rfl, _⟩ | ⟨_, o2, ho2, rfl⟩
      · cases hlj
      · rw [subOb_live] at hli hlj
        exact s.excl i j o1 o2 vi vj b ho1 ho2 hvi hvj hne hli hlj hb
  · rcases subO_get hi with ⟨_, rfl, _⟩ | ⟨_, o1, ho1, rfl⟩
    · cases hl
    · rw [subOb_live] at hl
      exact s.own i o1 vi b ho1 hvi hl hb
  · rw [subE_look]
    exact subV_rep hv hr hle (s.slots t)

theorem WpA.pub {P : Program} {N nb : Nat} {c : Code} {K : KA} {E : Env} {lo : List AObj} (k : Nat) {e : TypeId} {z : Nat} {rows : List (List PV)} (ho : lo[k]? = some (.vec e z rows))
    (h : WpA P N nb c K (subE k (.sl rows) E) (subO k (.sl rows) k lo)) : WpA P N nb c K E lo := fun bs ρ H a w hb s =>
  let ⟨H', s'⟩ := publish_sub s ho
  h bs ρ H' a w hb s'
theorem LoopA.pub {P : Program} {inl : List Nat} {N nb : Nat} {c : Code} {K : KA} {E : Env} {lo : List AObj} (k : Nat) {e : TypeId} {z : Nat} {rows : List (List PV)} (ho : lo[k]? = some (.vec e z rows))
    (h : LoopA P inl N nb c K (subE k (.sl rows) E) (subO k (.sl rows) k lo)) : LoopA P inl N nb c K E lo := fun hm hd => (h hm hd).pub k ho
theorem SeqA.pub {P : Program} {inl : List Nat} {N nb : Nat} {c d : Code} {K : KA} {E : Env} {lo : List AObj} (k : Nat) {e : TypeId} {z : Nat} {rows : List (List PV)} (ho : lo[k]? = some (.vec e z rows))
    (h : SeqA P inl N nb c d K (subE k (.sl rows) E) (subO k (.sl rows) k lo)) : SeqA P inl N nb c d K E lo := fun hm hc hd => (h hm hc hd).pub k ho

/-! ### A box that nobody writes any more -/
def pureL : List FV → Option (List PV)
  | [] => some []
  | .p v :: l => match pureL l with | some r => some (v :: r) | none => none
  | .tsl _ rows :: l => match pureL l with | some r => some (.sl rows :: r) | none => none
  | .hptr row :: l => match pureL l with | some r => some (.hp row :: r) | none => none
  | _ => none
theorem pureL_rep {ρ : List Value} {H : PH} : ∀ {cs : List FV} {row : List PV} {vs : List Value}, pureL cs = some row → RepFL ρ H cs vs → RepL H row vs
  | [], row, vs, h, r => by simp only [pureL] at h; cases h; simp only [RepL]; exact r
  | c :: cs, row, vs, h, r => by
    obtain ⟨u, us, e, r1, r2⟩ := r
    cases c <;> simp only [pureL] at h <;> try (exact absurd h (by simp))
    · split at h
      · rename_i q hq
        cases h
        simp only [RepL]
        exact ⟨u, us, e, r1, pureL_rep hq r2⟩
      · cases h
    · split at h
      · rename_i q hq
        cases h
        simp only [RepL]
        exact ⟨u, us, e, r1.2, pureL_rep hq r2⟩
      · cases h
    · split at h
      · rename_i q hq
        cases h
        simp only [RepL]
        refine ⟨u, us, e, ?_, pureL_rep hq r2⟩
        simp only [RepP]
        exact r1
      · cases h
theorem SatW.publishBox {bs : Base} {ρ : List Value} {H : PH} {lo : List AObj} {w : World} (s : SatW bs ρ H lo w) {k : Nat} {t : TypeId} {cells : List FV} {row : List PV} {v : Value} (ho : lo[k]? = some (.box t cells)) (hv : ρ[k]? = some v)
    (hp : pureL cells = some row) (h1 : row.all oneP = true) : ∃ H' b vs, PH.le H H' ∧ SatW bs ρ H' (lo.set k .dead) w ∧ v = .pointer (some ⟨b, 0, none⟩) ∧ RepL H' row vs ∧ ∀ j u, vs[j]? = some u → H' b j = some u := by
  obtain ⟨b, vs, rfl, hg, hcs, hh⟩ := s.objs k _ _ ho hv
  have hr := pureL_rep hp hcs
  have hone : ∀ u ∈ vs, u.oneCell' = true := RepL.one (fun c hc => List.all_eq_true.1 h1 c hc) hr
  have hle : PH.le H (grownH H (.pointer (some ⟨b, 0, none⟩)) vs) := by
    intro b' o u hu
    unfold grownH
    split
    · rename_i hc
      obtain ⟨e1, _⟩ := hc
      simp only [blkOf, Option.some.injEq] at e1
      subst e1
      rw [hh o] at hu
      cases hu
    · exact hu
  have sk := s.kill k
  refine ⟨grownH H (.pointer (some ⟨b, 0, none⟩)) vs, b, vs, hle, ?_, rfl, RepL.mono hle hr, fun j u hu => ?_⟩
  · refine { sath := ⟨fun b' o u hu => ?_, s.sath.root.mono hle⟩, hlen := sk.hlen, pre := sk.pre, objs := fun i oi vi hi hvi => ?_, excl := sk.excl, own := sk.own, keep := sk.keep, leH := sk.leH.trans hle, newH := fun b' o u hu => ?_ }
    · unfold grownH at hu
      split at hu
      · rename_i hc
        obtain ⟨e1, _⟩ := hc
        simp only [blkOf, Option.some.injEq] at e1
        subst e1
        refine ⟨?_, hone u (List.mem_of_getElem? hu)⟩
        simp only [World.cell?, hg]
        simpa using hu
      · exact s.sath.cell b' o u hu
    · rw [List.getElem?_set] at hi
      split at hi
      · split at hi
        · cases hi; trivial
        · cases hi
      · rename_i hne
        cases hl : oi.live with
        | false => cases oi <;> simp [AObj.live] at hl; trivial
        | true =>
          refine (s.objs i oi vi hi hvi).keep (List.prefix_refl _) hle (fun _ _ _ => rfl) (fun b' o' hb' _ hn => ?_)
          unfold grownH
          rw [if_neg (fun hc => s.excl k i _ oi _ vi b' ho hi hv hvi hne rfl hl hc.1 hb')]
          exact hn
    · unfold grownH at hu
      split at hu
      · rename_i hc
        exact .inr (s.own k _ _ b' ho hv rfl hc.1)
      · exact s.newH b' o u hu
  · unfold grownH
    rw [if_pos ⟨by simp [blkOf], (List.getElem?_eq_some_iff.1 hu).1⟩]
    exact hu
def subP (k : Nat) (row : List PV) : FV → FV
  | .ptr k' off => match Nat.beq k' k with | true => .hptr (row.drop off) | false => .ptr k' off
  | .clo f c => .clo f (subP k row c)
  | .cap a b => .cap (subP k row a) (subP k row b)
  | v => v
theorem subP_rep {ρ : List Value} {H H' : PH} {k : Nat} {row : List PV} {b : Nat} {vs : List Value} (hv : ρ[k]? = some (.pointer (some ⟨b, 0, none⟩))) (hr : RepL H' row vs) (hc : ∀ j u, vs[j]? = some u → H' b j = some u) (hle : PH.le H H') {f : FV} {x : Value} (r : RepF ρ H f x) :
    RepF ρ H' (subP k row f) x := by
  induction f generalizing x with
  | ptr k' off =>
    simp only [subP]
    split
    · rename_i hb
      have e := Nat.eq_of_beq_eq_true hb
      subst e
      obtain ⟨b', h1, rfl⟩ := r
      rw [hv] at h1
      cases h1
      exact ⟨b, off, vs.drop off, rfl, hr.drop off, fun j u hu => hc _ _ (by simpa using hu)⟩
    · exact r.mono (List.prefix_refl _) hle
  | clo f c ih =>
    obtain ⟨us, e, r⟩ := r
    exact ⟨us, e, ih r⟩
  | cap a b iha ihb =>
    obtain ⟨u, us, e, ra, rb⟩ := r
    exact ⟨u, us, e, iha ra, ihb rb⟩
  | _ => exact r.mono (List.prefix_refl _) hle
def subPL (k : Nat) (row : List PV) : List FV → List FV
  | [] => []
  | v :: l => subP k row v :: subPL k row l
def deadK : Nat → List AObj → List AObj
  | _, [] => []
  | 0, _ :: l => .dead :: l
  | n + 1, o :: l => o :: deadK n l
theorem deadK_eq : ∀ (k : Nat) (lo : List AObj), deadK k lo = lo.set k .dead
  | _, [] => by simp [deadK]
  | 0, a :: l => by simp [deadK]
  | n + 1, a :: l => by simp [deadK, deadK_eq n l]
theorem CallsI.pubBox {P : Program} {f : FuncId} {args : List FV} {lo : List AObj} {R : FV → List AObj → Prop} (k : Nat) {t : TypeId} {cells : List FV} {row : List PV} (ho : lo[k]? = some (.box t cells)) (hp : pureL cells = some row) (h1 : row.all oneP = true)
    (h : CallsI P f (subPL k row args) (deadK k lo) R) : CallsI P f args lo R := by
  intro bs ρ H w vs s rl
  have hk : k < ρ.length := by rw [s.hlen]; exact (List.getElem?_eq_some_iff.1 ho).1
  have hv : ρ[k]? = some ρ[k] := List.getElem?_eq_getElem hk
  obtain ⟨H', b, cs, hle, s', e, hr, hc⟩ := s.publishBox ho hv hp h1
  rw [e] at hv
  have sub : ∀ {xs : List FV} {us : List Value}, RepFL ρ H xs us → RepFL ρ H' (subPL k row xs) us := by
    intro xs
    induction xs with
    | nil => intro us r; exact r
    | cons x xs ih =>
      intro us r
      obtain ⟨u, us', e, r1, r2⟩ := r
      exact ⟨u, us', e, subP_rep hv hr hc hle r1, ih r2⟩
  rw [deadK_eq] at h
  have := h bs ρ H' w vs s' (sub rl)
  have after : ∀ {r lo' v w'}, After bs ρ H' r lo' v w' → After bs ρ H r lo' v w' := fun ⟨ρ2, H2, a, b, c, d⟩ => ⟨ρ2, H2, a, hle.trans b, c, d⟩
  generalize (callFunc f vs.toArray).run P w = x at *
  cases x with
  | ok n w' =>
    cases n <;> simp only at this ⊢ <;> try exact this
    · obtain ⟨r, lo', a, kk⟩ := this; exact ⟨r, lo', after a, kk⟩
    · obtain ⟨e, hcc⟩ := this
      exact ⟨e, hcc.mono fun en w'' ⟨v, r, lo', e, a, kk⟩ => ⟨v, r, lo', e, after a, kk⟩⟩
  | halt x w' => exact this
end Ax
end
section
open Go Go.Proofs Ax
namespace W
abbrev R_F_R03_unused (r : Bool) : PV := PV.bool r

def F_R03_unused (n : Nat)  (a0_ : Val) : Option (Bool) :=
  match a0_ with
  | ⟨x1, x2, x3, x4, x5, x6⟩ =>
  bif (bif (x1 != (1 : Int)) then x2 else false) then (
  some false)
  else (
  bif (bif (bif (bif (x1 != (2 : Int)) then (x1 != (6 : Int)) else false) then (x1 != (7 : Int)) else false) then (x3 != (0 : Int)) else false) then (
  some false)
  else (
  bif (bif (x1 != (3 : Int)) then (!(x4 == ([] : List UInt8))) else false) then (
  some false)
  else (
  bif (bif (bif (x1 != (4 : Int)) then (x1 != (5 : Int)) else false) then (decide ((((Val.rows x5).length : Nat) : Int) > (0 : Int))) else false) then (
  some false)
  else (
  some (bif (x1 == (5 : Int)) then true else ((((strs x6).length : Nat) : Int) == (0 : Int)))))))

set_option maxHeartbeats 4000000 in
set_option maxRecDepth 100000 in
theorem F_R03_unused_ok (n : Nat)   : ∀ (a0_ : Val) (r : Bool), F_R03_unused n a0_ = some r → CallsF Tryd.prog 78 [PV.agg (valC.cells a0_)] (R_F_R03_unused r) := by
  intro a0_ r h
  obtain ⟨x1, x2, x3, x4, x5, x6⟩ := a0_
  unfold F_R03_unused at h
  refine CallsF.of_vcN mixed (fun _ _ => Tryd.call78 _ _) Tryd.func78 (by kernel_rfl) (inl := [1000000]) ?_
  conv => whnf
  iterate 2 (refine And.intro (fun h => h) ?_)
  conv => whnf
  refine ⟨fun hc => ?_, fun hc => ?_⟩
  · have h := cond_t h hc
    obtain rfl := Option.some.inj h
    conv => whnf
    repeat (first | exact rfl | exact trivial | refine ⟨?_, ?_⟩)
  · have h := cond_f h hc
    conv => whnf
    iterate 9 (refine And.intro (fun h => h) ?_)
    conv => whnf
    refine ⟨fun hc => ?_, fun hc => ?_⟩
    · have h := cond_t h hc
      obtain rfl := Option.some.inj h
      conv => whnf
      repeat (first | exact rfl | exact trivial | refine ⟨?_, ?_⟩)
    · have h := cond_f h hc
      conv => whnf
      iterate 3 (refine And.intro (fun h => h) ?_)
      conv => whnf
      refine ⟨fun hc => ?_, fun hc => ?_⟩
      · have h := cond_t h hc
        obtain rfl := Option.some.inj h
        conv => whnf
        repeat (first | exact rfl | exact trivial | refine ⟨?_, ?_⟩)
      · have h := cond_f h hc
        conv => whnf
        iterate 7 (refine And.intro (fun h => h) ?_)
        conv => whnf
        refine ⟨fun hc => ?_, fun hc => ?_⟩
        · have h := cond_t h hc
          obtain rfl := Option.some.inj h
          conv => whnf
          repeat (first | exact rfl | exact trivial | refine ⟨?_, ?_⟩)
        · have h := cond_f h hc
          conv => whnf
          iterate 4 (refine And.intro (fun h => h) ?_)
          obtain rfl := Option.some.inj h
          conv => whnf
          repeat (first | exact rfl | exact trivial | refine ⟨?_, ?_⟩)

abbrev R_F_R03_may (r : Int × Bool) : PV := PV.tup [PV.int .i64 r.1, PV.bool r.2]

def F_R03_may_l1 (n : Nat) (x5 : List Val) (g70 : Val → Int → Int → Option (Int × Bool)) (x7 : Int) : (Int × Int → Option (Int × Bool)) → Int × Int → Option (Int × Bool) := fun nx1 (x10, x11) =>
 bif (decide (x11 < (((Val.rows x5).length : Nat) : Int))) then (
 bnd (idx x5 x11) fun ⟨x12, x13, x14, x15, x16, x17⟩ =>
 bnd (g70 (Val.mk x12 x13 x14 x15 x16 x17) (IntKind.i64.wrap (x7 - (1 : Int))) x10) fun ⟨x18, x19⟩ =>
 bif (!x19) then (
 some (x18, false))
else (
 nx1 (x18, (IntKind.i64.wrap (x11 + (1 : Int))))))
else (
 some (x10, true))

def F_R03_may_k1 (n : Nat) (x5 : List Val) (g70 : Val → Int → Int → Option (Int × Bool)) (x7 : Int) (x8 : Int) : Unit → Option (Int × Bool) := fun _ =>
 loopK (F_R03_may_l1 n x5 g70 x7) n ((IntKind.i64.wrap (x8 + (1 : Int))), (0 : Int))

def F_R03_may_l2 (n : Nat) (x6 : List (List UInt8)) (x8 : Int) (x5 : List Val) (g70 : Val → Int → Int → Option (Int × Bool)) (x7 : Int) : (Int → Option (Int × Bool)) → Int → Option (Int × Bool) := fun nx2 x20 =>
 bif (decide (x20 < (((strs x6).length : Nat) : Int))) then (
 bnd (idx x6 x20) fun x21 =>
 bnd (gsome (!(decide (((x21.length : Nat) : Int) < (1 : Int)))) (idx x6 x20)) fun x22 =>
 bnd (gsome ((!(bif (decide (((x21.length : Nat) : Int) < (1 : Int))) then true else (decide (((x22.length : Nat) : Int) > (64 : Int))))) && (decide (x20 > (0 : Int)))) (idx x6 x20)) fun x23 =>
 bnd (gsome ((!(bif (decide (((x21.length : Nat) : Int) < (1 : Int))) then true else (decide (((x22.length : Nat) : Int) > (64 : Int))))) && (decide (x20 > (0 : Int)))) (idx x6 (IntKind.i64.wrap (x20 - (1 : Int))))) fun x24 =>
 bif (bif (bif (decide (((x21.length : Nat) : Int) < (1 : Int))) then true else (decide (((x22.length : Nat) : Int) > (64 : Int)))) then true else (bif (decide (x20 > (0 : Int))) then (Op.bytesLess x23 x24 || x23 == x24) else false)) then (
 some ((IntKind.i64.wrap (x8 + (1 : Int))), false))
else (
 nx2 (IntKind.i64.wrap (x20 + (1 : Int)))))
else (
 F_R03_may_k1 n x5 g70 x7 x8 ())

def BF_R03_may (n : Nat) (g70 : Val → Int → Int → Option (Int × Bool)) (a0_ : Val) (x7 : Int) (x8 : Int) : Option (Int × Bool) :=
  match a0_ with
  | ⟨x1, x2, x3, x4, x5, x6⟩ =>
  bnd (gsome (!(bif (bif (bif (decide ((IntKind.i64.wrap (x8 + (1 : Int))) > (4096 : Int))) then true else (decide (x7 < (1 : Int)))) then true else (decide (x1 < (0 : Int)))) then true else (decide (x1 > (7 : Int))))) (F_R03_unused n (Val.mk x1 x2 x3 x4 x5 x6))) fun x9 =>
  bif (bif (bif (bif (bif (decide ((IntKind.i64.wrap (x8 + (1 : Int))) > (4096 : Int))) then true else (decide (x7 < (1 : Int)))) then true else (decide (x1 < (0 : Int)))) then true else (decide (x1 > (7 : Int)))) then true else (!x9)) then (
  some ((IntKind.i64.wrap (x8 + (1 : Int))), false))
  else (
  bif (bif (bif (x1 == (6 : Int)) then true else (x1 == (7 : Int))) then (decide (x3 < (1 : Int))) else false) then (
  some ((IntKind.i64.wrap (x8 + (1 : Int))), false))
  else (
  bif (x1 == (5 : Int)) then (
  bif ((((strs x6).length : Nat) : Int) != (((Val.rows x5).length : Nat) : Int)) then (
  some ((IntKind.i64.wrap (x8 + (1 : Int))), false))
  else (
  loopK (F_R03_may_l2 n x6 x8 x5 g70 x7) n (0 : Int)))
  else (
  F_R03_may_k1 n x5 g70 x7 x8 ())))

set_option maxHeartbeats 4000000 in
set_option maxRecDepth 100000 in
theorem BF_R03_may_ok (n : Nat) (g70 : Val → Int → Int → Option (Int × Bool)) (g70_ok : ∀ (a0_ : Val) (x7 : Int) (x8 : Int) (r : Int × Bool), g70 a0_ x7 x8 = some r → CallsF Tryd.prog 70 [PV.agg (valC.cells a0_), PV.int .i64 x7, PV.int .i64 x8] (R_F_R03_may r)) : ∀ (a0_ : Val) (x7 : Int) (x8 : Int) (r : Int × Bool), BF_R03_may n g70 a0_ x7 x8 = some r → CallsF Tryd.prog 70 [PV.agg (valC.cells a0_), PV.int .i64 x7, PV.int .i64 x8] (R_F_R03_may r) := by
  intro a0_ x7 x8 r h
  obtain ⟨x1, x2, x3, x4, x5, x6⟩ := a0_
  unfold BF_R03_may at h
  refine CallsF.of_vcN mixed (fun _ _ => Tryd.call70 _ _) Tryd.func70 (by kernel_rfl) (inl := [1000000]) ?_
  conv => whnf
  iterate 9 (refine And.intro (fun h => h) ?_)
  conv => whnf
  replace h := bnd_some h
  obtain ⟨x9, h7, h⟩ := h
  refine ⟨_, fun hg => (F_R03_unused_ok n _  _ (gsome_some h7 hg)), ?_⟩
  conv => whnf
  iterate 2 (refine And.intro (fun h => h) ?_)
  conv => whnf
  refine ⟨fun hc => ?_, fun hc => ?_⟩
  · have h := cond_t h hc
    obtain rfl := Option.some.inj h
    conv => whnf
    repeat (first | exact rfl | exact trivial | refine ⟨?_, ?_⟩)
  · have h := cond_f h hc
    conv => whnf
    iterate 6 (refine And.intro (fun h => h) ?_)
    conv => whnf
    refine ⟨fun hc => ?_, fun hc => ?_⟩
    · have h := cond_t h hc
      obtain rfl := Option.some.inj h
      conv => whnf
      repeat (first | exact rfl | exact trivial | refine ⟨?_, ?_⟩)
    · have h := cond_f h hc
      conv => whnf
      refine SeqA.cut (S := Unit) (fun _ => [(1, .p (.int .i64 x7)), (2, .p (.int .i64 (IntKind.i64.wrap (x8 + (1 : Int))))), (3, .ptr 0 0)]) (fun _ => [.box 40 [.p (.int .i64 x1), .p (.bool x2), .p (.int .i64 x3), .p (.str x4), .p (.sl (Val.rows x5)), .p (.sl (strs x6))]]) (F_R03_may_k1 n x5 g70 x7 x8) (r := r) ?_ ?_
      · intro _ h
        unfold F_R03_may_k1 at h
        conv => whnf
        refine LoopA.fn [1000000] (S := Int × Int) (fun (x10, x11) => [(1, .p (.int .i64 x7)), (2, .p (.int .i64 x10)), (3, .ptr 0 0), (9, .p (.int .i64 x11))]) (fun (x10, x11) => [.box 40 [.p (.int .i64 x1), .p (.bool x2), .p (.int .i64 x3), .p (.str x4), .p (.sl (Val.rows x5)), .p (.sl (strs x6))]]) (B := F_R03_may_l1 n x5 g70 x7) h ⟨[0], [], ⟨rfl, rfl, rfl, rfl⟩, by repeat (first | exact trivial | exact .inl rfl | exact rfl | exact List.not_mem_nil | (refine .inr ?_) | (refine ⟨?_, ?_⟩) | exact List.length_set.symm | decide), by repeat (first | exact trivial | exact .inl rfl | exact rfl | exact List.not_mem_nil | (refine .inr ?_) | (refine ⟨?_, ?_⟩) | exact List.length_set.symm | decide)⟩ ?_
        intro nx1 st h
        obtain ⟨x10, x11⟩ := st
        unfold F_R03_may_l1 at h
        conv => whnf
        refine ⟨fun hc => ?_, fun hc => ?_⟩
        · have h := cond_t h hc
          conv => whnf
          replace h := bnd_some h
          obtain ⟨⟨x12, x13, x14, x15, x16, x17⟩, h2, h⟩ := h
          refine ⟨_, Codec.at_ valC h2, ?_⟩
          conv => whnf
          replace h := bnd_some h
          obtain ⟨⟨x18, x19⟩, h1, h⟩ := h
          refine ⟨_, (g70_ok _ _ _  _ h1), ?_⟩
          conv => whnf
          refine ⟨fun hc => ?_, fun hc => ?_⟩
          · have h := cond_t h hc
            obtain rfl := Option.some.inj h
            conv => whnf
            repeat (first | exact rfl | exact trivial | refine ⟨?_, ?_⟩)
          · have h := cond_f h hc
            conv => whnf
            exact ⟨(x18, (IntKind.i64.wrap (x11 + (1 : Int)))), h, ⟨[0], [], ⟨rfl, rfl, rfl, rfl⟩, by repeat (first | exact trivial | exact .inl rfl | exact rfl | exact List.not_mem_nil | (refine .inr ?_) | (refine ⟨?_, ?_⟩) | exact List.length_set.symm | decide), by repeat (first | exact trivial | exact .inl rfl | exact rfl | exact List.not_mem_nil | (refine .inr ?_) | (refine ⟨?_, ?_⟩) | exact List.length_set.symm | decide)⟩⟩
        · have h := cond_f h hc
          obtain rfl := Option.some.inj h
          conv => whnf
          repeat (first | exact rfl | exact trivial | refine ⟨?_, ?_⟩)
      · conv => whnf
        refine ⟨fun hc => ?_, fun hc => ?_⟩
        · have h := cond_t h hc
          conv => whnf
          refine ⟨fun hc => ?_, fun hc => ?_⟩
          · have h := cond_t h hc
            obtain rfl := Option.some.inj h
            conv => whnf
            repeat (first | exact rfl | exact trivial | refine ⟨?_, ?_⟩)
          · have h := cond_f h hc
            conv => whnf
            refine LoopA.fn [1000000] (S := Int) (fun x20 => [(1, .p (.int .i64 x7)), (2, .p (.int .i64 (IntKind.i64.wrap (x8 + (1 : Int))))), (3, .ptr 0 0), (8, .p (.int .i64 x20))]) (fun x20 => [.box 40 [.p (.int .i64 x1), .p (.bool x2), .p (.int .i64 x3), .p (.str x4), .p (.sl (Val.rows x5)), .p (.sl (strs x6))]]) (B := F_R03_may_l2 n x6 x8 x5 g70 x7) h ⟨[0], [], ⟨rfl, rfl, rfl, rfl⟩, by repeat (first | exact trivial | exact .inl rfl | exact rfl | exact List.not_mem_nil | (refine .inr ?_) | (refine ⟨?_, ?_⟩) | exact List.length_set.symm | decide), by repeat (first | exact trivial | exact .inl rfl | exact rfl | exact List.not_mem_nil | (refine .inr ?_) | (refine ⟨?_, ?_⟩) | exact List.length_set.symm | decide)⟩ ?_
            intro nx2 x20 h
            unfold F_R03_may_l2 at h
            conv => whnf
            refine ⟨fun hc => ?_, fun hc => ?_⟩
            · have h := cond_t h hc
              conv => whnf
              replace h := bnd_some h
              obtain ⟨x21, h6, h⟩ := h
              refine ⟨_, Codec.at_ strC h6, ?_⟩
              conv => whnf
              iterate 3 (refine And.intro (fun h => h) ?_)
              conv => whnf
              replace h := bnd_some h
              obtain ⟨x22, h5, h⟩ := h
              refine ⟨_, fun hg => Codec.at_ strC (gsome_some h5 hg), ?_⟩
              conv => whnf
              iterate 9 (refine And.intro (fun h => h) ?_)
              conv => whnf
              replace h := bnd_some h
              obtain ⟨x23, h4, h⟩ := h
              refine ⟨_, fun hg => Codec.at_ strC (gsome_some h4 hg), ?_⟩
              conv => whnf
              iterate 5 (refine And.intro (fun h => h) ?_)
              conv => whnf
              replace h := bnd_some h
              obtain ⟨x24, h3, h⟩ := h
              refine ⟨_, fun hg => Codec.at_ strC (gsome_some h3 hg), ?_⟩
              conv => whnf
              iterate 6 (refine And.intro (fun h => h) ?_)
              conv => whnf
              refine ⟨fun hc => ?_, fun hc => ?_⟩
              · have h := cond_t h hc
                obtain rfl := Option.some.inj h
                conv => whnf
                repeat (first | exact rfl | exact trivial | refine ⟨?_, ?_⟩)
              · have h := cond_f h hc
                conv => whnf
                exact ⟨(IntKind.i64.wrap (x20 + (1 : Int))), h, ⟨[0], [], ⟨rfl, rfl, rfl, rfl⟩, by repeat (first | exact trivial | exact .inl rfl | exact rfl | exact List.not_mem_nil | (refine .inr ?_) | (refine ⟨?_, ?_⟩) | exact List.length_set.symm | decide), by repeat (first | exact trivial | exact .inl rfl | exact rfl | exact List.not_mem_nil | (refine .inr ?_) | (refine ⟨?_, ?_⟩) | exact List.length_set.symm | decide)⟩⟩
            · have h := cond_f h hc
              conv => whnf
              exact ⟨(), h, ⟨[0], [], ⟨rfl, rfl, rfl, rfl⟩, by repeat (first | exact trivial | exact .inl rfl | exact rfl | exact List.not_mem_nil | (refine .inr ?_) | (refine ⟨?_, ?_⟩) | exact List.length_set.symm | decide), by repeat (first | exact trivial | exact .inl rfl | exact rfl | exact List.not_mem_nil | (refine .inr ?_) | (refine ⟨?_, ?_⟩) | exact List.length_set.symm | decide)⟩⟩
        · have h := cond_f h hc
          conv => whnf
          exact ⟨(), h, ⟨[0], [], ⟨rfl, rfl, rfl, rfl⟩, by repeat (first | exact trivial | exact .inl rfl | exact rfl | exact List.not_mem_nil | (refine .inr ?_) | (refine ⟨?_, ?_⟩) | exact List.length_set.symm | decide), by repeat (first | exact trivial | exact .inl rfl | exact rfl | exact List.not_mem_nil | (refine .inr ?_) | (refine ⟨?_, ?_⟩) | exact List.length_set.symm | decide)⟩⟩

def F_R03_may : Nat → Val → Int → Int → Option (Int × Bool)
  | 0 => fun _ _ _ => none
  | n + 1 => BF_R03_may n (F_R03_may n)

set_option maxRecDepth 100000 in
theorem F_R03_may_all (n : Nat) : (∀ (a0_ : Val) (x7 : Int) (x8 : Int) (r : Int × Bool), F_R03_may n a0_ x7 x8 = some r → CallsF Tryd.prog 70 [PV.agg (valC.cells a0_), PV.int .i64 x7, PV.int .i64 x8] (R_F_R03_may r)) := by
  induction n with
  | zero => exact (by intros; rename_i h; cases h)
  | succ n ih =>
    have hg70 := ih
    exact BF_R03_may_ok n (F_R03_may n) hg70

set_option maxRecDepth 100000 in
theorem F_R03_may_ok (n : Nat) : ∀ (a0_ : Val) (x7 : Int) (x8 : Int) (r : Int × Bool), F_R03_may n a0_ x7 x8 = some r → CallsF Tryd.prog 70 [PV.agg (valC.cells a0_), PV.int .i64 x7, PV.int .i64 x8] (R_F_R03_may r) := (F_R03_may_all n)

abbrev R_F_R03_May (r : Bool) : PV := PV.bool r

def F_R03_May (n : Nat)  (a0_ : Val) : Option (Bool) :=
  match a0_ with
  | ⟨x1, x2, x3, x4, x5, x6⟩ =>
  bnd (F_R03_may n (Val.mk x1 x2 x3 x4 x5 x6) (32 : Int) (0 : Int)) fun ⟨x7, x8⟩ =>
  some x8

set_option maxRecDepth 100000 in
theorem F_R03_May_ok (n : Nat)   : ∀ (a0_ : Val) (r : Bool), F_R03_May n a0_ = some r → CallsF Tryd.prog 56 [PV.agg (valC.cells a0_)] (R_F_R03_May r) := by
  intro a0_ r h
  obtain ⟨x1, x2, x3, x4, x5, x6⟩ := a0_
  unfold F_R03_May at h
  refine CallsF.of_vcN mixed (fun _ _ => Tryd.call56 _ _) Tryd.func56 (by kernel_rfl) (inl := [1000000]) ?_
  conv => whnf
  replace h := bnd_some h
  obtain ⟨⟨x7, x8⟩, h1, h⟩ := h
  refine ⟨_, (F_R03_may_ok n _ _ _  _ h1), ?_⟩
  obtain rfl := Option.some.inj h
  conv => whnf
  repeat (first | exact rfl | exact trivial | refine ⟨?_, ?_⟩)

abbrev R_F_R17_May (r : Bool) : PV := PV.bool r

def F_R17_May_l2 (n : Nat) (x2 : Int) (x1 : List (List Val)) (x3 : Int) (nx1 : Int → Option (Bool)) : (Int → Option (Bool)) → Int → Option (Bool) := fun nx2 x5 =>
 bif (decide (x5 < x2)) then (
 bnd (idx x1 x3) fun x6 =>
 bnd (idx x6 x5) fun ⟨x7, x8, x9, x10, x11, x12⟩ =>
 bnd (F_R03_May n (Val.mk x7 x8 x9 x10 x11 x12)) fun x13 =>
 bif (!x13) then (
 some false)
else (
 nx2 (IntKind.i64.wrap (x5 + (1 : Int)))))
else (
 nx1 (IntKind.i64.wrap (x3 + (1 : Int))))

def F_R17_May_l1 (n : Nat) (x1 : List (List Val)) (x2 : Int) : (Int → Option (Bool)) → Int → Option (Bool) := fun nx1 x3 =>
 bif (decide (x3 < (((slRows valC x1).length : Nat) : Int))) then (
 bnd (idx x1 x3) fun x4 =>
 bif ((((Val.rows x4).length : Nat) : Int) != x2) then (
 some false)
else (
 loopK (F_R17_May_l2 n x2 x1 x3 nx1) n (0 : Int)))
else (
 some true)

def F_R17_May (n : Nat)  (x1 : List (List Val)) (x2 : Int) : Option (Bool) :=
  loopK (F_R17_May_l1 n x1 x2) n (0 : Int)

set_option maxRecDepth 100000 in
theorem F_R17_May_ok (n : Nat)   : ∀ (x1 : List (List Val)) (x2 : Int) (r : Bool), F_R17_May n x1 x2 = some r → CallsF Tryd.prog 25 [PV.sl (slRows valC x1), PV.int .i64 x2] (R_F_R17_May r) := by
  intro x1 x2 r h
  unfold F_R17_May at h
  refine CallsF.of_vcN mixed (fun _ _ => Tryd.call25 _ _) Tryd.func25 (by kernel_rfl) (inl := [1000000]) ?_
  conv => whnf
  refine LoopA.fn [1000000] (S := Int) (fun x3 => [(0, .p (.sl (slRows valC x1))), (1, .p (.int .i64 x2)), (5, .p (.int .i64 x3))]) (fun x3 => []) (B := F_R17_May_l1 n x1 x2) h ⟨[], [], ⟨rfl, rfl, rfl, rfl⟩, by repeat (first | exact trivial | exact .inl rfl | exact rfl | exact List.not_mem_nil | (refine .inr ?_) | (refine ⟨?_, ?_⟩) | exact List.length_set.symm | decide), by repeat (first | exact trivial | exact .inl rfl | exact rfl | exact List.not_mem_nil | (refine .inr ?_) | (refine ⟨?_, ?_⟩) | exact List.length_set.symm | decide)⟩ ?_
  intro nx1 x3 h
  unfold F_R17_May_l1 at h
  conv => whnf
  refine ⟨fun hc => ?_, fun hc => ?_⟩
  · have h := cond_t h hc
    conv => whnf
    replace h := bnd_some h
    obtain ⟨x4, h4, h⟩ := h
    refine ⟨_, Codec.at_ (slC valC) h4, ?_⟩
    conv => whnf
    refine ⟨fun hc => ?_, fun hc => ?_⟩
    · have h := cond_t h hc
      obtain rfl := Option.some.inj h
      conv => whnf
      repeat (first | exact rfl | exact trivial | refine ⟨?_, ?_⟩)
    · have h := cond_f h hc
      conv => whnf
      refine LoopA.fn [1000000] (S := Int) (fun x5 => [(0, .p (.sl (slRows valC x1))), (1, .p (.int .i64 x2)), (5, .p (.int .i64 x3)), (6, .p (.int .i64 x5))]) (fun x5 => []) (B := F_R17_May_l2 n x2 x1 x3 nx1) h ⟨[], [], ⟨rfl, rfl, rfl, rfl⟩, by repeat (first | exact trivial | exact .inl rfl | exact rfl | exact List.not_mem_nil | (refine .inr ?_) | (refine ⟨?_, ?_⟩) | exact List.length_set.symm | decide), by repeat (first | exact trivial | exact .inl rfl | exact rfl | exact List.not_mem_nil | (refine .inr ?_) | (refine ⟨?_, ?_⟩) | exact List.length_set.symm | decide)⟩ ?_
      intro nx2 x5 h
      unfold F_R17_May_l2 at h
      conv => whnf
      refine ⟨fun hc => ?_, fun hc => ?_⟩
      · have h := cond_t h hc
        conv => whnf
        replace h := bnd_some h
        obtain ⟨x6, h3, h⟩ := h
        refine ⟨_, Codec.at_ (slC valC) h3, ?_⟩
        conv => whnf
        replace h := bnd_some h
        obtain ⟨⟨x7, x8, x9, x10, x11, x12⟩, h2, h⟩ := h
        refine ⟨_, Codec.at_ valC h2, ?_⟩
        conv => whnf
        replace h := bnd_some h
        obtain ⟨x13, h1, h⟩ := h
        refine ⟨_, (F_R03_May_ok n _  _ h1), ?_⟩
        conv => whnf
        refine ⟨fun hc => ?_, fun hc => ?_⟩
        · have h := cond_t h hc
          obtain rfl := Option.some.inj h
          conv => whnf
          repeat (first | exact rfl | exact trivial | refine ⟨?_, ?_⟩)
        · have h := cond_f h hc
          conv => whnf
          exact ⟨(IntKind.i64.wrap (x5 + (1 : Int))), h, ⟨[], [], ⟨rfl, rfl, rfl, rfl⟩, by repeat (first | exact trivial | exact .inl rfl | exact rfl | exact List.not_mem_nil | (refine .inr ?_) | (refine ⟨?_, ?_⟩) | exact List.length_set.symm | decide), by repeat (first | exact trivial | exact .inl rfl | exact rfl | exact List.not_mem_nil | (refine .inr ?_) | (refine ⟨?_, ?_⟩) | exact List.length_set.symm | decide)⟩⟩
      · have h := cond_f h hc
        conv => whnf
        exact ⟨(IntKind.i64.wrap (x3 + (1 : Int))), h, ⟨[], [], ⟨rfl, rfl, rfl, rfl⟩, by repeat (first | exact trivial | exact .inl rfl | exact rfl | exact List.not_mem_nil | (refine .inr ?_) | (refine ⟨?_, ?_⟩) | exact List.length_set.symm | decide), by repeat (first | exact trivial | exact .inl rfl | exact rfl | exact List.not_mem_nil | (refine .inr ?_) | (refine ⟨?_, ?_⟩) | exact List.length_set.symm | decide)⟩⟩
  · have h := cond_f h hc
    obtain rfl := Option.some.inj h
    conv => whnf
    repeat (first | exact rfl | exact trivial | refine ⟨?_, ?_⟩)

abbrev R_F_L17_few (r : Bool) : PV := PV.bool r

def F_L17_few (n : Nat)  (x1 : List (List Val)) (x2 : Int) : Option (Bool) :=
  bnd (gsome (decide ((((slRows valC x1).length : Nat) : Int) ≤ (200 : Int))) (F_R17_May n x1 x2)) fun x3 =>
  some (bif (decide ((((slRows valC x1).length : Nat) : Int) ≤ (200 : Int))) then x3 else false)

set_option maxRecDepth 100000 in
theorem F_L17_few_ok (n : Nat)   : ∀ (x1 : List (List Val)) (x2 : Int) (r : Bool), F_L17_few n x1 x2 = some r → CallsF Tryd.prog 8 [PV.sl (slRows valC x1), PV.int .i64 x2] (R_F_L17_few r) := by
  intro x1 x2 r h
  unfold F_L17_few at h
  refine CallsF.of_vcN mixed (fun _ _ => Tryd.call8 _ _) Tryd.func8 (by kernel_rfl) (inl := [1000000]) ?_
  conv => whnf
  iterate 2 (refine And.intro (fun h => h) ?_)
  conv => whnf
  replace h := bnd_some h
  obtain ⟨x3, h1, h⟩ := h
  refine ⟨_, fun hg => (F_R17_May_ok n _ _  _ (gsome_some h1 hg)), ?_⟩
  conv => whnf
  refine And.intro (fun h => h) ?_
  obtain rfl := Option.some.inj h
  conv => whnf
  repeat (first | exact rfl | exact trivial | refine ⟨?_, ?_⟩)

abbrev R_F_L17_whole (r : Val) : PV := PV.agg (valC.cells r)

def F_L17_whole (n : Nat)  (x1 : Int) : Option (Val) :=
  some (Val.mk (2 : Int) false x1 ([] : List UInt8) ([] : List Val) ([] : List (List UInt8)))

set_option maxRecDepth 100000 in
theorem F_L17_whole_ok (n : Nat)   : ∀ (x1 : Int) (r : Val), F_L17_whole n x1 = some r → CallsF Tryd.prog 26 [PV.int .i64 x1] (R_F_L17_whole r) := by
  intro x1 r h
  unfold F_L17_whole at h
  refine CallsF.of_vcN mixed (fun _ _ => Tryd.call26 _ _) Tryd.func26 (by kernel_rfl) (inl := [1000000]) ?_
  obtain rfl := Option.some.inj h
  conv => whnf
  repeat (first | exact rfl | exact trivial | refine ⟨?_, ?_⟩)

abbrev R_F_value_bare (r : Bool) : PV := PV.bool r

def F_value_bare (n : Nat)  (a0_ : Val) : Option (Bool) :=
  match a0_ with
  | ⟨x1, x2, x3, x4, x5, x6⟩ =>
  some (bif (bif (bif (bif (bif (x1 == (1 : Int)) then true else (!x2)) then (bif (bif (x1 == (2 : Int)) then true else (decide (x1 ≥ (6 : Int)))) then true else (x3 == (0 : Int))) else false) then (bif (x1 == (3 : Int)) then true else (x4 == ([] : List UInt8))) else false) then (bif (bif (x1 == (4 : Int)) then true else (x1 == (5 : Int))) then true else ((((Val.rows x5).length : Nat) : Int) == (0 : Int))) else false) then (bif (x1 == (5 : Int)) then true else ((((strs x6).length : Nat) : Int) == (0 : Int))) else false)

set_option maxHeartbeats 4000000 in
set_option maxRecDepth 100000 in
theorem F_value_bare_ok (n : Nat)   : ∀ (a0_ : Val) (r : Bool), F_value_bare n a0_ = some r → CallsF Tryd.prog 83 [PV.agg (valC.cells a0_)] (R_F_value_bare r) := by
  intro a0_ r h
  obtain ⟨x1, x2, x3, x4, x5, x6⟩ := a0_
  unfold F_value_bare at h
  refine CallsF.of_vcN mixed (fun _ _ => Tryd.call83 _ _) Tryd.func83 (by kernel_rfl) (inl := [1000000]) ?_
  conv => whnf
  iterate 47 (refine And.intro (fun h => h) ?_)
  obtain rfl := Option.some.inj h
  conv => whnf
  repeat (first | exact rfl | exact trivial | refine ⟨?_, ?_⟩)

abbrev R_F_value_keys (r : Bool) : PV := PV.bool r

def F_value_keys_l1 (n : Nat) (x1 : List (List UInt8)) : (Int → Option (Bool)) → Int → Option (Bool) := fun nx1 x2 =>
 bif (decide (x2 < (((strs x1).length : Nat) : Int))) then (
 bnd (idx x1 x2) fun x3 =>
 bnd (gsome ((!(bif (x3 == ([] : List UInt8)) then true else (decide (((x3.length : Nat) : Int) > (64 : Int))))) && (decide (x2 > (0 : Int)))) (idx x1 (IntKind.i64.wrap (x2 - (1 : Int))))) fun x4 =>
 bif (bif (bif (x3 == ([] : List UInt8)) then true else (decide (((x3.length : Nat) : Int) > (64 : Int)))) then true else (bif (decide (x2 > (0 : Int))) then (!(Op.bytesLess x4 x3)) else false)) then (
 some false)
else (
 nx1 (IntKind.i64.wrap (x2 + (1 : Int)))))
else (
 some true)

def F_value_keys (n : Nat)  (x1 : List (List UInt8)) : Option (Bool) :=
  loopK (F_value_keys_l1 n x1) n (0 : Int)

set_option maxRecDepth 100000 in
theorem F_value_keys_ok (n : Nat)   : ∀ (x1 : List (List UInt8)) (r : Bool), F_value_keys n x1 = some r → CallsF Tryd.prog 84 [PV.sl (strs x1)] (R_F_value_keys r) := by
  intro x1 r h
  unfold F_value_keys at h
  refine CallsF.of_vcN mixed (fun _ _ => Tryd.call84 _ _) Tryd.func84 (by kernel_rfl) (inl := [1000000]) ?_
  conv => whnf
  refine LoopA.fn [1000000] (S := Int) (fun x2 => [(0, .p (.sl (strs x1))), (5, .p (.sl (strs x1))), (6, .p (.int .i64 (((strs x1).length : Nat) : Int))), (7, .p (.int .i64 x2))]) (fun x2 => []) (B := F_value_keys_l1 n x1) h ⟨[], [], ⟨rfl, rfl, rfl, rfl⟩, by repeat (first | exact trivial | exact .inl rfl | exact rfl | exact List.not_mem_nil | (refine .inr ?_) | (refine ⟨?_, ?_⟩) | exact List.length_set.symm | decide), by repeat (first | exact trivial | exact .inl rfl | exact rfl | exact List.not_mem_nil | (refine .inr ?_) | (refine ⟨?_, ?_⟩) | exact List.length_set.symm | decide)⟩ ?_
  intro nx1 x2 h
  unfold F_value_keys_l1 at h
  conv => whnf
  refine ⟨fun hc => ?_, fun hc => ?_⟩
  · have h := cond_t h hc
    conv => whnf
    replace h := bnd_some h
    obtain ⟨x3, h2, h⟩ := h
    refine ⟨_, Codec.at_ strC h2, ?_⟩
    conv => whnf
    iterate 8 (refine And.intro (fun h => h) ?_)
    conv => whnf
    replace h := bnd_some h
    obtain ⟨x4, h1, h⟩ := h
    refine ⟨_, fun hg => Codec.at_ strC (gsome_some h1 hg), ?_⟩
    conv => whnf
    iterate 6 (refine And.intro (fun h => h) ?_)
    conv => whnf
    refine ⟨fun hc => ?_, fun hc => ?_⟩
    · have h := cond_t h hc
      obtain rfl := Option.some.inj h
      conv => whnf
      repeat (first | exact rfl | exact trivial | refine ⟨?_, ?_⟩)
    · have h := cond_f h hc
      conv => whnf
      exact ⟨(IntKind.i64.wrap (x2 + (1 : Int))), h, ⟨[], [], ⟨rfl, rfl, rfl, rfl⟩, by repeat (first | exact trivial | exact .inl rfl | exact rfl | exact List.not_mem_nil | (refine .inr ?_) | (refine ⟨?_, ?_⟩) | exact List.length_set.symm | decide), by repeat (first | exact trivial | exact .inl rfl | exact rfl | exact List.not_mem_nil | (refine .inr ?_) | (refine ⟨?_, ?_⟩) | exact List.length_set.symm | decide)⟩⟩
  · have h := cond_f h hc
    obtain rfl := Option.some.inj h
    conv => whnf
    repeat (first | exact rfl | exact trivial | refine ⟨?_, ?_⟩)

abbrev R_F_value_look (r : Int × Bool) : PV := PV.tup [PV.int .i64 r.1, PV.bool r.2]

def F_value_look_l1 (n : Nat) (x5 : List Val) (g77 : Val → Int → Int → Option (Int × Bool)) (x7 : Int) : (Int × Bool × Int → Option (Int × Bool)) → Int × Bool × Int → Option (Int × Bool) := fun nx1 (x11, x12, x13) =>
 bif (bif (decide (x13 < (((Val.rows x5).length : Nat) : Int))) then x12 else false) then (
 bnd (idx x5 x13) fun ⟨x14, x15, x16, x17, x18, x19⟩ =>
 bnd (g77 (Val.mk x14 x15 x16 x17 x18 x19) (IntKind.i64.wrap (x7 - (1 : Int))) x11) fun ⟨x20, x21⟩ =>
 nx1 (x20, x21, (IntKind.i64.wrap (x13 + (1 : Int)))))
else (
 some (x11, x12))

def BF_value_look (n : Nat) (g77 : Val → Int → Int → Option (Int × Bool)) (a0_ : Val) (x7 : Int) (x8 : Int) : Option (Int × Bool) :=
  match a0_ with
  | ⟨x1, x2, x3, x4, x5, x6⟩ =>
  bnd (gsome (!(bif (bif (bif (decide (x7 < (1 : Int))) then true else (decide ((IntKind.i64.wrap (x8 + (1 : Int))) > (4096 : Int)))) then true else (decide (x1 < (0 : Int)))) then true else (decide (x1 > (7 : Int))))) (F_value_bare n (Val.mk x1 x2 x3 x4 x5 x6))) fun x9 =>
  bnd (gsome (((!(bif (bif (bif (bif (bif (decide (x7 < (1 : Int))) then true else (decide ((IntKind.i64.wrap (x8 + (1 : Int))) > (4096 : Int)))) then true else (decide (x1 < (0 : Int)))) then true else (decide (x1 > (7 : Int)))) then true else (!x9)) then true else (bif (decide (x1 ≥ (6 : Int))) then (decide (x3 < (1 : Int))) else false))) && (x1 == (5 : Int))) && (!((((strs x6).length : Nat) : Int) != (((Val.rows x5).length : Nat) : Int)))) (F_value_keys n x6)) fun x10 =>
  bif (bif (bif (bif (bif (bif (bif (decide (x7 < (1 : Int))) then true else (decide ((IntKind.i64.wrap (x8 + (1 : Int))) > (4096 : Int)))) then true else (decide (x1 < (0 : Int)))) then true else (decide (x1 > (7 : Int)))) then true else (!x9)) then true else (bif (decide (x1 ≥ (6 : Int))) then (decide (x3 < (1 : Int))) else false)) then true else (bif (x1 == (5 : Int)) then (bif ((((strs x6).length : Nat) : Int) != (((Val.rows x5).length : Nat) : Int)) then true else (!x10)) else false)) then (
  some ((IntKind.i64.wrap (x8 + (1 : Int))), false))
  else (
  loopK (F_value_look_l1 n x5 g77 x7) n ((IntKind.i64.wrap (x8 + (1 : Int))), true, (0 : Int)))

set_option maxHeartbeats 4000000 in
set_option maxRecDepth 100000 in
theorem BF_value_look_ok (n : Nat) (g77 : Val → Int → Int → Option (Int × Bool)) (g77_ok : ∀ (a0_ : Val) (x7 : Int) (x8 : Int) (r : Int × Bool), g77 a0_ x7 x8 = some r → CallsF Tryd.prog 77 [PV.agg (valC.cells a0_), PV.int .i64 x7, PV.int .i64 x8] (R_F_value_look r)) : ∀ (a0_ : Val) (x7 : Int) (x8 : Int) (r : Int × Bool), BF_value_look n g77 a0_ x7 x8 = some r → CallsF Tryd.prog 77 [PV.agg (valC.cells a0_), PV.int .i64 x7, PV.int .i64 x8] (R_F_value_look r) := by
  intro a0_ x7 x8 r h
  obtain ⟨x1, x2, x3, x4, x5, x6⟩ := a0_
  unfold BF_value_look at h
  refine CallsF.of_vcN mixed (fun _ _ => Tryd.call77 _ _) Tryd.func77 (by kernel_rfl) (inl := [1000000]) ?_
  conv => whnf
  iterate 9 (refine And.intro (fun h => h) ?_)
  conv => whnf
  replace h := bnd_some h
  obtain ⟨x9, h4, h⟩ := h
  refine ⟨_, fun hg => (F_value_bare_ok n _  _ (gsome_some h4 hg)), ?_⟩
  conv => whnf
  iterate 22 (refine And.intro (fun h => h) ?_)
  conv => whnf
  replace h := bnd_some h
  obtain ⟨x10, h3, h⟩ := h
  refine ⟨_, fun hg => (F_value_keys_ok n _  _ (gsome_some h3 hg)), ?_⟩
  conv => whnf
  iterate 6 (refine And.intro (fun h => h) ?_)
  conv => whnf
  refine ⟨fun hc => ?_, fun hc => ?_⟩
  · have h := cond_t h hc
    obtain rfl := Option.some.inj h
    conv => whnf
    repeat (first | exact rfl | exact trivial | refine ⟨?_, ?_⟩)
  · have h := cond_f h hc
    conv => whnf
    refine LoopA.fn [1000000] (S := Int × Bool × Int) (fun (x11, x12, x13) => [(1, .p (.int .i64 x7)), (2, .p (.int .i64 x11)), (3, .ptr 0 0), (8, .p (.bool x12)), (9, .p (.int .i64 x13))]) (fun (x11, x12, x13) => [.box 40 [.p (.int .i64 x1), .p (.bool x2), .p (.int .i64 x3), .p (.str x4), .p (.sl (Val.rows x5)), .p (.sl (strs x6))]]) (B := F_value_look_l1 n x5 g77 x7) h ⟨[0], [], ⟨rfl, rfl, rfl, rfl⟩, by repeat (first | exact trivial | exact .inl rfl | exact rfl | exact List.not_mem_nil | (refine .inr ?_) | (refine ⟨?_, ?_⟩) | exact List.length_set.symm | decide), by repeat (first | exact trivial | exact .inl rfl | exact rfl | exact List.not_mem_nil | (refine .inr ?_) | (refine ⟨?_, ?_⟩) | exact List.length_set.symm | decide)⟩ ?_
    intro nx1 st h
    obtain ⟨x11, x12, x13⟩ := st
    unfold F_value_look_l1 at h
    conv => whnf
    refine And.intro (fun h => h) ?_
    conv => whnf
    refine ⟨fun hc => ?_, fun hc => ?_⟩
    · have h := cond_t h hc
      conv => whnf
      replace h := bnd_some h
      obtain ⟨⟨x14, x15, x16, x17, x18, x19⟩, h2, h⟩ := h
      refine ⟨_, Codec.at_ valC h2, ?_⟩
      conv => whnf
      replace h := bnd_some h
      obtain ⟨⟨x20, x21⟩, h1, h⟩ := h
      refine ⟨_, (g77_ok _ _ _  _ h1), ?_⟩
      conv => whnf
      exact ⟨(x20, x21, (IntKind.i64.wrap (x13 + (1 : Int)))), h, ⟨[0], [], ⟨rfl, rfl, rfl, rfl⟩, by repeat (first | exact trivial | exact .inl rfl | exact rfl | exact List.not_mem_nil | (refine .inr ?_) | (refine ⟨?_, ?_⟩) | exact List.length_set.symm | decide), by repeat (first | exact trivial | exact .inl rfl | exact rfl | exact List.not_mem_nil | (refine .inr ?_) | (refine ⟨?_, ?_⟩) | exact List.length_set.symm | decide)⟩⟩
    · have h := cond_f h hc
      obtain rfl := Option.some.inj h
      conv => whnf
      repeat (first | exact rfl | exact trivial | refine ⟨?_, ?_⟩)

def F_value_look : Nat → Val → Int → Int → Option (Int × Bool)
  | 0 => fun _ _ _ => none
  | n + 1 => BF_value_look n (F_value_look n)

set_option maxRecDepth 100000 in
theorem F_value_look_all (n : Nat) : (∀ (a0_ : Val) (x7 : Int) (x8 : Int) (r : Int × Bool), F_value_look n a0_ x7 x8 = some r → CallsF Tryd.prog 77 [PV.agg (valC.cells a0_), PV.int .i64 x7, PV.int .i64 x8] (R_F_value_look r)) := by
  induction n with
  | zero => exact (by intros; rename_i h; cases h)
  | succ n ih =>
    have hg77 := ih
    exact BF_value_look_ok n (F_value_look n) hg77

set_option maxRecDepth 100000 in
theorem F_value_look_ok (n : Nat) : ∀ (a0_ : Val) (x7 : Int) (x8 : Int) (r : Int × Bool), F_value_look n a0_ x7 x8 = some r → CallsF Tryd.prog 77 [PV.agg (valC.cells a0_), PV.int .i64 x7, PV.int .i64 x8] (R_F_value_look r) := (F_value_look_all n)

abbrev R_F_value_Check (r : Int) : PV := PV.int .i64 r

def F_value_Check (n : Nat)  (a0_ : Val) : Option (Int) :=
  match a0_ with
  | ⟨x1, x2, x3, x4, x5, x6⟩ =>
  bnd (F_value_look n (Val.mk x1 x2 x3 x4 x5 x6) (32 : Int) (0 : Int)) fun ⟨x7, x8⟩ =>
  bif (!x8) then (
  some (20 : Int))
  else (
  some (0 : Int))

set_option maxRecDepth 100000 in
theorem F_value_Check_ok (n : Nat)   : ∀ (a0_ : Val) (r : Int), F_value_Check n a0_ = some r → CallsF Tryd.prog 67 [PV.agg (valC.cells a0_)] (R_F_value_Check r) := by
  intro a0_ r h
  obtain ⟨x1, x2, x3, x4, x5, x6⟩ := a0_
  unfold F_value_Check at h
  refine CallsF.of_vcN mixed (fun _ _ => Tryd.call67 _ _) Tryd.func67 (by kernel_rfl) (inl := [1000000]) ?_
  conv => whnf
  replace h := bnd_some h
  obtain ⟨⟨x7, x8⟩, h1, h⟩ := h
  refine ⟨_, (F_value_look_ok n _ _ _  _ h1), ?_⟩
  conv => whnf
  refine ⟨fun hc => ?_, fun hc => ?_⟩
  · have h := cond_t h hc
    obtain rfl := Option.some.inj h
    conv => whnf
    repeat (first | exact rfl | exact trivial | refine ⟨?_, ?_⟩)
  · have h := cond_f h hc
    obtain rfl := Option.some.inj h
    conv => whnf
    repeat (first | exact rfl | exact trivial | refine ⟨?_, ?_⟩)

abbrev R_F_rank_eight (r : List UInt8) : PV := PV.str r

def F_rank_eight_l1 (n : Nat) (x1 : Int) : (Int × List UInt8 → Option (List UInt8)) → Int × List UInt8 → Option (List UInt8) := fun nx1 (x2, x3) =>
 bif (decide (x2 < (8 : Int))) then (
 chk (decide (0 ≤ (IntKind.i64.wrap ((56 : Int) - (IntKind.i64.wrap ((8 : Int) * x2)))))) (
 bnd (natI x2) fun x4 =>
 chk (decide (x4 < 8)) (
 bnd (u8I (IntKind.u8.wrap (Int.fdiv x1 (2 ^ (min (Int.toNat (IntKind.i64.wrap ((56 : Int) - (IntKind.i64.wrap ((8 : Int) * x2))))) IntKind.u64.bits))))) fun x5 =>
 chk (decide (x4 < x3.length)) (
 nx1 ((IntKind.i64.wrap (x2 + (1 : Int))), (x3.set x4 x5))))))
else (
 chk (decide (0 + (8 - 0) ≤ x3.length)) (
 some ((x3.drop 0).take (8 - 0))))

def F_rank_eight (n : Nat)  (x1 : Int) : Option (List UInt8) :=
  loopK (F_rank_eight_l1 n x1) n ((0 : Int), (List.replicate 8 0 : List UInt8))

set_option maxRecDepth 100000 in
theorem F_rank_eight_ok (n : Nat)   : ∀ (x1 : Int) (r : List UInt8), F_rank_eight n x1 = some r → CallsF Tryd.prog 79 [PV.int .u64 x1] (R_F_rank_eight r) := by
  intro x1 r h
  unfold F_rank_eight at h
  refine CallsF.of_vcN mixed (fun _ _ => Tryd.call79 _ _) Tryd.func79 (by kernel_rfl) (inl := [10000003, 1000000]) ?_
  conv => whnf
  refine ⟨(List.replicate 8 0 : List UInt8), rfl, ?_⟩
  conv => whnf
  refine LoopA.fn [10000003, 1000000] (S := Int × List UInt8) (fun (x2, x3) => [(0, .p (.int .u64 x1)), (3, .eptr 0 1 0 0), (5, .p (.int .i64 x2))]) (fun (x2, x3) => [.bv x3]) (B := F_rank_eight_l1 n x1) h ⟨[0], [], ⟨rfl, rfl, rfl, rfl⟩, by repeat (first | exact trivial | exact .inl rfl | exact rfl | exact List.not_mem_nil | (refine .inr ?_) | (refine ⟨?_, ?_⟩) | exact List.length_set.symm | decide), by repeat (first | exact trivial | exact .inl rfl | exact rfl | exact List.not_mem_nil | (refine .inr ?_) | (refine ⟨?_, ?_⟩) | exact List.length_set.symm | decide)⟩ ?_
  intro nx1 st h
  obtain ⟨x2, x3⟩ := st
  unfold F_rank_eight_l1 at h
  conv => whnf
  refine ⟨fun hc => ?_, fun hc => ?_⟩
  · have h := cond_t h hc
    conv => whnf
    obtain ⟨h5, h⟩ := chk_some h
    refine ⟨(of_decide_eq_true h5 : 0 ≤ (IntKind.i64.wrap ((56 : Int) - (IntKind.i64.wrap ((8 : Int) * x2))))), ?_⟩
    conv => whnf
    replace h := bnd_some h
    obtain ⟨x4, h4, h⟩ := h
    have hj := natI_some h4
    conv => whnf
    obtain ⟨h3, h⟩ := chk_some h
    refine ⟨x4, ⟨rfl, hj, of_decide_eq_true h3⟩, ?_⟩
    conv => whnf
    replace h := bnd_some h
    obtain ⟨x5, h2, h⟩ := h
    have hb := u8I_some h2
    conv => whnf
    obtain ⟨h1, h⟩ := chk_some h
    refine ⟨_, _, ⟨rfl, rfl, of_decide_eq_true h1, hb, rfl⟩, ?_⟩
    conv => whnf
    exact ⟨((IntKind.i64.wrap (x2 + (1 : Int))), (x3.set x4 x5)), h, ⟨[0], [], ⟨rfl, rfl, rfl, rfl⟩, by repeat (first | exact trivial | exact .inl rfl | exact rfl | exact List.not_mem_nil | (refine .inr ?_) | (refine ⟨?_, ?_⟩) | exact List.length_set.symm | decide), by repeat (first | exact trivial | exact .inl rfl | exact rfl | exact List.not_mem_nil | (refine .inr ?_) | (refine ⟨?_, ?_⟩) | exact List.length_set.symm | decide)⟩⟩
  · have h := cond_f h hc
    conv => whnf
    refine ⟨⟨rfl, Nat.zero_le _, Nat.le_refl _, by decide⟩, ?_⟩
    conv => whnf
    obtain ⟨h6, h⟩ := chk_some h
    refine ⟨(of_decide_eq_true h6 : 0 + (8 - 0) ≤ x3.length), ?_⟩
    obtain rfl := Option.some.inj h
    conv => whnf
    repeat (first | exact rfl | exact trivial | refine ⟨?_, ?_⟩)

abbrev R_F_rank_ended (r : List UInt8) : PV := PV.str r

def F_rank_ended (n : Nat)  (x1 : List UInt8) : Option (List UInt8) :=
  bnd (F_strings_ReplaceAll n x1 ([0] : List UInt8) ([0, 255] : List UInt8)) fun x2 =>
  chk (decide (((x2.length + ([0, 0] : List UInt8).length : Nat) : Int) ≤ maxI)) (
  some (x2 ++ ([0, 0] : List UInt8)))

set_option maxRecDepth 100000 in
theorem F_rank_ended_ok (n : Nat)   : ∀ (x1 : List UInt8) (r : List UInt8), F_rank_ended n x1 = some r → CallsF Tryd.prog 80 [PV.str x1] (R_F_rank_ended r) := by
  intro x1 r h
  unfold F_rank_ended at h
  refine CallsF.of_vcN mixed (fun _ _ => Tryd.call80 _ _) Tryd.func80 (by kernel_rfl) (inl := [1000000]) ?_
  conv => whnf
  replace h := bnd_some h
  obtain ⟨x2, h2, h⟩ := h
  refine ⟨_, (F_strings_ReplaceAll_ok n _ _ _  _ h2), ?_⟩
  conv => whnf
  obtain ⟨h1, h⟩ := chk_some h
  refine ⟨(of_decide_eq_true h1 : ((x2.length + ([0, 0] : List UInt8).length : Nat) : Int) ≤ maxI), ?_⟩
  obtain rfl := Option.some.inj h
  conv => whnf
  repeat (first | exact rfl | exact trivial | refine ⟨?_, ?_⟩)
end W
end
