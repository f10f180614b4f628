/- A function's whole code: branches, blocks, loops, the return. -/
import Derived.Test.YtkakmigbbipgoaaDoorAxRegion
namespace Ax
open Go

abbrev KA := AX → Env → List AObj → Prop

def AXis (x : AX) (e : Exit) : Prop :=
  match x, e with
  | .normal, .normal => True
  | .exit i, .exit j => i = j
  | .ret, .ret => True
  | _, _ => False

def PostA (bs : Base) (N : Nat) (K : KA) : Exit → Act → World → Prop := fun e a w => ∃ x ρ H E lo, AXis x e ∧ Sat bs N ρ H (lookD E) lo a w ∧ K x E lo

/-- The regions that draw their order are in order. -/
def drawsOk (inl : List Nat) : Code → Bool
  | .seq a b => drawsOk inl a && drawsOk inl b
  | .cond _ t e => drawsOk inl t && drawsOk inl e
  | .block _ c => drawsOk inl c
  | .loop c => drawsOk inl c
  | .region _ ops d => !d || drawOk inl ops
  | _ => true

/-- nb: how many objects were lent. -/
def WpA (P : Program) (N nb : Nat) (c : Code) (K : KA) (E : Env) (lo : List AObj) : Prop :=
  ∀ (bs : Base) (ρ : List Value) (H : PH) (a : Act) (w : World), bs.r0.length = nb → Sat bs N ρ H (lookD E) lo a w → c.wp P (PostA bs N K) a w

/-- A loop's body is asked for where it is known that the regions that draw are in order. -/
def LoopA (P : Program) (inl : List Nat) (N nb : Nat) (body : Code) (K : KA) (E : Env) (lo : List AObj) : Prop :=
  P.follows .mixedOrders = true → drawsOk inl body = true → WpA P N nb (.loop body) K E lo

/-- Two pieces of code between which what is known may be put in another way. -/
def SeqA (P : Program) (inl : List Nat) (N nb : Nat) (a b : Code) (K : KA) (E : Env) (lo : List AObj) : Prop :=
  P.follows .mixedOrders = true → drawsOk inl a = true → drawsOk inl b = true → WpA P N nb (.seq a b) K E lo

/-- In how many ways a piece of code ends: normally, and by 'exit id'. -/
def exitsN (id : Nat) : Code → Nat
  | .seq a b => exitsN id a + exitsN id b
  | .cond _ t e => exitsN id t + exitsN id e
  | .block _ c => exitsN id c
  | .loop c => exitsN id c
  | .exit i => match Nat.beq i id with | true => 1 | false => 0
  | _ => 0
def waysN : Code → Nat
  | .seq a b => match waysN a with | 0 => 0 | _ => waysN b
  | .cond _ t e => waysN t + waysN e
  | .block id c => waysN c + exitsN id c
  | .loop _ => 0
  | .exit _ => 0
  | .ret => 0
  | _ => 1
/-- 1000000 among the calls that are gone into: where ways meet the walk stands still. -/
def joinB (inl : List Nat) (a : Code) : Bool := match memB inl 1000000 with | true => Nat.ble 2 (waysN a) | false => false

def vc (P : Program) (inl : List Nat) (N nb : Nat) : Code → KA → Env → List AObj → Prop
  | .skip, K, E, lo => K .normal E lo
  | .seq a b, K, E, lo => match joinB inl a with
    | true => SeqA P inl N nb a b K E lo
    | false => vc P inl N nb a (fun x E lo => match x with | .normal => vc P inl N nb b K E lo | .exit i => K (.exit i) E lo | .ret => K .ret E lo) E lo
  | .cond c t e, K, E, lo => ev E c fun v => match v with
    | .p (.bool b) => (b = true → vc P inl N nb t K E lo) ∧ (b = false → vc P inl N nb e K E lo)
    | _ => False
  | .block id c, K, E, lo => vc P inl N nb c (fun x E lo => match x with
      | .exit i => (match Nat.beq i id with | true => K .normal E lo | false => K (.exit i) E lo)
      | .normal => K .normal E lo
      | .ret => K .ret E lo) E lo
  | .exit id, K, E, lo => K (.exit id) E lo
  | .ret, K, E, lo => K .ret E lo
  | .region _ ⟨ops⟩ d, K, E, lo => match d with
    | false => vcOpsS P inl N ops (K .normal) ops E lo
    | true => vcOpsI P inl N ops (K .normal) ops E lo
  | .loop body, K, E, lo => LoopA P inl N nb body K E lo
  | c, K, E, lo => WpA P N nb c K E lo

theorem PostA.mono {bs : Base} {N : Nat} {K K' : KA} (h : ∀ x E lo, K x E lo → K' x E lo) {e : Exit} {a : Act} {w : World} (p : PostA bs N K e a w) : PostA bs N K' e a w :=
  let ⟨x, ρ, H, E, lo, hx, s, k⟩ := p
  ⟨x, ρ, H, E, lo, hx, s, h x E lo k⟩

theorem WpA.mono {P : Program} {N nb : Nat} {c : Code} {K K' : KA} {E : Env} {lo : List AObj} (h : ∀ x E lo, K x E lo → K' x E lo) (w : WpA P N nb c K E lo) : WpA P N nb c K' E lo :=
  fun bs ρ H a ww hb s => wp_mono (w bs ρ H a ww hb s) fun _ _ _ p => p.mono h

theorem vc_sound {P : Program} {inl : List Nat} (hm : P.follows .mixedOrders = true) {N nb : Nat} : ∀ (c : Code) (K : KA) (E : Env) (lo : List AObj), drawsOk inl c = true → vc P inl N nb c K E lo → WpA P N nb c K E lo
  | .skip, K, E, lo, _, h => fun bs ρ H a w hb s => wp_skip ⟨.normal, ρ, H, E, lo, trivial, s, h⟩
  | .seq x y, K, E, lo, hd, h => fun bs ρ H a w hb s => by
    simp only [drawsOk, Bool.and_eq_true] at hd
    simp only [vc] at h
    split at h
    · exact h hm hd.1 hd.2 bs ρ H a w hb s
    refine wp_seq (wp_mono (vc_sound hm x _ E lo hd.1 h bs ρ H a w hb s) fun e a w p => ?_)
    obtain ⟨x', ρ', H', E', lo', hx, s', k⟩ := p
    cases x' <;> cases e <;> simp only [AXis] at hx
    · exact vc_sound hm y K E' lo' hd.2 k bs ρ' H' a w hb s'
    · exact ⟨.exit _, ρ', H', E', lo', hx, s', k⟩
    · exact ⟨.ret, ρ', H', E', lo', trivial, s', k⟩
  | .cond c t e, K, E, lo, hd, h => fun bs ρ H a w hb s => by
    simp only [drawsOk, Bool.and_eq_true] at hd
    simp only [vc, ev_eq] at h
    have hc := evF_rep s.slots c
    split at h
    · rename_i b hbv
      rw [hbv] at hc
      exact wp_cond_split (rep_bool hc) (fun hc' => vc_sound hm t K E lo hd.1 (h.1 hc') bs ρ H a w hb s) (fun hc' => vc_sound hm e K E lo hd.2 (h.2 hc') bs ρ H a w hb s)
    · exact h.elim
  | .block id c, K, E, lo, hd, h => fun bs ρ H a w hb s => by
    refine wp_block (wp_mono (vc_sound hm c _ E lo hd h bs ρ H a w hb s) fun e a w p => ?_)
    obtain ⟨x', ρ', H', E', lo', hx, s', k⟩ := p
    cases x' <;> cases e <;> simp only [AXis] at hx
    · exact ⟨.normal, ρ', H', E', lo', trivial, s', k⟩
    · rename_i i j
      subst hx
      simp only [Exit.inBlock]
      by_cases hi : i = id
      · subst hi
        simp only [Nat.beq_refl] at k
        simp only [if_true]
        exact ⟨.normal, ρ', H', E', lo', trivial, s', k⟩
      · have : Nat.beq i id = false := by
          cases hb : Nat.beq i id with
          | false => rfl
          | true => exact absurd (Nat.eq_of_beq_eq_true hb) hi
        simp only [this] at k
        simp only [hi, if_false]
        exact ⟨.exit i, ρ', H', E', lo', rfl, s', k⟩
    · exact ⟨.ret, ρ', H', E', lo', trivial, s', k⟩
  | .exit id, K, E, lo, _, h => fun bs ρ H a w hb s => wp_exit ⟨.exit id, ρ, H, E, lo, rfl, s, h⟩
  | .ret, K, E, lo, _, h => fun bs ρ H a w hb s => wp_ret ⟨.ret, ρ, H, E, lo, trivial, s, h⟩
  | .region id ⟨ops⟩ d, K, E, lo, hd, h => fun bs ρ H a w hb s => by
    have hQ : ∀ ρ H E lo a w, Sat bs N ρ H (lookD E) lo a w → K .normal E lo → PostA bs N K .normal a w := fun ρ H E lo a w s k => ⟨.normal, ρ, H, E, lo, trivial, s, k⟩
    cases d with
    | false => exact vcRegion_textS (P := P) (l := ops) hQ s h
    | true =>
      have hB : drawOk inl ops.toArray = true := by simpa [drawsOk] using hd
      exact vcRegion_draw hm hB hQ s h
  | .loop body, K, E, lo, hd, h => h hm hd
  | .rangeFunc .., K, E, lo, _, h => h
  | .scope _, K, E, lo, _, h => h
  | .label _, K, E, lo, _, h => h
  | .goto _, K, E, lo, _, h => h
  | .refuse _, K, E, lo, _, h => h

/-! ### A frame that says less -/
def FV.ren (π : Nat → Nat) : FV → FV
  | .opt g v => .opt g (v.ren π)
  | .tsl k rows => .tsl (π k) rows
  | .ptr k off => .ptr (π k) off
  | .bself k => .bself (π k)
  | .bsl k off len cap => .bsl (π k) off len cap
  | .vsl k n => .vsl (π k) n
  | .eptr k z i off => .eptr (π k) z i off
  | .mref k => .mref (π k)
  | .pair a b => .pair (a.ren π) (b.ren π)
  | v => v

/-- v says all that v' says, where the objects that v' names are π's. A nil slice may become one that can grow: 'fresh k' are the new places. -/
def leF (π : Nat → Nat) (fresh : List Nat) (v v' : FV) : Prop :=
  match v' with
  | .top => True
  | .p p' => match v with
    | .p p => p = p' ∨ (p = .nilsl ∧ p' = .sl [])
    | .tsl _ rows => PV.sl rows = p'
    | _ => False
  | .tsl k' rows' => match v with
    | .tsl k rows => k = π k' ∧ rows = rows' ∧ k' ∉ fresh
    | .p .nilsl => rows' = [] ∧ k' ∈ fresh
    | _ => False
  | .ptr k' off' => match v with
    | .ptr k off => k = π k' ∧ off = off' ∧ k' ∉ fresh
    | _ => False
  | .bself k' => match v with
    | .bself k => k = π k' ∧ k' ∉ fresh
    | .ptr k off => k = π k' ∧ off = 0 ∧ k' ∉ fresh
    | _ => False
  | .bsl k' off' len' cap' => match v with
    | .bsl k off len cap => k = π k' ∧ off = off' ∧ len = len' ∧ cap = cap' ∧ k' ∉ fresh
    | _ => False
  | .hptr row' => match v with
    | .hptr row => row = row'
    | _ => False
  | .vsl k' n' => match v with
    | .vsl k n => k = π k' ∧ n = n' ∧ k' ∉ fresh
    | .p .nilsl => n' = 0 ∧ k' ∈ fresh
    | _ => False
  | .eptr k' z' i' off' => match v with
    | .eptr k z i off => k = π k' ∧ z = z' ∧ i = i' ∧ off = off' ∧ k' ∉ fresh
    | _ => False
  | .mref k' => match v with
    | .mref k => k = π k' ∧ k' ∉ fresh
    | _ => False
  | .pair a' b' => match v with
    | .pair a b => leF π fresh a a' ∧ leF π fresh b b'
    | _ => False
  | .opt _ _ => False

/-- In a box: its own address, or none yet. -/
def leC (π : Nat → Nat) (fresh : List Nat) (k' : Nat) (v v' : FV) : Prop :=
  match v, v' with
  | .p .nilp, .bself k => k = k' ∧ k ∉ fresh
  | v, v' => leF π fresh v v'

def leObj (π : Nat → Nat) (fresh : List Nat) (k' : Nat) (o o' : AObj) : Prop :=
  match o' with
  | .dead => True
  | .box t' cells' => match o with
    | .box t cells => t = t' ∧ cells.length = cells'.length ∧ ∀ (i : Nat) (c c' : FV), cells[i]? = some c → cells'[i]? = some c' → leC π fresh k' c c'
    | _ => False
  | .tail e z n => o = .tail e z n
  | .vec e z rows => o = .vec e z rows
  | .mp es => o = .mp es

structure Weak (nb : Nat) (E : Env) (lo : List AObj) (E' : Env) (lo' : List AObj) (π : Nat → Nat) (fresh : List Nat) : Prop where
  bounds : ∀ k, k < lo'.length → k ∉ fresh → π k < lo.length
  keep : ∀ k, k < nb → π k = k ∧ k ∉ fresh
  nb : nb ≤ lo'.length
  inj : ∀ i j, i < lo'.length → j < lo'.length → i ∉ fresh → j ∉ fresh → π i = π j → i = j
  frsh : ∀ k, k ∈ fresh → ∃ e z, lo'[k]? = some (.tail e z 0) ∨ lo'[k]? = some (.vec e z [])
  obj : ∀ k o', lo'[k]? = some o' → k ∉ fresh → ∃ o, lo[π k]? = some o ∧ leObj π fresh k o o'
  slot : ∀ t v, (t, v) ∈ E' → leF π fresh (lookD E t) v

theorem lookD_mem : ∀ {E : Env} {t : Nat}, lookD E t = .top ∨ (t, lookD E t) ∈ E
  | [], t => .inl rfl
  | (t', v) :: E, t => by
    simp only [lookD]
    cases hb : Nat.beq t t' with
    | true =>
      have := Nat.eq_of_beq_eq_true hb
      subst this
      exact .inr (by simp)
    | false =>
      rcases lookD_mem (E := E) (t := t) with h | h
      · exact .inl h
      · exact .inr (by simp [h])

def renρ (ρ : List Value) (π : Nat → Nat) (fresh : List Nat) (n : Nat) : List Value := (List.range n).map fun k => if k ∈ fresh then .slice none 0 0 else ρ.getD (π k) undef

theorem renρ_get {ρ : List Value} {π : Nat → Nat} {fresh : List Nat} {n k : Nat} (h : k < n) : (renρ ρ π fresh n)[k]? = some (if k ∈ fresh then .slice none 0 0 else ρ.getD (π k) undef) := by
  simp [renρ, h]

/-- The objects that a value names. -/
def FV.names : FV → List Nat
  | .opt _ v => v.names
  | .tsl k _ => [k]
  | .ptr k _ => [k]
  | .bself k => [k]
  | .bsl k _ _ _ => [k]
  | .vsl k _ => [k]
  | .eptr k _ _ _ => [k]
  | .mref k => [k]
  | .pair a b => a.names ++ b.names
  | _ => []

theorem leF_rep {ρ : List Value} {H : PH} {π : Nat → Nat} {fresh : List Nat} {n : Nat} {v v' : FV} {x : Value} (h : leF π fresh v v') (hn : ∀ k ∈ v'.names, k < n) (r : RepF ρ H v x) :
    RepF (renρ ρ π fresh n) H v' x := by
  induction v' generalizing v x with
  | top => trivial
  | p p' =>
    cases v <;> simp only [leF] at h
    · rename_i p
      rcases h with rfl | ⟨rfl, rfl⟩
      · exact r
      · simp only [RepF, RepP] at *
        exact .inl ⟨trivial, .inl r⟩
    · subst h; exact r.2
  | opt g v' _ => simp [leF] at h
  | tsl k' rows' =>
    have hk := hn k' (by simp [FV.names])
    cases v <;> simp only [leF] at h
    · rename_i p
      cases p <;> simp only at h
      obtain ⟨rfl, hf⟩ := h
      simp only [RepF, RepP] at r ⊢
      subst r
      exact ⟨by rw [renρ_get hk]; simp [hf], .inl ⟨trivial, .inl rfl⟩⟩
    · rename_i k rows
      obtain ⟨rfl, rfl, hf⟩ := h
      obtain ⟨r1, r2⟩ := r
      refine ⟨?_, r2⟩
      rw [renρ_get hk]
      simp [hf, List.getD_eq_getElem?_getD, r1]
  | ptr k' off' =>
    have hk := hn k' (by simp [FV.names])
    cases v <;> simp only [leF] at h
    rename_i k off
    obtain ⟨rfl, rfl, hf⟩ := h
    obtain ⟨b, r1, rfl⟩ := r
    refine ⟨b, ?_, rfl⟩
    rw [renρ_get hk]
    simp [hf, List.getD_eq_getElem?_getD, r1]
  | hptr row =>
    cases v <;> simp only [leF] at h
    rw [h] at r
    exact r
  | bself k' =>
    have hk := hn k' (by simp [FV.names])
    cases v <;> simp only [leF] at h
    · rename_i k off
      obtain ⟨rfl, rfl, hf⟩ := h
      obtain ⟨b, r1, rfl⟩ := r
      refine ⟨b, ?_, .inr rfl⟩
      rw [renρ_get hk]
      simp [hf, List.getD_eq_getElem?_getD, r1]
    · rename_i k
      obtain ⟨rfl, hf⟩ := h
      obtain ⟨b, r1, r2⟩ := r
      refine ⟨b, ?_, r2⟩
      rw [renρ_get hk]
      simp [hf, List.getD_eq_getElem?_getD, r1]
  | bsl k' off' len' cap' =>
    have hk := hn k' (by simp [FV.names])
    cases v <;> simp only [leF] at h
    rename_i k off len cap
    obtain ⟨rfl, rfl, rfl, rfl, hf⟩ := h
    obtain ⟨b, r1, rfl⟩ := r
    refine ⟨b, ?_, rfl⟩
    rw [renρ_get hk]
    simp [hf, List.getD_eq_getElem?_getD, r1]
  | vsl k' n' =>
    have hk := hn k' (by simp [FV.names])
    cases v <;> simp only [leF] at h
    · rename_i p
      cases p <;> simp only at h
      obtain ⟨rfl, hf⟩ := h
      simp only [RepF, RepP] at r ⊢
      subst r
      exact ⟨by rw [renρ_get hk]; simp [hf], none, 0, rfl⟩
    · rename_i k n
      obtain ⟨rfl, rfl, hf⟩ := h
      obtain ⟨r1, r2⟩ := r
      refine ⟨?_, r2⟩
      rw [renρ_get hk]
      simp [hf, List.getD_eq_getElem?_getD, r1]
  | eptr k' z' i' off' =>
    have hk := hn k' (by simp [FV.names])
    cases v <;> simp only [leF] at h
    rename_i k z i off
    obtain ⟨rfl, rfl, rfl, rfl, hf⟩ := h
    obtain ⟨b, n, cap, r1, rfl⟩ := r
    refine ⟨b, n, cap, ?_, rfl⟩
    rw [renρ_get hk]
    simp [hf, List.getD_eq_getElem?_getD, r1]
  | mref k' =>
    have hk := hn k' (by simp [FV.names])
    cases v <;> simp only [leF] at h
    rename_i k
    obtain ⟨rfl, hf⟩ := h
    obtain ⟨b, r1, rfl⟩ := r
    refine ⟨b, ?_, rfl⟩
    rw [renρ_get hk]
    simp [hf, List.getD_eq_getElem?_getD, r1]
  | pair a' b' iha ihb =>
    cases v <;> simp only [leF] at h
    obtain ⟨u, w, rfl, ra, rb⟩ := r
    exact ⟨u, w, rfl, iha h.1 (fun k hk => hn k (by simp [FV.names, hk])) ra, ihb h.2 (fun k hk => hn k (by simp [FV.names, hk])) rb⟩

theorem leC_rep {ρ : List Value} {H : PH} {π : Nat → Nat} {fresh : List Nat} {n k' b : Nat} {v v' : FV} {x : Value} (hk : (renρ ρ π fresh n)[k']? = some (.pointer (some ⟨b, 0, none⟩))) (h : leC π fresh k' v v') (hn : ∀ k ∈ v'.names, k < n) (r : RepF ρ H v x) :
    RepF (renρ ρ π fresh n) H v' x := by
  unfold leC at h
  split at h
  · obtain ⟨rfl, _⟩ := h
    simp only [RepF, RepP] at r
    exact ⟨b, hk, .inl r⟩
  · exact leF_rep h hn r

theorem RepFL.le {ρ : List Value} {H : PH} {π : Nat → Nat} {fresh : List Nat} {n k' b : Nat} (hk : (renρ ρ π fresh n)[k']? = some (.pointer (some ⟨b, 0, none⟩))) : ∀ {cs cs' : List FV} {vs : List Value}, cs.length = cs'.length →
    (∀ (i : Nat) (c c' : FV), cs[i]? = some c → cs'[i]? = some c' → leC π fresh k' c c') → (∀ c ∈ cs', ∀ k ∈ c.names, k < n) → RepFL ρ H cs vs → RepFL (renρ ρ π fresh n) H cs' vs
  | [], [], vs, _, _, _, r => r
  | [], _ :: _, _, h, _, _, _ => by simp at h
  | _ :: _, [], _, h, _, _, _ => by simp at h
  | c :: cs, c' :: cs', vs, hl, hle, hn, r => by
    obtain ⟨v, vs', rfl, r1, rs⟩ := r
    exact ⟨v, vs', rfl, leC_rep hk (hle 0 c c' rfl rfl) (hn c' (by simp)) r1, RepFL.le hk (by simpa using hl) (fun i => hle (i + 1)) (fun c hc => hn c (by simp [hc])) rs⟩

/-- Every object that is named is there. -/
def namesOk (E : Env) (lo : List AObj) : Prop := (∀ t v, (t, v) ∈ E → ∀ k ∈ v.names, k < lo.length) ∧ ∀ t cells, AObj.box t cells ∈ lo → ∀ c ∈ cells, ∀ k ∈ c.names, k < lo.length

theorem Sat.weak {bs : Base} {N : Nat} {ρ : List Value} {H : PH} {E E' : Env} {lo lo' : List AObj} {a : Act} {w : World} {π : Nat → Nat} {fresh : List Nat} (s : Sat bs N ρ H (lookD E) lo a w)
    (h : Weak bs.r0.length E lo E' lo' π fresh) (hn : namesOk E' lo') : Sat bs N (renρ ρ π fresh lo'.length) H (lookD E') lo' a w := by
  have get : ∀ {k : Nat} {v : Value}, (renρ ρ π fresh lo'.length)[k]? = some v → k < lo'.length ∧ ((k ∈ fresh ∧ v = .slice none 0 0) ∨ (k ∉ fresh ∧ ρ[π k]? = some v)) := by
    intro k v hv
    have hk : k < lo'.length := by have := (List.getElem?_eq_some_iff.1 hv).1; simpa [renρ] using this
    rw [renρ_get hk] at hv
    refine ⟨hk, ?_⟩
    by_cases hf : k ∈ fresh
    · simp [hf] at hv; exact .inl ⟨hf, hv.symm⟩
    · simp only [hf, if_false] at hv
      refine .inr ⟨hf, ?_⟩
      have := h.bounds k hk hf
      rw [← s.hlen] at this
      rw [List.getD_eq_getElem?_getD, List.getElem?_eq_getElem this] at hv
      rw [List.getElem?_eq_getElem this]
      simpa using hv
  refine { sath := s.sath, hlen := by simp [renρ], pre := ?_, objs := ?_, excl := ?_, own := ?_, keep := s.keep, leH := s.leH, newH := s.newH, slots := ?_, width := s.width, defers := s.defers }
  · obtain ⟨l, hl⟩ := s.pre
    have hlen : bs.r0.length ≤ lo'.length := h.nb
    have : (renρ ρ π fresh lo'.length).take bs.r0.length = bs.r0 := by
      refine List.ext_getElem? fun i => ?_
      rw [List.getElem?_take]
      split
      · rename_i hi
        rw [renρ_get (by omega)]
        obtain ⟨e1, e2⟩ := h.keep i hi
        simp only [e2, if_false, e1]
        rw [List.getD_eq_getElem?_getD, ← hl, List.getElem?_append_left hi, List.getElem?_eq_getElem hi]
        rfl
      · rename_i hi
        rw [List.getElem?_eq_none (by omega)]
    rw [← this]
    exact List.take_prefix _ _
  · intro k o v hk hv
    obtain ⟨hlt, hc⟩ := get hv
    rcases hc with ⟨hf, rfl⟩ | ⟨hf, hρ⟩
    · obtain ⟨e, z, he⟩ := h.frsh k hf
      rw [hk] at he
      rcases he with he | he
      · cases he
        exact ⟨[], World.ownsRow_nil w 0 e z, fun b hb => by simp [blkOf] at hb⟩
      · cases he
        exact ⟨[], World.ownsRow_nil w 0 e z, rfl, fun u hu => (by cases hu), fun b hb => by simp [blkOf] at hb⟩
    · obtain ⟨o0, ho0, hle⟩ := h.obj k o hk hf
      have hob := s.objs _ _ _ ho0 hρ
      cases o with
      | dead => trivial
      | box t' cells' =>
        cases o0 <;> simp only [leObj] at hle
        rename_i t cells
        obtain ⟨rfl, hl, hcs⟩ := hle
        obtain ⟨b, vs, rfl, hg, rc, hH⟩ := hob
        exact ⟨b, vs, rfl, hg, rc.le hv hl hcs (fun c hc k hk' => hn.2 _ _ (List.mem_of_getElem? hk) c hc k hk'), hH⟩
      | tail e z n =>
        simp only [leObj] at hle
        subst hle
        exact hob
      | vec e z rows =>
        simp only [leObj] at hle
        subst hle
        exact hob
      | mp es =>
        simp only [leObj] at hle
        subst hle
        exact hob
  · intro i j oi oj vi vj b hi hj hvi hvj hne hli hlj hb hb'
    obtain ⟨h1, c1⟩ := get hvi
    obtain ⟨h2, c2⟩ := get hvj
    rcases c1 with ⟨_, rfl⟩ | ⟨f1, r1⟩
    · simp [blkOf] at hb
    · rcases c2 with ⟨_, rfl⟩ | ⟨f2, r2⟩
      · simp [blkOf] at hb'
      · obtain ⟨o1, ho1, l1⟩ := h.obj i oi hi f1
        obtain ⟨o2, ho2, l2⟩ := h.obj j oj hj f2
        have live : ∀ {k : Nat} {o o' : AObj}, leObj π fresh k o o' → o'.live = true → o.live = true := by
          intro k o o' hle hl
          cases o' with
          | dead => simp [AObj.live] at hl
          | box t c => cases o <;> simp only [leObj] at hle; rfl
          | tail e z n => simp only [leObj] at hle; subst hle; rfl
          | vec e z n => simp only [leObj] at hle; subst hle; rfl
          | mp es => simp only [leObj] at hle; subst hle; rfl
        exact s.excl (π i) (π j) o1 o2 vi vj b ho1 ho2 r1 r2 (fun e => hne (h.inj i j h1 h2 f1 f2 e)) (live l1 hli) (live l2 hlj) hb hb'
  · intro k o v b hk hv hl hb
    obtain ⟨h1, c1⟩ := get hv
    rcases c1 with ⟨_, rfl⟩ | ⟨f1, r1⟩
    · simp [blkOf] at hb
    · obtain ⟨o1, ho1, l1⟩ := h.obj k o hk f1
      refine s.own (π k) o1 v b ho1 r1 ?_ hb
      cases o with
      | dead => simp [AObj.live] at hl
      | box t c => cases o1 <;> simp only [leObj] at l1; rfl
      | tail e z n => simp only [leObj] at l1; subst l1; rfl
      | vec e z n => simp only [leObj] at l1; subst l1; rfl
      | mp es => simp only [leObj] at l1; subst l1; rfl
  · intro t
    rcases lookD_mem (E := E') (t := t) with he | he
    · rw [he]; trivial
    · exact leF_rep (h.slot t _ he) (hn.1 t _ he) (s.slots t)

end Ax
