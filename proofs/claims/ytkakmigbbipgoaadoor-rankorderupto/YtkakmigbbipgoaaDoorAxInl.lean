/- A call that is gone into: the callee's code over the caller's objects. -/
import Derived.Test.YtkakmigbbipgoaaDoorAxFn
namespace Ax
open Go

/-- Whose blocks a callee may write: those of the objects at hand. -/
def lent (ρ : List Value) (lo : List AObj) : Nat → Prop := fun b => ∃ (k : Nat) (o : AObj) (v : Value), lo[k]? = some o ∧ ρ[k]? = some v ∧ o.live = true ∧ blkOf v = some b

theorem SatW.lend {bs : Base} {ρ : List Value} {H : PH} {lo : List AObj} {w : World} (s : SatW bs ρ H lo w) : SatW { S := lent ρ lo, w0 := w, H0 := H, r0 := ρ } ρ H lo w where
  sath := s.sath
  hlen := s.hlen
  pre := List.prefix_refl _
  objs := s.objs
  excl := s.excl
  own := fun k o v b hk hv hl hb => .inl ⟨k, o, v, hk, hv, hl, hb⟩
  keep := Keep.refl _ w
  leH := PH.le.refl H
  newH := fun b o v h => .inl ⟨v, h⟩

theorem SatW.back {bs : Base} {ρ ρ' : List Value} {H H' : PH} {lo lo' : List AObj} {w w' : World} (s : SatW bs ρ H lo w) (s' : SatW { S := lent ρ lo, w0 := w, H0 := H, r0 := ρ } ρ' H' lo' w') : SatW bs ρ' H' lo' w' := by
  have hS : ∀ b, lent ρ lo b → bs.S b ∨ bs.w0.heap.size ≤ b := fun b ⟨k, o, v, hk, hv, hl, hb⟩ => s.own k o v b hk hv hl hb
  refine { sath := s'.sath, hlen := s'.hlen, pre := s.pre.trans s'.pre, objs := s'.objs, excl := s'.excl, own := fun k o v b hk hv hl hb => ?_, keep := s.keep.step s'.keep hS, leH := s.leH.trans s'.leH, newH := fun b o v hv => ?_ }
  · rcases s'.own k o v b hk hv hl hb with h | h
    · exact hS b h
    · exact .inr (Nat.le_trans s.keep.size h)
  · rcases s'.newH b o v hv with ⟨u, hu⟩ | h | h
    · exact s.newH b o u hu
    · exact .inr (hS b h)
    · exact .inr (.inr (Nat.le_trans s.keep.size h))

def initF : Nat → List FV → Env
  | _, [] => []
  | n, v :: vs => (n, v) :: initF (n + 1) vs

theorem initF_spec : ∀ (n : Nat) (args : List FV) (t : Nat), lookD (initF n args) t = (if n ≤ t then args[t - n]? else none).getD .top
  | n, [], t => by simp [initF, lookD]
  | n, v :: vs, t => by
    simp only [initF, lookD]
    cases hb : Nat.beq t n with
    | true =>
      have := Nat.eq_of_beq_eq_true hb
      subst this
      simp
    | false =>
      have hne : t ≠ n := fun e => by subst e; simp [Nat.beq_refl] at hb
      simp only
      rw [initF_spec (n + 1) vs t]
      by_cases h : n ≤ t
      · have h1 : n + 1 ≤ t := by omega
        have h2 : t - n = (t - (n + 1)) + 1 := by omega
        simp [h, h1, h2]
      · have h1 : ¬ n + 1 ≤ t := by omega
        simp [h, h1]

theorem RepFL.get {ρ : List Value} {H : PH} : ∀ {cs : List FV} {vs : List Value} {i : Nat} {c : FV}, RepFL ρ H cs vs → cs[i]? = some c → ∃ v, vs[i]? = some v ∧ RepF ρ H c v
  | [], _, _, _, _, h => by simp at h
  | c :: cs, vs, i, c', x, h => by
    obtain ⟨v, vs', rfl, r, rs⟩ := x
    cases i with
    | zero => simp at h; subst h; exact ⟨v, by simp, r⟩
    | succ i => simp at h; obtain ⟨u, hu, ru⟩ := rs.get h; exact ⟨u, by simpa using hu, ru⟩

def retI (P : Program) (fn : Func) (R : FV → List AObj → Prop) : KA := fun x E lo => match x with
  | .exit _ => False
  | _ => match fn.results.toList with
    | [r] => resK P E lo r fun v => R v lo
    | rs => resL P E lo rs fun vs => R (.p (.tup vs)) lo

def vcI (P : Program) (inl : List Nat) (fn : Func) (args : List FV) (lo : List AObj) (R : FV → List AObj → Prop) : Prop :=
  match fn.body with
  | some c => lenK lo 0 fun nb => vc P inl fn.ntmps nb c (retI P fn R) (initF 0 args) lo
  | none => False

theorem resK_spec {P : Program} {E : Env} {lo : List AObj} {r : ResultVar} {R : FV → Prop} (h : resK P E lo r R) : ∃ f, R f ∧ ∀ (bs : Base) (N : Nat) (ρ : List Value) (H : PH) (a : Act) (w : World), Sat bs N ρ H (lookD E) lo a w →
    ∃ v, (resOne a.tmps r).run P w = .ok v w ∧ RepF ρ H f v := by
  cases r with
  | tmp t =>
    simp only [resK, look_eq] at h
    exact ⟨_, h, fun bs N ρ H a w s => ⟨a.tmps.getD t undef, rfl, s.slots t⟩⟩
  | cell q t =>
    simp only [resK, look_eq] at h
    obtain ⟨fv, h, hl⟩ := kLoad_spec h
    refine ⟨fv, h, fun bs N ρ H a w s => ?_⟩
    obtain ⟨ad, u, e, hr, ru⟩ := hl bs ρ H w _ s.toSatW (s.slots q)
    refine ⟨u, ?_, ru⟩
    simp only [Instr.loadAt, e, Instr.sureAddr, Sem.run_bind, Sem.run_pure, Result.andThen_ok] at hr
    simp only [resOne, e, asAddr, Sem.run_bind, Sem.run_pure, Result.andThen_ok, hr]

theorem retI_spec {P : Program} {fn : Func} {E : Env} {lo : List AObj} {x : AX} {R : FV → List AObj → Prop} (h : retI P fn R x E lo) : ∃ p, R p lo ∧ (x = .normal ∨ x = .ret) ∧
    ∀ (bs : Base) (N : Nat) (ρ : List Value) (H : PH) (a : Act) (w : World), Sat bs N ρ H (lookD E) lo a w → ∃ v, (results fn a.tmps).run P w = .ok v w ∧ RepF ρ H p v := by
  have key : ∀ {x : AX}, (x = .normal ∨ x = .ret) → (match fn.results.toList with
    | [r] => resK P E lo r fun v => R v lo
    | rs => resL P E lo rs fun vs => R (.p (.tup vs)) lo) → ∃ p, R p lo ∧ (x = .normal ∨ x = .ret) ∧
    ∀ (bs : Base) (N : Nat) (ρ : List Value) (H : PH) (a : Act) (w : World), Sat bs N ρ H (lookD E) lo a w → ∃ v, (results fn a.tmps).run P w = .ok v w ∧ RepF ρ H p v := by
    intro x hx h
    split at h
    · rename_i r hr
      obtain ⟨f, h, hs⟩ := resK_spec h
      refine ⟨f, h, hx, fun bs N ρ H a w s => ?_⟩
      obtain ⟨v, hv, rv⟩ := hs bs N ρ H a w s
      refine ⟨v, ?_, rv⟩
      rw [results_eq, Array.mapM_eq_mapM_toList, hr]
      simp only [List.mapM_cons, List.mapM_nil, Sem.run_bind, Sem.run_map, hv, Result.andThen_ok, Sem.run_pure]
      rfl
    · rename_i hne
      obtain ⟨ps, h, hpl, hs⟩ := resL_spec h
      refine ⟨_, h, hx, fun bs N ρ H a w s => ?_⟩
      obtain ⟨vs, hr, rl⟩ := hs bs N ρ H a w s
      refine ⟨.tuple vs.toArray, ?_, by simp only [RepF, RepP]; exact ⟨vs, rfl, rl⟩⟩
      rw [results_eq, Array.mapM_eq_mapM_toList]
      simp only [Sem.run_bind, Sem.run_map, hr, Result.andThen_ok, Sem.run_pure]
      have : ¬ vs.toArray.size = 1 := by
        intro h1
        simp at h1
        have hl : vs.length = fn.results.toList.length := by rw [rl.length, hpl]
        rw [h1] at hl
        generalize fn.results.toList = l at *
        cases l with
        | nil => simp at hl
        | cons a l => cases l with
          | nil => exact hne a rfl
          | cons b l => simp at hl
      simp only [this, dif_neg, not_false_eq_true]
  cases x with
  | normal => exact key (.inl rfl) h
  | exit i => exact h.elim
  | ret => exact key (.inr rfl) h

theorem CallsI.of_vc {P : Program} {f : FuncId} {fn : Func} {args : List FV} {lo : List AObj} {R : FV → List AObj → Prop} {inl : List Nat} (hm : P.follows .mixedOrders = true) (he : Enters P f) (hf : P.funcs[f]? = some fn) (hok : fnOk inl fn args.length = true)
    (h : vcI P inl fn args lo R) : CallsI P f args lo R := by
  intro bs ρ H w vs s rl
  rw [he]
  refine ⟨rfl, ?_⟩
  simp only [fnOk, Bool.and_eq_true, decide_eq_true_eq] at hok
  obtain ⟨hd, hn⟩ := hok
  unfold vcI at h
  cases hb : fn.body with
  | none => simp [hb] at hd
  | some c =>
    simp only [hb] at h hd
    have h := lenK_spec h
    rw [Nat.zero_add] at h
    refine calls_of_wp hf hb ?_
    have hl := rl.length
    have sat : Sat { S := lent ρ lo, w0 := w, H0 := H, r0 := ρ } fn.ntmps ρ H (lookD (initF 0 args)) lo { tmps := vs.toArray ++ Array.replicate (fn.ntmps - vs.toArray.size) undef, defers := [] } w := by
      refine { s.lend with slots := fun t => ?_, width := by simp; omega, defers := rfl }
      rw [initF_spec]
      simp only [Nat.zero_le, if_true, Nat.sub_zero]
      cases ht : args[t]? with
      | none => trivial
      | some p =>
        obtain ⟨v, hv, rv⟩ := rl.get ht
        have hlt := (List.getElem?_eq_some_iff.1 hv).1
        have : (vs.toArray ++ Array.replicate (fn.ntmps - vs.toArray.size) undef).getD t undef = v := by
          rw [Array.getD_eq_getD_getElem?, Array.getElem?_append_left (by simpa using hlt)]
          simp [hv]
        rw [this]
        exact rv
    refine wp_mono (vc_sound hm c _ _ _ hd h _ ρ H _ w s.hlen sat) fun e a w' p => ?_
    obtain ⟨x, ρ', H', E', lo', hx, s', k⟩ := p
    obtain ⟨p, hR, hxx, hres⟩ := retI_spec k
    obtain ⟨v, hv, rv⟩ := hres _ _ ρ' H' a w' s'
    have fin : ∃ v, (results fn a.tmps).run P w' = .ok v w' ∧ (fun en w'' => ∃ v r lo', en = Ending.returned v ∧ After bs ρ H r lo' v w'' ∧ R r lo') (.returned v) w' :=
      ⟨v, hv, v, p, lo', rfl, ⟨ρ', H', s'.pre, s'.leH, s.back s'.toSatW, rv⟩, hR⟩
    rcases hxx with rfl | rfl <;> cases e <;> simp only [AXis] at hx
    · exact ⟨s'.defers, fin⟩
    · exact ⟨s'.defers, fin⟩

end Ax
