/- A loop of a few rounds. -/
import Derived.Test.YtkakmigbbipgoaaDoorAxBytes
namespace Ax
open Go

def roundsA (P : Program) (inl : List Nat) (N nb : Nat) (body : Code) (K : KA) : Nat → Env → List AObj → Prop
  | 0, _, _ => False
  | n + 1, E, lo => vc P inl N nb body (fun x E' lo' => match x with
      | .normal => roundsA P inl N nb body K n E' lo'
      | .exit i => K (.exit i) E' lo'
      | .ret => K .ret E' lo') E lo

theorem LoopA.rounds {P : Program} (inl : List Nat) {N nb : Nat} {body : Code} {K : KA} {E : Env} {lo : List AObj} (n : Nat)
    (h : roundsA P inl N nb body K n E lo) : LoopA P inl N nb body K E lo := by
  intro hm hd bs ρ H a w hb sat
  subst hb
  refine wp_loop_ghost (I := fun n a w => ∃ ρ H E lo, roundsA P inl N bs.r0.length body K n E lo ∧ Sat bs N ρ H (lookD E) lo a w) n ⟨ρ, H, E, lo, h, sat⟩ fun n a w ⟨ρ, H, E, lo, hr, sat⟩ => ?_
  cases n with
  | zero => exact hr.elim
  | succ n =>
    refine wp_mono (vc_sound hm body _ _ _ hd hr bs ρ H a w rfl sat) fun e a w p => ?_
    obtain ⟨x, ρ2, H2, E2, lo2, hx, sat2, k⟩ := p
    cases x <;> cases e <;> simp only [AXis] at hx
    · exact ⟨n, Nat.lt_succ_self _, ρ2, H2, E2, lo2, k, sat2⟩
    · exact ⟨.exit _, ρ2, H2, E2, lo2, hx, sat2, k⟩
    · exact ⟨.ret, ρ2, H2, E2, lo2, trivial, sat2, k⟩
end Ax
