/- A part of the proof. -/
import Derived.Test.YtkakmigbbipgoaaDoorAxVal
import Derived.Test.YtkakmigbbipgoaaDoorProg
open Go Go.Proofs Ax
namespace Rk
theorem mixed : Tryd.prog.follows .mixedOrders = true := by kernel_rfl

def keyBad (l : List (List UInt8)) (i : Nat) : Bool :=
  bif bif l.getD i [] == [] then true else decide (((l.getD i []).length : Int) > 64) then true
  else bif decide ((i : Int) > 0) then !Op.bytesLess (l.getD (i - 1) []) (l.getD i []) else false
def keysB (l : List (List UInt8)) : Bool := (List.range l.length).all fun i => !keyBad l i

set_option maxRecDepth 10000 in
theorem keys_ok (l : List (List UInt8)) (hl : l.length ≤ 1099511627776) : CallsF Tryd.prog 45 [.sl (strs l)] (.bool (keysB l)) := by
  refine CallsF.of_vc mixed (fun _ _ => Tryd.call45 _ _) Tryd.func45 (by kernel_rfl) (inl := []) ?_
  conv => whnf
  refine LoopA.of [] (fun i : Nat => [(0, .p (.sl (strs l))), (5, .p (.sl (strs l))), (6, .p (.int .i64 (strs l).length)), (7, .p (.int .i64 i))]) (fun _ => [])
    (fun i => i ≤ l.length ∧ ∀ j, j < i → keyBad l j = false) (fun i => l.length - i) 0 ⟨Nat.zero_le _, fun j h => by omega⟩
    ⟨[], [], ⟨rfl, rfl, rfl, rfl⟩, ⟨.inl rfl, .inl rfl, .inl rfl, .inl rfl, trivial⟩, trivial⟩ ?_
  intro i ⟨hi, he⟩
  conv => whnf
  refine ⟨fun hlt => ?_, fun hge => ?_⟩
  · have hlt : i < l.length := by simpa using hlt
    conv => whnf
    refine ⟨_, ⟨by omega, strs_getD (by simpa using hlt), rfl⟩, ?_⟩
    repeat (refine And.intro (fun h => h) ?_)
    conv => whnf
    refine ⟨[.str (l.getD (i - 1) [])], fun hg => ?_, ?_⟩
    · simp only [Bool.and_eq_true, decide_eq_true_eq] at hg
      have h0 : 0 < i := by omega
      rw [wrap_predN i (by omega), toNat_pred i h0]
      exact ⟨by omega, strs_getD (by omega), rfl⟩
    repeat (refine And.intro (fun h => h) ?_)
    conv => whnf
    refine ⟨fun ht => ?_, fun hf => ?_⟩
    · conv => whnf
      exact congrArg PV.bool (all_range_false hlt ht).symm
    · conv => whnf
      refine ⟨i + 1, ⟨by omega, lt_succ_none he hf⟩, by omega, [], [], ⟨rfl, rfl, rfl, rfl⟩, ⟨.inl rfl, .inl rfl, .inl rfl, .inl ?_, trivial⟩, trivial⟩
      rw [wrap_nat i (by omega)]
  · have hge : i = l.length := by simp at hge; omega
    conv => whnf
    subst hge
    exact congrArg PV.bool (all_range_true he).symm
end Rk
