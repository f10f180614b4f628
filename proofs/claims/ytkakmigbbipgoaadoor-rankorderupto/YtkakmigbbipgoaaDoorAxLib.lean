/- Functions of Go's library that have no body. -/
import Derived.Test.YtkakmigbbipgoaaDoorAxLoop
import Derived.Laws.Externs
import Derived.Lib.Builder
namespace Ax
open Go

/-- internal/abi.NoEscape: what is handed in. -/
theorem CallsI.noEscape {P : Program} {f : FuncId} {fn : Func} (hf : P.funcs[f]? = some fn) (hname : (fn.name == "runtime.NumGoroutine") = false) (hb : fn.body.isNone = true) (hn : Extern.findNext fn = none)
    (he : Extern.find fn = some Extern.AbiNoEscape.same) {v : FV} {lo : List AObj} {R : FV → List AObj → Prop} (h : R v lo) : CallsI P f [v] lo R := by
  intro bs ρ H w vs s rl
  simp only [RepFL] at rl
  obtain ⟨v', _, rfl, rv, rfl⟩ := rl
  rw [show ([v'] : List Value).toArray = #[v'] from rfl, run_callFunc_extern hf hname hb hn he]
  exact ⟨v, lo, ⟨ρ, H, List.prefix_refl _, PH.le.refl H, s, rv⟩, h⟩
end Ax
