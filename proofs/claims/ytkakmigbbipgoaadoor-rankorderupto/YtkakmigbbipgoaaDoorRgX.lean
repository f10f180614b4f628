/- Contracts that were shown by hand, in the form that the printed ones have. -/
import Derived.Test.YtkakmigbbipgoaaDoorAxFun
import Derived.Test.YtkakmigbbipgoaaDoorRkC
import Derived.Test.YtkakmigbbipgoaaDoorRkI
open Go Go.Proofs Ax Go.RowKit
namespace Rk
def F52 (n : Nat) (s : List UInt8) (c : Int) : Option Int := bnd (u8I c) fun b => some (Lib.indexByte s b)
theorem F52_ok (n : Nat) : ∀ (s : List UInt8) (c : Int) (r : Int), F52 n s c = some r → CallsF Tryd.prog 52 [.str s, .int .u8 c] (.int .i64 r) := by
  intro s c r h
  obtain ⟨b, hb, h⟩ := bnd_some h
  obtain rfl := Option.some.inj h
  rw [u8I_some hb]
  exact IndexByte_ok s b
def layF (v : Val) : Option (List UInt8) := bif (decide (v.big ≤ 4294967280) && keyed v) then some (layM v) else none
theorem layF_some {v : Val} {r : List UInt8} (h : layF v = some r) : v.big ≤ 4294967280 ∧ keyed v = true ∧ r = layM v := by
  unfold layF at h
  cases hc : (decide (v.big ≤ 4294967280) && keyed v) with
  | false => rw [hc] at h; cases h
  | true =>
    rw [hc] at h
    simp only [Bool.and_eq_true, decide_eq_true_eq] at hc
    exact ⟨hc.1, hc.2, (Option.some.inj h).symm⟩
def F16 (_ : Nat) (v : Val) : Option (List UInt8) := layF v
theorem F16_ok (n : Nat) : ∀ (v : Val) (r : List UInt8), F16 n v = some r → CallsF Tryd.prog 16 [PV.agg (valC.cells v)] (.str r) := by
  intro v r h
  obtain ⟨h1, h2, rfl⟩ := layF_some h
  exact lay_ok _ v (Nat.le_refl _) h1 h2
def F18 (_ : Nat) (v : Val) : Option (List UInt8) := layF v
theorem F18_ok (n : Nat) : ∀ (v : Val) (r : List UInt8), F18 n v = some r → CallsF Tryd.prog 18 [PV.agg (valC.cells v)] (.str r) := by
  intro v r h
  obtain ⟨h1, h2, rfl⟩ := layF_some h
  exact Text_ok _ v (Nat.le_refl _) h1 h2
/-- May a value be? -/
def mayV (v : Val) : Bool := (lookM v 32 0).2
def F15 (_ : Nat) (v : Val) : Option Int := bif decide (v.big ≤ 1099511627776) then some (bif mayV v then 0 else 20) else none
theorem F15_ok (n : Nat) : ∀ (v : Val) (r : Int), F15 n v = some r → CallsF Tryd.prog 15 [PV.agg (valC.cells v)] (.int .i64 r) := by
  intro v r h
  unfold F15 at h
  cases hc : decide (v.big ≤ 1099511627776) with
  | false => rw [hc] at h; cases h
  | true =>
    rw [hc] at h
    obtain rfl := Option.some.inj h
    exact Check_ok v (of_decide_eq_true hc)
def F17 (_ : Nat) (v : Val) : Option Bool := bif decide (v.big ≤ 1099511627776) then some (mayV v) else none
theorem F17_ok (n : Nat) : ∀ (v : Val) (r : Bool), F17 n v = some r → CallsF Tryd.prog 17 [PV.agg (valC.cells v)] (.bool r) := by
  intro v r h
  unfold F17 at h
  cases hc : decide (v.big ≤ 1099511627776) with
  | false => rw [hc] at h; cases h
  | true =>
    rw [hc] at h
    obtain rfl := Option.some.inj h
    exact May_ok v (of_decide_eq_true hc)
theorem string_exact50 (b : Nat) (l : List UInt8) (w : World) (p v : Value) (hbk : w.heap[b]? = some (.cells #[p, v] 76 (0, 0))) (hown : w.ownsRow 0 5 1 v l.length (Lib.byteCells l)) (h0 : l ≠ []) :
    Calls Tryd.prog 50 #[.pointer (some ⟨b, 0, none⟩)] w (StrPost l v w) := string_exact b l w p v hbk hown h0
theorem string_empty50 : StringEmpty Tryd.prog 50 76 5 := fun b w p v hbk hown => Any.String_empty Tryd.lays169 Tryd.Builder_Extra_169 b w p v hbk hown
end Rk
