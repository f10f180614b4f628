/- Texts' order. -/
import Derived.Test.YtkakmigbbipgoaaDoorAxSz
namespace Ax
open Go

theorem bl_total : ∀ a b : List UInt8, (Op.bytesLess a b || a == b) = !Op.bytesLess b a
  | [], [] => rfl
  | [], _ :: _ => rfl
  | _ :: _, [] => rfl
  | x :: xs, y :: ys => by
    have ih := bl_total xs ys
    simp only [Op.bytesLess]
    rcases Nat.lt_trichotomy x.toNat y.toNat with h | h | h
    · have h1 : x < y := UInt8.lt_iff_toNat_lt.2 h
      have h2 : ¬ y < x := fun h' => by have := UInt8.lt_iff_toNat_lt.1 h'; omega
      have h3 : ¬ y = x := fun h' => by subst h'; omega
      simp [h1, h2, h3]
    · have h1 : x = y := UInt8.toNat.inj h
      subst h1
      have h2 : ¬ x < x := fun h' => by have := UInt8.lt_iff_toNat_lt.1 h'; omega
      simp only [h2, List.cons_beq_cons]
      simpa using ih
    · have h1 : ¬ x < y := fun h' => by have := UInt8.lt_iff_toNat_lt.1 h'; omega
      have h2 : y < x := UInt8.lt_iff_toNat_lt.2 h
      have h3 : ¬ x = y := fun h' => by subst h'; omega
      simp [h1, h2, h3]
end Ax
