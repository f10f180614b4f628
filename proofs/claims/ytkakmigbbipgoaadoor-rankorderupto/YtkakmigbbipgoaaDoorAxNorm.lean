/- A nil slice is a slice of no rows. -/
import Derived.Test.YtkakmigbbipgoaaDoorAxBuilder
namespace Ax
open Go

mutual
def PV.norm : PV → PV
  | .nilsl => .sl []
  | .agg cs => .agg (normL cs)
  | .tup cs => .tup (normL cs)
  | .sl rows => .sl (normR rows)
  | v => v
def normL : List PV → List PV
  | [] => []
  | c :: cs => c.norm :: normL cs
def normR : List (List PV) → List (List PV)
  | [] => []
  | r :: rs => normL r :: normR rs
end

theorem normR_length : ∀ rows : List (List PV), (normR rows).length = rows.length
  | [] => rfl
  | _ :: l => by simp [normR, normR_length l]
theorem normL_length : ∀ cs : List PV, (normL cs).length = cs.length
  | [] => rfl
  | _ :: l => by simp [normL, normL_length l]

mutual
theorem RepP.norm {H : PH} : ∀ {c : PV} {v : Value}, RepP H c v → RepP H c.norm v
  | .nilsl, v, h => by simp only [PV.norm, RepP] at *; exact .inl ⟨trivial, .inl h⟩
  | .agg cs, v, h => by
    simp only [PV.norm, RepP] at *
    obtain ⟨vs, e, r⟩ := h
    exact ⟨vs, e, RepL.norm r⟩
  | .tup cs, v, h => by
    simp only [PV.norm, RepP] at *
    obtain ⟨vs, e, r⟩ := h
    exact ⟨vs, e, RepL.norm r⟩
  | .sl rows, v, h => by
    simp only [PV.norm, RepP] at *
    rcases h with ⟨rfl, h⟩ | ⟨b, o, z, cap, e, hc, r⟩
    · exact .inl ⟨rfl, h⟩
    · exact .inr ⟨b, o, z, cap, by rw [normR_length]; exact e, by rw [normR_length]; exact hc, RepR.norm r⟩
  | .bool _, _, h | .int .., _, h | .str _, _, h | .nilp, _, h | .fn _, _, h | .nilfn, _, h | .nili, _, h | .nilmap, _, h | .ifc .., _, h => by
    simpa only [PV.norm] using h
theorem RepL.norm {H : PH} : ∀ {cs : List PV} {vs : List Value}, RepL H cs vs → RepL H (normL cs) vs
  | [], _, h => by simpa only [normL] using h
  | c :: cs, vs, h => by
    simp only [normL, RepL] at *
    obtain ⟨v, vs', e, r, rs⟩ := h
    exact ⟨v, vs', e, RepP.norm r, RepL.norm rs⟩
theorem RepR.norm {H : PH} {b z : Nat} : ∀ {rows : List (List PV)} {o : Nat}, RepR H b z o rows → RepR H b z o (normR rows)
  | [], _, h => by simpa only [normR] using h
  | r :: rs, o, h => by
    simp only [normR, RepR] at *
    obtain ⟨e, ⟨vs, q, c⟩, rr⟩ := h
    exact ⟨by rw [normL_length]; exact e, ⟨vs, RepL.norm q, c⟩, RepR.norm rr⟩
end

theorem CallsF.norm {P : Program} {f : FuncId} {args : List PV} {r r' : PV} (h : CallsF P f args r) (e : r.norm = r') : CallsF P f args r' := by
  subst e
  intro H w vs hs rl
  have := h H w vs hs rl
  generalize (callFunc f vs.toArray).run P w = x at *
  cases x with
  | ok n w' =>
    cases n <;> simp only [CallUpon] at this ⊢ <;> try exact this
    · obtain ⟨H', c, r⟩ := this; exact ⟨H', c, RepP.norm r⟩
    · exact ⟨this.1, this.2.mono fun en w'' ⟨v, H', e, c, r⟩ => ⟨v, H', e, c, RepP.norm r⟩⟩
  | halt x w' => exact this
theorem CallsF.args {P : Program} {f : FuncId} {args args' : List PV} {r : PV} (h : CallsF P f args' r) (e : normL args = args') : CallsF P f args r := by
  subst e
  exact fun H w vs hs rl => h H w vs hs (RepL.norm rl)
end Ax
