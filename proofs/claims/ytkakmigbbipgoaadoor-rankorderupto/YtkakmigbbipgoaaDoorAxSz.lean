/- How big values are. -/
import Derived.Test.YtkakmigbbipgoaaDoorAxVal
namespace Ax
open Go

def kbig : List (List UInt8) → Nat
  | [] => 0
  | k :: l => k.length + 1 + kbig l
mutual
def Val.big : Val → Nat
  | .mk _ _ _ s l ks => 1 + s.length + bigs l + kbig ks
def bigs : List Val → Nat
  | [] => 0
  | v :: l => Val.big v + bigs l
end

theorem Val.big_pos (v : Val) : 1 ≤ v.big := by cases v; simp only [Val.big]; omega
theorem bigs_len (l : List Val) : l.length ≤ bigs l := by
  induction l with
  | nil => exact Nat.le_refl _
  | cons v l ih => simp only [bigs, List.length_cons]; have := v.big_pos; omega
theorem kbig_len (l : List (List UInt8)) : l.length ≤ kbig l := by
  induction l with
  | nil => exact Nat.le_refl _
  | cons v l ih => simp only [kbig, List.length_cons]; omega
theorem bigs_get {l : List Val} {i : Nat} (h : i < l.length) : (l.getD i default).big ≤ bigs l := by
  induction l generalizing i with
  | nil => cases h
  | cons v l ih =>
    cases i with
    | zero => simp only [List.getD_cons_zero, bigs]; omega
    | succ i => simp only [List.getD_cons_succ, bigs]; have := ih (Nat.lt_of_succ_lt_succ h); omega
theorem bigs_drop (l : List Val) (i : Nat) (h : i < l.length) : bigs (l.drop i) = (l.getD i default).big + bigs (l.drop (i + 1)) := by
  induction l generalizing i with
  | nil => cases h
  | cons v l ih =>
    cases i with
    | zero => simp [bigs]
    | succ i => simp only [List.drop_succ_cons, List.getD_cons_succ]; exact ih i (Nat.lt_of_succ_lt_succ h)
theorem kbig_get {l : List (List UInt8)} {i : Nat} (h : i < l.length) : (l.getD i []).length + 1 ≤ kbig l := by
  induction l generalizing i with
  | nil => cases h
  | cons v l ih =>
    cases i with
    | zero => simp only [List.getD_cons_zero, kbig]; omega
    | succ i => simp only [List.getD_cons_succ, kbig]; have := ih (Nat.lt_of_succ_lt_succ h); omega
theorem vals_at {l : List Val} {i : Nat} {v : Val} (h : i < l.length) (e : l.getD i default = v) : (vals l)[i]? = some v.cells := e ▸ vals_getD h
theorem drop_getD {α : Type} {l : List α} {i : Nat} (d : α) (h : i < l.length) : l.drop i = l.getD i d :: l.drop (i + 1) := by
  rw [List.drop_eq_getElem_cons h, List.getD_eq_getElem?_getD, List.getElem?_eq_getElem h]; rfl
end Ax
