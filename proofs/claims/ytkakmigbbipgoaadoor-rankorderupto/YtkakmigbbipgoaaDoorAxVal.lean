/- Values of the graph, as pure data; small helps for the proofs over the abstract execution. -/
import Derived.Test.YtkakmigbbipgoaaDoorAxInl
namespace Ax
open Go

/-- api.Value -/
inductive Val where
  | mk (kind : Int) (b : Bool) (i : Int) (s : List UInt8) (l : List Val) (k : List (List UInt8))

def strs (l : List (List UInt8)) : List (List PV) := l.map fun s => [.str s]

mutual
def Val.cells : Val → List PV
  | .mk k b i s l ks => [.int .i64 k, .bool b, .int .i64 i, .str s, .sl (Val.rows l), .sl (strs ks)]
def Val.rows : List Val → List (List PV)
  | [] => []
  | v :: l => v.cells :: Val.rows l
end

abbrev Val.pv (v : Val) : PV := .agg v.cells
def vals (l : List Val) : List (List PV) := l.map Val.cells

theorem rows_eq : ∀ l : List Val, Val.rows l = vals l
  | [] => rfl
  | v :: l => by simp only [Val.rows, vals, List.map_cons]; rw [rows_eq l]; rfl

@[simp] theorem strs_length (l : List (List UInt8)) : (strs l).length = l.length := by simp [strs]
@[simp] theorem vals_length (l : List Val) : (vals l).length = l.length := by simp [vals]
theorem cells_length (v : Val) : v.cells.length = 6 := by cases v; rfl
theorem strs_get {l : List (List UInt8)} {i : Nat} {s : List UInt8} (h : l[i]? = some s) : (strs l)[i]? = some [.str s] := by simp [strs, h]
theorem vals_get {l : List Val} {i : Nat} {v : Val} (h : l[i]? = some v) : (vals l)[i]? = some v.cells := by simp [vals, h]
theorem strs_wide (l : List (List UInt8)) : ∀ r ∈ strs l, r.length = 1 := by
  intro r hr
  simp only [strs, List.mem_map] at hr
  obtain ⟨s, _, rfl⟩ := hr
  rfl
theorem vals_wide (l : List Val) : ∀ r ∈ vals l, r.length = 6 := by
  intro r hr
  simp only [vals, List.mem_map] at hr
  obtain ⟨v, _, rfl⟩ := hr
  exact cells_length v

theorem wrap_ok (n : Int) (h0 : -9223372036854775808 ≤ n) (h1 : n ≤ 9223372036854775807) : IntKind.i64.wrap n = n := IntWalk.i64_in n ⟨h0, h1⟩

theorem strs_getD {l : List (List UInt8)} {i : Nat} (h : i < l.length) : (strs l)[i]? = some [.str (l.getD i [])] :=
  strs_get (by rw [List.getD_eq_getElem?_getD, List.getElem?_eq_getElem h]; rfl)

instance : Inhabited Val := ⟨.mk 0 false 0 [] [] []⟩
theorem vals_getD {l : List Val} {i : Nat} (h : i < l.length) : (vals l)[i]? = some (l.getD i default).cells :=
  vals_get (by rw [List.getD_eq_getElem?_getD, List.getElem?_eq_getElem h]; rfl)

/-- None of the first i, and not i: none of the first i + 1. -/
theorem lt_succ_none {p : Nat → Prop} {i : Nat} (h : ∀ j, j < i → p j) (hi : p i) : ∀ j, j < i + 1 → p j := fun j hj => by
  rcases Nat.lt_or_ge j i with h1 | h1
  · exact h j h1
  · have : j = i := by omega
    exact this ▸ hi

theorem all_range_false {n : Nat} {f : Nat → Bool} {i : Nat} (hi : i < n) (h : f i = true) : (List.range n).all (fun i => !f i) = false := by
  rw [List.all_eq_false]
  exact ⟨i, List.mem_range.2 hi, by simp [h]⟩
theorem all_range_true {n : Nat} {f : Nat → Bool} (h : ∀ i, i < n → f i = false) : (List.range n).all (fun i => !f i) = true := by
  rw [List.all_eq_true]
  intro i hi
  simp [h i (List.mem_range.1 hi)]

theorem toNat_pred (i : Nat) (h : 0 < i) : ((i : Int) - 1).toNat = i - 1 := by omega
theorem wrap_nat (i : Nat) (h : i < 1152921504606846976) : IntKind.i64.wrap (↑i + 1) = ((i + 1 : Nat) : Int) := by rw [wrap_ok _ (by omega) (by omega)]; omega
theorem wrap_predN (i : Nat) (h : i < 1152921504606846976) : IntKind.i64.wrap (↑i - 1) = (i : Int) - 1 := wrap_ok _ (by omega) (by omega)

end Ax
