/- A part of the proof. -/
import Derived.Test.YtajcpfcghhbbnaaDoorE
set_option linter.all false
section
open Go Ax Go.RowKit
namespace W
set_option maxRecDepth 10000

def intV : Val → Int
  | .mk _ _ i _ _ _ => i
def intOf (i : Int) : Val := .mk 2 false i [] [] []
theorem count_eq (n : Nat) (c : List Val) : F_rows_gather n [99, 111, 117, 110, 116] c = some (intOf ((c.length : Nat) : Int), 0) := by
  unfold F_rows_gather
  simp [intOf]

theorem add_eq (n : Nat) {a b : Int} (ha : int64 a = true) (hb : int64 b = true) : F_num_Add n a b = some (if int64 (a + b) = true then (a + b, 0) else (0, 4)) := by
  simp only [int64, decide_eq_true_eq] at ha hb ⊢
  have w : ∀ s : Int, IntKind.i64.wrap s = (if s % 18446744073709551616 < 9223372036854775808 then s % 18446744073709551616 else s % 18446744073709551616 - 18446744073709551616) := by
    intro s
    simp only [IntKind.wrap, IntKind.bits, IntKind.signed]
    simp
    split <;> split <;> omega
  unfold F_num_Add
  rw [w]
  generalize hs : a + b = s
  by_cases hin : -9223372036854775808 ≤ s ∧ s < 9223372036854775808
  · rw [if_pos hin]
    have e : (if s % 18446744073709551616 < 9223372036854775808 then s % 18446744073709551616 else s % 18446744073709551616 - 18446744073709551616) = s := by split <;> omega
    rw [e]
    have : (bif ((decide (a < (0 : Int))) == (decide (b < (0 : Int)))) then (!((decide (s < (0 : Int))) == (decide (a < (0 : Int))))) else false) = false := by
      by_cases h1 : a < 0 <;> by_cases h2 : b < 0 <;> simp [h1, h2] <;> omega
    rw [this]
    rfl
  · rw [if_neg hin]
    have : (bif ((decide (a < (0 : Int))) == (decide (b < (0 : Int)))) then (!((decide ((if s % 18446744073709551616 < 9223372036854775808 then s % 18446744073709551616 else s % 18446744073709551616 - 18446744073709551616) < (0 : Int))) == (decide (a < (0 : Int))))) else false) = true := by
      have hc : (a < 0 ∧ b < 0) ∨ (0 ≤ a ∧ 0 ≤ b) := by omega
      rcases hc with ⟨h1, h2⟩ | ⟨h1, h2⟩
      · have e : ¬ (if s % 18446744073709551616 < 9223372036854775808 then s % 18446744073709551616 else s % 18446744073709551616 - 18446744073709551616) < 0 := by split <;> omega
        simp [h1, h2, e]
      · have e : (if s % 18446744073709551616 < 9223372036854775808 then s % 18446744073709551616 else s % 18446744073709551616 - 18446744073709551616) < 0 := by split <;> omega
        have h1' : ¬ a < 0 := by omega
        have h2' : ¬ b < 0 := by omega
        simp [h1', h2', e]
    rw [this]
    rfl

/-- The sum of values, from a number on. -/
def sumS (acc : Int) : List Val → Val × Int
  | [] => (intOf acc, 0)
  | v :: l => if kindV v = 2 then (if int64 (acc + intV v) = true then sumS (acc + intV v) l else (nullV, 4)) else (nullV, 3)
def total : List Val → Int
  | [] => 0
  | v :: l => intV v + total l
theorem total_append (a b : List Val) : total (a ++ b) = total a + total b := by
  induction a with
  | nil => simp [total]
  | cons x a ih => simp only [List.cons_append, total, ih]; omega
theorem sumS_ok {l : List Val} : ∀ {acc : Int} {v : Val}, int64 acc = true → sumS acc l = (v, 0) → v = intOf (acc + total l) ∧ int64 (acc + total l) = true := by
  induction l with
  | nil => intro acc v ha h; simp only [sumS, Prod.mk.injEq, and_true] at h; simp [total, ← h, ha]
  | cons x l ih =>
    intro acc v ha h
    simp only [sumS] at h
    split at h
    · split at h
      · rename_i h1
        have := ih h1 h
        simp only [total]
        rw [show acc + (intV x + total l) = acc + intV x + total l by omega]
        exact this
      · simp at h
    · simp at h
theorem sumS_val {l : List Val} : ∀ {acc : Int}, ∃ i, (sumS acc l).1 = intOf i ∨ (sumS acc l).1 = nullV := by
  induction l with
  | nil => intro acc; exact ⟨acc, .inl rfl⟩
  | cons x l ih =>
    intro acc
    simp only [sumS]
    split
    · split
      · exact ih
      · exact ⟨0, .inr rfl⟩
    · exact ⟨0, .inr rfl⟩
theorem sum_eq {n : Nat} {c : List Val} (hr : ∀ v ∈ c, range64 v = true) (hc : c.length < n) (hn : n ≤ 1073741824) : F_rows_gather n [115, 117, 109] c = some (sumS 0 c) := by
  have loop : ∀ (m i : Nat) (acc : Int), i ≤ c.length → c.length - i < m → int64 acc = true → loopK (F_rows_sum_l1 n c) m (acc, (i : Int)) = some (sumS acc (c.drop i)) := by
    intro m
    induction m with
    | zero => intro i _ _ h; omega
    | succ m ih =>
      intro i acc hi hm ha
      rw [loopK_succ]
      generalize loopK (F_rows_sum_l1 n c) m = nx at ih ⊢
      unfold F_rows_sum_l1
      simp only [valRows_len]
      by_cases hlt : i < c.length
      · obtain ⟨x, hx⟩ : ∃ x, c[i]? = some x := ⟨_, List.getElem?_eq_getElem hlt⟩
        have hrx := hr x (List.mem_of_getElem? hx)
        have hd : c.drop i = x :: c.drop (i + 1) := by
          obtain ⟨_, e⟩ := List.getElem?_eq_some_iff.1 hx
          rw [List.drop_eq_getElem_cons hlt, e]
        rw [decide_eq_true (show (i : Int) < (c.length : Int) by omega), hd]
        obtain ⟨a1, a2, a3, a4, a5, a6⟩ := x
        have h3 : int64 a3 = true := by simp only [range64, Bool.and_eq_true] at hrx; exact hrx.1
        simp only [cond_true, Ax.idx_nat, hx, bnd_eq, sumS, kindV, intV]
        by_cases hk : a1 = 2
        · subst hk
          simp only [show ((2 : Int) != 2) = false from rfl, cond_false, add_eq n ha h3, bnd_eq, if_true]
          by_cases hin : int64 (acc + a3) = true
          · simp only [hin, if_true, show ((0 : Int) != 0) = false from rfl, cond_false]
            rw [wrapN (by omega)]
            exact ih (i + 1) _ (by omega) (by omega) hin
          · simp only [hin, if_false]
            first | done | rfl
        · have : (a1 != 2) = true := by simp [hk]
          simp only [this, cond_true, hk, if_false]
          first | done | rfl
      · rw [decide_eq_false (show ¬ (i : Int) < (c.length : Int) by omega), List.drop_eq_nil_of_le (by omega)]
        rfl
  have hs : F_rows_sum n c = some (sumS 0 c) := loop n 0 0 (Nat.zero_le _) (by omega) rfl
  unfold F_rows_gather
  rw [show (([115, 117, 109] : List UInt8) == [99, 111, 117, 110, 116]) = false from rfl, show (([115, 117, 109] : List UInt8) == [115, 117, 109]) = true from rfl]
  simp only [cond_false, cond_true, hs, bnd_eq]
  obtain ⟨⟨_, _, _, _, _, _⟩, _⟩ := sumS 0 c
  rfl
theorem count_ne : ([99, 111, 117, 110, 116] : List UInt8) ≠ [] := by simp
theorem sum_ne : ([115, 117, 109] : List UInt8) ≠ [] := by simp
theorem gcount {n : Nat} {l : List (List Val)} (hl : OkL n 1 l) : F_rows_Group n l [[99, 111, 117, 110, 116]] = some ([[intOf (((colS l).length : Nat) : Int)]], 0) := by
  have := group_eq hl count_ne (count_eq n (colS l)) (by have := hl.small; simp [intOf, vbig, vbigL]; omega)
  simpa using this
theorem col_range {n : Nat} {l : List (List Val)} (hl : OkL n 1 l) : ∀ v ∈ colS l, OkV n v := fun v hv => (hl.row _ (colS_mem hv).1).val v (by simp)
theorem gsum {n : Nat} {l : List (List Val)} (hl : OkL n 1 l) : F_rows_Group n l [[115, 117, 109]] = some (if (sumS 0 (colS l)).2 = 0 then ([[(sumS 0 (colS l)).1]], 0) else ([], (sumS 0 (colS l)).2)) := by
  have hs := hl.small
  have h1 := colS_len l
  refine group_eq hl sum_ne (sum_eq (fun v hv => (col_range hl v hv).range) (by omega) hl.lim) ?_
  obtain ⟨i, h | h⟩ := @sumS_val (colS l) 0 <;> rw [h] <;> simp [intOf, nullV, vbig, vbigL] <;> omega
end W
end
section
open Go Go.Proofs Ax Go.RowKit
namespace W
set_option maxRecDepth 10000
open Classical

theorem works_ok (m : Nat) : F_L17_works (m + 60) = some true := by kernel_rfl
theorem works_eq {n : Nat} (h : 60 ≤ n) : F_L17_works n = some true := by
  obtain ⟨m, rfl⟩ : ∃ m, n = m + 60 := ⟨n - 60, by omega⟩
  exact works_ok m

theorem uniqA_append (acc l m : List (List Val)) : uniqA acc (l ++ m) = uniqA (uniqA acc l) m := by
  induction l generalizing acc with
  | nil => rfl
  | cons a l ih =>
    simp only [List.cons_append, uniqA]
    split <;> exact ih _
theorem uniqA_filter (acc : List (List Val)) : ∀ (m b : List (List Val)), uniqA (acc ++ b.filter fun r => decide (r ∉ acc)) m = acc ++ (uniqA b m).filter fun r => decide (r ∉ acc) := by
  intro m
  induction m with
  | nil => intro b; rfl
  | cons a m ih =>
    intro b
    simp only [uniqA, List.mem_append, List.mem_filter]
    by_cases ha : a ∈ acc
    · rw [if_pos (.inl ha)]
      by_cases hb : a ∈ b
      · rw [if_pos hb]; exact ih b
      · rw [if_neg hb, ← ih (b ++ [a])]
        congr 2
        simp [ha]
    · by_cases hb : a ∈ b
      · rw [if_pos (.inr ⟨hb, by simpa using ha⟩), if_pos hb]; exact ih b
      · rw [if_neg (fun h => h.elim ha fun h => hb h.1), if_neg hb, ← ih (b ++ [a])]
        congr 1
        simp [ha]
theorem uniq_behind (l m : List (List Val)) : uniq (l ++ m) = uniq l ++ (uniq m).filter fun r => decide (r ∉ uniq l) := by
  have := uniqA_filter (uniq l) m []
  simpa [uniq, uniqA_append] using this
theorem uniqA_one {acc : List (List Val)} (h : ∀ r, cnt r acc ≤ 1) (l : List (List Val)) : ∀ r, cnt r (uniqA acc l) ≤ 1 := by
  induction l generalizing acc with
  | nil => exact h
  | cons a l ih =>
    simp only [uniqA]
    split
    · exact ih h
    · rename_i ha
      refine ih fun r => ?_
      rw [cnt_append]
      have h1 := h r
      by_cases e : a = r
      · subst e
        rw [cnt_zero.2 ha]
        simp [cnt]
      · simp [cnt, e]; exact h1
theorem uniq_one (l : List (List Val)) (r : List Val) : cnt r (uniq l) ≤ 1 := uniqA_one (fun r => by simp [cnt]) l r
theorem uniq_sub {l : List (List Val)} {r : List Val} (h : r ∈ uniq l) : r ∈ l := (uniqA_sub h).elim (fun h => by cases h) id
theorem uniq_len (l : List (List Val)) : (uniq l).length ≤ l.length := by
  have : ∀ (l acc : List (List Val)), (uniqA acc l).length ≤ acc.length + l.length := by
    intro l
    induction l with
    | nil => intro acc; exact Nat.le_refl _
    | cons a l ih =>
      intro acc
      simp only [uniqA]
      split
      · have := ih acc; simp only [List.length_cons]; omega
      · have := ih (acc ++ [a]); simp only [List.length_append, List.length_cons, List.length_nil] at this ⊢; omega
  simpa [uniq] using this l []
theorem cnt_filter_le (r : List Val) (p : List Val → Bool) (l : List (List Val)) : cnt r (l.filter p) ≤ cnt r l := by
  unfold cnt
  exact (List.Sublist.filter _ List.filter_sublist).length_le

theorem OkL.append {n c : Nat} {l m : List (List Val)} (hl : OkL n c l) (hm : OkL n c m) (hs : 60 * (rbig l + rbig m) + 1000 < n) : OkL n c (l ++ m) :=
  ⟨fun r hr => (List.mem_append.1 hr).elim (hl.row r) (hm.row r), by rw [rbig_append]; exact hs, hl.lim⟩

theorem wrapI {i : Int} (h : int64 i = true) : IntKind.i64.wrap i = i := by
  simp only [int64, decide_eq_true_eq] at h
  exact wrap_ok i (by omega) (by omega)

theorem parts_end {n : Nat} {l m : List (List Val)} (hl : OkL n 1 l) (hm : OkL n 1 m) (hs : 60 * (rbig l + rbig m) + 1000 < n) : F_L17_RowsParts_k1 n l m () = some true := by
  have hlm := hl.append hm hs
  have hn := hl.lim
  have h1 := uniq_len l
  have h2 := uniq_len m
  have h3 := uniq_len (l ++ m)
  have h4 := rbig_len l
  have h5 := rbig_len m
  have hz := uniq_behind l m
  have hw := works_eq (n := n) (by omega)
  generalize hX : uniq l = X at *
  generalize hY : uniq m = Y at *
  generalize hZ : uniq (l ++ m) = Z at *
  have hlen : Z.length = X.length + (Y.filter fun r => decide (r ∉ X)).length := by rw [hz, List.length_append]
  have hfl : (Y.filter fun r => decide (r ∉ X)).length ≤ Y.length := List.length_filter_le _ _
  unfold F_L17_RowsParts_k1
  simp only [unique_eq hl, unique_eq hm, unique_eq hlm, bnd_eq, hX, hY, hZ, slen]
  have w1 : IntKind.i64.wrap (((X.length : Nat) : Int) + ((Y.length : Nat) : Int)) = ((X.length + Y.length : Nat) : Int) := by rw [wrapC (by omega) (by omega)]; omega
  have hc : (bif (decide (((Z.length : Nat) : Int) > ((X.length + Y.length : Nat) : Int))) then true else (decide (((Z.length : Nat) : Int) < ((X.length : Nat) : Int)))) = false := by
    rw [decide_eq_false (by omega), decide_eq_false (by omega)]; rfl
  rw [w1, hc]
  simp only [Bool.not_false, gsome_t, Ax.natI_nat, bnd_eq, cond_true]
  rw [chk_dec (by omega)]
  have okX : ∀ r ∈ X, OkR n 1 r := fun r hr => hl.row r (uniq_sub (by rw [hX]; exact hr))
  have okY : ∀ r ∈ Y, OkR n 1 r := fun r hr => hm.row r (uniq_sub (by rw [hY]; exact hr))
  have okZ : ∀ r ∈ Z, OkR n 1 r := fun r hr => hlm.row r (uniq_sub (by rw [hZ]; exact hr))
  have ht : Z.take X.length = X := by rw [hz]; simp
  rw [ht, same_eq hn (fun r hr => (okX r hr).small) (by omega)]
  simp only [decide_true, bnd_eq, Bool.not_true, cond_false]
  have loop : ∀ q i : Nat, X.length ≤ i → i ≤ Z.length → Z.length - i < q → loopK (F_L17_RowsParts_l1 n Z X Y) q (i : Int) = some true := by
    intro q
    induction q with
    | zero => intro i _ _ h; omega
    | succ q ih =>
      intro i hxi hi hq
      rw [loopK_succ]
      generalize loopK (F_L17_RowsParts_l1 n Z X Y) q = nx at ih ⊢
      unfold F_L17_RowsParts_l1
      simp only [slen]
      by_cases hlt : i < Z.length
      · obtain ⟨r, hr⟩ : ∃ x, Z[i]? = some x := ⟨_, List.getElem?_eq_getElem hlt⟩
        have hf : r ∈ Y.filter fun r => decide (r ∉ X) := by
          rw [hz, List.getElem?_append_right hxi] at hr
          exact List.mem_of_getElem? hr
        have hrY : r ∈ Y := (List.mem_filter.1 hf).1
        have hrX : r ∉ X := by simpa using (List.mem_filter.1 hf).2
        have c1 : cnt r X = 0 := cnt_zero.2 hrX
        have c2 : cnt r Y = 1 := by have := uniq_one m r; rw [hY] at this; have := cnt_pos.2 hrY; omega
        have c3 : cnt r Z = 1 := by
          rw [hz, cnt_append, c1]
          have h1 := cnt_filter_le r (fun r => decide (r ∉ X)) Y
          have h2 := cnt_pos.2 hf
          omega
        rw [decide_eq_true (show (i : Int) < (Z.length : Int) by omega)]
        simp only [cond_true, Ax.idx_nat, hr, bnd_eq, often_eq hn (fun r hr => (okX r hr).small) (by omega : X.length < n), often_eq hn (fun r hr => (okY r hr).small) (by omega : Y.length < n), often_eq hn (fun r hr => (okZ r hr).small) (by omega : Z.length < n), c1, c2, c3]
        have d0 : decide (((0 : Nat) : Int) > 0) = false := rfl
        have d1 : (((1 : Nat) : Int) != 1) = false := rfl
        rw [d0]
        simp only [Bool.not_false, gsome_t, bnd_eq, cond_false, often_eq hn (fun r hr => (okY r hr).small) (by omega : Y.length < n), c2, d1, often_eq hn (fun r hr => (okZ r hr).small) (by omega : Z.length < n), c3]
        rw [wrapN (by omega)]
        exact ih (i + 1) (by omega) (by omega) (by omega)
      · rw [decide_eq_false (show ¬ (i : Int) < (Z.length : Int) by omega)]
        simp only [cond_false, hw, bnd_eq]
  exact loop n X.length (Nat.le_refl _) (by omega) (by omega)

theorem law_parts {n : Nat} (hn : n ≤ 1073741824) {l m : List (List Val)} (hs : 60 * (rbig l + rbig m) + 1000 < n) (hrl : rangeR l = true) (hrm : rangeR m = true) : F_L17_RowsParts n l m = some true := by
  have hw := works_eq (n := n) (by omega)
  obtain ⟨b1, f1, g1⟩ := few_eq hn 1 (l := l) (by omega) (by omega) hrl
  obtain ⟨b2, f2, g2⟩ := few_eq hn 1 (l := m) (by omega) (by omega) hrm
  unfold F_L17_RowsParts
  rw [show ((1 : Int)) = ((1 : Nat) : Int) from rfl, f1, f2]
  simp only [bnd_eq]
  cases b1 with
  | false => simp [gsome, hw]
  | true =>
  cases b2 with
  | false => simp [gsome, hw]
  | true =>
  obtain ⟨_, ok1⟩ := g1 rfl
  obtain ⟨_, ok2⟩ := g2 rfl
  have ok3 := ok1.append ok2 hs
  have h4 := rbig_len l
  have h5 := rbig_len m
  simp only [Bool.not_true, Bool.not_false, gsome_t, bnd_eq, cond_false]
  rw [chk_dec (by rw [slen]; omega), chk_dec (by rw [slen, List.length_append]; omega)]
  rw [gcount ok1, gcount ok2, gcount ok3]
  simp only [bnd_eq, slen, List.length_cons, List.length_nil, show ((0 : Int) != 0) = false from rfl, cond_false, show (((0 + 1 : Nat) : Int) != ((1 : Nat) : Int)) = false from rfl, Bool.not_false, gsome_t, idx0, intOf]
  have hcl := colS_len l
  have hcm := colS_len m
  have hcc : (colS (l ++ m)).length = (colS l).length + (colS m).length := by rw [colS_append, List.length_append]
  have e1 : (((((colS (l ++ m)).length : Nat) : Int)) != (IntKind.i64.wrap (((((colS l).length : Nat) : Int)) + ((((colS m).length : Nat) : Int))))) = false := by
    rw [wrapC (by omega) (by omega), hcc]
    simp
  rw [e1]
  simp only [cond_false]
  rw [gsum ok1, gsum ok2, gsum ok3]
  simp only [bnd_eq]
  generalize ha : sumS 0 (colS l) = A
  generalize hb : sumS 0 (colS m) = B
  generalize hc : sumS 0 (colS (l ++ m)) = C
  obtain ⟨av, ae⟩ := A
  obtain ⟨bv, be⟩ := B
  obtain ⟨cv, ce⟩ := C
  have hend := parts_end ok1 ok2 hs
  by_cases e1 : ae = 0
  · by_cases e2 : be = 0
    · by_cases e3 : ce = 0
      · subst e1 e2 e3
        obtain ⟨rfl, ia⟩ := sumS_ok (acc := 0) rfl ha
        obtain ⟨rfl, ib⟩ := sumS_ok (acc := 0) rfl hb
        obtain ⟨rfl, ic⟩ := sumS_ok (acc := 0) rfl hc
        rw [colS_append, total_append] at ic ⊢
        simp only [Int.zero_add] at ia ib ic ⊢
        simp only [if_true, show ((0 : Int) == 0) = true from rfl, cond_true, idx0, bnd_eq, intOf, add_eq n ia ib, ic]
        simp [hend, gsome]
      · have : (ce == 0) = false := by simp [e3]
        simp [this, e1, e2, e3, hend]
    · have : (be == 0) = false := by simp [e2]
      simp [this, e1, e2, hend]
  · have : (ae == 0) = false := by simp [e1]
    simp [this, e1, hend]
end W
end
section
open Go Go.Proofs Ax Go.RowKit
namespace W
set_option maxRecDepth 10000
open Classical

/-! ### The order -/
theorem cb_nil_r (x : List UInt8) : cb x [] = 0 ∨ cb x [] = 1 := by cases x with
  | nil => exact .inl rfl
  | cons _ _ => exact .inr rfl
theorem cb_anti : ∀ x y : List UInt8, cb x y = - cb y x
  | [], [] => rfl
  | [], _ :: _ => rfl
  | _ :: _, [] => rfl
  | a :: x, b :: y => by
    rcases u8_tri a b with h | h | h
    · rw [cb_lt x y h, cb_gt y x h]
    · subst h; rw [cb_same, cb_same]; exact cb_anti x y
    · rw [cb_gt x y h, cb_lt y x h]; rfl
theorem u8_trans {a b c : UInt8} (h : a < b) (h' : b < c) : a < c := by
  rw [UInt8.lt_iff_toNat_lt] at *; omega
theorem cb_trans : ∀ x y z : List UInt8, cb x y ≤ 0 → cb y z ≤ 0 → cb x z ≤ 0
  | [], _, [], _, _ => Int.le_refl _
  | [], _, _ :: _, _, _ => by show (-1 : Int) ≤ 0; decide
  | _ :: _, [], _, h, _ => by simp [cb] at h
  | _ :: _, _ :: _, [], _, h => by simp [cb] at h
  | a :: x, b :: y, c :: z, h1, h2 => by
    rcases u8_tri a b with h | h | h
    · rcases u8_tri b c with h' | h' | h'
      · rw [cb_lt x z (u8_trans h h')]; decide
      · subst h'; rw [cb_lt x z h]; decide
      · rw [cb_gt y z h'] at h2; exact absurd h2 (by decide)
    · subst h
      rw [cb_same] at h1
      rcases u8_tri a c with h' | h' | h'
      · rw [cb_lt x z h']; decide
      · subst h'; rw [cb_same] at h2 ⊢; exact cb_trans x y z h1 h2
      · rw [cb_gt y z h'] at h2; exact absurd h2 (by decide)
    · rw [cb_gt x y h] at h1; exact absurd h1 (by decide)
theorem cb_self (x : List UInt8) : cb x x = 0 := by have := cb_anti x x; omega
/-- How two values stand. -/
def kc (v w : Val) : Int := cb (layM v) (layM w)
theorem kc_anti (v w : Val) : kc v w = - kc w v := cb_anti _ _
theorem kc_trans {u v w : Val} (h : kc u v ≤ 0) (h' : kc v w ≤ 0) : kc u w ≤ 0 := cb_trans _ _ _ h h'
theorem kc_self (v : Val) : kc v v = 0 := cb_self _
theorem order_eq {n : Nat} {v w : Val} (hn : n ≤ 1073741824) (hv : OkV n v) (hw : OkV n w) : F_value_Order n v w = some (kc v w) := by
  obtain ⟨c, h1, h2⟩ := F_value_Order_eq v.big n v w (Nat.le_refl _) (by have := hv.small; omega) (by have := hv.small; omega) hv.right hw.right hv.range hw.range
  rw [h1]
  have := h2 [] []
  rw [List.append_nil, List.append_nil, show cb [] [] = 0 from rfl, th_r0] at this
  unfold kc
  rw [this]

/-! ### Least and greatest -/
def minS (b : Val) : List Val → Val
  | [] => b
  | x :: l => if kc x b < 0 then minS x l else minS b l
def maxS (b : Val) : List Val → Val
  | [] => b
  | x :: l => if kc x b > 0 then maxS x l else maxS b l
theorem minS_spec : ∀ (l : List Val) (b : Val), (minS b l = b ∨ minS b l ∈ l) ∧ kc (minS b l) b ≤ 0 ∧ ∀ x ∈ l, kc (minS b l) x ≤ 0 := by
  intro l
  induction l with
  | nil => intro b; exact ⟨.inl rfl, by rw [minS, kc_self]; exact Int.le_refl _, fun x h => by cases h⟩
  | cons a l ih =>
    intro b
    simp only [minS]
    by_cases h : kc a b < 0
    · rw [if_pos h]
      obtain ⟨h1, h2, h3⟩ := ih a
      refine ⟨.inr (h1.elim (fun e => by rw [e]; simp) (fun hm => by simp [hm])), kc_trans h2 (by omega), fun x hx => ?_⟩
      rcases List.mem_cons.1 hx with rfl | hx
      · exact h2
      · exact h3 x hx
    · rw [if_neg h]
      obtain ⟨h1, h2, h3⟩ := ih b
      refine ⟨h1.imp id fun hm => by simp [hm], h2, fun x hx => ?_⟩
      rcases List.mem_cons.1 hx with rfl | hx
      · exact kc_trans h2 (by have := kc_anti b x; omega)
      · exact h3 x hx
theorem maxS_spec : ∀ (l : List Val) (b : Val), (maxS b l = b ∨ maxS b l ∈ l) ∧ 0 ≤ kc (maxS b l) b ∧ ∀ x ∈ l, 0 ≤ kc (maxS b l) x := by
  intro l
  induction l with
  | nil => intro b; exact ⟨.inl rfl, by rw [maxS, kc_self]; exact Int.le_refl _, fun x h => by cases h⟩
  | cons a l ih =>
    intro b
    have up : ∀ {u v w : Val}, 0 ≤ kc u v → 0 ≤ kc v w → 0 ≤ kc u w := fun {u v w} h h' => by
      have h1 := kc_anti u v; have h2 := kc_anti v w; have h3 := kc_anti u w
      have := kc_trans (u := w) (v := v) (w := u) (by omega) (by omega)
      omega
    simp only [maxS]
    by_cases h : kc a b > 0
    · rw [if_pos h]
      obtain ⟨h1, h2, h3⟩ := ih a
      refine ⟨.inr (h1.elim (fun e => by rw [e]; simp) (fun hm => by simp [hm])), up h2 (by omega), fun x hx => ?_⟩
      rcases List.mem_cons.1 hx with rfl | hx
      · exact h2
      · exact h3 x hx
    · rw [if_neg h]
      obtain ⟨h1, h2, h3⟩ := ih b
      refine ⟨h1.imp id fun hm => by simp [hm], h2, fun x hx => ?_⟩
      rcases List.mem_cons.1 hx with rfl | hx
      · exact up h2 (by have := kc_anti b x; omega)
      · exact h3 x hx

theorem min_eq {n : Nat} (hn : n ≤ 1073741824) {v : Val} {l : List Val} (hv : ∀ x ∈ v :: l, OkV n x) (hl : l.length + 1 < n) : F_slices_MinFunc_api_Value_api_Value__value_Order n (v :: l) = some (minS v l) := by
  have loop : ∀ (m i : Nat) (b : Val), i ≤ l.length → l.length - i < m → OkV n b → loopK (F_slices_MinFunc_api_Value_api_Value__value_Order_l1 n (v :: l)) m (((i + 1 : Nat) : Int), match b with | .mk k b i s l ks => (k, b, i, s, l, ks)) = some (minS b (l.drop i)) := by
    intro m
    induction m with
    | zero => intro i _ _ h; omega
    | succ m ih =>
      intro i b hi hm hb
      rw [loopK_succ]
      generalize loopK (F_slices_MinFunc_api_Value_api_Value__value_Order_l1 n (v :: l)) m = nx at ih ⊢
      unfold F_slices_MinFunc_api_Value_api_Value__value_Order_l1
      simp only [valRows_len]
      obtain ⟨b1, b2, b3, b4, b5, b6⟩ := b
      by_cases hlt : i < l.length
      · obtain ⟨x, hx⟩ : ∃ x, l[i]? = some x := ⟨_, List.getElem?_eq_getElem hlt⟩
        have hx' : (v :: l)[i + 1]? = some x := by simpa using hx
        have okx := hv x (List.mem_of_getElem? hx')
        have ho := order_eq hn okx hb
        have hd : l.drop i = x :: l.drop (i + 1) := by
          obtain ⟨_, e⟩ := List.getElem?_eq_some_iff.1 hx
          rw [List.drop_eq_getElem_cons hlt, e]
        have nxt := ih (i + 1) x (by omega) (by omega) okx
        have nxb := ih (i + 1) _ (by omega) (by omega) hb
        rw [decide_eq_true (show ((i + 1 : Nat) : Int) < ((v :: l).length : Int) by simp; omega), hd]
        obtain ⟨a1, a2, a3, a4, a5, a6⟩ := x
        simp only [cond_true, Ax.idx_nat, hx', bnd_eq, ho, minS]
        by_cases hk : kc (Val.mk a1 a2 a3 a4 a5 a6) (Val.mk b1 b2 b3 b4 b5 b6) < 0
        · simp only [hk, decide_true, cond_true, if_true]
          unfold F_slices_MinFunc_api_Value_api_Value__value_Order_k3
          rw [wrapN (by omega)]
          exact nxt
        · simp only [hk, decide_false, cond_false, if_false]
          unfold F_slices_MinFunc_api_Value_api_Value__value_Order_k3
          rw [wrapN (by omega)]
          exact nxb
      · rw [decide_eq_false (show ¬ ((i + 1 : Nat) : Int) < ((v :: l).length : Int) by simp; omega), List.drop_eq_nil_of_le (by omega)]
        rfl
  unfold F_slices_MinFunc_api_Value_api_Value__value_Order
  have := loop n 0 v (Nat.zero_le _) (by omega) (hv v (by simp))
  obtain ⟨a1, a2, a3, a4, a5, a6⟩ := v
  rw [valRows_len, decide_eq_false (by simp; omega)]
  simp only [cond_false, idx0, bnd_eq]
  exact this
theorem max_eq {n : Nat} (hn : n ≤ 1073741824) {v : Val} {l : List Val} (hv : ∀ x ∈ v :: l, OkV n x) (hl : l.length + 1 < n) : F_slices_MaxFunc_api_Value_api_Value__value_Order n (v :: l) = some (maxS v l) := by
  have loop : ∀ (m i : Nat) (b : Val), i ≤ l.length → l.length - i < m → OkV n b → loopK (F_slices_MaxFunc_api_Value_api_Value__value_Order_l1 n (v :: l)) m (((i + 1 : Nat) : Int), match b with | .mk k b i s l ks => (k, b, i, s, l, ks)) = some (maxS b (l.drop i)) := by
    intro m
    induction m with
    | zero => intro i _ _ h; omega
    | succ m ih =>
      intro i b hi hm hb
      rw [loopK_succ]
      generalize loopK (F_slices_MaxFunc_api_Value_api_Value__value_Order_l1 n (v :: l)) m = nx at ih ⊢
      unfold F_slices_MaxFunc_api_Value_api_Value__value_Order_l1
      simp only [valRows_len]
      obtain ⟨b1, b2, b3, b4, b5, b6⟩ := b
      by_cases hlt : i < l.length
      · obtain ⟨x, hx⟩ : ∃ x, l[i]? = some x := ⟨_, List.getElem?_eq_getElem hlt⟩
        have hx' : (v :: l)[i + 1]? = some x := by simpa using hx
        have okx := hv x (List.mem_of_getElem? hx')
        have ho := order_eq hn okx hb
        have hd : l.drop i = x :: l.drop (i + 1) := by
          obtain ⟨_, e⟩ := List.getElem?_eq_some_iff.1 hx
          rw [List.drop_eq_getElem_cons hlt, e]
        have nxt := ih (i + 1) x (by omega) (by omega) okx
        have nxb := ih (i + 1) _ (by omega) (by omega) hb
        rw [decide_eq_true (show ((i + 1 : Nat) : Int) < ((v :: l).length : Int) by simp; omega), hd]
        obtain ⟨a1, a2, a3, a4, a5, a6⟩ := x
        simp only [cond_true, Ax.idx_nat, hx', bnd_eq, ho, maxS]
        by_cases hk : kc (Val.mk a1 a2 a3 a4 a5 a6) (Val.mk b1 b2 b3 b4 b5 b6) > 0
        · simp only [hk, decide_true, cond_true, if_true]
          unfold F_slices_MaxFunc_api_Value_api_Value__value_Order_k3
          rw [wrapN (by omega)]
          exact nxt
        · simp only [hk, decide_false, cond_false, if_false]
          unfold F_slices_MaxFunc_api_Value_api_Value__value_Order_k3
          rw [wrapN (by omega)]
          exact nxb
      · rw [decide_eq_false (show ¬ ((i + 1 : Nat) : Int) < ((v :: l).length : Int) by simp; omega), List.drop_eq_nil_of_le (by omega)]
        rfl
  unfold F_slices_MaxFunc_api_Value_api_Value__value_Order
  have := loop n 0 v (Nat.zero_le _) (by omega) (hv v (by simp))
  obtain ⟨a1, a2, a3, a4, a5, a6⟩ := v
  rw [valRows_len, decide_eq_false (by simp; omega)]
  simp only [cond_false, idx0, bnd_eq]
  exact this

/-- The least of a column, or null. -/
def leastS : List Val → Val
  | [] => nullV
  | v :: l => minS v l
def mostS : List Val → Val
  | [] => nullV
  | v :: l => maxS v l
theorem gmin_eq {n : Nat} (hn : n ≤ 1073741824) {c : List Val} (hv : ∀ x ∈ c, OkV n x) (hl : c.length + 1 < n) : F_rows_gather n [109, 105, 110] c = some (leastS c, 0) := by
  unfold F_rows_gather
  rw [show (([109, 105, 110] : List UInt8) == [99, 111, 117, 110, 116]) = false from rfl, show (([109, 105, 110] : List UInt8) == [115, 117, 109]) = false from rfl, show (([109, 105, 110] : List UInt8) == [99, 111, 108, 108, 101, 99, 116]) = false from rfl, show (([109, 105, 110] : List UInt8) == [109, 105, 110]) = true from rfl]
  simp only [cond_false, cond_true, valRows_len]
  cases c with
  | nil => rfl
  | cons v l =>
    have e : (((((v :: l).length : Nat) : Int)) == 0) = false := by simp; omega
    rw [e, cond_false, min_eq hn hv (by simp at hl; omega), bnd_eq]
    simp only [leastS]
    obtain ⟨_, _, _, _, _, _⟩ := minS v l
    rfl
theorem gmax_eq {n : Nat} (hn : n ≤ 1073741824) {c : List Val} (hv : ∀ x ∈ c, OkV n x) (hl : c.length + 1 < n) : F_rows_gather n [109, 97, 120] c = some (mostS c, 0) := by
  unfold F_rows_gather
  rw [show (([109, 97, 120] : List UInt8) == [99, 111, 117, 110, 116]) = false from rfl, show (([109, 97, 120] : List UInt8) == [115, 117, 109]) = false from rfl, show (([109, 97, 120] : List UInt8) == [99, 111, 108, 108, 101, 99, 116]) = false from rfl, show (([109, 97, 120] : List UInt8) == [109, 105, 110]) = false from rfl]
  simp only [cond_false, valRows_len]
  cases c with
  | nil => rfl
  | cons v l =>
    have e : (((((v :: l).length : Nat) : Int)) == 0) = false := by simp; omega
    rw [e, cond_false, max_eq hn hv (by simp at hl; omega), bnd_eq]
    simp only [mostS]
    obtain ⟨_, _, _, _, _, _⟩ := maxS v l
    rfl
theorem least_spec {c : List Val} (hc : c ≠ []) : leastS c ∈ c ∧ ∀ x ∈ c, kc (leastS c) x ≤ 0 := by
  cases c with
  | nil => exact absurd rfl hc
  | cons v l =>
    obtain ⟨h1, h2, h3⟩ := minS_spec l v
    refine ⟨h1.elim (fun e => by simp only [leastS, e]; simp) (fun h => by simp [leastS, h]), fun x hx => ?_⟩
    rcases List.mem_cons.1 hx with rfl | hx
    · exact h2
    · exact h3 x hx
theorem most_spec {c : List Val} (hc : c ≠ []) : mostS c ∈ c ∧ ∀ x ∈ c, 0 ≤ kc (mostS c) x := by
  cases c with
  | nil => exact absurd rfl hc
  | cons v l =>
    obtain ⟨h1, h2, h3⟩ := maxS_spec l v
    refine ⟨h1.elim (fun e => by simp only [mostS, e]; simp) (fun h => by simp [mostS, h]), fun x hx => ?_⟩
    rcases List.mem_cons.1 hx with rfl | hx
    · exact h2
    · exact h3 x hx
end W
end
section
open Go Go.Proofs Ax Go.RowKit
namespace W
set_option maxRecDepth 10000
open Classical

theorem gmin {n : Nat} {l : List (List Val)} (hl : OkL n 1 l) : F_rows_Group n l [[109, 105, 110]] = some ([[leastS (colS l)]], 0) := by
  have hs := hl.small
  have h1 := colS_len l
  have h2 := colS_big l
  have := group_eq hl (a := [109, 105, 110]) (by simp) (gmin_eq hl.lim (col_range hl) (by omega)) (by
    cases hc : colS l with
    | nil => simp [leastS, nullV, vbig, vbigL]; omega
    | cons v r =>
      have hm := (least_spec (c := colS l) (by simp [hc])).1
      rw [hc] at hm
      have hb := bigs_mem hm
      have h3 := vbig3 (leastS (v :: r))
      rw [hc] at h2
      omega)
  simpa using this
theorem gmax {n : Nat} {l : List (List Val)} (hl : OkL n 1 l) : F_rows_Group n l [[109, 97, 120]] = some ([[mostS (colS l)]], 0) := by
  have hs := hl.small
  have h1 := colS_len l
  have h2 := colS_big l
  have := group_eq hl (a := [109, 97, 120]) (by simp) (gmax_eq hl.lim (col_range hl) (by omega)) (by
    cases hc : colS l with
    | nil => simp [mostS, nullV, vbig, vbigL]; omega
    | cons v r =>
      have hm := (most_spec (c := colS l) (by simp [hc])).1
      rw [hc] at hm
      have hb := bigs_mem hm
      have h3 := vbig3 (mostS (v :: r))
      rw [hc] at h2
      omega)
  simpa using this

theorem law_ends {n : Nat} (hn : n ≤ 1073741824) {l : List (List Val)} (hs : 60 * rbig l + 1000 < n) (hrl : rangeR l = true) : F_L17_RowsEnds n l = some true := by
  have hw := works_eq (n := n) (by omega)
  obtain ⟨b1, f1, g1⟩ := few_eq hn 1 (l := l) (by omega) (by omega) hrl
  unfold F_L17_RowsEnds
  rw [show ((1 : Int)) = ((1 : Nat) : Int) from rfl, f1]
  simp only [bnd_eq]
  cases b1 with
  | false => simp [hw]
  | true =>
  obtain ⟨_, ok⟩ := g1 rfl
  have h4 := rbig_len l
  have h5 := colS_len l
  simp only [Bool.not_true, cond_false]
  rw [gmin ok, gmax ok]
  simp only [bnd_eq, slen, List.length_cons, List.length_nil, show ((0 : Int) != 0) = false from rfl, cond_false, show (((0 + 1 : Nat) : Int) != ((1 : Nat) : Int)) = false from rfl]
  generalize hA : leastS (colS l) = A
  generalize hB : mostS (colS l) = B
  have factsA : colS l ≠ [] → A ∈ colS l ∧ ∀ x ∈ colS l, kc A x ≤ 0 := fun h => by rw [← hA]; exact least_spec h
  have factsB : colS l ≠ [] → B ∈ colS l ∧ ∀ x ∈ colS l, 0 ≤ kc B x := fun h => by rw [← hB]; exact most_spec h
  have nilA : colS l = [] → A = nullV := fun h => by rw [← hA, h]; rfl
  have nilB : colS l = [] → B = nullV := fun h => by rw [← hB, h]; rfl
  have hin : ∀ i : Nat, (!decide (colS (l.take i) = [])) = true → colS l ≠ [] := by
    intro i h e
    have : colS l = colS (l.take i) ++ colS (l.drop i) := by rw [← colS_append, List.take_append_drop]
    rw [e] at this
    have := (List.append_eq_nil_iff.1 this.symm).1
    simp [this] at h
  have loop : ∀ m i : Nat, i ≤ l.length → l.length - i < m → loopK (F_L17_RowsEnds_l1 n l [[A]] [[B]]) m (!decide (colS (l.take i) = []), (i : Int)) = some true := by
    intro m
    induction m with
    | zero => intro i _ h; omega
    | succ m ih =>
      intro i hi hm
      rw [loopK_succ]
      generalize loopK (F_L17_RowsEnds_l1 n l [[A]] [[B]]) m = nx at ih ⊢
      unfold F_L17_RowsEnds_l1
      simp only [slen]
      by_cases hlt : i < l.length
      · obtain ⟨r, hr⟩ : ∃ x, l[i]? = some x := ⟨_, List.getElem?_eq_getElem hlt⟩
        have okr := ok.row r (List.mem_of_getElem? hr)
        obtain ⟨x, rfl⟩ : ∃ x, r = [x] := List.length_eq_one_iff.1 okr.len
        have ht : l.take (i + 1) = l.take i ++ [[x]] := by rw [List.take_succ, hr]; rfl
        have e1 : colS (l.take (i + 1)) = colS (l.take i) ++ (if kindV x = 0 then [] else [x]) := by rw [ht, colS_append]; simp [colS]
        have nxt := ih (i + 1) (by omega) (by omega)
        rw [e1] at nxt
        have okx := okr.val x (by simp)
        rw [decide_eq_true (show (i : Int) < (l.length : Int) by omega)]
        by_cases hk : kindV x = 0
        · obtain ⟨a1, a2, a3, a4, a5, a6⟩ := x
          have hk' : a1 = 0 := hk
          subst hk'
          simp only [cond_true, Ax.idx_nat, hr, bnd_eq, idx0, show ((0 : Int) == 0) = true from rfl]
          unfold F_L17_RowsEnds_k3
          rw [wrapN (by omega)]
          simpa [kindV] using nxt
        · have hxc : x ∈ colS l := by
            have : colS l = colS (l.take (i + 1)) ++ colS (l.drop (i + 1)) := by rw [← colS_append, List.take_append_drop]
            rw [this, e1, if_neg hk]
            simp
          have hne : colS l ≠ [] := fun e => by rw [e] at hxc; cases hxc
          obtain ⟨ha, hA2⟩ := factsA hne
          obtain ⟨hb, hB2⟩ := factsB hne
          have oA := order_eq hn (col_range ok A ha) okx
          have oB := order_eq hn (col_range ok B hb) okx
          have kA := hA2 x hxc
          have kB := hB2 x hxc
          simp only [hk, if_false] at nxt
          obtain ⟨a1, a2, a3, a4, a5, a6⟩ := x
          have hk' : (a1 == 0) = false := by
            have : a1 ≠ 0 := hk
            simp [this]
          simp only [cond_true, Ax.idx_nat, hr, bnd_eq, idx0, hk', cond_false]
          obtain ⟨c1, c2, c3, c4, c5, c6⟩ := A
          obtain ⟨d1, d2, d3, d4, d5, d6⟩ := B
          simp only [oA, bnd_eq]
          rw [decide_eq_false (show ¬ kc (Val.mk c1 c2 c3 c4 c5 c6) (Val.mk a1 a2 a3 a4 a5 a6) > 0 by omega)]
          simp only [Bool.not_false, gsome_t, bnd_eq, idx0, oB, cond_false]
          rw [decide_eq_false (show ¬ kc (Val.mk d1 d2 d3 d4 d5 d6) (Val.mk a1 a2 a3 a4 a5 a6) < 0 by omega)]
          simp only [cond_false]
          unfold F_L17_RowsEnds_k3
          rw [wrapN (by omega)]
          simpa using nxt
      · rw [decide_eq_false (show ¬ (i : Int) < (l.length : Int) by omega)]
        simp only [cond_false]
        have ht : l.take i = l := List.take_of_length_le (by omega)
        rw [ht]
        by_cases hc : colS l = []
        · rw [nilA hc, nilB hc]
          simp [hc, nullV, idx0, hw, gsome]
        · obtain ⟨ha, _⟩ := factsA hc
          obtain ⟨hb, _⟩ := factsB hc
          have oa := often_eq hn (r := [A]) (fun r hr => (ok.row r hr).small) (by omega : l.length < n)
          have ob := often_eq hn (r := [B]) (fun r hr => (ok.row r hr).small) (by omega : l.length < n)
          have pa := cnt_pos.2 (colS_mem ha).1
          have pb := cnt_pos.2 (colS_mem hb).1
          simp only [hc, decide_false, Bool.not_false, Bool.not_true, cond_false, idx0, bnd_eq, oa]
          rw [decide_eq_true (show ((cnt [A] l : Nat) : Int) > 0 by omega)]
          simp only [gsome_t, bnd_eq, ob, cond_true]
          rw [decide_eq_true (show ((cnt [B] l : Nat) : Int) > 0 by omega)]
          simp only [gsome_t, bnd_eq, hw, cond_true]
  have := loop n 0 (Nat.zero_le _) (by omega)
  simpa [colS] using this
end W
end
section
namespace W
open Go Go.Proofs Ax Go.RowKit Go.ChangeShapes Go.WideShapes Go.ChangeAt
open Go.Proofs.YtajcpfcghhbbnaaDoor Go.ChangeMaps
set_option maxRecDepth 100000 in
theorem contract7 (H : Type) (enc : TypeId × Value → H) (W : World) (base : Nat) (args : Array Value) (ds gs : List (DataW H)) (before : List MemPlace)
    (hval : ∀ (j : Nat) t v, Tryd.f7.params[j]? = some t → args[j]? = some v → Value.okWide Tryd.prog W .any base t v)
    (hW : DataW.Whole enc Tryd.prog Tryd.f7.params.toList Rows.rowsEndsSpec.vars false W args.toList ds gs before) (hk : Rows.uptoSmall H (ds ++ gs) = true) (hsh : W.ShapedOpen Tryd.prog) :
    Calls Tryd.prog 7 args W fun e W' => ∃ v, e = .returned v ∧ Rows.rowsEndsSpec.post enc Tryd.prog Tryd.f7 false true false false W args v W' := by
  have hW' := hW
  obtain ⟨p, q, hA, hV, rfl, hfz, hnd⟩ := hW
  rw [Tryd.params7] at hA hval
  obtain ⟨v0, vs0, d0, ds0, p0, q0, hargs0, rfl, rfl, h0, r0⟩ := trodAll_cons hA
  obtain ⟨rfl, rfl, rfl⟩ := trodAll_nil r0
  obtain ⟨x0, rx0, bx0, ix0⟩ := reads_argRows (hval 0 22 v0 rfl (by have := congrArg (fun l => l[0]?) hargs0; simpa using this)) h0
  have hb := of_decide_eq_true hk
  simp only [List.cons_append, Rows.uptoBulkAll] at hb
  have hc := (F_L17_RowsEnds_ok 67108864 _ _ (law_ends (n := 67108864) (by omega) (l := x0) (by omega) ix0)).calls (fun _ _ => Tryd.call7 _ _) (w := W) (heapH_sat (root hsh)) (vs := args.toList) (by rw [hargs0]; simp only [RepL]; exact ⟨_, _, rfl, rx0, rfl⟩)
  refine hc.mono fun e W' ⟨v, H', he, c, r⟩ => ⟨v, he, ?_⟩
  simp only [RepP] at r
  subst r
  obtain ⟨-, rfl⟩ : True ∧ gs = [] := ⟨trivial, by obtain ⟨h1, h2⟩ := trodVars_none hV; first | exact h1 | exact h2⟩
  exact post_law (tb := 4) laidOut (by kernel_rfl) hW' c.below rfl rfl (by kernel_rfl) Tryd.underlying4

theorem plain7 (f : FuncId) (fn : Func) (hf : Tryd.pinned.checked.prog.funcNamed "wattle/wattlelaw17.RowsEnds" = some f) (hfn : Tryd.pinned.checked.prog.funcs[f]? = some fn) :
    false = Tryd.pinned.checked.prog.looks [] ∧ ∀ (j : Nat) t, fn.params[j]? = some t → Tryd.pinned.checked.prog.wantsStandIn t = false := by
  obtain rfl : f = 7 := Option.some.inj ((show Tryd.prog.funcNamed "wattle/wattlelaw17.RowsEnds" = some 7 by kernel_rfl).symm.trans hf) |>.symm
  obtain rfl : fn = Tryd.f7 := (Option.some.inj (Tryd.func7.symm.trans hfn)).symm
  refine ⟨by kernel_rfl, fun j t ht => ?_⟩
  rw [Tryd.params7] at ht
  have := Array.mem_of_getElem? ht
  simp only [List.mem_toArray, List.mem_cons, List.not_mem_nil, or_false] at this
  rcases this with rfl <;> first | exact (show Tryd.prog.wantsStandIn 22 = false by kernel_rfl) | exact (show Tryd.prog.wantsStandIn 31 = false by kernel_rfl)

theorem laid_met7 (os : Os) : laidMet Tryd.prog Rows.rowsEndsUptoRow.laid ((laidWorld os).forCall (fun _ _ => 0) ⟨#[], #[V0], []⟩).memory :=
  laidMet_of_run' 8 (by kernel_rfl) (by kernel_rfl)
theorem reads7 (os : Os) {H : Type} (enc : TypeId × Value → H) : ∃ places, DataW.whole enc Tryd.prog ((laidWorld os).forCall (fun _ _ => 0) ⟨#[], #[V0], []⟩).memory Tryd.f7.params.toList Rows.rowsEndsSpec.vars false #[V0].toList 8 = some ([D0 H], [], places) :=
  ⟨[], by kernel_rfl⟩

set_option maxRecDepth 100000 in
theorem lifted7 (os : Os) (started : os.Started) (H : Type) (enc : TypeId × Value → H) (F : Stop.Interp) :
    ReturnsInHanded {} Tryd.checked os 7 .any ((Rows.OpenSpec.upto Rows.rowsEndsSpec).preRow enc Tryd.prog Tryd.f7 Rows.rowsEndsUptoRow.domain false Rows.rowsEndsUptoRow.laid) (((Rows.OpenSpec.upto Rows.rowsEndsSpec).at F).post enc Tryd.prog Tryd.f7 false true false false) := by
  obtain ⟨places, hx⟩ := reads7 os enc
  refine returnsInHanded_of_row (C := Tryd.checked) (s := Rows.OpenSpec.upto Rows.rowsEndsSpec) own started (by kernel_rfl) Tryd.func7
    (witness_row_at (enc := enc) (C := Tryd.checked) false (laidWorld os) #[V0] rfl (by kernel_rfl) (by kernel_rfl) (by kernel_rfl)
      (OpenSpec.preRow_of_cond 8 hx (by kernel_rfl) (fun k hk => by cases hk; kernel_rfl) (by kernel_rfl) (laid_met7 os))) ?_
  intro W base args ds gs before hval hW _ hcond _ _ hsh _
  exact contract7 H enc W base args ds gs before hval hW (hcond _ rfl) hsh

theorem saidUpto7 : Rows.RowsEndsUptoSaid :=
  OpenClaim.holds_of_cond 7 Tryd.f7 rfl rfl rfl rfl rfl rfl rfl ⟨rfl, rfl, rfl, rfl, rfl⟩ rfl rfl rfl rfl rfl (by kernel_rfl) Tryd.func7 (by kernel_rfl)
    (of_decide_eq_true (by kernel_rfl)) (by unfold Func.isWrapper; first | (rw [if_pos (by decide +kernel)]; kernel_rfl) | (rw [if_neg (by decide +kernel)]; exact ⟨rfl, rfl⟩))
    (fun os started H enc _ F => by rw [OpenClaim.pre_eq_preRow]; exact lifted7 os started H enc F)
theorem cardUpto7 : Rows.RowsEndsUptoCardSaid :=
  Claim7.holds_tied_plain_at .later [] _ _ _ _ saidUpto7 (fun _ h => by cases h) (by kernel_rfl) (fun _ h => by cases h) rowsEndsUpto_row_tie rfl ⟨rfl, rfl⟩ (by kernel_rfl) rfl plain7 (by kernel_rfl)
end W
end
