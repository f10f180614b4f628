/- A part of the proof. -/
import Derived.Test.YtajcpfcghhbbnaaDoorE
set_option linter.all false
section
open Go Ax Go.RowKit
namespace W
set_option maxRecDepth 10000

def intV : Val → Int
  | .mk _ _ i _ _ _ => i
def intOf (i : Int) : Val := .mk 2 false i [] [] []
theorem count_eq (n : Nat) (c : List Val) : F_rows_gather n [99, 111, 117, 110, 116] c = some (intOf ((c.length : Nat) : Int), 0) := by
  unfold F_rows_gather
  simp [intOf]

theorem add_eq (n : Nat) {a b : Int} (ha : int64 a = true) (hb : int64 b = true) : F_num_Add n a b = some (if int64 (a + b) = true then (a + b, 0) else (0, 4)) := by
  simp only [int64, decide_eq_true_eq] at ha hb ⊢
  have w : ∀ s : Int, IntKind.i64.wrap s = (if s % 18446744073709551616 < 9223372036854775808 then s % 18446744073709551616 else s % 18446744073709551616 - 18446744073709551616) := by
    intro s
    simp only [IntKind.wrap, IntKind.bits, IntKind.signed]
    simp
    split <;> split <;> omega
  unfold F_num_Add
  rw [w]
  generalize hs : a + b = s
  by_cases hin : -9223372036854775808 ≤ s ∧ s < 9223372036854775808
  · rw [if_pos hin]
    have e : (if s % 18446744073709551616 < 9223372036854775808 then s % 18446744073709551616 else s % 18446744073709551616 - 18446744073709551616) = s := by split <;> omega
    rw [e]
    have : (bif ((decide (a < (0 : Int))) == (decide (b < (0 : Int)))) then (!((decide (s < (0 : Int))) == (decide (a < (0 : Int))))) else false) = false := by
      by_cases h1 : a < 0 <;> by_cases h2 : b < 0 <;> simp [h1, h2] <;> omega
    rw [this]
    rfl
  · rw [if_neg hin]
    have : (bif ((decide (a < (0 : Int))) == (decide (b < (0 : Int)))) then (!((decide ((if s % 18446744073709551616 < 9223372036854775808 then s % 18446744073709551616 else s % 18446744073709551616 - 18446744073709551616) < (0 : Int))) == (decide (a < (0 : Int))))) else false) = true := by
      have hc : (a < 0 ∧ b < 0) ∨ (0 ≤ a ∧ 0 ≤ b) := by omega
      rcases hc with ⟨h1, h2⟩ | ⟨h1, h2⟩
      · have e : ¬ (if s % 18446744073709551616 < 9223372036854775808 then s % 18446744073709551616 else s % 18446744073709551616 - 18446744073709551616) < 0 := by split <;> omega
        simp [h1, h2, e]
      · have e : (if s % 18446744073709551616 < 9223372036854775808 then s % 18446744073709551616 else s % 18446744073709551616 - 18446744073709551616) < 0 := by split <;> omega
        have h1' : ¬ a < 0 := by omega
        have h2' : ¬ b < 0 := by omega
        simp [h1', h2', e]
    rw [this]
    rfl

/-- The sum of values, from a number on. -/
def sumS (acc : Int) : List Val → Val × Int
  | [] => (intOf acc, 0)
  | v :: l => if kindV v = 2 then (if int64 (acc + intV v) = true then sumS (acc + intV v) l else (nullV, 4)) else (nullV, 3)
def total : List Val → Int
  | [] => 0
  | v :: l => intV v + total l
theorem total_append (a b : List Val) : total (a ++ b) = total a + total b := by
  induction a with
  | nil => simp [total]
  | cons x a ih => simp only [List.cons_append, total, ih]; omega
theorem sumS_ok {l : List Val} : ∀ {acc : Int} {v : Val}, int64 acc = true → sumS acc l = (v, 0) → v = intOf (acc + total l) ∧ int64 (acc + total l) = true := by
  induction l with
  | nil => intro acc v ha h; simp only [sumS, Prod.mk.injEq, and_true] at h; simp [total, ← h, ha]
  | cons x l ih =>
    intro acc v ha h
    simp only [sumS] at h
    split at h
    · split at h
      · rename_i h1
        have := ih h1 h
        simp only [total]
        rw [show acc + (intV x + total l) = acc + intV x + total l by omega]
        exact this
      · simp at h
    · simp at h
theorem sumS_val {l : List Val} : ∀ {acc : Int}, ∃ i, (sumS acc l).1 = intOf i ∨ (sumS acc l).1 = nullV := by
  induction l with
  | nil => intro acc; exact ⟨acc, .inl rfl⟩
  | cons x l ih =>
    intro acc
    simp only [sumS]
    split
    · split
      · exact ih
      · exact ⟨0, .inr rfl⟩
    · exact ⟨0, .inr rfl⟩
theorem sum_eq {n : Nat} {c : List Val} (hr : ∀ v ∈ c, range64 v = true) (hc : c.length < n) (hn : n ≤ 1073741824) : F_rows_gather n [115, 117, 109] c = some (sumS 0 c) := by
  have loop : ∀ (m i : Nat) (acc : Int), i ≤ c.length → c.length - i < m → int64 acc = true → loopK (F_rows_sum_l1 n c) m (acc, (i : Int)) = some (sumS acc (c.drop i)) := by
    intro m
    induction m with
    | zero => intro i _ _ h; omega
    | succ m ih =>
      intro i acc hi hm ha
      rw [loopK_succ]
      generalize loopK (F_rows_sum_l1 n c) m = nx at ih ⊢
      unfold F_rows_sum_l1
      simp only [valRows_len]
      by_cases hlt : i < c.length
      · obtain ⟨x, hx⟩ : ∃ x, c[i]? = some x := ⟨_, List.getElem?_eq_getElem hlt⟩
        have hrx := hr x (List.mem_of_getElem? hx)
        have hd : c.drop i = x :: c.drop (i + 1) := by
          obtain ⟨_, e⟩ := List.getElem?_eq_some_iff.1 hx
          rw [List.drop_eq_getElem_cons hlt, e]
        rw [decide_eq_true (show (i : Int) < (c.length : Int) by omega), hd]
        obtain ⟨a1, a2, a3, a4, a5, a6⟩ := x
        have h3 : int64 a3 = true := by simp only [range64, Bool.and_eq_true] at hrx; exact hrx.1
        simp only [cond_true, Ax.idx_nat, hx, bnd_eq, sumS, kindV, intV]
        by_cases hk : a1 = 2
        · subst hk
          simp only [show ((2 : Int) != 2) = false from rfl, cond_false, add_eq n ha h3, bnd_eq, if_true]
          by_cases hin : int64 (acc + a3) = true
          · simp only [hin, if_true, show ((0 : Int) != 0) = false from rfl, cond_false]
            rw [wrapN (by omega)]
            exact ih (i + 1) _ (by omega) (by omega) hin
          · simp only [hin, if_false]
            first | done | rfl
        · have : (a1 != 2) = true := by simp [hk]
          simp only [this, cond_true, hk, if_false]
          first | done | rfl
      · rw [decide_eq_false (show ¬ (i : Int) < (c.length : Int) by omega), List.drop_eq_nil_of_le (by omega)]
        rfl
  have hs : F_rows_sum n c = some (sumS 0 c) := loop n 0 0 (Nat.zero_le _) (by omega) rfl
  unfold F_rows_gather
  rw [show (([115, 117, 109] : List UInt8) == [99, 111, 117, 110, 116]) = false from rfl, show (([115, 117, 109] : List UInt8) == [115, 117, 109]) = true from rfl]
  simp only [cond_false, cond_true, hs, bnd_eq]
  obtain ⟨⟨_, _, _, _, _, _⟩, _⟩ := sumS 0 c
  rfl
theorem count_ne : ([99, 111, 117, 110, 116] : List UInt8) ≠ [] := by simp
theorem sum_ne : ([115, 117, 109] : List UInt8) ≠ [] := by simp
theorem gcount {n : Nat} {l : List (List Val)} (hl : OkL n 1 l) : F_rows_Group n l [[99, 111, 117, 110, 116]] = some ([[intOf (((colS l).length : Nat) : Int)]], 0) := by
  have := group_eq hl count_ne (count_eq n (colS l)) (by have := hl.small; simp [intOf, vbig, vbigL]; omega)
  simpa using this
theorem col_range {n : Nat} {l : List (List Val)} (hl : OkL n 1 l) : ∀ v ∈ colS l, OkV n v := fun v hv => (hl.row _ (colS_mem hv).1).val v (by simp)
theorem gsum {n : Nat} {l : List (List Val)} (hl : OkL n 1 l) : F_rows_Group n l [[115, 117, 109]] = some (if (sumS 0 (colS l)).2 = 0 then ([[(sumS 0 (colS l)).1]], 0) else ([], (sumS 0 (colS l)).2)) := by
  have hs := hl.small
  have h1 := colS_len l
  refine group_eq hl sum_ne (sum_eq (fun v hv => (col_range hl v hv).range) (by omega) hl.lim) ?_
  obtain ⟨i, h | h⟩ := @sumS_val (colS l) 0 <;> rw [h] <;> simp [intOf, nullV, vbig, vbigL] <;> omega
end W
end
section
open Go Go.Proofs Ax Go.RowKit
namespace W
set_option maxRecDepth 10000
open Classical

theorem works_ok (m : Nat) : F_L17_works (m + 60) = some true := by kernel_rfl
theorem works_eq {n : Nat} (h : 60 ≤ n) : F_L17_works n = some true := by
  obtain ⟨m, rfl⟩ : ∃ m, n = m + 60 := ⟨n - 60, by omega⟩
  exact works_ok m

theorem uniqA_append (acc l m : List (List Val)) : uniqA acc (l ++ m) = uniqA (uniqA acc l) m := by
  induction l generalizing acc with
  | nil => rfl
  | cons a l ih =>
    simp only [List.cons_append, uniqA]
    split <;> exact ih _
theorem uniqA_filter (acc : List (List Val)) : ∀ (m b : List (List Val)), uniqA (acc ++ b.filter fun r => decide (r ∉ acc)) m = acc ++ (uniqA b m).filter fun r => decide (r ∉ acc) := by
  intro m
  induction m with
  | nil => intro b; rfl
  | cons a m ih =>
    intro b
    simp only [uniqA, List.mem_append, List.mem_filter]
    by_cases ha : a ∈ acc
    · rw [if_pos (.inl ha)]
      by_cases hb : a ∈ b
      · rw [if_pos hb]; exact ih b
      · rw [if_neg hb, ← ih (b ++ [a])]
        congr 2
        simp [ha]
    · by_cases hb : a ∈ b
      · rw [if_pos (.inr ⟨hb, by simpa using ha⟩), if_pos hb]; exact ih b
      · rw [if_neg (fun h => h.elim ha fun h => hb h.1), if_neg hb, ← ih (b ++ [a])]
        congr 1
        simp [ha]
theorem uniq_behind (l m : List (List Val)) : uniq (l ++ m) = uniq l ++ (uniq m).filter fun r => decide (r ∉ uniq l) := by
  have := uniqA_filter (uniq l) m []
  simpa [uniq, uniqA_append] using this
theorem uniqA_one {acc : List (List Val)} (h : ∀ r, cnt r acc ≤ 1) (l : List (List Val)) : ∀ r, cnt r (uniqA acc l) ≤ 1 := by
  induction l generalizing acc with
  | nil => exact h
  | cons a l ih =>
    simp only [uniqA]
    split
    · exact ih h
    · rename_i ha
      refine ih fun r => ?_
      rw [cnt_append]
      have h1 := h r
      by_cases e : a = r
      · subst e
        rw [cnt_zero.2 ha]
        simp [cnt]
      · simp [cnt, e]; exact h1
theorem uniq_one (l : List (List Val)) (r : List Val) : cnt r (uniq l) ≤ 1 := uniqA_one (fun r => by simp [cnt]) l r
theorem uniq_sub {l : List (List Val)} {r : List Val} (h : r ∈ uniq l) : r ∈ l := (uniqA_sub h).elim (fun h => by cases h) id
theorem uniq_len (l : List (List Val)) : (uniq l).length ≤ l.length := by
  have : ∀ (l acc : List (List Val)), (uniqA acc l).length ≤ acc.length + l.length := by
    intro l
    induction l with
    | nil => intro acc; exact Nat.le_refl _
    | cons a l ih =>
      intro acc
      simp only [uniqA]
      split
      · have := ih acc; simp only [List.length_cons]; omega
      · have := ih (acc ++ [a]); simp only [List.length_append, List.length_cons, List.length_nil] at this ⊢; omega
  simpa [uniq] using this l []
theorem cnt_filter_le (r : List Val) (p : List Val → Bool) (l : List (List Val)) : cnt r (l.filter p) ≤ cnt r l := by
  unfold cnt
  exact (List.Sublist.filter _ List.filter_sublist).length_le

theorem OkL.append {n c : Nat} {l m : List (List Val)} (hl : OkL n c l) (hm : OkL n c m) (hs : 60 * (rbig l + rbig m) + 1000 < n) : OkL n c (l ++ m) :=
  ⟨fun r hr => (List.mem_append.1 hr).elim (hl.row r) (hm.row r), by rw [rbig_append]; exact hs, hl.lim⟩

theorem wrapI {i : Int} (h : int64 i = true) : IntKind.i64.wrap i = i := by
  simp only [int64, decide_eq_true_eq] at h
  exact wrap_ok i (by omega) (by omega)

theorem parts_end {n : Nat} {l m : List (List Val)} (hl : OkL n 1 l) (hm : OkL n 1 m) (hs : 60 * (rbig l + rbig m) + 1000 < n) : F_L17_RowsParts_k1 n l m () = some true := by
  have hlm := hl.append hm hs
  have hn := hl.lim
  have h1 := uniq_len l
  have h2 := uniq_len m
  have h3 := uniq_len (l ++ m)
  have h4 := rbig_len l
  have h5 := rbig_len m
  have hz := uniq_behind l m
  have hw := works_eq (n := n) (by omega)
  generalize hX : uniq l = X at *
  generalize hY : uniq m = Y at *
  generalize hZ : uniq (l ++ m) = Z at *
  have hlen : Z.length = X.length + (Y.filter fun r => decide (r ∉ X)).length := by rw [hz, List.length_append]
  have hfl : (Y.filter fun r => decide (r ∉ X)).length ≤ Y.length := List.length_filter_le _ _
  unfold F_L17_RowsParts_k1
  simp only [unique_eq hl, unique_eq hm, unique_eq hlm, bnd_eq, hX, hY, hZ, slen]
  have w1 : IntKind.i64.wrap (((X.length : Nat) : Int) + ((Y.length : Nat) : Int)) = ((X.length + Y.length : Nat) : Int) := by rw [wrapC (by omega) (by omega)]; omega
  have hc : (bif (decide (((Z.length : Nat) : Int) > ((X.length + Y.length : Nat) : Int))) then true else (decide (((Z.length : Nat) : Int) < ((X.length : Nat) : Int)))) = false := by
    rw [decide_eq_false (by omega), decide_eq_false (by omega)]; rfl
  rw [w1, hc]
  simp only [Bool.not_false, gsome_t, Ax.natI_nat, bnd_eq, cond_true]
  rw [chk_dec (by omega)]
  have okX : ∀ r ∈ X, OkR n 1 r := fun r hr => hl.row r (uniq_sub (by rw [hX]; exact hr))
  have okY : ∀ r ∈ Y, OkR n 1 r := fun r hr => hm.row r (uniq_sub (by rw [hY]; exact hr))
  have okZ : ∀ r ∈ Z, OkR n 1 r := fun r hr => hlm.row r (uniq_sub (by rw [hZ]; exact hr))
  have ht : Z.take X.length = X := by rw [hz]; simp
  rw [ht, same_eq hn (fun r hr => (okX r hr).small) (by omega)]
  simp only [decide_true, bnd_eq, Bool.not_true, cond_false]
  have loop : ∀ q i : Nat, X.length ≤ i → i ≤ Z.length → Z.length - i < q → loopK (F_L17_RowsParts_l1 n Z X Y) q (i : Int) = some true := by
    intro q
    induction q with
    | zero => intro i _ _ h; omega
    | succ q ih =>
      intro i hxi hi hq
      rw [loopK_succ]
      generalize loopK (F_L17_RowsParts_l1 n Z X Y) q = nx at ih ⊢
      unfold F_L17_RowsParts_l1
      simp only [slen]
      by_cases hlt : i < Z.length
      · obtain ⟨r, hr⟩ : ∃ x, Z[i]? = some x := ⟨_, List.getElem?_eq_getElem hlt⟩
        have hf : r ∈ Y.filter fun r => decide (r ∉ X) := by
          rw [hz, List.getElem?_append_right hxi] at hr
          exact List.mem_of_getElem? hr
        have hrY : r ∈ Y := (List.mem_filter.1 hf).1
        have hrX : r ∉ X := by simpa using (List.mem_filter.1 hf).2
        have c1 : cnt r X = 0 := cnt_zero.2 hrX
        have c2 : cnt r Y = 1 := by have := uniq_one m r; rw [hY] at this; have := cnt_pos.2 hrY; omega
        have c3 : cnt r Z = 1 := by
          rw [hz, cnt_append, c1]
          have h1 := cnt_filter_le r (fun r => decide (r ∉ X)) Y
          have h2 := cnt_pos.2 hf
          omega
        rw [decide_eq_true (show (i : Int) < (Z.length : Int) by omega)]
        simp only [cond_true, Ax.idx_nat, hr, bnd_eq, often_eq hn (fun r hr => (okX r hr).small) (by omega : X.length < n), often_eq hn (fun r hr => (okY r hr).small) (by omega : Y.length < n), often_eq hn (fun r hr => (okZ r hr).small) (by omega : Z.length < n), c1, c2, c3]
        have d0 : decide (((0 : Nat) : Int) > 0) = false := rfl
        have d1 : (((1 : Nat) : Int) != 1) = false := rfl
        rw [d0]
        simp only [Bool.not_false, gsome_t, bnd_eq, cond_false, often_eq hn (fun r hr => (okY r hr).small) (by omega : Y.length < n), c2, d1, often_eq hn (fun r hr => (okZ r hr).small) (by omega : Z.length < n), c3]
        rw [wrapN (by omega)]
        exact ih (i + 1) (by omega) (by omega) (by omega)
      · rw [decide_eq_false (show ¬ (i : Int) < (Z.length : Int) by omega)]
        simp only [cond_false, hw, bnd_eq]
  exact loop n X.length (Nat.le_refl _) (by omega) (by omega)

theorem law_parts {n : Nat} (hn : n ≤ 1073741824) {l m : List (List Val)} (hs : 60 * (rbig l + rbig m) + 1000 < n) (hrl : rangeR l = true) (hrm : rangeR m = true) : F_L17_RowsParts n l m = some true := by
  have hw := works_eq (n := n) (by omega)
  obtain ⟨b1, f1, g1⟩ := few_eq hn 1 (l := l) (by omega) (by omega) hrl
  obtain ⟨b2, f2, g2⟩ := few_eq hn 1 (l := m) (by omega) (by omega) hrm
  unfold F_L17_RowsParts
  rw [show ((1 : Int)) = ((1 : Nat) : Int) from rfl, f1, f2]
  simp only [bnd_eq]
  cases b1 with
  | false => simp [gsome, hw]
  | true =>
  cases b2 with
  | false => simp [gsome, hw]
  | true =>
  obtain ⟨_, ok1⟩ := g1 rfl
  obtain ⟨_, ok2⟩ := g2 rfl
  have ok3 := ok1.append ok2 hs
  have h4 := rbig_len l
  have h5 := rbig_len m
  simp only [Bool.not_true, Bool.not_false, gsome_t, bnd_eq, cond_false]
  rw [chk_dec (by rw [slen]; omega), chk_dec (by rw [slen, List.length_append]; omega)]
  rw [gcount ok1, gcount ok2, gcount ok3]
  simp only [bnd_eq, slen, List.length_cons, List.length_nil, show ((0 : Int) != 0) = false from rfl, cond_false, show (((0 + 1 : Nat) : Int) != ((1 : Nat) : Int)) = false from rfl, Bool.not_false, gsome_t, idx0, intOf]
  have hcl := colS_len l
  have hcm := colS_len m
  have hcc : (colS (l ++ m)).length = (colS l).length + (colS m).length := by rw [colS_append, List.length_append]
  have e1 : (((((colS (l ++ m)).length : Nat) : Int)) != (IntKind.i64.wrap (((((colS l).length : Nat) : Int)) + ((((colS m).length : Nat) : Int))))) = false := by
    rw [wrapC (by omega) (by omega), hcc]
    simp
  rw [e1]
  simp only [cond_false]
  rw [gsum ok1, gsum ok2, gsum ok3]
  simp only [bnd_eq]
  generalize ha : sumS 0 (colS l) = A
  generalize hb : sumS 0 (colS m) = B
  generalize hc : sumS 0 (colS (l ++ m)) = C
  obtain ⟨av, ae⟩ := A
  obtain ⟨bv, be⟩ := B
  obtain ⟨cv, ce⟩ := C
  have hend := parts_end ok1 ok2 hs
  by_cases e1 : ae = 0
  · by_cases e2 : be = 0
    · by_cases e3 : ce = 0
      · subst e1 e2 e3
        obtain ⟨rfl, ia⟩ := sumS_ok (acc := 0) rfl ha
        obtain ⟨rfl, ib⟩ := sumS_ok (acc := 0) rfl hb
        obtain ⟨rfl, ic⟩ := sumS_ok (acc := 0) rfl hc
        rw [colS_append, total_append] at ic ⊢
        simp only [Int.zero_add] at ia ib ic ⊢
        simp only [if_true, show ((0 : Int) == 0) = true from rfl, cond_true, idx0, bnd_eq, intOf, add_eq n ia ib, ic]
        simp [hend, gsome]
      · have : (ce == 0) = false := by simp [e3]
        simp [this, e1, e2, e3, hend]
    · have : (be == 0) = false := by simp [e2]
      simp [this, e1, e2, hend]
  · have : (ae == 0) = false := by simp [e1]
    simp [this, e1, hend]
end W
end
section
open Go Go.Proofs Ax Go.RowKit
namespace W
set_option maxRecDepth 10000
open Classical

/-! ### The order -/
theorem cb_nil_r (x : List UInt8) : cb x [] = 0 ∨ cb x [] = 1 := by cases x with
  | nil => exact .inl rfl
  | cons _ _ => exact .inr rfl
theorem cb_anti : ∀ x y : List UInt8, cb x y = - cb y x
  | [], [] => rfl
  | [], _ :: _ => rfl
  | _ :: _, [] => rfl
  | a :: x, b :: y => by
    rcases u8_tri a b with h | h | h
    · rw [cb_lt x y h, cb_gt y x h]
    · subst h; rw [cb_same, cb_same]; exact cb_anti x y
    · rw [cb_gt x y h, cb_lt y x h]; rfl
theorem u8_trans {a b c : UInt8} (h : a < b) (h' : b < c) : a < c := by
  rw [UInt8.lt_iff_toNat_lt] at *; omega
theorem cb_trans : ∀ x y z : List UInt8, cb x y ≤ 0 → cb y z ≤ 0 → cb x z ≤ 0
  | [], _, [], _, _ => Int.le_refl _
  | [], _, _ :: _, _, _ => by show (-1 : Int) ≤ 0; decide
  | _ :: _, [], _, h, _ => by simp [cb] at h
  | _ :: _, _ :: _, [], _, h => by simp [cb] at h
  | a :: x, b :: y, c :: z, h1, h2 => by
    rcases u8_tri a b with h | h | h
    · rcases u8_tri b c with h' | h' | h'
      · rw [cb_lt x z (u8_trans h h')]; decide
      · subst h'; rw [cb_lt x z h]; decide
      · rw [cb_gt y z h'] at h2; exact absurd h2 (by decide)
    · subst h
      rw [cb_same] at h1
      rcases u8_tri a c with h' | h' | h'
      · rw [cb_lt x z h']; decide
      · subst h'; rw [cb_same] at h2 ⊢; exact cb_trans x y z h1 h2
      · rw [cb_gt y z h'] at h2; exact absurd h2 (by decide)
    · rw [cb_gt x y h] at h1; exact absurd h1 (by decide)
theorem cb_self (x : List UInt8) : cb x x = 0 := by have := cb_anti x x; omega
/-- How two values stand. -/
def kc (v w : Val) : Int := cb (layM v) (layM w)
theorem kc_anti (v w : Val) : kc v w = - kc w v := cb_anti _ _
theorem kc_trans {u v w : Val} (h : kc u v ≤ 0) (h' : kc v w ≤ 0) : kc u w ≤ 0 := cb_trans _ _ _ h h'
theorem kc_self (v : Val) : kc v v = 0 := cb_self _
theorem order_eq {n : Nat} {v w : Val} (hn : n ≤ 1073741824) (hv : OkV n v) (hw : OkV n w) : F_value_Order n v w = some (kc v w) := by
  obtain ⟨c, h1, h2⟩ := F_value_Order_eq v.big n v w (Nat.le_refl _) (by have := hv.small; omega) (by have := hv.small; omega) hv.right hw.right hv.range hw.range
  rw [h1]
  have := h2 [] []
  rw [List.append_nil, List.append_nil, show cb [] [] = 0 from rfl, th_r0] at this
  unfold kc
  rw [this]

/-! ### Least and greatest -/
def minS (b : Val) : List Val → Val
  | [] => b
  | x :: l => if kc x b < 0 then minS x l else minS b l
def maxS (b : Val) : List Val → Val
  | [] => b
  | x :: l => if kc x b > 0 then maxS x l else maxS b l
theorem minS_spec : ∀ (l : List Val) (b : Val), (minS b l = b ∨ minS b l ∈ l) ∧ kc (minS b l) b ≤ 0 ∧ ∀ x ∈ l, kc (minS b l) x ≤ 0 := by
  intro l
  induction l with
  | nil => intro b; exact ⟨.inl rfl, by rw [minS, kc_self]; exact Int.le_refl _, fun x h => by cases h⟩
  | cons a l ih =>
    intro b
    simp only [minS]
    by_cases h : kc a b < 0
    · rw [if_pos h]
      obtain ⟨h1, h2, h3⟩ := ih a
      refine ⟨.inr (h1.elim (fun e => by rw [e]; simp) (fun hm => by simp [hm])), kc_trans h2 (by omega), fun x hx => ?_⟩
      rcases List.mem_cons.1 hx with rfl | hx
      · exact h2
      · exact h3 x hx
    · rw [if_neg h]
      obtain ⟨h1, h2, h3⟩ := ih b
      refine ⟨h1.imp id fun hm => by simp [hm], h2, fun x hx => ?_⟩
      rcases List.mem_cons.1 hx with rfl | hx
      · exact kc_trans h2 (by have := kc_anti b x; omega)
      · exact h3 x hx
theorem maxS_spec : ∀ (l : List Val) (b : Val), (maxS b l = b ∨ maxS b l ∈ l) ∧ 0 ≤ kc (maxS b l) b ∧ ∀ x ∈ l, 0 ≤ kc (maxS b l) x := by
  intro l
  induction l with
  | nil => intro b; exact ⟨.inl rfl, by rw [maxS, kc_self]; exact Int.le_refl _, fun x h => by cases h⟩
  | cons a l ih =>
    intro b
    have up : ∀ {u v w : Val}, 0 ≤ kc u v → 0 ≤ kc v w → 0 ≤ kc u w := fun {u v w} h h' => by
      have h1 := kc_anti u v; have h2 := kc_anti v w; have h3 := kc_anti u w
      have := kc_trans (u := w) (v := v) (w := u) (by omega) (by omega)
      omega
    simp only [maxS]
    by_cases h : kc a b > 0
    · rw [if_pos h]
      obtain ⟨h1, h2, h3⟩ := ih a
      refine ⟨.inr (h1.elim (fun e => by rw [e]; simp) (fun hm => by simp [hm])), up h2 (by omega), fun x hx => ?_⟩
      rcases List.mem_cons.1 hx with rfl | hx
      · exact h2
      · exact h3 x hx
    · rw [if_neg h]
      obtain ⟨h1, h2, h3⟩ := ih b
      refine ⟨h1.imp id fun hm => by simp [hm], h2, fun x hx => ?_⟩
      rcases List.mem_cons.1 hx with rfl | hx
      · exact up h2 (by have := kc_anti b x; omega)
      · exact h3 x hx

theorem min_eq {n : Nat} (hn : n ≤ 1073741824) {v : Val} {l : List Val} (hv : ∀ x ∈ v :: l, OkV n x) (hl : l.length + 1 < n) : F_slices_MinFunc_api_Value_api_Value__value_Order n (v :: l) = some (minS v l) := by
  have loop : ∀ (m i : Nat) (b : Val), i ≤ l.length → l.length - i < m → OkV n b → loopK (F_slices_MinFunc_api_Value_api_Value__value_Order_l1 n (v :: l)) m (((i + 1 : Nat) : Int), match b with | .mk k b i s l ks => (k, b, i, s, l, ks)) = some (minS b (l.drop i)) := by
    intro m
    induction m with
    | zero => intro i _ _ h; omega
    | succ m ih =>
      intro i b hi hm hb
      rw [loopK_succ]
      generalize loopK (F_slices_MinFunc_api_Value_api_Value__value_Order_l1 n (v :: l)) m = nx at ih ⊢
      unfold F_slices_MinFunc_api_Value_api_Value__value_Order_l1
      simp only [valRows_len]
      obtain ⟨b1, b2, b3, b4, b5, b6⟩ := b
      by_cases hlt : i < l.length
      · obtain ⟨x, hx⟩ : ∃ x, l[i]? = some x := ⟨_, List.getElem?_eq_getElem hlt⟩
        have hx' : (v :: l)[i + 1]? = some x := by simpa using hx
        have okx := hv x (List.mem_of_getElem? hx')
        have ho := order_eq hn okx hb
        have hd : l.drop i = x :: l.drop (i + 1) := by
          obtain ⟨_, e⟩ := List.getElem?_eq_some_iff.1 hx
          rw [List.drop_eq_getElem_cons hlt, e]
        have nxt := ih (i + 1) x (by omega) (by omega) okx
        have nxb := ih (i + 1) _ (by omega) (by omega) hb
        rw [decide_eq_true (show ((i + 1 : Nat) : Int) < ((v :: l).length : Int) by simp; omega), hd]
        obtain ⟨a1, a2, a3, a4, a5, a6⟩ := x
        simp only [cond_true, Ax.idx_nat, hx', bnd_eq, ho, minS]
        by_cases hk : kc (Val.mk a1 a2 a3 a4 a5 a6) (Val.mk b1 b2 b3 b4 b5 b6) < 0
        · simp only [hk, decide_true, cond_true, if_true]
          unfold F_slices_MinFunc_api_Value_api_Value__value_Order_k3
          rw [wrapN (by omega)]
          exact nxt
        · simp only [hk, decide_false, cond_false, if_false]
          unfold F_slices_MinFunc_api_Value_api_Value__value_Order_k3
          rw [wrapN (by omega)]
          exact nxb
      · rw [decide_eq_false (show ¬ ((i + 1 : Nat) : Int) < ((v :: l).length : Int) by simp; omega), List.drop_eq_nil_of_le (by omega)]
        rfl
  unfold F_slices_MinFunc_api_Value_api_Value__value_Order
  have := loop n 0 v (Nat.zero_le _) (by omega) (hv v (by simp))
  obtain ⟨a1, a2, a3, a4, a5, a6⟩ := v
  rw [valRows_len, decide_eq_false (by simp; omega)]
  simp only [cond_false, idx0, bnd_eq]
  exact this
theorem max_eq {n : Nat} (hn : n ≤ 1073741824) {v : Val} {l : List Val} (hv : ∀ x ∈ v :: l, OkV n x) (hl : l.length + 1 < n) : F_slices_MaxFunc_api_Value_api_Value__value_Order n (v :: l) = some (maxS v l) := by
  have loop : ∀ (m i : Nat) (b : Val), i ≤ l.length → l.length - i < m → OkV n b → loopK (F_slices_MaxFunc_api_Value_api_Value__value_Order_l1 n (v :: l)) m (((i + 1 : Nat) : Int), match b with | .mk k b i s l ks => (k, b, i, s, l, ks)) = some (maxS b (l.drop i)) := by
    intro m
    induction m with
    | zero => intro i _ _ h; omega
    | succ m ih =>
      intro i b hi hm hb
      rw [loopK_succ]
      generalize loopK (F_slices_MaxFunc_api_Value_api_Value__value_Order_l1 n (v :: l)) m = nx at ih ⊢
      unfold F_slices_MaxFunc_api_Value_api_Value__value_Order_l1
      simp only [valRows_len]
      obtain ⟨b1, b2, b3, b4, b5, b6⟩ := b
      by_cases hlt : i < l.length
      · obtain ⟨x, hx⟩ : ∃ x, l[i]? = some x := ⟨_, List.getElem?_eq_getElem hlt⟩
        have hx' : (v :: l)[i + 1]? = some x := by simpa using hx
        have okx := hv x (List.mem_of_getElem? hx')
        have ho := order_eq hn okx hb
        have hd : l.drop i = x :: l.drop (i + 1) := by
          obtain ⟨_, e⟩ := List.getElem?_eq_some_iff.1 hx
          rw [List.drop_eq_getElem_cons hlt, e]
        have nxt := ih (i + 1) x (by omega) (by omega) okx
        have nxb := ih (i + 1) _ (by omega) (by omega) hb
        rw [decide_eq_true (show ((i + 1 : Nat) : Int) < ((v :: l).length : Int) by simp; omega), hd]
        obtain ⟨a1, a2, a3, a4, a5, a6⟩ := x
        simp only [cond_true, Ax.idx_nat, hx', bnd_eq, ho, maxS]
        by_cases hk : kc (Val.mk a1 a2 a3 a4 a5 a6) (Val.mk b1 b2 b3 b4 b5 b6) > 0
        · simp only [hk, decide_true, cond_true, if_true]
          unfold F_slices_MaxFunc_api_Value_api_Value__value_Order_k3
          rw [wrapN (by omega)]
          exact nxt
        · simp only [hk, decide_false, cond_false, if_false]
          unfold F_slices_MaxFunc_api_Value_api_Value__value_Order_k3
          rw [wrapN (by omega)]
          exact nxb
      · rw [decide_eq_false (show ¬ ((i + 1 : Nat) : Int) < ((v :: l).length : Int) by simp; omega), List.drop_eq_nil_of_le (by omega)]
        rfl
  unfold F_slices_MaxFunc_api_Value_api_Value__value_Order
  have := loop n 0 v (Nat.zero_le _) (by omega) (hv v (by simp))
  obtain ⟨a1, a2, a3, a4, a5, a6⟩ := v
  rw [valRows_len, decide_eq_false (by simp; omega)]
  simp only [cond_false, idx0, bnd_eq]
  exact this

/-- The least of a column, or null. -/
def leastS : List Val → Val
  | [] => nullV
  | v :: l => minS v l
def mostS : List Val → Val
  | [] => nullV
  | v :: l => maxS v l
theorem gmin_eq {n : Nat} (hn : n ≤ 1073741824) {c : List Val} (hv : ∀ x ∈ c, OkV n x) (hl : c.length + 1 < n) : F_rows_gather n [109, 105, 110] c = some (leastS c, 0) := by
  unfold F_rows_gather
  rw [show (([109, 105, 110] : List UInt8) == [99, 111, 117, 110, 116]) = false from rfl, show (([109, 105, 110] : List UInt8) == [115, 117, 109]) = false from rfl, show (([109, 105, 110] : List UInt8) == [99, 111, 108, 108, 101, 99, 116]) = false from rfl, show (([109, 105, 110] : List UInt8) == [109, 105, 110]) = true from rfl]
  simp only [cond_false, cond_true, valRows_len]
  cases c with
  | nil => rfl
  | cons v l =>
    have e : (((((v :: l).length : Nat) : Int)) == 0) = false := by simp; omega
    rw [e, cond_false, min_eq hn hv (by simp at hl; omega), bnd_eq]
    simp only [leastS]
    obtain ⟨_, _, _, _, _, _⟩ := minS v l
    rfl
theorem gmax_eq {n : Nat} (hn : n ≤ 1073741824) {c : List Val} (hv : ∀ x ∈ c, OkV n x) (hl : c.length + 1 < n) : F_rows_gather n [109, 97, 120] c = some (mostS c, 0) := by
  unfold F_rows_gather
  rw [show (([109, 97, 120] : List UInt8) == [99, 111, 117, 110, 116]) = false from rfl, show (([109, 97, 120] : List UInt8) == [115, 117, 109]) = false from rfl, show (([109, 97, 120] : List UInt8) == [99, 111, 108, 108, 101, 99, 116]) = false from rfl, show (([109, 97, 120] : List UInt8) == [109, 105, 110]) = false from rfl]
  simp only [cond_false, valRows_len]
  cases c with
  | nil => rfl
  | cons v l =>
    have e : (((((v :: l).length : Nat) : Int)) == 0) = false := by simp; omega
    rw [e, cond_false, max_eq hn hv (by simp at hl; omega), bnd_eq]
    simp only [mostS]
    obtain ⟨_, _, _, _, _, _⟩ := maxS v l
    rfl
theorem least_spec {c : List Val} (hc : c ≠ []) : leastS c ∈ c ∧ ∀ x ∈ c, kc (leastS c) x ≤ 0 := by
  cases c with
  | nil => exact absurd rfl hc
  | cons v l =>
    obtain ⟨h1, h2, h3⟩ := minS_spec l v
    refine ⟨h1.elim (fun e => by simp only [leastS, e]; simp) (fun h => by simp [leastS, h]), fun x hx => ?_⟩
    rcases List.mem_cons.1 hx with rfl | hx
    · exact h2
    · exact h3 x hx
theorem most_spec {c : List Val} (hc : c ≠ []) : mostS c ∈ c ∧ ∀ x ∈ c, 0 ≤ kc (mostS c) x := by
  cases c with
  | nil => exact absurd rfl hc
  | cons v l =>
    obtain ⟨h1, h2, h3⟩ := maxS_spec l v
    refine ⟨h1.elim (fun e => by simp only [mostS, e]; simp) (fun h => by simp [mostS, h]), fun x hx => ?_⟩
    rcases List.mem_cons.1 hx with rfl | hx
    · exact h2
    · exact h3 x hx
end W
end
section
open Go Go.Proofs Ax Go.RowKit
namespace W
set_option maxRecDepth 10000

theorem get_at {A : Type} {k : Nat} (P Q : List A) (x : A) (hk : k = P.length) : (P ++ x :: Q)[k]? = some x := by subst hk; simp
theorem set_at {A : Type} {k : Nat} (P Q : List A) (x y : A) (hk : k = P.length) : (P ++ x :: Q).set k y = P ++ y :: Q := by subst hk; simp
theorem get_at' {A : Type} {k : Nat} {d : List A} (P Q : List A) (x : A) (hd : d = P ++ x :: Q) (hk : k = P.length) : d[k]? = some x := by subst hd; exact get_at P Q x hk
theorem natI_eq {i : Int} (k : Nat) (h : i = (k : Int)) : natI i = some k := natI_of k h

section
variable (n N : Nat) (by_ : List (List Val)) (down : List Bool)

theorem swapRange_eq (hN : N ≤ 1000000) (X : List Int) : ∀ (Y P M Q : List Int) (i m : Nat) (a b c : Int), X.length = Y.length → (P ++ X ++ M ++ Y ++ Q).length = N → a + i = (P.length : Int) → b + i = ((P.length + X.length + M.length : Nat) : Int) → c = ((i + X.length : Nat) : Int) → i + X.length ≤ N → X.length < m →
    loopK (F_slices_swapRangeCmpFunc_int__rows_Sort_c1_l1 n c b N a) m ((i : Int), P ++ X ++ M ++ Y ++ Q) = some (P ++ Y ++ M ++ X ++ Q) := by
  induction X with
  | nil =>
    intro Y P M Q i m a b c hl hn ha hb hc hi hm
    obtain ⟨m, rfl⟩ : ∃ k, m = k + 1 := ⟨m - 1, by simp at hm; omega⟩
    obtain rfl : Y = [] := List.eq_nil_of_length_eq_zero (by simpa using hl.symm)
    rw [loopK_succ]
    unfold F_slices_swapRangeCmpFunc_int__rows_Sort_c1_l1
    simp only
    rw [decide_eq_false (by simp at hc; omega)]
    rfl
  | cons x X ih =>
    intro Y P M Q i m a b c hl hn ha hb hc hi hm
    cases Y with
    | nil => simp at hl
    | cons y Y =>
    simp only [List.length_append, List.length_cons] at hn hl hb hc hm hi
    obtain ⟨m, rfl⟩ : ∃ k, m = k + 1 := ⟨m - 1, by omega⟩
    rw [loopK_succ]
    have nxt := ih Y (P ++ [y]) (M ++ [x]) Q (i + 1) m a b c (by omega) (by simp only [List.length_append, List.length_cons, List.length_nil]; omega) (by simp only [List.length_append, List.length_cons, List.length_nil]; omega) (by simp only [List.length_append, List.length_cons, List.length_nil]; omega) (by omega) (by omega) (by omega)
    generalize loopK (F_slices_swapRangeCmpFunc_int__rows_Sort_c1_l1 n c b N a) m = nx at nxt ⊢
    unfold F_slices_swapRangeCmpFunc_int__rows_Sort_c1_l1
    simp only
    have hd : P ++ (x :: X) ++ M ++ (y :: Y) ++ Q = P ++ x :: (X ++ M ++ y :: (Y ++ Q)) := by simp
    have hd2 : P ++ (x :: X) ++ M ++ (y :: Y) ++ Q = (P ++ x :: X ++ M) ++ y :: (Y ++ Q) := by simp
    have hd3 : P ++ y :: (X ++ M ++ y :: (Y ++ Q)) = (P ++ y :: X ++ M) ++ y :: (Y ++ Q) := by simp
    have w1 : natI (IntKind.i64.wrap (b + (i : Int))) = some (P.length + X.length + 1 + M.length) := natI_eq _ (by rw [wrapC (by omega) (by omega)]; omega)
    have w2 : natI (IntKind.i64.wrap (a + (i : Int))) = some P.length := natI_eq _ (by rw [wrapC (by omega) (by omega)]; omega)
    rw [decide_eq_true (by omega), w1, w2]
    simp only [cond_true, bnd_eq]
    rw [chk_dec (by omega), get_at' _ _ y hd2 (by simp; omega), bnd_eq, chk_dec (by omega), get_at' _ _ x hd rfl, bnd_eq, chk_dec (by omega), bnd_eq, chk_dec (by omega), hd, set_at _ _ _ _ rfl, hd3, get_at _ _ _ (by simp; omega), bnd_eq, set_at _ _ _ _ (by simp; omega), wrapN (by omega)]
    have e1 : P ++ y :: X ++ M ++ x :: (Y ++ Q) = P ++ [y] ++ X ++ (M ++ [x]) ++ Y ++ Q := by simp
    rw [e1, nxt]
    simp

theorem swap_eq (hn : 1000001 < n) (hN : N ≤ 1000000) {X Y P M Q : List Int} {a b c : Int} (hl : X.length = Y.length) (hlen : (P ++ X ++ M ++ Y ++ Q).length = N) (ha : a = (P.length : Int)) (hb : b = ((P.length + X.length + M.length : Nat) : Int)) (hc : c = (X.length : Int)) :
    F_slices_swapRangeCmpFunc_int__rows_Sort_c1 n N a b c by_ down (P ++ X ++ M ++ Y ++ Q) = some (P ++ Y ++ M ++ X ++ Q) := by
  unfold F_slices_swapRangeCmpFunc_int__rows_Sort_c1
  have := hlen
  simp only [List.length_append] at this
  exact swapRange_eq n N hN X Y P M Q 0 n a b c hl hlen (by simpa using ha) (by simpa using hb) (by simpa using hc) (by omega) (by omega)

theorem rotate_loop (hn : 1000001 < n) (hN : N ≤ 1000000) : ∀ (s : Nat) (X Y P Q : List Int) (m : Nat) (md : Int), X.length + Y.length = s → 1 ≤ X.length → 1 ≤ Y.length → (P ++ X ++ Y ++ Q).length = N → md = ((P.length + X.length : Nat) : Int) → s < m →
    loopK (F_slices_rotateCmpFunc_int__rows_Sort_c1_l1 n N md by_ down) m ((X.length : Int), (Y.length : Int), P ++ X ++ Y ++ Q) = some (P ++ Y ++ X ++ Q) := by
  intro s
  induction s using Nat.strongRecOn with
  | ind s ih =>
  intro X Y P Q m md hs hx hy hlen hmd hm
  obtain ⟨m, rfl⟩ : ∃ k, m = k + 1 := ⟨m - 1, by omega⟩
  rw [loopK_succ]
  have hlen' := hlen
  simp only [List.length_append] at hlen'
  have nxt := fun (s' : Nat) (h : s' < s) X Y P Q => ih s' h X Y P Q m md
  generalize loopK (F_slices_rotateCmpFunc_int__rows_Sort_c1_l1 n N md by_ down) m = nx at nxt ⊢
  unfold F_slices_rotateCmpFunc_int__rows_Sort_c1_l1
  simp only
  have w0 : IntKind.i64.wrap (md - (X.length : Int)) = (P.length : Int) := by rw [wrapC (by omega) (by omega)]; omega
  rcases Nat.lt_trichotomy X.length Y.length with h | h | h
  · -- the second is longer: its last part comes ahead
    have e : (((X.length : Int)) != ((Y.length : Int))) = true := by simp; omega
    obtain ⟨Y1, Y2, rfl, h2⟩ : ∃ Y1 Y2, Y = Y1 ++ Y2 ∧ Y2.length = X.length := ⟨Y.take (Y.length - X.length), Y.drop (Y.length - X.length), (List.take_append_drop _ _).symm, by simp; omega⟩
    simp only [List.length_append] at h hs hlen' hy
    have sw := swap_eq n N by_ down hn hN (X := X) (Y := Y2) (P := P) (M := Y1) (Q := Q) (a := (P.length : Int)) (b := ((P.length + X.length + Y1.length : Nat) : Int)) (c := (X.length : Int)) (by omega) (by rw [← hlen]; simp) rfl rfl rfl
    have w1 : IntKind.i64.wrap (IntKind.i64.wrap (md + ((Y1 ++ Y2).length : Int)) - (X.length : Int)) = ((P.length + X.length + Y1.length : Nat) : Int) := by
      simp only [List.length_append]
      rw [wrapC (i := md + _) (by omega) (by omega), wrapC (by omega) (by omega)]; omega
    have w2 : IntKind.i64.wrap (((Y1 ++ Y2).length : Int) - (X.length : Int)) = (Y1.length : Int) := by simp only [List.length_append]; rw [wrapC (by omega) (by omega)]; omega
    rw [e, decide_eq_false (show ¬ (X.length : Int) > ((Y1 ++ Y2).length : Int) by simp only [List.length_append]; omega)]
    simp only [cond_true, cond_false]
    rw [w0, w1, w2, show P ++ X ++ (Y1 ++ Y2) ++ Q = P ++ X ++ Y1 ++ Y2 ++ Q by simp, sw, bnd_eq]
    have := nxt (Y2.length + Y1.length) (by omega) Y2 Y1 P (X ++ Q) rfl (by omega) (by omega) (by rw [← hlen]; simp only [List.length_append]; omega) (by rw [hmd, h2]) (by omega)
    rw [h2] at this
    rw [show P ++ Y2 ++ Y1 ++ X ++ Q = P ++ Y2 ++ Y1 ++ (X ++ Q) by simp, this]
    simp
  · have e : (((X.length : Int)) != ((Y.length : Int))) = false := by simp [h]
    have sw := swap_eq n N by_ down hn hN (X := X) (Y := Y) (P := P) (M := []) (Q := Q) (a := (P.length : Int)) (b := md) (c := (X.length : Int)) h (by rw [← hlen]; simp) rfl (by simpa using hmd) rfl
    rw [e]
    simp only [cond_false]
    rw [w0]
    rw [show P ++ X ++ Y ++ Q = P ++ X ++ [] ++ Y ++ Q by simp, sw, bnd_eq]
    simp
  · have e : (((X.length : Int)) != ((Y.length : Int))) = true := by simp; omega
    obtain ⟨X1, X2, rfl, h2⟩ : ∃ X1 X2, X = X1 ++ X2 ∧ X1.length = Y.length := ⟨X.take Y.length, X.drop Y.length, (List.take_append_drop _ _).symm, by simp; omega⟩
    simp only [List.length_append] at h hs hlen' hx
    have sw := swap_eq n N by_ down hn hN (X := X1) (Y := Y) (P := P) (M := X2) (Q := Q) (a := (P.length : Int)) (b := md) (c := (Y.length : Int)) h2 (by rw [← hlen]; simp) rfl (by rw [hmd]; simp only [List.length_append]; omega) (by rw [h2])
    have w2 : IntKind.i64.wrap (((X1 ++ X2).length : Int) - (Y.length : Int)) = (X2.length : Int) := by simp only [List.length_append]; rw [wrapC (by omega) (by omega)]; omega
    rw [e, decide_eq_true (show ((X1 ++ X2).length : Int) > (Y.length : Int) by simp only [List.length_append]; omega)]
    simp only [cond_true]
    rw [w0, w2, show P ++ (X1 ++ X2) ++ Y ++ Q = P ++ X1 ++ X2 ++ Y ++ Q by simp, sw, bnd_eq]
    have := nxt (X2.length + X1.length) (by omega) X2 X1 (P ++ Y) Q rfl (by omega) (by omega) (by rw [← hlen]; simp only [List.length_append]; omega) (by rw [hmd]; simp only [List.length_append]; omega) (by omega)
    rw [h2] at this
    rw [this]
    simp

theorem rotate_eq (hn : 1000001 < n) (hN : N ≤ 1000000) {X Y P Q : List Int} {a md b : Int} (hx : 1 ≤ X.length) (hy : 1 ≤ Y.length) (hlen : (P ++ X ++ Y ++ Q).length = N) (ha : a = (P.length : Int)) (hmd : md = ((P.length + X.length : Nat) : Int)) (hb : b = ((P.length + X.length + Y.length : Nat) : Int)) :
    F_slices_rotateCmpFunc_int__rows_Sort_c1 n N a md b by_ down (P ++ X ++ Y ++ Q) = some (P ++ Y ++ X ++ Q) := by
  have hlen' := hlen
  simp only [List.length_append] at hlen'
  unfold F_slices_rotateCmpFunc_int__rows_Sort_c1
  rw [show IntKind.i64.wrap (md - a) = (X.length : Int) by rw [wrapC (by omega) (by omega)]; omega, show IntKind.i64.wrap (b - md) = (Y.length : Int) by rw [wrapC (by omega) (by omega)]; omega]
  exact rotate_loop n N by_ down hn hN _ X Y P Q n md rfl hx hy hlen hmd (by omega)
end
end W
end
section
open Go Go.Proofs Ax Go.RowKit
namespace W
set_option maxRecDepth 10000

/-- A comparison by which the program sorts places. -/
structure Cmp (n : Nat) (by_ : List (List Val)) (down : List Bool) (ok : Int → Prop) (C : Int → Int → Int) : Prop where
  eq : ∀ i j, ok i → ok j → F_rows_Sort_c1 n i j by_ down = some (C i j)
  anti : ∀ i j, C i j < 0 ↔ 0 < C j i
  trans : ∀ i j k, C i j ≤ 0 → C j k ≤ 0 → C i k ≤ 0
/-- Ahead, or alike and of a smaller place. -/
def Ahead (C : Int → Int → Int) (i j : Int) : Prop := C i j < 0 ∨ (C i j = 0 ∧ i < j)

section
variable {n N : Nat} {by_ : List (List Val)} {down : List Bool} {ok : Int → Prop} {C : Int → Int → Int} (h : Cmp n by_ down ok C)
include h
theorem Cmp.zero {i j : Int} (e : C i j = 0) : C j i = 0 := by
  have h1 := h.anti i j
  have h2 := h.anti j i
  omega
theorem Cmp.tr {i j k : Int} (a : Ahead C i j) (b : Ahead C j k) : Ahead C i k := by
  have t := h.trans i j k (by rcases a with a | a <;> omega) (by rcases b with b | b <;> omega)
  by_cases e : C i k = 0
  · refine .inr ⟨e, ?_⟩
    have e2 := h.zero e
    have t2 := h.trans k i j (by omega) (by rcases a with a | a <;> omega)
    have t3 := h.trans j k i (by rcases b with b | b <;> omega) (by omega)
    have a1 := h.anti j k
    have a2 := h.anti i j
    have a3 := h.anti k j
    have a4 := h.anti j i
    have hb : C j k = 0 := by rcases b with b | b <;> omega
    have ha : C i j = 0 := by rcases a with a | a <;> omega
    rcases a with a | a
    · omega
    · rcases b with b | b <;> omega
  · exact .inl (by omega)
theorem Cmp.asym {i j : Int} (a : Ahead C i j) (b : Ahead C j i) : i = j := by
  have h1 := h.anti i j
  have h2 := h.anti j i
  rcases a with a | ⟨a, a'⟩ <;> rcases b with b | ⟨b, b'⟩ <;> omega
theorem Cmp.of_lt {x t : Int} (hc : C x t < 0) : Ahead C x t := .inl hc
theorem Cmp.of_nlt {x t : Int} (hc : ¬ C x t < 0) (hi : t < x) : Ahead C t x := by
  have h1 := h.anti x t
  have h2 := h.anti t x
  by_cases e : C t x < 0
  · exact .inl e
  · exact .inr ⟨by omega, hi⟩
omit h
/-- A place moves ahead of those behind which it does not stand. -/
def mv (C : Int → Int → Int) (x : Int) : List Int → List Int → List Int
  | [], S => x :: S
  | t :: T, S => if C x t < 0 then mv C x T (t :: S) else (t :: T).reverse ++ x :: S
theorem mv_perm (x : Int) : ∀ T S : List Int, (mv C x T S).Perm (T.reverse ++ x :: S)
  | [], S => List.Perm.refl _
  | t :: T, S => by
    simp only [mv]
    split
    · refine (mv_perm x T (t :: S)).trans ?_
      simp only [List.reverse_cons, List.append_assoc, List.cons_append, List.nil_append]
      exact List.Perm.append_left _ (List.Perm.swap _ _ _)
    · exact List.Perm.refl _
theorem mv_len (x : Int) (T S : List Int) : (mv C x T S).length = T.length + 1 + S.length := by
  rw [(mv_perm x T S).length_eq]; simp; omega
include h
theorem mv_sorted (x : Int) : ∀ T S : List Int, (T.reverse ++ S).Pairwise (Ahead C) → (∀ s ∈ S, Ahead C x s) → (∀ t ∈ T, t < x) → (mv C x T S).Pairwise (Ahead C)
  | [], S, hs, hx, _ => by
    simp only [mv]
    exact List.Pairwise.cons hx (by simpa using hs)
  | t :: T, S, hs, hx, ht => by
    simp only [mv]
    split
    · rename_i hc
      refine mv_sorted x T (t :: S) (by simpa using hs) (fun s hs' => ?_) (fun s hs' => ht s (by simp [hs']))
      rcases List.mem_cons.1 hs' with rfl | hs'
      · exact .inl hc
      · exact hx s hs'
    · rename_i hc
      have htx : Ahead C t x := h.of_nlt hc (ht t (by simp))
      rw [List.pairwise_append] at hs
      obtain ⟨h1, h2, h3⟩ := hs
      rw [List.pairwise_append]
      refine ⟨h1, List.Pairwise.cons hx h2, fun a ha b hb => ?_⟩
      have hax : Ahead C a x := by
        simp only [List.reverse_cons, List.mem_append, List.mem_reverse, List.mem_singleton] at ha
        rcases ha with ha | rfl
        · have : Ahead C a t := by
            rw [List.reverse_cons, List.pairwise_append] at h1
            exact h1.2.2 a (by simpa using ha) t (by simp)
          exact h.tr this htx
        · exact htx
      rcases List.mem_cons.1 hb with rfl | hb
      · exact hax
      · exact h.tr hax (hx b hb)

theorem move_loop (hN : N ≤ 1000000) (x : Int) (nx1 : Int × List Int → Option (List Int)) (i7 : Int) (P : List Int) (a : Int) (ha : a = (P.length : Int)) (hx : ok x) : ∀ (T S Q : List Int) (m : Nat), (∀ t ∈ T, ok t) → (P ++ T.reverse ++ x :: S ++ Q).length = N → T.length < m →
    loopK (F_slices_insertionSortCmpFunc_int__rows_Sort_c1_l2 n a N by_ down nx1 i7) m (((P.length + T.length : Nat) : Int), P ++ T.reverse ++ x :: S ++ Q) = nx1 (IntKind.i64.wrap (i7 + 1), P ++ mv C x T S ++ Q) := by
  intro T
  induction T with
  | nil =>
    intro S Q m hok hlen hm
    obtain ⟨m, rfl⟩ : ∃ k, m = k + 1 := ⟨m - 1, by simp at hm; omega⟩
    rw [loopK_succ]
    unfold F_slices_insertionSortCmpFunc_int__rows_Sort_c1_l2
    simp only [List.length_nil, Nat.add_zero]
    rw [decide_eq_false (show ¬ (P.length : Int) > a by omega)]
    simp only [gsome, cond_false, bnd_eq, chk_t, mv, List.reverse_nil, List.append_nil]
  | cons t T ih =>
    intro S Q m hok hlen hm
    simp only [List.length_cons] at hm
    obtain ⟨m, rfl⟩ : ∃ k, m = k + 1 := ⟨m - 1, by omega⟩
    rw [loopK_succ]
    have hlen' := hlen
    simp only [List.length_append, List.length_cons, List.length_reverse] at hlen'
    have nxt := ih (t :: S) Q m (fun u hu => hok u (by simp [hu])) (by rw [← hlen]; simp) (by omega)
    generalize loopK (F_slices_insertionSortCmpFunc_int__rows_Sort_c1_l2 n a N by_ down nx1 i7) m = nx at nxt ⊢
    have hc := h.eq x t hx (hok t (by simp))
    have hd1 : P ++ (t :: T).reverse ++ x :: S ++ Q = (P ++ T.reverse ++ [t]) ++ x :: (S ++ Q) := by simp
    have hd2 : P ++ (t :: T).reverse ++ x :: S ++ Q = (P ++ T.reverse) ++ t :: (x :: (S ++ Q)) := by simp
    have hd3 : ((P ++ T.reverse ++ [t]) ++ t :: (S ++ Q)) = (P ++ T.reverse) ++ t :: (t :: (S ++ Q)) := by simp
    unfold F_slices_insertionSortCmpFunc_int__rows_Sort_c1_l2
    simp only [List.length_cons]
    have n1 : natI (((P.length + (T.length + 1) : Nat) : Int)) = some (P.length + T.length + 1) := natI_eq _ (by omega)
    have n2 : natI (IntKind.i64.wrap ((((P.length + (T.length + 1) : Nat) : Int)) - 1)) = some (P.length + T.length) := natI_eq _ (by rw [wrapC (by omega) (by omega)]; omega)
    have g1 : (P ++ (t :: T).reverse ++ x :: S ++ Q)[P.length + T.length + 1]? = some x := get_at' _ _ x hd1 (by simp; omega)
    have g2 : (P ++ (t :: T).reverse ++ x :: S ++ Q)[P.length + T.length]? = some t := get_at' _ _ t hd2 (by simp)
    rw [decide_eq_true (show ((P.length + (T.length + 1) : Nat) : Int) > a by omega), n1, n2]
    simp only [gsome_t, bnd_eq, cond_true]
    rw [chk_dec (by omega), g1]
    simp only [bnd_eq]
    rw [chk_dec (by omega), g2]
    simp only [bnd_eq, hc, mv]
    by_cases hlt : C x t < 0
    · rw [decide_eq_true hlt, if_pos hlt]
      simp only [cond_true]
      rw [chk_dec (by omega), chk_dec (by omega), chk_dec (by omega), chk_dec (by omega)]
      have s1 : (P ++ (t :: T).reverse ++ x :: S ++ Q).set (P.length + T.length + 1) t = (P ++ T.reverse ++ [t]) ++ t :: (S ++ Q) := by rw [hd1]; exact set_at _ _ _ _ (by simp; omega)
      have g3 : ((P ++ T.reverse ++ [t]) ++ t :: (S ++ Q))[P.length + T.length]? = some t := by rw [hd3]; exact get_at _ _ _ (by simp)
      have s2 : ((P ++ T.reverse ++ [t]) ++ t :: (S ++ Q)).set (P.length + T.length) x = P ++ T.reverse ++ x :: (t :: S) ++ Q := by rw [hd3, set_at _ _ _ _ (by simp)]; simp
      rw [s1, g3, bnd_eq, s2, show IntKind.i64.wrap (((P.length + (T.length + 1) : Nat) : Int) - 1) = ((P.length + T.length : Nat) : Int) by rw [wrapC (by omega) (by omega)]; omega, nxt]
    · rw [decide_eq_false hlt, if_neg hlt]
      simp only [cond_false]
      simp

theorem insertion_eq (hn : 1000001 < n) (hN : N ≤ 1000000) {P S Q : List Int} {a b : Int} (hlen : (P ++ S ++ Q).length = N) (ha : a = (P.length : Int)) (hb : b = ((P.length + S.length : Nat) : Int)) (hS : S.Pairwise (· < ·)) (hok : ∀ x ∈ S, ok x) :
    ∃ S', S'.Perm S ∧ S'.Pairwise (Ahead C) ∧ F_slices_insertionSortCmpFunc_int__rows_Sort_c1 n N a b by_ down (P ++ S ++ Q) = some (P ++ S' ++ Q) := by
  have hlen' := hlen
  simp only [List.length_append] at hlen'
  have loop : ∀ (V U : List Int) (m : Nat), U ≠ [] → (U ++ V).Perm S → U.Pairwise (Ahead C) → V.Pairwise (· < ·) → (∀ u ∈ U, ∀ v ∈ V, u < v) → V.length < m →
      ∃ S', S'.Perm S ∧ S'.Pairwise (Ahead C) ∧ loopK (F_slices_insertionSortCmpFunc_int__rows_Sort_c1_l1 n b a N by_ down) m (((P.length + U.length : Nat) : Int), P ++ U ++ V ++ Q) = some (P ++ S' ++ Q) := by
    intro V
    induction V with
    | nil =>
      intro U m hu hp hs _ _ hm
      obtain ⟨m, rfl⟩ : ∃ k, m = k + 1 := ⟨m - 1, by simp at hm; omega⟩
      refine ⟨U, by simpa using hp, hs, ?_⟩
      have := hp.length_eq
      simp only [List.append_nil] at this
      rw [loopK_succ]
      unfold F_slices_insertionSortCmpFunc_int__rows_Sort_c1_l1
      simp only
      rw [decide_eq_false (show ¬ ((P.length + U.length : Nat) : Int) < b by omega)]
      simp
    | cons x V ih =>
      intro U m hu hp hs hv huv hm
      simp only [List.length_cons] at hm
      obtain ⟨m, rfl⟩ : ∃ k, m = k + 1 := ⟨m - 1, by omega⟩
      have hpl := hp.length_eq
      simp only [List.length_append, List.length_cons] at hpl
      have hvx := List.pairwise_cons.1 hv
      have hmp := mv_perm (C := C) x U.reverse []
      simp only [List.reverse_reverse] at hmp
      have hml := mv_len (C := C) x U.reverse []
      simp only [List.length_reverse, List.length_nil, Nat.add_zero] at hml
      have hokx : ok x := hok x (hp.subset (by simp))
      have hms := mv_sorted h x U.reverse [] (by simpa using hs) (fun s hs => by cases hs) (fun t ht => huv t (by simpa using ht) x (by simp))
      obtain ⟨S', h1, h2, h3⟩ := ih (mv C x U.reverse []) m (fun e => by rw [e] at hml; simp at hml) (by
        refine List.Perm.trans ?_ hp
        refine (hmp.append_right V).trans ?_
        simp) hms hvx.2 (fun u hu v hv' => by
          have := hmp.subset hu
          simp only [List.mem_append, List.mem_singleton] at this
          rcases this with hu | rfl
          · exact huv u hu v (by simp [hv'])
          · exact hvx.1 v hv') (by omega)
      refine ⟨S', h1, h2, ?_⟩
      rw [loopK_succ]
      generalize loopK (F_slices_insertionSortCmpFunc_int__rows_Sort_c1_l1 n b a N by_ down) m = nx at h3 ⊢
      unfold F_slices_insertionSortCmpFunc_int__rows_Sort_c1_l1
      simp only
      rw [decide_eq_true (show ((P.length + U.length : Nat) : Int) < b by omega)]
      simp only [cond_true]
      have mvl := move_loop h hN x nx ((P.length + U.length : Nat) : Int) P a ha hokx U.reverse [] (V ++ Q) n (fun t ht => hok t (hp.subset (by simp at ht; simp [ht]))) (by simp only [List.reverse_reverse, List.length_append, List.length_cons, List.length_nil]; omega) (by simp; omega)
      simp only [List.reverse_reverse, List.length_reverse] at mvl
      rw [show P ++ U ++ x :: V ++ Q = P ++ U ++ [x] ++ (V ++ Q) by simp, mvl, wrapN (by omega)]
      rw [hml] at h3
      rw [show P ++ mv C x U.reverse [] ++ (V ++ Q) = P ++ mv C x U.reverse [] ++ V ++ Q by simp, ← h3]
      rfl
  unfold F_slices_insertionSortCmpFunc_int__rows_Sort_c1
  cases S with
  | nil =>
    refine ⟨[], List.Perm.refl _, List.Pairwise.nil, ?_⟩
    obtain ⟨n, rfl⟩ : ∃ k, n = k + 1 := ⟨n - 1, by omega⟩
    rw [loopK_succ]
    unfold F_slices_insertionSortCmpFunc_int__rows_Sort_c1_l1
    simp only [List.length_nil] at hb
    simp only
    rw [decide_eq_false (by rw [wrapC (by omega) (by omega)]; omega)]
    simp
  | cons x V =>
    have hv := List.pairwise_cons.1 hS
    simp only [List.length_cons] at hlen'
    obtain ⟨S', h1, h2, h3⟩ := loop V [x] n (by simp) (List.Perm.refl _) (List.pairwise_singleton _ _) hv.2 (fun u hu v hv' => by simp at hu; subst hu; exact hv.1 v hv') (by omega)
    refine ⟨S', h1, h2, ?_⟩
    rw [← h3, show IntKind.i64.wrap (a + 1) = ((P.length + [x].length : Nat) : Int) by rw [wrapC (by omega) (by omega)]; simp; omega]
    congr 2
    simp
end
end W
end
section
open Go Go.Proofs Ax Go.RowKit
namespace W
set_option maxRecDepth 10000

theorem half_eq {x y : Int} {a b : Nat} (hx : x = (a : Int)) (hy : y = (b : Int)) (h : a + b ≤ 1099511627776) : IntKind.i64.wrap (Int.fdiv (IntKind.u64.wrap (IntKind.i64.wrap (x + y))) (2 ^ (min (Int.toNat (1 : Int)) IntKind.u64.bits))) = (((a + b) / 2 : Nat) : Int) := by
  subst hx hy
  have e1 : IntKind.i64.wrap ((a : Int) + (b : Int)) = ((a + b : Nat) : Int) := by rw [wrapC (by omega) (by omega)]; omega
  have e2 : IntKind.u64.wrap ((a + b : Nat) : Int) = ((a + b : Nat) : Int) := wrapU _ (by omega) (by omega)
  have e3 : (2 : Int) ^ (min (Int.toNat (1 : Int)) IntKind.u64.bits) = 2 := rfl
  rw [e1, e2, e3, Int.fdiv_eq_ediv_of_nonneg _ (by decide), wrapC (by omega) (by omega)]
  omega

section
variable {n N : Nat} {by_ : List (List Val)} {down : List Bool} {ok : Int → Prop} {C : Int → Int → Int} (h : Cmp n by_ down ok C)
include h
theorem Cmp.le_lt {i j k : Int} (a : C i j ≤ 0) (b : C j k < 0) : C i k < 0 := by
  have t := h.trans i j k a (by omega)
  by_cases e : C i k = 0
  · have e2 := h.zero e
    have t2 := h.trans k i j (by omega) a
    have := (h.anti j k).1 b
    omega
  · omega
theorem Cmp.lt_le {i j k : Int} (a : C i j < 0) (b : C j k ≤ 0) : C i k < 0 := by
  have t := h.trans i j k (by omega) b
  by_cases e : C i k = 0
  · have e2 := h.zero e
    have t2 := h.trans j k i b (by omega)
    have := (h.anti i j).1 a
    omega
  · omega
omit h
theorem Ahead.le {i j : Int} (a : Ahead C i j) : C i j ≤ 0 := by rcases a with a | a <;> omega

/-- A part of a sorted list ahead of a place has what the place has. -/
theorem take_all {V : List Int} {R : Int → Int → Prop} (hV : V.Pairwise R) {k : Nat} {x : Int} (hk : V[k]? = some x) {p : Int → Prop} (hp : p x) (hm : ∀ y, R y x → p y) : ∀ y ∈ V.take (k + 1), p y := by
  intro y hy
  obtain ⟨hlt, rfl⟩ := List.getElem?_eq_some_iff.1 hk
  obtain ⟨i, hi, rfl⟩ := List.getElem_of_mem hy
  rw [List.length_take] at hi
  rw [List.getElem_take]
  rcases Nat.lt_or_ge i k with h | h
  · exact hm _ (List.pairwise_iff_getElem.1 hV i k (by omega) hlt h)
  · obtain rfl : i = k := by omega
    exact hp
theorem drop_all {V : List Int} {R : Int → Int → Prop} (hV : V.Pairwise R) {k : Nat} {x : Int} (hk : V[k]? = some x) {p : Int → Prop} (hp : p x) (hm : ∀ y, R x y → p y) : ∀ y ∈ V.drop k, p y := by
  intro y hy
  obtain ⟨hlt, rfl⟩ := List.getElem?_eq_some_iff.1 hk
  obtain ⟨i, hi, rfl⟩ := List.getElem_of_mem hy
  rw [List.length_drop] at hi
  rw [List.getElem_drop]
  rcases Nat.eq_zero_or_pos i with h | h
  · subst h; exact hp
  · exact hm _ (List.pairwise_iff_getElem.1 hV k (k + i) hlt (by omega) (by omega))

/-- One place moves to the right. -/
theorem right_loop (hN : N ≤ 1000000) (u : Int) (e : Int) : ∀ (X P Y : List Int) (m : Nat), (P ++ u :: X ++ Y).length = N → e = ((P.length + X.length + 1 : Nat) : Int) → X.length < m →
    loopK (F_slices_symMergeCmpFunc_int__rows_Sort_c1_l5 n e N) m ((P.length : Int), P ++ u :: X ++ Y) = some (P ++ X ++ u :: Y) := by
  intro X
  induction X with
  | nil =>
    intro P Y m hlen he hm
    obtain ⟨m, rfl⟩ : ∃ k, m = k + 1 := ⟨m - 1, by simp at hm; omega⟩
    simp only [List.length_append, List.length_cons, List.length_nil] at hlen
    simp only [List.length_nil] at he
    rw [loopK_succ]
    unfold F_slices_symMergeCmpFunc_int__rows_Sort_c1_l5
    simp only
    rw [wrapC (by omega) (by omega), decide_eq_false (by omega)]
    simp
  | cons x X ih =>
    intro P Y m hlen he hm
    simp only [List.length_cons] at hm he
    have hlen' := hlen
    simp only [List.length_append, List.length_cons] at hlen'
    obtain ⟨m, rfl⟩ : ∃ k, m = k + 1 := ⟨m - 1, by omega⟩
    have nxt := ih (P ++ [x]) Y m (by rw [← hlen]; simp) (by simp; omega) (by omega)
    rw [loopK_succ]
    generalize loopK (F_slices_symMergeCmpFunc_int__rows_Sort_c1_l5 n e N) m = nx at nxt ⊢
    unfold F_slices_symMergeCmpFunc_int__rows_Sort_c1_l5
    simp only
    rw [wrapC (by omega) (by omega), decide_eq_true (by omega)]
    simp only [cond_true]
    unfold F_slices_symMergeCmpFunc_int__rows_Sort_c1_k32
    have hd1 : P ++ u :: x :: X ++ Y = (P ++ [u]) ++ x :: (X ++ Y) := by simp
    have hd2 : P ++ u :: x :: X ++ Y = P ++ u :: (x :: X ++ Y) := by simp
    have hd3 : P ++ x :: (x :: X ++ Y) = (P ++ [x]) ++ x :: (X ++ Y) := by simp
    have n1 : natI (IntKind.i64.wrap ((P.length : Int) + 1)) = some (P.length + 1) := natI_eq _ (by rw [wrapN (by omega)])
    rw [n1, Ax.natI_nat]
    simp only [bnd_eq]
    rw [chk_dec (by omega), get_at' _ _ x hd1 (by simp), bnd_eq, chk_dec (by omega), get_at' _ _ u hd2 rfl, bnd_eq, chk_dec (by omega), bnd_eq, chk_dec (by omega), hd2, set_at _ _ _ _ rfl, hd3, get_at _ _ _ (by simp), bnd_eq, set_at _ _ _ _ (by simp), wrapN (by omega)]
    rw [show P ++ [x] ++ u :: (X ++ Y) = P ++ [x] ++ u :: X ++ Y by simp, show ((P.length + 1 : Nat) : Int) = ((P ++ [x]).length : Int) by simp, nxt]
    simp
/-- One place moves to the left. -/
theorem left_loop (hN : N ≤ 1000000) (v : Int) (e : Int) (P : List Int) (he : e = (P.length : Int)) : ∀ (T Y : List Int) (m : Nat), (P ++ T.reverse ++ v :: Y).length = N → T.length < m →
    loopK (F_slices_symMergeCmpFunc_int__rows_Sort_c1_l3 n e N) m (((P.length + T.length : Nat) : Int), P ++ T.reverse ++ v :: Y) = some (P ++ v :: (T.reverse ++ Y)) := by
  intro T
  induction T with
  | nil =>
    intro Y m hlen hm
    obtain ⟨m, rfl⟩ : ∃ k, m = k + 1 := ⟨m - 1, by simp at hm; omega⟩
    rw [loopK_succ]
    unfold F_slices_symMergeCmpFunc_int__rows_Sort_c1_l3
    simp only
    rw [decide_eq_false (by simp; omega)]
    simp
  | cons x T ih =>
    intro Y m hlen hm
    simp only [List.length_cons] at hm
    have hlen' := hlen
    simp only [List.length_append, List.length_cons, List.length_reverse] at hlen'
    obtain ⟨m, rfl⟩ : ∃ k, m = k + 1 := ⟨m - 1, by omega⟩
    have nxt := ih (x :: Y) m (by rw [← hlen]; simp) (by omega)
    rw [loopK_succ]
    generalize loopK (F_slices_symMergeCmpFunc_int__rows_Sort_c1_l3 n e N) m = nx at nxt ⊢
    unfold F_slices_symMergeCmpFunc_int__rows_Sort_c1_l3
    simp only [List.length_cons]
    rw [decide_eq_true (by omega)]
    simp only [cond_true]
    unfold F_slices_symMergeCmpFunc_int__rows_Sort_c1_k26
    have hd1 : P ++ (x :: T).reverse ++ v :: Y = (P ++ T.reverse) ++ x :: (v :: Y) := by simp
    have hd2 : P ++ (x :: T).reverse ++ v :: Y = (P ++ T.reverse ++ [x]) ++ v :: Y := by simp
    have hd3 : (P ++ T.reverse ++ [x]) ++ x :: Y = (P ++ T.reverse) ++ x :: (x :: Y) := by simp
    have n1 : natI (((P.length + (T.length + 1) : Nat) : Int)) = some (P.length + T.length + 1) := natI_eq _ (by omega)
    have n2 : natI (IntKind.i64.wrap ((((P.length + (T.length + 1) : Nat) : Int)) - 1)) = some (P.length + T.length) := natI_eq _ (by rw [wrapC (by omega) (by omega)]; omega)
    rw [n1, n2]
    simp only [bnd_eq]
    rw [chk_dec (by omega), get_at' _ _ x hd1 (by simp), bnd_eq, chk_dec (by omega), get_at' _ _ v hd2 (by simp; omega), bnd_eq, chk_dec (by omega), bnd_eq, chk_dec (by omega), hd2, set_at _ _ _ _ (by simp; omega), hd3, get_at _ _ _ (by simp), bnd_eq, set_at _ _ _ _ (by simp)]
    rw [show IntKind.i64.wrap (((P.length + (T.length + 1) : Nat) : Int) - 1) = ((P.length + T.length : Nat) : Int) by rw [wrapC (by omega) (by omega)]; omega, nxt]
    simp

include h
/-- The first part is one place. -/
theorem first_one (hn : 1000001 < n) (hN : N ≤ 1000000) {u : Int} {V P Q : List Int} {b : Int} (hlen : (P ++ u :: V ++ Q).length = N) (hb : b = ((P.length + 1 + V.length : Nat) : Int)) (hV : V.Pairwise (Ahead C)) (hu : ok u) (hok : ∀ v ∈ V, ok v) (hlt : ∀ v ∈ V, u < v) {a m : Int} (ha : a = (P.length : Int)) (hm : m = ((P.length + 1 : Nat) : Int)) :
    ∃ W', W'.Perm (u :: V) ∧ W'.Pairwise (Ahead C) ∧ loopK (F_slices_symMergeCmpFunc_int__rows_Sort_c1_l4 n N (P ++ u :: V ++ Q) a by_ down) n (m, b) = some (P ++ W' ++ Q) := by
  have hlen' := hlen
  simp only [List.length_append, List.length_cons] at hlen'
  have loop : ∀ (s i j f : Nat), j - i = s → i ≤ j → j ≤ V.length → (∀ v ∈ V.take i, C v u < 0) → (∀ v ∈ V.drop j, ¬ C v u < 0) → s < f →
      ∃ V1 V2, V = V1 ++ V2 ∧ (∀ v ∈ V1, C v u < 0) ∧ (∀ v ∈ V2, ¬ C v u < 0) ∧ loopK (F_slices_symMergeCmpFunc_int__rows_Sort_c1_l4 n N (P ++ u :: V ++ Q) a by_ down) f (((P.length + 1 + i : Nat) : Int), ((P.length + 1 + j : Nat) : Int)) = some (P ++ V1 ++ u :: V2 ++ Q) := by
    intro s
    induction s using Nat.strongRecOn with
    | ind s ih =>
    intro i j f hs hij hj h1 h2 hf
    obtain ⟨f, rfl⟩ : ∃ k, f = k + 1 := ⟨f - 1, by omega⟩
    rw [loopK_succ]
    by_cases hlt' : i < j
    · have ih' := fun s' hs' i j => ih s' hs' i j f
      generalize loopK (F_slices_symMergeCmpFunc_int__rows_Sort_c1_l4 n N (P ++ u :: V ++ Q) a by_ down) f = nx at ih' ⊢
      unfold F_slices_symMergeCmpFunc_int__rows_Sort_c1_l4
      simp only
      rw [decide_eq_true (by omega)]
      simp only [cond_true]
      unfold F_slices_symMergeCmpFunc_int__rows_Sort_c1_k29
      have hh := half_eq (x := ((P.length + 1 + i : Nat) : Int)) (y := ((P.length + 1 + j : Nat) : Int)) rfl rfl (by omega)
      obtain ⟨k, hk⟩ : ∃ k, (P.length + 1 + i + (P.length + 1 + j)) / 2 = P.length + 1 + k := ⟨(i + j) / 2, by omega⟩
      rw [hk] at hh
      have hki : i ≤ k ∧ k < j := by omega
      obtain ⟨x, hx⟩ : ∃ x, V[k]? = some x := ⟨_, List.getElem?_eq_getElem (by omega)⟩
      have hxV := List.mem_of_getElem? hx
      have g1 : (P ++ u :: V ++ Q)[P.length + 1 + k]? = some x := by
        rw [show P ++ u :: V ++ Q = (P ++ [u]) ++ (V ++ Q) by simp, List.getElem?_append_right (by simp), List.getElem?_append_left (by simp; omega), ← hx]
        congr 1; simp
      have g2 : (P ++ u :: V ++ Q)[P.length]? = some u := get_at' _ _ u (show P ++ u :: V ++ Q = P ++ u :: (V ++ Q) by simp) rfl
      rw [hh, Ax.natI_nat, natI_eq P.length ha]
      simp only [bnd_eq]
      rw [chk_dec (by omega), g1, bnd_eq, chk_dec (by omega), g2, bnd_eq, h.eq x u (hok x hxV) hu, bnd_eq]
      by_cases hc : C x u < 0
      · rw [decide_eq_true hc]
        simp only [cond_true]
        rw [wrapN (by omega), show P.length + 1 + k + 1 = P.length + 1 + (k + 1) by omega]
        exact ih' (j - (k + 1)) (by omega) (k + 1) j rfl (by omega) hj (take_all hV hx hc (fun y hy => h.le_lt hy.le hc)) h2 (by omega)
      · rw [decide_eq_false hc]
        simp only [cond_false]
        exact ih' (k - i) (by omega) i k rfl (by omega) (by omega) h1 (drop_all hV hx hc (fun y hy hy2 => hc (h.le_lt hy.le hy2))) (by omega)
    · obtain rfl : i = j := by omega
      unfold F_slices_symMergeCmpFunc_int__rows_Sort_c1_l4
      simp only
      rw [decide_eq_false (by omega)]
      simp only [cond_false]
      refine ⟨V.take i, V.drop i, (List.take_append_drop _ _).symm, h1, h2, ?_⟩
      have := right_loop (n := n) hN u ((P.length + 1 + i : Nat) : Int) (V.take i) P (V.drop i ++ Q) n (by rw [← hlen]; simp; omega) (by rw [List.length_take]; omega) (by rw [List.length_take]; omega)
      rw [ha, show P ++ u :: V ++ Q = P ++ u :: V.take i ++ (V.drop i ++ Q) by rw [List.append_assoc, List.append_assoc, List.cons_append, List.cons_append, ← List.append_assoc (V.take i), List.take_append_drop], this]
      simp
  obtain ⟨V1, V2, rfl, p1, p2, e⟩ := loop V.length 0 V.length n (by omega) (Nat.zero_le _) (Nat.le_refl _) (by simp) (by simp) (by omega)
  rw [List.pairwise_append] at hV
  refine ⟨V1 ++ u :: V2, List.perm_middle, ?_, ?_⟩
  · rw [List.pairwise_append]
    refine ⟨hV.1, List.Pairwise.cons (fun v hv => h.of_nlt (p2 v hv) (hlt v (by simp [hv]))) hV.2.1, fun x hx y hy => ?_⟩
    rcases List.mem_cons.1 hy with rfl | hy
    · exact .inl (p1 x hx)
    · exact hV.2.2 x hx y hy
  · rw [hm, hb, show ((P.length + 1 : Nat) : Int) = ((P.length + 1 + 0 : Nat) : Int) by omega, e]
    simp
end
end W
end
section
open Go Go.Proofs Ax Go.RowKit
namespace W
set_option maxRecDepth 10000

section
variable {n N : Nat} {by_ : List (List Val)} {down : List Bool} {ok : Int → Prop} {C : Int → Int → Int} (h : Cmp n by_ down ok C)
include h
/-- The second part is one place. -/
theorem last_one (hn : 1000001 < n) (hN : N ≤ 1000000) {v : Int} {U P Q : List Int} {a m : Int} (hlen : (P ++ U ++ v :: Q).length = N) (ha : a = (P.length : Int)) (hm : m = ((P.length + U.length : Nat) : Int)) (hU : U.Pairwise (Ahead C)) (hv : ok v) (hok : ∀ u ∈ U, ok u) (hlt : ∀ u ∈ U, u < v) :
    ∃ W', W'.Perm (U ++ [v]) ∧ W'.Pairwise (Ahead C) ∧ loopK (F_slices_symMergeCmpFunc_int__rows_Sort_c1_l2 n m N (P ++ U ++ v :: Q) by_ down) n (a, m) = some (P ++ W' ++ Q) := by
  have hlen' := hlen
  simp only [List.length_append, List.length_cons] at hlen'
  have loop : ∀ (s i j f : Nat), j - i = s → i ≤ j → j ≤ U.length → (∀ u ∈ U.take i, ¬ C v u < 0) → (∀ u ∈ U.drop j, C v u < 0) → s < f →
      ∃ U1 U2, U = U1 ++ U2 ∧ (∀ u ∈ U1, ¬ C v u < 0) ∧ (∀ u ∈ U2, C v u < 0) ∧ loopK (F_slices_symMergeCmpFunc_int__rows_Sort_c1_l2 n m N (P ++ U ++ v :: Q) by_ down) f (((P.length + i : Nat) : Int), ((P.length + j : Nat) : Int)) = some (P ++ U1 ++ v :: (U2 ++ Q)) := by
    intro s
    induction s using Nat.strongRecOn with
    | ind s ih =>
    intro i j f hs hij hj h1 h2 hf
    obtain ⟨f, rfl⟩ : ∃ k, f = k + 1 := ⟨f - 1, by omega⟩
    rw [loopK_succ]
    by_cases hlt' : i < j
    · have ih' := fun s' hs' i j => ih s' hs' i j f
      generalize loopK (F_slices_symMergeCmpFunc_int__rows_Sort_c1_l2 n m N (P ++ U ++ v :: Q) by_ down) f = nx at ih' ⊢
      unfold F_slices_symMergeCmpFunc_int__rows_Sort_c1_l2
      simp only
      rw [decide_eq_true (by omega)]
      simp only [cond_true]
      unfold F_slices_symMergeCmpFunc_int__rows_Sort_c1_k23
      have hh := half_eq (x := ((P.length + i : Nat) : Int)) (y := ((P.length + j : Nat) : Int)) rfl rfl (by omega)
      obtain ⟨k, hk⟩ : ∃ k, (P.length + i + (P.length + j)) / 2 = P.length + k := ⟨(i + j) / 2, by omega⟩
      rw [hk] at hh
      have hki : i ≤ k ∧ k < j := by omega
      obtain ⟨x, hx⟩ : ∃ x, U[k]? = some x := ⟨_, List.getElem?_eq_getElem (by omega)⟩
      have hxU := List.mem_of_getElem? hx
      have g1 : (P ++ U ++ v :: Q)[P.length + k]? = some x := by
        rw [List.append_assoc, List.getElem?_append_right (by simp), List.getElem?_append_left (by simp; omega), ← hx]
        congr 1; simp
      have g2 : (P ++ U ++ v :: Q)[P.length + U.length]? = some v := get_at _ _ v (by simp)
      rw [hh, Ax.natI_nat, natI_eq (P.length + U.length) hm]
      simp only [bnd_eq]
      rw [chk_dec (by omega), g2, bnd_eq, chk_dec (by omega), g1, bnd_eq, h.eq v x hv (hok x hxU), bnd_eq]
      by_cases hc : C v x < 0
      · rw [decide_eq_true hc]
        simp only [Bool.not_true, cond_false]
        exact ih' (k - i) (by omega) i k rfl (by omega) (by omega) h1 (drop_all hU hx hc (fun y hy => h.lt_le hc hy.le)) (by omega)
      · rw [decide_eq_false hc]
        simp only [Bool.not_false, cond_true]
        rw [wrapN (by omega), show P.length + k + 1 = P.length + (k + 1) by omega]
        exact ih' (j - (k + 1)) (by omega) (k + 1) j rfl (by omega) hj (take_all hU hx hc (fun y hy hy2 => hc (h.lt_le hy2 hy.le))) h2 (by omega)
    · obtain rfl : i = j := by omega
      unfold F_slices_symMergeCmpFunc_int__rows_Sort_c1_l2
      simp only
      rw [decide_eq_false (by omega)]
      simp only [cond_false]
      refine ⟨U.take i, U.drop i, (List.take_append_drop _ _).symm, h1, h2, ?_⟩
      have := left_loop (n := n) hN v ((P.length + i : Nat) : Int) (P ++ U.take i) (by simp; omega) (U.drop i).reverse Q n (by rw [← hlen, List.reverse_reverse]; simp) (by simp; omega)
      rw [List.reverse_reverse] at this
      rw [show m = (((P ++ U.take i).length + (U.drop i).reverse.length : Nat) : Int) by rw [hm]; simp; omega, show P ++ U ++ v :: Q = P ++ U.take i ++ U.drop i ++ v :: Q by rw [List.append_assoc P (List.take i U), List.take_append_drop], this]
  obtain ⟨U1, U2, rfl, p1, p2, e⟩ := loop U.length 0 U.length n (by omega) (Nat.zero_le _) (Nat.le_refl _) (by simp) (by simp) (by omega)
  rw [List.pairwise_append] at hU
  refine ⟨U1 ++ v :: U2, ?_, ?_, ?_⟩
  · rw [List.append_assoc]
    exact (List.perm_append_comm (l₁ := [v]) (l₂ := U2)).append_left U1
  · rw [List.pairwise_append]
    refine ⟨hU.1, List.Pairwise.cons (fun u hu => .inl (p2 u hu)) hU.2.1, fun x hx y hy => ?_⟩
    rcases List.mem_cons.1 hy with rfl | hy
    · exact h.of_nlt (p1 x hx) (hlt x (by simp [hx]))
    · exact hU.2.2 x hx y hy
  · rw [ha, hm, show ((P.length : Nat) : Int) = ((P.length + 0 : Nat) : Int) by omega]
    rw [hm] at e
    rw [e]
    simp

/-- The place where the parts are cut. -/
theorem sym_search (hN : N ≤ 1000000) {U V P Q : List Int} {a m b : Int} (hlen : (P ++ U ++ V ++ Q).length = N) (ha : a = (P.length : Int)) (hm : m = ((P.length + U.length : Nat) : Int)) (hb : b = ((P.length + U.length + V.length : Nat) : Int)) (hu : ∀ u ∈ U, ok u) (hv : ∀ v ∈ V, ok v)
    (g : Nat → Int → Int → Int → (List (List Val)) → (List Bool) → (List Int) → Option ((List Int))) {s0 r0 hf : Nat} (hhf : hf = (U.length + V.length) / 2) (hr0 : r0 ≤ U.length) (hr0' : r0 ≤ hf) (hs0 : hf ≤ s0 + V.length) :
    ∀ (sz s r f : Nat), r - s = sz → s0 ≤ s → s ≤ r → r ≤ r0 →
      (s = s0 ∨ ∃ k u v, s = k + 1 ∧ U[k]? = some u ∧ V[hf - s]? = some v ∧ ¬ C v u < 0) →
      (r = r0 ∨ ∃ k u v, hf - r = k + 1 ∧ U[r]? = some u ∧ V[k]? = some v ∧ C v u < 0) → sz < f →
      ∃ t nx, s0 ≤ t ∧ t ≤ r0 ∧ (t = s0 ∨ ∃ k u v, t = k + 1 ∧ U[k]? = some u ∧ V[hf - t]? = some v ∧ ¬ C v u < 0) ∧
        (t = r0 ∨ ∃ k u v, hf - t = k + 1 ∧ U[t]? = some u ∧ V[k]? = some v ∧ C v u < 0) ∧
        loopK (F_slices_symMergeCmpFunc_int__rows_Sort_c1_l1 n a b m N (P ++ U ++ V ++ Q) by_ down g) f (((P.length + s : Nat) : Int), ((P.length + r : Nat) : Int)) =
          F_slices_symMergeCmpFunc_int__rows_Sort_c1_l1 n a b m N (P ++ U ++ V ++ Q) by_ down g nx (((P.length + t : Nat) : Int), ((P.length + t : Nat) : Int)) := by
  have hlen' := hlen
  simp only [List.length_append] at hlen'
  intro sz
  induction sz using Nat.strongRecOn with
  | ind sz ih =>
  intro s r f hsz h1 h2 h3 hA hB hfu
  obtain ⟨f, rfl⟩ : ∃ k, f = k + 1 := ⟨f - 1, by omega⟩
  rw [loopK_succ]
  by_cases hlt : s < r
  · have ih' := fun s' hs' i j => ih s' hs' i j f
    generalize loopK (F_slices_symMergeCmpFunc_int__rows_Sort_c1_l1 n a b m N (P ++ U ++ V ++ Q) by_ down g) f = nx at ih' ⊢
    conv => enter [1, t, 1, nx', 2, 2, 2, 2, 1]; unfold F_slices_symMergeCmpFunc_int__rows_Sort_c1_l1
    simp only
    rw [decide_eq_true (by omega)]
    simp only [cond_true]
    unfold F_slices_symMergeCmpFunc_int__rows_Sort_c1_k18
    have hh := half_eq (x := ((P.length + s : Nat) : Int)) (y := ((P.length + r : Nat) : Int)) rfl rfl (by omega)
    obtain ⟨c, hc⟩ : ∃ c, (P.length + s + (P.length + r)) / 2 = P.length + c := ⟨(s + r) / 2, by omega⟩
    rw [hc] at hh
    have hcr : s ≤ c ∧ c < r := by omega
    have hmid := half_eq (x := a) (y := b) ha hb (by omega)
    rw [show (P.length + (P.length + U.length + V.length)) / 2 = P.length + hf by omega] at hmid
    obtain ⟨u, hu'⟩ : ∃ x, U[c]? = some x := ⟨_, List.getElem?_eq_getElem (by omega)⟩
    obtain ⟨v, hv'⟩ : ∃ x, V[hf - 1 - c]? = some x := ⟨_, List.getElem?_eq_getElem (by omega)⟩
    have g1 : (P ++ U ++ V ++ Q)[P.length + c]? = some u := by
      rw [List.append_assoc, List.append_assoc, List.getElem?_append_right (by simp), List.getElem?_append_left (by simp; omega), ← hu']
      congr 1; simp
    have g2 : (P ++ U ++ V ++ Q)[P.length + U.length + (hf - 1 - c)]? = some v := by
      rw [List.append_assoc, List.getElem?_append_right (by simp), List.getElem?_append_left (by simp; omega), ← hv']
      congr 1; simp
    have e1 : natI (IntKind.i64.wrap (IntKind.i64.wrap (IntKind.i64.wrap (((P.length + hf : Nat) : Int) + m) - 1) - ((P.length + c : Nat) : Int))) = some (P.length + U.length + (hf - 1 - c)) := by
      apply natI_eq
      rw [hm, wrapC (i := ((P.length + hf : Nat) : Int) + ((P.length + U.length : Nat) : Int)) (by omega) (by omega), wrapC (i := _ - 1) (by omega) (by omega), wrapC (by omega) (by omega)]
      omega
    rw [hh, hmid, e1, Ax.natI_nat]
    simp only [bnd_eq]
    rw [chk_dec (by omega), g2, bnd_eq, chk_dec (by omega), g1, bnd_eq, h.eq v u (hv v (List.mem_of_getElem? hv')) (hu u (List.mem_of_getElem? hu')), bnd_eq]
    by_cases hcm : C v u < 0
    · rw [decide_eq_true hcm]
      simp only [Bool.not_true, cond_false]
      have hz : c - s < sz ∧ hf - c = hf - 1 - c + 1 ∧ c - s < f := by clear hA hB ih' ih; omega
      exact ih' (c - s) hz.1 s c rfl h1 hcr.1 (by clear hA hB ih' ih; omega) hA (.inr ⟨hf - 1 - c, u, v, hz.2.1, hu', hv', hcm⟩) hz.2.2
    · rw [decide_eq_false hcm]
      simp only [Bool.not_false, cond_true]
      rw [wrapN (by omega), show P.length + c + 1 = P.length + (c + 1) by omega]
      have hz : r - (c + 1) < sz ∧ s0 ≤ c + 1 ∧ c + 1 ≤ r ∧ r - (c + 1) < f ∧ hf - (c + 1) = hf - 1 - c := by clear hA hB ih' ih; omega
      exact ih' (r - (c + 1)) hz.1 (c + 1) r rfl hz.2.1 hz.2.2.1 h3 (.inr ⟨c, u, v, rfl, hu', by rw [hz.2.2.2.2]; exact hv', hcm⟩) hB hz.2.2.2.1
  · obtain rfl : s = r := by omega
    exact ⟨s, _, h1, h3, hA, hB, rfl⟩

omit h
theorem two_parts {U V : List Int} {k : Nat} : U = U.take k ++ U.drop k := (List.take_append_drop _ _).symm

/-- The first halves stand ahead of the second halves. -/
theorem cut_ahead {n : Nat} (h : Cmp n by_ down ok C) {U V : List Int} (hU : U.Pairwise (Ahead C)) (hV : V.Pairwise (Ahead C)) (hlt : ∀ u ∈ U, ∀ v ∈ V, u < v) {s0 r0 hf t : Nat} (hs : s0 = 0 ∨ V.length ≤ hf - s0) (hr : r0 = U.length ∨ r0 = hf)
    (hA : t = s0 ∨ ∃ k u v, t = k + 1 ∧ U[k]? = some u ∧ V[hf - t]? = some v ∧ ¬ C v u < 0) (hB : t = r0 ∨ ∃ k u v, hf - t = k + 1 ∧ U[t]? = some u ∧ V[k]? = some v ∧ C v u < 0) :
    ∀ x ∈ U.take t ++ V.take (hf - t), ∀ y ∈ U.drop t ++ V.drop (hf - t), Ahead C x y := by
  have hU' : (U.take t ++ U.drop t).Pairwise (Ahead C) := by rwa [List.take_append_drop]
  have hV' : (V.take (hf - t) ++ V.drop (hf - t)).Pairwise (Ahead C) := by rwa [List.take_append_drop]
  rw [List.pairwise_append] at hU' hV'
  intro x hx y hy
  rcases List.mem_append.1 hx with hx | hx <;> rcases List.mem_append.1 hy with hy | hy
  · exact hU'.2.2 x hx y hy
  · rcases hA with rfl | ⟨k, u, v, e, h1, h2, h3⟩
    · rcases hs with hs | hs
      · subst hs; simp at hx
      · rw [List.drop_eq_nil_of_le hs] at hy; simp at hy
    · rw [e] at hx
      have q1 := take_all hU h1 (p := fun z => ¬ C v z < 0) h3 (fun z hz hz2 => h3 (h.lt_le hz2 hz.le)) x hx
      have q2 := drop_all hV h2 (p := fun z => ¬ C z x < 0) q1 (fun z hz hz2 => q1 (h.le_lt hz.le hz2)) y hy
      exact h.of_nlt q2 (hlt x (List.mem_of_mem_take hx) y (List.mem_of_mem_drop hy))
  · rcases hB with rfl | ⟨k, u, v, e, h1, h2, h3⟩
    · rcases hr with hr | hr
      · rw [hr, List.drop_length] at hy; simp at hy
      · rw [hr, Nat.sub_self] at hx; simp at hx
    · rw [e] at hx
      have q1 := take_all hV h2 (p := fun z => C z u < 0) h3 (fun z hz => h.le_lt hz.le h3) x hx
      exact .inl (drop_all hU h1 (p := fun z => C x z < 0) q1 (fun z hz => h.lt_le q1 hz.le) y hy)
  · exact hV'.2.2 x hx y hy
end

section
variable {N : Nat} {by_ : List (List Val)} {down : List Bool} {ok : Int → Prop} {C : Int → Int → Int} (hC : ∀ n, 4000000 < n → Cmp n by_ down ok C)
include hC
set_option maxHeartbeats 4000000 in
theorem merge_eq (hN : N ≤ 1000000) : ∀ (sz : Nat) (U V P Q : List Int) (a m b : Int) (n : Nat), U.length + V.length = sz → 1 ≤ U.length → 1 ≤ V.length → (P ++ U ++ V ++ Q).length = N → a = (P.length : Int) → m = ((P.length + U.length : Nat) : Int) → b = ((P.length + U.length + V.length : Nat) : Int) →
    U.Pairwise (Ahead C) → V.Pairwise (Ahead C) → (∀ u ∈ U, ∀ v ∈ V, u < v) → (∀ u ∈ U, ok u) → (∀ v ∈ V, ok v) → 4000001 + sz < n →
    ∃ W', W'.Perm (U ++ V) ∧ W'.Pairwise (Ahead C) ∧ F_slices_symMergeCmpFunc_int__rows_Sort_c1 n N a m b by_ down (P ++ U ++ V ++ Q) = some (P ++ W' ++ Q) := by
  intro sz
  induction sz using Nat.strongRecOn with
  | ind sz ih =>
  intro U V P Q a m b n hsz hu1 hv1 hlen ha hm hb hU hV hlt hu hv hn
  obtain ⟨n, rfl⟩ : ∃ k, n = k + 1 := ⟨n - 1, by omega⟩
  have hlen' := hlen
  simp only [List.length_append] at hlen'
  have h := hC n (by omega)
  show ∃ W', _ ∧ _ ∧ BF_slices_symMergeCmpFunc_int__rows_Sort_c1 n (F_slices_symMergeCmpFunc_int__rows_Sort_c1 n) N a m b by_ down (P ++ U ++ V ++ Q) = _
  have ih' := fun s hs U V P Q a m b => ih s hs U V P Q a m b n
  clear ih
  generalize F_slices_symMergeCmpFunc_int__rows_Sort_c1 n = G at ih' ⊢
  unfold BF_slices_symMergeCmpFunc_int__rows_Sort_c1
  rw [show IntKind.i64.wrap (m - a) = (U.length : Int) by rw [wrapC (by omega) (by omega)]; omega]
  by_cases h1 : U.length = 1
  · obtain ⟨u, rfl⟩ := List.length_eq_one_iff.1 h1
    rw [show (((([u] : List Int).length : Nat) : Int) == 1) = true from rfl]
    simp only [cond_true]
    obtain ⟨W', p, q, e⟩ := first_one h (by omega) hN (u := u) (V := V) (P := P) (Q := Q) (b := b) (a := a) (m := m) (by rw [← hlen]; simp) (by rw [hb]; simp) hV (hu u (by simp)) hv (hlt u (by simp)) ha (by rw [hm]; simp)
    exact ⟨W', p, q, by rw [show P ++ [u] ++ V ++ Q = P ++ u :: V ++ Q by simp, e]⟩
  rw [show (((U.length : Nat) : Int) == 1) = false by simp; omega]
  simp only [cond_false]
  unfold F_slices_symMergeCmpFunc_int__rows_Sort_c1_k7
  rw [show IntKind.i64.wrap (b - m) = (V.length : Int) by rw [wrapC (by omega) (by omega)]; omega]
  by_cases h2 : V.length = 1
  · obtain ⟨v, rfl⟩ := List.length_eq_one_iff.1 h2
    rw [show (((([v] : List Int).length : Nat) : Int) == 1) = true from rfl]
    simp only [cond_true]
    obtain ⟨W', p, q, e⟩ := last_one h (by omega) hN (v := v) (U := U) (P := P) (Q := Q) (a := a) (m := m) (by rw [← hlen]; simp) ha hm hU (hv v (by simp)) hu (fun u hu => hlt u hu v (by simp))
    exact ⟨W', p, q, by rw [show P ++ U ++ [v] ++ Q = P ++ U ++ v :: Q by simp, e]⟩
  rw [show (((V.length : Nat) : Int) == 1) = false by simp; omega]
  simp only [cond_false]
  obtain ⟨hf, hhf⟩ : ∃ k, k = (U.length + V.length) / 2 := ⟨_, rfl⟩
  have hmid := half_eq (x := a) (y := b) ha hb (by omega)
  rw [show (P.length + (P.length + U.length + V.length)) / 2 = P.length + hf by omega] at hmid
  have enn : IntKind.i64.wrap (((P.length + hf : Nat) : Int) + m) = ((P.length + hf + (P.length + U.length) : Nat) : Int) := by rw [hm, wrapC (by omega) (by omega)]; omega
  -- where the search begins
  obtain ⟨s0, r0, hs0, hs0', hr0, hr0', hr0'', hsr, ek⟩ : ∃ s0 r0 : Nat, (s0 = 0 ∨ V.length ≤ hf - s0) ∧ hf ≤ s0 + V.length ∧ r0 ≤ U.length ∧ r0 ≤ hf ∧ (r0 = U.length ∨ r0 = hf) ∧ s0 ≤ r0 ∧
      F_slices_symMergeCmpFunc_int__rows_Sort_c1_k14 n m a b N (P ++ U ++ V ++ Q) by_ down G () = loopK (F_slices_symMergeCmpFunc_int__rows_Sort_c1_l1 n a b m N (P ++ U ++ V ++ Q) by_ down G) n (((P.length + s0 : Nat) : Int), ((P.length + r0 : Nat) : Int)) := by
    unfold F_slices_symMergeCmpFunc_int__rows_Sort_c1_k14
    rw [hmid, enn]
    by_cases hd : hf < U.length
    · refine ⟨hf - V.length, hf, by omega, by omega, by omega, by omega, by omega, by omega, ?_⟩
      rw [decide_eq_true (by omega)]
      simp only [cond_true]
      unfold F_slices_symMergeCmpFunc_int__rows_Sort_c1_k15
      simp only
      rw [show IntKind.i64.wrap (((P.length + hf + (P.length + U.length) : Nat) : Int) - b) = ((P.length + (hf - V.length) : Nat) : Int) by rw [hb, wrapC (by omega) (by omega)]; omega]
    · refine ⟨0, U.length, by omega, by omega, by omega, by omega, by omega, by omega, ?_⟩
      rw [decide_eq_false (by omega)]
      simp only [cond_false]
      unfold F_slices_symMergeCmpFunc_int__rows_Sort_c1_k15
      simp only
      rw [← hm, show ((P.length + 0 : Nat) : Int) = a by rw [ha]; omega]
  rw [ek]
  obtain ⟨t, nx, ht1, ht2, hA, hB, e⟩ := sym_search h hN hlen ha hm hb hu hv G hhf hr0 hr0' hs0' (r0 - s0) s0 r0 n rfl (Nat.le_refl _) hsr (Nat.le_refl _) (.inl rfl) (.inl rfl) (by omega)
  have ca := cut_ahead h hU hV hlt hs0 hr0'' hA hB
  rw [e]
  clear e ek hA hB
  obtain ⟨q, hq⟩ : ∃ q, q = hf - t := ⟨_, rfl⟩
  rw [← hq] at ca
  have hql : q ≤ V.length := by omega
  have htl : t ≤ U.length := by omega
  obtain ⟨U1, hU1⟩ : ∃ l, l = U.take t := ⟨_, rfl⟩
  obtain ⟨U2, hU2⟩ : ∃ l, l = U.drop t := ⟨_, rfl⟩
  obtain ⟨V1, hV1⟩ : ∃ l, l = V.take q := ⟨_, rfl⟩
  obtain ⟨V2, hV2⟩ : ∃ l, l = V.drop q := ⟨_, rfl⟩
  have eU : U = U1 ++ U2 := by rw [hU1, hU2, List.take_append_drop]
  have eV : V = V1 ++ V2 := by rw [hV1, hV2, List.take_append_drop]
  have lU1 : U1.length = t := by rw [hU1, List.length_take]; omega
  have lV1 : V1.length = q := by rw [hV1, List.length_take]; omega
  rw [← hU1, ← hU2, ← hV1, ← hV2] at ca
  clear hU1 hU2 hV1 hV2
  subst eU eV
  simp only [List.length_append] at hlen' hm hb hhf hql htl hsz h1 h2 hu1 hv1
  rw [List.pairwise_append] at hU hV
  unfold F_slices_symMergeCmpFunc_int__rows_Sort_c1_l1
  simp only
  rw [decide_eq_false (by omega)]
  simp only [cond_false]
  rw [hmid]
  have een : IntKind.i64.wrap (IntKind.i64.wrap (((P.length + hf : Nat) : Int) + m) - ((P.length + t : Nat) : Int)) = ((P.length + t + U2.length + q : Nat) : Int) := by
    rw [hm, wrapC (i := ((P.length + hf : Nat) : Int) + _) (by omega) (by omega), wrapC (by omega) (by omega)]; omega
  rw [een]
  -- after the turn
  have turn : ∀ R, F_slices_symMergeCmpFunc_int__rows_Sort_c1_k19 n a ((P.length + t : Nat) : Int) b G N by_ down m (P ++ U1 ++ V1 ++ U2 ++ V2 ++ Q) = R →
      (bif (bif (decide (((P.length + t : Nat) : Int) < m)) then (decide (m < ((P.length + t + U2.length + q : Nat) : Int))) else false) then
        bnd (F_slices_rotateCmpFunc_int__rows_Sort_c1 n N ((P.length + t : Nat) : Int) m ((P.length + t + U2.length + q : Nat) : Int) by_ down (P ++ (U1 ++ U2) ++ (V1 ++ V2) ++ Q)) fun x21 => F_slices_symMergeCmpFunc_int__rows_Sort_c1_k19 n a ((P.length + t : Nat) : Int) b G N by_ down m x21
      else F_slices_symMergeCmpFunc_int__rows_Sort_c1_k19 n a ((P.length + t : Nat) : Int) b G N by_ down m (P ++ (U1 ++ U2) ++ (V1 ++ V2) ++ Q)) = R := by
    intro R hR
    by_cases c1 : 1 ≤ U2.length ∧ 1 ≤ q
    · rw [decide_eq_true (by omega), decide_eq_true (by omega)]
      simp only [cond_true]
      rw [show P ++ (U1 ++ U2) ++ (V1 ++ V2) ++ Q = (P ++ U1) ++ U2 ++ V1 ++ (V2 ++ Q) by simp, rotate_eq n N by_ down (P := P ++ U1) (X := U2) (Y := V1) (Q := V2 ++ Q) (by omega) hN (by omega) (by omega) (by rw [← hlen]; simp) (by simp; omega) (by rw [hm]; simp; omega) (by simp; omega), bnd_eq, ← hR]
      simp
    · have e : P ++ (U1 ++ U2) ++ (V1 ++ V2) ++ Q = P ++ U1 ++ V1 ++ U2 ++ V2 ++ Q := by
        by_cases c2 : U2.length = 0
        · rw [List.length_eq_zero_iff.1 c2]; simp
        · rw [List.length_eq_zero_iff.1 (show V1.length = 0 by omega)]; simp
      have : (bif (decide (((P.length + t : Nat) : Int) < m)) then (decide (m < ((P.length + t + U2.length + q : Nat) : Int))) else false) = false := by
        by_cases c2 : U2.length = 0
        · rw [decide_eq_false (by omega)]; rfl
        · rw [decide_eq_false (p := m < _) (by omega)]; simp
      rw [this, e]
      simp only [cond_false]
      exact hR
  -- the first half
  obtain ⟨W1, p1, q1, e1⟩ : ∃ W1, W1.Perm (U1 ++ V1) ∧ W1.Pairwise (Ahead C) ∧ F_slices_symMergeCmpFunc_int__rows_Sort_c1_k19 n a ((P.length + t : Nat) : Int) b G N by_ down m (P ++ U1 ++ V1 ++ U2 ++ V2 ++ Q) =
      F_slices_symMergeCmpFunc_int__rows_Sort_c1_k20 n a b m ((P.length + t : Nat) : Int) G N by_ down (P ++ W1 ++ U2 ++ V2 ++ Q) := by
    unfold F_slices_symMergeCmpFunc_int__rows_Sort_c1_k19
    rw [hmid]
    by_cases c1 : 1 ≤ t ∧ 1 ≤ q
    · rw [decide_eq_true (by omega), decide_eq_true (by omega)]
      simp only [cond_true]
      obtain ⟨W1, p, q', e⟩ := ih' (U1.length + V1.length) (by omega) U1 V1 P (U2 ++ V2 ++ Q) a ((P.length + t : Nat) : Int) ((P.length + hf : Nat) : Int) rfl (by omega) (by omega) (by rw [← hlen]; simp; omega) ha (by omega) (by omega) hU.1 hV.1 (fun u hu v hv => hlt u (by simp [hu]) v (by simp [hv])) (fun u h => hu u (by simp [h])) (fun u h => hv u (by simp [h])) (by omega)
      refine ⟨W1, p, q', ?_⟩
      rw [show P ++ U1 ++ V1 ++ U2 ++ V2 ++ Q = P ++ U1 ++ V1 ++ (U2 ++ V2 ++ Q) by simp, e, bnd_eq]
      simp
    · have : (bif (decide (a < ((P.length + t : Nat) : Int))) then (decide (((P.length + t : Nat) : Int) < ((P.length + hf : Nat) : Int))) else false) = false := by
        by_cases c2 : t = 0
        · rw [decide_eq_false (by omega)]; rfl
        · rw [decide_eq_false (p := ((P.length + t : Nat) : Int) < _) (by omega)]; simp
      rw [this]
      simp only [cond_false]
      refine ⟨U1 ++ V1, List.Perm.refl _, ?_, by simp⟩
      by_cases c2 : t = 0
      · rw [List.length_eq_zero_iff.1 (show U1.length = 0 by omega)]; exact hV.1
      · rw [List.length_eq_zero_iff.1 (show V1.length = 0 by omega), List.append_nil]; exact hU.1
  have lW1 : W1.length = t + q := by rw [p1.length_eq, List.length_append]; omega
  -- the second half
  obtain ⟨W2, p2, q2, e2⟩ : ∃ W2, W2.Perm (U2 ++ V2) ∧ W2.Pairwise (Ahead C) ∧ F_slices_symMergeCmpFunc_int__rows_Sort_c1_k20 n a b m ((P.length + t : Nat) : Int) G N by_ down (P ++ W1 ++ U2 ++ V2 ++ Q) = some (P ++ W1 ++ W2 ++ Q) := by
    unfold F_slices_symMergeCmpFunc_int__rows_Sort_c1_k20
    rw [hmid, een]
    by_cases c1 : 1 ≤ U2.length ∧ 1 ≤ V2.length
    · rw [decide_eq_true (by omega), decide_eq_true (by omega)]
      simp only [cond_true]
      obtain ⟨W2, p, q', e⟩ := ih' (U2.length + V2.length) (by omega) U2 V2 (P ++ W1) Q ((P.length + hf : Nat) : Int) ((P.length + t + U2.length + q : Nat) : Int) b rfl (by omega) (by omega) (by rw [← hlen]; simp; omega) (by simp; omega) (by simp; omega) (by rw [hb]; simp; omega) hU.2.1 hV.2.1 (fun u hu v hv => hlt u (by simp [hu]) v (by simp [hv])) (fun u h => hu u (by simp [h])) (fun u h => hv u (by simp [h])) (by omega)
      refine ⟨W2, p, q', ?_⟩
      rw [e, bnd_eq]
    · have : (bif (decide (((P.length + hf : Nat) : Int) < ((P.length + t + U2.length + q : Nat) : Int))) then (decide (((P.length + t + U2.length + q : Nat) : Int) < b)) else false) = false := by
        by_cases c2 : U2.length = 0
        · rw [decide_eq_false (by omega)]; rfl
        · rw [decide_eq_false (p := _ < b) (by omega)]; simp
      rw [this]
      simp only [cond_false]
      refine ⟨U2 ++ V2, List.Perm.refl _, ?_, by simp⟩
      by_cases c2 : U2.length = 0
      · rw [List.length_eq_zero_iff.1 c2]; exact hV.2.1
      · rw [List.length_eq_zero_iff.1 (show V2.length = 0 by omega), List.append_nil]; exact hU.2.1
  refine ⟨W1 ++ W2, ?_, ?_, ?_⟩
  · refine (p1.append p2).trans ?_
    rw [List.append_assoc, List.append_assoc]
    refine List.Perm.append_left U1 ?_
    rw [← List.append_assoc, ← List.append_assoc]
    exact List.Perm.append_right V2 List.perm_append_comm
  · rw [List.pairwise_append]
    exact ⟨q1, q2, fun x hx y hy => ca x (p1.mem_iff.1 hx) y (p2.mem_iff.1 hy)⟩
  · refine turn _ ?_
    rw [e1, e2]
    simp
end
end W
end
section
open Go Go.Proofs Ax Go.RowKit
namespace W
set_option maxRecDepth 10000

theorem side_int (n : Nat) (a b : Int) : F_R03_side n (decide (a < b)) (decide (a > b)) = some (cmpI a b) := by
  unfold F_R03_side cmpI
  by_cases h1 : a < b
  · simp [h1]
  · by_cases h2 : b < a
    · simp [h1, h2]
    · simp [h1, h2]
theorem side_str (n : Nat) (a b : List UInt8) : F_R03_side n (Op.bytesLess a b) (!(Op.bytesLess a b || a == b)) = some (cb a b) := by
  obtain ⟨h1, h2, h3⟩ := cb_facts a b
  unfold F_R03_side
  rw [h1, h2]
  rcases h3 with h | h | h <;> rw [h] <;> rfl
theorem side_bool (n : Nat) (b b' : Bool) : F_R03_side n (bif (!b) then b' else false) (bif b then (!b') else false) = some (cmpI (if b then 1 else 0) (if b' then 1 else 0)) := by
  cases b <;> cases b' <;> rfl
theorem z0 : ((0 : Int) == 0) = true := rfl
theorem R03_place (n : Nat) (k : Int) (h0 : 0 ≤ k) (h1 : k ≤ 7) : F_R03_place n k = some (mark k) := by
  have : k = 0 ∨ k = 1 ∨ k = 2 ∨ k = 3 ∨ k = 4 ∨ k = 5 ∨ k = 6 ∨ k = 7 := by omega
  rcases this with h | h | h | h | h | h | h | h <;> subst h <;> rfl

section
variable {n : Nat} {g : Val → Val → Option Int} {l l' : List Val} {ks ks' : List (List UInt8)}

theorem R03_list (hn : 10 ≤ n) (hl : l.length ≤ 1099511627776) (hg : ∀ (i : Nat) (v v' : Val), l[i]? = some v → l'[i]? = some v' → ∃ c, g v v' = some c ∧ Ord v v' c) :
    ∀ (k i : Nat), l.length - i < k → i ≤ l.length → i ≤ l'.length → ∃ c, loopK (F_R03_Order_l1 n l l' 4 [] [] g) k (i : Int) = some c ∧
      ∀ r r', cb (layL (l.drop i) ++ 0 :: r) (layL (l'.drop i) ++ 0 :: r') = th c (cb r r') := by
  intro k
  induction k with
  | zero => intro i h; omega
  | succ k ih =>
    intro i hk hi hi'
    rw [loopK_succ]
    generalize loopK (F_R03_Order_l1 n l l' 4 [] [] g) k = nx at ih ⊢
    unfold F_R03_Order_l1
    simp only [valRows_len]
    rcases Nat.lt_or_ge i l.length with h | h
    · have d : decide ((i : Int) < (l.length : Int)) = true := by simp; omega
      obtain ⟨⟨k1, b1, i1, s1, l1, ks1⟩, hv⟩ : ∃ v, l[i]? = some v := ⟨_, List.getElem?_eq_getElem h⟩
      rcases Nat.lt_or_ge i l'.length with h' | h'
      · have d' : decide ((i : Int) < (l'.length : Int)) = true := by simp; omega
        obtain ⟨⟨k2, b2, i2, s2, l2, ks2⟩, hv'⟩ : ∃ v, l'[i]? = some v := ⟨_, List.getElem?_eq_getElem h'⟩
        obtain ⟨c, hc, ho⟩ := hg i _ _ hv hv'
        have e4 : ((4 : Int) == 5) = false := rfl
        simp only [d, d', cond_true, e4, cond_false]
        unfold F_R03_Order_k6
        simp only [z0, cond_true, Ax.idx_nat, hv, hv', bnd_eq, hc]
        unfold F_R03_Order_k7
        by_cases h0 : c = 0
        · subst h0
          have : ((0 : Int) != 0) = false := rfl
          rw [this, cond_false, wrap_nat i (by omega)]
          obtain ⟨c', hc', ho'⟩ := ih (i + 1) (by omega) h h'
          refine ⟨c', hc', fun r r' => ?_⟩
          rw [drop_consV hv, drop_consV hv']
          simp only [layL, List.append_assoc]
          rw [ho, th_zero, ho']
        · have : (c != 0) = true := by simpa using h0
          rw [this, cond_true]
          refine ⟨c, rfl, fun r r' => ?_⟩
          rw [drop_consV hv, drop_consV hv']
          simp only [layL, List.append_assoc]
          rw [ho, th_ne _ h0, th_ne _ h0]
      · have d' : decide ((i : Int) < (l'.length : Int)) = false := by simp; omega
        simp only [d, d', cond_true, cond_false, side_int, bnd_eq]
        refine ⟨_, rfl, fun r r' => ?_⟩
        rw [drop_consV hv, List.drop_eq_nil_of_le h']
        have hc : cmpI (l.length : Int) (l'.length : Int) = 1 := by unfold cmpI; rw [if_neg (by omega), if_pos (by omega)]
        rw [hc]
        simp only [layL, List.nil_append, List.append_assoc]
        rw [(cb_head0 _ _ _).2]
        rfl
    · have hil : i = l.length := by omega
      have d : decide ((i : Int) < (l.length : Int)) = false := by simp; omega
      simp only [d, cond_false, side_int, bnd_eq]
      refine ⟨_, rfl, fun r r' => ?_⟩
      rw [List.drop_eq_nil_of_le h]
      rcases Nat.lt_or_ge i l'.length with h' | h'
      · obtain ⟨v', hv'⟩ : ∃ v, l'[i]? = some v := ⟨_, List.getElem?_eq_getElem h'⟩
        have hc : cmpI (l.length : Int) (l'.length : Int) = -1 := by unfold cmpI; rw [if_pos (by omega)]
        rw [hc, drop_consV hv']
        simp only [layL, List.nil_append, List.append_assoc]
        rw [(cb_head0 _ _ _).1]
        rfl
      · have : l.length = l'.length := by omega
        rw [this, cmpI_self, List.drop_eq_nil_of_le h']
        simp only [layL, List.nil_append, cb_same]
        rfl

theorem R03_map (hn : 10 ≤ n) (hl : l.length ≤ 1099511627776) (hk1 : ks.length = l.length) (hk2 : ks'.length = l'.length) (hg : ∀ (i : Nat) (v v' : Val), l[i]? = some v → l'[i]? = some v' → ∃ c, g v v' = some c ∧ Ord v v' c) :
    ∀ (k i : Nat), l.length - i < k → i ≤ l.length → i ≤ l'.length → ∃ c, loopK (F_R03_Order_l1 n l l' 5 ks ks' g) k (i : Int) = some c ∧
      ∀ r r', cb (layK (l.drop i) (ks.drop i) ++ 0 :: r) (layK (l'.drop i) (ks'.drop i) ++ 0 :: r') = th c (cb r r') := by
  intro k
  induction k with
  | zero => intro i h; omega
  | succ k ih =>
    intro i hk hi hi'
    rw [loopK_succ]
    generalize loopK (F_R03_Order_l1 n l l' 5 ks ks' g) k = nx at ih ⊢
    unfold F_R03_Order_l1
    simp only [valRows_len]
    rcases Nat.lt_or_ge i l.length with h | h
    · have d : decide ((i : Int) < (l.length : Int)) = true := by simp; omega
      obtain ⟨⟨k1, b1, i1, s1, l1, ks1⟩, hv⟩ : ∃ v, l[i]? = some v := ⟨_, List.getElem?_eq_getElem h⟩
      obtain ⟨key, hkey⟩ : ∃ v, ks[i]? = some v := ⟨_, List.getElem?_eq_getElem (by omega)⟩
      rcases Nat.lt_or_ge i l'.length with h' | h'
      · have d' : decide ((i : Int) < (l'.length : Int)) = true := by simp; omega
        obtain ⟨⟨k2, b2, i2, s2, l2, ks2⟩, hv'⟩ : ∃ v, l'[i]? = some v := ⟨_, List.getElem?_eq_getElem h'⟩
        obtain ⟨key', hkey'⟩ : ∃ v, ks'[i]? = some v := ⟨_, List.getElem?_eq_getElem (by omega)⟩
        obtain ⟨c, hc, ho⟩ := hg i _ _ hv hv'
        have e4 : ((5 : Int) == 5) = true := rfl
        simp only [d, d', cond_true, e4, Ax.idx_nat, hkey, hkey', bnd_eq, side_str]
        have e : F_R03_Order_k6 n l (i : Int) l' g nx (cb key key') = F_R03_Order_k7 n nx (i : Int) (th (cb key key') c) := by
          unfold F_R03_Order_k6
          by_cases h0 : cb key key' = 0
          · rw [h0, th_zero]
            simp only [z0, cond_true, Ax.idx_nat, hv, hv', bnd_eq, hc]
          · rw [show (cb key key' == 0) = false by simpa using h0, th_ne _ h0]
            rfl
        rw [e]
        unfold F_R03_Order_k7
        have step : ∀ x y, cb (layK ((.mk k1 b1 i1 s1 l1 ks1) :: l.drop (i + 1)) (key :: ks.drop (i + 1)) ++ x) (layK ((.mk k2 b2 i2 s2 l2 ks2) :: l'.drop (i + 1)) (key' :: ks'.drop (i + 1)) ++ y) =
            th (th (cb key key') c) (cb (layK (l.drop (i + 1)) (ks.drop (i + 1)) ++ x) (layK (l'.drop (i + 1)) (ks'.drop (i + 1)) ++ y)) := by
          intro x y
          simp only [layK, List.append_assoc, List.cons_append]
          rw [cb_same, cb_ended, ho, th_assoc]
        by_cases h0 : th (cb key key') c = 0
        · rw [h0] at step ⊢
          have : ((0 : Int) != 0) = false := rfl
          rw [this, cond_false, wrap_nat i (by omega)]
          obtain ⟨c', hc', ho'⟩ := ih (i + 1) (by omega) h h'
          refine ⟨c', hc', fun r r' => ?_⟩
          rw [drop_consV hv, drop_consV hv', drop_consK hkey, drop_consK hkey', step, th_zero, ho']
        · have : (th (cb key key') c != 0) = true := by simpa using h0
          rw [this, cond_true]
          refine ⟨_, rfl, fun r r' => ?_⟩
          rw [drop_consV hv, drop_consV hv', drop_consK hkey, drop_consK hkey', step, th_ne _ h0, th_ne _ h0]
      · have d' : decide ((i : Int) < (l'.length : Int)) = false := by simp; omega
        simp only [d, d', cond_true, cond_false, side_int, bnd_eq]
        refine ⟨_, rfl, fun r r' => ?_⟩
        rw [drop_consV hv, drop_consK hkey, List.drop_eq_nil_of_le h']
        have hc : cmpI (l.length : Int) (l'.length : Int) = 1 := by unfold cmpI; rw [if_neg (by omega), if_pos (by omega)]
        rw [hc]
        simp only [layK, List.nil_append, List.append_assoc, List.cons_append]
        rw [cb_gt _ _ (by decide)]
        rfl
    · have hil : i = l.length := by omega
      have d : decide ((i : Int) < (l.length : Int)) = false := by simp; omega
      simp only [d, cond_false, side_int, bnd_eq]
      refine ⟨_, rfl, fun r r' => ?_⟩
      rw [List.drop_eq_nil_of_le h]
      rcases Nat.lt_or_ge i l'.length with h' | h'
      · obtain ⟨v', hv'⟩ : ∃ v, l'[i]? = some v := ⟨_, List.getElem?_eq_getElem h'⟩
        obtain ⟨key', hkey'⟩ : ∃ v, ks'[i]? = some v := ⟨_, List.getElem?_eq_getElem (by omega)⟩
        have hc : cmpI (l.length : Int) (l'.length : Int) = -1 := by unfold cmpI; rw [if_pos (by omega)]
        rw [hc, drop_consV hv', drop_consK hkey']
        simp only [layK, List.nil_append, List.append_assoc, List.cons_append]
        rw [cb_lt _ _ (by decide)]
        rfl
      · have : l.length = l'.length := by omega
        rw [this, cmpI_self, List.drop_eq_nil_of_le h']
        simp only [layK, List.nil_append, cb_same]
        rfl
end
set_option maxHeartbeats 4000000 in
theorem R03_eq : ∀ (m n : Nat) (a b : Val), a.big ≤ m → m ≤ 1099511627776 → m + 20 ≤ n → right a = true → right b = true → range64 a = true → range64 b = true → ∃ c, F_R03_Order n a b = some c ∧ Ord a b c := by
  intro m
  induction m with
  | zero => intro n a b h; exact absurd a.big_pos (by omega)
  | succ m ih =>
    rintro n ⟨k, b, i, s, l, ks⟩ ⟨k', b', i', s', l', ks'⟩ ha hm hn hr hr' hi hi'
    obtain ⟨n, rfl⟩ : ∃ j, n = j + 1 := ⟨n - 1, by omega⟩
    have hbig : 1 + s.length + bigs l + kbig ks ≤ m + 1 := ha
    have hll := bigs_len l
    show ∃ c, BF_R03_Order n (F_R03_Order n) _ _ = some c ∧ _
    have hg : ∀ (x : Nat) (v v' : Val), l[x]? = some v → l'[x]? = some v' → rightL l = true → rightL l' = true → range64L l = true → range64L l' = true → ∃ c, F_R03_Order n v v' = some c ∧ Ord v v' c := by
      intro x v v' hv hv' h1 h2 h3 h4
      have hb := bigs_mem (List.mem_of_getElem? hv)
      exact ih n v v' (by omega) (by omega) (by omega) (rightL_get h1 (List.mem_of_getElem? hv)) (rightL_get h2 (List.mem_of_getElem? hv')) (rangeL_get h3 (List.mem_of_getElem? hv)) (rangeL_get h4 (List.mem_of_getElem? hv'))
    unfold BF_R03_Order
    obtain ⟨_, _, _, _, h0, h1⟩ := lay_mark hr
    obtain ⟨_, _, _, _, h0', h1'⟩ := lay_mark hr'
    simp only
    rw [R03_place n k h0 h1, R03_place n k' h0' h1']
    simp only [bnd_eq]
    by_cases hk : k = k'
    · subst hk
      have e : (mark k != mark k) = false := by simp
      simp only [e, cond_false]
      simp only [right, Bool.and_eq_true] at hr hr'
      simp only [range64, Bool.and_eq_true] at hi hi'
      have split : ∀ R, F_R03_Order_k1 n i i' k s s' b b' l l' ks ks' (F_R03_Order n) ((k == 2) || (k == 6) || (k == 7)) = R →
          (bif (k == (2 : Int)) then F_R03_Order_k1 n i i' k s s' b b' l l' ks ks' (F_R03_Order n) (k == (2 : Int)) else bif (k == (6 : Int)) then F_R03_Order_k1 n i i' k s s' b b' l l' ks ks' (F_R03_Order n) (k == (6 : Int)) else F_R03_Order_k1 n i i' k s s' b b' l l' ks ks' (F_R03_Order n) (k == (7 : Int))) = R := by
        intro R h
        rw [← h]
        cases k == (2 : Int) <;> cases k == (6 : Int) <;> rfl
      rcases good_shape hr.1 with ⟨rfl, rfl, rfl, rfl, rfl, rfl⟩ | ⟨rfl, rfl, rfl, rfl, rfl⟩ | ⟨rfl, rfl, rfl, rfl, rfl⟩ | ⟨rfl, rfl, rfl, rfl, rfl⟩ | ⟨rfl, rfl, rfl, rfl, rfl⟩ | ⟨rfl, rfl, rfl, rfl, hkl, _⟩ | ⟨rfl, rfl, rfl, rfl, rfl, hi1⟩ | ⟨rfl, rfl, rfl, rfl, rfl, hi1⟩
      · rcases good_shape hr'.1 with ⟨_, rfl, rfl, rfl, rfl, rfl⟩ | h | h | h | h | h | h | h <;> try exact absurd h.1 (by decide)
        refine ⟨0, split _ ?_, fun r r' => by show cb (8 :: r) (8 :: r') = _; rw [cb_same]; rfl⟩
        obtain ⟨m', rfl⟩ : ∃ j, n = j + 1 := ⟨n - 1, by omega⟩
        rfl
      · rcases good_shape hr'.1 with h | ⟨_, rfl, rfl, rfl, rfl⟩ | h | h | h | h | h | h <;> try exact absurd h.1 (by decide)
        refine ⟨_, split _ (show bnd (F_R03_side n (bif (!b) then b' else false) (bif b then (!b') else false)) (fun x => some x) = _ by rw [side_bool]; rfl), fun r r' => ?_⟩
        cases b <;> cases b'
        · show cb (6 :: 0 :: r) (6 :: 0 :: r') = _; rw [cb_same, cb_same]; rfl
        · show cb (6 :: 0 :: r) (6 :: 1 :: r') = _; rw [cb_same, cb_lt _ _ (by decide)]; rfl
        · show cb (6 :: 1 :: r) (6 :: 0 :: r') = _; rw [cb_same, cb_gt _ _ (by decide)]; rfl
        · show cb (6 :: 1 :: r) (6 :: 1 :: r') = _; rw [cb_same, cb_same]; rfl
      · rcases good_shape hr'.1 with h | h | ⟨_, rfl, rfl, rfl, rfl⟩ | h | h | h | h | h <;> try exact absurd h.1 (by decide)
        refine ⟨_, split _ (show bnd (F_R03_side n (decide (i < i')) (decide (i > i'))) (fun x => some x) = _ by rw [side_int]; rfl), fun r r' => ?_⟩
        show cb (7 :: (eightL (bits64 i ^^^ 9223372036854775808) ++ r)) (7 :: (eightL (bits64 i' ^^^ 9223372036854775808) ++ r')) = _
        rw [cb_same, cb_eight _ _ (off_lt i) (off_lt i'), off_ord i i' hi.1 hi'.1]
      · rcases good_shape hr'.1 with h | h | h | ⟨_, rfl, rfl, rfl, rfl⟩ | h | h | h | h <;> try exact absurd h.1 (by decide)
        refine ⟨_, split _ (show bnd (F_R03_side n (Op.bytesLess s s') (!(Op.bytesLess s s' || s == s'))) (fun x => some x) = _ by rw [side_str]; rfl), fun r r' => ?_⟩
        show cb (5 :: (endedM s ++ r)) (5 :: (endedM s' ++ r')) = _
        rw [cb_same, cb_ended]
      · rcases good_shape hr'.1 with h | h | h | h | ⟨_, rfl, rfl, rfl, rfl⟩ | h | h | h <;> try exact absurd h.1 (by decide)
        obtain ⟨c, hc, ho⟩ := R03_list (n := n) (g := F_R03_Order n) (l := l) (l' := l') (by omega) (by omega) (fun x v v' hv hv' => hg x v v' hv hv' hr.2 hr'.2 hi.2 hi'.2) n 0 (by omega) (by omega) (by omega)
        refine ⟨c, split _ hc, fun r r' => ?_⟩
        have e1 : ∀ (l : List Val) (r : List UInt8), layM (.mk 4 false 0 [] l []) ++ r = 4 :: (layL l ++ 0 :: r) := fun l r => by
          show (4 :: layL l ++ [0]) ++ r = _
          simp
        rw [e1, e1, cb_same]
        exact ho r r'
      · rcases good_shape hr'.1 with h | h | h | h | h | ⟨_, rfl, rfl, rfl, hkl', _⟩ | h | h <;> try exact absurd h.1 (by decide)
        obtain ⟨c, hc, ho⟩ := R03_map (n := n) (g := F_R03_Order n) (l := l) (l' := l') (ks := ks) (ks' := ks') (by omega) (by omega) hkl hkl' (fun x v v' hv hv' => hg x v v' hv hv' hr.2 hr'.2 hi.2 hi'.2) n 0 (by omega) (by omega) (by omega)
        refine ⟨c, split _ hc, fun r r' => ?_⟩
        have e1 : ∀ (l : List Val) (ks : List (List UInt8)) (r : List UInt8), layM (.mk 5 false 0 [] l ks) ++ r = 1 :: (layK l ks ++ 0 :: r) := fun l ks r => by
          show (1 :: layK l ks ++ [0]) ++ r = _
          simp
        rw [e1, e1, cb_same]
        exact ho r r'
      · rcases good_shape hr'.1 with h | h | h | h | h | h | ⟨_, rfl, rfl, rfl, rfl, hi1'⟩ | h <;> try exact absurd h.1 (by decide)
        refine ⟨_, split _ (show bnd (F_R03_side n (decide (i < i')) (decide (i > i'))) (fun x => some x) = _ by rw [side_int]; rfl), fun r r' => ?_⟩
        show cb (2 :: (eightL (bits64 i) ++ r)) (2 :: (eightL (bits64 i') ++ r')) = _
        rw [cb_same, cb_eight _ _ (bits64_lt i) (bits64_lt i'), pos_bits i hi.1 hi1, pos_bits i' hi'.1 hi1']
      · rcases good_shape hr'.1 with h | h | h | h | h | h | h | ⟨_, rfl, rfl, rfl, rfl, hi1'⟩ <;> try exact absurd h.1 (by decide)
        refine ⟨_, split _ (show bnd (F_R03_side n (decide (i < i')) (decide (i > i'))) (fun x => some x) = _ by rw [side_int]; rfl), fun r r' => ?_⟩
        show cb (3 :: (eightL (bits64 i) ++ r)) (3 :: (eightL (bits64 i') ++ r')) = _
        rw [cb_same, cb_eight _ _ (bits64_lt i) (bits64_lt i'), pos_bits i hi.1 hi1, pos_bits i' hi'.1 hi1']
    · have hm : mark k ≠ mark k' := fun e => hk (mark_inj h0 h1 h0' h1' e)
      have e : (mark k != mark k') = true := by simpa using hm
      simp only [e, cond_true]
      refine ⟨cmpI (mark k) (mark k'), ?_, ord_kinds hr hr' hk⟩
      unfold F_R03_side cmpI
      by_cases h : mark k < mark k'
      · simp [h]
      · have : mark k' < mark k := by omega
        simp [h, this]

theorem r03_order_eq {n : Nat} {v w : Val} (hn : n ≤ 1073741824) (hv : OkV n v) (hw : OkV n w) : F_R03_Order n v w = some (kc v w) := by
  obtain ⟨c, h1, h2⟩ := R03_eq v.big n v w (Nat.le_refl _) (by have := hv.small; omega) (by have := hv.small; omega) hv.right hw.right hv.range hw.range
  rw [h1]
  have := h2 [] []
  rw [List.append_nil, List.append_nil, show cb [] [] = 0 from rfl, th_r0] at this
  unfold kc
  rw [this]
end W
end
section
open Go Go.Proofs Ax Go.RowKit
namespace W
set_option maxRecDepth 10000

theorem boolLen (l : List Bool) : (boolRows l).length = l.length := by simp [boolRows]
/-- How two rows stand. -/
def rowC : List Bool → List Val → List Val → Int
  | [], _, _ => 0
  | b :: d, r, s => if kc (r.headD default) (s.headD default) = 0 then rowC d r.tail s.tail else if b = true then - kc (r.headD default) (s.headD default) else kc (r.headD default) (s.headD default)
theorem rowC_anti : ∀ (d : List Bool) (r s : List Val), rowC d r s = - rowC d s r
  | [], _, _ => rfl
  | b :: d, r, s => by
    have h := kc_anti (r.headD default) (s.headD default)
    have ih := rowC_anti d r.tail s.tail
    simp only [rowC]
    generalize r.headD default = u at h ⊢
    generalize s.headD default = v at h ⊢
    by_cases e : kc v u = 0
    · rw [if_pos (by omega), if_pos e, ih]
    · rw [if_neg (by omega), if_neg e]
      cases b <;> simp <;> omega
theorem rowC_trans : ∀ (d : List Bool) (r s t : List Val), rowC d r s ≤ 0 → rowC d s t ≤ 0 → rowC d r t ≤ 0
  | [], _, _, _ => fun _ _ => Int.le_refl _
  | b :: d, r, s, t => by
    intro h1 h2
    have ih := rowC_trans d r.tail s.tail t.tail
    simp only [rowC] at h1 h2 ⊢
    generalize r.headD default = u at h1 h2 ⊢
    generalize s.headD default = v at h1 h2 ⊢
    generalize t.headD default = w at h1 h2 ⊢
    have a1 := kc_anti u v
    have a2 := kc_anti v w
    have a3 := kc_anti u w
    have t1 := @kc_trans u v w
    have t2 := @kc_trans v w u
    have t3 := @kc_trans w u v
    have t4 := @kc_trans w v u
    have t5 := @kc_trans v u w
    have t6 := @kc_trans u w v
    by_cases e1 : kc u v = 0 <;> by_cases e2 : kc v w = 0
    · have e3 : kc u w = 0 := by omega
      rw [if_pos e1] at h1; rw [if_pos e2] at h2; rw [if_pos e3]
      exact ih h1 h2
    · rw [if_neg e2] at h2
      have e3 : kc u w ≠ 0 := by omega
      rw [if_neg e3]
      cases b <;> simp at h2 ⊢ <;> omega
    · rw [if_neg e1] at h1
      have e3 : kc u w ≠ 0 := by omega
      rw [if_neg e3]
      cases b <;> simp at h1 ⊢ <;> omega
    · rw [if_neg e1] at h1
      rw [if_neg e2] at h2
      have e3 : kc u w ≠ 0 := by cases b <;> simp at h1 h2 <;> omega
      rw [if_neg e3]
      cases b <;> simp at h1 h2 ⊢ <;> omega

/-- A value of the right form, not too big. -/
structure OkS (v : Val) : Prop where
  right : right v = true
  range : range64 v = true
  small : v.big ≤ 3000000
theorem OkV.s {n : Nat} {v : Val} (hn : n ≤ 60000000 ∨ v.big ≤ 3000000) (h : OkV n v) : OkS v := ⟨h.right, h.range, by have := h.small; omega⟩
theorem order_eqS {n : Nat} {v w : Val} (hn : 4000000 < n) (hv : OkS v) (hw : OkS w) : F_value_Order n v w = some (kc v w) := by
  obtain ⟨c, h1, h2⟩ := F_value_Order_eq 3000000 n v w hv.small (by omega) (by omega) hv.right hw.right hv.range hw.range
  rw [h1]
  have := h2 [] []
  rw [List.append_nil, List.append_nil, show cb [] [] = 0 from rfl, th_r0] at this
  unfold kc
  rw [this]
theorem r03_orderS {n : Nat} {v w : Val} (hn : 4000000 < n) (hv : OkS v) (hw : OkS w) : F_R03_Order n v w = some (kc v w) := by
  obtain ⟨c, h1, h2⟩ := R03_eq 3000000 n v w hv.small (by omega) (by omega) hv.right hw.right hv.range hw.range
  rw [h1]
  have := h2 [] []
  rw [List.append_nil, List.append_nil, show cb [] [] = 0 from rfl, th_r0] at this
  unfold kc
  rw [this]
theorem kc_range (v w : Val) : kc v w = -1 ∨ kc v w = 0 ∨ kc v w = 1 := (cb_facts _ _).2.2

/-- Rows by which the program may sort. -/
structure OkB (w : Nat) (by_ : List (List Val)) : Prop where
  len : ∀ r ∈ by_, r.length = w
  val : ∀ r ∈ by_, ∀ v ∈ r, OkS v
  few : by_.length ≤ 1000000
  wide : w ≤ 3000000
def rowAt (by_ : List (List Val)) (i : Int) : List Val := (by_[i.toNat]?).getD []

theorem sort_c1_loop {n : Nat} (hn : 4000000 < n) {by_ : List (List Val)} {down : List Bool} (hb : OkB down.length by_) {i j : Nat} {r s : List Val} (hi : by_[i]? = some r) (hj : by_[j]? = some s) :
    ∀ f k : Nat, k ≤ down.length → down.length - k < f → loopK (F_rows_Sort_c1_l1 n down by_ (i : Int) (j : Int)) f (k : Int) = some (rowC (down.drop k) (r.drop k) (s.drop k)) := by
  intro f
  induction f with
  | zero => intro k _ h; omega
  | succ f ih =>
    intro k hk hf
    have lr := hb.len r (List.mem_of_getElem? hi)
    have ls := hb.len s (List.mem_of_getElem? hj)
    have hw := hb.wide
    rw [loopK_succ]
    generalize loopK (F_rows_Sort_c1_l1 n down by_ (i : Int) (j : Int)) f = nx at ih ⊢
    unfold F_rows_Sort_c1_l1
    simp only [boolLen, valRows_len]
    by_cases h : k < down.length
    · obtain ⟨v, hv⟩ : ∃ x, r[k]? = some x := ⟨_, List.getElem?_eq_getElem (by omega)⟩
      obtain ⟨w, hw'⟩ : ∃ x, s[k]? = some x := ⟨_, List.getElem?_eq_getElem (by omega)⟩
      obtain ⟨b, hd⟩ : ∃ x, down[k]? = some x := ⟨_, List.getElem?_eq_getElem (by omega)⟩
      have ev : r.drop k = v :: r.drop (k + 1) := drop_consV hv
      have ew : s.drop k = w :: s.drop (k + 1) := drop_consV hw'
      have ed : down.drop k = b :: down.drop (k + 1) := by
        obtain ⟨hlt, rfl⟩ := List.getElem?_eq_some_iff.1 hd
        exact List.drop_eq_getElem_cons hlt
      have eo := order_eqS hn (hb.val r (List.mem_of_getElem? hi) v (List.mem_of_getElem? hv)) (hb.val s (List.mem_of_getElem? hj) w (List.mem_of_getElem? hw'))
      obtain ⟨v1, v2, v3, v4, v5, v6⟩ := v
      obtain ⟨w1, w2, w3, w4, w5, w6⟩ := w
      have d1 : decide ((k : Int) < (down.length : Int)) = true := decide_eq_true (by omega)
      have d2 : decide ((k : Int) < (r.length : Int)) = true := decide_eq_true (by omega)
      have d3 : decide ((k : Int) < (s.length : Int)) = true := decide_eq_true (by omega)
      simp only [d1, gsome_t, Ax.idx_nat, hi, bnd_eq, d2, cond_true, hj, d3, hv, hw', eo, hd]
      rw [ev, ew, ed]
      have er : ∀ (v w : Val) (R S : List Val) (D : List Bool), rowC (b :: D) (v :: R) (w :: S) = if kc v w = 0 then rowC D R S else if b = true then - kc v w else kc v w := fun _ _ _ _ _ => rfl
      rw [er]
      have kr := kc_range ⟨v1, v2, v3, v4, v5, v6⟩ ⟨w1, w2, w3, w4, w5, w6⟩
      generalize kc ⟨v1, v2, v3, v4, v5, v6⟩ ⟨w1, w2, w3, w4, w5, w6⟩ = c at kr ⊢
      by_cases h0 : c = 0
      · subst h0
        have : ((0 : Int) != 0) = false := rfl
        rw [this, if_pos rfl, gsome_f, bnd_eq, cond_false, cond_false, wrapN (by omega)]
        exact ih (k + 1) (by omega) (by omega)
      · have : (c != 0) = true := by simpa using h0
        rw [this, if_neg h0, gsome_t, bnd_eq, cond_true]
        cases b
        · rfl
        · simp only [cond_true]
          rw [wrapC (by omega) (by omega)]
          simp
    · have d1 : decide ((k : Int) < (down.length : Int)) = false := decide_eq_false (by omega)
      have e : k = down.length := by omega
      simp only [d1, gsome_f, bnd_eq, cond_false]
      rw [e, List.drop_length]
      rfl

theorem rowAt_nat {by_ : List (List Val)} {i : Nat} {r : List Val} (h : by_[i]? = some r) : rowAt by_ (i : Int) = r := by simp [rowAt, h]
theorem sort_cmp {n : Nat} (hn : 4000000 < n) {by_ : List (List Val)} {down : List Bool} (hb : OkB down.length by_) :
    Cmp n by_ down (fun i => 0 ≤ i ∧ i < (by_.length : Int)) (fun i j => rowC down (rowAt by_ i) (rowAt by_ j)) where
  eq := by
    rintro i j ⟨h1, h2⟩ ⟨h3, h4⟩
    obtain ⟨i, rfl⟩ := Int.eq_ofNat_of_zero_le h1
    obtain ⟨j, rfl⟩ := Int.eq_ofNat_of_zero_le h3
    obtain ⟨r, hr⟩ : ∃ x, by_[i]? = some x := ⟨_, List.getElem?_eq_getElem (by omega)⟩
    obtain ⟨s, hs⟩ : ∃ x, by_[j]? = some x := ⟨_, List.getElem?_eq_getElem (by omega)⟩
    have hw := hb.wide
    have := sort_c1_loop hn hb hr hs n 0 (by omega) (by omega)
    unfold F_rows_Sort_c1
    rw [slen, decide_eq_false (by omega), decide_eq_false (by omega)]
    simp only [cond_false]
    rw [rowAt_nat hr, rowAt_nat hs]
    exact this
  anti := by
    intro i j
    have := rowC_anti down (rowAt by_ i) (rowAt by_ j)
    omega
  trans := fun i j k => rowC_trans down _ _ _
end W
end
section
open Go Go.Proofs Ax Go.RowKit
namespace W
set_option maxRecDepth 10000

/-- Sorted blocks, one behind the other. -/
def Bl (C : Int → Int → Int) (sz : Nat) : List (List Int) → Prop
  | [] => True
  | A :: R => 1 ≤ A.length ∧ (A.length = sz ∨ R = [] ∧ A.length ≤ sz) ∧ A.Pairwise (Ahead C) ∧ (∀ x ∈ A, ∀ y ∈ R.flatten, x < y) ∧ Bl C sz R

section
variable {n N : Nat} {by_ : List (List Val)} {down : List Bool} {ok : Int → Prop} {C : Int → Int → Int} (hC : ∀ n, 4000000 < n → Cmp n by_ down ok C)
include hC
/-- Blocks of twenty are sorted by insertion. -/
theorem blocks_loop (hn : 4000000 < n) (hN : N ≤ 1000000) : ∀ (f : Nat) (R P : List Int), (P ++ R).length = N → R.Pairwise (· < ·) → (∀ x ∈ R, ok x) → R.length < f →
    ∃ bs, Bl C 20 bs ∧ bs.flatten.Perm R ∧ loopK (F_slices_stableCmpFunc_int__rows_Sort_c1_l1 n (N : Int) N by_ down) f ((P.length : Int), ((P.length + 20 : Nat) : Int), P ++ R) =
      loopK (F_slices_stableCmpFunc_int__rows_Sort_c1_l2 n (N : Int) N by_ down) n (20, P ++ bs.flatten) := by
  intro f
  have h := hC n hn
  induction f with
  | zero => intro R P _ _ _ h; omega
  | succ f ih =>
    intro R P hl hR hok hf
    have hl' := hl
    rw [List.length_append] at hl'
    rw [loopK_succ]
    generalize loopK (F_slices_stableCmpFunc_int__rows_Sort_c1_l1 n (N : Int) N by_ down) f = nx at ih ⊢
    unfold F_slices_stableCmpFunc_int__rows_Sort_c1_l1
    simp only
    by_cases h1 : 20 ≤ R.length
    · rw [decide_eq_true (by omega)]
      simp only [cond_true]
      have lt : (R.take 20).length = 20 := by rw [List.length_take]; omega
      have hR2 : (R.take 20 ++ R.drop 20).Pairwise (· < ·) := by rwa [List.take_append_drop]
      rw [List.pairwise_append] at hR2
      obtain ⟨A, p, s, e⟩ := insertion_eq h (by omega) hN (P := P) (S := R.take 20) (Q := R.drop 20) (a := (P.length : Int)) (b := ((P.length + 20 : Nat) : Int)) (by rw [List.append_assoc, List.take_append_drop]; exact hl) rfl (by rw [lt]) hR2.1 (fun x hx => hok x (List.mem_of_mem_take hx))
      rw [show P ++ R = P ++ R.take 20 ++ R.drop 20 by rw [List.append_assoc, List.take_append_drop], e, bnd_eq]
      have lA : A.length = 20 := by rw [p.length_eq, lt]
      obtain ⟨bs, b1, b2, b3⟩ := ih (R.drop 20) (P ++ A) (by rw [List.length_append, List.length_append, lA, List.length_drop]; omega) hR2.2.1 (fun x hx => hok x (List.mem_of_mem_drop hx)) (by rw [List.length_drop]; omega)
      refine ⟨A :: bs, ⟨by omega, .inl lA, s, fun x hx y hy => hR2.2.2 x (p.mem_iff.1 hx) y (b2.mem_iff.1 hy), b1⟩, ?_, ?_⟩
      · rw [List.flatten_cons]
        refine (p.append b2).trans ?_
        rw [List.take_append_drop]
      · rw [List.flatten_cons, ← List.append_assoc, ← b3]
        have e1 : IntKind.i64.wrap (((P.length + 20 : Nat) : Int) + 20) = (((P ++ A).length + 20 : Nat) : Int) := by rw [wrapC (by omega) (by omega), List.length_append, lA]; omega
        have e2 : ((P.length + 20 : Nat) : Int) = ((P ++ A).length : Int) := by rw [List.length_append, lA]
        rw [e1, e2]
    · rw [decide_eq_false (by omega)]
      simp only [cond_false]
      obtain ⟨A, p, s, e⟩ := insertion_eq h (by omega) hN (P := P) (S := R) (Q := []) (a := (P.length : Int)) (b := (N : Int)) (by simpa using hl) rfl (by omega) hR hok
      rw [List.append_nil, List.append_nil] at e
      rw [e, bnd_eq]
      have lA := p.length_eq
      by_cases h0 : R.length = 0
      · have hA : A = [] := List.length_eq_zero_iff.1 (by omega)
        refine ⟨[], trivial, by rw [List.length_eq_zero_iff.1 h0]; exact List.Perm.refl _, ?_⟩
        rw [hA]; rfl
      · refine ⟨[A], ⟨by omega, .inr ⟨rfl, by omega⟩, s, fun x _ y hy => by simp at hy, trivial⟩, by simpa using p, by simp⟩

/-- One pass: two blocks become one. -/
theorem pass_loop (hn : 6000000 < n) (hN : N ≤ 1000000) (nx2 : Int × List Int → Option (List Int)) (sz : Nat) (hs : 1 ≤ sz) (hs2 : sz ≤ N) : ∀ (f : Nat) (bs : List (List Int)) (P : List Int), (P ++ bs.flatten).length = N → Bl C sz bs → (∀ x ∈ bs.flatten, ok x) → bs.flatten.length < f →
    ∃ cs, Bl C (2 * sz) cs ∧ cs.flatten.Perm bs.flatten ∧ loopK (F_slices_stableCmpFunc_int__rows_Sort_c1_l3 n (N : Int) N (sz : Int) by_ down nx2) f ((P.length : Int), ((P.length + 2 * sz : Nat) : Int), P ++ bs.flatten) =
      nx2 (((2 * sz : Nat) : Int), P ++ cs.flatten) := by
  intro f
  have h := hC n (by omega)
  have k3 : ∀ d, F_slices_stableCmpFunc_int__rows_Sort_c1_k3 n nx2 (sz : Int) d = nx2 (((2 * sz : Nat) : Int), d) := by
    intro d
    unfold F_slices_stableCmpFunc_int__rows_Sort_c1_k3
    rw [wrapC (by omega) (by omega)]
    congr 2
    omega
  induction f with
  | zero => intro bs P _ _ _ h; omega
  | succ f ih =>
    intro bs P hl hB hok hf
    have hl' := hl
    rw [List.length_append] at hl'
    rw [loopK_succ]
    generalize loopK (F_slices_stableCmpFunc_int__rows_Sort_c1_l3 n (N : Int) N (sz : Int) by_ down nx2) f = nx at ih ⊢
    unfold F_slices_stableCmpFunc_int__rows_Sort_c1_l3
    simp only
    have ea : IntKind.i64.wrap ((P.length : Int) + (sz : Int)) = ((P.length + sz : Nat) : Int) := by rw [wrapC (by omega) (by omega)]; omega
    rw [ea]
    rcases bs with _ | ⟨U, _ | ⟨V, R⟩⟩
    · simp only [List.flatten_nil, List.length_nil] at hl'
      rw [decide_eq_false (by omega), decide_eq_false (by omega)]
      simp only [cond_false]
      exact ⟨[], trivial, List.Perm.refl _, k3 _⟩
    · obtain ⟨b1, b2, b3, b4, b5⟩ := hB
      simp only [List.flatten_cons, List.flatten_nil, List.append_nil] at hl' ⊢
      have b2' : U.length ≤ sz := by rcases b2 with b2 | b2 <;> omega
      rw [decide_eq_false (by omega), decide_eq_false (by omega)]
      simp only [cond_false]
      exact ⟨[U], ⟨b1, .inr ⟨rfl, by omega⟩, b3, fun x _ y hy => by simp at hy, trivial⟩, by simp, by rw [k3]; simp⟩
    · obtain ⟨b1, b2, b3, b4, c1, c2, c3, c4, c5⟩ := hB
      simp only [List.flatten_cons] at hl' hok hf ⊢
      simp only [List.length_append] at hl' hf
      have b2' : U.length = sz := by rcases b2 with b2 | b2; exact b2; exact absurd b2.1 (by simp)
      have c2' : V.length ≤ sz := by rcases c2 with b2 | b2 <;> omega
      have ltUV : ∀ u ∈ U, ∀ v ∈ V, u < v := fun u hu v hv => b4 u hu v (by simp [hv])
      obtain ⟨W', p, s, e⟩ := merge_eq hC hN (U.length + V.length) U V P R.flatten (P.length : Int) ((P.length + sz : Nat) : Int) ((P.length + U.length + V.length : Nat) : Int) n rfl b1 c1 (by simp only [List.length_append]; omega) rfl (by rw [b2']) rfl b3 c3 ltUV (fun u hu => hok u (by simp [hu])) (fun v hv => hok v (by simp [hv])) (by omega)
      have lW : W'.length = U.length + V.length := by rw [p.length_eq, List.length_append]
      rw [show P ++ (U ++ (V ++ R.flatten)) = P ++ U ++ V ++ R.flatten by simp]
      by_cases h2 : V.length = sz
      · rw [decide_eq_true (by omega)]
        simp only [cond_true]
        rw [show ((P.length + 2 * sz : Nat) : Int) = ((P.length + U.length + V.length : Nat) : Int) by omega, e, bnd_eq]
        obtain ⟨cs, d1, d2, d3⟩ := ih R (P ++ W') (by simp only [List.length_append]; omega) c5 (fun x hx => hok x (by simp only [List.mem_append]; exact .inr (.inr hx))) (by omega)
        refine ⟨W' :: cs, ⟨by omega, .inl (by omega), s, fun x hx y hy => ?_, d1⟩, ?_, ?_⟩
        · have hy' := d2.mem_iff.1 hy
          rcases List.mem_append.1 (p.mem_iff.1 hx) with hx | hx
          · exact b4 x hx y (by simp only [List.flatten_cons, List.mem_append]; exact .inr hy')
          · exact c4 x hx y hy'
        · rw [List.flatten_cons]
          refine (p.append d2).trans ?_
          rw [List.append_assoc]
        · rw [List.flatten_cons, ← List.append_assoc, ← d3]
          have e1 : IntKind.i64.wrap (2 * (sz : Int)) = ((2 * sz : Nat) : Int) := by rw [wrapC (by omega) (by omega)]; omega
          have e2 : IntKind.i64.wrap (((P.length + U.length + V.length : Nat) : Int) + ((2 * sz : Nat) : Int)) = (((P ++ W').length + 2 * sz : Nat) : Int) := by rw [wrapC (by omega) (by omega), List.length_append, lW]; omega
          have e3 : ((P.length + U.length + V.length : Nat) : Int) = ((P ++ W').length : Int) := by rw [List.length_append, lW]; omega
          rw [e1, e2, e3]
      · have hR : R = [] := by rcases c2 with c2 | c2; exact absurd c2 h2; exact c2.1
        subst hR
        simp only [List.flatten_nil, List.length_nil] at hl' ⊢ e
        rw [decide_eq_false (by omega), decide_eq_true (by omega)]
        simp only [cond_true, cond_false]
        rw [show (N : Int) = ((P.length + U.length + V.length : Nat) : Int) by omega, e, bnd_eq, k3]
        refine ⟨[W'], ⟨by omega, .inr ⟨rfl, by omega⟩, s, fun x _ y hy => by simp at hy, trivial⟩, ?_, by simp⟩
        simpa using p

theorem doubling (hn : 6000000 < n) (hN : N ≤ 1000000) : ∀ (f sz : Nat) (bs : List (List Int)), 1 ≤ sz → sz ≤ 2 * N + 20 → bs.flatten.length = N → Bl C sz bs → (∀ x ∈ bs.flatten, ok x) → N + 1 - sz < f →
    ∃ S', S'.Perm bs.flatten ∧ S'.Pairwise (Ahead C) ∧ loopK (F_slices_stableCmpFunc_int__rows_Sort_c1_l2 n (N : Int) N by_ down) f ((sz : Int), bs.flatten) = some S' := by
  intro f
  induction f with
  | zero => intro sz bs _ _ _ _ _ h; omega
  | succ f ih =>
    intro sz bs h1 h2 hl hB hok hf
    rw [loopK_succ]
    generalize loopK (F_slices_stableCmpFunc_int__rows_Sort_c1_l2 n (N : Int) N by_ down) f = nx at ih ⊢
    unfold F_slices_stableCmpFunc_int__rows_Sort_c1_l2
    simp only
    by_cases hc : sz < N
    · rw [decide_eq_true (by omega)]
      simp only [cond_true]
      obtain ⟨cs, d1, d2, d3⟩ := pass_loop hC hn hN nx sz h1 (by omega) n bs [] (by simpa using hl) hB hok (by omega)
      simp only [List.length_nil, Nat.zero_add, List.nil_append] at d3
      obtain ⟨S', s1, s2, s3⟩ := ih (2 * sz) cs (by omega) (by omega) (by rw [d2.length_eq, hl]) d1 (fun x hx => hok x (d2.mem_iff.1 hx)) (by omega)
      refine ⟨S', s1.trans d2, s2, ?_⟩
      rw [← s3, ← d3, show IntKind.i64.wrap (2 * (sz : Int)) = ((2 * sz : Nat) : Int) by rw [wrapC (by omega) (by omega)]; omega]
      rfl
    · rw [decide_eq_false (by omega)]
      refine ⟨bs.flatten, List.Perm.refl _, ?_, rfl⟩
      rcases bs with _ | ⟨A, _ | ⟨B, R⟩⟩
      · exact List.Pairwise.nil
      · simpa using hB.2.2.1
      · obtain ⟨b1, b2, b3, b4, c1, c2⟩ := hB
        simp only [List.flatten_cons, List.length_append] at hl
        rcases b2 with b2 | b2
        · omega
        · exact absurd b2.1 (by simp)

theorem stable_eq (hn : 6000000 < n) (hN : N ≤ 1000000) {S : List Int} (hl : S.length = N) (hS : S.Pairwise (· < ·)) (hok : ∀ x ∈ S, ok x) :
    ∃ S', S'.Perm S ∧ S'.Pairwise (Ahead C) ∧ F_slices_stableCmpFunc_int__rows_Sort_c1 n N (N : Int) by_ down S = some S' := by
  obtain ⟨bs, b1, b2, b3⟩ := blocks_loop hC (n := n) (by omega) hN n S [] (by simpa using hl) hS hok (by omega)
  obtain ⟨S', s1, s2, s3⟩ := doubling hC hn hN n 20 bs (by omega) (by omega) (by rw [b2.length_eq, hl]) b1 (fun x hx => hok x (b2.mem_iff.1 hx)) (by omega)
  refine ⟨S', s1.trans b2, s2, ?_⟩
  rw [← s3]
  exact b3
end

/-- What is sorted stands in one order only. -/
theorem sorted_uniq {n : Nat} {by_ : List (List Val)} {down : List Bool} {ok : Int → Prop} {C : Int → Int → Int} (h : Cmp n by_ down ok C) {S T : List Int} (p : S.Perm T) (hs : S.Pairwise (Ahead C)) (ht : T.Pairwise (Ahead C)) : S = T :=
  List.Perm.eq_of_pairwise (fun _ _ _ _ a b => h.asym a b) hs ht p
end W
end
section
open Go Go.Proofs Ax Go.RowKit
namespace W
set_option maxRecDepth 10000

/-- The places 0 .. k-1. -/
def places (k : Nat) : List Int := (List.range k).map fun (i : Nat) => (i : Int)
theorem places_len (k : Nat) : (places k).length = k := by simp [places]
theorem places_succ (k : Nat) : places (k + 1) = places k ++ [(k : Int)] := by simp [places, List.range_succ]
theorem places_mem {k : Nat} {x : Int} : x ∈ places k ↔ 0 ≤ x ∧ x < (k : Int) := by
  simp only [places, List.mem_map, List.mem_range]
  constructor
  · rintro ⟨a, h, rfl⟩; omega
  · intro h; exact ⟨x.toNat, by omega, by omega⟩
theorem places_lt : ∀ k : Nat, (places k).Pairwise (· < ·)
  | 0 => List.Pairwise.nil
  | k + 1 => by
    rw [places_succ, List.pairwise_append]
    refine ⟨places_lt k, by simp, fun x hx y hy => ?_⟩
    have := places_mem.1 hx
    simp only [List.mem_singleton] at hy
    omega

theorem fill_loop {n N : Nat} (hN : N ≤ 1000000) {x2 : List (List Val)} {x3 : List Bool} {x1 : List (List Val)} : ∀ (f k : Nat), k ≤ N → N - k < f →
    loopK (F_rows_Sort_l1 n N x2 x3 x1) f ((k : Int), places k ++ List.replicate (N - k) 0) =
      bnd (F_slices_SortStableFunc_int_int__rows_Sort_c1 n N x2 x3 (places N)) fun x9 => loopK (F_rows_Sort_l2 n N x9 x1) n ([], 0) := by
  intro f
  induction f with
  | zero => intro k _ h; omega
  | succ f ih =>
    intro k hk hf
    rw [loopK_succ]
    generalize loopK (F_rows_Sort_l1 n N x2 x3 x1) f = nx at ih ⊢
    unfold F_rows_Sort_l1
    simp only [intLen, List.length_replicate]
    by_cases h : k < N
    · rw [decide_eq_true (by omega)]
      simp only [cond_true, Ax.natI_nat, bnd_eq]
      have hd : places k ++ List.replicate (N - k) (0 : Int) = places k ++ 0 :: List.replicate (N - (k + 1)) 0 := by
        rw [show N - k = (N - (k + 1)) + 1 by omega, List.replicate_succ]
      rw [chk_dec h, hd, get_at _ _ _ (places_len k).symm, bnd_eq, set_at _ _ _ _ (places_len k).symm, wrapN (by omega), ← ih (k + 1) (by omega) (by omega), places_succ]
      simp
    · obtain rfl : k = N := by omega
      rw [decide_eq_false (by omega), Nat.sub_self]
      simp

theorem collect_loop {n N : Nat} (hn : n ≤ 1073741824) (hN : N ≤ 1000000) {x1 : List (List Val)} (hx : x1.length = N) (hc : ∀ r ∈ x1, vbigL r < n) {S : List Int} (hl : S.length = N) (hS : ∀ x ∈ S, 0 ≤ x ∧ x < (N : Int)) :
    ∀ (f k : Nat), k ≤ N → N - k < f → loopK (F_rows_Sort_l2 n N S x1) f ((S.take k).map (rowAt x1), (k : Int)) = some (S.map (rowAt x1)) := by
  intro f
  induction f with
  | zero => intro k _ h; omega
  | succ f ih =>
    intro k hk hf
    rw [loopK_succ]
    generalize loopK (F_rows_Sort_l2 n N S x1) f = nx at ih ⊢
    unfold F_rows_Sort_l2
    simp only [intLen, List.length_replicate]
    by_cases h : k < N
    · rw [decide_eq_true (by omega)]
      simp only [cond_true, Ax.natI_nat, bnd_eq]
      obtain ⟨x, hk'⟩ : ∃ x, S[k]? = some x := ⟨_, List.getElem?_eq_getElem (by omega)⟩
      have hxr := hS x (List.mem_of_getElem? hk')
      obtain ⟨i, rfl⟩ := Int.eq_ofNat_of_zero_le hxr.1
      obtain ⟨r, hr⟩ : ∃ r, x1[i]? = some r := ⟨_, List.getElem?_eq_getElem (by omega)⟩
      have ht : S.take (k + 1) = S.take k ++ [(i : Int)] := by rw [List.take_succ, hk']; rfl
      rw [chk_dec h, hk', bnd_eq, Ax.idx_nat, hr, bnd_eq, copied_id hn (hc r (List.mem_of_getElem? hr)), bnd_eq, slen, chk_dec (by simp only [List.length_append, List.length_map, List.length_take, List.length_singleton]; omega), wrapN (by omega), ← ih (k + 1) (by omega) (by omega), ht, List.map_append, List.map_singleton, rowAt_nat hr]
    · obtain rfl : k = N := by omega
      rw [decide_eq_false (by omega)]
      simp only [cond_false]
      rw [List.take_of_length_le (by omega)]

/-- What the program sorts. -/
theorem rows_sort_eq {n : Nat} (hn : 6000000 < n) (hn' : n ≤ 1073741824) {x1 by_ : List (List Val)} {down : List Bool} (hb : OkB down.length by_) (hx : x1.length = by_.length) (hc : ∀ r ∈ x1, vbigL r < n) :
    ∃ S : List Int, S.Perm (places by_.length) ∧ S.Pairwise (Ahead fun i j => rowC down (rowAt by_ i) (rowAt by_ j)) ∧ F_rows_Sort n x1 by_ down = some (S.map (rowAt x1)) := by
  have hf := hb.few
  have hC : ∀ n, 4000000 < n → Cmp n by_ down (fun i => 0 ≤ i ∧ i < (by_.length : Int)) (fun i j => rowC down (rowAt by_ i) (rowAt by_ j)) := fun n h => sort_cmp h hb
  obtain ⟨S, s1, s2, s3⟩ := stable_eq hC hn hf (places_len by_.length) (places_lt _) (fun x hx => places_mem.1 hx)
  refine ⟨S, s1, s2, ?_⟩
  unfold F_rows_Sort
  rw [slen, hx, Ax.natI_nat, bnd_eq, chk_dec (by omega)]
  have := fill_loop (n := n) hf (x2 := by_) (x3 := down) (x1 := x1) n 0 (by omega) (by omega)
  simp only [Nat.sub_zero] at this
  rw [show (List.replicate by_.length (0 : Int)) = places 0 ++ List.replicate by_.length 0 from rfl, show ((0 : Int)) = ((0 : Nat) : Int) from rfl]
  refine (this.trans ?_)
  unfold F_slices_SortStableFunc_int_int__rows_Sort_c1
  rw [s3]
  simp only [bnd_eq]
  exact collect_loop hn' hf hx hc (by rw [s1.length_eq, places_len]) (fun x h => places_mem.1 (s1.mem_iff.1 h)) n 0 (by omega) (by omega)

/-! ### The law's own sort -/
theorem ahead17_loop {n : Nat} (hn : 4000000 < n) {down : List Bool} {r s : List Val} (lr : r.length = down.length) (ls : s.length = down.length) (hw : down.length ≤ 3000000) (hr : ∀ v ∈ r, OkS v) (hs : ∀ v ∈ s, OkS v) :
    ∀ f k : Nat, k ≤ down.length → down.length - k < f → loopK (F_R17_ahead_l1 n down r s) f (k : Int) = some (decide (rowC (down.drop k) (r.drop k) (s.drop k) < 0)) := by
  intro f
  induction f with
  | zero => intro k _ h; omega
  | succ f ih =>
    intro k hk hf
    rw [loopK_succ]
    generalize loopK (F_R17_ahead_l1 n down r s) f = nx at ih ⊢
    unfold F_R17_ahead_l1
    simp only [boolLen]
    by_cases h : k < down.length
    · obtain ⟨v, hv⟩ : ∃ x, r[k]? = some x := ⟨_, List.getElem?_eq_getElem (by omega)⟩
      obtain ⟨w, hw'⟩ : ∃ x, s[k]? = some x := ⟨_, List.getElem?_eq_getElem (by omega)⟩
      obtain ⟨b, hd⟩ : ∃ x, down[k]? = some x := ⟨_, List.getElem?_eq_getElem (by omega)⟩
      have ev : r.drop k = v :: r.drop (k + 1) := drop_consV hv
      have ew : s.drop k = w :: s.drop (k + 1) := drop_consV hw'
      have ed : down.drop k = b :: down.drop (k + 1) := by
        obtain ⟨hlt, rfl⟩ := List.getElem?_eq_some_iff.1 hd
        exact List.drop_eq_getElem_cons hlt
      have eo := r03_orderS hn (hr v (List.mem_of_getElem? hv)) (hs w (List.mem_of_getElem? hw'))
      obtain ⟨v1, v2, v3, v4, v5, v6⟩ := v
      obtain ⟨w1, w2, w3, w4, w5, w6⟩ := w
      rw [decide_eq_true (by omega)]
      simp only [Ax.idx_nat, bnd_eq, cond_true, hv, hw', eo, hd]
      rw [ev, ew, ed]
      have er : ∀ (v w : Val) (R S : List Val) (D : List Bool), rowC (b :: D) (v :: R) (w :: S) = if kc v w = 0 then rowC D R S else if b = true then - kc v w else kc v w := fun _ _ _ _ _ => rfl
      rw [er]
      have kr := kc_range ⟨v1, v2, v3, v4, v5, v6⟩ ⟨w1, w2, w3, w4, w5, w6⟩
      generalize kc ⟨v1, v2, v3, v4, v5, v6⟩ ⟨w1, w2, w3, w4, w5, w6⟩ = c at kr ⊢
      unfold F_R17_ahead_k3
      by_cases h0 : c = 0
      · subst h0
        rw [if_pos rfl, wrapN (by omega), show IntKind.i64.wrap (0 - 0) = 0 from rfl]
        have : ((0 : Int) != 0) = false := rfl
        rw [this]
        simp only [cond_false, Bool.cond_self]
        exact ih (k + 1) (by omega) (by omega)
      · have h1 : (c != 0) = true := by simpa using h0
        have h2 : IntKind.i64.wrap (0 - c) = - c := by rw [wrapC (by omega) (by omega)]; omega
        have h3 : (- c != 0) = true := by simp; omega
        rw [if_neg h0, h2, h1, h3]
        cases b <;> simp
    · have e : k = down.length := by omega
      rw [decide_eq_false (by omega)]
      simp only [cond_false]
      rw [e, List.drop_length]
      rfl

theorem ahead17_eq {n : Nat} (hn : 4000000 < n) {by_ : List (List Val)} {down : List Bool} (hb : OkB down.length by_) {r s : List Val} (hr : r ∈ by_) (hs : s ∈ by_) : F_R17_ahead n r s down = some (decide (rowC down r s < 0)) := by
  have hw := hb.wide
  have := ahead17_loop hn (hb.len r hr) (hb.len s hs) hw (hb.val r hr) (hb.val s hs) n 0 (by omega) (by omega)
  simpa [F_R17_ahead] using this

section
variable {n : Nat} {by_ : List (List Val)} {down : List Bool} (hb : OkB down.length by_)
include hb
theorem move17 (hn : 4000000 < n) (nx1 : List Int × Int → Option (List (List Val))) (x5 x : Int) (hx : 0 ≤ x ∧ x < (by_.length : Int)) : ∀ (T S : List Int) (m : Nat), (∀ t ∈ T, 0 ≤ t ∧ t < (by_.length : Int)) → T.length ≤ 1000000 → T.length < m →
    loopK (F_R17_Sort_l2 n by_ down nx1 x5) m ((T.length : Int), T.reverse ++ x :: S) = nx1 (mv (fun i j => rowC down (rowAt by_ i) (rowAt by_ j)) x T S, IntKind.i64.wrap (x5 + 1)) := by
  intro T
  induction T with
  | nil =>
    intro S m _ _ hm
    obtain ⟨m, rfl⟩ : ∃ k, m = k + 1 := ⟨m - 1, by simp at hm; omega⟩
    rw [loopK_succ]
    rfl
  | cons t T ih =>
    intro S m hT hl hm
    simp only [List.length_cons] at hm hl
    obtain ⟨m, rfl⟩ : ∃ k, m = k + 1 := ⟨m - 1, by omega⟩
    have nxt := ih (t :: S) m (fun t h => hT t (by simp [h])) (by omega) (by omega)
    rw [loopK_succ]
    generalize loopK (F_R17_Sort_l2 n by_ down nx1 x5) m = nx at nxt ⊢
    unfold F_R17_Sort_l2
    simp only [List.length_cons, intLen]
    have hp : decide (((T.length + 1 : Nat) : Int) > 0) = true := decide_eq_true (by omega)
    have hd1 : (t :: T).reverse ++ x :: S = T.reverse ++ t :: (x :: S) := by simp
    have hd2 : (t :: T).reverse ++ x :: S = (T.reverse ++ [t]) ++ x :: S := by simp
    have hd3 : (T.reverse ++ [t]) ++ t :: S = T.reverse ++ t :: (t :: S) := by simp
    have hlen : ((t :: T).reverse ++ x :: S).length = T.length + 1 + (S.length + 1) := by simp only [List.length_append, List.length_reverse, List.length_cons]
    have n2 : natI (IntKind.i64.wrap (((T.length + 1 : Nat) : Int) - 1)) = some T.length := natI_eq _ (by rw [wrapC (by omega) (by omega)]; omega)
    have hx' := hx
    have ht' := hT t (by simp)
    obtain ⟨i, rfl⟩ := Int.eq_ofNat_of_zero_le hx.1
    obtain ⟨j, rfl⟩ := Int.eq_ofNat_of_zero_le ht'.1
    obtain ⟨r, hr⟩ : ∃ r, by_[i]? = some r := ⟨_, List.getElem?_eq_getElem (by omega)⟩
    obtain ⟨s, hs⟩ : ∃ r, by_[j]? = some r := ⟨_, List.getElem?_eq_getElem (by omega)⟩
    have g1 : ((((j : Int) :: T).reverse ++ (i : Int) :: S))[T.length + 1]? = some (i : Int) := get_at' _ _ _ hd2 (by simp)
    have g2 : ((((j : Int) :: T).reverse ++ (i : Int) :: S))[T.length]? = some (j : Int) := get_at' _ _ _ hd1 (by simp)
    have ea := ahead17_eq hn hb (List.mem_of_getElem? hr) (List.mem_of_getElem? hs)
    rw [hp]
    simp only [gsome_t, Ax.natI_nat, bnd_eq, cond_true, hlen]
    rw [chk_dec (by omega), g1, bnd_eq, Ax.idx_nat, hr, bnd_eq, n2]
    simp only [bnd_eq]
    rw [chk_dec (by omega), g2, bnd_eq, Ax.idx_nat, hs, bnd_eq, ea, bnd_eq]
    simp only [mv, rowAt_nat hr, rowAt_nat hs]
    by_cases hc : rowC down r s < 0
    · rw [decide_eq_true hc, if_pos hc]
      simp only [cond_true]
      repeat rw [chk_dec (by omega)]
      rw [bnd_eq]
      repeat rw [chk_dec (by omega)]
      rw [hd2, set_at _ _ _ _ (by simp), hd3, get_at _ _ _ (by simp), bnd_eq, set_at _ _ _ _ (by simp), show IntKind.i64.wrap (((T.length + 1 : Nat) : Int) - 1) = ((T.length : Nat) : Int) by rw [wrapC (by omega) (by omega)]; omega, nxt]
    · rw [decide_eq_false hc, if_neg hc]
      rfl

theorem collect17 (hN : by_.length ≤ 1000000) {x1 : List (List Val)} (hx : x1.length = by_.length) {S : List Int} (hl : S.length = by_.length) (hS : ∀ x ∈ S, 0 ≤ x ∧ x < (by_.length : Int)) :
    ∀ (f k : Nat), k ≤ S.length → S.length - k < f → loopK (F_R17_Sort_l3 n S x1) f ((S.take k).map (rowAt x1), (k : Int)) = some (S.map (rowAt x1)) := by
  intro f
  induction f with
  | zero => intro k _ h; omega
  | succ f ih =>
    intro k hk hf
    rw [loopK_succ]
    generalize loopK (F_R17_Sort_l3 n S x1) f = nx at ih ⊢
    unfold F_R17_Sort_l3
    simp only [intLen]
    by_cases h : k < S.length
    · rw [decide_eq_true (by omega)]
      simp only [cond_true, Ax.natI_nat, bnd_eq]
      obtain ⟨x, hk'⟩ : ∃ x, S[k]? = some x := ⟨_, List.getElem?_eq_getElem h⟩
      have hxr := hS x (List.mem_of_getElem? hk')
      obtain ⟨i, rfl⟩ := Int.eq_ofNat_of_zero_le hxr.1
      obtain ⟨r, hr⟩ : ∃ r, x1[i]? = some r := ⟨_, List.getElem?_eq_getElem (by omega)⟩
      have ht : S.take (k + 1) = S.take k ++ [(i : Int)] := by rw [List.take_succ, hk']; rfl
      rw [chk_dec h, hk', bnd_eq, Ax.idx_nat, hr, bnd_eq, slen, chk_dec (by simp only [List.length_append, List.length_map, List.length_take, List.length_singleton]; omega), wrapN (by omega), ← ih (k + 1) (by omega) (by omega), ht, List.map_append, List.map_singleton, rowAt_nat hr]
    · have e : k = S.length := by omega
      rw [decide_eq_false (by omega)]
      simp only [cond_false]
      rw [List.take_of_length_le (by omega)]

/-- What the law sorts. -/
theorem sort17_eq (hn : 4000000 < n) {x1 : List (List Val)} (hx : x1.length = by_.length) :
    ∃ S : List Int, S.Perm (places by_.length) ∧ S.Pairwise (Ahead fun i j => rowC down (rowAt by_ i) (rowAt by_ j)) ∧ F_R17_Sort n x1 by_ down = some (S.map (rowAt x1)) := by
  have hf := hb.few
  have h := sort_cmp hn hb
  have loop : ∀ (f k : Nat) (D : List Int), k ≤ by_.length → by_.length - k < f → D.Perm (places k) → D.Pairwise (Ahead fun i j => rowC down (rowAt by_ i) (rowAt by_ j)) →
      ∃ S : List Int, S.Perm (places by_.length) ∧ S.Pairwise (Ahead fun i j => rowC down (rowAt by_ i) (rowAt by_ j)) ∧ loopK (F_R17_Sort_l1 n x1 by_ down) f (D, (k : Int)) = some (S.map (rowAt x1)) := by
    intro f
    induction f with
    | zero => intro k D _ h; omega
    | succ f ih =>
      intro k D hk hfu p s
      rw [loopK_succ]
      generalize loopK (F_R17_Sort_l1 n x1 by_ down) f = nx at ih ⊢
      unfold F_R17_Sort_l1
      simp only [slen, intLen]
      have lD : D.length = k := by rw [p.length_eq, places_len]
      have mD : ∀ x ∈ D, 0 ≤ x ∧ x < (k : Int) := fun x hx => places_mem.1 (p.mem_iff.1 hx)
      by_cases hlt : k < by_.length
      · rw [decide_eq_true (by omega)]
        simp only [cond_true]
        rw [chk_dec (by simp only [List.length_append, List.length_singleton]; omega)]
        have e := move17 hb hn nx (k : Int) (k : Int) (by omega) D.reverse [] n (fun t ht => by have := mD t (List.mem_reverse.1 ht); omega) (by rw [List.length_reverse]; omega) (by rw [List.length_reverse]; omega)
        rw [List.length_reverse, List.reverse_reverse, lD] at e
        rw [e, wrapN (by omega)]
        refine ih (k + 1) _ (by omega) (by omega) ?_ ?_
        · refine (mv_perm (C := fun i j => rowC down (rowAt by_ i) (rowAt by_ j)) (k : Int) D.reverse []).trans ?_
          rw [List.reverse_reverse, places_succ]
          exact p.append_right _
        · exact mv_sorted h (k : Int) D.reverse [] (by rw [List.reverse_reverse, List.append_nil]; exact s) (fun s hs => by cases hs) (fun t ht => (mD t (List.mem_reverse.1 ht)).2)
      · obtain rfl : k = by_.length := by omega
        rw [decide_eq_false (by omega)]
        simp only [cond_false]
        exact ⟨D, p, s, collect17 hb hf hx lD mD n 0 (by omega) (by omega)⟩
  exact loop n 0 [] (by omega) (by omega) (List.Perm.refl _) List.Pairwise.nil
end
end W
end
section
open Go Go.Proofs Ax Go.RowKit
namespace W
set_option maxRecDepth 10000

theorem bigs_take_le (r : List Val) (i : Nat) : bigs (r.take i) ≤ bigs r := by
  induction r generalizing i with
  | nil => simp
  | cons v r ih =>
    cases i with
    | zero => simp [bigs]
    | succ i => simp only [List.take_succ_cons, bigs]; have := ih i; omega
theorem OkL.okS {n c : Nat} {l : List (List Val)} (h : OkL n c l) (hs : rbig l ≤ 1048576) {r : List Val} (hr : r ∈ l) {v : Val} (hv : v ∈ r) : OkS v := by
  have h1 := rbig_mem hr
  have h2 := bigs_mem hv
  have := (h.row r hr).val v hv
  exact ⟨this.right, this.range, by omega⟩
theorem OkL.okB {n c : Nat} {l : List (List Val)} (h : OkL n c l) (hs : rbig l ≤ 1048576) (hl : l.length ≤ 200) (hc : c ≤ 3000000) : OkB c l where
  len := fun r hr => (h.row r hr).len
  val := fun r hr v hv => h.okS hs hr hv
  few := by omega
  wide := hc
theorem rowAt_mem {by_ : List (List Val)} {x : Int} (h : 0 ≤ x ∧ x < (by_.length : Int)) : rowAt by_ x ∈ by_ := by
  obtain ⟨i, rfl⟩ := Int.eq_ofNat_of_zero_le h.1
  obtain ⟨r, hr⟩ : ∃ r, by_[i]? = some r := ⟨_, List.getElem?_eq_getElem (by omega)⟩
  rw [rowAt_nat hr]
  exact List.mem_of_getElem? hr

theorem pairs_eq {n : Nat} {l : List (List Val)} (h1 : ∀ r ∈ l, 1 ≤ r.length) (hl : l.length ≤ 1000000) (hn : l.length < n) : F_L17_pairs n l = some (l.map fun r => r.take 1, l.map fun r => r.drop 1) := by
  have loop : ∀ f k : Nat, k ≤ l.length → l.length - k < f → loopK (F_L17_pairs_l1 n l) f ((l.take k).map (fun r => r.take 1), (l.take k).map (fun r => r.drop 1), (k : Int)) = some (l.map fun r => r.take 1, l.map fun r => r.drop 1) := by
    intro f
    induction f with
    | zero => intro k _ h; omega
    | succ f ih =>
      intro k hk hf
      rw [loopK_succ]
      generalize loopK (F_L17_pairs_l1 n l) f = nx at ih ⊢
      unfold F_L17_pairs_l1
      simp only [slen]
      by_cases h : k < l.length
      · obtain ⟨r, hr⟩ : ∃ r, l[k]? = some r := ⟨_, List.getElem?_eq_getElem h⟩
        have hr1 := h1 r (List.mem_of_getElem? hr)
        have ht : l.take (k + 1) = l.take k ++ [r] := by rw [List.take_succ, hr]; rfl
        rw [decide_eq_true (by omega)]
        simp only [cond_true, Ax.idx_nat, hr, bnd_eq, valRows_len]
        rw [chk_dec hr1, chk_dec (by simp only [List.length_append, List.length_map, List.length_take, List.length_singleton]; omega), chk_dec hr1, chk_dec (by simp only [List.length_append, List.length_map, List.length_take, List.length_singleton]; omega), wrapN (by omega), ← ih (k + 1) (by omega) (by omega), ht]
        simp
      · rw [decide_eq_false (by omega)]
        simp only [cond_false]
        rw [List.take_of_length_le (by omega)]
  exact loop n 0 (by omega) (by omega)

theorem law_sorts {n : Nat} (hn : n = 67108864) {l : List (List Val)} {down : List Bool} (hs : rbig l ≤ 1048576) (hd : down.length ≤ 1048576) (hr : rangeR l = true) : F_L17_RowsSorts n l down = some true := by
  have hw := works_eq (n := n) (by omega)
  obtain ⟨b, f1, g1⟩ := few_eq (n := n) (by omega) (1 + down.length) (l := l) (by omega) (by omega) hr
  unfold F_L17_RowsSorts
  rw [boolLen, show IntKind.i64.wrap (1 + (down.length : Int)) = ((1 + down.length : Nat) : Int) by rw [wrapC (by omega) (by omega)]; omega, f1]
  simp only [bnd_eq]
  cases b with
  | false => simp [hw]
  | true =>
    obtain ⟨h200, hok⟩ := g1 rfl
    simp only [Bool.not_true, cond_false]
    have hrow := hok.row
    rw [pairs_eq (fun r hr => by have := (hrow r hr).len; omega) (by omega) (by omega)]
    simp only [bnd_eq]
    have hb : OkB down.length (l.map fun r => r.drop 1) := by
      refine ⟨fun r hr => ?_, fun r hr v hv => ?_, by rw [List.length_map]; omega, by omega⟩
      · obtain ⟨r', h1, rfl⟩ := List.mem_map.1 hr
        have := (hrow r' h1).len
        rw [List.length_drop]; omega
      · obtain ⟨r', h1, rfl⟩ := List.mem_map.1 hr
        exact hok.okS hs h1 (List.mem_of_mem_drop hv)
    have hbl : (l.map fun r => r.drop 1).length = l.length := List.length_map ..
    have hhl : (l.map fun r => r.take 1).length = l.length := List.length_map ..
    have hbg : ∀ r ∈ l.map (fun r => r.take 1), bigs r ≤ rbig l := by
      intro r hr
      obtain ⟨r', h1, rfl⟩ := List.mem_map.1 hr
      have := rbig_mem h1
      have := bigs_take_le r' 1
      omega
    obtain ⟨S, s1, s2, s3⟩ := rows_sort_eq (n := n) (by omega) (by omega) hb (hhl.trans hbl.symm) (fun r hr => by have := vbigL3 r; have := hbg r hr; omega)
    obtain ⟨T, t1, t2, t3⟩ := sort17_eq (n := n) hb (by omega) (hhl.trans hbl.symm)
    have e : S = T := sorted_uniq (sort_cmp (n := n) (by omega) hb) (s1.trans t1.symm) s2 t2
    subst e
    rw [s3, t3]
    simp only [bnd_eq]
    have hmem : ∀ r ∈ S.map (rowAt (l.map fun r => r.take 1)), r ∈ l.map (fun r => r.take 1) := by
      intro r hr
      obtain ⟨x, h1, rfl⟩ := List.mem_map.1 hr
      have := places_mem.1 (s1.mem_iff.1 h1)
      exact rowAt_mem (by rw [hhl, ← hbl]; exact this)
    rw [same_eq (n := n) (by omega) (fun r hr => by have := hbg r (hmem r hr); omega) (by rw [List.length_map, s1.length_eq, places_len, hbl]; omega)]
    simp [hw]
end W
end
section
open Go Go.Proofs Ax Go.RowKit
namespace W
set_option maxRecDepth 10000

theorem rowC_self (d : List Bool) (r : List Val) : rowC d r r = 0 := by have := rowC_anti d r r; omega
theorem cnt_perm {r : List Val} {l m : List (List Val)} (p : l.Perm m) : cnt r l = cnt r m := (p.filter _).length_eq
theorem rowAt_places (l : List (List Val)) : (places l.length).map (rowAt l) = l := by
  apply List.ext_getElem?
  intro i
  rw [List.getElem?_map, places, List.getElem?_map]
  by_cases h : i < l.length
  · rw [List.getElem?_range h]
    simp [rowAt, h]
  · rw [List.getElem?_eq_none (by simp; omega), List.getElem?_eq_none (by omega)]
    rfl

/-- Two rows side by side, from the first on. -/
theorem cols_loop {n c : Nat} (hn : 4000000 < n) (hc : c ≤ 3000000) {L : List (List Val)} {i : Nat} {r s : List Val} (hr : L[i]? = some r) (hs : L[i + 1]? = some s) (lr : r.length = c) (ls : s.length = c) (or' : ∀ v ∈ r, OkS v) (os : ∀ v ∈ s, OkS v) (hi : i ≤ 1000000) (nx1 : Int → Option Bool) :
    ∀ f k : Nat, k ≤ c → c - k < f → rowC (List.replicate (c - k) false) (r.drop k) (s.drop k) ≤ 0 → loopK (F_L17_RowsOrdered_l2 n (c : Int) L ((i + 1 : Nat) : Int) nx1) f (k : Int) = nx1 ((i + 1 + 1 : Nat) : Int) := by
  intro f
  have k3 : F_L17_RowsOrdered_k3 n nx1 ((i + 1 : Nat) : Int) () = nx1 ((i + 1 + 1 : Nat) : Int) := by
    unfold F_L17_RowsOrdered_k3
    rw [wrapN (by omega)]
  induction f with
  | zero => intro k _ h; omega
  | succ f ih =>
    intro k hk hf hle
    rw [loopK_succ]
    generalize loopK (F_L17_RowsOrdered_l2 n (c : Int) L ((i + 1 : Nat) : Int) nx1) f = nx at ih ⊢
    unfold F_L17_RowsOrdered_l2
    by_cases h : k < c
    · obtain ⟨v, hv⟩ : ∃ x, r[k]? = some x := ⟨_, List.getElem?_eq_getElem (by omega)⟩
      obtain ⟨w, hw⟩ : ∃ x, s[k]? = some x := ⟨_, List.getElem?_eq_getElem (by omega)⟩
      have eo := order_eqS hn (or' v (List.mem_of_getElem? hv)) (os w (List.mem_of_getElem? hw))
      rw [drop_consV hv, drop_consV hw, show c - k = (c - (k + 1)) + 1 by omega, List.replicate_succ] at hle
      have er : ∀ (v w : Val) (R S : List Val) (D : List Bool), rowC (false :: D) (v :: R) (w :: S) = if kc v w = 0 then rowC D R S else kc v w := fun v w R S D => by simp [rowC]
      rw [er] at hle
      obtain ⟨v1, v2, v3, v4, v5, v6⟩ := v
      obtain ⟨w1, w2, w3, w4, w5, w6⟩ := w
      rw [decide_eq_true (by omega), show IntKind.i64.wrap (((i + 1 : Nat) : Int) - 1) = (i : Int) by rw [wrapC (by omega) (by omega)]; omega]
      simp only [cond_true, Ax.idx_nat, hr, hs, bnd_eq, hv, hw, eo]
      generalize kc ⟨v1, v2, v3, v4, v5, v6⟩ ⟨w1, w2, w3, w4, w5, w6⟩ = x at hle ⊢
      by_cases h0 : x = 0
      · subst h0
        rw [if_pos rfl] at hle
        rw [decide_eq_false (by omega)]
        simp only [cond_false]
        rw [wrapN (by omega)]
        exact ih (k + 1) (by omega) (by omega) hle
      · rw [if_neg h0] at hle
        rw [decide_eq_false (by omega), decide_eq_true (by omega)]
        simp only [cond_false, cond_true]
        exact k3
    · rw [decide_eq_false (by omega)]
      simp only [cond_false]
      exact k3

theorem counts_loop {n : Nat} (hn : n ≤ 1073741824) {l L : List (List Val)} (p : L.Perm l) (hl : ∀ r ∈ l, 40 * bigs r + 40 < n) (hlen : l.length + 60 < n) :
    ∀ f k : Nat, k ≤ l.length → l.length - k < f → loopK (F_L17_RowsOrdered_l3 n l L) f (k : Int) = some true := by
  intro f
  induction f with
  | zero => intro k _ h; omega
  | succ f ih =>
    intro k hk hf
    rw [loopK_succ]
    generalize loopK (F_L17_RowsOrdered_l3 n l L) f = nx at ih ⊢
    unfold F_L17_RowsOrdered_l3
    simp only [slen]
    by_cases h : k < l.length
    · obtain ⟨r, hr⟩ : ∃ r, l[k]? = some r := ⟨_, List.getElem?_eq_getElem h⟩
      rw [decide_eq_true (by omega)]
      simp only [cond_true, Ax.idx_nat, hr, bnd_eq]
      rw [often_eq hn hl (by omega), often_eq hn (fun r h => hl r (p.mem_iff.1 h)) (by rw [p.length_eq]; omega), cnt_perm p]
      simp only [bnd_eq, bne_self_eq_false, cond_false]
      rw [wrapN (by omega)]
      exact ih (k + 1) (by omega) (by omega)
    · rw [decide_eq_false (by omega)]
      simp only [cond_false]
      rw [works_eq (by omega)]
      rfl

theorem wide_eq (n : Nat) (l : List (List Val)) : ∃ c : Nat, F_L17_wide n l = some (c : Int) ∧ c ≤ rbig l := by
  unfold F_L17_wide
  rw [slen]
  cases l with
  | nil => exact ⟨0, rfl, Nat.zero_le _⟩
  | cons r l =>
    refine ⟨r.length, ?_, ?_⟩
    · rw [show ((((r :: l).length : Nat) : Int) == 0) = false by simp; omega]
      rw [show (0 : Int) = ((0 : Nat) : Int) from rfl]
      simp only [cond_false, Ax.idx_nat, List.getElem?_cons_zero, bnd_eq, valRows_len]
    · have h1 := rbig_mem (l := r :: l) (r := r) (by simp)
      have h2 := bigs_len r
      omega

theorem law_ordered {n : Nat} (hn : n = 67108864) {l : List (List Val)} (hs : rbig l ≤ 1048576) (hr : rangeR l = true) : F_L17_RowsOrdered n l = some true := by
  have hw := works_eq (n := n) (by omega)
  obtain ⟨c, ec, hc⟩ := wide_eq n l
  obtain ⟨b, f1, g1⟩ := few_eq (n := n) (by omega) c (l := l) (by omega) (by omega) hr
  unfold F_L17_RowsOrdered
  rw [ec, bnd_eq, f1]
  simp only [bnd_eq]
  cases b with
  | false => simp [hw]
  | true =>
    obtain ⟨h200, hok⟩ := g1 rfl
    simp only [Bool.not_true, cond_false, Ax.natI_nat, bnd_eq]
    rw [chk_dec (by omega)]
    have lc : (List.replicate c false).length = c := List.length_replicate
    have hb : OkB (List.replicate c false).length l := by rw [lc]; exact hok.okB hs h200 (by omega)
    have hv : ∀ r ∈ l, vbigL r < n := fun r hr => by have := vbigL3 r; have := rbig_mem hr; omega
    have h40 : ∀ r ∈ l, 40 * bigs r + 40 < n := fun r hr => by have := rbig_mem hr; omega
    obtain ⟨S, s1, s2, s3⟩ := rows_sort_eq (n := n) (by omega) (by omega) hb rfl hv
    rw [s3]
    simp only [bnd_eq]
    obtain ⟨L, hL⟩ : ∃ L, L = S.map (rowAt l) := ⟨_, rfl⟩
    have pL : L.Perm l := by
      have := s1.map (rowAt l)
      rw [rowAt_places] at this
      rw [hL]
      exact this
    have lL := pL.length_eq
    rw [← hL]
    have hbL : OkB (List.replicate c false).length L := ⟨fun r h => hb.len r (pL.mem_iff.1 h), fun r h => hb.val r (pL.mem_iff.1 h), by rw [lL]; exact hb.few, hb.wide⟩
    obtain ⟨T, t1, t2, t3⟩ := rows_sort_eq (n := n) (by omega) (by omega) hbL rfl (fun r h => hv r (pL.mem_iff.1 h))
    -- the sorted rows rise
    have rise : ∀ (i j : Nat) (r s : List Val), i < j → L[i]? = some r → L[j]? = some s → rowC (List.replicate c false) r s ≤ 0 := by
      intro i j r s hij h1 h2
      rw [hL, List.getElem?_map] at h1 h2
      obtain ⟨x, hx, rfl⟩ := Option.map_eq_some_iff.1 h1
      obtain ⟨y, hy, rfl⟩ := Option.map_eq_some_iff.1 h2
      obtain ⟨hi, rfl⟩ := List.getElem?_eq_some_iff.1 hx
      obtain ⟨hj, rfl⟩ := List.getElem?_eq_some_iff.1 hy
      exact Ahead.le (List.pairwise_iff_getElem.1 s2 i j hi hj hij)
    have idS : (places L.length).Pairwise (Ahead fun i j => rowC (List.replicate c false) (rowAt L i) (rowAt L j)) := by
      rw [List.pairwise_iff_getElem]
      intro i j hi hj hij
      rw [places_len] at hi hj
      have gi : (places L.length)[i]'(by rw [places_len]; exact hi) = (i : Int) := by simp [places]
      have gj : (places L.length)[j]'(by rw [places_len]; exact hj) = (j : Int) := by simp [places]
      rw [gi, gj]
      obtain ⟨r, hr⟩ : ∃ r, L[i]? = some r := ⟨_, List.getElem?_eq_getElem hi⟩
      obtain ⟨s, hs⟩ : ∃ r, L[j]? = some r := ⟨_, List.getElem?_eq_getElem hj⟩
      have := rise i j r s hij hr hs
      show rowC _ _ _ < 0 ∨ (rowC _ _ _ = 0 ∧ _)
      rw [rowAt_nat hr, rowAt_nat hs]
      omega
    have eT : T = places L.length := sorted_uniq (sort_cmp (n := n) (by omega) hbL) t1 t2 idS
    rw [eT, rowAt_places] at t3
    have e0 : ((((slRows valC L).length : Nat) : Int) != (((slRows valC l).length : Nat) : Int)) = false := by rw [slen, slen, lL]; simp
    rw [t3, e0]
    simp only [Bool.not_false, gsome_t, bnd_eq, cond_false]
    rw [same_eq (n := n) (by omega) (fun r h => h40 r (pL.mem_iff.1 h)) (by omega)]
    simp only [bnd_eq, decide_true, Bool.not_true, cond_false]
    have loop : ∀ f k : Nat, k ≤ L.length ∨ k ≤ 1 → L.length + 1 - k < f → 1 ≤ k → loopK (F_L17_RowsOrdered_l1 n L (c : Int) l) f (k : Int) = some true := by
      intro f
      induction f with
      | zero => intro k _ h; omega
      | succ f ih =>
        intro k hk hf h1
        rw [loopK_succ]
        generalize loopK (F_L17_RowsOrdered_l1 n L (c : Int) l) f = nx at ih ⊢
        unfold F_L17_RowsOrdered_l1
        simp only [slen]
        by_cases h : k < L.length
        · rw [decide_eq_true (by omega)]
          simp only [cond_true]
          obtain ⟨i, rfl⟩ : ∃ i, k = i + 1 := ⟨k - 1, by omega⟩
          obtain ⟨r, hr⟩ : ∃ r, L[i]? = some r := ⟨_, List.getElem?_eq_getElem (by omega)⟩
          obtain ⟨s, hs'⟩ : ∃ r, L[i + 1]? = some r := ⟨_, List.getElem?_eq_getElem h⟩
          have mr := List.mem_of_getElem? hr
          have ms := List.mem_of_getElem? hs'
          have := cols_loop (n := n) (c := c) (by omega) (by omega) hr hs' (by rw [hbL.len r mr, lc]) (by rw [hbL.len s ms, lc]) (hbL.val r mr) (hbL.val s ms) (by omega) nx n 0 (by omega) (by omega) (by simpa using rise i (i + 1) r s (by omega) hr hs')
          rw [show ((0 : Nat) : Int) = 0 from rfl] at this
          rw [this]
          exact ih (i + 1 + 1) (by omega) (by omega) (by omega)
        · rw [decide_eq_false (by omega)]
          simp only [cond_false]
          exact counts_loop (n := n) (by omega) pL h40 (by omega) n 0 (by omega) (by omega)
    exact loop n 1 (by omega) (by omega) (by omega)
end W
end
section
namespace W
open Go Go.Proofs Ax Go.RowKit Go.ChangeShapes Go.WideShapes Go.ChangeAt
open Go.Proofs.YtajcpfcghhbbnaaDoor Go.ChangeMaps
set_option maxRecDepth 100000 in
theorem contract5 (H : Type) (enc : TypeId × Value → H) (W : World) (base : Nat) (args : Array Value) (ds gs : List (DataW H)) (before : List MemPlace)
    (hval : ∀ (j : Nat) t v, Tryd.f5.params[j]? = some t → args[j]? = some v → Value.okWide Tryd.prog W .any base t v)
    (hW : DataW.Whole enc Tryd.prog Tryd.f5.params.toList Rows.rowsOrderedSpec.vars false W args.toList ds gs before) (hk : Rows.uptoSmall H (ds ++ gs) = true) (hsh : W.ShapedOpen Tryd.prog) :
    Calls Tryd.prog 5 args W fun e W' => ∃ v, e = .returned v ∧ Rows.rowsOrderedSpec.post enc Tryd.prog Tryd.f5 false true false false W args v W' := by
  have hW' := hW
  obtain ⟨p, q, hA, hV, rfl, hfz, hnd⟩ := hW
  rw [Tryd.params5] at hA hval
  obtain ⟨v0, vs0, d0, ds0, p0, q0, hargs0, rfl, rfl, h0, r0⟩ := trodAll_cons hA
  obtain ⟨rfl, rfl, rfl⟩ := trodAll_nil r0
  obtain ⟨x0, rx0, bx0, ix0⟩ := reads_argRows (hval 0 22 v0 rfl (by have := congrArg (fun l => l[0]?) hargs0; simpa using this)) h0
  have hb := of_decide_eq_true hk
  simp only [List.cons_append, Rows.uptoBulkAll] at hb
  have hc := (F_L17_RowsOrdered_ok 67108864 _ _ (law_ordered (n := 67108864) rfl (l := x0) (by omega) ix0)).calls (fun _ _ => Tryd.call5 _ _) (w := W) (heapH_sat (root hsh)) (vs := args.toList) (by rw [hargs0]; simp only [RepL]; exact ⟨_, _, rfl, rx0, rfl⟩)
  refine hc.mono fun e W' ⟨v, H', he, c, r⟩ => ⟨v, he, ?_⟩
  simp only [RepP] at r
  subst r
  obtain ⟨-, rfl⟩ : True ∧ gs = [] := ⟨trivial, by obtain ⟨h1, h2⟩ := trodVars_none hV; first | exact h1 | exact h2⟩
  exact post_law (tb := 4) laidOut (by kernel_rfl) hW' c.below rfl rfl (by kernel_rfl) Tryd.underlying4

theorem plain5 (f : FuncId) (fn : Func) (hf : Tryd.pinned.checked.prog.funcNamed "wattle/wattlelaw17.RowsOrdered" = some f) (hfn : Tryd.pinned.checked.prog.funcs[f]? = some fn) :
    false = Tryd.pinned.checked.prog.looks [] ∧ ∀ (j : Nat) t, fn.params[j]? = some t → Tryd.pinned.checked.prog.wantsStandIn t = false := by
  obtain rfl : f = 5 := Option.some.inj ((show Tryd.prog.funcNamed "wattle/wattlelaw17.RowsOrdered" = some 5 by kernel_rfl).symm.trans hf) |>.symm
  obtain rfl : fn = Tryd.f5 := (Option.some.inj (Tryd.func5.symm.trans hfn)).symm
  refine ⟨by kernel_rfl, fun j t ht => ?_⟩
  rw [Tryd.params5] at ht
  have := Array.mem_of_getElem? ht
  simp only [List.mem_toArray, List.mem_cons, List.not_mem_nil, or_false] at this
  rcases this with rfl <;> exact (show Tryd.prog.wantsStandIn 22 = false by kernel_rfl)

theorem laid_met5 (os : Os) : laidMet Tryd.prog Rows.rowsOrderedUptoRow.laid ((laidWorld os).forCall (fun _ _ => 0) ⟨#[], #[V0], []⟩).memory :=
  laidMet_of_run' 8 (by kernel_rfl) (by kernel_rfl)
theorem reads5 (os : Os) {H : Type} (enc : TypeId × Value → H) : ∃ places, DataW.whole enc Tryd.prog ((laidWorld os).forCall (fun _ _ => 0) ⟨#[], #[V0], []⟩).memory Tryd.f5.params.toList Rows.rowsOrderedSpec.vars false #[V0].toList 8 = some ([D0 H], [], places) :=
  ⟨[], by kernel_rfl⟩

set_option maxRecDepth 100000 in
theorem lifted5 (os : Os) (started : os.Started) (H : Type) (enc : TypeId × Value → H) (F : Stop.Interp) :
    ReturnsInHanded {} Tryd.checked os 5 .any ((Rows.OpenSpec.upto Rows.rowsOrderedSpec).preRow enc Tryd.prog Tryd.f5 Rows.rowsOrderedUptoRow.domain false Rows.rowsOrderedUptoRow.laid) (((Rows.OpenSpec.upto Rows.rowsOrderedSpec).at F).post enc Tryd.prog Tryd.f5 false true false false) := by
  obtain ⟨places, hx⟩ := reads5 os enc
  refine returnsInHanded_of_row (C := Tryd.checked) (s := Rows.OpenSpec.upto Rows.rowsOrderedSpec) own started (by kernel_rfl) Tryd.func5
    (witness_row_at (enc := enc) (C := Tryd.checked) false (laidWorld os) #[V0] rfl (by kernel_rfl) (by kernel_rfl) (by kernel_rfl)
      (OpenSpec.preRow_of_cond 8 hx (by kernel_rfl) (fun k hk => by cases hk; kernel_rfl) (by kernel_rfl) (laid_met5 os))) ?_
  intro W base args ds gs before hval hW _ hcond _ _ hsh _
  exact contract5 H enc W base args ds gs before hval hW (hcond _ rfl) hsh

theorem saidUpto5 : Rows.RowsOrderedUptoSaid :=
  OpenClaim.holds_of_cond 5 Tryd.f5 rfl rfl rfl rfl rfl rfl rfl ⟨rfl, rfl, rfl, rfl, rfl⟩ rfl rfl rfl rfl rfl (by kernel_rfl) Tryd.func5 (by kernel_rfl)
    (of_decide_eq_true (by kernel_rfl)) (by unfold Func.isWrapper; first | (rw [if_pos (by decide +kernel)]; kernel_rfl) | (rw [if_neg (by decide +kernel)]; exact ⟨rfl, rfl⟩))
    (fun os started H enc _ F => by rw [OpenClaim.pre_eq_preRow]; exact lifted5 os started H enc F)
theorem cardUpto5 : Rows.RowsOrderedUptoCardSaid :=
  Claim7.holds_tied_plain_at .later [] _ _ _ _ saidUpto5 (fun _ h => by cases h) (by kernel_rfl) (fun _ h => by cases h) rowsOrderedUpto_row_tie rfl ⟨rfl, rfl⟩ (by kernel_rfl) rfl plain5 (by kernel_rfl)
end W
end
