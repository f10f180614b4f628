/- A part of the proof. -/
import Derived.Test.YtajcpfcghhbbnaaDoorE
set_option linter.all false
section
open Go Ax Go.RowKit
namespace W
set_option maxRecDepth 10000

def intV : Val → Int
  | .mk _ _ i _ _ _ => i
def intOf (i : Int) : Val := .mk 2 false i [] [] []
theorem count_eq (n : Nat) (c : List Val) : F_rows_gather n [99, 111, 117, 110, 116] c = some (intOf ((c.length : Nat) : Int), 0) := by
  unfold F_rows_gather
  simp [intOf]

theorem add_eq (n : Nat) {a b : Int} (ha : int64 a = true) (hb : int64 b = true) : F_num_Add n a b = some (if int64 (a + b) = true then (a + b, 0) else (0, 4)) := by
  simp only [int64, decide_eq_true_eq] at ha hb ⊢
  have w : ∀ s : Int, IntKind.i64.wrap s = (if s % 18446744073709551616 < 9223372036854775808 then s % 18446744073709551616 else s % 18446744073709551616 - 18446744073709551616) := by
    intro s
    simp only [IntKind.wrap, IntKind.bits, IntKind.signed]
    simp
    split <;> split <;> omega
  unfold F_num_Add
  rw [w]
  generalize hs : a + b = s
  by_cases hin : -9223372036854775808 ≤ s ∧ s < 9223372036854775808
  · rw [if_pos hin]
    have e : (if s % 18446744073709551616 < 9223372036854775808 then s % 18446744073709551616 else s % 18446744073709551616 - 18446744073709551616) = s := by split <;> omega
    rw [e]
    have : (bif ((decide (a < (0 : Int))) == (decide (b < (0 : Int)))) then (!((decide (s < (0 : Int))) == (decide (a < (0 : Int))))) else false) = false := by
      by_cases h1 : a < 0 <;> by_cases h2 : b < 0 <;> simp [h1, h2] <;> omega
    rw [this]
    rfl
  · rw [if_neg hin]
    have : (bif ((decide (a < (0 : Int))) == (decide (b < (0 : Int)))) then (!((decide ((if s % 18446744073709551616 < 9223372036854775808 then s % 18446744073709551616 else s % 18446744073709551616 - 18446744073709551616) < (0 : Int))) == (decide (a < (0 : Int))))) else false) = true := by
      have hc : (a < 0 ∧ b < 0) ∨ (0 ≤ a ∧ 0 ≤ b) := by omega
      rcases hc with ⟨h1, h2⟩ | ⟨h1, h2⟩
      · have e : ¬ (if s % 18446744073709551616 < 9223372036854775808 then s % 18446744073709551616 else s % 18446744073709551616 - 18446744073709551616) < 0 := by split <;> omega
        simp [h1, h2, e]
      · have e : (if s % 18446744073709551616 < 9223372036854775808 then s % 18446744073709551616 else s % 18446744073709551616 - 18446744073709551616) < 0 := by split <;> omega
        have h1' : ¬ a < 0 := by omega
        have h2' : ¬ b < 0 := by omega
        simp [h1', h2', e]
    rw [this]
    rfl

/-- The sum of values, from a number on. -/
def sumS (acc : Int) : List Val → Val × Int
  | [] => (intOf acc, 0)
  | v :: l => if kindV v = 2 then (if int64 (acc + intV v) = true then sumS (acc + intV v) l else (nullV, 4)) else (nullV, 3)
def total : List Val → Int
  | [] => 0
  | v :: l => intV v + total l
theorem total_append (a b : List Val) : total (a ++ b) = total a + total b := by
  induction a with
  | nil => simp [total]
  | cons x a ih => simp only [List.cons_append, total, ih]; omega
theorem sumS_ok {l : List Val} : ∀ {acc : Int} {v : Val}, int64 acc = true → sumS acc l = (v, 0) → v = intOf (acc + total l) ∧ int64 (acc + total l) = true := by
  induction l with
  | nil => intro acc v ha h; simp only [sumS, Prod.mk.injEq, and_true] at h; simp [total, ← h, ha]
  | cons x l ih =>
    intro acc v ha h
    simp only [sumS] at h
    split at h
    · split at h
      · rename_i h1
        have := ih h1 h
        simp only [total]
        rw [show acc + (intV x + total l) = acc + intV x + total l by omega]
        exact this
      · simp at h
    · simp at h
theorem sumS_val {l : List Val} : ∀ {acc : Int}, ∃ i, (sumS acc l).1 = intOf i ∨ (sumS acc l).1 = nullV := by
  induction l with
  | nil => intro acc; exact ⟨acc, .inl rfl⟩
  | cons x l ih =>
    intro acc
    simp only [sumS]
    split
    · split
      · exact ih
      · exact ⟨0, .inr rfl⟩
    · exact ⟨0, .inr rfl⟩
theorem sum_eq {n : Nat} {c : List Val} (hr : ∀ v ∈ c, range64 v = true) (hc : c.length < n) (hn : n ≤ 1073741824) : F_rows_gather n [115, 117, 109] c = some (sumS 0 c) := by
  have loop : ∀ (m i : Nat) (acc : Int), i ≤ c.length → c.length - i < m → int64 acc = true → loopK (F_rows_sum_l1 n c) m (acc, (i : Int)) = some (sumS acc (c.drop i)) := by
    intro m
    induction m with
    | zero => intro i _ _ h; omega
    | succ m ih =>
      intro i acc hi hm ha
      rw [loopK_succ]
      generalize loopK (F_rows_sum_l1 n c) m = nx at ih ⊢
      unfold F_rows_sum_l1
      simp only [valRows_len]
      by_cases hlt : i < c.length
      · obtain ⟨x, hx⟩ : ∃ x, c[i]? = some x := ⟨_, List.getElem?_eq_getElem hlt⟩
        have hrx := hr x (List.mem_of_getElem? hx)
        have hd : c.drop i = x :: c.drop (i + 1) := by
          obtain ⟨_, e⟩ := List.getElem?_eq_some_iff.1 hx
          rw [List.drop_eq_getElem_cons hlt, e]
        rw [decide_eq_true (show (i : Int) < (c.length : Int) by omega), hd]
        obtain ⟨a1, a2, a3, a4, a5, a6⟩ := x
        have h3 : int64 a3 = true := by simp only [range64, Bool.and_eq_true] at hrx; exact hrx.1
        simp only [cond_true, Ax.idx_nat, hx, bnd_eq, sumS, kindV, intV]
        by_cases hk : a1 = 2
        · subst hk
          simp only [show ((2 : Int) != 2) = false from rfl, cond_false, add_eq n ha h3, bnd_eq, if_true]
          by_cases hin : int64 (acc + a3) = true
          · simp only [hin, if_true, show ((0 : Int) != 0) = false from rfl, cond_false]
            rw [wrapN (by omega)]
            exact ih (i + 1) _ (by omega) (by omega) hin
          · simp only [hin, if_false]
            first | done | rfl
        · have : (a1 != 2) = true := by simp [hk]
          simp only [this, cond_true, hk, if_false]
          first | done | rfl
      · rw [decide_eq_false (show ¬ (i : Int) < (c.length : Int) by omega), List.drop_eq_nil_of_le (by omega)]
        rfl
  have hs : F_rows_sum n c = some (sumS 0 c) := loop n 0 0 (Nat.zero_le _) (by omega) rfl
  unfold F_rows_gather
  rw [show (([115, 117, 109] : List UInt8) == [99, 111, 117, 110, 116]) = false from rfl, show (([115, 117, 109] : List UInt8) == [115, 117, 109]) = true from rfl]
  simp only [cond_false, cond_true, hs, bnd_eq]
  obtain ⟨⟨_, _, _, _, _, _⟩, _⟩ := sumS 0 c
  rfl
theorem count_ne : ([99, 111, 117, 110, 116] : List UInt8) ≠ [] := by simp
theorem sum_ne : ([115, 117, 109] : List UInt8) ≠ [] := by simp
theorem gcount {n : Nat} {l : List (List Val)} (hl : OkL n 1 l) : F_rows_Group n l [[99, 111, 117, 110, 116]] = some ([[intOf (((colS l).length : Nat) : Int)]], 0) := by
  have := group_eq hl count_ne (count_eq n (colS l)) (by have := hl.small; simp [intOf, vbig, vbigL]; omega)
  simpa using this
theorem col_range {n : Nat} {l : List (List Val)} (hl : OkL n 1 l) : ∀ v ∈ colS l, OkV n v := fun v hv => (hl.row _ (colS_mem hv).1).val v (by simp)
theorem gsum {n : Nat} {l : List (List Val)} (hl : OkL n 1 l) : F_rows_Group n l [[115, 117, 109]] = some (if (sumS 0 (colS l)).2 = 0 then ([[(sumS 0 (colS l)).1]], 0) else ([], (sumS 0 (colS l)).2)) := by
  have hs := hl.small
  have h1 := colS_len l
  refine group_eq hl sum_ne (sum_eq (fun v hv => (col_range hl v hv).range) (by omega) hl.lim) ?_
  obtain ⟨i, h | h⟩ := @sumS_val (colS l) 0 <;> rw [h] <;> simp [intOf, nullV, vbig, vbigL] <;> omega
end W
end
section
open Go Go.Proofs Ax Go.RowKit
namespace W
set_option maxRecDepth 10000
open Classical

theorem works_ok (m : Nat) : F_L17_works (m + 60) = some true := by kernel_rfl
theorem works_eq {n : Nat} (h : 60 ≤ n) : F_L17_works n = some true := by
  obtain ⟨m, rfl⟩ : ∃ m, n = m + 60 := ⟨n - 60, by omega⟩
  exact works_ok m

theorem uniqA_append (acc l m : List (List Val)) : uniqA acc (l ++ m) = uniqA (uniqA acc l) m := by
  induction l generalizing acc with
  | nil => rfl
  | cons a l ih =>
    simp only [List.cons_append, uniqA]
    split <;> exact ih _
theorem uniqA_filter (acc : List (List Val)) : ∀ (m b : List (List Val)), uniqA (acc ++ b.filter fun r => decide (r ∉ acc)) m = acc ++ (uniqA b m).filter fun r => decide (r ∉ acc) := by
  intro m
  induction m with
  | nil => intro b; rfl
  | cons a m ih =>
    intro b
    simp only [uniqA, List.mem_append, List.mem_filter]
    by_cases ha : a ∈ acc
    · rw [if_pos (.inl ha)]
      by_cases hb : a ∈ b
      · rw [if_pos hb]; exact ih b
      · rw [if_neg hb, ← ih (b ++ [a])]
        congr 2
        simp [ha]
    · by_cases hb : a ∈ b
      · rw [if_pos (.inr ⟨hb, by simpa using ha⟩), if_pos hb]; exact ih b
      · rw [if_neg (fun h => h.elim ha fun h => hb h.1), if_neg hb, ← ih (b ++ [a])]
        congr 1
        simp [ha]
theorem uniq_behind (l m : List (List Val)) : uniq (l ++ m) = uniq l ++ (uniq m).filter fun r => decide (r ∉ uniq l) := by
  have := uniqA_filter (uniq l) m []
  simpa [uniq, uniqA_append] using this
theorem uniqA_one {acc : List (List Val)} (h : ∀ r, cnt r acc ≤ 1) (l : List (List Val)) : ∀ r, cnt r (uniqA acc l) ≤ 1 := by
  induction l generalizing acc with
  | nil => exact h
  | cons a l ih =>
    simp only [uniqA]
    split
    · exact ih h
    · rename_i ha
      refine ih fun r => ?_
      rw [cnt_append]
      have h1 := h r
      by_cases e : a = r
      · subst e
        rw [cnt_zero.2 ha]
        simp [cnt]
      · simp [cnt, e]; exact h1
theorem uniq_one (l : List (List Val)) (r : List Val) : cnt r (uniq l) ≤ 1 := uniqA_one (fun r => by simp [cnt]) l r
theorem uniq_sub {l : List (List Val)} {r : List Val} (h : r ∈ uniq l) : r ∈ l := (uniqA_sub h).elim (fun h => by cases h) id
theorem uniq_len (l : List (List Val)) : (uniq l).length ≤ l.length := by
  have : ∀ (l acc : List (List Val)), (uniqA acc l).length ≤ acc.length + l.length := by
    intro l
    induction l with
    | nil => intro acc; exact Nat.le_refl _
    | cons a l ih =>
      intro acc
      simp only [uniqA]
      split
      · have := ih acc; simp only [List.length_cons]; omega
      · have := ih (acc ++ [a]); simp only [List.length_append, List.length_cons, List.length_nil] at this ⊢; omega
  simpa [uniq] using this l []
theorem cnt_filter_le (r : List Val) (p : List Val → Bool) (l : List (List Val)) : cnt r (l.filter p) ≤ cnt r l := by
  unfold cnt
  exact (List.Sublist.filter _ List.filter_sublist).length_le

theorem OkL.append {n c : Nat} {l m : List (List Val)} (hl : OkL n c l) (hm : OkL n c m) (hs : 60 * (rbig l + rbig m) + 1000 < n) : OkL n c (l ++ m) :=
  ⟨fun r hr => (List.mem_append.1 hr).elim (hl.row r) (hm.row r), by rw [rbig_append]; exact hs, hl.lim⟩

theorem wrapI {i : Int} (h : int64 i = true) : IntKind.i64.wrap i = i := by
  simp only [int64, decide_eq_true_eq] at h
  exact wrap_ok i (by omega) (by omega)

theorem parts_end {n : Nat} {l m : List (List Val)} (hl : OkL n 1 l) (hm : OkL n 1 m) (hs : 60 * (rbig l + rbig m) + 1000 < n) : F_L17_RowsParts_k1 n l m () = some true := by
  have hlm := hl.append hm hs
  have hn := hl.lim
  have h1 := uniq_len l
  have h2 := uniq_len m
  have h3 := uniq_len (l ++ m)
  have h4 := rbig_len l
  have h5 := rbig_len m
  have hz := uniq_behind l m
  have hw := works_eq (n := n) (by omega)
  generalize hX : uniq l = X at *
  generalize hY : uniq m = Y at *
  generalize hZ : uniq (l ++ m) = Z at *
  have hlen : Z.length = X.length + (Y.filter fun r => decide (r ∉ X)).length := by rw [hz, List.length_append]
  have hfl : (Y.filter fun r => decide (r ∉ X)).length ≤ Y.length := List.length_filter_le _ _
  unfold F_L17_RowsParts_k1
  simp only [unique_eq hl, unique_eq hm, unique_eq hlm, bnd_eq, hX, hY, hZ, slen]
  have w1 : IntKind.i64.wrap (((X.length : Nat) : Int) + ((Y.length : Nat) : Int)) = ((X.length + Y.length : Nat) : Int) := by rw [wrapC (by omega) (by omega)]; omega
  have hc : (bif (decide (((Z.length : Nat) : Int) > ((X.length + Y.length : Nat) : Int))) then true else (decide (((Z.length : Nat) : Int) < ((X.length : Nat) : Int)))) = false := by
    rw [decide_eq_false (by omega), decide_eq_false (by omega)]; rfl
  rw [w1, hc]
  simp only [Bool.not_false, gsome_t, Ax.natI_nat, bnd_eq, cond_true]
  rw [chk_dec (by omega)]
  have okX : ∀ r ∈ X, OkR n 1 r := fun r hr => hl.row r (uniq_sub (by rw [hX]; exact hr))
  have okY : ∀ r ∈ Y, OkR n 1 r := fun r hr => hm.row r (uniq_sub (by rw [hY]; exact hr))
  have okZ : ∀ r ∈ Z, OkR n 1 r := fun r hr => hlm.row r (uniq_sub (by rw [hZ]; exact hr))
  have ht : Z.take X.length = X := by rw [hz]; simp
  rw [ht, same_eq hn (fun r hr => (okX r hr).small) (by omega)]
  simp only [decide_true, bnd_eq, Bool.not_true, cond_false]
  have loop : ∀ q i : Nat, X.length ≤ i → i ≤ Z.length → Z.length - i < q → loopK (F_L17_RowsParts_l1 n Z X Y) q (i : Int) = some true := by
    intro q
    induction q with
    | zero => intro i _ _ h; omega
    | succ q ih =>
      intro i hxi hi hq
      rw [loopK_succ]
      generalize loopK (F_L17_RowsParts_l1 n Z X Y) q = nx at ih ⊢
      unfold F_L17_RowsParts_l1
      simp only [slen]
      by_cases hlt : i < Z.length
      · obtain ⟨r, hr⟩ : ∃ x, Z[i]? = some x := ⟨_, List.getElem?_eq_getElem hlt⟩
        have hf : r ∈ Y.filter fun r => decide (r ∉ X) := by
          rw [hz, List.getElem?_append_right hxi] at hr
          exact List.mem_of_getElem? hr
        have hrY : r ∈ Y := (List.mem_filter.1 hf).1
        have hrX : r ∉ X := by simpa using (List.mem_filter.1 hf).2
        have c1 : cnt r X = 0 := cnt_zero.2 hrX
        have c2 : cnt r Y = 1 := by have := uniq_one m r; rw [hY] at this; have := cnt_pos.2 hrY; omega
        have c3 : cnt r Z = 1 := by
          rw [hz, cnt_append, c1]
          have h1 := cnt_filter_le r (fun r => decide (r ∉ X)) Y
          have h2 := cnt_pos.2 hf
          omega
        rw [decide_eq_true (show (i : Int) < (Z.length : Int) by omega)]
        simp only [cond_true, Ax.idx_nat, hr, bnd_eq, often_eq hn (fun r hr => (okX r hr).small) (by omega : X.length < n), often_eq hn (fun r hr => (okY r hr).small) (by omega : Y.length < n), often_eq hn (fun r hr => (okZ r hr).small) (by omega : Z.length < n), c1, c2, c3]
        have d0 : decide (((0 : Nat) : Int) > 0) = false := rfl
        have d1 : (((1 : Nat) : Int) != 1) = false := rfl
        rw [d0]
        simp only [Bool.not_false, gsome_t, bnd_eq, cond_false, often_eq hn (fun r hr => (okY r hr).small) (by omega : Y.length < n), c2, d1, often_eq hn (fun r hr => (okZ r hr).small) (by omega : Z.length < n), c3]
        rw [wrapN (by omega)]
        exact ih (i + 1) (by omega) (by omega) (by omega)
      · rw [decide_eq_false (show ¬ (i : Int) < (Z.length : Int) by omega)]
        simp only [cond_false, hw, bnd_eq]
  exact loop n X.length (Nat.le_refl _) (by omega) (by omega)

theorem law_parts {n : Nat} (hn : n ≤ 1073741824) {l m : List (List Val)} (hs : 60 * (rbig l + rbig m) + 1000 < n) (hrl : rangeR l = true) (hrm : rangeR m = true) : F_L17_RowsParts n l m = some true := by
  have hw := works_eq (n := n) (by omega)
  obtain ⟨b1, f1, g1⟩ := few_eq hn 1 (l := l) (by omega) (by omega) hrl
  obtain ⟨b2, f2, g2⟩ := few_eq hn 1 (l := m) (by omega) (by omega) hrm
  unfold F_L17_RowsParts
  rw [show ((1 : Int)) = ((1 : Nat) : Int) from rfl, f1, f2]
  simp only [bnd_eq]
  cases b1 with
  | false => simp [gsome, hw]
  | true =>
  cases b2 with
  | false => simp [gsome, hw]
  | true =>
  obtain ⟨_, ok1⟩ := g1 rfl
  obtain ⟨_, ok2⟩ := g2 rfl
  have ok3 := ok1.append ok2 hs
  have h4 := rbig_len l
  have h5 := rbig_len m
  simp only [Bool.not_true, Bool.not_false, gsome_t, bnd_eq, cond_false]
  rw [chk_dec (by rw [slen]; omega), chk_dec (by rw [slen, List.length_append]; omega)]
  rw [gcount ok1, gcount ok2, gcount ok3]
  simp only [bnd_eq, slen, List.length_cons, List.length_nil, show ((0 : Int) != 0) = false from rfl, cond_false, show (((0 + 1 : Nat) : Int) != ((1 : Nat) : Int)) = false from rfl, Bool.not_false, gsome_t, idx0, intOf]
  have hcl := colS_len l
  have hcm := colS_len m
  have hcc : (colS (l ++ m)).length = (colS l).length + (colS m).length := by rw [colS_append, List.length_append]
  have e1 : (((((colS (l ++ m)).length : Nat) : Int)) != (IntKind.i64.wrap (((((colS l).length : Nat) : Int)) + ((((colS m).length : Nat) : Int))))) = false := by
    rw [wrapC (by omega) (by omega), hcc]
    simp
  rw [e1]
  simp only [cond_false]
  rw [gsum ok1, gsum ok2, gsum ok3]
  simp only [bnd_eq]
  generalize ha : sumS 0 (colS l) = A
  generalize hb : sumS 0 (colS m) = B
  generalize hc : sumS 0 (colS (l ++ m)) = C
  obtain ⟨av, ae⟩ := A
  obtain ⟨bv, be⟩ := B
  obtain ⟨cv, ce⟩ := C
  have hend := parts_end ok1 ok2 hs
  by_cases e1 : ae = 0
  · by_cases e2 : be = 0
    · by_cases e3 : ce = 0
      · subst e1 e2 e3
        obtain ⟨rfl, ia⟩ := sumS_ok (acc := 0) rfl ha
        obtain ⟨rfl, ib⟩ := sumS_ok (acc := 0) rfl hb
        obtain ⟨rfl, ic⟩ := sumS_ok (acc := 0) rfl hc
        rw [colS_append, total_append] at ic ⊢
        simp only [Int.zero_add] at ia ib ic ⊢
        simp only [if_true, show ((0 : Int) == 0) = true from rfl, cond_true, idx0, bnd_eq, intOf, add_eq n ia ib, ic]
        simp [hend, gsome]
      · have : (ce == 0) = false := by simp [e3]
        simp [this, e1, e2, e3, hend]
    · have : (be == 0) = false := by simp [e2]
      simp [this, e1, e2, hend]
  · have : (ae == 0) = false := by simp [e1]
    simp [this, e1, hend]
end W
end
section
namespace W
open Go Go.Proofs Ax Go.RowKit Go.ChangeShapes Go.WideShapes Go.ChangeAt
open Go.Proofs.YtajcpfcghhbbnaaDoor Go.ChangeMaps
set_option maxRecDepth 100000 in
theorem contract6 (H : Type) (enc : TypeId × Value → H) (W : World) (base : Nat) (args : Array Value) (ds gs : List (DataW H)) (before : List MemPlace)
    (hval : ∀ (j : Nat) t v, Tryd.f6.params[j]? = some t → args[j]? = some v → Value.okWide Tryd.prog W .any base t v)
    (hW : DataW.Whole enc Tryd.prog Tryd.f6.params.toList Rows.rowsPartsSpec.vars false W args.toList ds gs before) (hk : Rows.uptoSmall H (ds ++ gs) = true) (hsh : W.ShapedOpen Tryd.prog) :
    Calls Tryd.prog 6 args W fun e W' => ∃ v, e = .returned v ∧ Rows.rowsPartsSpec.post enc Tryd.prog Tryd.f6 false true false false W args v W' := by
  have hW' := hW
  obtain ⟨p, q, hA, hV, rfl, hfz, hnd⟩ := hW
  rw [Tryd.params6] at hA hval
  obtain ⟨v0, vs0, d0, ds0, p0, q0, hargs0, rfl, rfl, h0, r0⟩ := trodAll_cons hA
  obtain ⟨v1, vs1, d1, ds1, p1, q1, hargs1, rfl, rfl, h1, r1⟩ := trodAll_cons r0
  obtain ⟨rfl, rfl, rfl⟩ := trodAll_nil r1
  subst hargs1
  obtain ⟨x0, rx0, bx0, ix0⟩ := reads_argRows (hval 0 22 v0 rfl (by have := congrArg (fun l => l[0]?) hargs0; simpa using this)) h0
  obtain ⟨x1, rx1, bx1, ix1⟩ := reads_argRows (hval 1 22 v1 rfl (by have := congrArg (fun l => l[1]?) hargs0; simpa using this)) h1
  have hb := of_decide_eq_true hk
  simp only [List.cons_append, Rows.uptoBulkAll] at hb
  have hc := (F_L17_RowsParts_ok 67108864 _ _ _ (law_parts (n := 67108864) (by omega) (l := x0) (m := x1) (by omega) ix0 ix1)).calls (fun _ _ => Tryd.call6 _ _) (w := W) (heapH_sat (root hsh)) (vs := args.toList) (by rw [hargs0]; simp only [RepL]; exact ⟨_, _, rfl, rx0, ⟨_, _, rfl, rx1, rfl⟩⟩)
  refine hc.mono fun e W' ⟨v, H', he, c, r⟩ => ⟨v, he, ?_⟩
  simp only [RepP] at r
  subst r
  obtain ⟨-, rfl⟩ : True ∧ gs = [] := ⟨trivial, by obtain ⟨h1, h2⟩ := trodVars_none hV; first | exact h1 | exact h2⟩
  exact post_law (tb := 4) laidOut (by kernel_rfl) hW' c.below rfl rfl (by kernel_rfl) Tryd.underlying4

theorem plain6 (f : FuncId) (fn : Func) (hf : Tryd.pinned.checked.prog.funcNamed "wattle/wattlelaw17.RowsParts" = some f) (hfn : Tryd.pinned.checked.prog.funcs[f]? = some fn) :
    false = Tryd.pinned.checked.prog.looks [] ∧ ∀ (j : Nat) t, fn.params[j]? = some t → Tryd.pinned.checked.prog.wantsStandIn t = false := by
  obtain rfl : f = 6 := Option.some.inj ((show Tryd.prog.funcNamed "wattle/wattlelaw17.RowsParts" = some 6 by kernel_rfl).symm.trans hf) |>.symm
  obtain rfl : fn = Tryd.f6 := (Option.some.inj (Tryd.func6.symm.trans hfn)).symm
  refine ⟨by kernel_rfl, fun j t ht => ?_⟩
  rw [Tryd.params6] at ht
  have := Array.mem_of_getElem? ht
  simp only [List.mem_toArray, List.mem_cons, List.not_mem_nil, or_false] at this
  rcases this with rfl | rfl <;> first | exact (show Tryd.prog.wantsStandIn 22 = false by kernel_rfl) | exact (show Tryd.prog.wantsStandIn 31 = false by kernel_rfl)

theorem laid_met6 (os : Os) : laidMet Tryd.prog Rows.rowsPartsUptoRow.laid ((laidWorld os).forCall (fun _ _ => 0) ⟨#[], #[V0, V0], []⟩).memory :=
  laidMet_of_run' 8 (by kernel_rfl) (by kernel_rfl)
theorem reads6 (os : Os) {H : Type} (enc : TypeId × Value → H) : ∃ places, DataW.whole enc Tryd.prog ((laidWorld os).forCall (fun _ _ => 0) ⟨#[], #[V0, V0], []⟩).memory Tryd.f6.params.toList Rows.rowsPartsSpec.vars false #[V0, V0].toList 8 = some ([D0 H, D0 H], [], places) :=
  ⟨[], by kernel_rfl⟩

set_option maxRecDepth 100000 in
theorem lifted6 (os : Os) (started : os.Started) (H : Type) (enc : TypeId × Value → H) (F : Stop.Interp) :
    ReturnsInHanded {} Tryd.checked os 6 .any ((Rows.OpenSpec.upto Rows.rowsPartsSpec).preRow enc Tryd.prog Tryd.f6 Rows.rowsPartsUptoRow.domain false Rows.rowsPartsUptoRow.laid) (((Rows.OpenSpec.upto Rows.rowsPartsSpec).at F).post enc Tryd.prog Tryd.f6 false true false false) := by
  obtain ⟨places, hx⟩ := reads6 os enc
  refine returnsInHanded_of_row (C := Tryd.checked) (s := Rows.OpenSpec.upto Rows.rowsPartsSpec) own started (by kernel_rfl) Tryd.func6
    (witness_row_at (enc := enc) (C := Tryd.checked) false (laidWorld os) #[V0, V0] rfl (by kernel_rfl) (by kernel_rfl) (by kernel_rfl)
      (OpenSpec.preRow_of_cond 8 hx (by kernel_rfl) (fun k hk => by cases hk; kernel_rfl) (by kernel_rfl) (laid_met6 os))) ?_
  intro W base args ds gs before hval hW _ hcond _ _ hsh _
  exact contract6 H enc W base args ds gs before hval hW (hcond _ rfl) hsh

theorem saidUpto6 : Rows.RowsPartsUptoSaid :=
  OpenClaim.holds_of_cond 6 Tryd.f6 rfl rfl rfl rfl rfl rfl rfl ⟨rfl, rfl, rfl, rfl, rfl⟩ rfl rfl rfl rfl rfl (by kernel_rfl) Tryd.func6 (by kernel_rfl)
    (of_decide_eq_true (by kernel_rfl)) (by unfold Func.isWrapper; first | (rw [if_pos (by decide +kernel)]; kernel_rfl) | (rw [if_neg (by decide +kernel)]; exact ⟨rfl, rfl⟩))
    (fun os started H enc _ F => by rw [OpenClaim.pre_eq_preRow]; exact lifted6 os started H enc F)
theorem cardUpto6 : Rows.RowsPartsUptoCardSaid :=
  Claim7.holds_tied_plain_at .later [] _ _ _ _ saidUpto6 (fun _ h => by cases h) (by kernel_rfl) (fun _ h => by cases h) rowsPartsUpto_row_tie rfl ⟨rfl, rfl⟩ (by kernel_rfl) rfl plain6 (by kernel_rfl)
end W
end
