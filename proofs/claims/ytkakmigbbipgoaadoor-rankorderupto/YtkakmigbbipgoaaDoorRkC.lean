/- A part of the proof. -/
import Derived.Test.YtkakmigbbipgoaaDoorAxBytes
import Derived.Test.YtkakmigbbipgoaaDoorRkB
open Go Go.Proofs Ax
namespace Rk
set_option maxRecDepth 10000

theorem unused_eq (k : Int) (b : Bool) (i : Int) (s : List UInt8) (nl nk : Nat) (h0 : 0 ≤ k) (h1 : k ≤ 7) : unusedB k b i s nl nk = bareB k b i s nl nk := by
  unfold unusedB bareB
  have e : (decide ((nl : Int) > 0)) = !((nl : Int) == 0) := by rw [Bool.eq_iff_iff]; simp; omega
  rw [e]
  have hk : k = 0 ∨ k = 1 ∨ k = 2 ∨ k = 3 ∨ k = 4 ∨ k = 5 ∨ k = 6 ∨ k = 7 := by omega
  have hi : (i != 0) = !(i == 0) := rfl
  rw [hi]
  generalize (i == 0) = x1, (s == []) = x2, ((nl : Int) == 0) = x3, ((nk : Int) == 0) = x4
  rcases hk with h | h | h | h | h | h | h | h <;> subst h <;> revert b x1 x2 x3 x4 <;> decide

theorem Check_ok (v : Val) (hv : v.big ≤ 1099511627776) : CallsF Tryd.prog 15 [v.pv] (.int .i64 (bif (lookM v 32 0).2 then 0 else 20)) := by
  obtain ⟨k, b, i, s, l, ks⟩ := v
  refine CallsF.of_vc mixed (fun _ _ => Tryd.call15 _ _) Tryd.func15 (by kernel_rfl) (inl := []) ?_
  conv => whnf
  refine ⟨_, look_ok _ (.mk k b i s l ks) 32 0 hv (by omega) (by omega) (by omega) (by omega) (by omega), ?_⟩
  generalize (lookM (.mk k b i s l ks) 32 0) = r
  conv => whnf
  refine ⟨fun ht => ?_, fun hf => ?_⟩
  · conv => whnf
    simp only [Bool.not_eq_true'] at ht
    rw [ht]; rfl
  · conv => whnf
    simp only [Bool.not_eq_false'] at hf
    rw [hf]; rfl

theorem may_bad (k : Int) (b : Bool) (i : Int) (s : List UInt8) (l : List Val) (ks : List (List UInt8)) (d p : Int) (hp0 : 0 ≤ p) (hp : p ≤ 4096)
    (h1 : (bif bif bif bif decide (IntKind.i64.wrap (p + 1) > 4096) then true else decide (d < 1) then true else decide (k < 0) then true else decide (k > 7) then true
    else !unusedB k b i s (Val.rows l).length (strs ks).length) = false) (h2 : (bif bif k == 6 then true else k == 7 then decide (i < 1) else false) = false) :
   (decide (d < 1) || decide (p + 1 > 4096) || !good1 (.mk k b i s l ks)) = (k == 5 && (ks.length != l.length || !keysB ks)) := by
  rw [rows_eq, vals_length, strs_length, wrap_ok (p + 1) (by omega) (by omega)] at h1
  simp only [Bool.cond_eq_ite] at h1 h2
  simp at h1 h2
  obtain ⟨⟨⟨⟨h11, h12⟩, h13⟩, h14⟩, h15⟩ := h1
  rw [unused_eq _ _ _ _ _ _ h13 h14] at h15
  have e6 : (decide (k ≥ 6) && decide (i < 1)) = false := by simp; omega
  have e1 : decide (d < 1) = false := by simp; omega
  have e2 : decide (p + 1 > 4096) = false := by simp; omega
  have e3 : decide (0 ≤ k) = true := by simp; omega
  have e4 : decide (k ≤ 7) = true := by simp; omega
  simp only [good1, e6, e1, e2, e3, e4, h15]
  simp

theorem may_bad1 (k : Int) (b : Bool) (i : Int) (s : List UInt8) (l : List Val) (ks : List (List UInt8)) (d p : Int) (hp0 : 0 ≤ p) (hp : p ≤ 4096)
    (h1 : (bif bif bif bif decide (IntKind.i64.wrap (p + 1) > 4096) then true else decide (d < 1) then true else decide (k < 0) then true else decide (k > 7) then true
    else !unusedB k b i s (Val.rows l).length (strs ks).length) = true) :
   (decide (d < 1) || decide (p + 1 > 4096) || !good1 (.mk k b i s l ks)) = true := by
  rw [rows_eq, vals_length, strs_length, wrap_ok (p + 1) (by omega) (by omega)] at h1
  by_cases hk : 0 ≤ k ∧ k ≤ 7
  · rw [unused_eq _ _ _ _ _ _ hk.1 hk.2] at h1
    simp only [good1]
    have e1 : decide (0 ≤ k) = !decide (k < 0) := by rw [Bool.eq_iff_iff]; simp
    have e2 : decide (k ≤ 7) = !decide (k > 7) := by rw [Bool.eq_iff_iff]; simp
    simp only [e1, e2]
    revert h1
    generalize decide (d < 1) = x1, decide (p + 1 > 4096) = x2, decide (k < 0) = x3, decide (k > 7) = x4, bareB k b i s l.length ks.length = x5, decide (k ≥ 6) = x6, decide (i < 1) = x7, (k == 5) = x8, (ks.length != l.length) = x9, keysB ks = x10
    revert x1 x2 x3 x4 x5 x6 x7 x8 x9 x10
    decide
  · simp only [good1]
    simp
    omega

theorem may_bad2 (k : Int) (b : Bool) (i : Int) (s : List UInt8) (l : List Val) (ks : List (List UInt8)) (d p : Int)
    (h2 : (bif bif k == 6 then true else k == 7 then decide (i < 1) else false) = true) :
   (decide (d < 1) || decide (p + 1 > 4096) || !good1 (.mk k b i s l ks)) = true := by
  simp only [Bool.cond_eq_ite] at h2
  simp only [good1]
  simp at h2 ⊢
  omega

theorem lookM_go {k : Int} {b : Bool} {i : Int} {s : List UInt8} {l : List Val} {ks : List (List UInt8)} {d p : Int} (h : (decide (d < 1) || decide (p + 1 > 4096) || !good1 (.mk k b i s l ks)) = false) :
    lookM (.mk k b i s l ks) d p = lookL l (d - 1) (p + 1) := by
  unfold lookM; rw [h]; rfl

theorem keyBad2 (ks : List (List UInt8)) (x : Nat) : (bif bif decide (((ks.getD ((x : Int).toNat) []).length : Int) < 1) then true else decide (((ks.getD ((x : Int).toNat) []).length : Int) > 64) then true
    else bif decide ((x : Int) > 0) then Op.bytesLess (ks.getD ((x : Int).toNat) []) (ks.getD (x - 1) []) || ks.getD ((x : Int).toNat) [] == ks.getD (x - 1) [] else false) = keyBad ks x := by
  rw [Int.toNat_natCast, bl_total]
  unfold keyBad
  have e : decide (((ks.getD x []).length : Int) < 1) = (ks.getD x [] == []) := by
    rw [Bool.eq_iff_iff]; simp only [decide_eq_true_eq, beq_iff_eq, ← List.length_eq_zero_iff]; omega
  rw [e]

theorem may_ok (n : Nat) : ∀ (v : Val) (d p : Int), v.big ≤ n → n ≤ 1099511627776 → 0 ≤ d → d ≤ 100 → 0 ≤ p → p ≤ 4096 →
   CallsF Tryd.prog 33 [v.pv, .int .i64 d, .int .i64 p] (lookR (lookM v d p)) := by
  induction n with
  | zero => exact fun v _ _ h _ _ _ _ _ => absurd v.big_pos (by omega)
  | succ n ih =>
  rintro ⟨k, b, i, s, l, ks⟩ d p hn hn2 hd0 hd1 hp0 hp1
  have hbig : 1 + s.length + bigs l + kbig ks ≤ n + 1 := hn
  have hk := kbig_len ks
  have hl := bigs_len l
  have hw := wrap_ok (p + 1) (by omega) (by omega)
  refine CallsF.of_vc mixed (fun _ _ => Tryd.call33 _ _) Tryd.func33 (by kernel_rfl) (inl := []) ?_
  conv => whnf
  repeat (refine And.intro (fun h => h) ?_)
  refine ⟨_, fun hg => unused_ok _ _ _ _ _ _, ?_⟩
  repeat (refine And.intro (fun h => h) ?_)
  conv => whnf
  refine ⟨fun ht => ?_, fun hf => ?_⟩
  · conv => whnf
    unfold lookM
    rw [may_bad1 _ _ _ _ _ _ _ _ hp0 hp1 ht, hw]; rfl
  repeat (refine And.intro (fun h => h) ?_)
  conv => whnf
  refine ⟨fun ht2 => ?_, fun hf2 => ?_⟩
  · conv => whnf
    unfold lookM
    rw [may_bad2 _ _ _ _ _ _ _ _ ht2, hw]; rfl
  have hbad := may_bad _ _ _ _ _ _ _ _ hp0 hp1 hf hf2
  have hp2 : p + 1 ≤ 4096 ∧ 1 ≤ d := by
    rw [hw] at hf
    simp only [Bool.cond_eq_ite] at hf
    simp at hf
    omega
  clear hf hf2
  repeat (refine And.intro (fun h => h) ?_)
  conv => whnf
  refine ⟨fun ht3 => ?a1, fun hf3 => ?b⟩
  case' a1 =>
    rw [ht3, Bool.true_and] at hbad
    repeat (refine And.intro (fun h => h) ?_)
    conv => whnf
    refine ⟨fun ht4 => ?a2, fun hf4 => ?a3⟩
  case a2 =>
    rw [strs_length, rows_eq, vals_length] at ht4
    have e : ((ks.length : Int) != (l.length : Int)) = (ks.length != l.length) := by rw [Bool.eq_iff_iff]; simp; omega
    rw [← e, ht4] at hbad
    conv => whnf
    unfold lookM
    rw [hbad, hw]; rfl
  case' a3 =>
    have e : ks.length = l.length := by rw [strs_length, rows_eq, vals_length] at hf4; simp at hf4; omega
    clear hf4
    rw [e] at hbad
    simp only [bne_self_eq_false, Bool.false_or] at hbad
    conv => whnf
    refine LoopA.of [] (fun x : Nat => [(1, .p (.int .i64 d)), (2, .p (.int .i64 (p + 1))), (3, .ptr 0 0), (8, .p (.int .i64 x))]) (fun _ => [.box 25 [.p (.int .i64 k), .p (.bool b), .p (.int .i64 i), .p (.str s), .p (.sl (Val.rows l)), .p (.sl (strs ks))]])
      (fun x => x ≤ ks.length ∧ ∀ j, j < x → keyBad ks j = false) (fun x => ks.length - x) 0 ⟨Nat.zero_le _, fun j h => by omega⟩
      ⟨[0], [], ⟨rfl, rfl, rfl, rfl⟩, ⟨.inl rfl, .inl (by rw [hw]), ⟨rfl, rfl, List.not_mem_nil⟩, .inl rfl, trivial⟩, ⟨rfl, .inl rfl, .inl rfl, .inl rfl, .inl rfl, .inl rfl, .inl rfl, trivial⟩, trivial⟩ ?_
    rintro x ⟨hx, hj⟩
    conv => whnf
    rw [strs_length]
    refine ⟨fun ht => ?a4, fun hf => ?a5⟩
  case a4 =>
    simp only [decide_eq_true_eq] at ht
    have hlt : x < ks.length := by omega
    conv => whnf
    refine ⟨_, ⟨by omega, strs_getD hlt, rfl⟩, ?_⟩
    repeat (refine And.intro (fun h => h) ?_)
    conv => whnf
    refine ⟨_, fun hg => ⟨by omega, strs_getD hlt, rfl⟩, ?_⟩
    repeat (refine And.intro (fun h => h) ?_)
    refine ⟨_, fun hg => ⟨by omega, strs_getD hlt, rfl⟩, ?_⟩
    repeat (refine And.intro (fun h => h) ?_)
    conv => whnf
    refine ⟨[.str (ks.getD (x - 1) [])], fun hg => ?_, ?_⟩
    · simp only [Bool.and_eq_true, decide_eq_true_eq] at hg
      have h0 : 0 < x := by omega
      rw [wrap_predN x (by omega), toNat_pred x h0]
      exact ⟨by omega, strs_getD (by omega), rfl⟩
    repeat (refine And.intro (fun h => h) ?_)
    conv => whnf
    refine ⟨fun ht => ?_, fun hf => ?_⟩
    · conv => whnf
      rw [keyBad2] at ht
      rw [show keysB ks = false from all_range_false hlt ht] at hbad
      unfold lookM
      rw [hbad]; rfl
    · conv => whnf
      rw [keyBad2] at hf
      refine ⟨x + 1, ⟨by omega, lt_succ_none hj hf⟩, by omega, [0], [], ⟨rfl, rfl, rfl, rfl⟩, ⟨.inl rfl, .inl rfl, ⟨rfl, rfl, List.not_mem_nil⟩, .inl ?_, trivial⟩, ⟨rfl, .inl rfl, .inl rfl, .inl rfl, .inl rfl, .inl rfl, .inl rfl, trivial⟩, trivial⟩
      rw [wrap_nat x (by omega)]
  case' a5 =>
    have hx : x = ks.length := by simp at hf; omega
    rw [show keysB ks = true from all_range_true (hx ▸ hj), Bool.not_true] at hbad
    clear hf hj
    conv => whnf
  case' b =>
    rw [hf3, Bool.false_and] at hbad
    conv => whnf
  all_goals
    refine LoopA.of [] (fun x : Nat × Int => [(1, .p (.int .i64 d)), (2, .p (.int .i64 x.2)), (3, .ptr 0 0), (9, .p (.int .i64 x.1))]) (fun _ => [.box 25 [.p (.int .i64 k), .p (.bool b), .p (.int .i64 i), .p (.str s), .p (.sl (Val.rows l)), .p (.sl (strs ks))]])
      (fun x => x.1 ≤ l.length ∧ 0 ≤ x.2 ∧ x.2 ≤ 4096 ∧ lookL l (d - 1) (p + 1) = lookL (l.drop x.1) (d - 1) x.2) (fun x => l.length - x.1) (0, p + 1)
      ⟨Nat.zero_le _, by simp only; omega, by simp only; omega, rfl⟩
      ⟨[0], [], ⟨rfl, rfl, rfl, rfl⟩, ⟨.inl rfl, .inl ?_, ⟨rfl, rfl, List.not_mem_nil⟩, .inl rfl, trivial⟩, ⟨rfl, .inl rfl, .inl rfl, .inl rfl, .inl rfl, .inl rfl, .inl rfl, trivial⟩, trivial⟩ ?_
    · first | rfl | rw [hw]
    · rintro ⟨x, q⟩ ⟨hx, hq, hq1, he⟩
      dsimp only at hx hq hq1 he ⊢
      conv => whnf
      rw [rows_eq, vals_length]
      refine ⟨fun ht => ?_, fun hf => ?_⟩
      · have hlt : x < l.length := by simpa using ht
        conv => whnf
        obtain ⟨⟨k', b', i', s', l', ks'⟩, hv⟩ : ∃ v, l.getD x default = v := ⟨_, rfl⟩
        have hb := bigs_get hlt
        rw [drop_getD default hlt, lookL] at he
        rw [hv] at hb he
        refine ⟨_, ⟨by omega, vals_at hlt hv, rfl⟩, ?_⟩
        have hwd := wrap_ok (d - 1) (by omega) (by omega)
        conv => whnf
        refine ⟨lookR (lookM (.mk k' b' i' s' l' ks') (d - 1) q), by rw [hwd]; exact ih (.mk k' b' i' s' l' ks') (d - 1) q (by omega) (by omega) (by omega) (by omega) hq hq1, ?_⟩
        generalize Val.mk k' b' i' s' l' ks' = v at *
        have hr := lookM_le v (d - 1) q hq hq1
        conv => whnf
        refine ⟨fun ht => ?_, fun hf => ?_⟩
        · conv => whnf
          simp only [Bool.not_eq_true'] at ht
          rw [lookM_go hbad, he, ht, cond_false]
        · conv => whnf
          simp only [Bool.not_eq_false'] at hf
          rw [hf] at he
          refine ⟨(x + 1, (lookM v (d - 1) q).1), ⟨by dsimp only; omega, by dsimp only; omega, hr.2.2 hf, he⟩, by dsimp only; omega,
            [0], [], ⟨rfl, rfl, rfl, rfl⟩, ⟨.inl rfl, .inl rfl, ⟨rfl, rfl, List.not_mem_nil⟩, .inl ?_, trivial⟩, ⟨rfl, .inl rfl, .inl rfl, .inl rfl, .inl rfl, .inl rfl, .inl rfl, trivial⟩, trivial⟩
          rw [wrap_nat x (by omega)]
      · conv => whnf
        have : x = l.length := by simp at hf; omega
        rw [lookM_go hbad, he, this, List.drop_length, lookL]

theorem May_ok (v : Val) (hv : v.big ≤ 1099511627776) : CallsF Tryd.prog 17 [v.pv] (.bool (lookM v 32 0).2) := by
  obtain ⟨k, b, i, s, l, ks⟩ := v
  refine CallsF.of_vc mixed (fun _ _ => Tryd.call17 _ _) Tryd.func17 (by kernel_rfl) (inl := []) ?_
  conv => whnf
  refine ⟨_, may_ok _ (.mk k b i s l ks) 32 0 hv (by omega) (by omega) (by omega) (by omega) (by omega), ?_⟩
  generalize (lookM (.mk k b i s l ks) 32 0) = r
  conv => whnf
end Rk
