/- A part of the proof. -/
import Derived.Test.YtkakmigbbipgoaaDoorRkH
open Go Go.Proofs Ax Go.RowKit
namespace Rk
set_option maxRecDepth 10000

theorem xor_add (n : Nat) (h : n < 18446744073709551616) : n ^^^ 9223372036854775808 = (n + 9223372036854775808) % 18446744073709551616 := by
  apply Nat.eq_of_testBit_eq
  intro j
  have e1 : (9223372036854775808 : Nat) = 2 ^ 63 := rfl
  have e2 : (18446744073709551616 : Nat) = 2 ^ 64 := rfl
  rw [Nat.testBit_xor, e1, Nat.testBit_two_pow]
  have tb1 : ∀ k, Nat.testBit 1 k = decide (0 = k) := fun k => Nat.testBit_two_pow (n := 0) (m := k)
  rcases Nat.lt_or_ge n (2 ^ 63) with hn | hn
  · rw [Nat.mod_eq_of_lt (by omega)]
    have := Nat.testBit_two_pow_mul_add 1 hn j
    rw [Nat.mul_one, Nat.add_comm] at this
    rw [this]
    by_cases hj : j < 63
    · have h3 : ¬ 63 = j := by omega
      rw [if_pos hj]; simp [h3]
    · rw [if_neg hj, Nat.testBit_lt_two_pow (Nat.lt_of_lt_of_le hn (Nat.pow_le_pow_right (by decide) (by omega))), tb1, Bool.false_xor, decide_eq_decide]
      omega
  · obtain ⟨m, rfl⟩ : ∃ m, n = 2 ^ 63 + m := ⟨n - 2 ^ 63, by omega⟩
    have hm : m < 2 ^ 63 := by omega
    have e : (2 ^ 63 + m + 2 ^ 63) % 18446744073709551616 = m := by omega
    rw [e]
    have := Nat.testBit_two_pow_mul_add 1 hm j
    rw [Nat.mul_one] at this
    rw [this]
    by_cases hj : j < 63
    · have h3 : ¬ 63 = j := by omega
      rw [if_pos hj]; simp [h3]
    · rw [if_neg hj, Nat.testBit_lt_two_pow (x := m) (Nat.lt_of_lt_of_le hm (Nat.pow_le_pow_right (by decide) (by omega))), tb1]
      have : decide (0 = j - 63) = decide (63 = j) := by rw [decide_eq_decide]; omega
      rw [this, Bool.xor_self]

theorem bits_off (i : Int) : (bits64 i ^^^ 9223372036854775808 : Nat) = ((i + 9223372036854775808) % 18446744073709551616).toNat := by
  rw [xor_add _ (bits64_lt i)]
  unfold bits64
  omega
theorem wrapI_mod (i : Int) : IntKind.i64.wrap i % 18446744073709551616 = i % 18446744073709551616 := by
  simp only [IntKind.wrap, IntKind.bits, IntKind.signed]
  simp
  split <;> omega
theorem low64 (i : Int) : IntKind.u64.wrap (IntKind.i64.wrap (IntKind.i64.wrap (i + 4611686018427387904) + 4611686018427387904)) = ((bits64 i ^^^ 9223372036854775808 : Nat) : Int) := by
  rw [wrap64, bits_off]
  unfold bits64
  have h1 := wrapI_mod (IntKind.i64.wrap (i + 4611686018427387904) + 4611686018427387904)
  have h2 := wrapI_mod (i + 4611686018427387904)
  rw [h1]
  omega
theorem high64 (i : Int) : IntKind.u64.wrap (IntKind.u64.wrap i + 9223372036854775808) = ((bits64 i ^^^ 9223372036854775808 : Nat) : Int) := by
  rw [wrap64, wrap64, bits_off]
  unfold bits64
  omega

theorem Text_ok (n : Nat) : ∀ (v : Val), v.big ≤ n → n ≤ 4294967280 → keyed v = true → CallsF Tryd.prog 18 [v.pv] (.str (layM v)) := by
  induction n with
  | zero => exact fun v h _ _ => absurd v.big_pos (by omega)
  | succ n ih =>
  rintro ⟨k, b, i, s, l, ks⟩ hn hn2 hk
  have hbig : 1 + s.length + bigs l + kbig ks ≤ n + 1 := hn
  have hll := bigs_len l
  simp only [keyed, Bool.and_eq_true, Bool.or_eq_true] at hk
  refine CallsF.of_vc mixed (fun _ _ => Tryd.call18 _ _) Tryd.func18 (by kernel_rfl) (inl := []) ?_
  conv => whnf
  refine ⟨fun h5 => ?_, fun h5 => ?_⟩
  · have hk5 : k = 5 := by simpa using h5
    subst hk5
    have hkl : ks.length = l.length := by
      rcases hk.1 with h | h
      · exact absurd h (by decide)
      · simpa using h
    conv => whnf
    refine LoopA.of [] (fun x : Nat => [(1, .ptr 0 0), (3, .p (.str (1 :: layK (l.take x) (ks.take x)))), (4, .p (.int .i64 x))])
      (fun x => [.box 25 [.p (.int .i64 5), .p (.bool b), .p (.int .i64 i), .p (.str s), .p (.sl (Val.rows l)), .p (.sl (strs ks))]])
      (fun x => x ≤ l.length) (fun x => l.length - x) 0 (Nat.zero_le _)
      ⟨[0], [], ⟨rfl, rfl, rfl, rfl⟩, ⟨⟨rfl, rfl, List.not_mem_nil⟩, .inl (by simp only [List.take_zero, layK]), .inl rfl, trivial⟩,
        ⟨rfl, .inl rfl, .inl rfl, .inl rfl, .inl rfl, .inl rfl, .inl rfl, trivial⟩, trivial⟩ ?_
    intro x hx
    conv => whnf
    rw [rows_eq, vals_length]
    refine ⟨fun ht => ?_, fun hf => ?_⟩
    · have hlt : x < l.length := by simp only [decide_eq_true_eq] at ht; omega
      obtain ⟨⟨k', b', i', s', l', ks'⟩, hv⟩ : ∃ v, l.getD x default = v := ⟨_, rfl⟩
      have hm := getD_mem hlt
      rw [hv] at hm
      have hb := bigs_mem hm
      have htl := layK_take_le l ks x
      have hsplit := layK_take l ks hkl x hlt
      rw [hv] at hsplit
      have hkb := kbig_get (l := ks) (i := x) (by omega)
      have hke := endedM_length (ks.getD x [])
      have hlen := layM_length (.mk k' b' i' s' l' ks')
      conv => whnf
      refine ⟨?_, ?_⟩
      · unfold gI; simp only [List.length_append, List.length_cons, List.length_nil]; unfold maxI; omega
      conv => whnf
      refine ⟨_, ⟨by omega, strs_getD (by rw [Int.toNat_natCast]; omega), rfl⟩, ?_⟩
      rw [Int.toNat_natCast]
      generalize hkey : ks.getD x [] = key at *
      conv => whnf
      refine ⟨_, Ended_ok key (by omega), ?_⟩
      generalize endedM key = ek at *
      conv => whnf
      refine ⟨?_, ?_⟩
      · unfold gI; simp only [List.length_append, List.length_cons, List.length_nil]; unfold maxI; omega
      conv => whnf
      refine ⟨_, ⟨by omega, vals_at hlt hv, rfl⟩, ?_⟩
      conv => whnf
      refine ⟨_, ih (.mk k' b' i' s' l' ks') (by omega) (by omega) (keyedL_get hk.2 hm), ?_⟩
      generalize layM (.mk k' b' i' s' l' ks') = out at *
      conv => whnf
      refine ⟨?_, ?_⟩
      · unfold gI; simp only [List.length_append, List.length_cons, List.length_nil]; unfold maxI; omega
      conv => whnf
      refine ⟨x + 1, hlt, by omega, [0], [], ⟨rfl, rfl, rfl, rfl⟩, ⟨⟨rfl, rfl, List.not_mem_nil⟩, .inl ?_, .inl ?_, trivial⟩,
        ⟨rfl, .inl rfl, .inl rfl, .inl rfl, .inl rfl, .inl rfl, .inl rfl, trivial⟩, trivial⟩
      · rw [hsplit]; simp
      · rw [wrap_nat x (by omega)]
    · have : x = l.length := by simp at hf; omega
      subst this
      have hlen := layK_length l ks
      rw [List.take_length, ← hkl, List.take_length, hkl]
      conv => whnf
      refine ⟨?_, ?_⟩
      · unfold gI; simp only [List.length_append, List.length_cons, List.length_nil]; unfold maxI; omega
      conv => whnf
      rfl
  conv => whnf
  refine ⟨fun h6 => ?_, fun h6 => ?_⟩
  · have hk6 : k = 6 := by simpa using h6
    subst hk6
    conv => whnf
    rw [wrap64]
    refine ⟨_, eightR_ok (bits64 i) (bits64_lt i), ?_⟩
    conv => whnf
    refine ⟨by unfold gI; exact (by decide : ((1 + 8 : Nat) : Int) ≤ maxI), ?_⟩
    conv => whnf
    rfl
  conv => whnf
  refine ⟨fun h7 => ?_, fun h7 => ?_⟩
  · have hk7 : k = 7 := by simpa using h7
    subst hk7
    conv => whnf
    rw [wrap64]
    refine ⟨_, eightR_ok (bits64 i) (bits64_lt i), ?_⟩
    conv => whnf
    refine ⟨by unfold gI; exact (by decide : ((1 + 8 : Nat) : Int) ≤ maxI), ?_⟩
    conv => whnf
    rfl
  conv => whnf
  refine ⟨fun h4 => ?_, fun h4 => ?_⟩
  · have hk4 : k = 4 := by simpa using h4
    subst hk4
    conv => whnf
    refine LoopA.of [] (fun x : Nat => [(1, .ptr 0 0), (5, .p (.str (4 :: layL (l.take x)))), (6, .p (.int .i64 x))])
      (fun x => [.box 25 [.p (.int .i64 4), .p (.bool b), .p (.int .i64 i), .p (.str s), .p (.sl (Val.rows l)), .p (.sl (strs ks))]])
      (fun x => x ≤ l.length) (fun x => l.length - x) 0 (Nat.zero_le _)
      ⟨[0], [], ⟨rfl, rfl, rfl, rfl⟩, ⟨⟨rfl, rfl, List.not_mem_nil⟩, .inl rfl, .inl rfl, trivial⟩,
        ⟨rfl, .inl rfl, .inl rfl, .inl rfl, .inl rfl, .inl rfl, .inl rfl, trivial⟩, trivial⟩ ?_
    intro x hx
    conv => whnf
    rw [rows_eq, vals_length]
    refine ⟨fun ht => ?_, fun hf => ?_⟩
    · have hlt : x < l.length := by simp only [decide_eq_true_eq] at ht; omega
      obtain ⟨⟨k', b', i', s', l', ks'⟩, hv⟩ : ∃ v, l.getD x default = v := ⟨_, rfl⟩
      have hm := getD_mem hlt
      rw [hv] at hm
      have hb := bigs_mem hm
      have htl := layL_take_le l x
      have hsplit := layL_take l x hlt
      rw [hv] at hsplit
      have hlen := layM_length (.mk k' b' i' s' l' ks')
      conv => whnf
      refine ⟨_, ⟨by omega, vals_at hlt hv, rfl⟩, ?_⟩
      conv => whnf
      refine ⟨_, ih (.mk k' b' i' s' l' ks') (by omega) (by omega) (keyedL_get hk.2 hm), ?_⟩
      generalize layM (.mk k' b' i' s' l' ks') = out at *
      conv => whnf
      refine ⟨?_, ?_⟩
      · unfold gI; simp only [List.length_append, List.length_cons, List.length_nil]; unfold maxI; omega
      conv => whnf
      refine ⟨x + 1, hlt, by omega, [0], [], ⟨rfl, rfl, rfl, rfl⟩, ⟨⟨rfl, rfl, List.not_mem_nil⟩, .inl ?_, .inl ?_, trivial⟩,
        ⟨rfl, .inl rfl, .inl rfl, .inl rfl, .inl rfl, .inl rfl, .inl rfl, trivial⟩, trivial⟩
      · rw [hsplit]; simp
      · rw [wrap_nat x (by omega)]
    · have : x = l.length := by simp at hf; omega
      subst this
      have hlen := layL_length l
      rw [List.take_length]
      conv => whnf
      refine ⟨?_, ?_⟩
      · unfold gI; simp only [List.length_append, List.length_cons, List.length_nil]; unfold maxI; omega
      conv => whnf
      rfl
  conv => whnf
  refine ⟨fun h3 => ?_, fun h3 => ?_⟩
  · have hk3 : k = 3 := by simpa using h3
    subst hk3
    conv => whnf
    refine ⟨_, Ended_ok s (by omega), ?_⟩
    have := endedM_length s
    conv => whnf
    refine ⟨?_, ?_⟩
    · show ((1 + (endedM s).length : Nat) : Int) ≤ maxI
      unfold maxI; omega
    conv => whnf
    rfl
  conv => whnf
  refine ⟨fun h1 => ?_, fun h1 => ?_⟩
  · have hk1 : k = 1 := by simpa using h1
    subst hk1
    conv => whnf
    refine ⟨fun hb => ?_, fun hb => ?_⟩
    · subst hb
      conv => whnf
      rfl
    · subst hb
      conv => whnf
      rfl
  conv => whnf
  refine ⟨fun h2 => ?_, fun h2 => ?_⟩
  · have hk2 : k = 2 := by simpa using h2
    subst hk2
    conv => whnf
    refine ⟨fun hneg => ?_, fun hneg => ?_⟩
    · conv => whnf
      rw [low64]
      refine ⟨_, eightR_ok _ (Nat.xor_lt_two_pow (n := 64) (bits64_lt i) (by decide)), ?_⟩
      conv => whnf
      refine ⟨by unfold gI; exact (by decide : ((1 + 8 : Nat) : Int) ≤ maxI), ?_⟩
      conv => whnf
      rfl
    · conv => whnf
      rw [high64]
      refine ⟨_, eightR_ok _ (Nat.xor_lt_two_pow (n := 64) (bits64_lt i) (by decide)), ?_⟩
      conv => whnf
      refine ⟨by unfold gI; exact (by decide : ((1 + 8 : Nat) : Int) ≤ maxI), ?_⟩
      conv => whnf
      rfl
  conv => whnf
  unfold layM
  rw [h1, h2, h3, h4, h5, h6, h7]
  rfl
end Rk
