/- A part of the proof. -/
import Derived.Test.YtkakmigbbipgoaaDoorRkG
open Go Go.Proofs Ax Go.RowKit
namespace Rk
set_option maxRecDepth 10000

mutual
/-- A map has as many keys as values. -/
def keyed : Val → Bool
  | .mk k _ _ _ l ks => (k != 5 || ks.length == l.length) && keyedL l
def keyedL : List Val → Bool
  | [] => true
  | v :: l => keyed v && keyedL l
end

theorem keyedL_get {l : List Val} {v : Val} (h : keyedL l = true) (hm : v ∈ l) : keyed v = true := by
  induction l with
  | nil => cases hm
  | cons w l ih =>
    simp only [keyedL, Bool.and_eq_true] at h
    rcases List.mem_cons.1 hm with rfl | hm
    · exact h.1
    · exact ih h.2 hm

theorem wrap64 (i : Int) : IntKind.u64.wrap i = ((bits64 i : Nat) : Int) := by
  have h := Int.emod_nonneg i (show (18446744073709551616 : Int) ≠ 0 by decide)
  simp only [bits64, IntKind.wrap, IntKind.bits, IntKind.signed]
  simp
  omega
theorem bits64_lt (i : Int) : bits64 i < 18446744073709551616 := by
  have h := Int.emod_lt_of_pos i (show (0 : Int) < 18446744073709551616 by decide)
  unfold bits64; omega
theorem xor64 (i : Int) : IntKind.u64.wrap ((BitVec.ofInt IntKind.u64.bits (IntKind.u64.wrap i) ^^^ BitVec.ofInt IntKind.u64.bits 9223372036854775808).toNat : Int) = ((bits64 i ^^^ 9223372036854775808 : Nat) : Int) := by
  have h1 : (BitVec.ofInt IntKind.u64.bits (IntKind.u64.wrap i)).toNat = bits64 i := by
    rw [wrap64, BitVec.toNat_ofInt]
    have := bits64_lt i
    simp only [IntKind.bits]
    omega
  have h2 : (BitVec.ofInt IntKind.u64.bits 9223372036854775808).toNat = 9223372036854775808 := rfl
  rw [BitVec.toNat_xor, h1, h2]
  have : bits64 i ^^^ 9223372036854775808 < 2 ^ 64 := Nat.xor_lt_two_pow (bits64_lt i) (by decide)
  rw [wrapU _ (Int.natCast_nonneg _) (Int.ofNat_lt.2 this)]

theorem bigs_mem {l : List Val} {v : Val} (h : v ∈ l) : v.big ≤ bigs l := by
  induction l with
  | nil => cases h
  | cons w l ih =>
    simp only [bigs]
    rcases List.mem_cons.1 h with rfl | h
    · omega
    · have := ih h; omega

theorem lay_ok (n : Nat) : ∀ (v : Val), v.big ≤ n → n ≤ 4294967280 → keyed v = true → CallsF Tryd.prog 16 [v.pv] (.str (layM v)) := by
  induction n with
  | zero => exact fun v h _ _ => absurd v.big_pos (by omega)
  | succ n ih =>
  rintro ⟨k, b, i, s, l, ks⟩ hn hn2 hk
  have hbig : 1 + s.length + bigs l + kbig ks ≤ n + 1 := hn
  refine CallsF.of_vc mixed (fun _ _ => Tryd.call16 _ _) Tryd.func16 (by kernel_rfl) (inl := []) ?_
  conv => whnf
  refine ⟨fun h1 => ?_, fun h1 => ?_⟩
  · have hk1 : k = 1 := by simpa using h1
    subst hk1
    conv => whnf
    refine ⟨fun hb => ?_, fun hb => ?_⟩
    · subst hb
      conv => whnf
      refine ⟨?_, ?_⟩
      · intro r hr; simp only [List.mem_cons, List.not_mem_nil, or_false] at hr; rcases hr with rfl | rfl <;> exact ⟨rfl, rfl⟩
      conv => whnf
      refine ⟨[6, 1], rfl, ?_⟩
      conv => whnf
      rfl
    · subst hb
      conv => whnf
      refine ⟨?_, ?_⟩
      · intro r hr; simp only [List.mem_cons, List.not_mem_nil, or_false] at hr; rcases hr with rfl | rfl <;> exact ⟨rfl, rfl⟩
      conv => whnf
      refine ⟨[6, 0], rfl, ?_⟩
      conv => whnf
      rfl
  conv => whnf
  refine ⟨fun h2 => ?_, fun h2 => ?_⟩
  · have hk2 : k = 2 := by simpa using h2
    subst hk2
    conv => whnf
    refine ⟨one_row _ _ rfl, ?_⟩
    conv => whnf
    refine ⟨[7], rfl, ?_⟩
    conv => whnf
    rw [xor64]
    refine ⟨_, eight_ok _, ?_⟩
    conv => whnf
    refine ⟨by unfold gI; show ((1 + (eightL _).length : Nat) : Int) ≤ maxI; exact (by decide : ((1 + 8 : Nat) : Int) ≤ maxI), ?_⟩
    conv => whnf
    rfl
  conv => whnf
  refine ⟨fun h3 => ?_, fun h3 => ?_⟩
  · have hk3 : k = 3 := by simpa using h3
    subst hk3
    conv => whnf
    refine ⟨one_row _ _ rfl, ?_⟩
    conv => whnf
    refine ⟨[5], rfl, ?_⟩
    conv => whnf
    refine ⟨_, ended_ok s (by omega) (by omega), ?_⟩
    have := endedM_length s
    conv => whnf
    refine ⟨?_, ?_⟩
    · show ((1 + (endedM s).length : Nat) : Int) ≤ maxI
      unfold maxI; omega
    conv => whnf
    rfl
  conv => whnf
  refine ⟨fun h6 => ?_, fun h6 => ?_⟩
  · have hk6 : k = 6 := by simpa using h6
    subst hk6
    conv => whnf
    refine ⟨one_row _ _ rfl, ?_⟩
    conv => whnf
    refine ⟨[2], rfl, ?_⟩
    conv => whnf
    rw [wrap64]
    refine ⟨_, eight_ok (bits64 i), ?_⟩
    conv => whnf
    refine ⟨by unfold gI; exact (by decide : ((1 + 8 : Nat) : Int) ≤ maxI), ?_⟩
    conv => whnf
    rfl
  conv => whnf
  refine ⟨fun h7 => ?_, fun h7 => ?_⟩
  · have hk7 : k = 7 := by simpa using h7
    subst hk7
    conv => whnf
    refine ⟨one_row _ _ rfl, ?_⟩
    conv => whnf
    refine ⟨[3], rfl, ?_⟩
    conv => whnf
    rw [wrap64]
    refine ⟨_, eight_ok (bits64 i), ?_⟩
    conv => whnf
    refine ⟨by unfold gI; exact (by decide : ((1 + 8 : Nat) : Int) ≤ maxI), ?_⟩
    conv => whnf
    rfl
  conv => whnf
  simp only [keyed, Bool.and_eq_true, Bool.or_eq_true] at hk
  refine ⟨fun h4 => ?_, fun h4 => ?_⟩
  · have hk4 : k = 4 := by simpa using h4
    subst hk4
    conv => whnf
    refine ⟨fun _ => ?_, fun hf => absurd hf (by decide)⟩
    conv => whnf
    refine ⟨_, rows4_ok b i s l ks (by omega) (fun v hv => ih v (by have := bigs_mem hv; omega) (by omega) (keyedL_get hk.2 hv)), ?_⟩
    conv => whnf
    rfl
  conv => whnf
  refine ⟨fun h5 => ?_, fun h5 => ?_⟩
  · have hk5 : k = 5 := by simpa using h5
    subst hk5
    conv => whnf
    have hkl : ks.length = l.length := by
      rcases hk.1 with h | h
      · exact absurd h (by decide)
      · simpa using h
    refine ⟨_, rows5_ok b i s l ks hkl (by omega) (by omega) (fun v hv => ih v (by have := bigs_mem hv; omega) (by omega) (keyedL_get hk.2 hv)), ?_⟩
    conv => whnf
    rfl
  · conv => whnf
    refine ⟨one_row _ _ rfl, ?_⟩
    conv => whnf
    refine ⟨[8], rfl, ?_⟩
    conv => whnf
    unfold layM
    rw [h1, h2, h3, h4, h5, h6, h7]
    rfl
end Rk
