/- A part of the proof. -/
import Derived.Test.YtkakmigbbipgoaaDoorAxLoop
import Derived.Test.YtkakmigbbipgoaaDoorRkA
open Go Go.Proofs Ax
namespace Rk
set_option maxRecDepth 10000

def eightL (m : Nat) : List UInt8 := [56, 48, 40, 32, 24, 16, 8, 0].map fun s => UInt8.ofNat (m / 2 ^ s)

theorem by8 (m a n : Nat) (h : a = n) : PV.int .u8 (IntKind.u8.wrap ((m : Int).fdiv (2 ^ a))) = .int .u8 ((UInt8.ofNat (m / 2 ^ n)).toNat : Nat) := by
  subst h
  have e1 : ((m : Int).fdiv (2 ^ a)) = ((m / 2 ^ a : Nat) : Int) := by
    have : (2 : Int) ^ a = ((2 ^ a : Nat) : Int) := by simp
    rw [this, Int.fdiv_eq_ediv_of_nonneg _ (Int.natCast_nonneg _)]
    exact (Int.natCast_ediv m (2 ^ a)).symm
  rw [e1]
  have e2 : ∀ q : Nat, IntKind.u8.wrap (q : Int) = ((UInt8.ofNat q).toNat : Int) := by
    intro q
    simp only [UInt8.toNat_ofNat']
    simp [IntKind.wrap, IntKind.bits, IntKind.signed]
  rw [e2]

theorem eight_ok (m : Nat) : CallsF Tryd.prog 30 [.int .u64 m] (.str (eightL m)) := by
  refine CallsF.of_vc mixed (fun _ _ => Tryd.call30 _ _) Tryd.func30 (by kernel_rfl) (inl := []) ?_
  conv => whnf
  refine LoopA.rounds [] 9 ?_
  conv => whnf
  iterate 8
    refine ⟨fun _ => ?_, fun hf => absurd hf (by decide)⟩
    conv => whnf
    refine ⟨by unfold gI; decide, ?_⟩
    refine ⟨by unfold gI; decide, ?_⟩
    conv => whnf
  refine ⟨fun hf => absurd hf (by decide), fun _ => ?_⟩
  conv => whnf
  refine ⟨by unfold gI; decide, ?_⟩
  conv => whnf
  refine ⟨eightL m, ?_, ?_⟩
  · show [_, _, _, _, _, _, _, _] = [_, _, _, _, _, _, _, _]
    rw [by8 m _ 56 (by decide), by8 m _ 48 (by decide), by8 m _ 40 (by decide), by8 m _ 32 (by decide), by8 m _ 24 (by decide), by8 m _ 16 (by decide), by8 m _ 8 (by decide), by8 m _ 0 (by decide)]
  rfl

theorem eight_drop (m i : Nat) (h : i < 8) : (eightL m).drop (8 - (i + 1)) = UInt8.ofNat (m / 256 ^ i) :: (eightL m).drop (8 - i) := by
  have hk : i = 0 ∨ i = 1 ∨ i = 2 ∨ i = 3 ∨ i = 4 ∨ i = 5 ∨ i = 6 ∨ i = 7 := by omega
  rcases hk with h | h | h | h | h | h | h | h <;> subst h <;> rfl

theorem wrapU (n : Int) (h0 : 0 ≤ n) (h1 : n < 18446744073709551616) : IntKind.u64.wrap n = n := by
  simp only [IntKind.wrap, IntKind.bits, IntKind.signed]
  simp
  exact Int.emod_eq_of_lt h0 h1
theorem tm8 (q : Nat) : PV.int .u8 (IntKind.u8.wrap ((q : Int).tmod 256)) = .int .u8 ((UInt8.ofNat q).toNat : Nat) := by
  have : (q : Int).tmod 256 = ((q % 256 : Nat) : Int) := by
    rw [Int.tmod_eq_emod_of_nonneg (Int.natCast_nonneg _)]; rfl
  rw [this, PV.int.injEq]
  refine ⟨rfl, ?_⟩
  simp only [UInt8.toNat_ofNat']
  simp [IntKind.wrap, IntKind.bits, IntKind.signed]
theorem td8 (q : Nat) : (q : Int).tdiv 256 = ((q / 256 : Nat) : Int) := by
  rw [Int.tdiv_eq_ediv_of_nonneg (Int.natCast_nonneg _)]; rfl
theorem eightR_ok (m : Nat) (hm : m < 18446744073709551616) : CallsF Tryd.prog 35 [.int .u64 m] (.str (eightL m)) := by
  refine CallsF.of_vc mixed (fun _ _ => Tryd.call35 _ _) Tryd.func35 (by kernel_rfl) (inl := []) ?_
  conv => whnf
  refine LoopA.of [] (fun i : Nat => [(0, .p (.int .u64 ((m / 256 ^ i : Nat) : Int))), (3, .p (.str ((eightL m).drop (8 - i)))), (4, .p (.int .i64 i))]) (fun _ => [])
    (fun i => i ≤ 8) (fun i => 8 - i) 0 (Nat.zero_le _) ⟨[], [], ⟨rfl, rfl, rfl, rfl⟩, ⟨.inl ?_, .inl rfl, .inl rfl, trivial⟩, trivial⟩ ?_
  · simp
  intro i hi
  conv => whnf
  refine ⟨fun ht => ?_, fun hf => ?_⟩
  · have hlt : i < 8 := by simp only [decide_eq_true_eq] at ht; omega
    conv => whnf
    refine ⟨by unfold gI; decide, ?_⟩
    conv => whnf
    refine ⟨by intro r hr; simp only [List.mem_singleton] at hr; subst hr; exact ⟨rfl, rfl⟩, ?_⟩
    conv => whnf
    refine ⟨[UInt8.ofNat (m / 256 ^ i)], ?_, ?_⟩
    · show [[_]] = [[_]]
      rw [tm8]
    conv => whnf
    refine ⟨?_, ?_⟩
    · show ((1 + ((eightL m).drop (8 - i)).length : Nat) : Int) ≤ maxI
      have : ((eightL m).drop (8 - i)).length ≤ 8 := by rw [List.length_drop]; exact Nat.sub_le _ _
      unfold maxI; omega
    refine ⟨by unfold gI; decide, ?_⟩
    conv => whnf
    refine ⟨i + 1, hlt, by omega, [], [], ⟨rfl, rfl, rfl, rfl⟩, ⟨.inl ?_, .inl ?_, .inl ?_, trivial⟩, trivial⟩
    · have hq : m / (256 ^ i * 256) ≤ m := Nat.div_le_self _ _
      rw [td8, Nat.pow_succ, Nat.div_div_eq_div_mul, wrapU _ (Int.natCast_nonneg _) (Int.ofNat_lt.2 (Nat.lt_of_le_of_lt hq hm))]
    · rw [eight_drop m i hlt]; rfl
    · rw [wrap_nat i (by omega)]
  · have : i = 8 := by simp at hf; omega
    subst this
    conv => whnf
    rfl
end Rk
