/- A part of the proof. -/
import Derived.Test.YtkakmigbbipgoaaDoorRkF
open Go Go.Proofs Ax Go.RowKit
namespace Rk
set_option maxRecDepth 10000

theorem layK_take (l : List Val) (ks : List (List UInt8)) (h : ks.length = l.length) (x : Nat) (hx : x < l.length) :
    layK (l.take (x + 1)) (ks.take (x + 1)) = layK (l.take x) (ks.take x) ++ (1 :: endedM (ks.getD x []) ++ layM (l.getD x default)) := by
  induction l generalizing x ks with
  | nil => cases hx
  | cons v l ih =>
    cases ks with
    | nil => simp at h
    | cons k ks =>
      cases x with
      | zero => simp [layK]
      | succ x =>
        have := ih ks (by simpa using h) x (Nat.lt_of_succ_lt_succ hx)
        simp only [List.take_succ_cons, layK, List.getD_cons_succ, this]
        simp
theorem layK_take_le (l : List Val) (ks : List (List UInt8)) (x : Nat) : (layK (l.take x) (ks.take x)).length ≤ 16 * bigs l + 16 * kbig ks := by
  induction l generalizing x ks with
  | nil => simp [layK]
  | cons v l ih =>
    cases ks with
    | nil => cases x <;> simp [layK]
    | cons k ks =>
      cases x with
      | zero => simp [layK]
      | succ x =>
        have := ih ks x
        have := layM_length v
        have := endedM_length k
        simp only [List.take_succ_cons, layK, bigs, kbig, List.length_append, List.length_cons]; omega

set_option maxHeartbeats 1000000 in
theorem rows5_ok (b : Bool) (i : Int) (s : List UInt8) (l : List Val) (ks : List (List UInt8)) (hkl : ks.length = l.length) (hl : bigs l + kbig ks ≤ 1099511627776) (hks : kbig ks ≤ 4294967280) (ih : ∀ v, v ∈ l → CallsF Tryd.prog 16 [v.pv] (.str (layM v))) :
    CallsF Tryd.prog 32 [(Val.mk 5 b i s l ks).pv] (.str (1 :: layK l ks ++ [0])) := by
  have hll := bigs_len l
  refine CallsF.of_vc mixed (fun _ _ => Tryd.call32 _ _) Tryd.func32 (by kernel_rfl) (inl := [47, 48, 49, 50, 54, 60]) ?_
  conv => whnf
  refine CallsI.of_vc mixed (fun _ _ => Tryd.call47 _ _) Tryd.func47 (by kernel_rfl) (inl := [47, 48, 49, 50, 54, 60]) ?_
  conv => whnf
  refine CallsI.of_vc mixed (fun _ _ => Tryd.call54 _ _) Tryd.func54 (by kernel_rfl) (inl := [47, 48, 49, 50, 54, 60]) ?_
  conv => whnf
  refine ⟨fun _ => ?_, fun hf => absurd hf (by decide)⟩
  conv => whnf
  refine ⟨⟨by decide, by decide⟩, ?_⟩
  conv => whnf
  refine CallsI.noEscape Tryd.func60 (by kernel_rfl) (by kernel_rfl) (by kernel_rfl) (by kernel_rfl) ?_
  conv => whnf
  refine ⟨by kernel_rfl, ?_⟩
  conv => whnf
  refine ⟨one_row _ _ rfl, ?_⟩
  conv => whnf
  refine ⟨⟨one_row1 _ _ rfl, by decide, by decide⟩, ?_⟩
  conv => whnf
  refine ⟨fun _ => ?_, fun hf => absurd hf (by decide)⟩
  conv => whnf
  refine CallsI.of_vc mixed (fun _ _ => Tryd.call48 _ _) Tryd.func48 (by kernel_rfl) (inl := [47, 48, 49, 50, 54, 60]) ?_
  conv => whnf
  refine CallsI.of_vc mixed (fun _ _ => Tryd.call47 _ _) Tryd.func47 (by kernel_rfl) (inl := [47, 48, 49, 50, 54, 60]) ?_
  conv => whnf
  refine CallsI.of_vc mixed (fun _ _ => Tryd.call54 _ _) Tryd.func54 (by kernel_rfl) (inl := [47, 48, 49, 50, 54, 60]) ?_
  conv => whnf
  refine ⟨fun _ => ?_, fun hf => absurd hf (by decide)⟩
  conv => whnf
  refine ⟨⟨by decide, by decide⟩, ?_⟩
  conv => whnf
  refine CallsI.noEscape Tryd.func60 (by kernel_rfl) (by kernel_rfl) (by kernel_rfl) (by kernel_rfl) ?_
  conv => whnf
  refine ⟨by kernel_rfl, ?_⟩
  conv => whnf
  refine ⟨one_row _ _ rfl, ?_⟩
  conv => whnf
  refine ⟨⟨one_row1 _ _ rfl, by decide, by decide⟩, ?_⟩
  conv => whnf
  refine LoopA.of [47, 48, 49, 50, 54, 60] (fun x : Nat => [(1, .ptr 0 0), (3, .ptr 1 0), (13, .p (.sl (Val.rows l))), (14, .p (.int .i64 (Val.rows l).length)), (15, .p (.int .i64 x))])
    (fun x => [.box 25 [.p (.int .i64 5), .p (.bool b), .p (.int .i64 i), .p (.str s), .p (.sl (Val.rows l)), .p (.sl (strs ks))], .box 76 [.ptr 1 0, .tsl 2 (bRows (1 :: layK (l.take x) (ks.take x)))], .tail 5 1 (bRows (1 :: layK (l.take x) (ks.take x))).length])
    (fun x => x ≤ l.length) (fun x => l.length - x) 0 (Nat.zero_le _)
    ⟨[0, 1, 3], [], ⟨rfl, rfl, rfl, rfl⟩, ⟨⟨rfl, rfl, List.not_mem_nil⟩, ⟨rfl, rfl, List.not_mem_nil⟩, .inl rfl, .inl rfl, .inl rfl, trivial⟩,
      ⟨⟨rfl, .inl rfl, .inl rfl, .inl rfl, .inl rfl, .inl rfl, .inl rfl, trivial⟩, ⟨rfl, ⟨rfl, rfl, List.not_mem_nil⟩, ⟨rfl, by simp only [List.take_zero, layK]; rfl, List.not_mem_nil⟩, trivial⟩, ⟨rfl, rfl, by simp only [List.take_zero, layK]; rfl⟩, trivial⟩⟩ ?_
  intro x hx
  conv => whnf
  rw [rows_eq, vals_length]
  refine ⟨fun ht => ?_, fun hf => ?_⟩
  · have hlt : x < l.length := by simp only [decide_eq_true_eq] at ht; omega
    conv => whnf
    obtain ⟨⟨k', b', i', s', l', ks'⟩, hv⟩ : ∃ v, l.getD x default = v := ⟨_, rfl⟩
    have hb := bigs_get hlt
    rw [hv] at hb
    refine ⟨_, ⟨by omega, vals_at hlt hv, rfl⟩, ?_⟩
    conv => whnf
    refine ⟨fun _ => ?_, fun hf => absurd hf (by decide)⟩
    conv => whnf
    have htl := layK_take_le l ks x
    have hsplit := layK_take l ks hkl x hlt
    rw [hv] at hsplit
    have hkb := kbig_get (l := ks) (i := x) (by omega)
    have hke := endedM_length (ks.getD x [])
    have hlen := layM_length (.mk k' b' i' s' l' ks')
    refine CallsI.of_vc mixed (fun _ _ => Tryd.call47 _ _) Tryd.func47 (by kernel_rfl) (inl := [47, 48, 49, 50, 54, 60]) ?_
    conv => whnf
    refine CallsI.of_vc mixed (fun _ _ => Tryd.call54 _ _) Tryd.func54 (by kernel_rfl) (inl := [47, 48, 49, 50, 54, 60]) ?_
    conv => whnf
    refine ⟨fun hf => absurd hf (by decide), fun _ => ?_⟩
    conv => whnf
    refine ⟨fun hf => absurd hf (by decide), fun _ => ?_⟩
    conv => whnf
    refine ⟨one_row _ _ rfl, ?_⟩
    conv => whnf
    rw [show ([[PV.int .u8 1]] : List (List PV)) = bRows [1] from rfl, bRows_append, bRows_length]
    refine ⟨⟨bRows_wide _, ?_, ?_⟩, ?_⟩
    · rw [one_byte]; simp only [List.length_append, List.length_cons, List.length_nil]; omega
    · simp only [List.length_append, List.length_cons, List.length_nil]; omega
    conv => whnf
    refine ⟨⟨rfl, rfl, rfl⟩, ?_⟩
    conv => whnf
    refine ⟨_, ⟨by omega, strs_getD (by rw [Int.toNat_natCast]; omega), rfl⟩, ?_⟩
    rw [Int.toNat_natCast]
    generalize hkey : ks.getD x [] = key at *
    conv => whnf
    refine ⟨_, ended_ok key (by omega) (by omega), ?_⟩
    generalize endedM key = ek at *
    conv => whnf
    refine CallsI.of_vc mixed (fun _ _ => Tryd.call49 _ _) Tryd.func49 (by kernel_rfl) (inl := [47, 48, 49, 50, 54, 60]) ?_
    conv => whnf
    refine CallsI.of_vc mixed (fun _ _ => Tryd.call54 _ _) Tryd.func54 (by kernel_rfl) (inl := [47, 48, 49, 50, 54, 60]) ?_
    conv => whnf
    refine ⟨fun hf => absurd hf (by decide), fun _ => ?_⟩
    conv => whnf
    refine ⟨fun hf => absurd hf (by decide), fun _ => ?_⟩
    conv => whnf
    rw [bRows_append, bRows_length]
    refine ⟨⟨bRows_wide _, ?_, ?_⟩, ?_⟩
    · rw [one_byte]; simp only [List.length_append, List.length_cons, List.length_nil]; omega
    · simp only [List.length_append, List.length_cons, List.length_nil]; omega
    conv => whnf
    refine ⟨⟨rfl, rfl, ?_⟩, ?_⟩
    · rw [bRows_length]
    conv => whnf
    refine ⟨_, ih (.mk k' b' i' s' l' ks') (hv ▸ getD_mem hlt), ?_⟩
    generalize layM (.mk k' b' i' s' l' ks') = out at *
    conv => whnf
    refine CallsI.of_vc mixed (fun _ _ => Tryd.call49 _ _) Tryd.func49 (by kernel_rfl) (inl := [47, 48, 49, 50, 54, 60]) ?_
    conv => whnf
    refine CallsI.of_vc mixed (fun _ _ => Tryd.call54 _ _) Tryd.func54 (by kernel_rfl) (inl := [47, 48, 49, 50, 54, 60]) ?_
    conv => whnf
    refine ⟨fun hf => absurd hf (by decide), fun _ => ?_⟩
    conv => whnf
    refine ⟨fun hf => absurd hf (by decide), fun _ => ?_⟩
    conv => whnf
    rw [bRows_append, bRows_length]
    refine ⟨⟨bRows_wide _, ?_, ?_⟩, ?_⟩
    · rw [one_byte]; simp only [List.length_append, List.length_cons, List.length_nil]; omega
    · simp only [List.length_append, List.length_cons, List.length_nil]; omega
    conv => whnf
    refine ⟨⟨rfl, rfl, ?_⟩, ?_⟩
    · rw [bRows_length]
    conv => whnf
    refine ⟨x + 1, hlt, by omega, [0, 1, 6], [], ⟨rfl, rfl, rfl, rfl⟩, ⟨⟨rfl, rfl, List.not_mem_nil⟩, ⟨rfl, rfl, List.not_mem_nil⟩, .inl rfl, .inl rfl, .inl ?_, trivial⟩,
      ⟨⟨rfl, .inl rfl, .inl rfl, .inl rfl, .inl rfl, .inl rfl, .inl rfl, trivial⟩, ⟨rfl, ⟨rfl, rfl, List.not_mem_nil⟩, ⟨rfl, ?_, List.not_mem_nil⟩, trivial⟩, ⟨rfl, rfl, ?_⟩, trivial⟩⟩
    · rw [wrap_nat x (by omega)]
    · rw [hsplit]; simp
    · rw [hsplit, bRows_length]; simp
  · have : x = l.length := by simp at hf; omega
    subst this
    have hlen := layK_length l ks
    rw [List.take_length, ← hkl, List.take_length, hkl]
    conv => whnf
    refine CallsI.of_vc mixed (fun _ _ => Tryd.call47 _ _) Tryd.func47 (by kernel_rfl) (inl := [47, 48, 49, 50, 54, 60]) ?_
    conv => whnf
    refine CallsI.of_vc mixed (fun _ _ => Tryd.call54 _ _) Tryd.func54 (by kernel_rfl) (inl := [47, 48, 49, 50, 54, 60]) ?_
    conv => whnf
    refine ⟨fun hf => absurd hf (by decide), fun _ => ?_⟩
    conv => whnf
    refine ⟨fun hf => absurd hf (by decide), fun _ => ?_⟩
    conv => whnf
    refine ⟨one_row _ _ rfl, ?_⟩
    conv => whnf
    rw [show ([[PV.int .u8 0]] : List (List PV)) = bRows [0] from rfl, bRows_append, bRows_length]
    refine ⟨⟨bRows_wide _, ?_, ?_⟩, ?_⟩
    · rw [one_byte]; simp only [List.length_append, List.length_cons, List.length_nil]; omega
    · simp only [List.length_append, List.length_cons, List.length_nil]; omega
    conv => whnf
    refine ⟨⟨rfl, rfl, rfl⟩, ?_⟩
    conv => whnf
    refine CallsI.string (T := 76) (E := 5) enters50 string_exact (k := 1) (j := 3) (bs := 1 :: layK l ks ++ [0]) (n := (1 :: layK l ks ++ [0]).length) rfl rfl (by simp) ?_
    conv => whnf
end Rk
