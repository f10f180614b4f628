/- A part of the proof. -/
import Derived.Test.YtkakmigbbipgoaaDoorAxBuilder
import Derived.Test.YtkakmigbbipgoaaDoorRkE
open Go Go.Proofs Ax Go.RowKit
namespace Rk
set_option maxRecDepth 10000

theorem one_row (c : Int) (e : Nat) (he : e = 1) : ∀ r ∈ [[PV.int .u8 c]], r.length = e ∧ r.all oneP = true := by
  intro r hr
  simp only [List.mem_singleton] at hr
  subst hr he
  exact ⟨rfl, rfl⟩
theorem one_row1 (c : Int) (e : Nat) (he : e = 1) : ∀ r ∈ [[PV.int .u8 c]], r.length = e := fun r hr => (one_row c e he r hr).1

theorem bRows_wide (l : List UInt8) : ∀ r ∈ bRows l, r.length = 1 := by
  intro r hr
  simp only [bRows, List.mem_map] at hr
  obtain ⟨_, _, rfl⟩ := hr
  rfl
theorem bRows_length (l : List UInt8) : (bRows l).length = l.length := by simp [bRows]
theorem bRows_append (a b : List UInt8) : bRows a ++ bRows b = bRows (a ++ b) := by simp [bRows]
theorem one_byte : Tryd.prog.types[5].bytes = 1 := by kernel_rfl

/-- A number's 64 bits. -/
def bits64 (i : Int) : Nat := (i % 18446744073709551616).toNat

mutual
/-- A value's key. -/
def layM : Val → List UInt8
  | .mk k b i s l ks =>
    bif k == 1 then [6, bif b then 1 else 0]
    else bif k == 2 then 7 :: eightL (bits64 i ^^^ 9223372036854775808)
    else bif k == 3 then 5 :: endedM s
    else bif k == 6 then 2 :: eightL (bits64 i)
    else bif k == 7 then 3 :: eightL (bits64 i)
    else bif k == 4 then 4 :: layL l ++ [0]
    else bif k == 5 then 1 :: layK l ks ++ [0]
    else [8]
def layL : List Val → List UInt8
  | [] => []
  | v :: l => layM v ++ layL l
def layK : List Val → List (List UInt8) → List UInt8
  | v :: l, k :: ks => 1 :: endedM k ++ layM v ++ layK l ks
  | _, _ => []
end

theorem endedM_length (s : List UInt8) : (endedM s).length ≤ 2 * s.length + 2 := by
  have := esc_length s
  unfold endedM
  rw [List.length_append]
  show _ + 2 ≤ _
  omega
mutual
theorem layM_length : ∀ v : Val, (layM v).length ≤ 16 * v.big
  | .mk k b i s l ks => by
    have h1 := layL_length l
    have h2 := layK_length l ks
    have h3 := endedM_length s
    unfold layM
    simp only [Val.big]
    cases k == 1 <;> cases k == 2 <;> cases k == 3 <;> cases k == 6 <;> cases k == 7 <;> cases k == 4 <;> cases k == 5 <;> simp [eightL] <;> omega
theorem layL_length : ∀ l : List Val, (layL l).length ≤ 16 * bigs l
  | [] => Nat.zero_le _
  | v :: l => by
    have h1 := layM_length v
    have h2 := layL_length l
    simp only [layL, bigs, List.length_append]; omega
theorem layK_length : ∀ (l : List Val) (ks : List (List UInt8)), (layK l ks).length ≤ 16 * bigs l + 16 * kbig ks
  | [], _ => by simp [layK]
  | _ :: _, [] => by simp [layK]
  | v :: l, k :: ks => by
    have h1 := layM_length v
    have h2 := layK_length l ks
    have h3 := endedM_length k
    simp only [layK, bigs, kbig, List.length_append, List.length_cons]; omega
end
theorem layL_take (l : List Val) (x : Nat) (h : x < l.length) : layL (l.take (x + 1)) = layL (l.take x) ++ layM (l.getD x default) := by
  induction l generalizing x with
  | nil => cases h
  | cons v l ih =>
    cases x with
    | zero => simp [layL]
    | succ x =>
      have := ih x (Nat.lt_of_succ_lt_succ h)
      simp only [List.take_succ_cons, layL, List.getD_cons_succ, this, List.append_assoc]
theorem layL_take_le (l : List Val) (x : Nat) : (layL (l.take x)).length ≤ 16 * bigs l := by
  induction l generalizing x with
  | nil => simp [layL]
  | cons v l ih =>
    cases x with
    | zero => simp [layL]
    | succ x =>
      have := ih x
      have := layM_length v
      simp only [List.take_succ_cons, layL, bigs, List.length_append]; omega

theorem getD_mem {l : List Val} {x : Nat} (h : x < l.length) : l.getD x default ∈ l := by
  rw [List.getD_eq_getElem?_getD, List.getElem?_eq_getElem h]
  exact List.getElem_mem h
theorem enters50 : ∀ (args : Array Value) (w : World), (callFunc 50 args).run Tryd.prog w = .ok (.enter 50 args) w := fun _ _ => Tryd.call50 _ _
theorem string_exact (b : Nat) (l : List UInt8) (w : World) (p v : Value) (hbk : w.heap[b]? = some (.cells #[p, v] 76 (0, 0))) (hown : w.ownsRow 0 5 1 v l.length (Lib.byteCells l)) (h0 : l ≠ []) :
    Calls Tryd.prog 50 #[.pointer (some ⟨b, 0, none⟩)] w (StrPost l v w) := Any.String_exact Tryd.lays169 Tryd.Builder_Extra_169 b l w p v hbk hown h0

theorem rows4_ok (b : Bool) (i : Int) (s : List UInt8) (l : List Val) (ks : List (List UInt8)) (hl : bigs l ≤ 1099511627776) (ih : ∀ v, v ∈ l → CallsF Tryd.prog 16 [v.pv] (.str (layM v))) :
    CallsF Tryd.prog 32 [(Val.mk 4 b i s l ks).pv] (.str (4 :: layL l ++ [0])) := by
  have hll := bigs_len l
  refine CallsF.of_vc mixed (fun _ _ => Tryd.call32 _ _) Tryd.func32 (by kernel_rfl) (inl := [47, 48, 49, 50, 54, 60]) ?_
  conv => whnf
  refine CallsI.of_vc mixed (fun _ _ => Tryd.call47 _ _) Tryd.func47 (by kernel_rfl) (inl := [47, 48, 49, 50, 54, 60]) ?_
  conv => whnf
  refine CallsI.of_vc mixed (fun _ _ => Tryd.call54 _ _) Tryd.func54 (by kernel_rfl) (inl := [47, 48, 49, 50, 54, 60]) ?_
  conv => whnf
  refine ⟨fun _ => ?_, fun hf => absurd hf (by decide)⟩
  conv => whnf
  refine ⟨⟨by decide, by decide⟩, ?_⟩
  conv => whnf
  refine CallsI.noEscape Tryd.func60 (by kernel_rfl) (by kernel_rfl) (by kernel_rfl) (by kernel_rfl) ?_
  conv => whnf
  refine ⟨by kernel_rfl, ?_⟩
  conv => whnf
  refine ⟨one_row _ _ rfl, ?_⟩
  conv => whnf
  refine ⟨⟨one_row1 _ _ rfl, by decide, by decide⟩, ?_⟩
  conv => whnf
  refine ⟨fun hf => absurd hf (by decide), fun _ => ?_⟩
  conv => whnf
  refine LoopA.of [47, 48, 49, 50, 54, 60] (fun x : Nat => [(1, .ptr 0 0), (3, .ptr 1 0), (13, .p (.sl (Val.rows l))), (14, .p (.int .i64 (Val.rows l).length)), (15, .p (.int .i64 x))])
    (fun x => [.box 25 [.p (.int .i64 4), .p (.bool b), .p (.int .i64 i), .p (.str s), .p (.sl (Val.rows l)), .p (.sl (strs ks))], .box 76 [.ptr 1 0, .tsl 2 (bRows (4 :: layL (l.take x)))], .tail 5 1 (bRows (4 :: layL (l.take x))).length])
    (fun x => x ≤ l.length) (fun x => l.length - x) 0 (Nat.zero_le _)
    ⟨[0, 1, 2], [], ⟨rfl, rfl, rfl, rfl⟩, ⟨⟨rfl, rfl, List.not_mem_nil⟩, ⟨rfl, rfl, List.not_mem_nil⟩, .inl rfl, .inl rfl, .inl rfl, trivial⟩,
      ⟨rfl, .inl rfl, .inl rfl, .inl rfl, .inl rfl, .inl rfl, .inl rfl, trivial⟩, ⟨rfl, ⟨rfl, rfl, List.not_mem_nil⟩, ⟨rfl, rfl, List.not_mem_nil⟩, trivial⟩, ⟨rfl, rfl, rfl⟩, trivial⟩ ?_
  intro x hx
  conv => whnf
  rw [rows_eq, vals_length]
  refine ⟨fun ht => ?_, fun hf => ?_⟩
  · have hlt : x < l.length := by simp only [decide_eq_true_eq] at ht; omega
    conv => whnf
    obtain ⟨⟨k', b', i', s', l', ks'⟩, hv⟩ : ∃ v, l.getD x default = v := ⟨_, rfl⟩
    have hb := bigs_get hlt
    rw [hv] at hb
    refine ⟨_, ⟨by omega, vals_at hlt hv, rfl⟩, ?_⟩
    conv => whnf
    refine ⟨fun hf => absurd hf (by decide), fun _ => ?_⟩
    conv => whnf
    refine ⟨_, ih (.mk k' b' i' s' l' ks') (hv ▸ getD_mem hlt), ?_⟩
    have hlen := layM_length (.mk k' b' i' s' l' ks')
    have hsplit := layL_take l x hlt
    have htl := layL_take_le l x
    rw [hv] at hsplit
    generalize layM (.mk k' b' i' s' l' ks') = out at *
    conv => whnf
    refine CallsI.of_vc mixed (fun _ _ => Tryd.call49 _ _) Tryd.func49 (by kernel_rfl) (inl := [47, 48, 49, 50, 54, 60]) ?_
    conv => whnf
    refine CallsI.of_vc mixed (fun _ _ => Tryd.call54 _ _) Tryd.func54 (by kernel_rfl) (inl := [47, 48, 49, 50, 54, 60]) ?_
    conv => whnf
    refine ⟨fun hf => absurd hf (by decide), fun _ => ?_⟩
    conv => whnf
    refine ⟨fun hf => absurd hf (by decide), fun _ => ?_⟩
    conv => whnf
    rw [bRows_append, bRows_length]
    refine ⟨⟨bRows_wide _, ?_, ?_⟩, ?_⟩
    · rw [one_byte]; simp only [List.length_append, List.length_cons]; omega
    · simp only [List.length_append, List.length_cons]; omega
    conv => whnf
    refine ⟨⟨rfl, rfl, rfl⟩, ?_⟩
    conv => whnf
    refine ⟨x + 1, hlt, by omega, [0, 1, 4], [], ⟨rfl, rfl, rfl, rfl⟩, ⟨⟨rfl, rfl, List.not_mem_nil⟩, ⟨rfl, rfl, List.not_mem_nil⟩, .inl rfl, .inl rfl, .inl ?_, trivial⟩,
      ⟨rfl, .inl rfl, .inl rfl, .inl rfl, .inl rfl, .inl rfl, .inl rfl, trivial⟩, ⟨rfl, ⟨rfl, rfl, List.not_mem_nil⟩, ⟨rfl, ?_, List.not_mem_nil⟩, trivial⟩, ⟨rfl, rfl, ?_⟩, trivial⟩
    · rw [wrap_nat x (by omega)]
    · rw [hsplit]; rfl
    · rw [hsplit, bRows_length]; rfl
  · have : x = l.length := by simp at hf; omega
    subst this
    rw [List.take_length]
    conv => whnf
    refine CallsI.of_vc mixed (fun _ _ => Tryd.call47 _ _) Tryd.func47 (by kernel_rfl) (inl := [47, 48, 49, 50, 54, 60]) ?_
    conv => whnf
    refine CallsI.of_vc mixed (fun _ _ => Tryd.call54 _ _) Tryd.func54 (by kernel_rfl) (inl := [47, 48, 49, 50, 54, 60]) ?_
    conv => whnf
    refine ⟨fun hf => absurd hf (by decide), fun _ => ?_⟩
    conv => whnf
    refine ⟨fun hf => absurd hf (by decide), fun _ => ?_⟩
    conv => whnf
    refine ⟨one_row _ _ rfl, ?_⟩
    conv => whnf
    rw [show ([[PV.int .u8 0]] : List (List PV)) = bRows [0] from rfl, bRows_append, bRows_length]
    have hlen := layL_length l
    refine ⟨⟨bRows_wide _, ?_, ?_⟩, ?_⟩
    · rw [one_byte]; simp only [List.length_append, List.length_cons, List.length_nil]; omega
    · simp only [List.length_append, List.length_cons, List.length_nil]; omega
    conv => whnf
    refine ⟨⟨rfl, rfl, rfl⟩, ?_⟩
    conv => whnf
    refine CallsI.string (T := 76) (E := 5) enters50 string_exact (k := 1) (j := 3) (bs := 4 :: layL l ++ [0]) (n := (4 :: layL l ++ [0]).length) rfl rfl (by simp) ?_
    conv => whnf
end Rk
