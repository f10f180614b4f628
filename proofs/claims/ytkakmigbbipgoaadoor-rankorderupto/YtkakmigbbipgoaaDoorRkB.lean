/- A part of the proof. -/
import Derived.Test.YtkakmigbbipgoaaDoorAxSz
import Derived.Test.YtkakmigbbipgoaaDoorRkA
open Go Go.Proofs Ax
namespace Rk
set_option maxRecDepth 10000


def bareB (k : Int) (b : Bool) (i : Int) (s : List UInt8) (nl nk : Nat) : Bool :=
  bif bif bif bif bif k == 1 then true else !b then bif bif k == 2 then true else decide (k ≥ 6) then true else i == 0 else false then
    bif k == 3 then true else s == [] else false then bif bif k == 4 then true else k == 5 then true else (nl : Int) == 0 else false then
    bif k == 5 then true else (nk : Int) == 0 else false

theorem bare_ok (k : Int) (b : Bool) (i : Int) (s : List UInt8) (l : List (List PV)) (ks : List (List PV)) :
   CallsF Tryd.prog 44 [.agg [.int .i64 k, .bool b, .int .i64 i, .str s, .sl l, .sl ks]] (.bool (bareB k b i s l.length ks.length)) := by
  refine CallsF.of_vc mixed (fun _ _ => Tryd.call44 _ _) Tryd.func44 (by kernel_rfl) (inl := []) ?_
  repeat (refine And.intro (fun h => h) ?_)
  conv => whnf
  rfl

def unusedB (k : Int) (b : Bool) (i : Int) (s : List UInt8) (nl nk : Nat) : Bool :=
  bif (bif k != 1 then b else false) then false else
  bif (bif (bif (bif k != 2 then k != 6 else false) then k != 7 else false) then i != 0 else false) then false else
  bif (bif k != 3 then !s == [] else false) then false else
  bif (bif (bif k != 4 then k != 5 else false) then decide ((nl : Int) > 0) else false) then false else
  bif k == 5 then true else (nk : Int) == 0

theorem unused_ok (k : Int) (b : Bool) (i : Int) (s : List UInt8) (l : List (List PV)) (ks : List (List PV)) :
   CallsF Tryd.prog 51 [.agg [.int .i64 k, .bool b, .int .i64 i, .str s, .sl l, .sl ks]] (.bool (unusedB k b i s l.length ks.length)) := by
  refine CallsF.of_vc mixed (fun _ _ => Tryd.call51 _ _) Tryd.func51 (by kernel_rfl) (inl := []) ?_
  repeat (refine And.intro (fun h => h) ?_)
  conv => whnf
  refine ⟨fun h1 => ?_, fun h1 => ?_⟩
  · conv => whnf
    unfold unusedB
    rw [h1]; rfl
  repeat (refine And.intro (fun h => h) ?_)
  conv => whnf
  refine ⟨fun h2 => ?_, fun h2 => ?_⟩
  · conv => whnf
    unfold unusedB
    rw [h1, h2]; rfl
  repeat (refine And.intro (fun h => h) ?_)
  conv => whnf
  refine ⟨fun h3 => ?_, fun h3 => ?_⟩
  · conv => whnf
    unfold unusedB
    rw [h1, h2, h3]; rfl
  repeat (refine And.intro (fun h => h) ?_)
  conv => whnf
  refine ⟨fun h4 => ?_, fun h4 => ?_⟩
  · conv => whnf
    unfold unusedB
    rw [h1, h2, h3, h4]; rfl
  repeat (refine And.intro (fun h => h) ?_)
  conv => whnf
  unfold unusedB
  rw [h1, h2, h3, h4]; rfl

def good1 : Val → Bool
  | .mk k b i s l ks => (decide (0 ≤ k) && decide (k ≤ 7)) && bareB k b i s l.length ks.length && !(decide (k ≥ 6) && decide (i < 1)) && !(k == 5 && (ks.length != l.length || !keysB ks))

mutual
/-- Parts, and whether all may be. -/
def lookM : Val → Int → Int → Int × Bool
  | .mk k b i s l ks, d, p => bif (decide (d < 1) || decide (p + 1 > 4096) || !good1 (.mk k b i s l ks)) then (p + 1, false) else lookL l (d - 1) (p + 1)
def lookL : List Val → Int → Int → Int × Bool
  | [], _, p => (p, true)
  | v :: l, d, p => bif (lookM v d p).2 then lookL l d (lookM v d p).1 else ((lookM v d p).1, false)
end

mutual
theorem lookM_le : ∀ (v : Val) (d p : Int), 0 ≤ p → p ≤ 4096 → p ≤ (lookM v d p).1 ∧ (lookM v d p).1 ≤ 4097 ∧ ((lookM v d p).2 = true → (lookM v d p).1 ≤ 4096)
  | .mk k b i s l ks, d, p, h0, h1 => by
    unfold lookM
    cases hb : (decide (d < 1) || decide (p + 1 > 4096) || !good1 (.mk k b i s l ks)) with
    | true => simp only [cond_true]; exact ⟨by omega, by omega, fun h => by simp at h⟩
    | false =>
      simp only [cond_false]
      have hp : p + 1 ≤ 4096 := by simp at hb; omega
      have := lookL_le l (d - 1) (p + 1) (by omega) hp
      exact ⟨by omega, this.2⟩
theorem lookL_le : ∀ (l : List Val) (d p : Int), 0 ≤ p → p ≤ 4096 → p ≤ (lookL l d p).1 ∧ (lookL l d p).1 ≤ 4097 ∧ ((lookL l d p).2 = true → (lookL l d p).1 ≤ 4096)
  | [], d, p, h0, h1 => by unfold lookL; exact ⟨Int.le_refl _, by simp only; omega, fun _ => h1⟩
  | v :: l, d, p, h0, h1 => by
    unfold lookL
    have hv := lookM_le v d p h0 h1
    cases hb : (lookM v d p).2 with
    | true =>
      simp only [cond_true]
      have := lookL_le l d (lookM v d p).1 (by omega) (hv.2.2 hb)
      exact ⟨by omega, this.2⟩
    | false => simp only [cond_false]; exact ⟨hv.1, hv.2.1, fun h => by simp at h⟩
end

abbrev lookR (r : Int × Bool) : PV := .tup [.int .i64 r.1, .bool r.2]

theorem bad_eq (k : Int) (b : Bool) (i : Int) (s : List UInt8) (l : List Val) (ks : List (List UInt8)) (d p : Int) (hp0 : 0 ≤ p) (hp : p ≤ 4096) :
  (bif bif bif bif bif bif decide (d < 1) then true else decide (IntKind.i64.wrap (p + 1) > 4096) then true else decide (k < 0) then true else decide (k > 7) then
              true
            else !bareB k b i s (Val.rows l).length (strs ks).length then
          true
        else bif decide (k ≥ 6) then decide (i < 1) else false then
      true
    else bif k == 5 then bif ((strs ks).length : Int) != ((Val.rows l).length : Int) then true else !keysB ks else false) =
    (decide (d < 1) || decide (p + 1 > 4096) || !good1 (.mk k b i s l ks)) := by
  rw [rows_eq, vals_length, strs_length, wrap_ok (p + 1) (by omega) (by omega)]
  unfold good1
  have e1 : decide (0 ≤ k) = !decide (k < 0) := by rw [Bool.eq_iff_iff]; simp
  have e2 : decide (k ≤ 7) = !decide (k > 7) := by rw [Bool.eq_iff_iff]; simp
  have e3 : ((ks.length : Int) != (l.length : Int)) = (ks.length != l.length) := by rw [Bool.eq_iff_iff]; simp; omega
  simp only [e1, e2, e3]
  generalize decide (d < 1) = x1, decide (p + 1 > 4096) = x2, decide (k < 0) = x3, decide (k > 7) = x4, bareB k b i s l.length ks.length = x5, decide (k ≥ 6) = x6, decide (i < 1) = x7, (k == 5) = x8, (ks.length != l.length) = x9, keysB ks = x10
  revert x1 x2 x3 x4 x5 x6 x7 x8 x9 x10
  decide


theorem look_ok (n : Nat) : ∀ (v : Val) (d p : Int), v.big ≤ n → n ≤ 1099511627776 → 0 ≤ d → d ≤ 100 → 0 ≤ p → p ≤ 4096 →
   CallsF Tryd.prog 29 [v.pv, .int .i64 d, .int .i64 p] (lookR (lookM v d p)) := by
  induction n with
  | zero => exact fun v _ _ h _ _ _ _ _ => absurd v.big_pos (by omega)
  | succ n ih =>
  rintro ⟨k, b, i, s, l, ks⟩ d p hn hn2 hd0 hd1 hp0 hp1
  have hbig : 1 + s.length + bigs l + kbig ks ≤ n + 1 := hn
  have hk := kbig_len ks
  have hl := bigs_len l
  refine CallsF.of_vc mixed (fun _ _ => Tryd.call29 _ _) Tryd.func29 (by kernel_rfl) (inl := []) ?_
  conv => whnf
  repeat (refine And.intro (fun h => h) ?_)
  refine ⟨_, fun hg => bare_ok _ _ _ _ _ _, ?_⟩
  repeat (refine And.intro (fun h => h) ?_)
  refine ⟨_, fun hg => keys_ok _ (by omega), ?_⟩
  repeat (refine And.intro (fun h => h) ?_)
  conv => whnf
  refine ⟨fun ht => ?_, fun hf => ?_⟩
  · conv => whnf
    rw [bad_eq k b i s l ks d p hp0 hp1] at ht
    unfold lookM
    rw [ht, wrap_ok (p + 1) (by omega) (by omega)]; rfl
  · rw [bad_eq k b i s l ks d p hp0 hp1] at hf
    conv => whnf
    refine LoopA.of [] (fun x : Nat × Int × Bool => [(1, .p (.int .i64 d)), (2, .p (.int .i64 x.2.1)), (3, .ptr 0 0), (8, .p (.bool x.2.2)), (9, .p (.int .i64 x.1))]) (fun _ => [.box 25 [.p (.int .i64 k), .p (.bool b), .p (.int .i64 i), .p (.str s), .p (.sl (Val.rows l)), .p (.sl (strs ks))]])
      (fun x => x.1 ≤ l.length ∧ 0 ≤ x.2.1 ∧ (x.2.2 = true → lookL l (d - 1) (p + 1) = lookL (l.drop x.1) (d - 1) x.2.1 ∧ x.2.1 ≤ 4096) ∧ (x.2.2 = false → lookL l (d - 1) (p + 1) = (x.2.1, false))) (fun x => l.length - x.1) (0, p + 1, true)
      ⟨Nat.zero_le _, by simp only; omega, fun _ => ⟨rfl, by simp at hf; simp only; omega⟩, fun h => by simp at h⟩
      ⟨[0], [], ⟨rfl, rfl, rfl, rfl⟩, ⟨.inl rfl, .inl ?_, ⟨rfl, rfl, List.not_mem_nil⟩, .inl rfl, .inl rfl, trivial⟩, ?_⟩ ?_
    · rw [wrap_ok (p + 1) (by omega) (by omega)]
    · exact ⟨⟨rfl, .inl rfl, .inl rfl, .inl rfl, .inl rfl, .inl rfl, .inl rfl, trivial⟩, trivial⟩
    · rintro ⟨x, q, ok⟩ ⟨hx, hq, hok, hno⟩
      dsimp only at hx hq hok hno ⊢
      conv => whnf
      repeat (refine And.intro (fun h => h) ?_)
      conv => whnf
      rw [rows_eq, vals_length]
      refine ⟨fun ht => ?_, fun hf => ?_⟩
      · simp only [Bool.cond_eq_ite, Bool.if_false_right, Bool.and_eq_true, decide_eq_true_eq] at ht
        obtain ⟨hlt, rfl⟩ := ht
        have hlt : x < l.length := by omega
        have hq1 := (hok rfl).2
        conv => whnf
        obtain ⟨⟨k', b', i', s', l', ks'⟩, hv⟩ : ∃ v, l.getD x default = v := ⟨_, rfl⟩
        have hb := bigs_get hlt
        have he := (hok rfl).1
        rw [drop_getD default hlt, lookL] at he
        rw [hv] at hb he
        refine ⟨_, ⟨by omega, vals_at hlt hv, rfl⟩, ?_⟩
        have hd : 1 ≤ d := by simp at hf; omega
        have hw := wrap_ok (d - 1) (by omega) (by omega)
        conv => whnf
        refine ⟨lookR (lookM (.mk k' b' i' s' l' ks') (d - 1) q), by rw [hw]; exact ih (.mk k' b' i' s' l' ks') (d - 1) q (by omega) (by omega) (by omega) (by omega) hq hq1, ?_⟩
        generalize Val.mk k' b' i' s' l' ks' = v at *
        have hr := lookM_le v (d - 1) q hq hq1
        conv => whnf
        refine ⟨(x + 1, (lookM v (d - 1) q).1, (lookM v (d - 1) q).2), ⟨by dsimp only; omega, by dsimp only; omega, fun h => ?_, fun h => ?_⟩, by dsimp only; omega,
          [0], [], ⟨rfl, rfl, rfl, rfl⟩, ⟨.inl rfl, .inl rfl, ⟨rfl, rfl, List.not_mem_nil⟩, .inl rfl, .inl ?_, trivial⟩, ⟨rfl, .inl rfl, .inl rfl, .inl rfl, .inl rfl, .inl rfl, .inl rfl, trivial⟩, trivial⟩
        · dsimp only at h ⊢
          rw [h] at he
          exact ⟨he, hr.2.2 h⟩
        · dsimp only at h ⊢
          rw [h] at he
          exact he
        · rw [wrap_nat x (by omega)]
      · conv => whnf
        unfold lookM
        rename_i hf0
        rw [hf0]
        cases ok with
        | false => rw [cond_false, hno rfl]
        | true =>
          have : x = l.length := by simp at hf; omega
          rw [cond_false, (hok rfl).1, this, List.drop_length, lookL]
end Rk
