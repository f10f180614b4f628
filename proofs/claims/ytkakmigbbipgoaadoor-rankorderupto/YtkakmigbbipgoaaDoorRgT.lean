/- A key tells its value, and no other text does; RankBack, RankAhead. -/
import Derived.Test.YtkakmigbbipgoaaDoorRgS
open Go Go.Proofs Ax
namespace Rk

theorem lay_head (v : Val) : ∃ m t, layM v = m :: t ∧ m ≠ 0 := by
  obtain ⟨k, b, i, s, l, ks⟩ := v
  unfold layM
  cases k == 1 <;> cases k == 2 <;> cases k == 3 <;> cases k == 6 <;> cases k == 7 <;> cases k == 4 <;> cases k == 5 <;> exact ⟨_, _, rfl, by decide⟩

theorem rdL_cons {f : List UInt8 → Option (Val × List UInt8)} {k : Nat} {b : UInt8} {s : List UInt8} {acc : List Val} (hb : b ≠ 0) {x : Val × List UInt8} (h : f (b :: s) = some x) : rdL f (k + 1) (b :: s) acc = rdL f k x.2 (acc ++ [x.1]) := by
  rw [rdL, if_neg hb, h]

mutual
theorem rd_lay : ∀ (v : Val) (r : List UInt8) (d : Nat), right v = true → range64 v = true → depth v ≤ d → rd d (layM v ++ r) = some (v, r)
  | .mk k b i s l ks, r, d, hr, hi, hd => by
    simp only [right, Bool.and_eq_true] at hr
    simp only [range64, Bool.and_eq_true] at hi
    simp only [depth] at hd
    obtain ⟨d, rfl⟩ : ∃ j, d = j + 1 := ⟨d - 1, by omega⟩
    have ih := rd_layL l
    have ihk := rd_layK l
    rcases good_shape hr.1 with ⟨rfl, rfl, rfl, rfl, rfl, rfl⟩ | ⟨rfl, rfl, rfl, rfl, rfl⟩ | ⟨rfl, rfl, rfl, rfl, rfl⟩ | ⟨rfl, rfl, rfl, rfl, rfl⟩ | ⟨rfl, rfl, rfl, rfl, rfl⟩ | ⟨rfl, rfl, rfl, rfl, hkl, _⟩ | ⟨rfl, rfl, rfl, rfl, rfl, _⟩ | ⟨rfl, rfl, rfl, rfl, rfl, _⟩
    · rfl
    · cases b <;> rfl
    · have e : layM (.mk 2 false i [] [] []) ++ r = 7 :: (eightL (bits64 i ^^^ 9223372036854775808) ++ r) := rfl
      rw [e, rd_cons, if_neg (by decide), if_neg (by decide), if_pos rfl, if_neg (by simp [eight_length]), List.take_left' (eight_length _), List.drop_left' (eight_length _), beN_eight _ (off_lt i), off_back i hi.1]
    · have e : layM (.mk 3 false 0 s [] []) ++ r = 5 :: (endedM s ++ r) := rfl
      rw [e, rd_cons, if_neg (by decide), if_neg (by decide), if_neg (by decide), if_neg (by decide), if_neg (by decide), if_pos rfl, txt_ended]
      rfl
    · have e : layM (.mk 4 false 0 [] l []) ++ r = 4 :: (layL l ++ 0 :: r) := by
        show (4 :: layL l ++ [0]) ++ r = _
        simp
      rw [e, rd_4, ih r [] d _ hr.2 hi.2 (by omega) (by simp)]
      rfl
    · have e : layM (.mk 5 false 0 [] l ks) ++ r = 1 :: (layK l ks ++ 0 :: r) := by
        show (1 :: layK l ks ++ [0]) ++ r = _
        simp
      rw [e, rd_1, ihk ks r [] [] d _ hr.2 hi.2 hkl (by omega) (by simp)]
      rfl
    · have e : layM (.mk 6 false i [] [] []) ++ r = 2 :: (eightL (bits64 i) ++ r) := rfl
      rw [e, rd_cons, if_neg (by decide), if_neg (by decide), if_neg (by decide), if_pos rfl, if_neg (by simp [eight_length]), List.take_left' (eight_length _), List.drop_left' (eight_length _), beN_eight _ (bits64_lt i), bits_back i hi.1]
    · have e : layM (.mk 7 false i [] [] []) ++ r = 3 :: (eightL (bits64 i) ++ r) := rfl
      rw [e, rd_cons, if_neg (by decide), if_neg (by decide), if_neg (by decide), if_neg (by decide), if_pos rfl, if_neg (by simp [eight_length]), List.take_left' (eight_length _), List.drop_left' (eight_length _), beN_eight _ (bits64_lt i), bits_back i hi.1]
theorem rd_layL : ∀ (l : List Val) (r : List UInt8) (acc : List Val) (d k : Nat), rightL l = true → range64L l = true → depthL l ≤ d → (layL l ++ 0 :: r).length < k → rdL (rd d) k (layL l ++ 0 :: r) acc = some (acc ++ l, r)
  | [], r, acc, d, k, _, _, _, hk => by
    obtain ⟨k, rfl⟩ : ∃ j, k = j + 1 := ⟨k - 1, by omega⟩
    simp [layL, rdL]
  | v :: l, r, acc, d, k, hr, hi, hd, hk => by
    obtain ⟨k, rfl⟩ : ∃ j, k = j + 1 := ⟨k - 1, by omega⟩
    simp only [rightL, Bool.and_eq_true] at hr
    simp only [range64L, Bool.and_eq_true] at hi
    simp only [depthL] at hd
    have h1 := rd_lay v (layL l ++ 0 :: r) d hr.1 hi.1 (by omega)
    obtain ⟨m, t, hm, hm0⟩ := lay_head v
    have e : layL (v :: l) ++ 0 :: r = m :: (t ++ (layL l ++ 0 :: r)) := by simp [layL, hm]
    rw [hm, List.cons_append] at h1
    simp only [layL, List.length_append, List.length_cons, hm] at hk
    rw [e, rdL_cons hm0 h1, rd_layL l r _ d k hr.2 hi.2 (by omega) (by simp; omega)]
    simp
theorem rd_layK : ∀ (l : List Val) (ks : List (List UInt8)) (r : List UInt8) (acc : List Val) (ka : List (List UInt8)) (d k : Nat), rightL l = true → range64L l = true → ks.length = l.length → depthL l ≤ d → (layK l ks ++ 0 :: r).length < k →
    rdK (rd d) k (layK l ks ++ 0 :: r) acc ka = some (acc ++ l, ka ++ ks, r)
  | [], ks, r, acc, ka, d, k, _, _, hl, _, hk => by
    obtain ⟨k, rfl⟩ : ∃ j, k = j + 1 := ⟨k - 1, by omega⟩
    have : ks = [] := List.length_eq_zero_iff.1 hl
    subst this
    simp [layK, rdK]
  | v :: l, [], r, acc, ka, d, k, _, _, hl, _, _ => by cases hl
  | v :: l, key :: ks, r, acc, ka, d, k, hr, hi, hl, hd, hk => by
    obtain ⟨k, rfl⟩ : ∃ j, k = j + 1 := ⟨k - 1, by omega⟩
    simp only [rightL, Bool.and_eq_true] at hr
    simp only [range64L, Bool.and_eq_true] at hi
    simp only [depthL] at hd
    have h1 := rd_lay v (layK l ks ++ 0 :: r) d hr.1 hi.1 (by omega)
    have h2 := txt_ended key (layM v ++ (layK l ks ++ 0 :: r))
    have e : layK (v :: l) (key :: ks) ++ 0 :: r = 1 :: (endedM key ++ (layM v ++ (layK l ks ++ 0 :: r))) := by simp [layK]
    simp only [layK, List.length_append, List.length_cons] at hk
    rw [e, rdK, if_neg (by decide), if_pos rfl, h2]
    simp only
    rw [h1]
    simp only
    rw [rd_layK l ks r _ _ d k hr.2 hi.2 (by simpa using hl) (by omega) (by simp; omega)]
    simp
end

section
variable {f : List UInt8 → Option (Val × List UInt8)}
theorem layL_append (a b : List Val) : layL (a ++ b) = layL a ++ layL b := by
  induction a with
  | nil => rfl
  | cons v a ih => simp [layL, ih]
theorem lay_rdL (hf : ∀ s v r, f s = some (v, r) → s = layM v ++ r) : ∀ {k : Nat} {s : List UInt8} {acc l : List Val} {r : List UInt8}, rdL f k s acc = some (l, r) → ∃ m, l = acc ++ m ∧ s = layL m ++ 0 :: r
  | 0, _, _, _, _, h => by cases h
  | k + 1, [], _, _, _, h => by cases h
  | k + 1, b :: s, acc, l, r, h => by
    rw [rdL] at h
    split at h
    · rename_i hb; subst hb; cases h; exact ⟨[], by simp, by simp [layL]⟩
    · split at h
      · rename_i x hx
        obtain ⟨m, hm, hs⟩ := lay_rdL hf h
        refine ⟨x.1 :: m, by rw [hm]; simp, ?_⟩
        rw [hf _ _ _ hx, hs]
        simp [layL]
      · cases h
theorem lay_rdK (hf : ∀ s v r, f s = some (v, r) → s = layM v ++ r) : ∀ {k : Nat} {s : List UInt8} {acc l : List Val} {ks ks' : List (List UInt8)} {r : List UInt8}, rdK f k s acc ks = some (l, ks', r) →
    ∃ m mk, l = acc ++ m ∧ ks' = ks ++ mk ∧ s = layK m mk ++ 0 :: r
  | 0, _, _, _, _, _, _, h => by cases h
  | k + 1, [], _, _, _, _, _, h => by cases h
  | k + 1, b :: s, acc, l, ks, ks', r, h => by
    rw [rdK] at h
    split at h
    · rename_i hb; subst hb; cases h; exact ⟨[], [], by simp, by simp, by simp [layK]⟩
    · split at h
      · rename_i hb1
        subst hb1
        split at h
        · rename_i y hy
          split at h
          · rename_i x hx
            obtain ⟨m, mk, hm, hmk, hs⟩ := lay_rdK hf h
            refine ⟨x.1 :: m, y.1 :: mk, by rw [hm]; simp, by rw [hmk]; simp, ?_⟩
            rw [ended_txt hy, hf _ _ _ hx, hs]
            simp [layK]
          · cases h
        · cases h
      · cases h
end

theorem bits_wrap (m : Nat) (hm : m < 18446744073709551616) : bits64 (IntKind.i64.wrap (m : Int)) = m := by
  unfold bits64
  simp only [IntKind.wrap, IntKind.bits, IntKind.signed]
  simp
  split <;> omega
theorem off_bits (m : Nat) (hm : m < 18446744073709551616) : bits64 (offI m) ^^^ 9223372036854775808 = m := by
  rw [xor_add _ (bits64_lt _)]
  unfold offI bits64
  omega

theorem lay_rd : ∀ (d : Nat) (s : List UInt8) (v : Val) (r : List UInt8), rd d s = some (v, r) → s = layM v ++ r
  | 0, _, _, _, h => by cases h
  | d + 1, [], v, r, h => by cases h
  | d + 1, m :: s, v, r, h => by
    by_cases h4 : m = 4
    · subst h4
      rw [rd_4] at h
      cases h1 : rdL (rd d) (s.length + 1) s [] with
      | none => rw [h1] at h; cases h
      | some x =>
        rw [h1] at h
        obtain ⟨l, r'⟩ := x
        cases h
        obtain ⟨m, hm, hs⟩ := lay_rdL (lay_rd d) h1
        simp only [List.nil_append] at hm
        subst hm
        show 4 :: s = (4 :: layL l ++ [0]) ++ r'
        rw [hs]; simp
    by_cases h1 : m = 1
    · subst h1
      rw [rd_1] at h
      cases h1 : rdK (rd d) (s.length + 1) s [] [] with
      | none => rw [h1] at h; cases h
      | some x =>
        rw [h1] at h
        obtain ⟨l, ks, r'⟩ := x
        cases h
        obtain ⟨m, mk, hm, hmk, hs⟩ := lay_rdK (lay_rd d) h1
        simp only [List.nil_append] at hm hmk
        subst hm hmk
        show 1 :: s = (1 :: layK l ks ++ [0]) ++ r'
        rw [hs]; simp
    rw [rd_cons] at h
    simp only [if_neg h4, if_neg h1] at h
    have h8 : ∀ s : List UInt8, ¬ s.length < 8 → (s.take 8).length = 8 := fun s h => by simp; omega
    split at h
    · rename_i hm; subst hm; cases h; rfl
    split at h
    · rename_i hm
      subst hm
      split at h
      · cases h
      · rename_i b r'
        split at h
        · rename_i hb
          cases h
          have : b = 0 ∨ b = 1 := by
            have : b.toNat = 0 ∨ b.toNat = 1 := by omega
            rcases this with h | h
            · exact .inl (UInt8.toNat.inj h)
            · exact .inr (UInt8.toNat.inj h)
          rcases this with rfl | rfl <;> rfl
        · cases h
    split at h
    · rename_i hm
      subst hm
      split at h
      · cases h
      · rename_i hl
        cases h
        show 7 :: s = (7 :: eightL (bits64 (offI (beN (s.take 8))) ^^^ 9223372036854775808)) ++ s.drop 8
        rw [off_bits _ (beN8_lt s), eight_beN _ (h8 s hl)]
        simp
    split at h
    · rename_i hm
      subst hm
      split at h
      · cases h
      · rename_i hl
        cases h
        show 2 :: s = (2 :: eightL (bits64 (IntKind.i64.wrap (beN (s.take 8) : Nat)))) ++ s.drop 8
        rw [bits_wrap _ (beN8_lt s), eight_beN _ (h8 s hl)]
        simp
    split at h
    · rename_i hm
      subst hm
      split at h
      · cases h
      · rename_i hl
        cases h
        show 3 :: s = (3 :: eightL (bits64 (IntKind.i64.wrap (beN (s.take 8) : Nat)))) ++ s.drop 8
        rw [bits_wrap _ (beN8_lt s), eight_beN _ (h8 s hl)]
        simp
    split at h
    · rename_i hm
      subst hm
      cases h1 : txt s with
      | none => rw [h1] at h; cases h
      | some x =>
        rw [h1] at h
        cases h
        show 5 :: s = (5 :: endedM x.1) ++ x.2
        rw [ended_txt h1]
        simp
    · cases h

theorem F8_eq (n : Nat) (v : Val) (hv : v.big ≤ 4294967280) : F8 n v = some (bif mayV v then (layM v, 0) else ([], 20)) := by
  obtain ⟨k, b, i, s, l, ks⟩ := v
  unfold F8
  have h15 : F15 n (.mk k b i s l ks) = some (bif mayV (.mk k b i s l ks) then 0 else 20) := by
    unfold F15
    have : decide ((Val.mk k b i s l ks).big ≤ 1099511627776) = true := by simp; omega
    rw [this]; rfl
  simp only [h15, bnd_eq]
  cases hm : mayV (.mk k b i s l ks) with
  | false => rfl
  | true =>
    have h16 : F16 n (.mk k b i s l ks) = some (layM (.mk k b i s l ks)) := by
      unfold F16 layF
      have h1 : decide ((Val.mk k b i s l ks).big ≤ 4294967280) = true := by simp; omega
      rw [h1, lookM_keyed _ 32 0 hm]; rfl
    simp [h16]

theorem back_lay (v : Val) (r : List UInt8) (hm : mayV v = true) (hi : range64 v = true) : rd 33 (layM v ++ r) = some (v, r) :=
  rd_lay v r 33 (may_right v 32 0 hm) hi (by have := may_depth v 32 0 hm; omega)

theorem F5_k1_true (n : Nat) (s : List UInt8) (hs : s.length ≤ 1048576) (hn : 67108864 ≤ n) : F5_k1 n s () = some true := by
  unfold F5_k1
  rw [F11_eq n s (by omega) (by omega)]
  have hb : (backM s).2 = 0 ∧ mayV (backM s).1 = true ∧ layM (backM s).1 = s ∧ (backM s).1.big ≤ 1048577 ∨ backM s = (nullV, 1) := by
    unfold backM
    split
    · rename_i v ho
      cases hm : mayV v
      · exact .inr rfl
      · have h1 := rd_big _ _ _ _ ho
        have h2 := lay_rd _ _ _ _ ho
        exact .inl ⟨rfl, hm, by simpa using h2.symm, by simp at h1; simp only [cond_true]; omega⟩
    · exact .inr rfl
  rcases hb with ⟨h1, h2, h3, h4⟩ | h
  · generalize backM s = z at *
    obtain ⟨⟨k, b, i, t, l, ks⟩, e⟩ := z
    simp only at h1 h2 h3 h4
    subst h1
    simp only [bnd_eq]
    rw [F8_eq n _ (by omega), h2, F10_eq n (by omega)]
    simp [h3]
  · rw [h]
    simp only [bnd_eq]
    have : F13 n nullV nullV = some true := F13_refl 1 n nullV (by decide) (by decide) (by omega)
    simp only [nullV] at this
    simp [this, F10_eq n (by omega)]

/-- RankBack. -/
theorem F5_true (n : Nat) (v : Val) (s : List UInt8) (hv : v.big ≤ 1048576) (hi : range64 v = true) (hs : s.length ≤ 1048576) (hn : 67108864 ≤ n) : F5 n v s = some true := by
  have hk := F5_k1_true n s hs hn
  obtain ⟨k, b, i, t, l, ks⟩ := v
  unfold F5
  simp only
  rw [F8_eq n _ (by omega)]
  cases hm : mayV (.mk k b i t l ks) with
  | false => exact hk
  | true =>
    have hll := layM_length (.mk k b i t l ks)
    have hbk := back_lay _ [] hm hi
    rw [List.append_nil] at hbk
    have e : backM (layM (.mk k b i t l ks)) = (.mk k b i t l ks, 0) := by unfold backM; rw [hbk]; simp [hm]
    simp only [cond_true, bnd_eq, beq_self_eq_true]
    rw [F11_eq n _ (by omega) (by omega), e]
    simp only [bnd_eq]
    rw [F13_refl 1048576 n _ hv (by omega) (by omega)]
    exact hk

/-- RankAhead. -/
theorem F6_true (n : Nat) (a b : Val) (more : List UInt8) (ha : a.big ≤ 1048576) (hia : range64 a = true) (hb : b.big ≤ 1048576) (hib : range64 b = true) (hs : more.length ≤ 1048576) (hn : 67108864 ≤ n) : F6 n a b more = some true := by
  obtain ⟨k, b1, i, t, l, ks⟩ := a
  obtain ⟨k', b', i', t', l', ks'⟩ := b
  unfold F6
  simp only
  rw [F8_eq n _ (by omega), F8_eq n _ (by omega)]
  generalize hva : Val.mk k b1 i t l ks = a at *
  generalize hvb : Val.mk k' b' i' t' l' ks' = b at *
  have f10 := F10_eq n (by omega)
  cases hm : mayV a with
  | false => simp [f10]
  | true =>
    cases hm' : mayV b with
    | false => simp [f10]
    | true =>
      have hla := layM_length a
      have hlb := layM_length b
      have h1 := back_lay a more hm hia
      have h2 := back_lay b [] hm' hib
      rw [List.append_nil] at h2
      have pre : (bif (decide (((layM a).length : Int) < ((layM b).length : Int))) then (((layM b).take (layM a).length) == layM a) else false) = false := by
        cases hd : decide (((layM a).length : Int) < ((layM b).length : Int)) with
        | false => rfl
        | true =>
          simp only [cond_true]
          cases he : ((layM b).take (layM a).length) == layM a with
          | false => rfl
          | true =>
            have he' : (layM b).take (layM a).length = layM a := by simpa using he
            have hb2 : layM b = layM a ++ (layM b).drop (layM a).length := by
              conv => lhs; rw [← List.take_append_drop (layM a).length (layM b), he']
            have h3 := back_lay a ((layM b).drop (layM a).length) hm hia
            rw [← hb2, h2] at h3
            simp only [Option.some.injEq, Prod.mk.injEq] at h3
            rw [h3.1] at hd
            simp at hd
      have fin : (backM (layM a ++ more)).2 = 0 ↔ more = [] := by
        unfold backM
        rw [h1]
        cases more with
        | nil => simp [hm]
        | cons c m => simp
      simp only [cond_true, bnd_eq, natI_nat]
      have hz : ((0 : Int) != 0) = false := rfl
      simp only [hz, cond_false]
      have gn : gsome (decide (((layM a).length : Int) < ((layM b).length : Int))) (some (layM a).length) = some (bif decide (((layM a).length : Int) < ((layM b).length : Int)) then (layM a).length else default) := by
        cases decide (((layM a).length : Int) < ((layM b).length : Int)) <;> rfl
      rw [gn, bnd_eq]
      rw [chk_of _ (by
        cases hd : decide (((layM a).length : Int) < ((layM b).length : Int)) with
        | false => rfl
        | true => simp at hd ⊢; omega)]
      have pre2 : (bif (decide (((layM a).length : Int) < ((layM b).length : Int))) then (((layM b).take (bif decide (((layM a).length : Int) < ((layM b).length : Int)) then (layM a).length else default)) == layM a) else false) = false := by
        cases hd : decide (((layM a).length : Int) < ((layM b).length : Int)) with
        | false => rfl
        | true => rw [hd] at pre; exact pre
      rw [pre2, cond_false, chk_of _ (decide_eq_true (by unfold maxI; omega)), F11_eq n _ (by simp; omega) (by simp; omega)]
      generalize backM (layM a ++ more) = z at fin ⊢
      obtain ⟨⟨k2, b2, i2, t2, l2, ks2⟩, e⟩ := z
      simp only at fin
      simp only [bnd_eq]
      have : ((e == 0) == (more == ([] : List UInt8))) = true := by
        by_cases h : more = []
        · rw [h, fin.2 h]; rfl
        · have : ¬ e = 0 := fun x => h (fin.1 x)
          have e1 : (e == 0) = false := by simpa using this
          have e2 : (more == ([] : List UInt8)) = false := by simpa using h
          rw [e1, e2]; rfl
      rw [this, gsome_t, f10]
      rfl
end Rk
