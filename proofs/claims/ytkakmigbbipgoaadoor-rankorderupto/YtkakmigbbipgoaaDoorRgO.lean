/- Reading a key: the program's function, and the document's. -/
import Derived.Test.YtkakmigbbipgoaaDoorRgN
open Go Go.Proofs Ax
namespace Rk

theorem beN8_lt (s : List UInt8) : beN (s.take 8) < 18446744073709551616 := by
  have := beN_lt (s.take 8)
  have h2 : (s.take 8).length ≤ 8 := by simp; omega
  have : 256 ^ (s.take 8).length ≤ 256 ^ 8 := Nat.pow_le_pow_right (by decide) h2
  omega
theorem xor_off (m : Nat) (hm : m < 18446744073709551616) :
    IntKind.i64.wrap (IntKind.u64.wrap (((BitVec.ofInt IntKind.u64.bits (m : Int) ^^^ BitVec.ofInt IntKind.u64.bits (9223372036854775808 : Int)).toNat : Nat) : Int)) = offI m := by
  have h1 : (BitVec.ofInt IntKind.u64.bits (m : Int)).toNat = m := by
    rw [BitVec.toNat_ofInt]; simp only [IntKind.bits]; omega
  have h2 : (BitVec.ofInt IntKind.u64.bits (9223372036854775808 : Int)).toNat = 9223372036854775808 := rfl
  rw [BitVec.toNat_xor, h1, h2, xor_add _ hm]
  unfold offI
  simp only [IntKind.wrap, IntKind.bits, IntKind.signed]
  simp
  split <;> omega
theorem sub_off (m : Nat) (hm : m < 18446744073709551616) : IntKind.i64.wrap (IntKind.u64.wrap ((m : Int) - (9223372036854775808 : Int))) = offI m := by
  unfold offI
  simp only [IntKind.wrap, IntKind.bits, IntKind.signed]
  simp
  split <;> omega

theorem wrap_pred (d : Nat) (h : d ≤ 1000) : IntKind.i64.wrap ((d : Int) - 1) = (d : Int) - 1 := wrapS _ (by omega) (by omega)

theorem F19_eq : ∀ (d n : Nat) (s : List UInt8), d ≤ 100 → s.length ≤ 1073741824 → s.length + 2 * d + 20 ≤ n → ∃ x, F19 n s ((d : Int) - 1) = some x ∧ Ans x (rd d s) := by
  intro d
  induction d with
  | zero =>
    intro n s _ _ hn
    obtain ⟨n, rfl⟩ : ∃ j, n = j + 1 := ⟨n - 1, by omega⟩
    refine ⟨(nullV, [], false), ?_, rfl⟩
    show BF19 n (F19 n) (F38 n) s _ = _
    unfold BF19
    have : (bif s == ([] : List UInt8) then true else decide (((0 : Nat) : Int) - 1 < 0)) = true := by cases s <;> rfl
    rw [this]
    rfl
  | succ d ih =>
    intro n s hd hs hn
    obtain ⟨n, rfl⟩ : ∃ j, n = j + 2 := ⟨n - 2, by omega⟩
    have ed : ((d + 1 : Nat) : Int) - 1 = (d : Int) := by omega
    rw [ed]
    show ∃ x, BF19 (n + 1) (F19 (n + 1)) (F38 (n + 1)) s _ = some x ∧ _
    have h38 : ∀ (r : List UInt8) (k : Int), F38 (n + 1) r (d : Int) k false 0 [] = loopK (F38_l1 n k (F19 n) (d : Int) false 0 []) n (r, [], []) := fun _ _ => rfl
    generalize F38 (n + 1) = g38 at h38 ⊢
    generalize F19 (n + 1) = g19
    unfold BF19
    cases s with
    | nil => exact ⟨(nullV, [], false), rfl, rfl⟩
    | cons m s =>
      simp only [List.length_cons] at hs hn
      have d0 : decide ((d : Int) < 0) = false := by simp
      simp only [nil_beq, d0, cond_false, idx_zero, List.getElem?_cons_zero, bnd_eq]
      rw [chk_of _ (by simp), rd_cons, show List.drop 1 (m :: s) = s from rfl]
      by_cases m8 : m = 8
      · subst m8; exact ⟨(nullV, s, true), rfl, rfl⟩
      rw [show (((m.toNat : Nat) : Int) == 8) = false from byteI_ne m8, if_neg m8, cond_false]
      by_cases m6 : m = 6
      · subst m6
        have e : ((((6 : UInt8).toNat : Nat) : Int) == 6) = true := rfl
        rw [e, cond_true, if_pos rfl]
        cases s with
        | nil => exact ⟨(nullV, [], false), rfl, rfl⟩
        | cons b r =>
          simp only [nil_beq, Bool.not_false, gsome_t, idx_zero, List.getElem?_cons_zero, bnd_eq, cond_false]
          by_cases hb : b.toNat ≤ 1
          · have e1 : decide (((b.toNat : Nat) : Int) > 1) = false := by simp; omega
            rw [e1, cond_false, chk_of _ (by simp), if_pos hb]
            refine ⟨_, rfl, ?_⟩
            have : (((b.toNat : Nat) : Int) == 1) = (b == 1) := by
              by_cases h1 : b = 1
              · subst h1; rfl
              · rw [show (((b.toNat : Nat) : Int) == 1) = false from byteI_ne h1]
                simp [h1]
            simp only [Ans, this]
            rfl
          · have e1 : decide (((b.toNat : Nat) : Int) > 1) = true := by simp; omega
            rw [e1, cond_true, if_neg hb]
            exact ⟨(nullV, [], false), rfl, rfl⟩
      rw [show (((m.toNat : Nat) : Int) == 6) = false from byteI_ne m6, if_neg m6, cond_false]
      have hbe := beN8_lt s
      by_cases m7 : m = 7
      · subst m7
        have e : ((((7 : UInt8).toNat : Nat) : Int) == 7) = true := rfl
        simp only [e, cond_true, if_true]
        unfold F19_k1
        simp only [cond_true]
        rw [show List.drop 1 ((7 : UInt8) :: s) = s from rfl, F36_eq _ _ (by omega)]
        by_cases h8 : s.length < 8
        · simp only [h8, if_true, bnd_eq, e, cond_true]
          exact ⟨_, rfl, rfl⟩
        · simp only [h8, if_false, bnd_eq, e, cond_true]
          refine ⟨_, rfl, ?_⟩
          simp only [Ans]
          rw [xor_off _ hbe]
      rw [show (((m.toNat : Nat) : Int) == 7) = false from byteI_ne m7, if_neg m7, cond_false]
      by_cases m2 : m = 2
      · subst m2
        have e : ((((2 : UInt8).toNat : Nat) : Int) == 2) = true := rfl
        have e7 : ((((2 : UInt8).toNat : Nat) : Int) == 7) = false := rfl
        simp only [e, cond_true, if_true]
        unfold F19_k1
        simp only [cond_true]
        rw [show List.drop 1 ((2 : UInt8) :: s) = s from rfl, F36_eq _ _ (by omega)]
        by_cases h8 : s.length < 8
        · simp only [h8, if_true, bnd_eq, e, e7, cond_true, cond_false]
          exact ⟨_, rfl, rfl⟩
        · simp only [h8, if_false, bnd_eq, e, e7, cond_true, cond_false]
          exact ⟨_, rfl, rfl⟩
      rw [show (((m.toNat : Nat) : Int) == 2) = false from byteI_ne m2, if_neg m2, cond_false]
      unfold F19_k1
      by_cases m3 : m = 3
      · subst m3
        have e : ((((3 : UInt8).toNat : Nat) : Int) == 3) = true := rfl
        have e7 : ((((3 : UInt8).toNat : Nat) : Int) == 7) = false := rfl
        have e2 : ((((3 : UInt8).toNat : Nat) : Int) == 2) = false := rfl
        simp only [e, cond_true, if_true]
        rw [show List.drop 1 ((3 : UInt8) :: s) = s from rfl, F36_eq _ _ (by omega)]
        by_cases h8 : s.length < 8
        · simp only [h8, if_true, bnd_eq, e2, e7, cond_false]
          exact ⟨_, rfl, rfl⟩
        · simp only [h8, if_false, bnd_eq, e2, e7, cond_false]
          exact ⟨_, rfl, rfl⟩
      simp only [show (((m.toNat : Nat) : Int) == 3) = false from byteI_ne m3, if_neg m3, cond_false]
      rw [show List.drop 1 (m :: s) = s from rfl]
      by_cases m5 : m = 5
      · subst m5
        have e : ((((5 : UInt8).toNat : Nat) : Int) == 5) = true := rfl
        simp only [e, cond_true, if_true]
        rw [F37_eq _ s (by omega) (by omega)]
        cases txt s with
        | none => exact ⟨_, rfl, rfl⟩
        | some x => exact ⟨_, rfl, rfl⟩
      rw [show (((m.toNat : Nat) : Int) == 5) = false from byteI_ne m5, if_neg m5, cond_false]
      have hw := wrap_pred d (by omega)
      have hg : ∀ r : List UInt8, r.length ≤ s.length → ∃ x, F19 n r ((d : Int) - 1) = some x ∧ Ans x (rd d r) := fun r hr => ih n r (by omega) (by omega) (by omega)
      by_cases m4 : m = 4
      · subst m4
        have e : ((((4 : UInt8).toNat : Nat) : Int) == 4) = true := rfl
        simp only [e, cond_true, if_true]
        rw [h38, F38_list (n := n) (L := s.length) (by omega) hw (rd_eats d) hg n (s.length + 1) s [] (by omega) (by omega) (by simp)]
        cases rdL (rd d) (s.length + 1) s [] with
        | none => exact ⟨_, rfl, rfl⟩
        | some x => exact ⟨_, rfl, rfl⟩
      rw [show (((m.toNat : Nat) : Int) == 4) = false from byteI_ne m4, if_neg m4, cond_false]
      by_cases m1 : m = 1
      · subst m1
        have e : ((((1 : UInt8).toNat : Nat) : Int) == 1) = true := rfl
        simp only [e, cond_true, if_true]
        rw [h38, F38_map (n := n) (L := s.length) (by omega) (by omega) hw (rd_eats d) hg n (s.length + 1) s [] [] (by omega) (by omega) (by simp) rfl]
        cases rdK (rd d) (s.length + 1) s [] [] with
        | none => exact ⟨_, rfl, rfl⟩
        | some x => exact ⟨_, rfl, rfl⟩
      rw [show (((m.toNat : Nat) : Int) == 1) = false from byteI_ne m1, if_neg m1, cond_false]
      exact ⟨_, rfl, rfl⟩

/-! ### The document's -/
abbrev AnsR (s : List UInt8) (x : Val × Int × Bool) (o : Option (Val × List UInt8)) : Prop := match o with
  | some y => x = (y.1, ((s.length - y.2.length : Nat) : Int), true)
  | none => x.2.2 = false

/-- What is left of an end is an end. -/
theorem suffix_drop {s r : List UInt8} {i : Nat} {p : List UInt8} (h : s.drop i = p ++ r) (hi : i ≤ s.length) : r = s.drop (s.length - r.length) ∧ s.length - r.length = i + p.length ∧ r.length + (i + p.length) = s.length := by
  have hl := congrArg List.length h
  simp only [List.length_drop, List.length_append] at hl
  have e : s.length - r.length = i + p.length := by omega
  refine ⟨?_, e, by omega⟩
  rw [e, ← List.drop_drop, h]
  simp

section
variable {n : Nat} {g : List UInt8 → Int → Int → Option (Val × Int × Bool)} {deep : Int} {f : List UInt8 → Option (Val × List UInt8)} {s : List UInt8}

theorem F20_list (hL : s.length ≤ 1073741824) (hw : IntKind.i64.wrap (deep - 1) = deep - 1) (hf : Eats f) (hg : ∀ i : Nat, i ≤ s.length → ∃ x, g s (i : Int) (deep - 1) = some x ∧ AnsR s x (f (s.drop i))) :
    ∀ (k k' i : Nat) (acc : List Val), s.length - i < k → s.length - i < k' → i ≤ s.length → acc.length ≤ i →
      ∃ x, loopK (F20_l1 n s 4 4 g deep) k ((i : Int), acc, []) = some x ∧ (match rdL f k' (s.drop i) acc with | some y => x = (.mk 4 false 0 [] y.1 [], ((s.length - y.2.length : Nat) : Int), true) | none => x.2.2 = false) := by
  intro k
  induction k with
  | zero => intro k' i acc h; omega
  | succ k ih =>
    intro k' i acc hk hk' hi ha
    obtain ⟨k', rfl⟩ : ∃ j, k' = j + 1 := ⟨k' - 1, by omega⟩
    rw [loopK_succ]
    generalize loopK (F20_l1 n s 4 4 g deep) k = nx at ih ⊢
    unfold F20_l1
    dsimp only
    have w1 : IntKind.i64.wrap ((i : Int) + 1) = ((i + 1 : Nat) : Int) := wrap_nat _ (by omega)
    simp only [idx_nat, w1]
    rcases Nat.lt_or_ge i s.length with hlt | hge
    · have dl : decide ((i : Int) < (s.length : Int)) = true := by simp; omega
      obtain ⟨b, hb⟩ : ∃ b, s[i]? = some b := ⟨_, List.getElem?_eq_getElem hlt⟩
      have e1 := drop_cons hb
      simp only [dl, gsome_t, hb, bnd_eq, cond_true]
      rw [e1, rdL]
      by_cases hb0 : b = 0
      · subst hb0
        have e : ((((0 : UInt8).toNat : Nat) : Int) != 0) = false := rfl
        simp only [e, cond_false, if_true]
        refine ⟨_, rfl, ?_⟩
        have : s.length - (s.drop (i + 1)).length = i + 1 := by simp; omega
        simp only [this]
      · have e : (((b.toNat : Nat) : Int) != 0) = true := by have : (((b.toNat : Nat) : Int) == 0) = false := byteI_ne hb0; simp [bne, this]
        have e5 : ((((4 : UInt8).toNat : Nat) : Int) == 1) = false := rfl
        simp only [e, cond_true, e5, cond_false, if_neg hb0]
        unfold F20_k5
        dsimp only
        rw [hw, ← e1]
        obtain ⟨x, hx, hans⟩ := hg i hi
        rw [hx]
        cases ho : f (s.drop i) with
        | none =>
          rw [ho] at hans
          obtain ⟨⟨k1, b1, i1, s1, l1, ks1⟩, r1, ok⟩ := x
          simp only [AnsR] at hans
          subst hans
          exact ⟨_, rfl, rfl⟩
        | some y =>
          rw [ho] at hans
          simp only [AnsR] at hans
          subst hans
          obtain ⟨⟨k1, b1, i1, s1, l1, ks1⟩, r1⟩ := y
          obtain ⟨p, hp, hp0⟩ := hf _ _ _ ho
          have hpl : 0 < p.length := List.length_pos_iff.2 hp0
          obtain ⟨er, el, el2⟩ := suffix_drop hp hi
          simp only [bnd_eq, Bool.not_true, cond_false]
          rw [chk_of _ (by simp; omega)]
          have := ih k' (s.length - r1.length) (acc ++ [.mk k1 b1 i1 s1 l1 ks1]) (by omega) (by omega) (by omega) (by simp; omega)
          rw [← er] at this
          exact this
    · have dl : decide ((i : Int) < (s.length : Int)) = false := by simp; omega
      simp only [dl, gsome_f, bnd_eq, cond_false]
      rw [List.drop_eq_nil_of_le hge]
      exact ⟨_, rfl, rfl⟩

theorem F20_map (hL : s.length ≤ 1073741824) (hn : s.length < n) (hw : IntKind.i64.wrap (deep - 1) = deep - 1) (hf : Eats f) (hg : ∀ i : Nat, i ≤ s.length → ∃ x, g s (i : Int) (deep - 1) = some x ∧ AnsR s x (f (s.drop i))) :
    ∀ (k k' i : Nat) (acc : List Val) (ks : List (List UInt8)), s.length - i < k → s.length - i < k' → i ≤ s.length → acc.length ≤ i → ks.length = acc.length →
      ∃ x, loopK (F20_l1 n s 1 5 g deep) k ((i : Int), acc, ks) = some x ∧ (match rdK f k' (s.drop i) acc ks with | some y => x = (.mk 5 false 0 [] y.1 y.2.1, ((s.length - y.2.2.length : Nat) : Int), true) | none => x.2.2 = false) := by
  intro k
  induction k with
  | zero => intro k' i acc ks h; omega
  | succ k ih =>
    intro k' i acc ks hk hk' hi ha hkl
    obtain ⟨k', rfl⟩ : ∃ j, k' = j + 1 := ⟨k' - 1, by omega⟩
    rw [loopK_succ]
    generalize loopK (F20_l1 n s 1 5 g deep) k = nx at ih ⊢
    unfold F20_l1
    dsimp only
    have w1 : IntKind.i64.wrap ((i : Int) + 1) = ((i + 1 : Nat) : Int) := wrap_nat _ (by omega)
    simp only [idx_nat, w1]
    rcases Nat.lt_or_ge i s.length with hlt | hge
    · have dl : decide ((i : Int) < (s.length : Int)) = true := by simp; omega
      obtain ⟨b, hb⟩ : ∃ b, s[i]? = some b := ⟨_, List.getElem?_eq_getElem hlt⟩
      have e1 := drop_cons hb
      simp only [dl, gsome_t, hb, bnd_eq, cond_true]
      rw [e1, rdK]
      by_cases hb0 : b = 0
      · subst hb0
        have e : ((((0 : UInt8).toNat : Nat) : Int) != 0) = false := rfl
        simp only [e, cond_false, if_true]
        refine ⟨_, rfl, ?_⟩
        have : s.length - (s.drop (i + 1)).length = i + 1 := by simp; omega
        simp only [this]
      · have e : (((b.toNat : Nat) : Int) != 0) = true := by have : (((b.toNat : Nat) : Int) == 0) = false := byteI_ne hb0; simp [bne, this]
        have e5 : ((((1 : UInt8).toNat : Nat) : Int) == 1) = true := rfl
        simp only [e, cond_true, e5, if_neg hb0]
        rw [F40_eq n s (i + 1) hn hL (by omega)]
        cases ht : txt (s.drop (i + 1)) with
        | none =>
          simp only [txtE, bnd_eq, Bool.not_false]
          refine ⟨_, by rw [Bool.cond_true_right]; simp only [Bool.or_true, cond_true]; rfl, ?_⟩
          split
          · rename_i y hy
            split at hy
            · cases hy
            · cases hy
          · rfl
        | some y =>
          obtain ⟨key, r⟩ := y
          have htl := txt_len ht
          obtain ⟨o, ho1, ho0⟩ := txt_suffix ht
          obtain ⟨er0, el0, el02⟩ := suffix_drop ho1 (by omega)
          simp only [txtE, List.nil_append, bnd_eq, Bool.not_true]
          by_cases hb1 : b = 1
          · subst hb1
            have e1' : ((((1 : UInt8).toNat : Nat) : Int) != 1) = false := rfl
            simp only [e1', cond_false, if_true]
            rw [chk_of _ (by simp [strs_length]; omega)]
            unfold F20_k5
            dsimp only
            rw [hw]
            obtain ⟨x, hx, hans⟩ := hg (s.length - r.length) (by omega)
            rw [hx]
            rw [← er0] at hans
            cases ho : f r with
            | none =>
              rw [ho] at hans
              obtain ⟨⟨k1, b1, i1, s1, l1, ks1⟩, r1, ok⟩ := x
              simp only [AnsR] at hans
              subst hans
              exact ⟨_, rfl, rfl⟩
            | some y =>
              rw [ho] at hans
              simp only [AnsR] at hans
              subst hans
              obtain ⟨⟨k1, b1, i1, s1, l1, ks1⟩, r1⟩ := y
              obtain ⟨p, hp, hp0⟩ := hf _ _ _ ho
              have hpl : 0 < p.length := List.length_pos_iff.2 hp0
              rw [er0] at hp
              obtain ⟨er, el, el2⟩ := suffix_drop hp (by omega)
              simp only [bnd_eq, Bool.not_true, cond_false]
              rw [chk_of _ (by simp; omega)]
              have := ih k' (s.length - r1.length) (acc ++ [.mk k1 b1 i1 s1 l1 ks1]) (ks ++ [key]) (by omega) (by omega) (by omega) (by simp; omega) (by simp [hkl])
              rw [← er] at this
              exact this
          · have e1' : (((b.toNat : Nat) : Int) != 1) = true := by have : (((b.toNat : Nat) : Int) == 1) = false := byteI_ne hb1; simp [bne, this]
            simp only [e1', cond_true, if_neg hb1]
            exact ⟨_, rfl, rfl⟩
    · have dl : decide ((i : Int) < (s.length : Int)) = false := by simp; omega
      simp only [dl, gsome_f, bnd_eq, cond_false]
      rw [List.drop_eq_nil_of_le hge]
      exact ⟨_, rfl, rfl⟩
end
end Rk
