/- Back, in both texts; RankReads. -/
import Derived.Test.YtkakmigbbipgoaaDoorRgO
open Go Go.Proofs Ax
namespace Rk

theorem F20_eq : ∀ (d n : Nat) (s : List UInt8) (i : Nat), d ≤ 100 → s.length ≤ 1073741824 → i ≤ s.length → s.length + 2 * d + 20 ≤ n → ∃ x, F20 n s (i : Int) (d : Int) = some x ∧ AnsR s x (rd d (s.drop i)) := by
  intro d
  induction d with
  | zero =>
    intro n s i _ _ _ hn
    obtain ⟨n, rfl⟩ : ∃ j, n = j + 1 := ⟨n - 1, by omega⟩
    refine ⟨(nullV, 0, false), ?_, rfl⟩
    show BF20 n (F20 n) s _ _ = _
    unfold BF20
    have : (bif decide ((i : Int) ≥ (s.length : Int)) then true else decide (((0 : Nat) : Int) < 1)) = true := by cases decide ((i : Int) ≥ (s.length : Int)) <;> rfl
    rw [this]
    rfl
  | succ d ih =>
    intro n s i hd hs hi hn
    obtain ⟨n, rfl⟩ : ∃ j, n = j + 1 := ⟨n - 1, by omega⟩
    show ∃ x, BF20 n (F20 n) s _ _ = some x ∧ _
    have ed : ((d + 1 : Nat) : Int) - 1 = (d : Int) := by omega
    have hw : IntKind.i64.wrap (((d + 1 : Nat) : Int) - 1) = ((d + 1 : Nat) : Int) - 1 := wrapS _ (by omega) (by omega)
    have hg : ∀ i : Nat, i ≤ s.length → ∃ x, F20 n s (i : Int) (((d + 1 : Nat) : Int) - 1) = some x ∧ AnsR s x (rd d (s.drop i)) := fun i hi => by
      rw [ed]; exact ih n s i (by omega) hs hi (by omega)
    have w1 : IntKind.i64.wrap ((i : Int) + 1) = ((i + 1 : Nat) : Int) := wrap_nat _ (by omega)
    generalize F20 n = g20 at hg ⊢
    unfold BF20
    have dd : decide (((d + 1 : Nat) : Int) < 1) = false := by simp; omega
    rcases Nat.lt_or_ge i s.length with hlt | hge
    · have dl : decide ((i : Int) ≥ (s.length : Int)) = false := by simp; omega
      obtain ⟨m, hm⟩ : ∃ m, s[i]? = some m := ⟨_, List.getElem?_eq_getElem hlt⟩
      rw [drop_cons hm, rd_cons]
      simp only [dl, dd, cond_false, idx_nat, hm, bnd_eq]
      have hl1 : (s.drop (i + 1)).length = s.length - (i + 1) := by simp
      have rest8 : s.length - ((s.drop (i + 1)).drop 8).length = i + 9 ∨ s.length < i + 9 := by simp; omega
      have w9 : IntKind.i64.wrap (((i + 1 : Nat) : Int) + 8) = ((i + 9 : Nat) : Int) := by rw [wrapS _ (by omega) (by omega)]; omega
      have hbe := beN8_lt (s.drop (i + 1))
      have h39 := F39_eq n s (i + 1) (by omega) hs (by omega)
      by_cases m2 : m = 2
      · subst m2
        have e : ((((2 : UInt8).toNat : Nat) : Int) == 2) = true := rfl
        have e7 : ((((2 : UInt8).toNat : Nat) : Int) == 7) = false := rfl
        simp only [e, cond_true]
        rw [if_neg (by decide), if_neg (by decide), if_neg (by decide), if_pos trivial]
        unfold F20_k6
        simp only [cond_true, w1, w9]
        rw [h39]
        by_cases h8 : i + 1 + 8 ≤ s.length
        · have n8 : ¬ (s.drop (i + 1)).length < 8 := by rw [hl1]; omega
          rw [if_pos h8, if_neg n8]
          simp only [bnd_eq, e7, cond_false]
          refine ⟨_, rfl, ?_⟩
          have : s.length - ((s.drop (i + 1)).drop 8).length = i + 9 := by rcases rest8 with h | h <;> omega
          simp only [AnsR, this]
          rfl
        · have n8 : (s.drop (i + 1)).length < 8 := by rw [hl1]; omega
          rw [if_neg h8, if_pos n8]
          simp only [bnd_eq, e7, cond_false]
          exact ⟨_, rfl, rfl⟩
      rw [show (((m.toNat : Nat) : Int) == 2) = false from byteI_ne m2, cond_false]
      by_cases m3 : m = 3
      · subst m3
        have e : ((((3 : UInt8).toNat : Nat) : Int) == 3) = true := rfl
        have e7 : ((((3 : UInt8).toNat : Nat) : Int) == 7) = false := rfl
        simp only [e, cond_true]
        rw [if_neg (by decide), if_neg (by decide), if_neg (by decide), if_neg (by decide), if_pos trivial]
        unfold F20_k6
        simp only [cond_true, w1, w9]
        rw [h39]
        by_cases h8 : i + 1 + 8 ≤ s.length
        · have n8 : ¬ (s.drop (i + 1)).length < 8 := by rw [hl1]; omega
          rw [if_pos h8, if_neg n8]
          simp only [bnd_eq, e7, cond_false]
          refine ⟨_, rfl, ?_⟩
          have : s.length - ((s.drop (i + 1)).drop 8).length = i + 9 := by rcases rest8 with h | h <;> omega
          simp only [AnsR, this]
          rfl
        · have n8 : (s.drop (i + 1)).length < 8 := by rw [hl1]; omega
          rw [if_neg h8, if_pos n8]
          simp only [bnd_eq, e7, cond_false]
          exact ⟨_, rfl, rfl⟩
      rw [show (((m.toNat : Nat) : Int) == 3) = false from byteI_ne m3, cond_false]
      unfold F20_k6
      by_cases m7 : m = 7
      · subst m7
        have e : ((((7 : UInt8).toNat : Nat) : Int) == 7) = true := rfl
        simp only [e, cond_true, w1, w9]
        rw [if_neg (by decide), if_neg (by decide), if_pos trivial, h39]
        by_cases h8 : i + 1 + 8 ≤ s.length
        · have n8 : ¬ (s.drop (i + 1)).length < 8 := by rw [hl1]; omega
          rw [if_pos h8, if_neg n8]
          simp only [bnd_eq]
          refine ⟨_, rfl, ?_⟩
          have : s.length - ((s.drop (i + 1)).drop 8).length = i + 9 := by rcases rest8 with h | h <;> omega
          simp only [AnsR, this]
          rw [sub_off _ hbe]
        · have n8 : (s.drop (i + 1)).length < 8 := by rw [hl1]; omega
          rw [if_neg h8, if_pos n8]
          simp only [bnd_eq]
          exact ⟨_, rfl, rfl⟩
      rw [show (((m.toNat : Nat) : Int) == 7) = false from byteI_ne m7]
      simp only [cond_false, w1, if_neg m2, if_neg m3, if_neg m7]
      by_cases m5 : m = 5
      · subst m5
        have e : ((((5 : UInt8).toNat : Nat) : Int) == 5) = true := rfl
        simp only [e, cond_true]
        rw [F40_eq n s (i + 1) (by omega) hs (by omega), if_neg (by decide), if_neg (by decide), if_pos trivial]
        cases txt (s.drop (i + 1)) with
        | none => exact ⟨_, rfl, rfl⟩
        | some x => exact ⟨_, rfl, rfl⟩
      rw [show (((m.toNat : Nat) : Int) == 5) = false from byteI_ne m5, cond_false, if_neg m5]
      by_cases m6 : m = 6
      · subst m6
        have e : ((((6 : UInt8).toNat : Nat) : Int) == 6) = true := rfl
        simp only [e, cond_true]
        rw [if_neg (by decide), if_pos trivial]
        rcases Nat.lt_or_ge (i + 1) s.length with h1 | h1
        · have d1 : decide (((i + 1 : Nat) : Int) < (s.length : Int)) = true := by simp; omega
          obtain ⟨b, hb⟩ : ∃ b, s[i + 1]? = some b := ⟨_, List.getElem?_eq_getElem h1⟩
          have w2 : IntKind.i64.wrap (((i + 1 : Nat) : Int) + 1) = ((i + 2 : Nat) : Int) := wrap_nat _ (by omega)
          simp only [d1, gsome_t, idx_nat, hb, bnd_eq, cond_true, w2]
          rw [drop_cons hb]
          simp only
          refine ⟨_, rfl, ?_⟩
          have e1 : (((b.toNat : Nat) : Int) == 1) = (b == 1) := by
            by_cases h1 : b = 1
            · subst h1; rfl
            · rw [show (((b.toNat : Nat) : Int) == 1) = false from byteI_ne h1]
              simp [h1]
          have e2 : s.length - (s.drop (i + 1 + 1)).length = i + 2 := by simp; omega
          by_cases hb1 : b.toNat ≤ 1
          · have : decide (((b.toNat : Nat) : Int) ≤ 1) = true := by simp; omega
            simp only [hb1, if_true, AnsR, e1, e2, this]
          · have : decide (((b.toNat : Nat) : Int) ≤ 1) = false := by simp; omega
            simp only [hb1, if_false, AnsR, this]
        · have d1 : decide (((i + 1 : Nat) : Int) < (s.length : Int)) = false := by simp; omega
          simp only [d1, gsome_f, bnd_eq, cond_false]
          rw [List.drop_eq_nil_of_le h1]
          exact ⟨_, rfl, rfl⟩
      rw [show (((m.toNat : Nat) : Int) == 6) = false from byteI_ne m6, cond_false, if_neg m6]
      by_cases m8 : m = 8
      · subst m8
        refine ⟨_, rfl, ?_⟩
        have : s.length - (s.drop (i + 1)).length = i + 1 := by simp; omega
        simp only [if_true, AnsR, this]
      rw [show (((m.toNat : Nat) : Int) == 8) = false from byteI_ne m8, cond_false, if_neg m8]
      unfold F20_k2
      by_cases m1 : m = 1
      · subst m1
        have e : ((((1 : UInt8).toNat : Nat) : Int) == 1) = true := rfl
        simp only [e, cond_true, w1]
        rw [if_neg (by decide), if_pos trivial]
        obtain ⟨x, hx, ha⟩ := F20_map (n := n) (g := g20) (deep := ((d + 1 : Nat) : Int)) hs (by omega) hw (rd_eats d) hg n ((s.drop (i + 1)).length + 1) (i + 1) [] [] (by omega) (by simp) (by omega) (by simp) rfl
        rw [hx]
        refine ⟨x, rfl, ?_⟩
        cases ho : rdK (rd d) ((s.drop (i + 1)).length + 1) (s.drop (i + 1)) [] [] with
        | none => rw [ho] at ha; exact ha
        | some y => rw [ho] at ha; exact ha
      rw [show (((m.toNat : Nat) : Int) == 1) = false from byteI_ne m1, cond_false]
      by_cases m4 : m = 4
      · subst m4
        have e : ((((4 : UInt8).toNat : Nat) : Int) == 4) = true := rfl
        simp only [e, cond_true, w1, if_true]
        obtain ⟨x, hx, ha⟩ := F20_list (n := n) (g := g20) (deep := ((d + 1 : Nat) : Int)) hs hw (rd_eats d) hg n ((s.drop (i + 1)).length + 1) (i + 1) [] (by omega) (by simp) (by omega) (by simp)
        rw [hx]
        refine ⟨x, rfl, ?_⟩
        cases ho : rdL (rd d) ((s.drop (i + 1)).length + 1) (s.drop (i + 1)) [] with
        | none => rw [ho] at ha; exact ha
        | some y => rw [ho] at ha; exact ha
      rw [show (((m.toNat : Nat) : Int) == 4) = false from byteI_ne m4, cond_false, if_neg m4, if_neg m1]
      exact ⟨_, rfl, rfl⟩
    · have dl : decide ((i : Int) ≥ (s.length : Int)) = true := by simp; omega
      rw [List.drop_eq_nil_of_le hge, dl]
      exact ⟨_, rfl, rfl⟩
end Rk
