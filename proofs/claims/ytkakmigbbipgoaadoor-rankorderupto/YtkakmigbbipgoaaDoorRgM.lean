/- What the printed functions answer. -/
import Derived.Test.YtkakmigbbipgoaaDoorRgA
open Go Go.Proofs Ax
namespace Rk

def txt : List UInt8 → Option (List UInt8 × List UInt8)
  | [] => none
  | [_] => none
  | b :: c :: r => if b = 0 then (if c = 0 then some ([], r) else if c = 255 then (txt r).map (fun x => (0 :: x.1, x.2)) else none) else (txt (c :: r)).map fun x => (b :: x.1, x.2)

theorem txt_split : ∀ s : List UInt8, (Lib.indexByte s 0 = -1 ∧ txt s = none) ∨ ∃ p q, s = p ++ 0 :: q ∧ Lib.indexByte s 0 = (p.length : Int) ∧
    txt s = (match q with | [] => none | c :: r => if c = 0 then some (p, r) else if c = 255 then (txt r).map (fun x => (p ++ 0 :: x.1, x.2)) else none)
  | [] => .inl ⟨rfl, rfl⟩
  | [b] => by
    by_cases hb : b = 0
    · subst hb; exact .inr ⟨[], [], rfl, by simp [Lib.indexByte], rfl⟩
    · exact .inl ⟨by simp [Lib.indexByte, hb], rfl⟩
  | b :: c :: r => by
    by_cases hb : b = 0
    · subst hb; exact .inr ⟨[], c :: r, rfl, rfl, rfl⟩
    · rcases txt_split (c :: r) with ⟨h1, h2⟩ | ⟨p, q, h0, h1, h2⟩
      · left
        refine ⟨?_, ?_⟩
        · rw [Lib.indexByte, h1]; simp [hb]
        · simp [txt, h2, hb]
      · right
        refine ⟨b :: p, q, by rw [h0]; rfl, ?_, ?_⟩
        · rw [Lib.indexByte, h1]
          have : ((p.length : Int) == -1) = false := by simp
          simp [hb, this]
        · rw [txt, if_neg hb, h2]
          cases q with
          | nil => rfl
          | cons d q =>
            simp only
            split
            · rfl
            · split
              · cases txt q <;> rfl
              · rfl

theorem txt_len : ∀ {s t r : List UInt8}, txt s = some (t, r) → t.length + 2 + r.length ≤ s.length
  | [], t, r, h => by cases h
  | [b], t, r, h => by cases h
  | b :: c :: s, t, r, h => by
    rw [txt] at h
    split at h
    · split at h
      · cases h; simp; omega
      · split at h
        · cases h1 : txt s with
          | none => rw [h1] at h; cases h
          | some x => rw [h1] at h; cases h; have := txt_len h1; simp; omega
        · cases h
    · cases h1 : txt (c :: s) with
      | none => rw [h1] at h; cases h
      | some x => rw [h1] at h; cases h; have := txt_len h1; simp at this ⊢; omega

theorem wrapS (n : Int) (h0 : -1099511627776 ≤ n) (h1 : n ≤ 1099511627776) : IntKind.i64.wrap n = n := wrap_ok n (by omega) (by omega)

theorem F52_eq (n : Nat) (s : List UInt8) : F52 n s 0 = some (Lib.indexByte s 0) := by
  unfold F52
  have : u8I 0 = some 0 := rfl
  rw [this]; rfl

abbrev txtR (o : Option (List UInt8 × List UInt8)) (acc : List UInt8) : List UInt8 × List UInt8 × Bool := match o with | some x => (acc ++ x.1, x.2, true) | none => ([], [], false)

theorem F37_loop (n : Nat) : ∀ (k : Nat) (s acc : List UInt8), s.length < k → acc.length + s.length ≤ 1073741824 → loopK (F37_l1 n) k (s, acc) = some (txtR (txt s) acc) := by
  intro k
  induction k with
  | zero => intro s acc h; omega
  | succ k ih =>
    intro s acc hk hb
    rw [loopK_succ]
    generalize loopK (F37_l1 n) k = nx at ih ⊢
    unfold F37_l1
    dsimp only
    rw [F52_eq]
    rcases txt_split s with ⟨h1, h2⟩ | ⟨p, q, hs, h1, h2⟩
    · rw [h1, h2]; rfl
    · have hl : s.length = p.length + 1 + q.length := by rw [hs]; simp; omega
      rw [h1, h2]
      have w1 : IntKind.i64.wrap ((p.length : Int) + 1) = ((p.length + 1 : Nat) : Int) := by rw [wrapS _ (by omega) (by omega)]; omega
      have w2 : IntKind.i64.wrap ((p.length : Int) + 2) = ((p.length + 2 : Nat) : Int) := by rw [wrapS _ (by omega) (by omega)]; omega
      have d1 : decide ((p.length : Int) < 0) = false := by simp
      have gp : s.take p.length = p := by rw [hs]; simp
      simp only [bnd_eq, w1, w2, d1, cond_false, natI_nat, idx_nat]
      cases q with
      | nil =>
        have d2 : decide (((p.length + 1 : Nat) : Int) ≥ (s.length : Int)) = true := by simp; simp at hl; omega
        simp only [d2, Bool.not_true, gsome_f, bnd_eq, Bool.false_and, cond_true]
      | cons c r =>
        have hl' : s.length = p.length + 2 + r.length := by rw [hl]; simp; omega
        have d2 : decide (((p.length + 1 : Nat) : Int) ≥ (s.length : Int)) = false := by simp; omega
        have gi : s[p.length + 1]? = some c := by rw [hs]; simp
        have gd : s.drop (p.length + 2) = r := by rw [hs]; rw [List.drop_append]; simp
        simp only [d2, Bool.not_false, gsome_t, gi, bnd_eq, Bool.true_and, cond_false, List.take_length, gp, gd, List.drop_zero]
        rw [chk_of _ (by simp; omega), chk_of _ (by simp; omega)]
        by_cases hc0 : c = 0
        · subst hc0
          simp
          rw [chk_of _ (by simp; omega)]
        · have e0 : (((c.toNat : Nat) : Int) == 0) = false := by
            have : c.toNat ≠ 0 := fun e => hc0 (UInt8.toNat.inj (by simpa using e))
            simp [this]
          have e1 : (((c.toNat : Nat) : Int) != 0) = true := by simp [bne, e0]
          simp only [e0, e1, gsome_t, bnd_eq, cond_true, cond_false, if_neg hc0]
          by_cases hc : c = 255
          · subst hc
            have : ((((255 : UInt8).toNat : Nat) : Int) != 255) = false := rfl
            simp only [this, cond_false, if_true]
            rw [chk_of _ (by simp; omega), chk_of _ (by simp; omega), ih _ _ (by omega) (by simp; omega)]
            cases txt r with
            | none => rfl
            | some x => simp
          · have : (((c.toNat : Nat) : Int) != 255) = true := by
              have : c.toNat ≠ 255 := fun e => hc (UInt8.toNat.inj (by simpa using e))
              simp; omega
            simp only [this, cond_true, if_neg hc]
theorem F37_eq (n : Nat) (s : List UInt8) (h : s.length < n) (hb : s.length ≤ 1073741824) : F37 n s = some (txtR (txt s) []) := F37_loop n n s [] h (by simpa using hb)

/-- Eight bytes as a number, the highest first. -/
def beN (l : List UInt8) : Nat := l.foldl (fun n b => n * 256 + b.toNat) 0
theorem beN_snoc (l : List UInt8) (b : UInt8) : beN (l ++ [b]) = beN l * 256 + b.toNat := by simp [beN]
theorem beN_lt : ∀ l : List UInt8, beN l < 256 ^ l.length := by
  intro l
  rw [← List.reverse_reverse l]
  generalize l.reverse = m
  induction m with
  | nil => simp [beN]
  | cons b m ih =>
    rw [List.reverse_cons, beN_snoc, List.length_append, List.length_singleton, Nat.pow_succ]
    have := b.toNat_lt
    omega

theorem or_low (n b : Nat) (hb : b < 256) : n * 256 ||| b = n * 256 + b := by
  have := Nat.two_pow_add_eq_or_of_lt (i := 8) (by simpa using hb) n
  rw [Nat.mul_comm] at this
  exact this.symm

theorem take_snoc {l : List UInt8} {i : Nat} {b : UInt8} (h : l[i]? = some b) : l.take (i + 1) = l.take i ++ [b] := by
  obtain ⟨hlt, rfl⟩ := List.getElem?_eq_some_iff.1 h
  rw [List.take_succ_eq_append_getElem hlt]

theorem shl_or (m : Nat) (hm : m < 72057594037927936) (b : UInt8) :
    IntKind.u64.wrap (((BitVec.ofInt IntKind.u64.bits (IntKind.u64.wrap ((m : Int) * 2 ^ (min (Int.toNat (8 : Int)) IntKind.u64.bits))) ||| BitVec.ofInt IntKind.u64.bits (IntKind.u64.wrap ((b.toNat : Nat) : Int))).toNat : Nat) : Int) = ((m * 256 + b.toNat : Nat) : Int) := by
  have hb := b.toNat_lt
  have e1 : ((m : Int) * 2 ^ (min (Int.toNat (8 : Int)) IntKind.u64.bits)) = ((m * 256 : Nat) : Int) := by
    have : (2 : Int) ^ (min (Int.toNat (8 : Int)) IntKind.u64.bits) = 256 := by decide
    rw [this]; omega
  rw [e1, wrapU ((m * 256 : Nat) : Int) (by omega) (by omega), wrapU ((b.toNat : Nat) : Int) (by omega) (by omega)]
  have t1 : ∀ k : Nat, k < 18446744073709551616 → (BitVec.ofInt IntKind.u64.bits (k : Int)).toNat = k := by
    intro k hk
    rw [BitVec.toNat_ofInt]
    simp only [IntKind.bits]
    omega
  rw [BitVec.toNat_or, t1 _ (by omega), t1 _ (by omega), or_low _ _ hb, wrapU _ (by omega) (by omega)]

theorem F36_loop (n : Nat) (s : List UInt8) (h8 : 8 ≤ s.length) : ∀ (k i : Nat), i ≤ 8 → 8 - i < k → loopK (F36_l1 n s) k (((beN (s.take i) : Nat) : Int), (i : Int)) = some (((beN (s.take 8) : Nat) : Int), s.drop 8, true) := by
  intro k
  induction k with
  | zero => intro i _ h; omega
  | succ k ih =>
    intro i hi hk
    rw [loopK_succ]
    generalize loopK (F36_l1 n s) k = nx at ih ⊢
    unfold F36_l1
    dsimp only
    rcases Nat.lt_or_ge i 8 with hlt | hge
    · have d : decide ((i : Int) < 8) = true := by simp; omega
      obtain ⟨b, hb⟩ : ∃ b, s[i]? = some b := ⟨_, List.getElem?_eq_getElem (by omega)⟩
      have hm : beN (s.take i) < 72057594037927936 := by
        have := beN_lt (s.take i)
        have h2 : (s.take i).length ≤ 7 := by simp; omega
        have : 256 ^ (s.take i).length ≤ 256 ^ 7 := Nat.pow_le_pow_right (by decide) h2
        omega
      simp only [d, cond_true, idx_nat, hb, bnd_eq]
      rw [shl_or _ hm, wrap_nat i (by omega), ← beN_snoc, ← take_snoc hb]
      exact ih (i + 1) hlt (by omega)
    · have : i = 8 := by omega
      subst this
      have d : decide (((8 : Nat) : Int) < 8) = false := by decide
      simp only [d, cond_false, List.take_length]
      rw [chk_of _ (by simp; omega)]
theorem F36_eq (n : Nat) (s : List UInt8) (hn : 9 ≤ n) : F36 n s = some (if s.length < 8 then (0, [], false) else (((beN (s.take 8) : Nat) : Int), s.drop 8, true)) := by
  unfold F36
  split
  · rename_i h
    have d : decide ((s.length : Int) < 8) = true := by simp; omega
    rw [d]; rfl
  · rename_i h
    have d : decide ((s.length : Int) < 8) = false := by simp; omega
    rw [d, cond_false]
    have := F36_loop n s (by omega) n 0 (by omega) (by omega)
    simpa [beN] using this

theorem mul_add (m : Nat) (hm : m < 72057594037927936) (b : UInt8) : IntKind.u64.wrap ((IntKind.u64.wrap ((m : Int) * 256)) + (IntKind.u64.wrap ((b.toNat : Nat) : Int))) = ((m * 256 + b.toNat : Nat) : Int) := by
  have hb := b.toNat_lt
  rw [wrapU ((m : Int) * 256) (by omega) (by omega), wrapU ((b.toNat : Nat) : Int) (by omega) (by omega), wrapU _ (by omega) (by omega)]
  omega
theorem F39_loop (n : Nat) (s : List UInt8) (at_ : Nat) (hs : s.length ≤ 1073741824) (ha : at_ ≤ 1073741824) : ∀ (k i : Nat), i ≤ 8 → 8 - i < k → (i = 0 ∨ at_ + i ≤ s.length) →
    loopK (F39_l1 n (at_ : Int) s) k (((beN ((s.drop at_).take i) : Nat) : Int), (i : Int)) = some (if at_ + 8 ≤ s.length then (((beN ((s.drop at_).take 8) : Nat) : Int), true) else (0, false)) := by
  intro k
  induction k with
  | zero => intro i _ h; omega
  | succ k ih =>
    intro i hi hk hai
    rw [loopK_succ]
    generalize loopK (F39_l1 n (at_ : Int) s) k = nx at ih ⊢
    unfold F39_l1
    dsimp only
    have w : IntKind.i64.wrap ((at_ : Int) + (i : Int)) = ((at_ + i : Nat) : Int) := by rw [wrapS _ (by omega) (by omega)]; omega
    rcases Nat.lt_or_ge i 8 with hlt | hge
    · have d : decide ((i : Int) < 8) = true := by simp; omega
      simp only [d, cond_true, w]
      rcases Nat.lt_or_ge (at_ + i) s.length with h1 | h1
      · have d1 : decide (((at_ + i : Nat) : Int) ≥ (s.length : Int)) = false := by simp; omega
        obtain ⟨b, hb⟩ : ∃ b, s[at_ + i]? = some b := ⟨_, List.getElem?_eq_getElem h1⟩
        have hb' : (s.drop at_)[i]? = some b := by rw [List.getElem?_drop]; exact hb
        have hm : beN ((s.drop at_).take i) < 72057594037927936 := by
          have := beN_lt ((s.drop at_).take i)
          have h2 : ((s.drop at_).take i).length ≤ 7 := by simp; omega
          have : 256 ^ ((s.drop at_).take i).length ≤ 256 ^ 7 := Nat.pow_le_pow_right (by decide) h2
          omega
        simp only [d1, cond_false, idx_nat, hb, bnd_eq]
        rw [mul_add _ hm, wrap_nat i (by omega), ← beN_snoc, ← take_snoc hb']
        exact ih (i + 1) hlt (by omega) (.inr (by omega))
      · have d1 : decide (((at_ + i : Nat) : Int) ≥ (s.length : Int)) = true := by simp; omega
        simp only [d1, cond_true]
        rw [if_neg (by omega)]
    · have : i = 8 := by omega
      subst this
      have d : decide (((8 : Nat) : Int) < 8) = false := by decide
      simp only [d, cond_false]
      rw [if_pos (by omega)]
theorem F39_eq (n : Nat) (s : List UInt8) (at_ : Nat) (hn : 9 ≤ n) (hs : s.length ≤ 1073741824) (ha : at_ ≤ 1073741824) :
    F39 n s (at_ : Int) = some (if at_ + 8 ≤ s.length then (((beN ((s.drop at_).take 8) : Nat) : Int), true) else (0, false)) := by
  have := F39_loop n s at_ hs ha n 0 (by omega) (by omega) (.inl rfl)
  simpa [beN, F39] using this

theorem drop_cons {l : List UInt8} {i : Nat} {b : UInt8} (h : l[i]? = some b) : l.drop i = b :: l.drop (i + 1) := by
  obtain ⟨hlt, rfl⟩ := List.getElem?_eq_some_iff.1 h
  exact List.drop_eq_getElem_cons hlt

abbrev txtE (s : List UInt8) (o : Option (List UInt8 × List UInt8)) (acc : List UInt8) : List UInt8 × Int × Bool := match o with | some x => (acc ++ x.1, ((s.length - x.2.length : Nat) : Int), true) | none => ([], 0, false)
theorem byte_ne {c d : UInt8} (h : c ≠ d) : ¬ c.toNat = d.toNat := fun e => h (UInt8.toNat.inj e)
theorem F40_loop (n : Nat) (s : List UInt8) (hs : s.length ≤ 1073741824) : ∀ (k at_ : Nat) (acc : List UInt8), s.length - at_ < k → at_ ≤ 1073741825 → acc.length ≤ at_ →
    loopK (F40_l1 n s) k ((at_ : Int), acc) = some (txtE s (txt (s.drop at_)) acc) := by
  intro k
  induction k with
  | zero => intro at_ acc h; omega
  | succ k ih =>
    intro at_ acc hk ha hacc
    rw [loopK_succ]
    generalize loopK (F40_l1 n s) k = nx at ih ⊢
    unfold F40_l1
    dsimp only
    have w1 : IntKind.i64.wrap ((at_ : Int) + 1) = ((at_ + 1 : Nat) : Int) := wrap_nat _ (by omega)
    have w2 : IntKind.i64.wrap ((at_ : Int) + 2) = ((at_ + 2 : Nat) : Int) := by rw [wrapS _ (by omega) (by omega)]; omega
    simp only [w1, w2, idx_nat]
    rcases Nat.lt_or_ge (at_ + 1) s.length with h1 | h1
    · have d1 : decide (((at_ + 1 : Nat) : Int) < (s.length : Int)) = true := by simp; omega
      obtain ⟨b, hb⟩ : ∃ b, s[at_]? = some b := ⟨_, List.getElem?_eq_getElem (by omega)⟩
      obtain ⟨c, hc⟩ : ∃ c, s[at_ + 1]? = some c := ⟨_, List.getElem?_eq_getElem h1⟩
      have e1 := drop_cons hb
      have e2 := drop_cons hc
      simp only [d1, cond_true, hb, hc, bnd_eq]
      by_cases hb0 : b = 0
      · subst hb0
        have e0 : ((((0 : UInt8).toNat : Nat) : Int) != 0) = false := rfl
        simp only [e0, cond_false]
        rw [e1, e2, txt, if_pos rfl]
        by_cases hc0 : c = 0
        · subst hc0
          have e0 : ((((0 : UInt8).toNat : Nat) : Int) == 0) = true := rfl
          simp only [e0, cond_true, if_true]
          simp
          omega
        · have := byte_ne hc0
          have e3 : (((c.toNat : Nat) : Int) == 0) = false := by simp at this ⊢; omega
          simp only [e3, cond_false, if_neg hc0]
          by_cases hcf : c = 255
          · subst hcf
            have e4 : ((((255 : UInt8).toNat : Nat) : Int) != 255) = false := rfl
            simp only [e4, cond_false, if_true]
            rw [chk_of _ (by simp; omega), ih (at_ + 2) _ (by omega) (by omega) (by simp; omega)]
            cases txt (s.drop (at_ + 2)) with
            | none => rfl
            | some x => simp
          · have := byte_ne hcf
            have e4 : (((c.toNat : Nat) : Int) != 255) = true := by simp at this ⊢; omega
            simp only [e4, cond_true, if_neg hcf]
      · have := byte_ne hb0
        have e3 : (((b.toNat : Nat) : Int) != 0) = true := by simp at this ⊢; omega
        simp only [e3, cond_true]
        rw [chk_of _ (by simp; omega), ih (at_ + 1) _ (by omega) (by omega) (by simp; omega), e1, e2, txt, if_neg hb0, ← e2]
        cases txt (s.drop (at_ + 1)) with
        | none => rfl
        | some x => simp
    · have d1 : decide (((at_ + 1 : Nat) : Int) < (s.length : Int)) = false := by simp; omega
      simp only [d1, cond_false]
      have : txt (s.drop at_) = none := by
        have hl : (s.drop at_).length ≤ 1 := by simp; omega
        match s.drop at_, hl with
        | [], _ => rfl
        | [_], _ => rfl
      rw [this]
theorem F40_eq (n : Nat) (s : List UInt8) (at_ : Nat) (h : s.length < n) (hs : s.length ≤ 1073741824) (ha : at_ ≤ 1073741825) : F40 n s (at_ : Int) = some (txtE s (txt (s.drop at_)) []) :=
  F40_loop n s hs n at_ [] (by omega) ha (by simp)
end Rk
