/- A key tells its value, and no other text does. -/
import Derived.Test.YtkakmigbbipgoaaDoorRgQ
open Go Go.Proofs Ax
namespace Rk

theorem txt_ended : ∀ (s r : List UInt8), txt (endedM s ++ r) = some (s, r)
  | [], r => by simp [endedM, esc, txt]
  | b :: s, r => by
    have ih := txt_ended s r
    by_cases hb : b = 0
    · subst hb
      have e : endedM (0 :: s) ++ r = 0 :: 255 :: (endedM s ++ r) := by simp [endedM, esc]
      rw [e, txt, if_pos rfl, if_neg (by decide), if_pos rfl, ih]
      rfl
    · have e : endedM (b :: s) ++ r = b :: (endedM s ++ r) := by simp [endedM, esc, hb]
      have hne : endedM s ++ r ≠ [] := by simp [endedM]
      rw [e]
      cases h : endedM s ++ r with
      | nil => exact absurd h hne
      | cons c t =>
        rw [txt, if_neg hb, ← h, ih]
        rfl
theorem ended_txt : ∀ {s t r : List UInt8}, txt s = some (t, r) → s = endedM t ++ r
  | [], _, _, h => by cases h
  | [b], _, _, h => by cases h
  | b :: c :: s, t, r, h => by
    rw [txt] at h
    split at h
    · rename_i hb
      subst hb
      split at h
      · rename_i hc; subst hc; cases h; simp [endedM, esc]
      · split at h
        · rename_i hc
          subst hc
          cases h1 : txt s with
          | none => rw [h1] at h; cases h
          | some x =>
            rw [h1] at h; cases h
            rw [ended_txt h1]
            simp [endedM, esc]
        · cases h
    · rename_i hb
      cases h1 : txt (c :: s) with
      | none => rw [h1] at h; cases h
      | some x =>
        rw [h1] at h; cases h
        rw [ended_txt h1]
        simp [endedM, esc, hb]

theorem u8_mod (q : Nat) : (UInt8.ofNat q).toNat = q % 256 := by simp
theorem beN_eight (m : Nat) (hm : m < 18446744073709551616) : beN (eightL m) = m := by
  have e : eightL m = [UInt8.ofNat (m / 2 ^ 56), UInt8.ofNat (m / 2 ^ 48), UInt8.ofNat (m / 2 ^ 40), UInt8.ofNat (m / 2 ^ 32), UInt8.ofNat (m / 2 ^ 24), UInt8.ofNat (m / 2 ^ 16), UInt8.ofNat (m / 2 ^ 8), UInt8.ofNat (m / 2 ^ 0)] := rfl
  rw [e]
  simp only [beN, List.foldl, u8_mod]
  have h1 : m / 2 ^ 8 = m / 256 := rfl
  have h2 : m / 2 ^ 16 = m / 256 / 256 := by rw [Nat.div_div_eq_div_mul]
  have h3 : m / 2 ^ 24 = m / 256 / 256 / 256 := by rw [Nat.div_div_eq_div_mul, Nat.div_div_eq_div_mul]
  have h4 : m / 2 ^ 32 = m / 256 / 256 / 256 / 256 := by rw [Nat.div_div_eq_div_mul, Nat.div_div_eq_div_mul, Nat.div_div_eq_div_mul]
  have h5 : m / 2 ^ 40 = m / 256 / 256 / 256 / 256 / 256 := by rw [Nat.div_div_eq_div_mul, Nat.div_div_eq_div_mul, Nat.div_div_eq_div_mul, Nat.div_div_eq_div_mul]
  have h6 : m / 2 ^ 48 = m / 256 / 256 / 256 / 256 / 256 / 256 := by rw [Nat.div_div_eq_div_mul, Nat.div_div_eq_div_mul, Nat.div_div_eq_div_mul, Nat.div_div_eq_div_mul, Nat.div_div_eq_div_mul]
  have h7 : m / 2 ^ 56 = m / 256 / 256 / 256 / 256 / 256 / 256 / 256 := by rw [Nat.div_div_eq_div_mul, Nat.div_div_eq_div_mul, Nat.div_div_eq_div_mul, Nat.div_div_eq_div_mul, Nat.div_div_eq_div_mul, Nat.div_div_eq_div_mul]
  rw [h1, h2, h3, h4, h5, h6, h7, show m / 2 ^ 0 = m by simp]
  omega
theorem eight_beN (l : List UInt8) (h : l.length = 8) : eightL (beN l) = l := by
  obtain ⟨a, b, c, d, e, f, g, i, rfl⟩ : ∃ a b c d e f g i, l = [a, b, c, d, e, f, g, i] := by
    match l, h with
    | [a, b, c, d, e, f, g, i], _ => exact ⟨a, b, c, d, e, f, g, i, rfl⟩
  have ha := a.toNat_lt; have hb := b.toNat_lt; have hc := c.toNat_lt; have hd := d.toNat_lt
  have he := e.toNat_lt; have hf := f.toNat_lt; have hg := g.toNat_lt; have hi := i.toNat_lt
  have key : ∀ (q : Nat) (x : UInt8), q % 256 = x.toNat → UInt8.ofNat q = x := fun q x hq => UInt8.toNat.inj (by rw [u8_mod]; exact hq)
  simp only [beN, List.foldl, eightL, List.map]
  have p : ∀ q : Nat, q / 2 ^ 0 = q := fun q => by simp
  rw [key _ a (by omega), key _ b (by omega), key _ c (by omega), key _ d (by omega), key _ e (by omega), key _ f (by omega), key _ g (by omega), key _ i (by rw [p]; omega)]
theorem eight_length (m : Nat) : (eightL m).length = 8 := rfl

/-- The whole numbers are of 64 bits. -/
def int64 (i : Int) : Bool := decide (-9223372036854775808 ≤ i ∧ i < 9223372036854775808)
mutual
def range64 : Val → Bool
  | .mk _ _ i _ l _ => int64 i && range64L l
def range64L : List Val → Bool
  | [] => true
  | v :: l => range64 v && range64L l
end

theorem bits_back (i : Int) (h : int64 i = true) : IntKind.i64.wrap (bits64 i : Int) = i := by
  simp only [int64, decide_eq_true_eq] at h
  unfold bits64
  simp only [IntKind.wrap, IntKind.bits, IntKind.signed]
  simp
  split <;> omega
theorem off_back (i : Int) (h : int64 i = true) : offI (bits64 i ^^^ 9223372036854775808) = i := by
  simp only [int64, decide_eq_true_eq] at h
  rw [xor_add _ (bits64_lt i)]
  unfold offI bits64
  omega
theorem off_lt (i : Int) : bits64 i ^^^ 9223372036854775808 < 18446744073709551616 := Nat.xor_lt_two_pow (n := 64) (bits64_lt i) (by decide)

/- What is right about a value by itself. -/
mutual
def right : Val → Bool
  | .mk k b i s l ks => good1 (.mk k b i s l ks) && rightL l
def rightL : List Val → Bool
  | [] => true
  | v :: l => right v && rightL l
end
mutual
theorem may_right : ∀ (v : Val) (d p : Int), (lookM v d p).2 = true → right v = true
  | .mk k b i s l ks, d, p, h => by
    unfold lookM at h
    cases hb : (decide (d < 1) || decide (p + 1 > 4096) || !good1 (.mk k b i s l ks)) with
    | true => rw [hb] at h; simp at h
    | false =>
      rw [hb, cond_false] at h
      have := may_rightL l _ _ h
      simp only [right, this, Bool.and_true]
      simp at hb
      exact hb.2
theorem may_rightL : ∀ (l : List Val) (d p : Int), (lookL l d p).2 = true → rightL l = true
  | [], _, _, _ => rfl
  | v :: l, d, p, h => by
    unfold lookL at h
    cases hb : (lookM v d p).2 with
    | false => rw [hb] at h; simp at h
    | true =>
      rw [hb, cond_true] at h
      simp only [rightL, may_right v d p hb, may_rightL l d _ h, Bool.and_true]
end

/-- A good value's fields, by its kind. -/
theorem good_shape {k : Int} {b : Bool} {i : Int} {s : List UInt8} {l : List Val} {ks : List (List UInt8)} (h : good1 (.mk k b i s l ks) = true) :
    (k = 0 ∧ b = false ∧ i = 0 ∧ s = [] ∧ l = [] ∧ ks = []) ∨ (k = 1 ∧ i = 0 ∧ s = [] ∧ l = [] ∧ ks = []) ∨ (k = 2 ∧ b = false ∧ s = [] ∧ l = [] ∧ ks = []) ∨ (k = 3 ∧ b = false ∧ i = 0 ∧ l = [] ∧ ks = []) ∨
    (k = 4 ∧ b = false ∧ i = 0 ∧ s = [] ∧ ks = []) ∨ (k = 5 ∧ b = false ∧ i = 0 ∧ s = [] ∧ ks.length = l.length ∧ keysB ks = true) ∨ (k = 6 ∧ b = false ∧ s = [] ∧ l = [] ∧ ks = [] ∧ 1 ≤ i) ∨ (k = 7 ∧ b = false ∧ s = [] ∧ l = [] ∧ ks = [] ∧ 1 ≤ i) := by
  have hk : k = 0 ∨ k = 1 ∨ k = 2 ∨ k = 3 ∨ k = 4 ∨ k = 5 ∨ k = 6 ∨ k = 7 := by
    simp only [good1, Bool.and_eq_true, decide_eq_true_eq] at h; omega
  have nl : ∀ {n : Nat}, ((n : Int) == 0) = true → n = 0 := fun h => by simpa using h
  rcases hk with rfl | rfl | rfl | rfl | rfl | rfl | rfl | rfl <;> simp [good1, bareB] at h <;> simp [h]
end Rk
