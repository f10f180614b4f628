/- Reading a key. -/
import Derived.Test.YtkakmigbbipgoaaDoorRgM
open Go Go.Proofs Ax
namespace Rk

abbrev nullV : Val := .mk 0 false 0 [] [] []
def offI (m : Nat) : Int := (m : Int) - 9223372036854775808

section
variable (f : List UInt8 → Option (Val × List UInt8))
def rdL : Nat → List UInt8 → List Val → Option (List Val × List UInt8)
  | 0, _, _ => none
  | _ + 1, [], _ => none
  | k + 1, b :: s, acc => if b = 0 then some (acc, s) else match f (b :: s) with
    | some x => rdL k x.2 (acc ++ [x.1])
    | none => none
def rdK : Nat → List UInt8 → List Val → List (List UInt8) → Option (List Val × List (List UInt8) × List UInt8)
  | 0, _, _, _ => none
  | _ + 1, [], _, _ => none
  | k + 1, b :: s, acc, ks => if b = 0 then some (acc, ks, s) else if b = 1 then match txt s with
    | some y => match f y.2 with
      | some x => rdK k x.2 (acc ++ [x.1]) (ks ++ [y.1])
      | none => none
    | none => none
    else none
end

/-- The value at the front of a text, so many levels deep, and the rest. -/
def rd : Nat → List UInt8 → Option (Val × List UInt8)
  | 0, _ => none
  | _ + 1, [] => none
  | d + 1, m :: s =>
    if m = 8 then some (nullV, s)
    else if m = 6 then (match s with | [] => none | b :: r => if b.toNat ≤ 1 then some (.mk 1 (b == 1) 0 [] [] [], r) else none)
    else if m = 7 then (if s.length < 8 then none else some (.mk 2 false (offI (beN (s.take 8))) [] [] [], s.drop 8))
    else if m = 2 then (if s.length < 8 then none else some (.mk 6 false (IntKind.i64.wrap (beN (s.take 8))) [] [] [], s.drop 8))
    else if m = 3 then (if s.length < 8 then none else some (.mk 7 false (IntKind.i64.wrap (beN (s.take 8))) [] [] [], s.drop 8))
    else if m = 5 then (txt s).map fun x => (.mk 3 false 0 x.1 [] [], x.2)
    else if m = 4 then (rdL (rd d) (s.length + 1) s []).map fun x => (.mk 4 false 0 [] x.1 [], x.2)
    else if m = 1 then (rdK (rd d) (s.length + 1) s [] []).map fun x => (.mk 5 false 0 [] x.1 x.2.1, x.2.2)
    else none

theorem rd_cons (d : Nat) (m : UInt8) (s : List UInt8) : rd (d + 1) (m :: s) =
    if m = 8 then some (nullV, s)
    else if m = 6 then (match s with | [] => none | b :: r => if b.toNat ≤ 1 then some (.mk 1 (b == 1) 0 [] [] [], r) else none)
    else if m = 7 then (if s.length < 8 then none else some (.mk 2 false (offI (beN (s.take 8))) [] [] [], s.drop 8))
    else if m = 2 then (if s.length < 8 then none else some (.mk 6 false (IntKind.i64.wrap (beN (s.take 8))) [] [] [], s.drop 8))
    else if m = 3 then (if s.length < 8 then none else some (.mk 7 false (IntKind.i64.wrap (beN (s.take 8))) [] [] [], s.drop 8))
    else if m = 5 then (txt s).map fun x => (.mk 3 false 0 x.1 [] [], x.2)
    else if m = 4 then (rdL (rd d) (s.length + 1) s []).map fun x => (.mk 4 false 0 [] x.1 [], x.2)
    else if m = 1 then (rdK (rd d) (s.length + 1) s [] []).map fun x => (.mk 5 false 0 [] x.1 x.2.1, x.2.2)
    else none := rfl

/-- What is left is an end of what was there, and less. -/
def Eats (f : List UInt8 → Option (Val × List UInt8)) : Prop := ∀ s v r, f s = some (v, r) → ∃ p, s = p ++ r ∧ p ≠ []

theorem txt_suffix : ∀ {s t r : List UInt8}, txt s = some (t, r) → ∃ p, s = p ++ r ∧ p ≠ []
  | [], t, r, h => by cases h
  | [b], t, r, h => by cases h
  | b :: c :: s, t, r, h => by
    rw [txt] at h
    split at h
    · split at h
      · cases h; exact ⟨[b, c], rfl, by simp⟩
      · split at h
        · cases h1 : txt s with
          | none => rw [h1] at h; cases h
          | some x =>
            rw [h1] at h; cases h
            obtain ⟨p, hp, _⟩ := txt_suffix h1
            exact ⟨b :: c :: p, by rw [hp]; rfl, by simp⟩
        · cases h
    · cases h1 : txt (c :: s) with
      | none => rw [h1] at h; cases h
      | some x =>
        rw [h1] at h; cases h
        obtain ⟨p, hp, _⟩ := txt_suffix h1
        exact ⟨b :: p, by rw [hp]; rfl, by simp⟩

theorem rdL_suffix {f : List UInt8 → Option (Val × List UInt8)} (hf : Eats f) : ∀ (k : Nat) (s : List UInt8) (acc l : List Val) (r : List UInt8), rdL f k s acc = some (l, r) → ∃ p, s = p ++ r ∧ p ≠ [] := by
  intro k
  induction k with
  | zero => intro s acc l r h; cases h
  | succ k ih =>
    intro s acc l r h
    cases s with
    | nil => cases h
    | cons b s =>
      rw [rdL] at h
      split at h
      · cases h; exact ⟨[b], rfl, by simp⟩
      · split at h
        · rename_i x hx
          obtain ⟨p, hp, h0⟩ := hf _ _ _ hx
          obtain ⟨q, hq, _⟩ := ih _ _ _ _ h
          exact ⟨p ++ q, by rw [hp, hq]; simp, by simp [h0]⟩
        · cases h
theorem rdK_suffix {f : List UInt8 → Option (Val × List UInt8)} (hf : Eats f) : ∀ (k : Nat) (s : List UInt8) (acc l : List Val) (ks ks' : List (List UInt8)) (r : List UInt8), rdK f k s acc ks = some (l, ks', r) → ∃ p, s = p ++ r ∧ p ≠ [] := by
  intro k
  induction k with
  | zero => intro s acc l ks ks' r h; cases h
  | succ k ih =>
    intro s acc l ks ks' r h
    cases s with
    | nil => cases h
    | cons b s =>
      rw [rdK] at h
      split at h
      · cases h; exact ⟨[b], rfl, by simp⟩
      · split at h
        · split at h
          · rename_i y hy
            split at h
            · rename_i x hx
              obtain ⟨p, hp, h0⟩ := hf _ _ _ hx
              obtain ⟨q, hq, _⟩ := ih _ _ _ _ _ _ h
              obtain ⟨o, ho, _⟩ := txt_suffix hy
              exact ⟨b :: (o ++ (p ++ q)), by rw [ho, hp, hq]; simp, by simp⟩
            · cases h
          · cases h
        · cases h

theorem drop_suffix {s : List UInt8} {n : Nat} (m : UInt8) : ∃ p, m :: s = p ++ s.drop n ∧ p ≠ [] := ⟨m :: s.take n, by simp, by simp⟩

theorem rd_eats : ∀ d, Eats (rd d)
  | 0 => fun s v r h => by cases h
  | d + 1 => fun s v r h => by
    cases s with
    | nil => cases h
    | cons m s =>
      rw [rd_cons] at h
      split at h
      · cases h; exact ⟨[m], rfl, by simp⟩
      · split at h
        · split at h
          · cases h
          · split at h
            · cases h; exact ⟨[m, _], rfl, by simp⟩
            · cases h
        · split at h
          · split at h
            · cases h
            · cases h; exact drop_suffix m
          · split at h
            · split at h
              · cases h
              · cases h; exact drop_suffix m
            · split at h
              · split at h
                · cases h
                · cases h; exact drop_suffix m
              · split at h
                · cases h1 : txt s with
                  | none => rw [h1] at h; cases h
                  | some x =>
                    rw [h1] at h; cases h
                    obtain ⟨p, hp, _⟩ := txt_suffix h1
                    exact ⟨m :: p, by rw [hp]; rfl, by simp⟩
                · split at h
                  · cases h1 : rdL (rd d) (s.length + 1) s [] with
                    | none => rw [h1] at h; cases h
                    | some x =>
                      rw [h1] at h; cases h
                      obtain ⟨p, hp, _⟩ := rdL_suffix (rd_eats d) _ _ _ _ _ h1
                      exact ⟨m :: p, by rw [hp]; rfl, by simp⟩
                  · split at h
                    · cases h1 : rdK (rd d) (s.length + 1) s [] [] with
                      | none => rw [h1] at h; cases h
                      | some x =>
                        rw [h1] at h; cases h
                        obtain ⟨p, hp, _⟩ := rdK_suffix (rd_eats d) _ _ _ _ _ _ _ h1
                        exact ⟨m :: p, by rw [hp]; rfl, by simp⟩
                    · cases h

theorem Eats.lt {f : List UInt8 → Option (Val × List UInt8)} (hf : Eats f) {s r : List UInt8} {v : Val} (h : f s = some (v, r)) : r.length < s.length := by
  obtain ⟨p, hp, h0⟩ := hf _ _ _ h
  have : 0 < p.length := List.length_pos_iff.2 h0
  rw [hp, List.length_append]; omega

abbrev Ans (x : Val × List UInt8 × Bool) (o : Option (Val × List UInt8)) : Prop := match o with
  | some y => x = (y.1, y.2, true)
  | none => x.2.2 = false

theorem byteI_ne {m c : UInt8} (h : m ≠ c) : (((m.toNat : Nat) : Int) == ((c.toNat : Nat) : Int)) = false := by
  have := byte_ne h
  simp; omega
theorem byteI_eq (m : UInt8) : (((m.toNat : Nat) : Int) == ((m.toNat : Nat) : Int)) = true := by simp

theorem nil_beq (b : UInt8) (s : List UInt8) : ((b :: s) == ([] : List UInt8)) = false := rfl

section
variable {n : Nat} {g : List UInt8 → Int → Option (Val × List UInt8 × Bool)} {deep : Int} {f : List UInt8 → Option (Val × List UInt8)} {L : Nat}

theorem F38_list (hL : L ≤ 1073741824) (hw : IntKind.i64.wrap (deep - 1) = deep - 1) (hf : Eats f) (hg : ∀ r : List UInt8, r.length ≤ L → ∃ x, g r (deep - 1) = some x ∧ Ans x (f r)) :
    ∀ (k k' : Nat) (s : List UInt8) (acc : List Val), s.length < k → s.length < k' → s.length + acc.length ≤ L →
      loopK (F38_l1 n 4 g deep false 0 []) k (s, acc, []) = some (match rdL f k' s acc with | some x => (.mk 4 false 0 [] x.1 [], x.2, true) | none => (nullV, [], false)) := by
  intro k
  induction k with
  | zero => intro k' s acc h; omega
  | succ k ih =>
    intro k' s acc hk hk' hl
    obtain ⟨k', rfl⟩ : ∃ j, k' = j + 1 := ⟨k' - 1, by omega⟩
    rw [loopK_succ]
    generalize loopK (F38_l1 n 4 g deep false 0 []) k = nx at ih ⊢
    unfold F38_l1
    dsimp only
    cases s with
    | nil => rfl
    | cons b s =>
      simp only [nil_beq, Bool.not_false, gsome_t, idx_zero, List.getElem?_cons_zero, bnd_eq, cond_true, cond_false]
      rw [rdL]
      by_cases hb : b = 0
      · subst hb
        have e : ((((0 : UInt8).toNat : Nat) : Int) != 0) = false := rfl
        simp only [e, cond_false, if_true]
        rw [chk_of _ (by simp)]
        rfl
      · have e : (((b.toNat : Nat) : Int) != 0) = true := by have : (((b.toNat : Nat) : Int) == 0) = false := byteI_ne hb; simp [bne, this]
        have e5 : ((4 : Int) == 5) = false := rfl
        simp only [e, cond_true, e5, cond_false, if_neg hb]
        unfold F38_k3
        dsimp only
        rw [hw]
        obtain ⟨x, hx, hans⟩ := hg (b :: s) (by omega)
        rw [hx]
        cases ho : f (b :: s) with
        | none =>
          rw [ho] at hans
          obtain ⟨⟨k1, b1, i1, s1, l1, ks1⟩, r1, ok⟩ := x
          simp only [Ans] at hans
          subst hans
          rfl
        | some y =>
          rw [ho] at hans
          simp only [Ans] at hans
          subst hans
          obtain ⟨⟨k1, b1, i1, s1, l1, ks1⟩, r1⟩ := y
          have hlt := hf.lt ho
          simp only [List.length_cons] at hlt hl hk hk'
          simp only [bnd_eq, Bool.not_true, cond_false]
          rw [chk_of _ (by simp; omega)]
          exact ih k' r1 _ (by omega) (by omega) (by simp; omega)

theorem F38_map (hL : L ≤ 1073741824) (hn : L < n) (hw : IntKind.i64.wrap (deep - 1) = deep - 1) (hf : Eats f) (hg : ∀ r : List UInt8, r.length ≤ L → ∃ x, g r (deep - 1) = some x ∧ Ans x (f r)) :
    ∀ (k k' : Nat) (s : List UInt8) (acc : List Val) (ks : List (List UInt8)), s.length < k → s.length < k' → s.length + acc.length ≤ L → ks.length = acc.length →
      loopK (F38_l1 n 5 g deep false 0 []) k (s, acc, ks) = some (match rdK f k' s acc ks with | some x => (.mk 5 false 0 [] x.1 x.2.1, x.2.2, true) | none => (nullV, [], false)) := by
  intro k
  induction k with
  | zero => intro k' s acc ks h; omega
  | succ k ih =>
    intro k' s acc ks hk hk' hl hkl
    obtain ⟨k', rfl⟩ : ∃ j, k' = j + 1 := ⟨k' - 1, by omega⟩
    rw [loopK_succ]
    generalize loopK (F38_l1 n 5 g deep false 0 []) k = nx at ih ⊢
    unfold F38_l1
    dsimp only
    cases s with
    | nil => rfl
    | cons b s =>
      simp only [nil_beq, Bool.not_false, gsome_t, idx_zero, List.getElem?_cons_zero, bnd_eq, cond_true, cond_false]
      rw [rdK]
      by_cases hb : b = 0
      · subst hb
        have e : ((((0 : UInt8).toNat : Nat) : Int) != 0) = false := rfl
        simp only [e, cond_false, if_true]
        rw [chk_of _ (by simp)]
        rfl
      · have e : (((b.toNat : Nat) : Int) != 0) = true := by have : (((b.toNat : Nat) : Int) == 0) = false := byteI_ne hb; simp [bne, this]
        have e5 : ((5 : Int) == 5) = true := rfl
        simp only [e, cond_true, e5, if_neg hb]
        by_cases hb1 : b = 1
        · subst hb1
          have e1 : ((((1 : UInt8).toNat : Nat) : Int) != 1) = false := rfl
          simp only [e1, cond_false, if_true]
          rw [chk_of _ (by simp)]
          simp only [List.length_cons] at hl hk hk'
          rw [show List.drop 1 ((1 : UInt8) :: s) = s from rfl, F37_eq n s (by omega) (by omega)]
          cases ht : txt s with
          | none => rfl
          | some y =>
            obtain ⟨key, r⟩ := y
            have htl := txt_len ht
            simp only [txtR, List.nil_append, bnd_eq, Bool.not_true, cond_false]
            rw [chk_of _ (by simp [strs_length]; omega)]
            unfold F38_k3
            dsimp only
            rw [hw]
            obtain ⟨x, hx, hans⟩ := hg r (by omega)
            rw [hx]
            cases ho : f r with
            | none =>
              rw [ho] at hans
              obtain ⟨⟨k1, b1, i1, s1, l1, ks1⟩, r1, ok⟩ := x
              simp only [Ans] at hans
              subst hans
              rfl
            | some y =>
              rw [ho] at hans
              simp only [Ans] at hans
              subst hans
              obtain ⟨⟨k1, b1, i1, s1, l1, ks1⟩, r1⟩ := y
              have hlt := hf.lt ho
              simp only [bnd_eq, Bool.not_true, cond_false]
              rw [chk_of _ (by simp; omega)]
              exact ih k' r1 _ _ (by omega) (by omega) (by simp; omega) (by simp [hkl])
        · have e1 : (((b.toNat : Nat) : Int) != 1) = true := by have : (((b.toNat : Nat) : Int) == 1) = false := byteI_ne hb1; simp [bne, this]
          simp only [e1, cond_true, if_neg hb1]
end
end Rk
