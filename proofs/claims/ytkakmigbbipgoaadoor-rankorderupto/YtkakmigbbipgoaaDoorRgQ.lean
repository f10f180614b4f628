/- Keys and values: the laws of reading. -/
import Derived.Test.YtkakmigbbipgoaaDoorRgP
import Derived.Test.YtkakmigbbipgoaaDoorRkJ
open Go Go.Proofs Ax
namespace Rk

mutual
def depth : Val → Nat
  | .mk _ _ _ _ l _ => 1 + depthL l
def depthL : List Val → Nat
  | [] => 0
  | v :: l => max (depth v) (depthL l)
end
theorem depthL_append (a b : List Val) : depthL (a ++ b) = max (depthL a) (depthL b) := by
  induction a with
  | nil => simp [depthL]
  | cons v a ih => simp only [List.cons_append, depthL, ih]; omega
theorem bigs_append (a b : List Val) : bigs (a ++ b) = bigs a + bigs b := by
  induction a with
  | nil => simp [bigs]
  | cons v a ih => simp only [List.cons_append, bigs, ih]; omega
theorem kbig_append (a b : List (List UInt8)) : kbig (a ++ b) = kbig a + kbig b := by
  induction a with
  | nil => simp [kbig]
  | cons v a ih => simp only [List.cons_append, kbig, ih]; omega

section
variable {f f' : List UInt8 → Option (Val × List UInt8)}
theorem rdL_prefix : ∀ {k : Nat} {s : List UInt8} {acc l : List Val} {r : List UInt8}, rdL f k s acc = some (l, r) → ∃ m, l = acc ++ m
  | 0, _, _, _, _, h => by cases h
  | k + 1, [], _, _, _, h => by cases h
  | k + 1, b :: s, acc, l, r, h => by
    rw [rdL] at h
    split at h
    · cases h; exact ⟨[], by simp⟩
    · split at h
      · rename_i x hx
        obtain ⟨m, hm⟩ := rdL_prefix h
        exact ⟨x.1 :: m, by rw [hm]; simp⟩
      · cases h
theorem rdK_prefix : ∀ {k : Nat} {s : List UInt8} {acc l : List Val} {ks ks' : List (List UInt8)} {r : List UInt8}, rdK f k s acc ks = some (l, ks', r) → ∃ m, l = acc ++ m
  | 0, _, _, _, _, _, _, h => by cases h
  | k + 1, [], _, _, _, _, _, h => by cases h
  | k + 1, b :: s, acc, l, ks, ks', r, h => by
    rw [rdK] at h
    split at h
    · cases h; exact ⟨[], by simp⟩
    · split at h
      · split at h
        · split at h
          · rename_i x hx
            obtain ⟨m, hm⟩ := rdK_prefix h
            exact ⟨x.1 :: m, by rw [hm]; simp⟩
          · cases h
        · cases h
      · cases h
theorem rdL_lift {D : Nat} (hf : ∀ s v r, f s = some (v, r) → depth v ≤ D → f' s = some (v, r)) : ∀ {k : Nat} {s : List UInt8} {acc l : List Val} {r : List UInt8}, rdL f k s acc = some (l, r) → depthL l ≤ D → rdL f' k s acc = some (l, r)
  | 0, _, _, _, _, h, _ => by cases h
  | k + 1, [], _, _, _, h, _ => by cases h
  | k + 1, b :: s, acc, l, r, h, hd => by
    rw [rdL] at h ⊢
    split at h
    · rename_i hb; rw [if_pos hb]; exact h
    · rename_i hb
      rw [if_neg hb]
      split at h
      · rename_i x hx
        obtain ⟨m, hm⟩ := rdL_prefix h
        have : depth x.1 ≤ D := by
          rw [hm, depthL_append, depthL_append] at hd
          simp only [depthL] at hd
          omega
        rw [hf _ _ _ hx this]
        exact rdL_lift hf h hd
      · cases h
theorem rdK_lift {D : Nat} (hf : ∀ s v r, f s = some (v, r) → depth v ≤ D → f' s = some (v, r)) : ∀ {k : Nat} {s : List UInt8} {acc l : List Val} {ks ks' : List (List UInt8)} {r : List UInt8}, rdK f k s acc ks = some (l, ks', r) → depthL l ≤ D → rdK f' k s acc ks = some (l, ks', r)
  | 0, _, _, _, _, _, _, h, _ => by cases h
  | k + 1, [], _, _, _, _, _, h, _ => by cases h
  | k + 1, b :: s, acc, l, ks, ks', r, h, hd => by
    rw [rdK] at h ⊢
    split at h
    · rename_i hb; rw [if_pos hb]; exact h
    · rename_i hb
      rw [if_neg hb]
      split at h
      · rename_i hb1
        rw [if_pos hb1]
        split at h
        · rename_i y hy
          split at h
          · rename_i x hx
            obtain ⟨m, hm⟩ := rdK_prefix h
            have : depth x.1 ≤ D := by
              rw [hm, depthL_append, depthL_append] at hd
              simp only [depthL] at hd
              omega
            rw [hf _ _ _ hx this]
            exact rdK_lift hf h hd
          · cases h
        · cases h
      · cases h
theorem rdL_big (hf : ∀ s v r, f s = some (v, r) → v.big + r.length ≤ s.length) : ∀ {k : Nat} {s : List UInt8} {acc l : List Val} {r : List UInt8}, rdL f k s acc = some (l, r) → bigs l + r.length + 1 ≤ bigs acc + s.length
  | 0, _, _, _, _, h => by cases h
  | k + 1, [], _, _, _, h => by cases h
  | k + 1, b :: s, acc, l, r, h => by
    rw [rdL] at h
    split at h
    · cases h; simp; omega
    · split at h
      · rename_i x hx
        have h1 := hf _ _ _ hx
        have h2 := rdL_big hf h
        rw [bigs_append] at h2
        simp only [bigs, List.length_cons] at *
        omega
      · cases h
theorem rdK_big (hf : ∀ s v r, f s = some (v, r) → v.big + r.length ≤ s.length) : ∀ {k : Nat} {s : List UInt8} {acc l : List Val} {ks ks' : List (List UInt8)} {r : List UInt8}, rdK f k s acc ks = some (l, ks', r) → bigs l + kbig ks' + r.length + 1 ≤ bigs acc + kbig ks + s.length
  | 0, _, _, _, _, _, _, h => by cases h
  | k + 1, [], _, _, _, _, _, h => by cases h
  | k + 1, b :: s, acc, l, ks, ks', r, h => by
    rw [rdK] at h
    split at h
    · cases h; simp; omega
    · split at h
      · split at h
        · rename_i y hy
          split at h
          · rename_i x hx
            have h0 := txt_len hy
            have h1 := hf _ _ _ hx
            have h2 := rdK_big hf h
            rw [bigs_append, kbig_append] at h2
            simp only [bigs, kbig, List.length_cons] at *
            omega
          · cases h
        · cases h
      · cases h
end

theorem rd_4 (d : Nat) (s : List UInt8) : rd (d + 1) (4 :: s) = (rdL (rd d) (s.length + 1) s []).map fun x => (.mk 4 false 0 [] x.1 [], x.2) := rfl
theorem rd_1 (d : Nat) (s : List UInt8) : rd (d + 1) (1 :: s) = (rdK (rd d) (s.length + 1) s [] []).map fun x => (.mk 5 false 0 [] x.1 x.2.1, x.2.2) := rfl
theorem rd_flat (d d' : Nat) (m : UInt8) (s : List UInt8) (h4 : m ≠ 4) (h1 : m ≠ 1) : rd (d + 1) (m :: s) = rd (d' + 1) (m :: s) := by
  rw [rd_cons, rd_cons]
  simp only [if_neg h4, if_neg h1]
theorem depth_pos (v : Val) : 1 ≤ depth v := by cases v; simp only [depth]; omega
theorem rd_lift : ∀ (d d' : Nat) (s : List UInt8) (v : Val) (r : List UInt8), rd d s = some (v, r) → depth v ≤ d' → rd d' s = some (v, r)
  | 0, _, _, _, _, h, _ => by cases h
  | d + 1, d', [], v, r, h, _ => by cases h
  | d + 1, d', m :: s, v, r, h, hd => by
    have hd1 := depth_pos v
    obtain ⟨d', rfl⟩ : ∃ j, d' = j + 1 := ⟨d' - 1, by omega⟩
    by_cases h4 : m = 4
    · subst h4
      rw [rd_4] at h ⊢
      cases h1 : rdL (rd d) (s.length + 1) s [] with
      | none => rw [h1] at h; cases h
      | some x =>
        rw [h1] at h
        cases h
        have : depthL x.1 ≤ d' := by simp only [depth] at hd; omega
        rw [rdL_lift (fun s v r h => rd_lift d d' s v r h) h1 this]
        rfl
    by_cases h1 : m = 1
    · subst h1
      rw [rd_1] at h ⊢
      cases h1 : rdK (rd d) (s.length + 1) s [] [] with
      | none => rw [h1] at h; cases h
      | some x =>
        rw [h1] at h
        cases h
        have : depthL x.1 ≤ d' := by simp only [depth] at hd; omega
        rw [rdK_lift (fun s v r h => rd_lift d d' s v r h) h1 this]
        rfl
    · rw [rd_flat d' d m s h4 h1]; exact h

theorem rd_big : ∀ (d : Nat) (s : List UInt8) (v : Val) (r : List UInt8), rd d s = some (v, r) → v.big + r.length ≤ s.length
  | 0, _, _, _, h => by cases h
  | d + 1, [], v, r, h => by cases h
  | d + 1, m :: s, v, r, h => by
    by_cases h4 : m = 4
    · subst h4
      rw [rd_4] at h
      cases h1 : rdL (rd d) (s.length + 1) s [] with
      | none => rw [h1] at h; cases h
      | some x =>
        rw [h1] at h
        cases h
        have := rdL_big (rd_big d) h1
        simp only [Val.big, bigs, kbig, List.length_cons, List.length_nil] at *
        omega
    by_cases h1 : m = 1
    · subst h1
      rw [rd_1] at h
      cases h1 : rdK (rd d) (s.length + 1) s [] [] with
      | none => rw [h1] at h; cases h
      | some x =>
        rw [h1] at h
        obtain ⟨l, ks, r'⟩ := x
        cases h
        have := rdK_big (rd_big d) h1
        simp only [Val.big, bigs, kbig, List.length_cons, List.length_nil] at *
        omega
    rw [rd_cons] at h
    simp only [if_neg h4, if_neg h1] at h
    have flat : ∀ (k : Int) (b : Bool) (i : Int), (Val.mk k b i [] [] []).big = 1 := fun _ _ _ => rfl
    split at h
    · cases h; rw [flat]; simp; omega
    split at h
    · split at h
      · cases h
      · split at h
        · cases h; rw [flat]; simp; omega
        · cases h
    split at h
    · split at h
      · cases h
      · cases h; rw [flat]; simp; omega
    split at h
    · split at h
      · cases h
      · cases h; rw [flat]; simp; omega
    split at h
    · split at h
      · cases h
      · cases h; rw [flat]; simp; omega
    split at h
    · cases h1 : txt s with
      | none => rw [h1] at h; cases h
      | some x =>
        rw [h1] at h
        cases h
        have := txt_len h1
        simp only [Val.big, bigs, kbig, List.length_cons] at *
        omega
    · cases h

/-! ### Which values may be -/
mutual
theorem may_depth : ∀ (v : Val) (d p : Int), (lookM v d p).2 = true → (depth v : Int) ≤ d
  | .mk k b i s l ks, d, p, h => by
    unfold lookM at h
    cases hb : (decide (d < 1) || decide (p + 1 > 4096) || !good1 (.mk k b i s l ks)) with
    | true => rw [hb] at h; simp at h
    | false =>
      rw [hb, cond_false] at h
      have h1 : ¬ d < 1 := by simp at hb; omega
      have := may_depthL l (d - 1) (p + 1) h (by omega)
      simp only [depth]
      omega
theorem may_depthL : ∀ (l : List Val) (d p : Int), (lookL l d p).2 = true → 0 ≤ d → (depthL l : Int) ≤ d
  | [], d, p, _, h0 => by simpa [depthL] using h0
  | v :: l, d, p, h, h0 => by
    unfold lookL at h
    cases hb : (lookM v d p).2 with
    | false => rw [hb] at h; simp at h
    | true =>
      rw [hb, cond_true] at h
      have h1 := may_depth v d p hb
      have h2 := may_depthL l d _ h h0
      simp only [depthL]
      omega
end

def backM (s : List UInt8) : Val × Int := match rd 33 s with
  | some (v, []) => bif mayV v then (v, 0) else (nullV, 1)
  | _ => (nullV, 1)

theorem F11_eq (n : Nat) (s : List UInt8) (hs : s.length ≤ 1073741824) (hn : s.length + 200 ≤ n) : F11 n s = some (backM s) := by
  obtain ⟨x, hx, ha⟩ := F19_eq 33 n s (by omega) hs (by omega)
  have hx : F19 n s 32 = some x := hx
  unfold F11 backM
  rw [hx]
  cases ho : rd 33 s with
  | none =>
    rw [ho] at ha
    obtain ⟨⟨k, b, i, t, l, ks⟩, r, ok⟩ := x
    simp only [Ans] at ha
    subst ha
    rfl
  | some y =>
    rw [ho] at ha
    simp only [Ans] at ha
    subst ha
    obtain ⟨⟨k, b, i, t, l, ks⟩, r⟩ := y
    cases r with
    | cons c r => rfl
    | nil =>
      have hbig := rd_big _ _ _ _ ho
      have h15 : F15 n (.mk k b i t l ks) = some (bif mayV (.mk k b i t l ks) then 0 else 20) := by
        unfold F15
        have : decide ((Val.mk k b i t l ks).big ≤ 1099511627776) = true := by simp at hbig ⊢; omega
        rw [this]; rfl
      simp only [bnd_eq]
      have e : (!(bif (!true) then true else (!(([] : List UInt8) == ([] : List UInt8))))) = true := rfl
      rw [e, gsome_t, h15]
      cases mayV (.mk k b i t l ks) <;> rfl

theorem F12_eq (n : Nat) (s : List UInt8) (hs : s.length ≤ 1073741824) (hn : s.length + 200 ≤ n) : F12 n s = some (backM s) := by
  obtain ⟨x, hx, ha⟩ := F20_eq 32 n s 0 (by omega) hs (by omega) (by omega)
  have hx : F20 n s 0 32 = some x := hx
  rw [List.drop_zero] at ha
  unfold F12 backM
  rw [hx]
  cases ho : rd 32 s with
  | none =>
    rw [ho] at ha
    obtain ⟨⟨k, b, i, t, l, ks⟩, r, ok⟩ := x
    simp only [AnsR] at ha
    subst ha
    have : (match rd 33 s with | some (v, []) => bif mayV v then (v, (0 : Int)) else (nullV, 1) | _ => (nullV, 1)) = (nullV, 1) := by
      cases h3 : rd 33 s with
      | none => rfl
      | some y =>
        obtain ⟨v, r⟩ := y
        cases r with
        | cons _ _ => rfl
        | nil =>
          simp only
          cases hm : mayV v with
          | false => rfl
          | true =>
            have hd : depth v ≤ 32 := by have := may_depth v 32 0 hm; omega
            rw [rd_lift 33 32 s v [] h3 hd] at ho
            cases ho
    rw [this]
    rfl
  | some y =>
    rw [ho] at ha
    simp only [AnsR] at ha
    subst ha
    obtain ⟨⟨k, b, i, t, l, ks⟩, r⟩ := y
    obtain ⟨p, hp, hp0⟩ := rd_eats 32 _ _ _ ho
    have hlen : s.length = p.length + r.length := by rw [hp]; simp
    have hbig := rd_big _ _ _ _ ho
    have h33 : ∀ v r, rd 33 s = some (v, r) → mayV v = true → rd 32 s = some (v, r) := fun v r h hm => rd_lift 33 32 s v r h (by have := may_depth v 32 0 hm; omega)
    simp only [bnd_eq]
    cases r with
    | cons c r =>
      have e : (((s.length - (c :: r).length : Nat) : Int) != ((s.length : Nat) : Int)) = true := by simp at hlen ⊢; omega
      simp only [e, Bool.not_true, cond_false, gsome_f, bnd_eq, cond_true]
      cases h3 : rd 33 s with
      | none => rfl
      | some y =>
        obtain ⟨v, r'⟩ := y
        cases r' with
        | cons _ _ => rfl
        | nil =>
          simp only
          cases hm : mayV v with
          | false => rfl
          | true =>
            have := h33 v [] h3 hm
            rw [ho] at this
            cases this
    | nil =>
      have e : (((s.length - ([] : List UInt8).length : Nat) : Int) != ((s.length : Nat) : Int)) = false := by simp
      have h17 : F17 n (.mk k b i t l ks) = some (mayV (.mk k b i t l ks)) := by
        unfold F17
        have : decide ((Val.mk k b i t l ks).big ≤ 1099511627776) = true := by simp at hbig ⊢; omega
        rw [this]; rfl
      simp only [e, Bool.not_true, Bool.not_false, cond_false, gsome_t, h17, bnd_eq]
      cases hm : mayV (.mk k b i t l ks) with
      | false =>
        simp only [Bool.not_false, cond_true]
        cases h3 : rd 33 s with
        | none => rfl
        | some y =>
          obtain ⟨v, r'⟩ := y
          cases r' with
          | cons _ _ => rfl
          | nil =>
            simp only
            cases hm' : mayV v with
            | false => rfl
            | true =>
              have := h33 v [] h3 hm'
              rw [ho] at this
              cases this
              rw [hm] at hm'
              cases hm'
      | true =>
        have hdl : depth (.mk k b i t l ks) ≤ 33 := by have := may_depth _ 32 0 hm; omega
        rw [rd_lift 32 33 s _ _ ho hdl]
        simp [hm]

/-! ### The same -/
theorem F21_refl (n : Nat) (ks : List (List UInt8)) (hn : ks.length < n) (hk : ks.length ≤ 1099511627776) : F21 n ks ks = some true := by
  have loop : ∀ (k i : Nat), ks.length - i < k → i ≤ ks.length → loopK (F21_l1 n ks ks) k (i : Int) = some true := by
    intro k
    induction k with
    | zero => intro i h; omega
    | succ k ih =>
      intro i hi hl
      rw [loopK_succ]
      generalize loopK (F21_l1 n ks ks) k = nx at ih ⊢
      unfold F21_l1
      simp only [strs_length]
      rcases Nat.lt_or_ge i ks.length with h | h
      · have d : decide ((i : Int) < (ks.length : Int)) = true := by simp; omega
        obtain ⟨x, hx⟩ : ∃ x, ks[i]? = some x := ⟨_, List.getElem?_eq_getElem h⟩
        simp only [d, cond_true, idx_nat, hx, bnd_eq]
        rw [show (x == x) = true by simp, wrap_nat i (by omega)]
        exact ih (i + 1) (by omega) h
      · have d : decide ((i : Int) < (ks.length : Int)) = false := by simp; omega
        rw [d]; rfl
  unfold F21
  have : ((((strs ks).length : Nat) : Int) != (((strs ks).length : Nat) : Int)) = false := by simp
  rw [this]
  exact loop n 0 (by omega) (by omega)

theorem F13_refl : ∀ (m n : Nat) (v : Val), v.big ≤ m → m ≤ 1099511627776 → 2 * m + 2 ≤ n → F13 n v v = some true := by
  intro m
  induction m with
  | zero => intro n v h; exact absurd v.big_pos (by omega)
  | succ m ih =>
    rintro n ⟨k, b, i, s, l, ks⟩ hv hm hn
    have hbig : 1 + s.length + bigs l + kbig ks ≤ m + 1 := hv
    have hk := kbig_len ks
    have hl := bigs_len l
    obtain ⟨n, rfl⟩ : ∃ j, n = j + 2 := ⟨n - 2, by omega⟩
    show BF13 (n + 1) (F13 (n + 1)) (F22 (n + 1)) _ _ = _
    have h22 : F22 (n + 1) l l = some true := by
      show BF22 n (F13 n) (F22 n) l l = _
      have loop : ∀ (j x : Nat), l.length - x < j → x ≤ l.length → loopK (F22_l1 n l l (F13 n)) j (x : Int) = some true := by
        intro j
        induction j with
        | zero => intro x h; omega
        | succ j ih2 =>
          intro x hx hxl
          rw [loopK_succ]
          generalize loopK (F22_l1 n l l (F13 n)) j = nx at ih2 ⊢
          unfold F22_l1
          simp only [valRows_len]
          rcases Nat.lt_or_ge x l.length with h | h
          · have d : decide ((x : Int) < (l.length : Int)) = true := by simp; omega
            obtain ⟨⟨k', b', i', s', l', ks'⟩, hv⟩ : ∃ v, l[x]? = some v := ⟨_, List.getElem?_eq_getElem h⟩
            have hb := bigs_mem (List.mem_of_getElem? hv)
            simp only [d, cond_true, idx_nat, hv, bnd_eq]
            rw [ih n (.mk k' b' i' s' l' ks') (by omega) (by omega) (by omega)]
            simp only [bnd_eq, Bool.not_true, cond_false]
            rw [wrap_nat x (by omega)]
            exact ih2 (x + 1) (by omega) h
          · have d : decide ((x : Int) < (l.length : Int)) = false := by simp; omega
            rw [d]; rfl
      unfold BF22
      have : ((((Val.rows l).length : Nat) : Int) != (((Val.rows l).length : Nat) : Int)) = false := by simp
      rw [this]
      exact loop n 0 (by omega) (by omega)
    unfold BF13
    simp [F21_refl (n + 1) ks (by omega) (by omega), h22]

theorem F10_eq (n : Nat) (hn : 300 ≤ n) : F10 n = some true := by
  have h8 : F8 n (Val.mk (3 : Int) false (0 : Int) [97] ([] : List Val) ([] : List (List UInt8))) = some ([5, 97, 0, 0], 0) := by kernel_rfl
  have h11 : F11 n [6, 1] = some (.mk 1 true 0 [] [] [], 0) := by
    rw [F11_eq n [6, 1] (by simp) (by simp; omega)]
    kernel_rfl
  unfold F10
  rw [h8, h11]
  rfl

/-- RankReads. -/
theorem F4_true (n : Nat) (s : List UInt8) (hs : s.length ≤ 1048576) (hn : 4194304 ≤ n) : F4 n s = some true := by
  unfold F4
  rw [F11_eq n s (by omega) (by omega), F12_eq n s (by omega) (by omega)]
  have hb : (backM s).1.big ≤ 1048577 := by
    unfold backM
    split
    · rename_i v ho
      have := rd_big _ _ _ _ ho
      cases mayV v
      · simp [Val.big, bigs, kbig]
      · simp only [cond_true]
        simp at this
        omega
    · simp [Val.big, bigs, kbig]
  generalize backM s = z at hb ⊢
  obtain ⟨⟨k, b, i, t, l, ks⟩, e⟩ := z
  simp only [bnd_eq]
  rw [F13_refl 1048577 n (.mk k b i t l ks) hb (by omega) (by omega), bnd_eq, F10_eq n (by omega)]
  simp
end Rk
