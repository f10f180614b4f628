/- The order of values is the order of their keys. -/
import Derived.Test.YtkakmigbbipgoaaDoorRgT
open Go Go.Proofs Ax
namespace Rk

def cb : List UInt8 → List UInt8 → Int
  | [], [] => 0
  | [], _ :: _ => -1
  | _ :: _, [] => 1
  | a :: x, b :: y => if a < b then -1 else if b < a then 1 else cb x y
def th (a b : Int) : Int := if a = 0 then b else a
def cmpI (a b : Int) : Int := if a < b then -1 else if b < a then 1 else 0

theorem th_zero (b : Int) : th 0 b = b := rfl
theorem th_ne {a : Int} (b : Int) (h : a ≠ 0) : th a b = a := if_neg h
theorem th_assoc (a b c : Int) : th (th a b) c = th a (th b c) := by
  by_cases h : a = 0
  · subst h; rfl
  · rw [th_ne _ h, th_ne _ h, th_ne _ h]
theorem cb_same (a : UInt8) (x y : List UInt8) : cb (a :: x) (a :: y) = cb x y := by
  have : ¬ a < a := UInt8.lt_irrefl a
  simp [cb, this]
theorem cb_lt {a b : UInt8} (x y : List UInt8) (h : a < b) : cb (a :: x) (b :: y) = -1 := by simp [cb, h]
theorem cb_gt {a b : UInt8} (x y : List UInt8) (h : b < a) : cb (a :: x) (b :: y) = 1 := by
  have : ¬ a < b := fun h2 => absurd (UInt8.lt_trans h h2) (UInt8.lt_irrefl b)
  simp [cb, this, h]
theorem cb_pre (p x y : List UInt8) : cb (p ++ x) (p ++ y) = cb x y := by
  induction p with
  | nil => rfl
  | cons a p ih => rw [List.cons_append, List.cons_append, cb_same, ih]

theorem u8_tri (a b : UInt8) : a < b ∨ a = b ∨ b < a := by
  rcases Nat.lt_trichotomy a.toNat b.toNat with h | h | h
  · exact .inl (UInt8.lt_iff_toNat_lt.2 h)
  · exact .inr (.inl (UInt8.toNat.inj h))
  · exact .inr (.inr (UInt8.lt_iff_toNat_lt.2 h))

theorem cb_facts : ∀ x y : List UInt8, Op.bytesLess x y = decide (cb x y < 0) ∧ (x == y) = (cb x y == 0) ∧ (cb x y = -1 ∨ cb x y = 0 ∨ cb x y = 1)
  | [], [] => ⟨rfl, rfl, .inr (.inl rfl)⟩
  | [], _ :: _ => ⟨rfl, rfl, .inl rfl⟩
  | _ :: _, [] => ⟨rfl, rfl, .inr (.inr rfl)⟩
  | a :: x, b :: y => by
    have ih := cb_facts x y
    rcases u8_tri a b with h | h | h
    · rw [cb_lt _ _ h]
      have hne : a ≠ b := fun e => absurd (e ▸ h) (UInt8.lt_irrefl b)
      refine ⟨by simp [Op.bytesLess, h], by simp [hne], .inl rfl⟩
    · subst h
      rw [cb_same]
      refine ⟨?_, ?_, ih.2.2⟩
      · have : ¬ a < a := UInt8.lt_irrefl a
        simp [Op.bytesLess, this, ih.1]
      · have := ih.2.1
        rw [← this]
        rw [Bool.eq_iff_iff]; simp
    · rw [cb_gt _ _ h]
      have hne : a ≠ b := fun e => absurd (e ▸ h) (UInt8.lt_irrefl b)
      have hn : ¬ a < b := fun h2 => absurd (UInt8.lt_trans h h2) (UInt8.lt_irrefl b)
      refine ⟨by simp [Op.bytesLess, hn, hne], by simp [hne], .inr (.inr rfl)⟩

theorem F23_eq (n : Nat) (a b : Int) : F23 n a b = some (cmpI a b) := by
  unfold F23 F41 cmpI
  have e1 : (a != a) = false := by simp
  have e2 : (b != b) = false := by simp
  simp only [bnd_eq, e1, e2, cond_false]
  by_cases h1 : a < b
  · simp [h1]
  · by_cases h2 : b < a
    · simp [h1, h2]
    · simp [h1, h2]
theorem F28_eq (n : Nat) (a b : Int) : F28 n a b = some (cmpI a b) := by
  unfold F28 F43 cmpI
  have e1 : (a != a) = false := by simp
  have e2 : (b != b) = false := by simp
  simp only [bnd_eq, e1, e2, cond_false]
  by_cases h1 : a < b
  · simp [h1]
  · by_cases h2 : b < a
    · simp [h1, h2]
    · simp [h1, h2]
theorem F25_eq (n : Nat) (a b : List UInt8) : F25 n a b = some (cb a b) := by
  unfold F25 F42
  have e1 : (!(a == a)) = false := by simp
  have e2 : (!(b == b)) = false := by simp
  obtain ⟨h1, h2, h3⟩ := cb_facts a b
  simp only [bnd_eq, e1, e2, cond_false, h1, h2]
  rcases h3 with h | h | h <;> rw [h] <;> rfl
theorem F27_eq (n : Nat) (b : Bool) : F27 n b = some (if b then 1 else 0) := by cases b <;> rfl

theorem F26_loop (n : Nat) (l : List Int) (hl : l.length ≤ 100) : ∀ (k i : Nat), l.length - i < k → i ≤ l.length → loopK (F26_l1 n l) k (i : Int) = some ((l.drop i).foldr th 0) := by
  intro k
  induction k with
  | zero => intro i h; omega
  | succ k ih =>
    intro i hk hi
    rw [loopK_succ]
    generalize loopK (F26_l1 n l) k = nx at ih ⊢
    unfold F26_l1
    have hlen : (intRows .i64 l).length = l.length := by simp [intRows]
    simp only [hlen, idx_nat]
    rcases Nat.lt_or_ge i l.length with h | h
    · have d : decide ((i : Int) < (l.length : Int)) = true := by simp; omega
      obtain ⟨x, hx⟩ : ∃ x, l[i]? = some x := ⟨_, List.getElem?_eq_getElem h⟩
      have hd : l.drop i = x :: l.drop (i + 1) := by
        obtain ⟨hlt, rfl⟩ := List.getElem?_eq_some_iff.1 hx
        exact List.drop_eq_getElem_cons hlt
      simp only [d, cond_true, hx, bnd_eq, hd, List.foldr_cons]
      by_cases h0 : x = 0
      · subst h0
        have : ((0 : Int) != 0) = false := rfl
        rw [this, cond_false, wrap_nat i (by omega), th_zero]
        exact ih (i + 1) (by omega) h
      · have : (x != 0) = true := by simpa using h0
        rw [this, cond_true, th_ne _ h0]
    · have d : decide ((i : Int) < (l.length : Int)) = false := by simp; omega
      rw [d, List.drop_eq_nil_of_le h]
      rfl
theorem F26_eq (n : Nat) (l : List Int) (hl : l.length ≤ 100) (hn : l.length < n) : F26 n l = some (l.foldr th 0) := by
  have := F26_loop n l hl n 0 (by omega) (by omega)
  rwa [List.drop_zero] at this
theorem th_r0 (a : Int) : th a 0 = a := by
  by_cases h : a = 0
  · subst h; rfl
  · exact th_ne _ h

/-! ### Codes -/
theorem beN_cons (a : UInt8) (l : List UInt8) : beN (a :: l) = a.toNat * 256 ^ l.length + beN l := by
  have gen : ∀ (l : List UInt8) (m : Nat), l.foldl (fun n b => n * 256 + b.toNat) m = m * 256 ^ l.length + l.foldl (fun n b => n * 256 + b.toNat) 0 := by
    intro l
    induction l with
    | nil => intro m; simp
    | cons b l ih =>
      intro m
      rw [List.foldl_cons, List.foldl_cons, ih, ih (0 * 256 + b.toNat), List.length_cons, Nat.pow_succ]
      rw [Nat.add_mul, Nat.zero_mul, Nat.zero_add, Nat.mul_assoc, Nat.mul_comm 256]
      omega
  unfold beN
  rw [List.foldl_cons, gen]
  simp

theorem cb_fixed : ∀ (l l' r r' : List UInt8), l.length = l'.length → cb (l ++ r) (l' ++ r') = th (cmpI (beN l) (beN l')) (cb r r')
  | [], [], r, r', _ => by simp [beN, cmpI, th]
  | [], _ :: _, _, _, h => by cases h
  | _ :: _, [], _, _, h => by cases h
  | a :: l, b :: l', r, r', h => by
    have hl : l.length = l'.length := by simpa using h
    have h1 := beN_lt l
    have h2 := beN_lt l'
    rw [beN_cons, beN_cons]
    rw [hl] at h1 ⊢
    rcases u8_tri a b with hab | hab | hab
    · rw [List.cons_append, List.cons_append, cb_lt _ _ hab]
      have hn := UInt8.lt_iff_toNat_lt.1 hab
      have : (a.toNat + 1) * 256 ^ l'.length ≤ b.toNat * 256 ^ l'.length := Nat.mul_le_mul_right _ hn
      rw [Nat.add_mul, Nat.one_mul] at this
      have hlt : ((a.toNat * 256 ^ l'.length + beN l : Nat) : Int) < ((b.toNat * 256 ^ l'.length + beN l' : Nat) : Int) := Int.ofNat_lt.2 (by omega)
      unfold cmpI
      rw [if_pos hlt]
      rfl
    · subst hab
      rw [List.cons_append, List.cons_append, cb_same, cb_fixed l l' r r' hl]
      congr 1
      unfold cmpI
      have e1 : (((a.toNat * 256 ^ l'.length + beN l : Nat) : Int) < ((a.toNat * 256 ^ l'.length + beN l' : Nat) : Int)) = ((beN l : Int) < (beN l' : Int)) := by
        apply propext; omega
      have e2 : (((a.toNat * 256 ^ l'.length + beN l' : Nat) : Int) < ((a.toNat * 256 ^ l'.length + beN l : Nat) : Int)) = ((beN l' : Int) < (beN l : Int)) := by
        apply propext; omega
      simp only [e1, e2]
    · rw [List.cons_append, List.cons_append, cb_gt _ _ hab]
      have hn := UInt8.lt_iff_toNat_lt.1 hab
      have : (b.toNat + 1) * 256 ^ l'.length ≤ a.toNat * 256 ^ l'.length := Nat.mul_le_mul_right _ hn
      rw [Nat.add_mul, Nat.one_mul] at this
      have hlt : ((b.toNat * 256 ^ l'.length + beN l' : Nat) : Int) < ((a.toNat * 256 ^ l'.length + beN l : Nat) : Int) := Int.ofNat_lt.2 (by omega)
      unfold cmpI
      rw [if_neg (by omega), if_pos hlt]
      rfl

theorem cb_eight (m m' : Nat) (h : m < 18446744073709551616) (h' : m' < 18446744073709551616) (r r' : List UInt8) : cb (eightL m ++ r) (eightL m' ++ r') = th (cmpI m m') (cb r r') := by
  rw [cb_fixed (eightL m) (eightL m') r r' rfl, beN_eight m h, beN_eight m' h']

theorem pos_of_ne {b : UInt8} (h : b ≠ 0) : 0 < b := by
  rcases u8_tri 0 b with h1 | h1 | h1
  · exact h1
  · exact absurd h1.symm h
  · exact absurd (UInt8.lt_iff_toNat_lt.1 h1) (by simp)

theorem ended_cons (b : UInt8) (s r : List UInt8) : endedM (b :: s) ++ r = if b = 0 then 0 :: 255 :: (endedM s ++ r) else b :: (endedM s ++ r) := by
  by_cases hb : b = 0
  · subst hb; simp [endedM, esc]
  · simp [endedM, esc, hb]
theorem ended_nil (r : List UInt8) : endedM [] ++ r = 0 :: 0 :: r := rfl

theorem cb_ended : ∀ (s t r r' : List UInt8), cb (endedM s ++ r) (endedM t ++ r') = th (cb s t) (cb r r')
  | [], [], r, r' => by rw [ended_nil, ended_nil, cb_same, cb_same]; rfl
  | [], b :: t, r, r' => by
    rw [ended_nil, ended_cons]
    by_cases hb : b = 0
    · subst hb; rw [if_pos rfl, cb_same, cb_lt _ _ (by decide)]; rfl
    · rw [if_neg hb, cb_lt _ _ (pos_of_ne hb)]; rfl
  | a :: s, [], r, r' => by
    rw [ended_nil, ended_cons]
    by_cases ha : a = 0
    · subst ha; rw [if_pos rfl, cb_same, cb_gt _ _ (by decide)]; rfl
    · rw [if_neg ha, cb_gt _ _ (pos_of_ne ha)]; rfl
  | a :: s, b :: t, r, r' => by
    rw [ended_cons, ended_cons]
    have ih := cb_ended s t r r'
    by_cases ha : a = 0
    · subst ha
      by_cases hb : b = 0
      · subst hb; rw [if_pos rfl, if_pos rfl, cb_same, cb_same, cb_same, ih]
      · rw [if_pos rfl, if_neg hb, cb_lt _ _ (pos_of_ne hb), cb_lt _ _ (pos_of_ne hb)]; rfl
    · by_cases hb : b = 0
      · subst hb; rw [if_neg ha, if_pos rfl, cb_gt _ _ (pos_of_ne ha), cb_gt _ _ (pos_of_ne ha)]; rfl
      · rw [if_neg ha, if_neg hb]
        rcases u8_tri a b with h | h | h
        · rw [cb_lt _ _ h, cb_lt _ _ h]; rfl
        · subst h; rw [cb_same, cb_same, ih]
        · rw [cb_gt _ _ h, cb_gt _ _ h]; rfl

/-- c is the order of two values, and of their keys. -/
def Ord (a b : Val) (c : Int) : Prop := ∀ r r', cb (layM a ++ r) (layM b ++ r') = th c (cb r r')
def mark (k : Int) : Int := if k = 5 then 0 else if k = 6 then 1 else if k = 7 then 2 else if k = 4 then 3 else if k = 3 then 4 else if k = 1 then 5 else if k = 2 then 6 else 7

theorem F24_eq (n : Nat) (k : Int) (h0 : 0 ≤ k) (h1 : k ≤ 7) : F24 n (IntKind.i64.wrap (((BitVec.ofInt IntKind.i64.bits k &&& BitVec.ofInt IntKind.i64.bits (7 : Int)).toNat : Nat) : Int)) = some (mark k) := by
  have : k = 0 ∨ k = 1 ∨ k = 2 ∨ k = 3 ∨ k = 4 ∨ k = 5 ∨ k = 6 ∨ k = 7 := by omega
  rcases this with h | h | h | h | h | h | h | h <;> subst h <;> rfl

theorem lay_mark {k : Int} {b : Bool} {i : Int} {s : List UInt8} {l : List Val} {ks : List (List UInt8)} (hr : right (.mk k b i s l ks) = true) :
    ∃ t m, layM (.mk k b i s l ks) = m :: t ∧ ((m.toNat : Nat) : Int) = mark k + 1 ∧ 0 ≤ k ∧ k ≤ 7 := by
  simp only [right, Bool.and_eq_true] at hr
  rcases good_shape hr.1 with ⟨rfl, rfl, rfl, rfl, rfl, rfl⟩ | ⟨rfl, rfl, rfl, rfl, rfl⟩ | ⟨rfl, rfl, rfl, rfl, rfl⟩ | ⟨rfl, rfl, rfl, rfl, rfl⟩ | ⟨rfl, rfl, rfl, rfl, rfl⟩ | ⟨rfl, rfl, rfl, rfl, hkl, _⟩ | ⟨rfl, rfl, rfl, rfl, rfl, _⟩ | ⟨rfl, rfl, rfl, rfl, rfl, _⟩ <;>
    exact ⟨_, _, rfl, rfl, by decide, by decide⟩

theorem mark_inj {k k' : Int} (h0 : 0 ≤ k) (h1 : k ≤ 7) (h0' : 0 ≤ k') (h1' : k' ≤ 7) (h : mark k = mark k') : k = k' := by
  have a : k = 0 ∨ k = 1 ∨ k = 2 ∨ k = 3 ∨ k = 4 ∨ k = 5 ∨ k = 6 ∨ k = 7 := by omega
  have b : k' = 0 ∨ k' = 1 ∨ k' = 2 ∨ k' = 3 ∨ k' = 4 ∨ k' = 5 ∨ k' = 6 ∨ k' = 7 := by omega
  rcases a with rfl | rfl | rfl | rfl | rfl | rfl | rfl | rfl <;> rcases b with rfl | rfl | rfl | rfl | rfl | rfl | rfl | rfl <;> first | rfl | exact absurd h (by decide)

theorem cb_heads {m m' : UInt8} (x y : List UInt8) {c : Int} (hc : c = cmpI (m.toNat : Int) (m'.toNat : Int)) (h : m ≠ m') : cb (m :: x) (m' :: y) = c ∧ c ≠ 0 := by
  subst hc
  unfold cmpI
  rcases u8_tri m m' with h1 | h1 | h1
  · have := UInt8.lt_iff_toNat_lt.1 h1
    rw [cb_lt _ _ h1, if_pos (by omega)]
    exact ⟨rfl, by decide⟩
  · exact absurd h1 h
  · have := UInt8.lt_iff_toNat_lt.1 h1
    rw [cb_gt _ _ h1, if_neg (by omega), if_pos (by omega)]
    exact ⟨rfl, by decide⟩

/-- Kinds that part. -/
theorem ord_kinds {k k' : Int} {b b' : Bool} {i i' : Int} {s s' : List UInt8} {l l' : List Val} {ks ks' : List (List UInt8)} (hr : right (.mk k b i s l ks) = true) (hr' : right (.mk k' b' i' s' l' ks') = true) (h : k ≠ k') :
    Ord (.mk k b i s l ks) (.mk k' b' i' s' l' ks') (cmpI (mark k) (mark k')) := by
  obtain ⟨t, m, hm, hk, h0, h1⟩ := lay_mark hr
  obtain ⟨t', m', hm', hk', h0', h1'⟩ := lay_mark hr'
  intro r r'
  rw [hm, hm']
  have hne : m ≠ m' := by
    intro e
    subst e
    exact h (mark_inj h0 h1 h0' h1' (by omega))
  have hc : cmpI (mark k) (mark k') = cmpI ((m.toNat : Nat) : Int) ((m'.toNat : Nat) : Int) := by
    unfold cmpI
    simp only [hk, hk']
    have e1 : (mark k + 1 < mark k' + 1) = (mark k < mark k') := propext (by omega)
    have e2 : (mark k' + 1 < mark k + 1) = (mark k' < mark k) := propext (by omega)
    simp only [e1, e2]
  obtain ⟨h2, h3⟩ := cb_heads (t ++ r) (t' ++ r') hc hne
  rw [List.cons_append, List.cons_append, h2, th_ne _ h3]

theorem cb_head0 (v : Val) (x y : List UInt8) : cb (0 :: x) (layM v ++ y) = -1 ∧ cb (layM v ++ y) (0 :: x) = 1 := by
  obtain ⟨m, t, hm, h0⟩ := lay_head v
  rw [hm, List.cons_append]
  exact ⟨cb_lt _ _ (pos_of_ne h0), cb_gt _ _ (pos_of_ne h0)⟩

theorem drop_consV {l : List Val} {i : Nat} {v : Val} (h : l[i]? = some v) : l.drop i = v :: l.drop (i + 1) := by
  obtain ⟨hlt, rfl⟩ := List.getElem?_eq_some_iff.1 h
  exact List.drop_eq_getElem_cons hlt
theorem drop_consK {l : List (List UInt8)} {i : Nat} {v : List UInt8} (h : l[i]? = some v) : l.drop i = v :: l.drop (i + 1) := by
  obtain ⟨hlt, rfl⟩ := List.getElem?_eq_some_iff.1 h
  exact List.drop_eq_getElem_cons hlt
theorem cmpI_self (a : Int) : cmpI a a = 0 := by simp [cmpI]

section
variable {n : Nat} {g : Val → Val → Option Int} {l l' : List Val} {ks ks' : List (List UInt8)}

theorem F14_list (hn : 10 ≤ n) (hl : l.length ≤ 1099511627776) (hg : ∀ (i : Nat) (v v' : Val), l[i]? = some v → l'[i]? = some v' → ∃ c, g v v' = some c ∧ Ord v v' c) :
    ∀ (k i : Nat), l.length - i < k → i ≤ l.length → i ≤ l'.length → ∃ c, loopK (F14_l1 n l l' 4 [] [] g false false 0 0 [] []) k (i : Int) = some c ∧
      ∀ r r', cb (layL (l.drop i) ++ 0 :: r) (layL (l'.drop i) ++ 0 :: r') = th c (cb r r') := by
  intro k
  induction k with
  | zero => intro i h; omega
  | succ k ih =>
    intro i hk hi hi'
    rw [loopK_succ]
    generalize loopK (F14_l1 n l l' 4 [] [] g false false 0 0 [] []) k = nx at ih ⊢
    unfold F14_l1
    simp only [valRows_len]
    rcases Nat.lt_or_ge i l.length with h | h
    · have d : decide ((i : Int) < (l.length : Int)) = true := by simp; omega
      obtain ⟨⟨k1, b1, i1, s1, l1, ks1⟩, hv⟩ : ∃ v, l[i]? = some v := ⟨_, List.getElem?_eq_getElem h⟩
      rcases Nat.lt_or_ge i l'.length with h' | h'
      · have d' : decide ((i : Int) < (l'.length : Int)) = true := by simp; omega
        obtain ⟨⟨k2, b2, i2, s2, l2, ks2⟩, hv'⟩ : ∃ v, l'[i]? = some v := ⟨_, List.getElem?_eq_getElem h'⟩
        obtain ⟨c, hc, ho⟩ := hg i _ _ hv hv'
        have e4 : ((4 : Int) == 5) = false := rfl
        simp only [d, d', cond_true, e4, cond_false]
        unfold F14_k3
        simp only [idx_nat, hv, hv', bnd_eq, hc]
        rw [F26_eq n [0, c] (by simp) (by simp; omega)]
        have e : [0, c].foldr th 0 = c := by simp only [List.foldr]; rw [th_zero, th_r0]
        rw [e]
        simp only [bnd_eq]
        by_cases h0 : c = 0
        · subst h0
          have : ((0 : Int) != 0) = false := rfl
          rw [this, cond_false, wrap_nat i (by omega)]
          obtain ⟨c', hc', ho'⟩ := ih (i + 1) (by omega) h h'
          refine ⟨c', hc', fun r r' => ?_⟩
          rw [drop_consV hv, drop_consV hv']
          simp only [layL, List.append_assoc]
          rw [ho, th_zero, ho']
        · have : (c != 0) = true := by simpa using h0
          rw [this, cond_true]
          refine ⟨c, rfl, fun r r' => ?_⟩
          rw [drop_consV hv, drop_consV hv']
          simp only [layL, List.append_assoc]
          rw [ho, th_ne _ h0, th_ne _ h0]
      · have d' : decide ((i : Int) < (l'.length : Int)) = false := by simp; omega
        simp only [d, d', cond_true, cond_false, F23_eq, F27_eq, F28_eq, F25_eq, bnd_eq]
        rw [F26_eq n _ (by simp) (by simp; omega)]
        refine ⟨_, rfl, fun r r' => ?_⟩
        rw [drop_consV hv, List.drop_eq_nil_of_le h']
        have hc : cmpI (l.length : Int) (l'.length : Int) = 1 := by unfold cmpI; rw [if_neg (by omega), if_pos (by omega)]
        rw [hc]
        simp only [layL, List.nil_append, List.append_assoc]
        rw [(cb_head0 _ _ _).2]
        rfl
    · have hil : i = l.length := by omega
      have d : decide ((i : Int) < (l.length : Int)) = false := by simp; omega
      simp only [d, cond_false, F23_eq, F27_eq, F28_eq, F25_eq, bnd_eq]
      rw [F26_eq n _ (by simp) (by simp; omega)]
      refine ⟨_, rfl, fun r r' => ?_⟩
      rw [List.drop_eq_nil_of_le h]
      rcases Nat.lt_or_ge i l'.length with h' | h'
      · obtain ⟨v', hv'⟩ : ∃ v, l'[i]? = some v := ⟨_, List.getElem?_eq_getElem h'⟩
        have hc : cmpI (l.length : Int) (l'.length : Int) = -1 := by unfold cmpI; rw [if_pos (by omega)]
        rw [hc, drop_consV hv']
        simp only [layL, List.nil_append, List.append_assoc]
        rw [(cb_head0 _ _ _).1]
        rfl
      · have : l.length = l'.length := by omega
        rw [this, cmpI_self, List.drop_eq_nil_of_le h']
        simp only [layL, List.nil_append, cb_same]
        rfl

theorem F14_map (hn : 10 ≤ n) (hl : l.length ≤ 1099511627776) (hk1 : ks.length = l.length) (hk2 : ks'.length = l'.length) (hg : ∀ (i : Nat) (v v' : Val), l[i]? = some v → l'[i]? = some v' → ∃ c, g v v' = some c ∧ Ord v v' c) :
    ∀ (k i : Nat), l.length - i < k → i ≤ l.length → i ≤ l'.length → ∃ c, loopK (F14_l1 n l l' 5 ks ks' g false false 0 0 [] []) k (i : Int) = some c ∧
      ∀ r r', cb (layK (l.drop i) (ks.drop i) ++ 0 :: r) (layK (l'.drop i) (ks'.drop i) ++ 0 :: r') = th c (cb r r') := by
  intro k
  induction k with
  | zero => intro i h; omega
  | succ k ih =>
    intro i hk hi hi'
    rw [loopK_succ]
    generalize loopK (F14_l1 n l l' 5 ks ks' g false false 0 0 [] []) k = nx at ih ⊢
    unfold F14_l1
    simp only [valRows_len]
    rcases Nat.lt_or_ge i l.length with h | h
    · have d : decide ((i : Int) < (l.length : Int)) = true := by simp; omega
      obtain ⟨⟨k1, b1, i1, s1, l1, ks1⟩, hv⟩ : ∃ v, l[i]? = some v := ⟨_, List.getElem?_eq_getElem h⟩
      obtain ⟨key, hkey⟩ : ∃ v, ks[i]? = some v := ⟨_, List.getElem?_eq_getElem (by omega)⟩
      rcases Nat.lt_or_ge i l'.length with h' | h'
      · have d' : decide ((i : Int) < (l'.length : Int)) = true := by simp; omega
        obtain ⟨⟨k2, b2, i2, s2, l2, ks2⟩, hv'⟩ : ∃ v, l'[i]? = some v := ⟨_, List.getElem?_eq_getElem h'⟩
        obtain ⟨key', hkey'⟩ : ∃ v, ks'[i]? = some v := ⟨_, List.getElem?_eq_getElem (by omega)⟩
        obtain ⟨c, hc, ho⟩ := hg i _ _ hv hv'
        have e4 : ((5 : Int) == 5) = true := rfl
        simp only [d, d', cond_true, e4, idx_nat, hkey, hkey', bnd_eq, F25_eq]
        unfold F14_k3
        simp only [idx_nat, hv, hv', bnd_eq, hc]
        rw [F26_eq n _ (by simp) (by simp; omega)]
        have e : [cb key key', c].foldr th 0 = th (cb key key') c := by simp only [List.foldr]; rw [th_r0]
        rw [e]
        simp only [bnd_eq]
        have step : ∀ x y, cb (layK ((.mk k1 b1 i1 s1 l1 ks1) :: l.drop (i + 1)) (key :: ks.drop (i + 1)) ++ x) (layK ((.mk k2 b2 i2 s2 l2 ks2) :: l'.drop (i + 1)) (key' :: ks'.drop (i + 1)) ++ y) =
            th (th (cb key key') c) (cb (layK (l.drop (i + 1)) (ks.drop (i + 1)) ++ x) (layK (l'.drop (i + 1)) (ks'.drop (i + 1)) ++ y)) := by
          intro x y
          simp only [layK, List.append_assoc, List.cons_append]
          rw [cb_same, cb_ended, ho, th_assoc]
        by_cases h0 : th (cb key key') c = 0
        · rw [h0] at step ⊢
          have : ((0 : Int) != 0) = false := rfl
          rw [this, cond_false, wrap_nat i (by omega)]
          obtain ⟨c', hc', ho'⟩ := ih (i + 1) (by omega) h h'
          refine ⟨c', hc', fun r r' => ?_⟩
          rw [drop_consV hv, drop_consV hv', drop_consK hkey, drop_consK hkey', step, th_zero, ho']
        · have : (th (cb key key') c != 0) = true := by simpa using h0
          rw [this, cond_true]
          refine ⟨_, rfl, fun r r' => ?_⟩
          rw [drop_consV hv, drop_consV hv', drop_consK hkey, drop_consK hkey', step, th_ne _ h0, th_ne _ h0]
      · have d' : decide ((i : Int) < (l'.length : Int)) = false := by simp; omega
        simp only [d, d', cond_true, cond_false, F23_eq, F27_eq, F28_eq, F25_eq, bnd_eq]
        rw [F26_eq n _ (by simp) (by simp; omega)]
        refine ⟨_, rfl, fun r r' => ?_⟩
        rw [drop_consV hv, drop_consK hkey, List.drop_eq_nil_of_le h']
        have hc : cmpI (l.length : Int) (l'.length : Int) = 1 := by unfold cmpI; rw [if_neg (by omega), if_pos (by omega)]
        rw [hc]
        simp only [layK, List.nil_append, List.append_assoc, List.cons_append]
        rw [cb_gt _ _ (by decide)]
        rfl
    · have hil : i = l.length := by omega
      have d : decide ((i : Int) < (l.length : Int)) = false := by simp; omega
      simp only [d, cond_false, F23_eq, F27_eq, F28_eq, F25_eq, bnd_eq]
      rw [F26_eq n _ (by simp) (by simp; omega)]
      refine ⟨_, rfl, fun r r' => ?_⟩
      rw [List.drop_eq_nil_of_le h]
      rcases Nat.lt_or_ge i l'.length with h' | h'
      · obtain ⟨v', hv'⟩ : ∃ v, l'[i]? = some v := ⟨_, List.getElem?_eq_getElem h'⟩
        obtain ⟨key', hkey'⟩ : ∃ v, ks'[i]? = some v := ⟨_, List.getElem?_eq_getElem (by omega)⟩
        have hc : cmpI (l.length : Int) (l'.length : Int) = -1 := by unfold cmpI; rw [if_pos (by omega)]
        rw [hc, drop_consV hv', drop_consK hkey']
        simp only [layK, List.nil_append, List.append_assoc, List.cons_append]
        rw [cb_lt _ _ (by decide)]
        rfl
      · have : l.length = l'.length := by omega
        rw [this, cmpI_self, List.drop_eq_nil_of_le h']
        simp only [layK, List.nil_append, cb_same]
        rfl
end

theorem rightL_get {l : List Val} (h : rightL l = true) {v : Val} (hm : v ∈ l) : right v = true := by
  induction l with
  | nil => cases hm
  | cons w l ih =>
    simp only [rightL, Bool.and_eq_true] at h
    rcases List.mem_cons.1 hm with rfl | hm
    · exact h.1
    · exact ih h.2 hm
theorem rangeL_get {l : List Val} (h : range64L l = true) {v : Val} (hm : v ∈ l) : range64 v = true := by
  induction l with
  | nil => cases hm
  | cons w l ih =>
    simp only [range64L, Bool.and_eq_true] at h
    rcases List.mem_cons.1 hm with rfl | hm
    · exact h.1
    · exact ih h.2 hm

/-- Where there are no parts the loop ends at once. -/
theorem F14_flat (n : Nat) (hn : 10 ≤ n) (k : Int) (g : Val → Val → Option Int) (b b' : Bool) (i i' : Int) (s s' : List UInt8) (ks ks' : List (List UInt8)) :
    loopK (F14_l1 n [] [] k ks ks' g b b' i i' s s') n 0 = some (th (cmpI (if b then 1 else 0) (if b' then 1 else 0)) (th (cmpI i i') (cb s s'))) := by
  obtain ⟨m, rfl⟩ : ∃ j, n = j + 1 := ⟨n - 1, by omega⟩
  rw [loopK_succ]
  generalize loopK (F14_l1 (m + 1) [] [] k ks ks' g b b' i i' s s') m = nx
  unfold F14_l1
  simp only [valRows_len, List.length_nil, F23_eq, F27_eq, F28_eq, F25_eq, bnd_eq]
  rw [F26_eq (m + 1) _ (by simp) (by simp; omega)]
  simp only [List.foldr, th_r0]
  rfl

theorem off_ord (i i' : Int) (h : int64 i = true) (h' : int64 i' = true) : cmpI ((bits64 i ^^^ 9223372036854775808 : Nat) : Int) ((bits64 i' ^^^ 9223372036854775808 : Nat) : Int) = cmpI i i' := by
  simp only [int64, decide_eq_true_eq] at h h'
  have e : ∀ i : Int, -9223372036854775808 ≤ i ∧ i < 9223372036854775808 → ((bits64 i ^^^ 9223372036854775808 : Nat) : Int) = i + 9223372036854775808 := by
    intro i h
    rw [xor_add _ (bits64_lt i)]
    unfold bits64
    omega
  rw [e i h, e i' h']
  unfold cmpI
  have e1 : (i + 9223372036854775808 < i' + 9223372036854775808) = (i < i') := propext (by omega)
  have e2 : (i' + 9223372036854775808 < i + 9223372036854775808) = (i' < i) := propext (by omega)
  simp only [e1, e2]
theorem pos_bits (i : Int) (h : int64 i = true) (h1 : 1 ≤ i) : (bits64 i : Int) = i := by
  simp only [int64, decide_eq_true_eq] at h
  unfold bits64
  omega

theorem F14_eq : ∀ (m n : Nat) (a b : Val), a.big ≤ m → m ≤ 1099511627776 → m + 20 ≤ n → right a = true → right b = true → range64 a = true → range64 b = true → ∃ c, F14 n a b = some c ∧ Ord a b c := by
  intro m
  induction m with
  | zero => intro n a b h; exact absurd a.big_pos (by omega)
  | succ m ih =>
    rintro n ⟨k, b, i, s, l, ks⟩ ⟨k', b', i', s', l', ks'⟩ ha hm hn hr hr' hi hi'
    obtain ⟨n, rfl⟩ : ∃ j, n = j + 1 := ⟨n - 1, by omega⟩
    have hbig : 1 + s.length + bigs l + kbig ks ≤ m + 1 := ha
    have hll := bigs_len l
    show ∃ c, BF14 n (F14 n) _ _ = some c ∧ _
    have hg : ∀ (x : Nat) (v v' : Val), l[x]? = some v → l'[x]? = some v' → rightL l = true → rightL l' = true → range64L l = true → range64L l' = true → ∃ c, F14 n v v' = some c ∧ Ord v v' c := by
      intro x v v' hv hv' h1 h2 h3 h4
      have hb := bigs_mem (List.mem_of_getElem? hv)
      exact ih n v v' (by omega) (by omega) (by omega) (rightL_get h1 (List.mem_of_getElem? hv)) (rightL_get h2 (List.mem_of_getElem? hv')) (rangeL_get h3 (List.mem_of_getElem? hv)) (rangeL_get h4 (List.mem_of_getElem? hv'))
    unfold BF14
    by_cases hk : k = k'
    · subst hk
      have e : (k != k) = false := by simp
      simp only [e, cond_false]
      simp only [right, Bool.and_eq_true] at hr hr'
      simp only [range64, Bool.and_eq_true] at hi hi'
      rcases good_shape hr.1 with ⟨rfl, rfl, rfl, rfl, rfl, rfl⟩ | ⟨rfl, rfl, rfl, rfl, rfl⟩ | ⟨rfl, rfl, rfl, rfl, rfl⟩ | ⟨rfl, rfl, rfl, rfl, rfl⟩ | ⟨rfl, rfl, rfl, rfl, rfl⟩ | ⟨rfl, rfl, rfl, rfl, hkl, _⟩ | ⟨rfl, rfl, rfl, rfl, rfl, hi1⟩ | ⟨rfl, rfl, rfl, rfl, rfl, hi1⟩
      · rcases good_shape hr'.1 with ⟨_, rfl, rfl, rfl, rfl, rfl⟩ | h | h | h | h | h | h | h <;> try exact absurd h.1 (by decide)
        rw [F14_flat n (by omega)]
        exact ⟨_, rfl, fun r r' => by show cb (8 :: r) (8 :: r') = _; rw [cb_same]; rfl⟩
      · rcases good_shape hr'.1 with h | ⟨_, rfl, rfl, rfl, rfl⟩ | h | h | h | h | h | h <;> try exact absurd h.1 (by decide)
        rw [F14_flat n (by omega)]
        refine ⟨_, rfl, fun r r' => ?_⟩
        cases b <;> cases b'
        · show cb (6 :: 0 :: r) (6 :: 0 :: r') = _; rw [cb_same, cb_same]; rfl
        · show cb (6 :: 0 :: r) (6 :: 1 :: r') = _; rw [cb_same, cb_lt _ _ (by decide)]; rfl
        · show cb (6 :: 1 :: r) (6 :: 0 :: r') = _; rw [cb_same, cb_gt _ _ (by decide)]; rfl
        · show cb (6 :: 1 :: r) (6 :: 1 :: r') = _; rw [cb_same, cb_same]; rfl
      · rcases good_shape hr'.1 with h | h | ⟨_, rfl, rfl, rfl, rfl⟩ | h | h | h | h | h <;> try exact absurd h.1 (by decide)
        rw [F14_flat n (by omega)]
        refine ⟨_, rfl, fun r r' => ?_⟩
        show cb (7 :: (eightL (bits64 i ^^^ 9223372036854775808) ++ r)) (7 :: (eightL (bits64 i' ^^^ 9223372036854775808) ++ r')) = _
        rw [cb_same, cb_eight _ _ (off_lt i) (off_lt i'), off_ord i i' hi.1 hi'.1]
        show _ = th (th (cmpI i i') 0) _
        rw [th_r0]
      · rcases good_shape hr'.1 with h | h | h | ⟨_, rfl, rfl, rfl, rfl⟩ | h | h | h | h <;> try exact absurd h.1 (by decide)
        rw [F14_flat n (by omega)]
        refine ⟨_, rfl, fun r r' => ?_⟩
        show cb (5 :: (endedM s ++ r)) (5 :: (endedM s' ++ r')) = _
        rw [cb_same, cb_ended]
        rfl
      · rcases good_shape hr'.1 with h | h | h | h | ⟨_, rfl, rfl, rfl, rfl⟩ | h | h | h <;> try exact absurd h.1 (by decide)
        obtain ⟨c, hc, ho⟩ := F14_list (n := n) (g := F14 n) (l := l) (l' := l') (by omega) (by omega) (fun x v v' hv hv' => hg x v v' hv hv' hr.2 hr'.2 hi.2 hi'.2) n 0 (by omega) (by omega) (by omega)
        refine ⟨c, hc, fun r r' => ?_⟩
        have e1 : ∀ (l : List Val) (r : List UInt8), layM (.mk 4 false 0 [] l []) ++ r = 4 :: (layL l ++ 0 :: r) := fun l r => by
          show (4 :: layL l ++ [0]) ++ r = _
          simp
        rw [e1, e1, cb_same]
        exact ho r r'
      · rcases good_shape hr'.1 with h | h | h | h | h | ⟨_, rfl, rfl, rfl, hkl', _⟩ | h | h <;> try exact absurd h.1 (by decide)
        obtain ⟨c, hc, ho⟩ := F14_map (n := n) (g := F14 n) (l := l) (l' := l') (ks := ks) (ks' := ks') (by omega) (by omega) hkl hkl' (fun x v v' hv hv' => hg x v v' hv hv' hr.2 hr'.2 hi.2 hi'.2) n 0 (by omega) (by omega) (by omega)
        refine ⟨c, hc, fun r r' => ?_⟩
        have e1 : ∀ (l : List Val) (ks : List (List UInt8)) (r : List UInt8), layM (.mk 5 false 0 [] l ks) ++ r = 1 :: (layK l ks ++ 0 :: r) := fun l ks r => by
          show (1 :: layK l ks ++ [0]) ++ r = _
          simp
        rw [e1, e1, cb_same]
        exact ho r r'
      · rcases good_shape hr'.1 with h | h | h | h | h | h | ⟨_, rfl, rfl, rfl, rfl, hi1'⟩ | h <;> try exact absurd h.1 (by decide)
        rw [F14_flat n (by omega)]
        refine ⟨_, rfl, fun r r' => ?_⟩
        show cb (2 :: (eightL (bits64 i) ++ r)) (2 :: (eightL (bits64 i') ++ r')) = _
        rw [cb_same, cb_eight _ _ (bits64_lt i) (bits64_lt i'), pos_bits i hi.1 hi1, pos_bits i' hi'.1 hi1']
        show _ = th (th (cmpI i i') 0) _
        rw [th_r0]
      · rcases good_shape hr'.1 with h | h | h | h | h | h | h | ⟨_, rfl, rfl, rfl, rfl, hi1'⟩ <;> try exact absurd h.1 (by decide)
        rw [F14_flat n (by omega)]
        refine ⟨_, rfl, fun r r' => ?_⟩
        show cb (3 :: (eightL (bits64 i) ++ r)) (3 :: (eightL (bits64 i') ++ r')) = _
        rw [cb_same, cb_eight _ _ (bits64_lt i) (bits64_lt i'), pos_bits i hi.1 hi1, pos_bits i' hi'.1 hi1']
        show _ = th (th (cmpI i i') 0) _
        rw [th_r0]
    · have e : (k != k') = true := by simpa using hk
      obtain ⟨_, _, _, _, h0, h1⟩ := lay_mark hr
      obtain ⟨_, _, _, _, h0', h1'⟩ := lay_mark hr'
      simp only [e, cond_true]
      rw [F24_eq n k h0 h1, F24_eq n k' h0' h1']
      simp only [bnd_eq, F23_eq]
      exact ⟨_, rfl, ord_kinds hr hr' hk⟩

/-- RankOrder. -/
theorem F7_true (n : Nat) (a b : Val) (ha : a.big ≤ 1048576) (hia : range64 a = true) (hb : b.big ≤ 1048576) (hib : range64 b = true) (hn : 67108864 ≤ n) : F7 n a b = some true := by
  obtain ⟨k, b1, i, t, l, ks⟩ := a
  obtain ⟨k', b', i', t', l', ks'⟩ := b
  unfold F7
  simp only
  rw [F8_eq n _ (by omega), F8_eq n _ (by omega)]
  generalize Val.mk k b1 i t l ks = a at *
  generalize Val.mk k' b' i' t' l' ks' = b at *
  have f10 := F10_eq n (by omega)
  cases hm : mayV a with
  | false => simp [f10]
  | true =>
    cases hm' : mayV b with
    | false => simp [f10]
    | true =>
      obtain ⟨c, hc, ho⟩ := F14_eq 1048576 n a b ha (by omega) (by omega) (may_right a 32 0 hm) (may_right b 32 0 hm') hia hib
      have hcb : cb (layM a) (layM b) = c := by
        have := ho [] []
        simp only [List.append_nil] at this
        rw [this]
        exact th_r0 c
      obtain ⟨h1, h2, h3⟩ := cb_facts (layM a) (layM b)
      rw [hcb] at h1 h2 h3
      have hz : ((0 : Int) != 0) = false := rfl
      simp only [cond_true, bnd_eq, hz, cond_false, hc, h1, h2, f10]
      rcases h3 with h | h | h <;> rw [h] <;> rfl
end Rk
