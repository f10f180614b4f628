/- A part of the proof. -/
import Derived.Test.YtajcpfcghhbbnaaDoorShelf
import Derived.Test.YtajcpfcghhbbnaaDoorC
set_option linter.all false
section
namespace Ax
open Go
variable {Lw : Nat}
section
variable {K V : Type} [BEq K]
def mRows (kp : K → PV) (vp : V → PV) (l : List (K × V)) : List (PV × PV) := l.map fun e => (kp e.1, vp e.2)
def mget (k : K) : List (K × V) → Option V
  | [] => none
  | (k', v) :: l => bif k == k' then some v else mget k l
def mgetD (l : List (K × V)) (k : K) (d : V) : V := (mget k l).getD d
def mhas (l : List (K × V)) (k : K) : Bool := (mget k l).isSome
def mset (k : K) (v : V) : List (K × V) → List (K × V)
  | [] => [(k, v)]
  | (k', v') :: l => bif k == k' then (k, v) :: l else (k', v') :: mset k v l
def KeyOk (kp : K → PV) : Prop := ∀ a b, kEqP (kp a) (kp b) = (a == b)
theorem mFind_rows {kp : K → PV} (hk : KeyOk kp) (vp : V → PV) (k : K) : ∀ l : List (K × V), mFind (kp k) (mRows kp vp l) = (mget k l).map vp
  | [] => rfl
  | (k', v) :: l => by
    have := mFind_rows hk vp k l
    simp only [mRows, List.map_cons, mFind, mget] at this ⊢
    rw [hk k k']
    cases k == k' with
    | true => rfl
    | false => simpa using this
theorem look_D {kp : K → PV} (hk : KeyOk kp) (vp : V → PV) (l : List (K × V)) (k : K) (d : V) : (mFind (kp k) (mRows kp vp l)).getD (vp d) = vp (mgetD l k d) := by
  rw [mFind_rows hk, mgetD]
  cases mget k l <;> rfl
theorem look_b {kp : K → PV} (hk : KeyOk kp) (vp : V → PV) (l : List (K × V)) (k : K) : (mFind (kp k) (mRows kp vp l)).isSome = mhas l k := by
  rw [mFind_rows hk, mhas]
  cases mget k l <;> rfl
theorem set_rows {kp : K → PV} (hk : KeyOk kp) (vp : V → PV) (k : K) (v : V) : ∀ l : List (K × V), mSet (kp k) (vp v) (mRows kp vp l) = mRows kp vp (mset k v l)
  | [] => rfl
  | (k', v') :: l => by
    have := set_rows hk vp k v l
    simp only [mRows, List.map_cons, mSet, mset] at this ⊢
    rw [hk k k']
    cases k == k' with
    | true => rfl
    | false => simpa using this
theorem mRows_len (kp : K → PV) (vp : V → PV) (l : List (K × V)) : (mRows kp vp l).length = l.length := by simp [mRows]
end
theorem keyStr : KeyOk PV.str := fun _ _ => rfl
theorem keyInt (k : IntKind) : KeyOk (PV.int k) := fun _ _ => rfl
theorem keyBool : KeyOk PV.bool := fun _ _ => rfl

theorem Codec.getN {A : Type} (C : Codec A) {l : List A} {j : Nat} {x : A} (h : l[j]? = some x) : (C.rows l)[j]? = some (C.cells x) := by
  rw [C.hrows]; simp [h]
theorem Codec.setN {A : Type} (C : Codec A) (l : List A) (j : Nat) (y : A) : (C.rows l).set j (C.cells y) = C.rows (l.set j y) := by
  rw [C.hrows, C.hrows, List.map_set]

theorem CallsO.less {P : Program} {f : FuncId} {args : List FV} {objs : List AObj} {m m' : Nat} {R : FV → List AObj → Prop} (h : CallsO P f args objs m R) (hm : m' ≤ m) : CallsO P f args objs m' R := by
  intro Lw bs ρ H w vs hb s rl
  have hp : ρ.take m' <+: ρ.take m := by
    have e : ρ.take m' = (ρ.take m).take m' := by rw [List.take_take, Nat.min_eq_left hm]
    rw [e]
    exact List.take_prefix _ _
  have := h { bs with r0 := ρ.take m } ρ H w vs rfl { s with pre := List.take_prefix _ _ } rl
  have back : ∀ {ρ' : List Value} {H' : (PH Lw)} {objs' : List AObj} {w' : World}, SatW { bs with r0 := ρ.take m } ρ' H' objs' w' → SatW bs ρ' H' objs' w' := fun s' => { s' with pre := by rw [hb]; exact hp.trans s'.pre }
  generalize (callFunc f vs.toArray).run P w = x at *
  cases x with
  | ok n w' =>
    cases n <;> simp only at this ⊢ <;> try exact this
    · obtain ⟨r, objs', ρ', H', h1, h2, h3, h4⟩ := this; exact ⟨r, objs', ρ', H', h1, h2, back h3, h4⟩
    · exact ⟨this.1, this.2.mono fun en w'' ⟨v, r, objs', ρ', H', e, h1, h2, h3, h4⟩ => ⟨v, r, objs', ρ', H', e, h1, h2, back h3, h4⟩⟩
  | halt x w' => exact this
mutual
theorem nle_refl : ∀ p : PV, nle p p
  | .agg l => by simp only [nle]; exact nleL_refl l
  | .tup l => by simp only [nle]; exact nleL_refl l
  | .hp l => by simp only [nle]; exact nleL_refl l
  | .clo f l => by simp only [nle]; exact ⟨trivial, nleL_refl l⟩
  | .nilsl | .bool _ | .int _ _ | .str _ | .sl _ | .nilp | .fn _ | .nilfn | .nili | .ifc _ _ | .nilmap | .bfn _ _ | .ifo _ _ _ | .nsl _ => by simp only [nle]
theorem nleL_refl : ∀ l : List PV, nleL l l
  | [] => trivial
  | a :: l => ⟨nle_refl a, nleL_refl l⟩
end
theorem nleR_app {p q : List (List PV)} (h : nleR p q) : ∀ l, nleR (l ++ p) (l ++ q)
  | [] => h
  | a :: l => ⟨nleL_refl a, nleR_app h l⟩
theorem vlApp {A : Type} (C : Codec A) (x : List A) (y : A) {raw : List PV} (h : nleL raw (C.cells y)) : C.rows x ++ [raw] = C.rows (x ++ [y]) ∨ nleR (C.rows x ++ [raw]) (C.rows (x ++ [y])) := by
  right
  rw [← C.append x [y]]
  refine nleR_app ?_ _
  rw [C.hrows [y]]
  exact ⟨h, trivial⟩
theorem Codec.lenSet {A : Type} (C : Codec A) (l : List A) (j : Nat) (y : A) : (C.rows l).length = (C.rows (l.set j y)).length := by simp [C.hrows]
end Ax
end
section
open Go Ax
namespace W
/-- How great a list may be, and what is done with it. -/
abbrev lim : Nat := 1073741824

section
variable {A R S T : Type}
@[simp] theorem bnd_eq (a : A) (k : A → Option R) : bnd (some a) k = k a := rfl
@[simp] theorem chk_t (k : Option R) : chk true k = k := rfl
theorem chk_of {b : Bool} {k : Option R} (h : b = true) : chk b k = k := by subst h; rfl
theorem chk_dec {p : Prop} [Decidable p] {k : Option R} (h : p) : chk (decide p) k = k := chk_of (decide_eq_true h)
@[simp] theorem gsome_t [Inhabited A] (o : Option A) : gsome true o = o := rfl
@[simp] theorem gsome_f [Inhabited A] (o : Option A) : gsome false o = some default := rfl
theorem gsome_of [Inhabited A] {g : Bool} {o : Option A} {a : A} (h : g = true → o = some a) : gsome g o = some (if g = true then a else default) := by
  cases g with
  | true => simp [h rfl]
  | false => simp
theorem loopK_succ (B : (S → Option R) → S → Option R) (n : Nat) (s : S) : loopK B (n + 1) s = B (loopK B n) s := rfl
theorem idx_nat {l : List A} {i : Nat} {x : A} (h : l[i]? = some x) : idx l (i : Int) = some x := by
  unfold idx
  rw [if_pos (Int.natCast_nonneg i)]
  simpa using h
@[simp] theorem idx_zero (x : A) (l : List A) : idx (x :: l) (0 : Int) = some x := rfl
@[simp] theorem idx_one (x y : A) (l : List A) : idx (x :: y :: l) (1 : Int) = some y := rfl
@[simp] theorem natI_nat (n : Nat) : natI (n : Int) = some n := by
  unfold natI
  rw [if_pos (Int.natCast_nonneg n)]
  simp
theorem wrapN {k : Nat} (h : k ≤ 1152921504606846976) : IntKind.i64.wrap ((k : Int) + 1) = ((k + 1 : Nat) : Int) := by
  rw [wrap_ok _ (by omega) (by omega)]; omega
theorem wrapC {i : Int} (h0 : -1152921504606846976 ≤ i) (h1 : i ≤ 1152921504606846976) : IntKind.i64.wrap i = i := wrap_ok _ (by omega) (by omega)

/-- A loop's way, step by step. -/
theorem loopK_trace {B : (S → Option R) → S → Option R} (st : Nat → S) (m : Nat) {r : Option R} (hs : ∀ k, k < m → ∀ nx, B nx (st k) = nx (st (k + 1))) (he : ∀ nx, B nx (st m) = r) {n : Nat} (hn : m < n) : loopK B n (st 0) = r := by
  have key : ∀ (d k n : Nat), k + d = m → d < n → loopK B n (st k) = r := by
    intro d
    induction d with
    | zero =>
      intro k n hk hn
      obtain ⟨n, rfl⟩ := Nat.exists_eq_succ_of_ne_zero (by omega : n ≠ 0)
      have : k = m := by omega
      subst this
      exact he _
    | succ d ih =>
      intro k n hk hn
      obtain ⟨n, rfl⟩ := Nat.exists_eq_succ_of_ne_zero (by omega : n ≠ 0)
      rw [loopK_succ, hs k (by omega)]
      exact ih (k + 1) n (by omega) (by omega)
  exact key m 0 n (by omega) hn

def orE (o k : Option R) : Option R := match o with | some r => some r | none => k
def outE (o : R ⊕ T) (k : T → Option R) : Option R := match o with | .inl r => some r | .inr t => k t
@[simp] theorem orE_some (r : R) (k : Option R) : orE (some r) k = some r := rfl
@[simp] theorem orE_none (k : Option R) : orE none k = k := rfl
@[simp] theorem outE_l (r : R) (k : T → Option R) : outE (.inl r) k = some r := rfl
@[simp] theorem outE_r (t : T) (k : T → Option R) : outE (.inr t) k = k t := rfl
/-- Over a list, from the left; it may end ahead. -/
def foldE (f : T → A → R ⊕ T) : T → List A → R ⊕ T
  | t, [] => .inr t
  | t, x :: l => match f t x with
    | .inl r => .inl r
    | .inr t' => foldE f t' l

/-- A range over a list, with a state. -/
theorem loop_fold {B : (S → Option R) → S → Option R} (mk : Nat → T → S) (I : Nat → T → Prop) {l : List A} (f : T → A → R ⊕ T) {rest : T → Option R}
    (hs : ∀ (k : Nat) (x : A) (t : T) (nx : S → Option R), l[k]? = some x → I k t → B nx (mk k t) = outE (f t x) fun t' => nx (mk (k + 1) t'))
    (hI : ∀ (k : Nat) (x : A) (t t' : T), l[k]? = some x → I k t → f t x = .inr t' → I (k + 1) t')
    (he : ∀ (t : T) (nx : S → Option R), I l.length t → B nx (mk l.length t) = rest t) {n : Nat} (hn : l.length < n) {t0 : T} (h0 : I 0 t0) :
    loopK B n (mk 0 t0) = outE (foldE f t0 l) rest := by
  have key : ∀ (suf : List A) (k n : Nat) (t : T), (∀ j, suf[j]? = l[k + j]?) → k + suf.length = l.length → suf.length < n → I k t → loopK B n (mk k t) = outE (foldE f t suf) rest := by
    intro suf
    induction suf with
    | nil =>
      intro k n t hsuf hk hn hi
      obtain ⟨n, rfl⟩ := Nat.exists_eq_succ_of_ne_zero (by omega : n ≠ 0)
      have : k = l.length := by simpa using hk
      subst this
      rw [loopK_succ, he t _ hi]
      rfl
    | cons x suf ih =>
      intro k n t hsuf hk hn hi
      obtain ⟨n, rfl⟩ := Nat.exists_eq_succ_of_ne_zero (by omega : n ≠ 0)
      have hx : l[k]? = some x := by have := hsuf 0; simpa using this.symm
      rw [loopK_succ, hs k x t _ hx hi]
      simp only [foldE]
      cases hf : f t x with
      | inl r => rfl
      | inr t' =>
        simp only [outE_r]
        refine ih (k + 1) n t' (fun j => ?_) (by simp at hk; omega) (by simp at hn; omega) (hI k x t t' hx hi hf)
        have := hsuf (j + 1)
        rw [show k + 1 + j = k + (j + 1) by omega]
        simpa using this
  exact key l 0 n t0 (fun j => by simp) (by simp) hn h0

/-- A range over a list, that may end ahead. -/
def findE (f : A → Option R) : List A → Option R
  | [] => none
  | x :: l => match f x with
    | some r => some r
    | none => findE f l
theorem loop_find {B : (S → Option R) → S → Option R} (mk : Nat → S) {l : List A} (f : A → Option R) {rest : Option R}
    (hs : ∀ (k : Nat) (x : A) (nx : S → Option R), l[k]? = some x → B nx (mk k) = orE (f x) (nx (mk (k + 1))))
    (he : ∀ (nx : S → Option R), B nx (mk l.length) = rest) {n : Nat} (hn : l.length < n) :
    loopK B n (mk 0) = orE (findE f l) rest := by
  have h := loop_fold (B := B) (fun k (_ : Unit) => mk k) (fun _ _ => True) (l := l) (fun _ x => match f x with | some r => .inl r | none => .inr ()) (rest := fun _ => rest)
    (fun k x _ nx hx _ => by rw [hs k x nx hx]; cases f x <;> rfl) (fun _ _ _ _ _ _ _ => trivial) (fun _ nx _ => he nx) hn (t0 := ()) trivial
  rw [h]
  have key : ∀ l : List A, foldE (T := Unit) (fun _ x => match f x with | some r => .inl r | none => .inr ()) () l = (match findE f l with | some r => .inl r | none => .inr ()) := by
    intro l
    induction l with
    | nil => rfl
    | cons x l ih =>
      simp only [foldE, findE]
      cases f x with
      | some r => rfl
      | none => exact ih
  rw [key]
  cases findE f l <;> rfl
end

theorem mem_lt {A : Type} {l : List A} {k : Nat} {x : A} (h : l[k]? = some x) : k < l.length := (List.getElem?_eq_some_iff.1 h).1
theorem mem_of {A : Type} {l : List A} {k : Nat} {x : A} (h : l[k]? = some x) : x ∈ l := List.mem_of_getElem? h
@[simp] theorem strs_len (l : List (List UInt8)) : (strs l).length = l.length := by simp [strs]
@[simp] theorem intRows_len (k : IntKind) (l : List Int) : (intRows k l).length = l.length := by simp [intRows]
@[simp] theorem bRows_len (l : List UInt8) : (bRows l).length = l.length := by simp [bRows]
@[simp] theorem valRows_len (l : List Val) : (Val.rows l).length = l.length := by rw [rows_eq]; simp
theorem dec_lt {k m : Nat} (h : k < m) : decide ((k : Int) < (m : Int)) = true := decide_eq_true (by omega)
theorem dec_nlt {m : Nat} : decide ((m : Int) < (m : Int)) = false := decide_eq_false (by omega)
end W
end
section
open Go Go.Proofs Go.RowKit
namespace Ax
variable {Lw : Nat}

theorem fresh_row {bs : (Base Lw)} {ρ : List Value} {H : (PH Lw)} {lo : List AObj} {w w' : World} (s : SatW bs ρ H lo w) {e : TypeId} {z n : Nat} {v' : Value} {xs : List Value} (hb : Below w.heap.size w w')
    (hown : w'.ownsRow w.heap.size e z v' n xs) (h1 : ∀ u ∈ xs, u.oneCell' = true) :
    PH.le H (grownH H v' xs) ∧ w'.ownsRow 0 e z v' n xs ∧ SatW bs (ρ ++ [v']) (grownH H v' xs) (lo ++ [.tail e z n]) w' := by
  have hge : ∀ b, blkOf v' = some b → w.heap.size ≤ b := by
    intro b hb
    rcases hown.2 with ⟨rfl, _⟩ | ⟨g, cap, cur, rfl, hg, _⟩
    · simp [blkOf] at hb
    · simp [blkOf] at hb; omega
  have hno : ∀ b o u, blkOf v' = some b → H b o = some u → False := fun b o u hb hu => by
    have h2 := s.sath.lt hu
    have h3 := hge b hb
    omega
  have hle : PH.le H (grownH H v' xs) := by
    intro b o u hu
    unfold grownH
    rw [if_neg (fun hc => hno b o u hc.1 hu)]
    exact hu
  have hown0 : w'.ownsRow 0 e z v' n xs := ⟨hown.1, hown.2.imp id fun ⟨g, cap, cur, a, b, c⟩ => ⟨g, cap, cur, a, Nat.zero_le _, c⟩⟩
  have hcell : ∀ g, blkOf v' = some g → ∀ o u, xs[o]? = some u → w'.cell? ⟨g, o, none⟩ = some u := by
    intro g hg o u hu
    have := hown0.cells (g := g) (by
      rcases hown0.2 with ⟨rfl, _⟩ | ⟨g', cap, cur, rfl, _⟩
      · simp [blkOf] at hg
      · simpa [blkOf, Value.ownBlock] using hg) o u hu
    rwa [Addr.add_lit, Nat.zero_add] at this
  have hkeep : ∀ S, Keep S w w' := fun S => ⟨hb.os, hb.tape, hb.output, hb.size, fun k hk _ => hb.block k hk⟩
  have hsat : SatH (grownH H v' xs) w' := by
    refine ⟨?_, s.sath.root.mono hle, Nat.le_trans s.sath.low hb.size, ?_⟩
    rotate_left
    · intro b o u hu hL
      by_cases hbv : blkOf v' = some b
      · exact .own hown0 hbv
      · unfold grownH at hu
        rw [if_neg (fun hc => hbv hc.1)] at hu
        exact (s.sath.nf b o u hu hL).block (hb.block b (s.sath.lt hu))
    intro b o u hu
    unfold grownH at hu
    split at hu
    · rename_i hc
      exact ⟨hcell b hc.1 o u hu, h1 u (List.mem_of_getElem? hu)⟩
    · obtain ⟨hcl, hone⟩ := s.sath.cell b o u hu
      refine ⟨?_, hone⟩
      rw [World.cell?_of_block (w := w) (a := ⟨b, o, none⟩) (hb.block b (s.sath.lt hu))]
      exact hcl
  have hok : ∀ ρ, ObjOk ρ (grownH H v' xs) w' v' (.tail e z n) := by
    intro ρ
    refine ⟨xs, hown0, fun b hb => ⟨fun j u hu => ?_, fun o ho => ?_⟩⟩
    · unfold grownH
      rw [if_pos ⟨hb, (List.getElem?_eq_some_iff.1 hu).1⟩]
      exact hu
    · unfold grownH
      rw [if_neg (by rw [hown.1]; omega)]
      cases hx : H b o with
      | none => rfl
      | some u => exact (hno b o u hb hx).elim
  have hnew : ∀ b o u, grownH H v' xs b o = some u → (∃ u, H b o = some u) ∨ blkOf v' = some b := by
    intro b o u hu
    unfold grownH at hu
    split at hu
    · rename_i hc; exact .inr hc.1
    · exact .inl ⟨u, hu⟩
  refine ⟨hle, hown0, ?_⟩
  cases hv : blkOf v' with
  | none =>
    refine s.push (g := w.heap.size) (.inr hv) (s.fresh (Nat.le_refl _)) (.inr s.keep.size) hle hsat (fun b o u hu => ?_) (hkeep _) (hok _)
    rcases hnew b o u hu with h | h
    · exact .inl h
    · rw [hv] at h; cases h
  | some g =>
    refine s.push (g := g) (.inl hv) (s.fresh (hge g hv)) (.inr (Nat.le_trans s.keep.size (hge g hv))) hle hsat (fun b o u hu => ?_) (hkeep _) (hok _)
    rcases hnew b o u hu with h | h
    · exact .inl h
    · rw [hv] at h; exact .inr (Option.some.inj h).symm

theorem strs_V (H : (PH Lw)) : ∀ (l : List (List UInt8)), RepV H 1 (strs l) (l.map fun s => Value.string ⟨s.toArray⟩)
  | [] => by simp [strs, RepV]
  | b :: l => by
    have := strs_V H l
    unfold strs at this ⊢
    simp only [List.map_cons, RepV]
    refine ⟨rfl, [.string ⟨b.toArray⟩], l.map fun s => Value.string ⟨s.toArray⟩, by simp, ?_, this⟩
    simp [RepL, RepP]
theorem strs_cells {H : (PH Lw)} {b z : Nat} : ∀ {x : List (List UInt8)} {o : Nat}, RepR H b z o (strs x) → ∀ (j : Nat) (l : List UInt8), x[j]? = some l → H b (o + j) = some (.string ⟨l.toArray⟩)
  | [], _, _, j, l, h => by simp at h
  | y :: x, o, r, j, l, h => by
    simp only [strs, List.map_cons, RepR] at r
    obtain ⟨hz, ⟨vs, rl, rc⟩, r2⟩ := r
    have hz : z = 1 := by simpa using hz.symm
    subst hz
    cases j with
    | zero =>
      simp only [List.getElem?_cons_zero, Option.some.injEq] at h
      subst h
      simp only [RepL, RepP] at rl
      obtain ⟨u, vs', rfl, rfl, _⟩ := rl
      exact rc 0 _ rfl
    | succ j =>
      have := strs_cells (x := x) r2 j l (by simpa using h)
      rw [show o + (j + 1) = o + 1 + j from by omega]
      exact this

/-- slices.Clone of texts, by its three cases. -/
theorem clone_texts {P : Program} {f : FuncId} (enter : ∀ vs w, (callFunc f vs).run P w = .ok (.enter f vs) w) {e : TypeId}
    (cNil : ∀ (n c : Nat) (w : World), Calls P f #[.slice none n c] w fun e' w' => e' = .returned (.slice none 0 0) ∧ w' = w)
    (cZero : ∀ (a : Addr) (c : Nat) (w : World), Calls P f #[.slice (some a) 0 c] w fun e' w' => ∃ v', e' = .returned v' ∧ w'.ownsRow w.heap.size e 1 v' 0 [] ∧ v' ≠ .slice none 0 0 ∧ Below w.heap.size w w')
    (cSome : ∀ (b off n c : Nat) (zs : List ByteArray) (w : World), n ≤ zs.length → n * 16 ≤ 140737488355328 → (∀ j, j < zs.length → w.cell? ⟨b, off + j, none⟩ = some (.string (zs.getD j ByteArray.empty))) →
      Calls P f #[.slice (some ⟨b, off, none⟩) n c] w fun e' w' => ∃ v', e' = .returned v' ∧ w'.ownsRow w.heap.size e 1 v' n ((zs.take n).map Value.string) ∧ v' ≠ .slice none 0 0 ∧ Below w.heap.size w w')
    (x : List (List UInt8)) (hbig : (strs x).length * 16 ≤ 140737488355328) : CallsO P f [.p (.sl (strs x))] [] 0 (fun v lo => v = .tsl 0 (strs x) ∧ lo = [.tail e 1 (strs x).length]) := by
  intro Lw bs ρ H w vs hr0 s rl
  have hlo : ρ = [] := List.eq_nil_of_length_eq_zero s.hlen
  subst hlo
  obtain ⟨v, vs', rfl, rv, hvs⟩ := rl
  obtain rfl : vs' = [] := hvs
  have rv : RepP H (.sl (strs x)) v := rv
  rw [enter]
  refine ⟨rfl, ?_⟩
  have hl : (strs x).length = x.length := by simp [strs]
  have base : Calls P f [v].toArray w fun e' w' => ∃ v', e' = .returned v' ∧ w'.ownsRow w.heap.size e 1 v' x.length (x.map fun s => Value.string ⟨s.toArray⟩) ∧ Below w.heap.size w w' := by
    simp only [RepP] at rv
    rcases rv with ⟨h0, rfl | ⟨a, cap, rfl⟩⟩ | ⟨b, o, z, cap, rfl, hcap, rr⟩
    · have hx : x = [] := by cases x with | nil => rfl | cons _ _ => cases h0
      subst hx
      refine (cNil 0 0 w).mono fun e' w' p => ?_
      obtain ⟨rfl, rfl⟩ := p
      exact ⟨_, rfl, ⟨by simp, .inl ⟨rfl, rfl⟩⟩, Below.refl _ _⟩
    · have hx : x = [] := by cases x with | nil => rfl | cons _ _ => cases h0
      subst hx
      refine (cZero a cap w).mono fun e' w' p => ?_
      obtain ⟨v', rfl, ho, _, hb⟩ := p
      exact ⟨_, rfl, ho, hb⟩
    · rw [hl] at hbig ⊢
      refine (cSome b o x.length cap (x.map fun s => ⟨s.toArray⟩) w (by simp) hbig fun j hj => ?_).mono fun e' w' p => ?_
      · simp only [List.length_map] at hj
        have h2 := strs_cells rr j _ (List.getElem?_eq_getElem hj)
        rw [(s.sath.cell _ _ _ h2).1]
        simp [List.getD, List.getElem?_eq_getElem hj]
      · obtain ⟨v', rfl, ho, _, hb⟩ := p
        refine ⟨_, rfl, ?_, hb⟩
        rw [List.take_of_length_le (by simp), List.map_map] at ho
        exact ho
  refine base.mono fun e' w' p => ?_
  obtain ⟨v', rfl, ho, hb⟩ := p
  obtain ⟨hle, ho0, hs⟩ := fresh_row s hb ho (fun u hu => by obtain ⟨_, _, rfl⟩ := List.mem_map.1 hu; rfl)
  refine ⟨v', .tsl 0 (strs x), [.tail e 1 (strs x).length], [v'], _, rfl, ⟨rfl, rfl⟩, hle, by rw [hl]; exact hs, rfl, append_rep (strs_V H x) hle (by rw [hl]; exact ho0)⟩
end Ax
end
section
open Go Go.Proofs Ax Go.RowKit
namespace W
theorem mixed : Tryd.prog.follows .mixedOrders = true := by kernel_rfl
theorem calm_below {Lw : Nat} {H : PH Lw} {w w' : World} (s : SatH H w) (h : Below w.heap.size w w') : Calm H w H w' :=
  ⟨PH.le.refl H, s.block h.size fun b _ _ hv => h.block b (s.lt hv), ⟨h.os, h.tape, h.output, h.size, fun k hk _ => h.block k hk⟩, fun _ _ v hv => .inl ⟨v, hv⟩⟩
def F_strings_ReplaceAll (_ : Nat) (s old new : List UInt8) : Option (List UInt8) :=
  chk (decide (s.length < 4294967281)) (chk (decide (1 ≤ old.length)) (chk (decide (s.length + Lib.countB ⟨s.toArray⟩ ⟨old.toArray⟩ * new.length ≤ 140737488355328)) (some (Lib.replaceAll s old new))))
set_option maxRecDepth 100000 in
theorem F_strings_ReplaceAll_ok (n : Nat) : ∀ (s old new : List UInt8) (r : List UInt8), F_strings_ReplaceAll n s old new = some r → CallsF Tryd.prog 85 [.str s, .str old, .str new] (.str r) := by
  intro s old new r h
  obtain ⟨hs, h⟩ := chk_some h
  obtain ⟨h1, h⟩ := chk_some h
  obtain ⟨h2, h⟩ := chk_some h
  obtain rfl := Option.some.inj h
  intro Lw H w vs hsat hr
  obtain ⟨m, hm⟩ := hsat.root
  have c := Tryd.strings_ReplaceAll ⟨s.toArray⟩ ⟨old.toArray⟩ ⟨new.toArray⟩ m w (of_decide_eq_true hs) (hsat.cell _ _ _ hm).1 (of_decide_eq_true h1) (of_decide_eq_true h2)
  have e : vs = [.string ⟨s.toArray⟩, .string ⟨old.toArray⟩, .string ⟨new.toArray⟩] := by
    simp only [RepL, RepP] at hr
    obtain ⟨_, _, rfl, rfl, _, _, rfl, rfl, _, _, rfl, rfl, rfl⟩ := hr
    rfl
  subst e
  rw [Tryd.call85]
  refine ⟨rfl, c.mono fun e w' p => ?_⟩
  exact ⟨_, H, p.1, calm_below hsat p.2, by simp [RepP]⟩
theorem enters89 : ∀ (args : Array Value) (w : World), (callFunc 89 args).run Tryd.prog w = .ok (.enter 89 args) w := fun _ _ => Tryd.call89 _ _
theorem string_exact89 (b : Nat) (l : List UInt8) (w : World) (p v : Value) (hbk : w.heap[b]? = some (.cells #[p, v] 117 (0, 0))) (hown : w.ownsRow 0 5 1 v l.length (Lib.byteCells l)) (h0 : l ≠ []) :
    Calls Tryd.prog 89 #[.pointer (some ⟨b, 0, none⟩)] w (StrPost l v w) := Any.String_exact Tryd.lays169 Tryd.Builder_Extra_169 b l w p v hbk hown h0
theorem string_empty89 : StringEmpty Tryd.prog 89 117 5 := fun b w p v hbk hown => Any.String_empty Tryd.lays169 Tryd.Builder_Extra_169 b w p v hbk hown
set_option maxRecDepth 100000 in
theorem Clone_ok (x : List (List UInt8)) (hbig : (strs x).length * 16 ≤ 140737488355328) : CallsO Tryd.prog 65 [.p (.sl (strs x))] [] 0 (fun v lo => v = .tsl 0 (strs x) ∧ lo = [.tail 9 1 (strs x).length]) :=
  clone_texts (fun _ _ => Tryd.call65 _ _) Tryd.slices_Clone_string_nil Tryd.slices_Clone_string_zero (fun b o n c zs w h1 h2 h3 => Tryd.slices_Clone_string b o n c zs w h1 h2 h3) x hbig
end W
end
section
open Go Go.Proofs Ax Go.RowKit
namespace W
set_option maxRecDepth 10000
def eightL (m : Nat) : List UInt8 := [56, 48, 40, 32, 24, 16, 8, 0].map fun s => UInt8.ofNat (m / 2 ^ s)
theorem wrapU (n : Int) (h0 : 0 ≤ n) (h1 : n < 18446744073709551616) : IntKind.u64.wrap n = n := by
  simp only [IntKind.wrap, IntKind.bits, IntKind.signed]
  simp
  exact Int.emod_eq_of_lt h0 h1
/-- A text with a byte FF behind each nought. -/
def esc (s : List UInt8) : List UInt8 := s.flatMap fun b => if b == 0 then [0, 255] else [b]
theorem replaceK_ne (b c : UInt8) (h : b ≠ c) (new : List UInt8) : ∀ (k : Nat) (l : List UInt8), Lib.replaceK [c] new k (b :: l) = b :: Lib.replaceK [c] new k l
  | 0, _ => rfl
  | k + 1, l => by
    have hi : Lib.index (b :: l) [c] = if Lib.index l [c] == -1 then -1 else Lib.index l [c] + 1 := by
      rw [Lib.index]
      have : ([c] : List UInt8).isPrefixOf (b :: l) = false := by simp [List.isPrefixOf, Ne.symm h]
      rw [this]; rfl
    have hge := Lib.index_ge l [c]
    rw [Lib.replaceK, Lib.replaceK, hi]
    by_cases h1 : Lib.index l [c] = -1
    · simp [h1]
    · have h2 : (Lib.index l [c] == -1) = false := by simp [h1]
      have h3 : (Lib.index l [c] + 1 == -1) = false := by simp; omega
      simp only [h2, h3, if_false, Bool.false_eq_true]
      have e1 : (Lib.index l [c] + 1).toNat = (Lib.index l [c]).toNat + 1 := by omega
      rw [e1]
      simp
theorem replaceK_eq (c : UInt8) (new : List UInt8) (k : Nat) (l : List UInt8) : Lib.replaceK [c] new (k + 1) (c :: l) = new ++ Lib.replaceK [c] new k l := by
  have hi : Lib.index (c :: l) [c] = 0 := by rw [Lib.index]; simp [List.isPrefixOf]
  rw [Lib.replaceK, hi]
  simp
theorem replaceAll_esc (s : List UInt8) : Lib.replaceAll s [0] [0, 255] = esc s := by
  have key : ∀ s : List UInt8, Lib.replaceK [0] [0, 255] (Lib.count s [0]) s = esc s := by
    intro s
    induction s with
    | nil => rfl
    | cons b l ih =>
      by_cases h : b = 0
      · subst h
        rw [Lib.count_cons_eq, Nat.add_comm, replaceK_eq, ih]
        simp [esc]
      · rw [Lib.count_cons_ne _ _ _ h, replaceK_ne _ _ h, ih]
        simp [esc, h]
  unfold Lib.replaceAll Lib.replace Lib.replaceNum
  simp only [show ((-1 : Int) < 0) from by decide, true_or, if_true]
  rw [key]
  rfl
theorem esc_length (s : List UInt8) : (esc s).length ≤ 2 * s.length := by
  induction s with
  | nil => exact Nat.le_refl _
  | cons b l ih =>
    have e : esc (b :: l) = (if b == 0 then [0, 255] else [b]) ++ esc l := rfl
    rw [e, List.length_append, List.length_cons]
    split
    · show 2 + _ ≤ _; omega
    · show 1 + _ ≤ _; omega
def endedM (s : List UInt8) : List UInt8 := esc s ++ [0, 0]
/-- A number's 64 bits. -/
def bits64 (i : Int) : Nat := (i % 18446744073709551616).toNat
mutual
/-- A value's key. -/
def layM : Val → List UInt8
  | .mk k b i s l ks =>
    bif k == 1 then [6, bif b then 1 else 0]
    else bif k == 2 then 7 :: eightL (bits64 i ^^^ 9223372036854775808)
    else bif k == 3 then 5 :: endedM s
    else bif k == 6 then 2 :: eightL (bits64 i)
    else bif k == 7 then 3 :: eightL (bits64 i)
    else bif k == 4 then 4 :: layL l ++ [0]
    else bif k == 5 then 1 :: layK l ks ++ [0]
    else [8]
def layL : List Val → List UInt8
  | [] => []
  | v :: l => layM v ++ layL l
def layK : List Val → List (List UInt8) → List UInt8
  | v :: l, k :: ks => 1 :: endedM k ++ layM v ++ layK l ks
  | _, _ => []
end
theorem endedM_length (s : List UInt8) : (endedM s).length ≤ 2 * s.length + 2 := by
  have := esc_length s
  unfold endedM
  rw [List.length_append]
  show _ + 2 ≤ _
  omega
mutual
theorem layM_length : ∀ v : Val, (layM v).length ≤ 16 * v.big
  | .mk k b i s l ks => by
    have h1 := layL_length l
    have h2 := layK_length l ks
    have h3 := endedM_length s
    unfold layM
    simp only [Val.big]
    cases k == 1 <;> cases k == 2 <;> cases k == 3 <;> cases k == 6 <;> cases k == 7 <;> cases k == 4 <;> cases k == 5 <;> simp [eightL] <;> omega
theorem layL_length : ∀ l : List Val, (layL l).length ≤ 16 * bigs l
  | [] => Nat.zero_le _
  | v :: l => by
    have h1 := layM_length v
    have h2 := layL_length l
    simp only [layL, bigs, List.length_append]; omega
theorem layK_length : ∀ (l : List Val) (ks : List (List UInt8)), (layK l ks).length ≤ 16 * bigs l + 16 * kbig ks
  | [], _ => by simp [layK]
  | _ :: _, [] => by simp [layK]
  | v :: l, k :: ks => by
    have h1 := layM_length v
    have h2 := layK_length l ks
    have h3 := endedM_length k
    simp only [layK, bigs, kbig, List.length_append, List.length_cons]; omega
end
def keyBad (l : List (List UInt8)) (i : Nat) : Bool :=
  bif bif l.getD i [] == [] then true else decide (((l.getD i []).length : Int) > 64) then true
  else bif decide ((i : Int) > 0) then !Op.bytesLess (l.getD (i - 1) []) (l.getD i []) else false
def keysB (l : List (List UInt8)) : Bool := (List.range l.length).all fun i => !keyBad l i
def bareB (k : Int) (b : Bool) (i : Int) (s : List UInt8) (nl nk : Nat) : Bool :=
  bif bif bif bif bif k == 1 then true else !b then bif bif k == 2 then true else decide (k ≥ 6) then true else i == 0 else false then
    bif k == 3 then true else s == [] else false then bif bif k == 4 then true else k == 5 then true else (nl : Int) == 0 else false then
    bif k == 5 then true else (nk : Int) == 0 else false
def good1 : Val → Bool
  | .mk k b i s l ks => (decide (0 ≤ k) && decide (k ≤ 7)) && bareB k b i s l.length ks.length && !(decide (k ≥ 6) && decide (i < 1)) && !(k == 5 && (ks.length != l.length || !keysB ks))
mutual
/-- Parts, and whether all may be. -/
def lookM : Val → Int → Int → Int × Bool
  | .mk k b i s l ks, d, p => bif (decide (d < 1) || decide (p + 1 > 4096) || !good1 (.mk k b i s l ks)) then (p + 1, false) else lookL l (d - 1) (p + 1)
def lookL : List Val → Int → Int → Int × Bool
  | [], _, p => (p, true)
  | v :: l, d, p => bif (lookM v d p).2 then lookL l d (lookM v d p).1 else ((lookM v d p).1, false)
end
theorem bits64_lt (i : Int) : bits64 i < 18446744073709551616 := by
  have h := Int.emod_lt_of_pos i (show (0 : Int) < 18446744073709551616 by decide)
  unfold bits64; omega
theorem wrap64 (i : Int) : IntKind.u64.wrap i = ((bits64 i : Nat) : Int) := by
  have h := Int.emod_nonneg i (show (18446744073709551616 : Int) ≠ 0 by decide)
  simp only [bits64, IntKind.wrap, IntKind.bits, IntKind.signed]
  simp
  omega
theorem xor64 (i : Int) : IntKind.u64.wrap ((BitVec.ofInt IntKind.u64.bits (IntKind.u64.wrap i) ^^^ BitVec.ofInt IntKind.u64.bits 9223372036854775808).toNat : Int) = ((bits64 i ^^^ 9223372036854775808 : Nat) : Int) := by
  have h1 : (BitVec.ofInt IntKind.u64.bits (IntKind.u64.wrap i)).toNat = bits64 i := by
    rw [wrap64, BitVec.toNat_ofInt]
    have := bits64_lt i
    simp only [IntKind.bits]
    omega
  have h2 : (BitVec.ofInt IntKind.u64.bits 9223372036854775808).toNat = 9223372036854775808 := rfl
  rw [BitVec.toNat_xor, h1, h2]
  have : bits64 i ^^^ 9223372036854775808 < 2 ^ 64 := Nat.xor_lt_two_pow (bits64_lt i) (by decide)
  rw [wrapU _ (Int.natCast_nonneg _) (Int.ofNat_lt.2 this)]
theorem xor_add (n : Nat) (h : n < 18446744073709551616) : n ^^^ 9223372036854775808 = (n + 9223372036854775808) % 18446744073709551616 := by
  apply Nat.eq_of_testBit_eq
  intro j
  have e1 : (9223372036854775808 : Nat) = 2 ^ 63 := rfl
  have e2 : (18446744073709551616 : Nat) = 2 ^ 64 := rfl
  rw [Nat.testBit_xor, e1, Nat.testBit_two_pow]
  have tb1 : ∀ k, Nat.testBit 1 k = decide (0 = k) := fun k => Nat.testBit_two_pow (n := 0) (m := k)
  rcases Nat.lt_or_ge n (2 ^ 63) with hn | hn
  · rw [Nat.mod_eq_of_lt (by omega)]
    have := Nat.testBit_two_pow_mul_add 1 hn j
    rw [Nat.mul_one, Nat.add_comm] at this
    rw [this]
    by_cases hj : j < 63
    · have h3 : ¬ 63 = j := by omega
      rw [if_pos hj]; simp [h3]
    · rw [if_neg hj, Nat.testBit_lt_two_pow (Nat.lt_of_lt_of_le hn (Nat.pow_le_pow_right (by decide) (by omega))), tb1, Bool.false_xor, decide_eq_decide]
      omega
  · obtain ⟨m, rfl⟩ : ∃ m, n = 2 ^ 63 + m := ⟨n - 2 ^ 63, by omega⟩
    have hm : m < 2 ^ 63 := by omega
    have e : (2 ^ 63 + m + 2 ^ 63) % 18446744073709551616 = m := by omega
    rw [e]
    have := Nat.testBit_two_pow_mul_add 1 hm j
    rw [Nat.mul_one] at this
    rw [this]
    by_cases hj : j < 63
    · have h3 : ¬ 63 = j := by omega
      rw [if_pos hj]; simp [h3]
    · rw [if_neg hj, Nat.testBit_lt_two_pow (x := m) (Nat.lt_of_lt_of_le hm (Nat.pow_le_pow_right (by decide) (by omega))), tb1]
      have : decide (0 = j - 63) = decide (63 = j) := by rw [decide_eq_decide]; omega
      rw [this, Bool.xor_self]
theorem bits_off (i : Int) : (bits64 i ^^^ 9223372036854775808 : Nat) = ((i + 9223372036854775808) % 18446744073709551616).toNat := by
  rw [xor_add _ (bits64_lt i)]
  unfold bits64
  omega
theorem wrapI_mod (i : Int) : IntKind.i64.wrap i % 18446744073709551616 = i % 18446744073709551616 := by
  simp only [IntKind.wrap, IntKind.bits, IntKind.signed]
  simp
  split <;> omega
def txt : List UInt8 → Option (List UInt8 × List UInt8)
  | [] => none
  | [_] => none
  | b :: c :: r => if b = 0 then (if c = 0 then some ([], r) else if c = 255 then (txt r).map (fun x => (0 :: x.1, x.2)) else none) else (txt (c :: r)).map fun x => (b :: x.1, x.2)
theorem txt_len : ∀ {s t r : List UInt8}, txt s = some (t, r) → t.length + 2 + r.length ≤ s.length
  | [], t, r, h => by cases h
  | [b], t, r, h => by cases h
  | b :: c :: s, t, r, h => by
    rw [txt] at h
    split at h
    · split at h
      · cases h; simp; omega
      · split at h
        · cases h1 : txt s with
          | none => rw [h1] at h; cases h
          | some x => rw [h1] at h; cases h; have := txt_len h1; simp; omega
        · cases h
    · cases h1 : txt (c :: s) with
      | none => rw [h1] at h; cases h
      | some x => rw [h1] at h; cases h; have := txt_len h1; simp at this ⊢; omega
/-- Eight bytes as a number, the highest first. -/
def beN (l : List UInt8) : Nat := l.foldl (fun n b => n * 256 + b.toNat) 0
theorem beN_snoc (l : List UInt8) (b : UInt8) : beN (l ++ [b]) = beN l * 256 + b.toNat := by simp [beN]
theorem beN_lt : ∀ l : List UInt8, beN l < 256 ^ l.length := by
  intro l
  rw [← List.reverse_reverse l]
  generalize l.reverse = m
  induction m with
  | nil => simp [beN]
  | cons b m ih =>
    rw [List.reverse_cons, beN_snoc, List.length_append, List.length_singleton, Nat.pow_succ]
    have := b.toNat_lt
    omega
def offI (m : Nat) : Int := (m : Int) - 9223372036854775808
abbrev nullV : Val := .mk 0 false 0 [] [] []
section
variable (f : List UInt8 → Option (Val × List UInt8))
def rdL : Nat → List UInt8 → List Val → Option (List Val × List UInt8)
  | 0, _, _ => none
  | _ + 1, [], _ => none
  | k + 1, b :: s, acc => if b = 0 then some (acc, s) else match f (b :: s) with
    | some x => rdL k x.2 (acc ++ [x.1])
    | none => none
def rdK : Nat → List UInt8 → List Val → List (List UInt8) → Option (List Val × List (List UInt8) × List UInt8)
  | 0, _, _, _ => none
  | _ + 1, [], _, _ => none
  | k + 1, b :: s, acc, ks => if b = 0 then some (acc, ks, s) else if b = 1 then match txt s with
    | some y => match f y.2 with
      | some x => rdK k x.2 (acc ++ [x.1]) (ks ++ [y.1])
      | none => none
    | none => none
    else none
end
/-- The value at the front of a text, so many levels deep, and the rest. -/
def rd : Nat → List UInt8 → Option (Val × List UInt8)
  | 0, _ => none
  | _ + 1, [] => none
  | d + 1, m :: s =>
    if m = 8 then some (nullV, s)
    else if m = 6 then (match s with | [] => none | b :: r => if b.toNat ≤ 1 then some (.mk 1 (b == 1) 0 [] [] [], r) else none)
    else if m = 7 then (if s.length < 8 then none else some (.mk 2 false (offI (beN (s.take 8))) [] [] [], s.drop 8))
    else if m = 2 then (if s.length < 8 then none else some (.mk 6 false (IntKind.i64.wrap (beN (s.take 8))) [] [] [], s.drop 8))
    else if m = 3 then (if s.length < 8 then none else some (.mk 7 false (IntKind.i64.wrap (beN (s.take 8))) [] [] [], s.drop 8))
    else if m = 5 then (txt s).map fun x => (.mk 3 false 0 x.1 [] [], x.2)
    else if m = 4 then (rdL (rd d) (s.length + 1) s []).map fun x => (.mk 4 false 0 [] x.1 [], x.2)
    else if m = 1 then (rdK (rd d) (s.length + 1) s [] []).map fun x => (.mk 5 false 0 [] x.1 x.2.1, x.2.2)
    else none
theorem rd_cons (d : Nat) (m : UInt8) (s : List UInt8) : rd (d + 1) (m :: s) =
    if m = 8 then some (nullV, s)
    else if m = 6 then (match s with | [] => none | b :: r => if b.toNat ≤ 1 then some (.mk 1 (b == 1) 0 [] [] [], r) else none)
    else if m = 7 then (if s.length < 8 then none else some (.mk 2 false (offI (beN (s.take 8))) [] [] [], s.drop 8))
    else if m = 2 then (if s.length < 8 then none else some (.mk 6 false (IntKind.i64.wrap (beN (s.take 8))) [] [] [], s.drop 8))
    else if m = 3 then (if s.length < 8 then none else some (.mk 7 false (IntKind.i64.wrap (beN (s.take 8))) [] [] [], s.drop 8))
    else if m = 5 then (txt s).map fun x => (.mk 3 false 0 x.1 [] [], x.2)
    else if m = 4 then (rdL (rd d) (s.length + 1) s []).map fun x => (.mk 4 false 0 [] x.1 [], x.2)
    else if m = 1 then (rdK (rd d) (s.length + 1) s [] []).map fun x => (.mk 5 false 0 [] x.1 x.2.1, x.2.2)
    else none := rfl
mutual
def depth : Val → Nat
  | .mk _ _ _ _ l _ => 1 + depthL l
def depthL : List Val → Nat
  | [] => 0
  | v :: l => max (depth v) (depthL l)
end
theorem depth_pos (v : Val) : 1 ≤ depth v := by cases v; simp only [depth]; omega
mutual
theorem may_depth : ∀ (v : Val) (d p : Int), (lookM v d p).2 = true → (depth v : Int) ≤ d
  | .mk k b i s l ks, d, p, h => by
    unfold lookM at h
    cases hb : (decide (d < 1) || decide (p + 1 > 4096) || !good1 (.mk k b i s l ks)) with
    | true => rw [hb] at h; simp at h
    | false =>
      rw [hb, cond_false] at h
      have h1 : ¬ d < 1 := by simp at hb; omega
      have := may_depthL l (d - 1) (p + 1) h (by omega)
      simp only [depth]
      omega
theorem may_depthL : ∀ (l : List Val) (d p : Int), (lookL l d p).2 = true → 0 ≤ d → (depthL l : Int) ≤ d
  | [], d, p, _, h0 => by simpa [depthL] using h0
  | v :: l, d, p, h, h0 => by
    unfold lookL at h
    cases hb : (lookM v d p).2 with
    | false => rw [hb] at h; simp at h
    | true =>
      rw [hb, cond_true] at h
      have h1 := may_depth v d p hb
      have h2 := may_depthL l d _ h h0
      simp only [depthL]
      omega
end
theorem rd_4 (d : Nat) (s : List UInt8) : rd (d + 1) (4 :: s) = (rdL (rd d) (s.length + 1) s []).map fun x => (.mk 4 false 0 [] x.1 [], x.2) := rfl
theorem rd_1 (d : Nat) (s : List UInt8) : rd (d + 1) (1 :: s) = (rdK (rd d) (s.length + 1) s [] []).map fun x => (.mk 5 false 0 [] x.1 x.2.1, x.2.2) := rfl
theorem txt_ended : ∀ (s r : List UInt8), txt (endedM s ++ r) = some (s, r)
  | [], r => by simp [endedM, esc, txt]
  | b :: s, r => by
    have ih := txt_ended s r
    by_cases hb : b = 0
    · subst hb
      have e : endedM (0 :: s) ++ r = 0 :: 255 :: (endedM s ++ r) := by simp [endedM, esc]
      rw [e, txt, if_pos rfl, if_neg (by decide), if_pos rfl, ih]
      rfl
    · have e : endedM (b :: s) ++ r = b :: (endedM s ++ r) := by simp [endedM, esc, hb]
      have hne : endedM s ++ r ≠ [] := by simp [endedM]
      rw [e]
      cases h : endedM s ++ r with
      | nil => exact absurd h hne
      | cons c t =>
        rw [txt, if_neg hb, ← h, ih]
        rfl
theorem u8_mod (q : Nat) : (UInt8.ofNat q).toNat = q % 256 := by simp
theorem beN_eight (m : Nat) (hm : m < 18446744073709551616) : beN (eightL m) = m := by
  have e : eightL m = [UInt8.ofNat (m / 2 ^ 56), UInt8.ofNat (m / 2 ^ 48), UInt8.ofNat (m / 2 ^ 40), UInt8.ofNat (m / 2 ^ 32), UInt8.ofNat (m / 2 ^ 24), UInt8.ofNat (m / 2 ^ 16), UInt8.ofNat (m / 2 ^ 8), UInt8.ofNat (m / 2 ^ 0)] := rfl
  rw [e]
  simp only [beN, List.foldl, u8_mod]
  have h1 : m / 2 ^ 8 = m / 256 := rfl
  have h2 : m / 2 ^ 16 = m / 256 / 256 := by rw [Nat.div_div_eq_div_mul]
  have h3 : m / 2 ^ 24 = m / 256 / 256 / 256 := by rw [Nat.div_div_eq_div_mul, Nat.div_div_eq_div_mul]
  have h4 : m / 2 ^ 32 = m / 256 / 256 / 256 / 256 := by rw [Nat.div_div_eq_div_mul, Nat.div_div_eq_div_mul, Nat.div_div_eq_div_mul]
  have h5 : m / 2 ^ 40 = m / 256 / 256 / 256 / 256 / 256 := by rw [Nat.div_div_eq_div_mul, Nat.div_div_eq_div_mul, Nat.div_div_eq_div_mul, Nat.div_div_eq_div_mul]
  have h6 : m / 2 ^ 48 = m / 256 / 256 / 256 / 256 / 256 / 256 := by rw [Nat.div_div_eq_div_mul, Nat.div_div_eq_div_mul, Nat.div_div_eq_div_mul, Nat.div_div_eq_div_mul, Nat.div_div_eq_div_mul]
  have h7 : m / 2 ^ 56 = m / 256 / 256 / 256 / 256 / 256 / 256 / 256 := by rw [Nat.div_div_eq_div_mul, Nat.div_div_eq_div_mul, Nat.div_div_eq_div_mul, Nat.div_div_eq_div_mul, Nat.div_div_eq_div_mul, Nat.div_div_eq_div_mul]
  rw [h1, h2, h3, h4, h5, h6, h7, show m / 2 ^ 0 = m by simp]
  omega
theorem eight_length (m : Nat) : (eightL m).length = 8 := rfl
/-- The whole numbers are of 64 bits. -/
def int64 (i : Int) : Bool := decide (-9223372036854775808 ≤ i ∧ i < 9223372036854775808)
mutual
def range64 : Val → Bool
  | .mk _ _ i _ l _ => int64 i && range64L l
def range64L : List Val → Bool
  | [] => true
  | v :: l => range64 v && range64L l
end
theorem bits_back (i : Int) (h : int64 i = true) : IntKind.i64.wrap (bits64 i : Int) = i := by
  simp only [int64, decide_eq_true_eq] at h
  unfold bits64
  simp only [IntKind.wrap, IntKind.bits, IntKind.signed]
  simp
  split <;> omega
theorem off_back (i : Int) (h : int64 i = true) : offI (bits64 i ^^^ 9223372036854775808) = i := by
  simp only [int64, decide_eq_true_eq] at h
  rw [xor_add _ (bits64_lt i)]
  unfold offI bits64
  omega
theorem off_lt (i : Int) : bits64 i ^^^ 9223372036854775808 < 18446744073709551616 := Nat.xor_lt_two_pow (n := 64) (bits64_lt i) (by decide)
mutual
def right : Val → Bool
  | .mk k b i s l ks => good1 (.mk k b i s l ks) && rightL l
def rightL : List Val → Bool
  | [] => true
  | v :: l => right v && rightL l
end
mutual
theorem may_right : ∀ (v : Val) (d p : Int), (lookM v d p).2 = true → right v = true
  | .mk k b i s l ks, d, p, h => by
    unfold lookM at h
    cases hb : (decide (d < 1) || decide (p + 1 > 4096) || !good1 (.mk k b i s l ks)) with
    | true => rw [hb] at h; simp at h
    | false =>
      rw [hb, cond_false] at h
      have := may_rightL l _ _ h
      simp only [right, this, Bool.and_true]
      simp at hb
      exact hb.2
theorem may_rightL : ∀ (l : List Val) (d p : Int), (lookL l d p).2 = true → rightL l = true
  | [], _, _, _ => rfl
  | v :: l, d, p, h => by
    unfold lookL at h
    cases hb : (lookM v d p).2 with
    | false => rw [hb] at h; simp at h
    | true =>
      rw [hb, cond_true] at h
      simp only [rightL, may_right v d p hb, may_rightL l d _ h, Bool.and_true]
end
/-- A good value's fields, by its kind. -/
theorem good_shape {k : Int} {b : Bool} {i : Int} {s : List UInt8} {l : List Val} {ks : List (List UInt8)} (h : good1 (.mk k b i s l ks) = true) :
    (k = 0 ∧ b = false ∧ i = 0 ∧ s = [] ∧ l = [] ∧ ks = []) ∨ (k = 1 ∧ i = 0 ∧ s = [] ∧ l = [] ∧ ks = []) ∨ (k = 2 ∧ b = false ∧ s = [] ∧ l = [] ∧ ks = []) ∨ (k = 3 ∧ b = false ∧ i = 0 ∧ l = [] ∧ ks = []) ∨
    (k = 4 ∧ b = false ∧ i = 0 ∧ s = [] ∧ ks = []) ∨ (k = 5 ∧ b = false ∧ i = 0 ∧ s = [] ∧ ks.length = l.length ∧ keysB ks = true) ∨ (k = 6 ∧ b = false ∧ s = [] ∧ l = [] ∧ ks = [] ∧ 1 ≤ i) ∨ (k = 7 ∧ b = false ∧ s = [] ∧ l = [] ∧ ks = [] ∧ 1 ≤ i) := by
  have hk : k = 0 ∨ k = 1 ∨ k = 2 ∨ k = 3 ∨ k = 4 ∨ k = 5 ∨ k = 6 ∨ k = 7 := by
    simp only [good1, Bool.and_eq_true, decide_eq_true_eq] at h; omega
  have nl : ∀ {n : Nat}, ((n : Int) == 0) = true → n = 0 := fun h => by simpa using h
  rcases hk with rfl | rfl | rfl | rfl | rfl | rfl | rfl | rfl <;> simp [good1, bareB] at h <;> simp [h]
theorem lay_head (v : Val) : ∃ m t, layM v = m :: t ∧ m ≠ 0 := by
  obtain ⟨k, b, i, s, l, ks⟩ := v
  unfold layM
  cases k == 1 <;> cases k == 2 <;> cases k == 3 <;> cases k == 6 <;> cases k == 7 <;> cases k == 4 <;> cases k == 5 <;> exact ⟨_, _, rfl, by decide⟩
theorem rdL_cons {f : List UInt8 → Option (Val × List UInt8)} {k : Nat} {b : UInt8} {s : List UInt8} {acc : List Val} (hb : b ≠ 0) {x : Val × List UInt8} (h : f (b :: s) = some x) : rdL f (k + 1) (b :: s) acc = rdL f k x.2 (acc ++ [x.1]) := by
  rw [rdL, if_neg hb, h]
mutual
theorem rd_lay : ∀ (v : Val) (r : List UInt8) (d : Nat), right v = true → range64 v = true → depth v ≤ d → rd d (layM v ++ r) = some (v, r)
  | .mk k b i s l ks, r, d, hr, hi, hd => by
    simp only [right, Bool.and_eq_true] at hr
    simp only [range64, Bool.and_eq_true] at hi
    simp only [depth] at hd
    obtain ⟨d, rfl⟩ : ∃ j, d = j + 1 := ⟨d - 1, by omega⟩
    have ih := rd_layL l
    have ihk := rd_layK l
    rcases good_shape hr.1 with ⟨rfl, rfl, rfl, rfl, rfl, rfl⟩ | ⟨rfl, rfl, rfl, rfl, rfl⟩ | ⟨rfl, rfl, rfl, rfl, rfl⟩ | ⟨rfl, rfl, rfl, rfl, rfl⟩ | ⟨rfl, rfl, rfl, rfl, rfl⟩ | ⟨rfl, rfl, rfl, rfl, hkl, _⟩ | ⟨rfl, rfl, rfl, rfl, rfl, _⟩ | ⟨rfl, rfl, rfl, rfl, rfl, _⟩
    · rfl
    · cases b <;> rfl
    · have e : layM (.mk 2 false i [] [] []) ++ r = 7 :: (eightL (bits64 i ^^^ 9223372036854775808) ++ r) := rfl
      rw [e, rd_cons, if_neg (by decide), if_neg (by decide), if_pos rfl, if_neg (by simp [eight_length]), List.take_left' (eight_length _), List.drop_left' (eight_length _), beN_eight _ (off_lt i), off_back i hi.1]
    · have e : layM (.mk 3 false 0 s [] []) ++ r = 5 :: (endedM s ++ r) := rfl
      rw [e, rd_cons, if_neg (by decide), if_neg (by decide), if_neg (by decide), if_neg (by decide), if_neg (by decide), if_pos rfl, txt_ended]
      rfl
    · have e : layM (.mk 4 false 0 [] l []) ++ r = 4 :: (layL l ++ 0 :: r) := by
        show (4 :: layL l ++ [0]) ++ r = _
        simp
      rw [e, rd_4, ih r [] d _ hr.2 hi.2 (by omega) (by simp)]
      rfl
    · have e : layM (.mk 5 false 0 [] l ks) ++ r = 1 :: (layK l ks ++ 0 :: r) := by
        show (1 :: layK l ks ++ [0]) ++ r = _
        simp
      rw [e, rd_1, ihk ks r [] [] d _ hr.2 hi.2 hkl (by omega) (by simp)]
      rfl
    · have e : layM (.mk 6 false i [] [] []) ++ r = 2 :: (eightL (bits64 i) ++ r) := rfl
      rw [e, rd_cons, if_neg (by decide), if_neg (by decide), if_neg (by decide), if_pos rfl, if_neg (by simp [eight_length]), List.take_left' (eight_length _), List.drop_left' (eight_length _), beN_eight _ (bits64_lt i), bits_back i hi.1]
    · have e : layM (.mk 7 false i [] [] []) ++ r = 3 :: (eightL (bits64 i) ++ r) := rfl
      rw [e, rd_cons, if_neg (by decide), if_neg (by decide), if_neg (by decide), if_neg (by decide), if_pos rfl, if_neg (by simp [eight_length]), List.take_left' (eight_length _), List.drop_left' (eight_length _), beN_eight _ (bits64_lt i), bits_back i hi.1]
theorem rd_layL : ∀ (l : List Val) (r : List UInt8) (acc : List Val) (d k : Nat), rightL l = true → range64L l = true → depthL l ≤ d → (layL l ++ 0 :: r).length < k → rdL (rd d) k (layL l ++ 0 :: r) acc = some (acc ++ l, r)
  | [], r, acc, d, k, _, _, _, hk => by
    obtain ⟨k, rfl⟩ : ∃ j, k = j + 1 := ⟨k - 1, by omega⟩
    simp [layL, rdL]
  | v :: l, r, acc, d, k, hr, hi, hd, hk => by
    obtain ⟨k, rfl⟩ : ∃ j, k = j + 1 := ⟨k - 1, by omega⟩
    simp only [rightL, Bool.and_eq_true] at hr
    simp only [range64L, Bool.and_eq_true] at hi
    simp only [depthL] at hd
    have h1 := rd_lay v (layL l ++ 0 :: r) d hr.1 hi.1 (by omega)
    obtain ⟨m, t, hm, hm0⟩ := lay_head v
    have e : layL (v :: l) ++ 0 :: r = m :: (t ++ (layL l ++ 0 :: r)) := by simp [layL, hm]
    rw [hm, List.cons_append] at h1
    simp only [layL, List.length_append, List.length_cons, hm] at hk
    rw [e, rdL_cons hm0 h1, rd_layL l r _ d k hr.2 hi.2 (by omega) (by simp; omega)]
    simp
theorem rd_layK : ∀ (l : List Val) (ks : List (List UInt8)) (r : List UInt8) (acc : List Val) (ka : List (List UInt8)) (d k : Nat), rightL l = true → range64L l = true → ks.length = l.length → depthL l ≤ d → (layK l ks ++ 0 :: r).length < k →
    rdK (rd d) k (layK l ks ++ 0 :: r) acc ka = some (acc ++ l, ka ++ ks, r)
  | [], ks, r, acc, ka, d, k, _, _, hl, _, hk => by
    obtain ⟨k, rfl⟩ : ∃ j, k = j + 1 := ⟨k - 1, by omega⟩
    have : ks = [] := List.length_eq_zero_iff.1 hl
    subst this
    simp [layK, rdK]
  | v :: l, [], r, acc, ka, d, k, _, _, hl, _, _ => by cases hl
  | v :: l, key :: ks, r, acc, ka, d, k, hr, hi, hl, hd, hk => by
    obtain ⟨k, rfl⟩ : ∃ j, k = j + 1 := ⟨k - 1, by omega⟩
    simp only [rightL, Bool.and_eq_true] at hr
    simp only [range64L, Bool.and_eq_true] at hi
    simp only [depthL] at hd
    have h1 := rd_lay v (layK l ks ++ 0 :: r) d hr.1 hi.1 (by omega)
    have h2 := txt_ended key (layM v ++ (layK l ks ++ 0 :: r))
    have e : layK (v :: l) (key :: ks) ++ 0 :: r = 1 :: (endedM key ++ (layM v ++ (layK l ks ++ 0 :: r))) := by simp [layK]
    simp only [layK, List.length_append, List.length_cons] at hk
    rw [e, rdK, if_neg (by decide), if_pos rfl, h2]
    simp only
    rw [h1]
    simp only
    rw [rd_layK l ks r _ _ d k hr.2 hi.2 (by simpa using hl) (by omega) (by simp; omega)]
    simp
end
end W
end
section
namespace Ax
open Go
variable {Lw : Nat}

/-- The slice k is rows that nobody writes any more. -/
def subV (k : Nat) (p : PV) : FV → FV
  | .vsl k' n => match Nat.beq k' k with | true => .p p | false => .vsl k' n
  | v => v
def subE (k : Nat) (p : PV) : Env → Env
  | [] => []
  | (t, v) :: E => (t, subV k p v) :: subE k p E
def subC (k : Nat) (p : PV) : List FV → List FV
  | [] => []
  | v :: l => subV k p v :: subC k p l
def subOb (k : Nat) (p : PV) : AObj → AObj
  | .box t cs => .box t (subC k p cs)
  | .pbx t c => .pbx t (subV k p c)
  | o => o
def subO (k : Nat) (p : PV) : Nat → List AObj → List AObj
  | _, [] => []
  | 0, _ :: l => .dead :: l.map (subOb k p)
  | n + 1, o :: l => subOb k p o :: subO k p n l

theorem subV_rep {ρ : List Value} {H H' : (PH Lw)} {k : Nat} {p : PV} {v : Value} (hv : ρ[k]? = some v) (hr : RepP H' p v) (hle : PH.le H H') {f : FV} {x : Value} (r : RepF ρ H f x) : RepF ρ H' (subV k p f) x := by
  cases f with
  | vsl k' n =>
    simp only [subV]
    split
    · rename_i hb
      have e := Nat.eq_of_beq_eq_true hb
      subst e
      have : x = v := Option.some.inj (r.1.symm.trans hv)
      subst this
      exact hr
    · exact r.mono (List.prefix_refl _) hle
  | _ => exact r.mono (List.prefix_refl _) hle
theorem subE_look {k : Nat} {p : PV} : ∀ (E : Env) (t : Nat), lookD (subE k p E) t = subV k p (lookD E t)
  | [], t => rfl
  | (t', v) :: E, t => by
    simp only [subE, lookD]
    split
    · rfl
    · exact subE_look E t
theorem subC_rep {ρ : List Value} {H H' : (PH Lw)} {k : Nat} {p : PV} {v : Value} (hv : ρ[k]? = some v) (hr : RepP H' p v) (hle : PH.le H H') : ∀ {cs : List FV} {vs : List Value}, RepFL ρ H cs vs → RepFL ρ H' (subC k p cs) vs
  | [], _, r => r
  | c :: cs, vs, r => by
    obtain ⟨u, us, e, r1, r2⟩ := r
    exact ⟨u, us, e, subV_rep hv hr hle r1, subC_rep hv hr hle r2⟩
theorem subO_get {k : Nat} {p : PV} : ∀ {n : Nat} {lo : List AObj} {i : Nat} {o : AObj}, (subO k p n lo)[i]? = some o → (i = n ∧ o = .dead ∧ i < lo.length) ∨ (i ≠ n ∧ ∃ o', lo[i]? = some o' ∧ o = subOb k p o')
  | _, [], i, o, h => by simp [subO] at h
  | 0, a :: l, 0, o, h => by simp [subO] at h; exact .inl ⟨rfl, h.symm, by simp⟩
  | 0, a :: l, i + 1, o, h => by
    simp [subO] at h
    obtain ⟨o', h1, h2⟩ := h
    exact .inr ⟨by omega, o', by simpa using h1, h2.symm⟩
  | n + 1, a :: l, 0, o, h => by simp [subO] at h; exact .inr ⟨by omega, a, rfl, h.symm⟩
  | n + 1, a :: l, i + 1, o, h => by
    simp [subO] at h
    rcases subO_get (n := n) (lo := l) (i := i) (o := o) h with ⟨h1, h2, h3⟩ | ⟨h1, o', h2, h3⟩
    · exact .inl ⟨by omega, h2, by simpa using h3⟩
    · exact .inr ⟨by omega, o', by simpa using h2, h3⟩
theorem subO_length {k : Nat} {p : PV} : ∀ {n : Nat} {lo : List AObj}, (subO k p n lo).length = lo.length
  | _, [] => by simp [subO]
  | 0, a :: l => by simp [subO]
  | n + 1, a :: l => by simp [subO, subO_length (n := n) (lo := l)]
theorem subOb_live {k : Nat} {p : PV} (o : AObj) : (subOb k p o).live = o.live := by cases o <;> rfl
theorem subOb_ok {ρ : List Value} {H H' : (PH Lw)} {w : World} {k : Nat} {p : PV} {v : Value} (hv : ρ[k]? = some v) (hr : RepP H' p v) {o : AObj} {u : Value} (hn : o.live = true → ∀ b, blkOf u = some b → ∀ o, H b o = none → H' b o = none)
    (hle : PH.le H H') (h : ObjOk ρ H w u o) : ObjOk ρ H' w u (subOb k p o) := by
  cases o with
  | dead => trivial
  | box t cs =>
    obtain ⟨b, vs, rfl, hg, hc, hh⟩ := h
    exact ⟨b, vs, rfl, hg, subC_rep hv hr hle hc, fun o => hn rfl b (by simp [blkOf]) o (hh o)⟩
  | pbx t c =>
    obtain ⟨b, x, xs, rfl, hg, hc, hh⟩ := h
    exact ⟨b, x, xs, rfl, hg, subV_rep hv hr hle hc, fun o => hn rfl b (by simp [blkOf]) o (hh o)⟩
  | _ => exact h.keep (List.prefix_refl _) hle (fun _ _ _ => rfl) (fun b o' hb _ hno => hn rfl b hb o' hno)

theorem publish_sub {bs : (Base Lw)} {N : Nat} {ρ : List Value} {H : (PH Lw)} {E : Env} {lo : List AObj} {a : Act} {w : World} (s : Sat bs N ρ H (lookD E) lo a w) {k : Nat} {e : TypeId} {z : Nat} {rows : List (List PV)} (ho : lo[k]? = some (.vec e z rows)) :
    ∃ H', Sat bs N ρ H' (lookD (subE k (.sl rows) E)) (subO k (.sl rows) k lo) a w := by
  have hk : k < ρ.length := by rw [s.hlen]; exact (List.getElem?_eq_some_iff.1 ho).1
  have hv : ρ[k]? = some ρ[k] := List.getElem?_eq_getElem hk
  obtain ⟨xs, hown, hrV, h1, hh⟩ := s.objs k _ _ ho hv
  obtain ⟨H', hle, sp, hr, hnew⟩ := s.toSatW.publishN ho hv
  -- nothing of another object becomes common
  have hno : ∀ i oi vi, i ≠ k → lo[i]? = some oi → ρ[i]? = some vi → oi.live = true → ∀ b, blkOf vi = some b → ∀ o, H b o = none → H' b o = none := by
    intro i oi vi hne hi hvi hl b hb o hn
    rcases hnew b o hn with h | h
    · exact h
    · exact absurd hb (s.excl k i _ oi _ vi b ho hi hv hvi (fun e => hne e.symm) rfl hl h)
  refine ⟨H', { sath := sp.sath, hlen := by rw [subO_length]; exact s.hlen, pre := s.pre, objs := fun i o vi hi hvi => ?_, excl := fun i j oi oj vi vj b hi hj hvi hvj hne hli hlj hb => ?_, own := fun i o vi b hi hvi hl hb => ?_, keep := s.keep, leH := sp.leH, newH := sp.newH, slots := fun t => ?_, width := s.width, defers := s.defers }⟩
  · rcases subO_get hi with ⟨rfl, rfl, _⟩ | ⟨hne, o', ho', rfl⟩
    · trivial
    · exact subOb_ok hv hr (fun hl b hb o hn => hno i o' vi hne ho' hvi hl b hb o hn) hle (s.objs i o' vi ho' hvi)
  · rcases subO_get hi with ⟨_, rfl, _⟩ | ⟨_, o1, ho1, rfl⟩
    · cases hli
    · rcases subO_get hj with ⟨_, rfl, _⟩ | ⟨_, o2, ho2, rfl⟩
      · cases hlj
      · rw [subOb_live] at hli hlj
        exact s.excl i j o1 o2 vi vj b ho1 ho2 hvi hvj hne hli hlj hb
  · rcases subO_get hi with ⟨_, rfl, _⟩ | ⟨_, o1, ho1, rfl⟩
    · cases hl
    · rw [subOb_live] at hl
      exact s.own i o1 vi b ho1 hvi hl hb
  · rw [subE_look]
    exact subV_rep hv hr hle (s.slots t)

theorem WpA.pub {P : Program} {N nb : Nat} {c : Code} {K : KA} {E : Env} {lo : List AObj} (k : Nat) {e : TypeId} {z : Nat} {rows : List (List PV)} (ho : lo[k]? = some (.vec e z rows))
    (h : WpA P N nb c K (subE k (.sl rows) E) (subO k (.sl rows) k lo)) : WpA P N nb c K E lo := fun Lw bs ρ H a w hb s =>
  let ⟨H', s'⟩ := publish_sub s ho
  h bs ρ H' a w hb s'
theorem LoopA.pub {P : Program} {inl : List Nat} {N nb : Nat} {c : Code} {K : KA} {E : Env} {lo : List AObj} (k : Nat) {e : TypeId} {z : Nat} {rows : List (List PV)} (ho : lo[k]? = some (.vec e z rows))
    (h : LoopA P inl N nb c K (subE k (.sl rows) E) (subO k (.sl rows) k lo)) : LoopA P inl N nb c K E lo := fun hm hd => (h hm hd).pub k ho
theorem SeqA.pub {P : Program} {inl : List Nat} {N nb : Nat} {c d : Code} {K : KA} {E : Env} {lo : List AObj} (k : Nat) {e : TypeId} {z : Nat} {rows : List (List PV)} (ho : lo[k]? = some (.vec e z rows))
    (h : SeqA P inl N nb c d K (subE k (.sl rows) E) (subO k (.sl rows) k lo)) : SeqA P inl N nb c d K E lo := fun hm hc hd => (h hm hc hd).pub k ho

/-! ### A box that nobody writes any more -/
def pureL : List FV → Option (List PV)
  | [] => some []
  | .p v :: l => match pureL l with | some r => some (v :: r) | none => none
  | .tsl _ rows :: l => match pureL l with | some r => some (.sl rows :: r) | none => none
  | .hptr row :: l => match pureL l with | some r => some (.hp row :: r) | none => none
  | _ => none
theorem pureL_rep {ρ : List Value} {H : (PH Lw)} : ∀ {cs : List FV} {row : List PV} {vs : List Value}, pureL cs = some row → RepFL ρ H cs vs → RepL H row vs
  | [], row, vs, h, r => by simp only [pureL] at h; cases h; simp only [RepL]; exact r
  | c :: cs, row, vs, h, r => by
    obtain ⟨u, us, e, r1, r2⟩ := r
    cases c <;> simp only [pureL] at h <;> try (exact absurd h (by simp))
    · split at h
      · rename_i q hq
        cases h
        simp only [RepL]
        exact ⟨u, us, e, r1, pureL_rep hq r2⟩
      · cases h
    · split at h
      · rename_i q hq
        cases h
        simp only [RepL]
        exact ⟨u, us, e, r1.2, pureL_rep hq r2⟩
      · cases h
    · split at h
      · rename_i q hq
        cases h
        simp only [RepL]
        refine ⟨u, us, e, ?_, pureL_rep hq r2⟩
        simp only [RepP]
        exact r1
      · cases h
theorem SatW.publishBox {bs : (Base Lw)} {ρ : List Value} {H : (PH Lw)} {lo : List AObj} {w : World} (s : SatW bs ρ H lo w) {k : Nat} {t : TypeId} {cells : List FV} {row : List PV} {v : Value} (ho : lo[k]? = some (.box t cells)) (hv : ρ[k]? = some v)
    (hp : pureL cells = some row) (h1 : row.all oneP = true) : ∃ H' b vs, PH.le H H' ∧ SatW bs ρ H' (lo.set k .dead) w ∧ v = .pointer (some ⟨b, 0, none⟩) ∧ RepL H' row vs ∧ ∀ j u, vs[j]? = some u → H' b j = some u := by
  obtain ⟨b, vs, rfl, hg, hcs, hh⟩ := s.objs k _ _ ho hv
  have hr := pureL_rep hp hcs
  have hone : ∀ u ∈ vs, u.oneCell' = true := RepL.one (fun c hc => List.all_eq_true.1 h1 c hc) hr
  have hle : PH.le H (grownH H (.pointer (some ⟨b, 0, none⟩)) vs) := by
    intro b' o u hu
    unfold grownH
    split
    · rename_i hc
      obtain ⟨e1, _⟩ := hc
      simp only [blkOf, Option.some.injEq] at e1
      subst e1
      rw [hh o] at hu
      cases hu
    · exact hu
  have sk := s.kill k
  refine ⟨grownH H (.pointer (some ⟨b, 0, none⟩)) vs, b, vs, hle, ?_, rfl, RepL.mono hle hr, fun j u hu => ?_⟩
  · refine { sath := ⟨fun b' o u hu => ?_, s.sath.root.mono hle, s.sath.low, fun b' o u hu hL => by
      by_cases hbv : b = b'
      · subst hbv; exact .of hg
      · unfold grownH at hu
        rw [if_neg (fun hc => hbv (by simpa [blkOf] using hc.1))] at hu
        exact s.sath.nf b' o u hu hL⟩, hlen := sk.hlen, pre := sk.pre, objs := fun i oi vi hi hvi => ?_, excl := sk.excl, own := sk.own, keep := sk.keep, leH := sk.leH.trans hle, newH := fun b' o u hu => ?_ }
    · unfold grownH at hu
      split at hu
      · rename_i hc
        obtain ⟨e1, _⟩ := hc
        simp only [blkOf, Option.some.injEq] at e1
        subst e1
        refine ⟨?_, hone u (List.mem_of_getElem? hu)⟩
        simp only [World.cell?, hg]
        simpa using hu
      · exact s.sath.cell b' o u hu
    · rw [List.getElem?_set] at hi
      split at hi
      · split at hi
        · cases hi; trivial
        · cases hi
      · rename_i hne
        cases hl : oi.live with
        | false => cases oi <;> simp [AObj.live] at hl; trivial
        | true =>
          refine (s.objs i oi vi hi hvi).keep (List.prefix_refl _) hle (fun _ _ _ => rfl) (fun b' o' hb' _ hn => ?_)
          unfold grownH
          rw [if_neg (fun hc => s.excl k i _ oi _ vi b' ho hi hv hvi hne rfl hl hc.1 hb')]
          exact hn
    · unfold grownH at hu
      split at hu
      · rename_i hc
        exact .inr (s.own k _ _ b' ho hv rfl hc.1)
      · exact s.newH b' o u hu
  · unfold grownH
    rw [if_pos ⟨by simp [blkOf], (List.getElem?_eq_some_iff.1 hu).1⟩]
    exact hu
def subP (k : Nat) (row : List PV) : FV → FV
  | .ptr k' off => match Nat.beq k' k with | true => .hptr (row.drop off) | false => .ptr k' off
  | .clo f c => .clo f (subP k row c)
  | .cap a b => .cap (subP k row a) (subP k row b)
  | v => v
theorem subP_rep {ρ : List Value} {H H' : (PH Lw)} {k : Nat} {row : List PV} {b : Nat} {vs : List Value} (hv : ρ[k]? = some (.pointer (some ⟨b, 0, none⟩))) (hr : RepL H' row vs) (hc : ∀ j u, vs[j]? = some u → H' b j = some u) (hle : PH.le H H') {f : FV} {x : Value} (r : RepF ρ H f x) :
    RepF ρ H' (subP k row f) x := by
  induction f generalizing x with
  | ptr k' off =>
    simp only [subP]
    split
    · rename_i hb
      have e := Nat.eq_of_beq_eq_true hb
      subst e
      obtain ⟨b', h1, rfl⟩ := r
      rw [hv] at h1
      cases h1
      exact ⟨b, off, vs.drop off, rfl, hr.drop off, fun j u hu => hc _ _ (by simpa using hu)⟩
    · exact r.mono (List.prefix_refl _) hle
  | clo f c ih =>
    obtain ⟨us, e, r⟩ := r
    exact ⟨us, e, ih r⟩
  | cap a b iha ihb =>
    obtain ⟨u, us, e, ra, rb⟩ := r
    exact ⟨u, us, e, iha ra, ihb rb⟩
  | _ => exact r.mono (List.prefix_refl _) hle
def subPL (k : Nat) (row : List PV) : List FV → List FV
  | [] => []
  | v :: l => subP k row v :: subPL k row l
def deadK : Nat → List AObj → List AObj
  | _, [] => []
  | 0, _ :: l => .dead :: l
  | n + 1, o :: l => o :: deadK n l
theorem deadK_eq : ∀ (k : Nat) (lo : List AObj), deadK k lo = lo.set k .dead
  | _, [] => by simp [deadK]
  | 0, a :: l => by simp [deadK]
  | n + 1, a :: l => by simp [deadK, deadK_eq n l]
theorem CallsI.pubBox {P : Program} {f : FuncId} {args : List FV} {lo : List AObj} {R : FV → List AObj → Prop} (k : Nat) {t : TypeId} {cells : List FV} {row : List PV} (ho : lo[k]? = some (.box t cells)) (hp : pureL cells = some row) (h1 : row.all oneP = true)
    (h : CallsI P f (subPL k row args) (deadK k lo) R) : CallsI P f args lo R := by
  intro Lw bs ρ H w vs s rl
  have hk : k < ρ.length := by rw [s.hlen]; exact (List.getElem?_eq_some_iff.1 ho).1
  have hv : ρ[k]? = some ρ[k] := List.getElem?_eq_getElem hk
  obtain ⟨H', b, cs, hle, s', e, hr, hc⟩ := s.publishBox ho hv hp h1
  rw [e] at hv
  have sub : ∀ {xs : List FV} {us : List Value}, RepFL ρ H xs us → RepFL ρ H' (subPL k row xs) us := by
    intro xs
    induction xs with
    | nil => intro us r; exact r
    | cons x xs ih =>
      intro us r
      obtain ⟨u, us', e, r1, r2⟩ := r
      exact ⟨u, us', e, subP_rep hv hr hc hle r1, ih r2⟩
  rw [deadK_eq] at h
  have := h bs ρ H' w vs s' (sub rl)
  have after : ∀ {r lo' v w'}, After bs ρ H' r lo' v w' → After bs ρ H r lo' v w' := fun ⟨ρ2, H2, a, b, c, d⟩ => ⟨ρ2, H2, a, hle.trans b, c, d⟩
  generalize (callFunc f vs.toArray).run P w = x at *
  cases x with
  | ok n w' =>
    cases n <;> simp only at this ⊢ <;> try exact this
    · obtain ⟨r, lo', a, kk⟩ := this; exact ⟨r, lo', after a, kk⟩
    · obtain ⟨e, hcc⟩ := this
      exact ⟨e, hcc.mono fun en w'' ⟨v, r, lo', e, a, kk⟩ => ⟨v, r, lo', e, after a, kk⟩⟩
  | halt x w' => exact this
end Ax
end
section
open Go Go.Proofs Ax
namespace W
abbrev R_F_R03_SameNames (r : Bool) : PV := PV.bool r

def F_R03_SameNames_l1 (n : Nat) (x1 : List (List UInt8)) (x2 : List (List UInt8)) : (Int → Option (Bool)) → Int → Option (Bool) := fun nx1 x3 =>
 bif (decide (x3 < (((strs x1).length : Nat) : Int))) then (
 bnd (idx x1 x3) fun x4 =>
 bnd (idx x2 x3) fun x5 =>
 bif (!(x4 == x5)) then (
 some false)
else (
 nx1 (IntKind.i64.wrap (x3 + (1 : Int)))))
else (
 some true)

def F_R03_SameNames (n : Nat)  (x1 : List (List UInt8)) (x2 : List (List UInt8)) : Option (Bool) :=
  bif ((((strs x1).length : Nat) : Int) != (((strs x2).length : Nat) : Int)) then (
  some false)
  else (
  loopK (F_R03_SameNames_l1 n x1 x2) n (0 : Int))

set_option maxRecDepth 100000 in
theorem F_R03_SameNames_ok (n : Nat)   : ∀ (x1 : List (List UInt8)) (x2 : List (List UInt8)) (r : Bool), F_R03_SameNames n x1 x2 = some r → CallsF Tryd.prog 72 [PV.sl (strs x1), PV.sl (strs x2)] (R_F_R03_SameNames r) := by
  intro x1 x2 r h
  unfold F_R03_SameNames at h
  refine CallsF.of_vcN mixed (fun _ _ => Tryd.call72 _ _) Tryd.func72 (by kernel_rfl) (inl := [1000000]) ?_
  conv => whnf
  refine ⟨fun hc => ?_, fun hc => ?_⟩
  · replace h := cond_t h hc
    obtain rfl := Option.some.inj h
    conv => whnf
    repeat (first | exact rfl | exact trivial | refine ⟨?_, ?_⟩)
  · replace h := cond_f h hc
    conv => whnf
    refine LoopA.fn [1000000] (S := Int) (fun x3 => [(0, .p (.sl (strs x1))), (1, .p (.sl (strs x2))), (5, .p (.int .i64 x3))]) (fun x3 => []) (B := F_R03_SameNames_l1 n x1 x2) h ⟨[], [], ⟨rfl, rfl, rfl, rfl⟩, by repeat (first | exact trivial | exact .inl rfl | exact rfl | exact List.not_mem_nil | (refine .inr ?_) | (refine ⟨?_, ?_⟩) | exact List.length_set.symm | decide), by repeat (first | exact trivial | exact .inl rfl | exact rfl | exact List.not_mem_nil | (refine .inr ?_) | (refine ⟨?_, ?_⟩) | exact List.length_set.symm | decide)⟩ ?_
    intro nx1 x3 h
    unfold F_R03_SameNames_l1 at h
    conv => whnf
    refine ⟨fun hc => ?_, fun hc => ?_⟩
    · replace h := cond_t h hc
      conv => whnf
      replace h := bnd_some h
      obtain ⟨x4, h2, h⟩ := h
      refine ⟨_, Codec.at_ strC h2, ?_⟩
      conv => whnf
      replace h := bnd_some h
      obtain ⟨x5, h1, h⟩ := h
      refine ⟨_, Codec.at_ strC h1, ?_⟩
      conv => whnf
      refine ⟨fun hc => ?_, fun hc => ?_⟩
      · replace h := cond_t h hc
        obtain rfl := Option.some.inj h
        conv => whnf
        repeat (first | exact rfl | exact trivial | refine ⟨?_, ?_⟩)
      · replace h := cond_f h hc
        conv => whnf
        exact ⟨(IntKind.i64.wrap (x3 + (1 : Int))), h, ⟨[], [], ⟨rfl, rfl, rfl, rfl⟩, by repeat (first | exact trivial | exact .inl rfl | exact rfl | exact List.not_mem_nil | (refine .inr ?_) | (refine ⟨?_, ?_⟩) | exact List.length_set.symm | decide), by repeat (first | exact trivial | exact .inl rfl | exact rfl | exact List.not_mem_nil | (refine .inr ?_) | (refine ⟨?_, ?_⟩) | exact List.length_set.symm | decide)⟩⟩
    · replace h := cond_f h hc
      obtain rfl := Option.some.inj h
      conv => whnf
      repeat (first | exact rfl | exact trivial | refine ⟨?_, ?_⟩)

abbrev R_F_R03_SameList (r : Bool) : PV := PV.bool r

def F_R03_SameList_l1 (n : Nat) (x1 : List Val) (x2 : List Val) (g58 : Val → Val → Option (Bool)) : (Int → Option (Bool)) → Int → Option (Bool) := fun nx1 x3 =>
 bif (decide (x3 < (((Val.rows x1).length : Nat) : Int))) then (
 bnd (idx x1 x3) fun ⟨x4, x5, x6, x7, x8, x9⟩ =>
 bnd (idx x2 x3) fun ⟨x10, x11, x12, x13, x14, x15⟩ =>
 bnd (g58 (Val.mk x4 x5 x6 x7 x8 x9) (Val.mk x10 x11 x12 x13 x14 x15)) fun x16 =>
 bif (!x16) then (
 some false)
else (
 nx1 (IntKind.i64.wrap (x3 + (1 : Int)))))
else (
 some true)

def BF_R03_SameList (n : Nat) (g35 : (List Val) → (List Val) → Option (Bool)) (g58 : Val → Val → Option (Bool)) (x1 : List Val) (x2 : List Val) : Option (Bool) :=
  bif ((((Val.rows x1).length : Nat) : Int) != (((Val.rows x2).length : Nat) : Int)) then (
  some false)
  else (
  loopK (F_R03_SameList_l1 n x1 x2 g58) n (0 : Int))

abbrev R_F_R03_Same (r : Bool) : PV := PV.bool r

def BF_R03_Same (n : Nat) (g35 : (List Val) → (List Val) → Option (Bool)) (g58 : Val → Val → Option (Bool)) (a0_ : Val) (a1_ : Val) : Option (Bool) :=
  match a0_, a1_ with
  | ⟨x1, x2, x3, x4, x5, x6⟩, ⟨x7, x8, x9, x10, x11, x12⟩ =>
  bnd (gsome (bif (bif (bif (x1 == x7) then (x2 == x8) else false) then (x3 == x9) else false) then (x4 == x10) else false) (F_R03_SameNames n x6 x12)) fun x13 =>
  bnd (gsome (bif (bif (bif (bif (x1 == x7) then (x2 == x8) else false) then (x3 == x9) else false) then (x4 == x10) else false) then x13 else false) (g35 x5 x11)) fun x14 =>
  some (bif (bif (bif (bif (bif (x1 == x7) then (x2 == x8) else false) then (x3 == x9) else false) then (x4 == x10) else false) then x13 else false) then x14 else false)

set_option maxRecDepth 100000 in
theorem BF_R03_SameList_ok (n : Nat) (g35 : (List Val) → (List Val) → Option (Bool)) (g58 : Val → Val → Option (Bool)) (g35_ok : ∀ (x1 : List Val) (x2 : List Val) (r : Bool), g35 x1 x2 = some r → CallsF Tryd.prog 35 [PV.sl (Val.rows x1), PV.sl (Val.rows x2)] (R_F_R03_SameList r)) (g58_ok : ∀ (a0_ : Val) (a1_ : Val) (r : Bool), g58 a0_ a1_ = some r → CallsF Tryd.prog 58 [PV.agg (valC.cells a0_), PV.agg (valC.cells a1_)] (R_F_R03_Same r)) : ∀ (x1 : List Val) (x2 : List Val) (r : Bool), BF_R03_SameList n g35 g58 x1 x2 = some r → CallsF Tryd.prog 35 [PV.sl (Val.rows x1), PV.sl (Val.rows x2)] (R_F_R03_SameList r) := by
  intro x1 x2 r h
  unfold BF_R03_SameList at h
  refine CallsF.of_vcN mixed (fun _ _ => Tryd.call35 _ _) Tryd.func35 (by kernel_rfl) (inl := [1000000]) ?_
  conv => whnf
  refine ⟨fun hc => ?_, fun hc => ?_⟩
  · replace h := cond_t h hc
    obtain rfl := Option.some.inj h
    conv => whnf
    repeat (first | exact rfl | exact trivial | refine ⟨?_, ?_⟩)
  · replace h := cond_f h hc
    conv => whnf
    refine LoopA.fn [1000000] (S := Int) (fun x3 => [(0, .p (.sl (Val.rows x1))), (1, .p (.sl (Val.rows x2))), (5, .p (.int .i64 x3))]) (fun x3 => []) (B := F_R03_SameList_l1 n x1 x2 g58) h ⟨[], [], ⟨rfl, rfl, rfl, rfl⟩, by repeat (first | exact trivial | exact .inl rfl | exact rfl | exact List.not_mem_nil | (refine .inr ?_) | (refine ⟨?_, ?_⟩) | exact List.length_set.symm | decide), by repeat (first | exact trivial | exact .inl rfl | exact rfl | exact List.not_mem_nil | (refine .inr ?_) | (refine ⟨?_, ?_⟩) | exact List.length_set.symm | decide)⟩ ?_
    intro nx1 x3 h
    unfold F_R03_SameList_l1 at h
    conv => whnf
    refine ⟨fun hc => ?_, fun hc => ?_⟩
    · replace h := cond_t h hc
      conv => whnf
      replace h := bnd_some h
      obtain ⟨⟨x4, x5, x6, x7, x8, x9⟩, h3, h⟩ := h
      refine ⟨_, Codec.at_ valC h3, ?_⟩
      conv => whnf
      replace h := bnd_some h
      obtain ⟨⟨x10, x11, x12, x13, x14, x15⟩, h2, h⟩ := h
      refine ⟨_, Codec.at_ valC h2, ?_⟩
      conv => whnf
      replace h := bnd_some h
      obtain ⟨x16, h1, h⟩ := h
      refine ⟨_, (g58_ok _ _  _ h1), ?_⟩
      conv => whnf
      refine ⟨fun hc => ?_, fun hc => ?_⟩
      · replace h := cond_t h hc
        obtain rfl := Option.some.inj h
        conv => whnf
        repeat (first | exact rfl | exact trivial | refine ⟨?_, ?_⟩)
      · replace h := cond_f h hc
        conv => whnf
        exact ⟨(IntKind.i64.wrap (x3 + (1 : Int))), h, ⟨[], [], ⟨rfl, rfl, rfl, rfl⟩, by repeat (first | exact trivial | exact .inl rfl | exact rfl | exact List.not_mem_nil | (refine .inr ?_) | (refine ⟨?_, ?_⟩) | exact List.length_set.symm | decide), by repeat (first | exact trivial | exact .inl rfl | exact rfl | exact List.not_mem_nil | (refine .inr ?_) | (refine ⟨?_, ?_⟩) | exact List.length_set.symm | decide)⟩⟩
    · replace h := cond_f h hc
      obtain rfl := Option.some.inj h
      conv => whnf
      repeat (first | exact rfl | exact trivial | refine ⟨?_, ?_⟩)

set_option maxHeartbeats 4000000 in
set_option maxRecDepth 100000 in
theorem BF_R03_Same_ok (n : Nat) (g35 : (List Val) → (List Val) → Option (Bool)) (g58 : Val → Val → Option (Bool)) (g35_ok : ∀ (x1 : List Val) (x2 : List Val) (r : Bool), g35 x1 x2 = some r → CallsF Tryd.prog 35 [PV.sl (Val.rows x1), PV.sl (Val.rows x2)] (R_F_R03_SameList r)) (g58_ok : ∀ (a0_ : Val) (a1_ : Val) (r : Bool), g58 a0_ a1_ = some r → CallsF Tryd.prog 58 [PV.agg (valC.cells a0_), PV.agg (valC.cells a1_)] (R_F_R03_Same r)) : ∀ (a0_ : Val) (a1_ : Val) (r : Bool), BF_R03_Same n g35 g58 a0_ a1_ = some r → CallsF Tryd.prog 58 [PV.agg (valC.cells a0_), PV.agg (valC.cells a1_)] (R_F_R03_Same r) := by
  intro a0_ a1_ r h
  obtain ⟨x1, x2, x3, x4, x5, x6⟩ := a0_
  obtain ⟨x7, x8, x9, x10, x11, x12⟩ := a1_
  unfold BF_R03_Same at h
  refine CallsF.of_vcN mixed (fun _ _ => Tryd.call58 _ _) Tryd.func58 (by kernel_rfl) (inl := [1000000]) ?_
  conv => whnf
  iterate 19 (refine And.intro (fun h => h) ?_)
  conv => whnf
  replace h := bnd_some h
  obtain ⟨x13, h2, h⟩ := h
  refine ⟨_, fun hg => (F_R03_SameNames_ok n _ _  _ (gsome_some h2 hg)), ?_⟩
  conv => whnf
  iterate 5 (refine And.intro (fun h => h) ?_)
  conv => whnf
  replace h := bnd_some h
  obtain ⟨x14, h1, h⟩ := h
  refine ⟨_, fun hg => (g35_ok _ _  _ (gsome_some h1 hg)), ?_⟩
  conv => whnf
  refine And.intro (fun h => h) ?_
  obtain rfl := Option.some.inj h
  conv => whnf
  repeat (first | exact rfl | exact trivial | refine ⟨?_, ?_⟩)

mutual
def F_R03_SameList : Nat → (List Val) → (List Val) → Option (Bool)
  | 0 => fun _ _ => none
  | n + 1 => BF_R03_SameList n (F_R03_SameList n) (F_R03_Same n)
def F_R03_Same : Nat → Val → Val → Option (Bool)
  | 0 => fun _ _ => none
  | n + 1 => BF_R03_Same n (F_R03_SameList n) (F_R03_Same n)
end

set_option maxRecDepth 100000 in
theorem F_R03_SameList_all (n : Nat) : (∀ (x1 : List Val) (x2 : List Val) (r : Bool), F_R03_SameList n x1 x2 = some r → CallsF Tryd.prog 35 [PV.sl (Val.rows x1), PV.sl (Val.rows x2)] (R_F_R03_SameList r)) ∧ (∀ (a0_ : Val) (a1_ : Val) (r : Bool), F_R03_Same n a0_ a1_ = some r → CallsF Tryd.prog 58 [PV.agg (valC.cells a0_), PV.agg (valC.cells a1_)] (R_F_R03_Same r)) := by
  induction n with
  | zero => exact ⟨(by intros; rename_i h; cases h), (by intros; rename_i h; cases h)⟩
  | succ n ih =>
    obtain ⟨hg35, hg58⟩ := ih
    exact ⟨BF_R03_SameList_ok n (F_R03_SameList n) (F_R03_Same n) hg35 hg58, BF_R03_Same_ok n (F_R03_SameList n) (F_R03_Same n) hg35 hg58⟩

set_option maxRecDepth 100000 in
theorem F_R03_SameList_ok (n : Nat) : ∀ (x1 : List Val) (x2 : List Val) (r : Bool), F_R03_SameList n x1 x2 = some r → CallsF Tryd.prog 35 [PV.sl (Val.rows x1), PV.sl (Val.rows x2)] (R_F_R03_SameList r) := (F_R03_SameList_all n).1

set_option maxRecDepth 100000 in
theorem F_R03_Same_ok (n : Nat) : ∀ (a0_ : Val) (a1_ : Val) (r : Bool), F_R03_Same n a0_ a1_ = some r → CallsF Tryd.prog 58 [PV.agg (valC.cells a0_), PV.agg (valC.cells a1_)] (R_F_R03_Same r) := (F_R03_SameList_all n).2

abbrev R_F_R17_Same (r : Bool) : PV := PV.bool r

def F_R17_Same_l1 (n : Nat) (x1 : List (List Val)) (x2 : List (List Val)) : (Int → Option (Bool)) → Int → Option (Bool) := fun nx1 x3 =>
 bif (decide (x3 < (((slRows valC x1).length : Nat) : Int))) then (
 bnd (idx x1 x3) fun x4 =>
 bnd (idx x2 x3) fun x5 =>
 bnd (F_R03_SameList n x4 x5) fun x6 =>
 bif (!x6) then (
 some false)
else (
 nx1 (IntKind.i64.wrap (x3 + (1 : Int)))))
else (
 some true)

def F_R17_Same (n : Nat)  (x1 : List (List Val)) (x2 : List (List Val)) : Option (Bool) :=
  bif ((((slRows valC x1).length : Nat) : Int) != (((slRows valC x2).length : Nat) : Int)) then (
  some false)
  else (
  loopK (F_R17_Same_l1 n x1 x2) n (0 : Int))

set_option maxRecDepth 100000 in
theorem F_R17_Same_ok (n : Nat)   : ∀ (x1 : List (List Val)) (x2 : List (List Val)) (r : Bool), F_R17_Same n x1 x2 = some r → CallsF Tryd.prog 14 [PV.sl (slRows valC x1), PV.sl (slRows valC x2)] (R_F_R17_Same r) := by
  intro x1 x2 r h
  unfold F_R17_Same at h
  refine CallsF.of_vcN mixed (fun _ _ => Tryd.call14 _ _) Tryd.func14 (by kernel_rfl) (inl := [1000000]) ?_
  conv => whnf
  refine ⟨fun hc => ?_, fun hc => ?_⟩
  · replace h := cond_t h hc
    obtain rfl := Option.some.inj h
    conv => whnf
    repeat (first | exact rfl | exact trivial | refine ⟨?_, ?_⟩)
  · replace h := cond_f h hc
    conv => whnf
    refine LoopA.fn [1000000] (S := Int) (fun x3 => [(0, .p (.sl (slRows valC x1))), (1, .p (.sl (slRows valC x2))), (5, .p (.int .i64 x3))]) (fun x3 => []) (B := F_R17_Same_l1 n x1 x2) h ⟨[], [], ⟨rfl, rfl, rfl, rfl⟩, by repeat (first | exact trivial | exact .inl rfl | exact rfl | exact List.not_mem_nil | (refine .inr ?_) | (refine ⟨?_, ?_⟩) | exact List.length_set.symm | decide), by repeat (first | exact trivial | exact .inl rfl | exact rfl | exact List.not_mem_nil | (refine .inr ?_) | (refine ⟨?_, ?_⟩) | exact List.length_set.symm | decide)⟩ ?_
    intro nx1 x3 h
    unfold F_R17_Same_l1 at h
    conv => whnf
    refine ⟨fun hc => ?_, fun hc => ?_⟩
    · replace h := cond_t h hc
      conv => whnf
      replace h := bnd_some h
      obtain ⟨x4, h3, h⟩ := h
      refine ⟨_, Codec.at_ (slC valC) h3, ?_⟩
      conv => whnf
      replace h := bnd_some h
      obtain ⟨x5, h2, h⟩ := h
      refine ⟨_, Codec.at_ (slC valC) h2, ?_⟩
      conv => whnf
      replace h := bnd_some h
      obtain ⟨x6, h1, h⟩ := h
      refine ⟨_, (F_R03_SameList_ok n _ _  _ h1), ?_⟩
      conv => whnf
      refine ⟨fun hc => ?_, fun hc => ?_⟩
      · replace h := cond_t h hc
        obtain rfl := Option.some.inj h
        conv => whnf
        repeat (first | exact rfl | exact trivial | refine ⟨?_, ?_⟩)
      · replace h := cond_f h hc
        conv => whnf
        exact ⟨(IntKind.i64.wrap (x3 + (1 : Int))), h, ⟨[], [], ⟨rfl, rfl, rfl, rfl⟩, by repeat (first | exact trivial | exact .inl rfl | exact rfl | exact List.not_mem_nil | (refine .inr ?_) | (refine ⟨?_, ?_⟩) | exact List.length_set.symm | decide), by repeat (first | exact trivial | exact .inl rfl | exact rfl | exact List.not_mem_nil | (refine .inr ?_) | (refine ⟨?_, ?_⟩) | exact List.length_set.symm | decide)⟩⟩
    · replace h := cond_f h hc
      obtain rfl := Option.some.inj h
      conv => whnf
      repeat (first | exact rfl | exact trivial | refine ⟨?_, ?_⟩)

abbrev R_F_R17_Among (r : Int) : PV := PV.int .i64 r

def F_R17_Among_l1 (n : Nat) (x2 : List (List Val)) (x1 : List Val) : (Int → Option (Int)) → Int → Option (Int) := fun nx1 x3 =>
 bif (decide (x3 < (((slRows valC x2).length : Nat) : Int))) then (
 bnd (idx x2 x3) fun x4 =>
 bnd (F_R03_SameList n x4 x1) fun x5 =>
 bif x5 then (
 some x3)
else (
 nx1 (IntKind.i64.wrap (x3 + (1 : Int)))))
else (
 some (-1 : Int))

def F_R17_Among (n : Nat)  (x1 : List Val) (x2 : List (List Val)) : Option (Int) :=
  loopK (F_R17_Among_l1 n x2 x1) n (0 : Int)

set_option maxRecDepth 100000 in
theorem F_R17_Among_ok (n : Nat)   : ∀ (x1 : List Val) (x2 : List (List Val)) (r : Int), F_R17_Among n x1 x2 = some r → CallsF Tryd.prog 36 [PV.sl (Val.rows x1), PV.sl (slRows valC x2)] (R_F_R17_Among r) := by
  intro x1 x2 r h
  unfold F_R17_Among at h
  refine CallsF.of_vcN mixed (fun _ _ => Tryd.call36 _ _) Tryd.func36 (by kernel_rfl) (inl := [1000000]) ?_
  conv => whnf
  refine LoopA.fn [1000000] (S := Int) (fun x3 => [(0, .p (.sl (Val.rows x1))), (1, .p (.sl (slRows valC x2))), (5, .p (.int .i64 x3))]) (fun x3 => []) (B := F_R17_Among_l1 n x2 x1) h ⟨[], [], ⟨rfl, rfl, rfl, rfl⟩, by repeat (first | exact trivial | exact .inl rfl | exact rfl | exact List.not_mem_nil | (refine .inr ?_) | (refine ⟨?_, ?_⟩) | exact List.length_set.symm | decide), by repeat (first | exact trivial | exact .inl rfl | exact rfl | exact List.not_mem_nil | (refine .inr ?_) | (refine ⟨?_, ?_⟩) | exact List.length_set.symm | decide)⟩ ?_
  intro nx1 x3 h
  unfold F_R17_Among_l1 at h
  conv => whnf
  refine ⟨fun hc => ?_, fun hc => ?_⟩
  · replace h := cond_t h hc
    conv => whnf
    replace h := bnd_some h
    obtain ⟨x4, h2, h⟩ := h
    refine ⟨_, Codec.at_ (slC valC) h2, ?_⟩
    conv => whnf
    replace h := bnd_some h
    obtain ⟨x5, h1, h⟩ := h
    refine ⟨_, (F_R03_SameList_ok n _ _  _ h1), ?_⟩
    conv => whnf
    refine ⟨fun hc => ?_, fun hc => ?_⟩
    · replace h := cond_t h hc
      obtain rfl := Option.some.inj h
      conv => whnf
      repeat (first | exact rfl | exact trivial | refine ⟨?_, ?_⟩)
    · replace h := cond_f h hc
      conv => whnf
      exact ⟨(IntKind.i64.wrap (x3 + (1 : Int))), h, ⟨[], [], ⟨rfl, rfl, rfl, rfl⟩, by repeat (first | exact trivial | exact .inl rfl | exact rfl | exact List.not_mem_nil | (refine .inr ?_) | (refine ⟨?_, ?_⟩) | exact List.length_set.symm | decide), by repeat (first | exact trivial | exact .inl rfl | exact rfl | exact List.not_mem_nil | (refine .inr ?_) | (refine ⟨?_, ?_⟩) | exact List.length_set.symm | decide)⟩⟩
  · replace h := cond_f h hc
    obtain rfl := Option.some.inj h
    conv => whnf
    repeat (first | exact rfl | exact trivial | refine ⟨?_, ?_⟩)

abbrev R_F_R17_Unique (r : List (List Val)) : PV := PV.sl (slRows valC r)

def F_R17_Unique_k3 (n : Nat) (nx1 : List (List Val) × Int → Option (List (List Val))) (x3 : Int) : List (List Val) → Option (List (List Val)) := fun x4 =>
 nx1 (x4, (IntKind.i64.wrap (x3 + (1 : Int))))

def F_R17_Unique_l1 (n : Nat) (x1 : List (List Val)) : (List (List Val) × Int → Option (List (List Val))) → List (List Val) × Int → Option (List (List Val)) := fun nx1 (x2, x3) =>
 bif (decide (x3 < (((slRows valC x1).length : Nat) : Int))) then (
 bnd (idx x1 x3) fun x5 =>
 bnd (F_R17_Among n x5 x2) fun x6 =>
 bif (decide (x6 < (0 : Int))) then (
 bnd (idx x1 x3) fun x7 =>
 chk (decide ((slRows valC (x2 ++ [x7])).length * 24 ≤ 140737488355328)) (
 F_R17_Unique_k3 n nx1 x3 (x2 ++ [x7])))
else (
 F_R17_Unique_k3 n nx1 x3 x2))
else (
 some x2)

def F_R17_Unique (n : Nat)  (x1 : List (List Val)) : Option (List (List Val)) :=
  loopK (F_R17_Unique_l1 n x1) n (([] : List _), (0 : Int))

set_option maxRecDepth 100000 in
theorem F_R17_Unique_ok (n : Nat)   : ∀ (x1 : List (List Val)) (r : List (List Val)), F_R17_Unique n x1 = some r → CallsF Tryd.prog 15 [PV.sl (slRows valC x1)] (R_F_R17_Unique r) := by
  intro x1 r h
  unfold F_R17_Unique at h
  refine CallsF.of_vcN mixed (fun _ _ => Tryd.call15 _ _) Tryd.func15 (by kernel_rfl) (inl := [1000000]) ?_
  conv => whnf
  refine LoopA.fn [1000000] (S := List (List Val) × Int) (fun (x2, x3) => [(0, .p (.sl (slRows valC x1))), (3, .tsl 0 (slRows valC x2)), (4, .p (.int .i64 x3))]) (fun (x2, x3) => [.tail 37 1 (slRows valC x2).length]) (B := F_R17_Unique_l1 n x1) h ⟨[0], [0], ⟨rfl, rfl, rfl, rfl⟩, by repeat (first | exact trivial | exact .inl rfl | exact rfl | exact List.not_mem_nil | (refine .inr ?_) | (refine ⟨?_, ?_⟩) | exact List.length_set.symm | decide), by repeat (first | exact trivial | exact .inl rfl | exact rfl | exact List.not_mem_nil | (refine .inr ?_) | (refine ⟨?_, ?_⟩) | exact List.length_set.symm | decide)⟩ ?_
  intro nx1 st h
  obtain ⟨x2, x3⟩ := st
  unfold F_R17_Unique_l1 at h
  conv => whnf
  refine ⟨fun hc => ?_, fun hc => ?_⟩
  · replace h := cond_t h hc
    conv => whnf
    refine SeqA.cut (S := List (List Val)) (fun x4 => [(0, .p (.sl (slRows valC x1))), (3, .tsl 0 (slRows valC x4)), (4, .p (.int .i64 x3))]) (fun x4 => [.tail 37 1 (slRows valC x4).length]) (F_R17_Unique_k3 n nx1 x3) (r := r) ?_ ?_
    · intro x4 h
      unfold F_R17_Unique_k3 at h
      conv => whnf
      exact ⟨(x4, (IntKind.i64.wrap (x3 + (1 : Int)))), h, ⟨[0], [], ⟨rfl, rfl, rfl, rfl⟩, by repeat (first | exact trivial | exact .inl rfl | exact rfl | exact List.not_mem_nil | (refine .inr ?_) | (refine ⟨?_, ?_⟩) | exact List.length_set.symm | decide), by repeat (first | exact trivial | exact .inl rfl | exact rfl | exact List.not_mem_nil | (refine .inr ?_) | (refine ⟨?_, ?_⟩) | exact List.length_set.symm | decide)⟩⟩
    · conv => whnf
      replace h := bnd_some h
      obtain ⟨x5, h4, h⟩ := h
      refine ⟨_, Codec.at_ (slC valC) h4, ?_⟩
      conv => whnf
      replace h := bnd_some h
      obtain ⟨x6, h3, h⟩ := h
      refine ⟨_, (F_R17_Among_ok n _ _  _ h3), ?_⟩
      conv => whnf
      refine ⟨fun hc => ?_, fun hc => ?_⟩
      · replace h := cond_t h hc
        conv => whnf
        replace h := bnd_some h
        obtain ⟨x7, h2, h⟩ := h
        refine ⟨_, Codec.at_ (slC valC) h2, ?_⟩
        conv => whnf
        refine ⟨Codec.one (slC valC) [x7], slRows valC [x7], .inl rfl, ?_⟩
        conv => whnf
        rw [show slRows valC x2 ++ slRows valC [x7] = slRows valC (x2 ++ [x7]) from Codec.append (slC valC) x2 [x7]]
        conv => whnf
        obtain ⟨h1, h⟩ := chk_some h
        refine ⟨⟨Codec.wide (slC valC) (x2 ++ [x7]), of_decide_eq_true h1, len_ok h1 (by decide)⟩, ?_⟩
        conv => whnf
        refine ⟨⟨rfl, rfl, rfl⟩, ?_⟩
        conv => whnf
        exact ⟨(x2 ++ [x7]), h, ⟨[1], [], ⟨rfl, rfl, rfl, rfl⟩, by repeat (first | exact trivial | exact .inl rfl | exact rfl | exact List.not_mem_nil | (refine .inr ?_) | (refine ⟨?_, ?_⟩) | exact List.length_set.symm | decide), by repeat (first | exact trivial | exact .inl rfl | exact rfl | exact List.not_mem_nil | (refine .inr ?_) | (refine ⟨?_, ?_⟩) | exact List.length_set.symm | decide)⟩⟩
      · replace h := cond_f h hc
        conv => whnf
        exact ⟨x2, h, ⟨[0], [], ⟨rfl, rfl, rfl, rfl⟩, by repeat (first | exact trivial | exact .inl rfl | exact rfl | exact List.not_mem_nil | (refine .inr ?_) | (refine ⟨?_, ?_⟩) | exact List.length_set.symm | decide), by repeat (first | exact trivial | exact .inl rfl | exact rfl | exact List.not_mem_nil | (refine .inr ?_) | (refine ⟨?_, ?_⟩) | exact List.length_set.symm | decide)⟩⟩
  · replace h := cond_f h hc
    obtain rfl := Option.some.inj h
    conv => whnf
    repeat (first | exact rfl | exact trivial | refine ⟨?_, ?_⟩)

abbrev R_F_R17_Slice (r : List (List Val)) : PV := PV.sl (slRows valC r)

def F_R17_Slice_k3 (n : Nat) (nx1 : List (List Val) × Int → Option (List (List Val))) (x5 : Int) : List (List Val) → Option (List (List Val)) := fun x6 =>
 nx1 (x6, (IntKind.i64.wrap (x5 + (1 : Int))))

def F_R17_Slice_l1 (n : Nat) (x1 : List (List Val)) (x2 : Int) (x3 : Int) : (List (List Val) × Int → Option (List (List Val))) → List (List Val) × Int → Option (List (List Val)) := fun nx1 (x4, x5) =>
 bif (decide (x5 < (((slRows valC x1).length : Nat) : Int))) then (
 bif (bif (decide (x5 ≥ x2)) then (decide ((((slRows valC x4).length : Nat) : Int) < x3)) else false) then (
 bnd (idx x1 x5) fun x7 =>
 chk (decide ((slRows valC (x4 ++ [x7])).length * 24 ≤ 140737488355328)) (
 F_R17_Slice_k3 n nx1 x5 (x4 ++ [x7])))
else (
 F_R17_Slice_k3 n nx1 x5 x4))
else (
 some x4)

def F_R17_Slice (n : Nat)  (x1 : List (List Val)) (x2 : Int) (x3 : Int) : Option (List (List Val)) :=
  loopK (F_R17_Slice_l1 n x1 x2 x3) n (([] : List _), (0 : Int))

set_option maxRecDepth 100000 in
theorem F_R17_Slice_ok (n : Nat)   : ∀ (x1 : List (List Val)) (x2 : Int) (x3 : Int) (r : List (List Val)), F_R17_Slice n x1 x2 x3 = some r → CallsF Tryd.prog 16 [PV.sl (slRows valC x1), PV.int .i64 x2, PV.int .i64 x3] (R_F_R17_Slice r) := by
  intro x1 x2 x3 r h
  unfold F_R17_Slice at h
  refine CallsF.of_vcN mixed (fun _ _ => Tryd.call16 _ _) Tryd.func16 (by kernel_rfl) (inl := [1000000]) ?_
  conv => whnf
  refine LoopA.fn [1000000] (S := List (List Val) × Int) (fun (x4, x5) => [(0, .p (.sl (slRows valC x1))), (1, .p (.int .i64 x2)), (2, .p (.int .i64 x3)), (7, .tsl 0 (slRows valC x4)), (8, .p (.int .i64 x5))]) (fun (x4, x5) => [.tail 37 1 (slRows valC x4).length]) (B := F_R17_Slice_l1 n x1 x2 x3) h ⟨[0], [0], ⟨rfl, rfl, rfl, rfl⟩, by repeat (first | exact trivial | exact .inl rfl | exact rfl | exact List.not_mem_nil | (refine .inr ?_) | (refine ⟨?_, ?_⟩) | exact List.length_set.symm | decide), by repeat (first | exact trivial | exact .inl rfl | exact rfl | exact List.not_mem_nil | (refine .inr ?_) | (refine ⟨?_, ?_⟩) | exact List.length_set.symm | decide)⟩ ?_
  intro nx1 st h
  obtain ⟨x4, x5⟩ := st
  unfold F_R17_Slice_l1 at h
  conv => whnf
  refine ⟨fun hc => ?_, fun hc => ?_⟩
  · replace h := cond_t h hc
    conv => whnf
    refine SeqA.cut (S := List (List Val)) (fun x6 => [(0, .p (.sl (slRows valC x1))), (1, .p (.int .i64 x2)), (2, .p (.int .i64 x3)), (7, .tsl 0 (slRows valC x6)), (8, .p (.int .i64 x5))]) (fun x6 => [.tail 37 1 (slRows valC x6).length]) (F_R17_Slice_k3 n nx1 x5) (r := r) ?_ ?_
    · intro x6 h
      unfold F_R17_Slice_k3 at h
      conv => whnf
      exact ⟨(x6, (IntKind.i64.wrap (x5 + (1 : Int)))), h, ⟨[0], [], ⟨rfl, rfl, rfl, rfl⟩, by repeat (first | exact trivial | exact .inl rfl | exact rfl | exact List.not_mem_nil | (refine .inr ?_) | (refine ⟨?_, ?_⟩) | exact List.length_set.symm | decide), by repeat (first | exact trivial | exact .inl rfl | exact rfl | exact List.not_mem_nil | (refine .inr ?_) | (refine ⟨?_, ?_⟩) | exact List.length_set.symm | decide)⟩⟩
    · conv => whnf
      refine And.intro (fun h => h) ?_
      conv => whnf
      iterate 3 (refine And.intro (fun h => h) ?_)
      conv => whnf
      refine ⟨fun hc => ?_, fun hc => ?_⟩
      · replace h := cond_t h hc
        conv => whnf
        replace h := bnd_some h
        obtain ⟨x7, h2, h⟩ := h
        refine ⟨_, Codec.at_ (slC valC) h2, ?_⟩
        conv => whnf
        refine ⟨Codec.one (slC valC) [x7], slRows valC [x7], .inl rfl, ?_⟩
        conv => whnf
        rw [show slRows valC x4 ++ slRows valC [x7] = slRows valC (x4 ++ [x7]) from Codec.append (slC valC) x4 [x7]]
        conv => whnf
        obtain ⟨h1, h⟩ := chk_some h
        refine ⟨⟨Codec.wide (slC valC) (x4 ++ [x7]), of_decide_eq_true h1, len_ok h1 (by decide)⟩, ?_⟩
        conv => whnf
        refine ⟨⟨rfl, rfl, rfl⟩, ?_⟩
        conv => whnf
        exact ⟨(x4 ++ [x7]), h, ⟨[1], [], ⟨rfl, rfl, rfl, rfl⟩, by repeat (first | exact trivial | exact .inl rfl | exact rfl | exact List.not_mem_nil | (refine .inr ?_) | (refine ⟨?_, ?_⟩) | exact List.length_set.symm | decide), by repeat (first | exact trivial | exact .inl rfl | exact rfl | exact List.not_mem_nil | (refine .inr ?_) | (refine ⟨?_, ?_⟩) | exact List.length_set.symm | decide)⟩⟩
      · replace h := cond_f h hc
        conv => whnf
        exact ⟨x4, h, ⟨[0], [], ⟨rfl, rfl, rfl, rfl⟩, by repeat (first | exact trivial | exact .inl rfl | exact rfl | exact List.not_mem_nil | (refine .inr ?_) | (refine ⟨?_, ?_⟩) | exact List.length_set.symm | decide), by repeat (first | exact trivial | exact .inl rfl | exact rfl | exact List.not_mem_nil | (refine .inr ?_) | (refine ⟨?_, ?_⟩) | exact List.length_set.symm | decide)⟩⟩
  · replace h := cond_f h hc
    obtain rfl := Option.some.inj h
    conv => whnf
    repeat (first | exact rfl | exact trivial | refine ⟨?_, ?_⟩)
end W
end
section
open Go Go.Proofs Ax
namespace W
abbrev R_F_R03_unused (r : Bool) : PV := PV.bool r

def F_R03_unused (n : Nat)  (a0_ : Val) : Option (Bool) :=
  match a0_ with
  | ⟨x1, x2, x3, x4, x5, x6⟩ =>
  bif (bif (x1 != (1 : Int)) then x2 else false) then (
  some false)
  else (
  bif (bif (bif (bif (x1 != (2 : Int)) then (x1 != (6 : Int)) else false) then (x1 != (7 : Int)) else false) then (x3 != (0 : Int)) else false) then (
  some false)
  else (
  bif (bif (x1 != (3 : Int)) then (!(x4 == ([] : List UInt8))) else false) then (
  some false)
  else (
  bif (bif (bif (x1 != (4 : Int)) then (x1 != (5 : Int)) else false) then (decide ((((Val.rows x5).length : Nat) : Int) > (0 : Int))) else false) then (
  some false)
  else (
  some (bif (x1 == (5 : Int)) then true else ((((strs x6).length : Nat) : Int) == (0 : Int)))))))

set_option maxHeartbeats 4000000 in
set_option maxRecDepth 100000 in
theorem F_R03_unused_ok (n : Nat)   : ∀ (a0_ : Val) (r : Bool), F_R03_unused n a0_ = some r → CallsF Tryd.prog 78 [PV.agg (valC.cells a0_)] (R_F_R03_unused r) := by
  intro a0_ r h
  obtain ⟨x1, x2, x3, x4, x5, x6⟩ := a0_
  unfold F_R03_unused at h
  refine CallsF.of_vcN mixed (fun _ _ => Tryd.call78 _ _) Tryd.func78 (by kernel_rfl) (inl := [1000000]) ?_
  conv => whnf
  iterate 2 (refine And.intro (fun h => h) ?_)
  conv => whnf
  refine ⟨fun hc => ?_, fun hc => ?_⟩
  · replace h := cond_t h hc
    obtain rfl := Option.some.inj h
    conv => whnf
    repeat (first | exact rfl | exact trivial | refine ⟨?_, ?_⟩)
  · replace h := cond_f h hc
    conv => whnf
    iterate 9 (refine And.intro (fun h => h) ?_)
    conv => whnf
    refine ⟨fun hc => ?_, fun hc => ?_⟩
    · replace h := cond_t h hc
      obtain rfl := Option.some.inj h
      conv => whnf
      repeat (first | exact rfl | exact trivial | refine ⟨?_, ?_⟩)
    · replace h := cond_f h hc
      conv => whnf
      iterate 3 (refine And.intro (fun h => h) ?_)
      conv => whnf
      refine ⟨fun hc => ?_, fun hc => ?_⟩
      · replace h := cond_t h hc
        obtain rfl := Option.some.inj h
        conv => whnf
        repeat (first | exact rfl | exact trivial | refine ⟨?_, ?_⟩)
      · replace h := cond_f h hc
        conv => whnf
        iterate 7 (refine And.intro (fun h => h) ?_)
        conv => whnf
        refine ⟨fun hc => ?_, fun hc => ?_⟩
        · replace h := cond_t h hc
          obtain rfl := Option.some.inj h
          conv => whnf
          repeat (first | exact rfl | exact trivial | refine ⟨?_, ?_⟩)
        · replace h := cond_f h hc
          conv => whnf
          iterate 4 (refine And.intro (fun h => h) ?_)
          obtain rfl := Option.some.inj h
          conv => whnf
          repeat (first | exact rfl | exact trivial | refine ⟨?_, ?_⟩)

abbrev R_F_R03_may (r : Int × Bool) : PV := PV.tup [PV.int .i64 r.1, PV.bool r.2]

def F_R03_may_l1 (n : Nat) (x5 : List Val) (g70 : Val → Int → Int → Option (Int × Bool)) (x7 : Int) : (Int × Int → Option (Int × Bool)) → Int × Int → Option (Int × Bool) := fun nx1 (x10, x11) =>
 bif (decide (x11 < (((Val.rows x5).length : Nat) : Int))) then (
 bnd (idx x5 x11) fun ⟨x12, x13, x14, x15, x16, x17⟩ =>
 bnd (g70 (Val.mk x12 x13 x14 x15 x16 x17) (IntKind.i64.wrap (x7 - (1 : Int))) x10) fun ⟨x18, x19⟩ =>
 bif (!x19) then (
 some (x18, false))
else (
 nx1 (x18, (IntKind.i64.wrap (x11 + (1 : Int))))))
else (
 some (x10, true))

def F_R03_may_k1 (n : Nat) (x5 : List Val) (g70 : Val → Int → Int → Option (Int × Bool)) (x7 : Int) (x8 : Int) : Unit → Option (Int × Bool) := fun _ =>
 loopK (F_R03_may_l1 n x5 g70 x7) n ((IntKind.i64.wrap (x8 + (1 : Int))), (0 : Int))

def F_R03_may_l2 (n : Nat) (x6 : List (List UInt8)) (x8 : Int) (x5 : List Val) (g70 : Val → Int → Int → Option (Int × Bool)) (x7 : Int) : (Int → Option (Int × Bool)) → Int → Option (Int × Bool) := fun nx2 x20 =>
 bif (decide (x20 < (((strs x6).length : Nat) : Int))) then (
 bnd (idx x6 x20) fun x21 =>
 bnd (gsome (!(decide (((x21.length : Nat) : Int) < (1 : Int)))) (idx x6 x20)) fun x22 =>
 bnd (gsome ((!(bif (decide (((x21.length : Nat) : Int) < (1 : Int))) then true else (decide (((x22.length : Nat) : Int) > (64 : Int))))) && (decide (x20 > (0 : Int)))) (idx x6 x20)) fun x23 =>
 bnd (gsome ((!(bif (decide (((x21.length : Nat) : Int) < (1 : Int))) then true else (decide (((x22.length : Nat) : Int) > (64 : Int))))) && (decide (x20 > (0 : Int)))) (idx x6 (IntKind.i64.wrap (x20 - (1 : Int))))) fun x24 =>
 bif (bif (bif (decide (((x21.length : Nat) : Int) < (1 : Int))) then true else (decide (((x22.length : Nat) : Int) > (64 : Int)))) then true else (bif (decide (x20 > (0 : Int))) then (Op.bytesLess x23 x24 || x23 == x24) else false)) then (
 some ((IntKind.i64.wrap (x8 + (1 : Int))), false))
else (
 nx2 (IntKind.i64.wrap (x20 + (1 : Int)))))
else (
 F_R03_may_k1 n x5 g70 x7 x8 ())

def BF_R03_may (n : Nat) (g70 : Val → Int → Int → Option (Int × Bool)) (a0_ : Val) (x7 : Int) (x8 : Int) : Option (Int × Bool) :=
  match a0_ with
  | ⟨x1, x2, x3, x4, x5, x6⟩ =>
  bnd (gsome (!(bif (bif (bif (decide ((IntKind.i64.wrap (x8 + (1 : Int))) > (4096 : Int))) then true else (decide (x7 < (1 : Int)))) then true else (decide (x1 < (0 : Int)))) then true else (decide (x1 > (7 : Int))))) (F_R03_unused n (Val.mk x1 x2 x3 x4 x5 x6))) fun x9 =>
  bif (bif (bif (bif (bif (decide ((IntKind.i64.wrap (x8 + (1 : Int))) > (4096 : Int))) then true else (decide (x7 < (1 : Int)))) then true else (decide (x1 < (0 : Int)))) then true else (decide (x1 > (7 : Int)))) then true else (!x9)) then (
  some ((IntKind.i64.wrap (x8 + (1 : Int))), false))
  else (
  bif (bif (bif (x1 == (6 : Int)) then true else (x1 == (7 : Int))) then (decide (x3 < (1 : Int))) else false) then (
  some ((IntKind.i64.wrap (x8 + (1 : Int))), false))
  else (
  bif (x1 == (5 : Int)) then (
  bif ((((strs x6).length : Nat) : Int) != (((Val.rows x5).length : Nat) : Int)) then (
  some ((IntKind.i64.wrap (x8 + (1 : Int))), false))
  else (
  loopK (F_R03_may_l2 n x6 x8 x5 g70 x7) n (0 : Int)))
  else (
  F_R03_may_k1 n x5 g70 x7 x8 ())))

set_option maxHeartbeats 4000000 in
set_option maxRecDepth 100000 in
theorem BF_R03_may_ok (n : Nat) (g70 : Val → Int → Int → Option (Int × Bool)) (g70_ok : ∀ (a0_ : Val) (x7 : Int) (x8 : Int) (r : Int × Bool), g70 a0_ x7 x8 = some r → CallsF Tryd.prog 70 [PV.agg (valC.cells a0_), PV.int .i64 x7, PV.int .i64 x8] (R_F_R03_may r)) : ∀ (a0_ : Val) (x7 : Int) (x8 : Int) (r : Int × Bool), BF_R03_may n g70 a0_ x7 x8 = some r → CallsF Tryd.prog 70 [PV.agg (valC.cells a0_), PV.int .i64 x7, PV.int .i64 x8] (R_F_R03_may r) := by
  intro a0_ x7 x8 r h
  obtain ⟨x1, x2, x3, x4, x5, x6⟩ := a0_
  unfold BF_R03_may at h
  refine CallsF.of_vcN mixed (fun _ _ => Tryd.call70 _ _) Tryd.func70 (by kernel_rfl) (inl := [1000000]) ?_
  conv => whnf
  iterate 9 (refine And.intro (fun h => h) ?_)
  conv => whnf
  replace h := bnd_some h
  obtain ⟨x9, h7, h⟩ := h
  refine ⟨_, fun hg => (F_R03_unused_ok n _  _ (gsome_some h7 hg)), ?_⟩
  conv => whnf
  iterate 2 (refine And.intro (fun h => h) ?_)
  conv => whnf
  refine ⟨fun hc => ?_, fun hc => ?_⟩
  · replace h := cond_t h hc
    obtain rfl := Option.some.inj h
    conv => whnf
    repeat (first | exact rfl | exact trivial | refine ⟨?_, ?_⟩)
  · replace h := cond_f h hc
    conv => whnf
    iterate 6 (refine And.intro (fun h => h) ?_)
    conv => whnf
    refine ⟨fun hc => ?_, fun hc => ?_⟩
    · replace h := cond_t h hc
      obtain rfl := Option.some.inj h
      conv => whnf
      repeat (first | exact rfl | exact trivial | refine ⟨?_, ?_⟩)
    · replace h := cond_f h hc
      conv => whnf
      refine SeqA.cut (S := Unit) (fun _ => [(1, .p (.int .i64 x7)), (2, .p (.int .i64 (IntKind.i64.wrap (x8 + (1 : Int))))), (3, .ptr 0 0)]) (fun _ => [.box 40 [.p (.int .i64 x1), .p (.bool x2), .p (.int .i64 x3), .p (.str x4), .p (.sl (Val.rows x5)), .p (.sl (strs x6))]]) (F_R03_may_k1 n x5 g70 x7 x8) (r := r) ?_ ?_
      · intro _ h
        unfold F_R03_may_k1 at h
        conv => whnf
        refine LoopA.fn [1000000] (S := Int × Int) (fun (x10, x11) => [(1, .p (.int .i64 x7)), (2, .p (.int .i64 x10)), (3, .ptr 0 0), (9, .p (.int .i64 x11))]) (fun (x10, x11) => [.box 40 [.p (.int .i64 x1), .p (.bool x2), .p (.int .i64 x3), .p (.str x4), .p (.sl (Val.rows x5)), .p (.sl (strs x6))]]) (B := F_R03_may_l1 n x5 g70 x7) h ⟨[0], [], ⟨rfl, rfl, rfl, rfl⟩, by repeat (first | exact trivial | exact .inl rfl | exact rfl | exact List.not_mem_nil | (refine .inr ?_) | (refine ⟨?_, ?_⟩) | exact List.length_set.symm | decide), by repeat (first | exact trivial | exact .inl rfl | exact rfl | exact List.not_mem_nil | (refine .inr ?_) | (refine ⟨?_, ?_⟩) | exact List.length_set.symm | decide)⟩ ?_
        intro nx1 st h
        obtain ⟨x10, x11⟩ := st
        unfold F_R03_may_l1 at h
        conv => whnf
        refine ⟨fun hc => ?_, fun hc => ?_⟩
        · replace h := cond_t h hc
          conv => whnf
          replace h := bnd_some h
          obtain ⟨⟨x12, x13, x14, x15, x16, x17⟩, h2, h⟩ := h
          refine ⟨_, Codec.at_ valC h2, ?_⟩
          conv => whnf
          replace h := bnd_some h
          obtain ⟨⟨x18, x19⟩, h1, h⟩ := h
          refine ⟨_, (g70_ok _ _ _  _ h1), ?_⟩
          conv => whnf
          refine ⟨fun hc => ?_, fun hc => ?_⟩
          · replace h := cond_t h hc
            obtain rfl := Option.some.inj h
            conv => whnf
            repeat (first | exact rfl | exact trivial | refine ⟨?_, ?_⟩)
          · replace h := cond_f h hc
            conv => whnf
            exact ⟨(x18, (IntKind.i64.wrap (x11 + (1 : Int)))), h, ⟨[0], [], ⟨rfl, rfl, rfl, rfl⟩, by repeat (first | exact trivial | exact .inl rfl | exact rfl | exact List.not_mem_nil | (refine .inr ?_) | (refine ⟨?_, ?_⟩) | exact List.length_set.symm | decide), by repeat (first | exact trivial | exact .inl rfl | exact rfl | exact List.not_mem_nil | (refine .inr ?_) | (refine ⟨?_, ?_⟩) | exact List.length_set.symm | decide)⟩⟩
        · replace h := cond_f h hc
          obtain rfl := Option.some.inj h
          conv => whnf
          repeat (first | exact rfl | exact trivial | refine ⟨?_, ?_⟩)
      · conv => whnf
        refine ⟨fun hc => ?_, fun hc => ?_⟩
        · replace h := cond_t h hc
          conv => whnf
          refine ⟨fun hc => ?_, fun hc => ?_⟩
          · replace h := cond_t h hc
            obtain rfl := Option.some.inj h
            conv => whnf
            repeat (first | exact rfl | exact trivial | refine ⟨?_, ?_⟩)
          · replace h := cond_f h hc
            conv => whnf
            refine LoopA.fn [1000000] (S := Int) (fun x20 => [(1, .p (.int .i64 x7)), (2, .p (.int .i64 (IntKind.i64.wrap (x8 + (1 : Int))))), (3, .ptr 0 0), (8, .p (.int .i64 x20))]) (fun x20 => [.box 40 [.p (.int .i64 x1), .p (.bool x2), .p (.int .i64 x3), .p (.str x4), .p (.sl (Val.rows x5)), .p (.sl (strs x6))]]) (B := F_R03_may_l2 n x6 x8 x5 g70 x7) h ⟨[0], [], ⟨rfl, rfl, rfl, rfl⟩, by repeat (first | exact trivial | exact .inl rfl | exact rfl | exact List.not_mem_nil | (refine .inr ?_) | (refine ⟨?_, ?_⟩) | exact List.length_set.symm | decide), by repeat (first | exact trivial | exact .inl rfl | exact rfl | exact List.not_mem_nil | (refine .inr ?_) | (refine ⟨?_, ?_⟩) | exact List.length_set.symm | decide)⟩ ?_
            intro nx2 x20 h
            unfold F_R03_may_l2 at h
            conv => whnf
            refine ⟨fun hc => ?_, fun hc => ?_⟩
            · replace h := cond_t h hc
              conv => whnf
              replace h := bnd_some h
              obtain ⟨x21, h6, h⟩ := h
              refine ⟨_, Codec.at_ strC h6, ?_⟩
              conv => whnf
              iterate 3 (refine And.intro (fun h => h) ?_)
              conv => whnf
              replace h := bnd_some h
              obtain ⟨x22, h5, h⟩ := h
              refine ⟨_, fun hg => Codec.at_ strC (gsome_some h5 hg), ?_⟩
              conv => whnf
              iterate 9 (refine And.intro (fun h => h) ?_)
              conv => whnf
              replace h := bnd_some h
              obtain ⟨x23, h4, h⟩ := h
              refine ⟨_, fun hg => Codec.at_ strC (gsome_some h4 hg), ?_⟩
              conv => whnf
              iterate 5 (refine And.intro (fun h => h) ?_)
              conv => whnf
              replace h := bnd_some h
              obtain ⟨x24, h3, h⟩ := h
              refine ⟨_, fun hg => Codec.at_ strC (gsome_some h3 hg), ?_⟩
              conv => whnf
              iterate 6 (refine And.intro (fun h => h) ?_)
              conv => whnf
              refine ⟨fun hc => ?_, fun hc => ?_⟩
              · replace h := cond_t h hc
                obtain rfl := Option.some.inj h
                conv => whnf
                repeat (first | exact rfl | exact trivial | refine ⟨?_, ?_⟩)
              · replace h := cond_f h hc
                conv => whnf
                exact ⟨(IntKind.i64.wrap (x20 + (1 : Int))), h, ⟨[0], [], ⟨rfl, rfl, rfl, rfl⟩, by repeat (first | exact trivial | exact .inl rfl | exact rfl | exact List.not_mem_nil | (refine .inr ?_) | (refine ⟨?_, ?_⟩) | exact List.length_set.symm | decide), by repeat (first | exact trivial | exact .inl rfl | exact rfl | exact List.not_mem_nil | (refine .inr ?_) | (refine ⟨?_, ?_⟩) | exact List.length_set.symm | decide)⟩⟩
            · replace h := cond_f h hc
              conv => whnf
              exact ⟨(), h, ⟨[0], [], ⟨rfl, rfl, rfl, rfl⟩, by repeat (first | exact trivial | exact .inl rfl | exact rfl | exact List.not_mem_nil | (refine .inr ?_) | (refine ⟨?_, ?_⟩) | exact List.length_set.symm | decide), by repeat (first | exact trivial | exact .inl rfl | exact rfl | exact List.not_mem_nil | (refine .inr ?_) | (refine ⟨?_, ?_⟩) | exact List.length_set.symm | decide)⟩⟩
        · replace h := cond_f h hc
          conv => whnf
          exact ⟨(), h, ⟨[0], [], ⟨rfl, rfl, rfl, rfl⟩, by repeat (first | exact trivial | exact .inl rfl | exact rfl | exact List.not_mem_nil | (refine .inr ?_) | (refine ⟨?_, ?_⟩) | exact List.length_set.symm | decide), by repeat (first | exact trivial | exact .inl rfl | exact rfl | exact List.not_mem_nil | (refine .inr ?_) | (refine ⟨?_, ?_⟩) | exact List.length_set.symm | decide)⟩⟩

def F_R03_may : Nat → Val → Int → Int → Option (Int × Bool)
  | 0 => fun _ _ _ => none
  | n + 1 => BF_R03_may n (F_R03_may n)

set_option maxRecDepth 100000 in
theorem F_R03_may_all (n : Nat) : (∀ (a0_ : Val) (x7 : Int) (x8 : Int) (r : Int × Bool), F_R03_may n a0_ x7 x8 = some r → CallsF Tryd.prog 70 [PV.agg (valC.cells a0_), PV.int .i64 x7, PV.int .i64 x8] (R_F_R03_may r)) := by
  induction n with
  | zero => exact (by intros; rename_i h; cases h)
  | succ n ih =>
    have hg70 := ih
    exact BF_R03_may_ok n (F_R03_may n) hg70

set_option maxRecDepth 100000 in
theorem F_R03_may_ok (n : Nat) : ∀ (a0_ : Val) (x7 : Int) (x8 : Int) (r : Int × Bool), F_R03_may n a0_ x7 x8 = some r → CallsF Tryd.prog 70 [PV.agg (valC.cells a0_), PV.int .i64 x7, PV.int .i64 x8] (R_F_R03_may r) := (F_R03_may_all n)

abbrev R_F_R03_May (r : Bool) : PV := PV.bool r

def F_R03_May (n : Nat)  (a0_ : Val) : Option (Bool) :=
  match a0_ with
  | ⟨x1, x2, x3, x4, x5, x6⟩ =>
  bnd (F_R03_may n (Val.mk x1 x2 x3 x4 x5 x6) (32 : Int) (0 : Int)) fun ⟨x7, x8⟩ =>
  some x8

set_option maxRecDepth 100000 in
theorem F_R03_May_ok (n : Nat)   : ∀ (a0_ : Val) (r : Bool), F_R03_May n a0_ = some r → CallsF Tryd.prog 56 [PV.agg (valC.cells a0_)] (R_F_R03_May r) := by
  intro a0_ r h
  obtain ⟨x1, x2, x3, x4, x5, x6⟩ := a0_
  unfold F_R03_May at h
  refine CallsF.of_vcN mixed (fun _ _ => Tryd.call56 _ _) Tryd.func56 (by kernel_rfl) (inl := [1000000]) ?_
  conv => whnf
  replace h := bnd_some h
  obtain ⟨⟨x7, x8⟩, h1, h⟩ := h
  refine ⟨_, (F_R03_may_ok n _ _ _  _ h1), ?_⟩
  obtain rfl := Option.some.inj h
  conv => whnf
  repeat (first | exact rfl | exact trivial | refine ⟨?_, ?_⟩)

abbrev R_F_R17_May (r : Bool) : PV := PV.bool r

def F_R17_May_l2 (n : Nat) (x2 : Int) (x1 : List (List Val)) (x3 : Int) (nx1 : Int → Option (Bool)) : (Int → Option (Bool)) → Int → Option (Bool) := fun nx2 x5 =>
 bif (decide (x5 < x2)) then (
 bnd (idx x1 x3) fun x6 =>
 bnd (idx x6 x5) fun ⟨x7, x8, x9, x10, x11, x12⟩ =>
 bnd (F_R03_May n (Val.mk x7 x8 x9 x10 x11 x12)) fun x13 =>
 bif (!x13) then (
 some false)
else (
 nx2 (IntKind.i64.wrap (x5 + (1 : Int)))))
else (
 nx1 (IntKind.i64.wrap (x3 + (1 : Int))))

def F_R17_May_l1 (n : Nat) (x1 : List (List Val)) (x2 : Int) : (Int → Option (Bool)) → Int → Option (Bool) := fun nx1 x3 =>
 bif (decide (x3 < (((slRows valC x1).length : Nat) : Int))) then (
 bnd (idx x1 x3) fun x4 =>
 bif ((((Val.rows x4).length : Nat) : Int) != x2) then (
 some false)
else (
 loopK (F_R17_May_l2 n x2 x1 x3 nx1) n (0 : Int)))
else (
 some true)

def F_R17_May (n : Nat)  (x1 : List (List Val)) (x2 : Int) : Option (Bool) :=
  loopK (F_R17_May_l1 n x1 x2) n (0 : Int)

set_option maxRecDepth 100000 in
theorem F_R17_May_ok (n : Nat)   : ∀ (x1 : List (List Val)) (x2 : Int) (r : Bool), F_R17_May n x1 x2 = some r → CallsF Tryd.prog 25 [PV.sl (slRows valC x1), PV.int .i64 x2] (R_F_R17_May r) := by
  intro x1 x2 r h
  unfold F_R17_May at h
  refine CallsF.of_vcN mixed (fun _ _ => Tryd.call25 _ _) Tryd.func25 (by kernel_rfl) (inl := [1000000]) ?_
  conv => whnf
  refine LoopA.fn [1000000] (S := Int) (fun x3 => [(0, .p (.sl (slRows valC x1))), (1, .p (.int .i64 x2)), (5, .p (.int .i64 x3))]) (fun x3 => []) (B := F_R17_May_l1 n x1 x2) h ⟨[], [], ⟨rfl, rfl, rfl, rfl⟩, by repeat (first | exact trivial | exact .inl rfl | exact rfl | exact List.not_mem_nil | (refine .inr ?_) | (refine ⟨?_, ?_⟩) | exact List.length_set.symm | decide), by repeat (first | exact trivial | exact .inl rfl | exact rfl | exact List.not_mem_nil | (refine .inr ?_) | (refine ⟨?_, ?_⟩) | exact List.length_set.symm | decide)⟩ ?_
  intro nx1 x3 h
  unfold F_R17_May_l1 at h
  conv => whnf
  refine ⟨fun hc => ?_, fun hc => ?_⟩
  · replace h := cond_t h hc
    conv => whnf
    replace h := bnd_some h
    obtain ⟨x4, h4, h⟩ := h
    refine ⟨_, Codec.at_ (slC valC) h4, ?_⟩
    conv => whnf
    refine ⟨fun hc => ?_, fun hc => ?_⟩
    · replace h := cond_t h hc
      obtain rfl := Option.some.inj h
      conv => whnf
      repeat (first | exact rfl | exact trivial | refine ⟨?_, ?_⟩)
    · replace h := cond_f h hc
      conv => whnf
      refine LoopA.fn [1000000] (S := Int) (fun x5 => [(0, .p (.sl (slRows valC x1))), (1, .p (.int .i64 x2)), (5, .p (.int .i64 x3)), (6, .p (.int .i64 x5))]) (fun x5 => []) (B := F_R17_May_l2 n x2 x1 x3 nx1) h ⟨[], [], ⟨rfl, rfl, rfl, rfl⟩, by repeat (first | exact trivial | exact .inl rfl | exact rfl | exact List.not_mem_nil | (refine .inr ?_) | (refine ⟨?_, ?_⟩) | exact List.length_set.symm | decide), by repeat (first | exact trivial | exact .inl rfl | exact rfl | exact List.not_mem_nil | (refine .inr ?_) | (refine ⟨?_, ?_⟩) | exact List.length_set.symm | decide)⟩ ?_
      intro nx2 x5 h
      unfold F_R17_May_l2 at h
      conv => whnf
      refine ⟨fun hc => ?_, fun hc => ?_⟩
      · replace h := cond_t h hc
        conv => whnf
        replace h := bnd_some h
        obtain ⟨x6, h3, h⟩ := h
        refine ⟨_, Codec.at_ (slC valC) h3, ?_⟩
        conv => whnf
        replace h := bnd_some h
        obtain ⟨⟨x7, x8, x9, x10, x11, x12⟩, h2, h⟩ := h
        refine ⟨_, Codec.at_ valC h2, ?_⟩
        conv => whnf
        replace h := bnd_some h
        obtain ⟨x13, h1, h⟩ := h
        refine ⟨_, (F_R03_May_ok n _  _ h1), ?_⟩
        conv => whnf
        refine ⟨fun hc => ?_, fun hc => ?_⟩
        · replace h := cond_t h hc
          obtain rfl := Option.some.inj h
          conv => whnf
          repeat (first | exact rfl | exact trivial | refine ⟨?_, ?_⟩)
        · replace h := cond_f h hc
          conv => whnf
          exact ⟨(IntKind.i64.wrap (x5 + (1 : Int))), h, ⟨[], [], ⟨rfl, rfl, rfl, rfl⟩, by repeat (first | exact trivial | exact .inl rfl | exact rfl | exact List.not_mem_nil | (refine .inr ?_) | (refine ⟨?_, ?_⟩) | exact List.length_set.symm | decide), by repeat (first | exact trivial | exact .inl rfl | exact rfl | exact List.not_mem_nil | (refine .inr ?_) | (refine ⟨?_, ?_⟩) | exact List.length_set.symm | decide)⟩⟩
      · replace h := cond_f h hc
        conv => whnf
        exact ⟨(IntKind.i64.wrap (x3 + (1 : Int))), h, ⟨[], [], ⟨rfl, rfl, rfl, rfl⟩, by repeat (first | exact trivial | exact .inl rfl | exact rfl | exact List.not_mem_nil | (refine .inr ?_) | (refine ⟨?_, ?_⟩) | exact List.length_set.symm | decide), by repeat (first | exact trivial | exact .inl rfl | exact rfl | exact List.not_mem_nil | (refine .inr ?_) | (refine ⟨?_, ?_⟩) | exact List.length_set.symm | decide)⟩⟩
  · replace h := cond_f h hc
    obtain rfl := Option.some.inj h
    conv => whnf
    repeat (first | exact rfl | exact trivial | refine ⟨?_, ?_⟩)

abbrev R_F_L17_few (r : Bool) : PV := PV.bool r

def F_L17_few (n : Nat)  (x1 : List (List Val)) (x2 : Int) : Option (Bool) :=
  bnd (gsome (decide ((((slRows valC x1).length : Nat) : Int) ≤ (200 : Int))) (F_R17_May n x1 x2)) fun x3 =>
  some (bif (decide ((((slRows valC x1).length : Nat) : Int) ≤ (200 : Int))) then x3 else false)

set_option maxRecDepth 100000 in
theorem F_L17_few_ok (n : Nat)   : ∀ (x1 : List (List Val)) (x2 : Int) (r : Bool), F_L17_few n x1 x2 = some r → CallsF Tryd.prog 8 [PV.sl (slRows valC x1), PV.int .i64 x2] (R_F_L17_few r) := by
  intro x1 x2 r h
  unfold F_L17_few at h
  refine CallsF.of_vcN mixed (fun _ _ => Tryd.call8 _ _) Tryd.func8 (by kernel_rfl) (inl := [1000000]) ?_
  conv => whnf
  iterate 2 (refine And.intro (fun h => h) ?_)
  conv => whnf
  replace h := bnd_some h
  obtain ⟨x3, h1, h⟩ := h
  refine ⟨_, fun hg => (F_R17_May_ok n _ _  _ (gsome_some h1 hg)), ?_⟩
  conv => whnf
  refine And.intro (fun h => h) ?_
  obtain rfl := Option.some.inj h
  conv => whnf
  repeat (first | exact rfl | exact trivial | refine ⟨?_, ?_⟩)

abbrev R_F_L17_wide (r : Int) : PV := PV.int .i64 r

def F_L17_wide (n : Nat)  (x1 : List (List Val)) : Option (Int) :=
  bif ((((slRows valC x1).length : Nat) : Int) == (0 : Int)) then (
  some (0 : Int))
  else (
  bnd (idx x1 (0 : Int)) fun x2 =>
  some (((Val.rows x2).length : Nat) : Int))

set_option maxRecDepth 100000 in
theorem F_L17_wide_ok (n : Nat)   : ∀ (x1 : List (List Val)) (r : Int), F_L17_wide n x1 = some r → CallsF Tryd.prog 9 [PV.sl (slRows valC x1)] (R_F_L17_wide r) := by
  intro x1 r h
  unfold F_L17_wide at h
  refine CallsF.of_vcN mixed (fun _ _ => Tryd.call9 _ _) Tryd.func9 (by kernel_rfl) (inl := [1000000]) ?_
  conv => whnf
  refine ⟨fun hc => ?_, fun hc => ?_⟩
  · replace h := cond_t h hc
    obtain rfl := Option.some.inj h
    conv => whnf
    repeat (first | exact rfl | exact trivial | refine ⟨?_, ?_⟩)
  · replace h := cond_f h hc
    conv => whnf
    replace h := bnd_some h
    obtain ⟨x2, h1, h⟩ := h
    refine ⟨_, Codec.at_ (slC valC) h1, ?_⟩
    obtain rfl := Option.some.inj h
    conv => whnf
    repeat (first | exact rfl | exact trivial | refine ⟨?_, ?_⟩)

abbrev R_F_L17_whole (r : Val) : PV := PV.agg (valC.cells r)

def F_L17_whole (n : Nat)  (x1 : Int) : Option (Val) :=
  some (Val.mk (2 : Int) false x1 ([] : List UInt8) ([] : List Val) ([] : List (List UInt8)))

set_option maxRecDepth 100000 in
theorem F_L17_whole_ok (n : Nat)   : ∀ (x1 : Int) (r : Val), F_L17_whole n x1 = some r → CallsF Tryd.prog 26 [PV.int .i64 x1] (R_F_L17_whole r) := by
  intro x1 r h
  unfold F_L17_whole at h
  refine CallsF.of_vcN mixed (fun _ _ => Tryd.call26 _ _) Tryd.func26 (by kernel_rfl) (inl := [1000000]) ?_
  obtain rfl := Option.some.inj h
  conv => whnf
  repeat (first | exact rfl | exact trivial | refine ⟨?_, ?_⟩)

abbrev R_F_value_bare (r : Bool) : PV := PV.bool r

def F_value_bare (n : Nat)  (a0_ : Val) : Option (Bool) :=
  match a0_ with
  | ⟨x1, x2, x3, x4, x5, x6⟩ =>
  some (bif (bif (bif (bif (bif (x1 == (1 : Int)) then true else (!x2)) then (bif (bif (x1 == (2 : Int)) then true else (decide (x1 ≥ (6 : Int)))) then true else (x3 == (0 : Int))) else false) then (bif (x1 == (3 : Int)) then true else (x4 == ([] : List UInt8))) else false) then (bif (bif (x1 == (4 : Int)) then true else (x1 == (5 : Int))) then true else ((((Val.rows x5).length : Nat) : Int) == (0 : Int))) else false) then (bif (x1 == (5 : Int)) then true else ((((strs x6).length : Nat) : Int) == (0 : Int))) else false)

set_option maxHeartbeats 4000000 in
set_option maxRecDepth 100000 in
theorem F_value_bare_ok (n : Nat)   : ∀ (a0_ : Val) (r : Bool), F_value_bare n a0_ = some r → CallsF Tryd.prog 83 [PV.agg (valC.cells a0_)] (R_F_value_bare r) := by
  intro a0_ r h
  obtain ⟨x1, x2, x3, x4, x5, x6⟩ := a0_
  unfold F_value_bare at h
  refine CallsF.of_vcN mixed (fun _ _ => Tryd.call83 _ _) Tryd.func83 (by kernel_rfl) (inl := [1000000]) ?_
  conv => whnf
  iterate 47 (refine And.intro (fun h => h) ?_)
  obtain rfl := Option.some.inj h
  conv => whnf
  repeat (first | exact rfl | exact trivial | refine ⟨?_, ?_⟩)

abbrev R_F_value_keys (r : Bool) : PV := PV.bool r

def F_value_keys_l1 (n : Nat) (x1 : List (List UInt8)) : (Int → Option (Bool)) → Int → Option (Bool) := fun nx1 x2 =>
 bif (decide (x2 < (((strs x1).length : Nat) : Int))) then (
 bnd (idx x1 x2) fun x3 =>
 bnd (gsome ((!(bif (x3 == ([] : List UInt8)) then true else (decide (((x3.length : Nat) : Int) > (64 : Int))))) && (decide (x2 > (0 : Int)))) (idx x1 (IntKind.i64.wrap (x2 - (1 : Int))))) fun x4 =>
 bif (bif (bif (x3 == ([] : List UInt8)) then true else (decide (((x3.length : Nat) : Int) > (64 : Int)))) then true else (bif (decide (x2 > (0 : Int))) then (!(Op.bytesLess x4 x3)) else false)) then (
 some false)
else (
 nx1 (IntKind.i64.wrap (x2 + (1 : Int)))))
else (
 some true)

def F_value_keys (n : Nat)  (x1 : List (List UInt8)) : Option (Bool) :=
  loopK (F_value_keys_l1 n x1) n (0 : Int)

set_option maxRecDepth 100000 in
theorem F_value_keys_ok (n : Nat)   : ∀ (x1 : List (List UInt8)) (r : Bool), F_value_keys n x1 = some r → CallsF Tryd.prog 84 [PV.sl (strs x1)] (R_F_value_keys r) := by
  intro x1 r h
  unfold F_value_keys at h
  refine CallsF.of_vcN mixed (fun _ _ => Tryd.call84 _ _) Tryd.func84 (by kernel_rfl) (inl := [1000000]) ?_
  conv => whnf
  refine LoopA.fn [1000000] (S := Int) (fun x2 => [(0, .p (.sl (strs x1))), (5, .p (.sl (strs x1))), (6, .p (.int .i64 (((strs x1).length : Nat) : Int))), (7, .p (.int .i64 x2))]) (fun x2 => []) (B := F_value_keys_l1 n x1) h ⟨[], [], ⟨rfl, rfl, rfl, rfl⟩, by repeat (first | exact trivial | exact .inl rfl | exact rfl | exact List.not_mem_nil | (refine .inr ?_) | (refine ⟨?_, ?_⟩) | exact List.length_set.symm | decide), by repeat (first | exact trivial | exact .inl rfl | exact rfl | exact List.not_mem_nil | (refine .inr ?_) | (refine ⟨?_, ?_⟩) | exact List.length_set.symm | decide)⟩ ?_
  intro nx1 x2 h
  unfold F_value_keys_l1 at h
  conv => whnf
  refine ⟨fun hc => ?_, fun hc => ?_⟩
  · replace h := cond_t h hc
    conv => whnf
    replace h := bnd_some h
    obtain ⟨x3, h2, h⟩ := h
    refine ⟨_, Codec.at_ strC h2, ?_⟩
    conv => whnf
    iterate 8 (refine And.intro (fun h => h) ?_)
    conv => whnf
    replace h := bnd_some h
    obtain ⟨x4, h1, h⟩ := h
    refine ⟨_, fun hg => Codec.at_ strC (gsome_some h1 hg), ?_⟩
    conv => whnf
    iterate 6 (refine And.intro (fun h => h) ?_)
    conv => whnf
    refine ⟨fun hc => ?_, fun hc => ?_⟩
    · replace h := cond_t h hc
      obtain rfl := Option.some.inj h
      conv => whnf
      repeat (first | exact rfl | exact trivial | refine ⟨?_, ?_⟩)
    · replace h := cond_f h hc
      conv => whnf
      exact ⟨(IntKind.i64.wrap (x2 + (1 : Int))), h, ⟨[], [], ⟨rfl, rfl, rfl, rfl⟩, by repeat (first | exact trivial | exact .inl rfl | exact rfl | exact List.not_mem_nil | (refine .inr ?_) | (refine ⟨?_, ?_⟩) | exact List.length_set.symm | decide), by repeat (first | exact trivial | exact .inl rfl | exact rfl | exact List.not_mem_nil | (refine .inr ?_) | (refine ⟨?_, ?_⟩) | exact List.length_set.symm | decide)⟩⟩
  · replace h := cond_f h hc
    obtain rfl := Option.some.inj h
    conv => whnf
    repeat (first | exact rfl | exact trivial | refine ⟨?_, ?_⟩)

abbrev R_F_value_look (r : Int × Bool) : PV := PV.tup [PV.int .i64 r.1, PV.bool r.2]

def F_value_look_l1 (n : Nat) (x5 : List Val) (g77 : Val → Int → Int → Option (Int × Bool)) (x7 : Int) : (Int × Bool × Int → Option (Int × Bool)) → Int × Bool × Int → Option (Int × Bool) := fun nx1 (x11, x12, x13) =>
 bif (bif (decide (x13 < (((Val.rows x5).length : Nat) : Int))) then x12 else false) then (
 bnd (idx x5 x13) fun ⟨x14, x15, x16, x17, x18, x19⟩ =>
 bnd (g77 (Val.mk x14 x15 x16 x17 x18 x19) (IntKind.i64.wrap (x7 - (1 : Int))) x11) fun ⟨x20, x21⟩ =>
 nx1 (x20, x21, (IntKind.i64.wrap (x13 + (1 : Int)))))
else (
 some (x11, x12))

def BF_value_look (n : Nat) (g77 : Val → Int → Int → Option (Int × Bool)) (a0_ : Val) (x7 : Int) (x8 : Int) : Option (Int × Bool) :=
  match a0_ with
  | ⟨x1, x2, x3, x4, x5, x6⟩ =>
  bnd (gsome (!(bif (bif (bif (decide (x7 < (1 : Int))) then true else (decide ((IntKind.i64.wrap (x8 + (1 : Int))) > (4096 : Int)))) then true else (decide (x1 < (0 : Int)))) then true else (decide (x1 > (7 : Int))))) (F_value_bare n (Val.mk x1 x2 x3 x4 x5 x6))) fun x9 =>
  bnd (gsome (((!(bif (bif (bif (bif (bif (decide (x7 < (1 : Int))) then true else (decide ((IntKind.i64.wrap (x8 + (1 : Int))) > (4096 : Int)))) then true else (decide (x1 < (0 : Int)))) then true else (decide (x1 > (7 : Int)))) then true else (!x9)) then true else (bif (decide (x1 ≥ (6 : Int))) then (decide (x3 < (1 : Int))) else false))) && (x1 == (5 : Int))) && (!((((strs x6).length : Nat) : Int) != (((Val.rows x5).length : Nat) : Int)))) (F_value_keys n x6)) fun x10 =>
  bif (bif (bif (bif (bif (bif (bif (decide (x7 < (1 : Int))) then true else (decide ((IntKind.i64.wrap (x8 + (1 : Int))) > (4096 : Int)))) then true else (decide (x1 < (0 : Int)))) then true else (decide (x1 > (7 : Int)))) then true else (!x9)) then true else (bif (decide (x1 ≥ (6 : Int))) then (decide (x3 < (1 : Int))) else false)) then true else (bif (x1 == (5 : Int)) then (bif ((((strs x6).length : Nat) : Int) != (((Val.rows x5).length : Nat) : Int)) then true else (!x10)) else false)) then (
  some ((IntKind.i64.wrap (x8 + (1 : Int))), false))
  else (
  loopK (F_value_look_l1 n x5 g77 x7) n ((IntKind.i64.wrap (x8 + (1 : Int))), true, (0 : Int)))

set_option maxHeartbeats 4000000 in
set_option maxRecDepth 100000 in
theorem BF_value_look_ok (n : Nat) (g77 : Val → Int → Int → Option (Int × Bool)) (g77_ok : ∀ (a0_ : Val) (x7 : Int) (x8 : Int) (r : Int × Bool), g77 a0_ x7 x8 = some r → CallsF Tryd.prog 77 [PV.agg (valC.cells a0_), PV.int .i64 x7, PV.int .i64 x8] (R_F_value_look r)) : ∀ (a0_ : Val) (x7 : Int) (x8 : Int) (r : Int × Bool), BF_value_look n g77 a0_ x7 x8 = some r → CallsF Tryd.prog 77 [PV.agg (valC.cells a0_), PV.int .i64 x7, PV.int .i64 x8] (R_F_value_look r) := by
  intro a0_ x7 x8 r h
  obtain ⟨x1, x2, x3, x4, x5, x6⟩ := a0_
  unfold BF_value_look at h
  refine CallsF.of_vcN mixed (fun _ _ => Tryd.call77 _ _) Tryd.func77 (by kernel_rfl) (inl := [1000000]) ?_
  conv => whnf
  iterate 9 (refine And.intro (fun h => h) ?_)
  conv => whnf
  replace h := bnd_some h
  obtain ⟨x9, h4, h⟩ := h
  refine ⟨_, fun hg => (F_value_bare_ok n _  _ (gsome_some h4 hg)), ?_⟩
  conv => whnf
  iterate 22 (refine And.intro (fun h => h) ?_)
  conv => whnf
  replace h := bnd_some h
  obtain ⟨x10, h3, h⟩ := h
  refine ⟨_, fun hg => (F_value_keys_ok n _  _ (gsome_some h3 hg)), ?_⟩
  conv => whnf
  iterate 6 (refine And.intro (fun h => h) ?_)
  conv => whnf
  refine ⟨fun hc => ?_, fun hc => ?_⟩
  · replace h := cond_t h hc
    obtain rfl := Option.some.inj h
    conv => whnf
    repeat (first | exact rfl | exact trivial | refine ⟨?_, ?_⟩)
  · replace h := cond_f h hc
    conv => whnf
    refine LoopA.fn [1000000] (S := Int × Bool × Int) (fun (x11, x12, x13) => [(1, .p (.int .i64 x7)), (2, .p (.int .i64 x11)), (3, .ptr 0 0), (8, .p (.bool x12)), (9, .p (.int .i64 x13))]) (fun (x11, x12, x13) => [.box 40 [.p (.int .i64 x1), .p (.bool x2), .p (.int .i64 x3), .p (.str x4), .p (.sl (Val.rows x5)), .p (.sl (strs x6))]]) (B := F_value_look_l1 n x5 g77 x7) h ⟨[0], [], ⟨rfl, rfl, rfl, rfl⟩, by repeat (first | exact trivial | exact .inl rfl | exact rfl | exact List.not_mem_nil | (refine .inr ?_) | (refine ⟨?_, ?_⟩) | exact List.length_set.symm | decide), by repeat (first | exact trivial | exact .inl rfl | exact rfl | exact List.not_mem_nil | (refine .inr ?_) | (refine ⟨?_, ?_⟩) | exact List.length_set.symm | decide)⟩ ?_
    intro nx1 st h
    obtain ⟨x11, x12, x13⟩ := st
    unfold F_value_look_l1 at h
    conv => whnf
    refine And.intro (fun h => h) ?_
    conv => whnf
    refine ⟨fun hc => ?_, fun hc => ?_⟩
    · replace h := cond_t h hc
      conv => whnf
      replace h := bnd_some h
      obtain ⟨⟨x14, x15, x16, x17, x18, x19⟩, h2, h⟩ := h
      refine ⟨_, Codec.at_ valC h2, ?_⟩
      conv => whnf
      replace h := bnd_some h
      obtain ⟨⟨x20, x21⟩, h1, h⟩ := h
      refine ⟨_, (g77_ok _ _ _  _ h1), ?_⟩
      conv => whnf
      exact ⟨(x20, x21, (IntKind.i64.wrap (x13 + (1 : Int)))), h, ⟨[0], [], ⟨rfl, rfl, rfl, rfl⟩, by repeat (first | exact trivial | exact .inl rfl | exact rfl | exact List.not_mem_nil | (refine .inr ?_) | (refine ⟨?_, ?_⟩) | exact List.length_set.symm | decide), by repeat (first | exact trivial | exact .inl rfl | exact rfl | exact List.not_mem_nil | (refine .inr ?_) | (refine ⟨?_, ?_⟩) | exact List.length_set.symm | decide)⟩⟩
    · replace h := cond_f h hc
      obtain rfl := Option.some.inj h
      conv => whnf
      repeat (first | exact rfl | exact trivial | refine ⟨?_, ?_⟩)

def F_value_look : Nat → Val → Int → Int → Option (Int × Bool)
  | 0 => fun _ _ _ => none
  | n + 1 => BF_value_look n (F_value_look n)

set_option maxRecDepth 100000 in
theorem F_value_look_all (n : Nat) : (∀ (a0_ : Val) (x7 : Int) (x8 : Int) (r : Int × Bool), F_value_look n a0_ x7 x8 = some r → CallsF Tryd.prog 77 [PV.agg (valC.cells a0_), PV.int .i64 x7, PV.int .i64 x8] (R_F_value_look r)) := by
  induction n with
  | zero => exact (by intros; rename_i h; cases h)
  | succ n ih =>
    have hg77 := ih
    exact BF_value_look_ok n (F_value_look n) hg77

set_option maxRecDepth 100000 in
theorem F_value_look_ok (n : Nat) : ∀ (a0_ : Val) (x7 : Int) (x8 : Int) (r : Int × Bool), F_value_look n a0_ x7 x8 = some r → CallsF Tryd.prog 77 [PV.agg (valC.cells a0_), PV.int .i64 x7, PV.int .i64 x8] (R_F_value_look r) := (F_value_look_all n)

abbrev R_F_value_Check (r : Int) : PV := PV.int .i64 r

def F_value_Check (n : Nat)  (a0_ : Val) : Option (Int) :=
  match a0_ with
  | ⟨x1, x2, x3, x4, x5, x6⟩ =>
  bnd (F_value_look n (Val.mk x1 x2 x3 x4 x5 x6) (32 : Int) (0 : Int)) fun ⟨x7, x8⟩ =>
  bif (!x8) then (
  some (20 : Int))
  else (
  some (0 : Int))

set_option maxRecDepth 100000 in
theorem F_value_Check_ok (n : Nat)   : ∀ (a0_ : Val) (r : Int), F_value_Check n a0_ = some r → CallsF Tryd.prog 67 [PV.agg (valC.cells a0_)] (R_F_value_Check r) := by
  intro a0_ r h
  obtain ⟨x1, x2, x3, x4, x5, x6⟩ := a0_
  unfold F_value_Check at h
  refine CallsF.of_vcN mixed (fun _ _ => Tryd.call67 _ _) Tryd.func67 (by kernel_rfl) (inl := [1000000]) ?_
  conv => whnf
  replace h := bnd_some h
  obtain ⟨⟨x7, x8⟩, h1, h⟩ := h
  refine ⟨_, (F_value_look_ok n _ _ _  _ h1), ?_⟩
  conv => whnf
  refine ⟨fun hc => ?_, fun hc => ?_⟩
  · replace h := cond_t h hc
    obtain rfl := Option.some.inj h
    conv => whnf
    repeat (first | exact rfl | exact trivial | refine ⟨?_, ?_⟩)
  · replace h := cond_f h hc
    obtain rfl := Option.some.inj h
    conv => whnf
    repeat (first | exact rfl | exact trivial | refine ⟨?_, ?_⟩)

abbrev R_F_rank_eight (r : List UInt8) : PV := PV.str r

def F_rank_eight_l1 (n : Nat) (x1 : Int) : (Int × List UInt8 → Option (List UInt8)) → Int × List UInt8 → Option (List UInt8) := fun nx1 (x2, x3) =>
 bif (decide (x2 < (8 : Int))) then (
 chk (decide (0 ≤ (IntKind.i64.wrap ((56 : Int) - (IntKind.i64.wrap ((8 : Int) * x2)))))) (
 bnd (natI x2) fun x4 =>
 chk (decide (x4 < 8)) (
 bnd (u8I (IntKind.u8.wrap (Int.fdiv x1 (2 ^ (min (Int.toNat (IntKind.i64.wrap ((56 : Int) - (IntKind.i64.wrap ((8 : Int) * x2))))) IntKind.u64.bits))))) fun x5 =>
 chk (decide (x4 < x3.length)) (
 nx1 ((IntKind.i64.wrap (x2 + (1 : Int))), (x3.set x4 x5))))))
else (
 chk (decide (0 + (8 - 0) ≤ x3.length)) (
 some ((x3.drop 0).take (8 - 0))))

def F_rank_eight (n : Nat)  (x1 : Int) : Option (List UInt8) :=
  loopK (F_rank_eight_l1 n x1) n ((0 : Int), (List.replicate 8 0 : List UInt8))

set_option maxRecDepth 100000 in
theorem F_rank_eight_ok (n : Nat)   : ∀ (x1 : Int) (r : List UInt8), F_rank_eight n x1 = some r → CallsF Tryd.prog 79 [PV.int .u64 x1] (R_F_rank_eight r) := by
  intro x1 r h
  unfold F_rank_eight at h
  refine CallsF.of_vcN mixed (fun _ _ => Tryd.call79 _ _) Tryd.func79 (by kernel_rfl) (inl := [10000003, 1000000]) ?_
  conv => whnf
  refine ⟨(List.replicate 8 0 : List UInt8), rfl, ?_⟩
  conv => whnf
  refine LoopA.fn [10000003, 1000000] (S := Int × List UInt8) (fun (x2, x3) => [(0, .p (.int .u64 x1)), (3, .eptr 0 1 0 0), (5, .p (.int .i64 x2))]) (fun (x2, x3) => [.bv x3]) (B := F_rank_eight_l1 n x1) h ⟨[0], [], ⟨rfl, rfl, rfl, rfl⟩, by repeat (first | exact trivial | exact .inl rfl | exact rfl | exact List.not_mem_nil | (refine .inr ?_) | (refine ⟨?_, ?_⟩) | exact List.length_set.symm | decide), by repeat (first | exact trivial | exact .inl rfl | exact rfl | exact List.not_mem_nil | (refine .inr ?_) | (refine ⟨?_, ?_⟩) | exact List.length_set.symm | decide)⟩ ?_
  intro nx1 st h
  obtain ⟨x2, x3⟩ := st
  unfold F_rank_eight_l1 at h
  conv => whnf
  refine ⟨fun hc => ?_, fun hc => ?_⟩
  · replace h := cond_t h hc
    conv => whnf
    obtain ⟨h5, h⟩ := chk_some h
    refine ⟨(of_decide_eq_true h5 : 0 ≤ (IntKind.i64.wrap ((56 : Int) - (IntKind.i64.wrap ((8 : Int) * x2))))), ?_⟩
    conv => whnf
    replace h := bnd_some h
    obtain ⟨x4, h4, h⟩ := h
    have hj := natI_some h4
    conv => whnf
    obtain ⟨h3, h⟩ := chk_some h
    refine ⟨x4, ⟨rfl, hj, of_decide_eq_true h3⟩, ?_⟩
    conv => whnf
    replace h := bnd_some h
    obtain ⟨x5, h2, h⟩ := h
    have hb := u8I_some h2
    conv => whnf
    obtain ⟨h1, h⟩ := chk_some h
    refine ⟨_, _, ⟨rfl, rfl, of_decide_eq_true h1, hb, rfl⟩, ?_⟩
    conv => whnf
    exact ⟨((IntKind.i64.wrap (x2 + (1 : Int))), (x3.set x4 x5)), h, ⟨[0], [], ⟨rfl, rfl, rfl, rfl⟩, by repeat (first | exact trivial | exact .inl rfl | exact rfl | exact List.not_mem_nil | (refine .inr ?_) | (refine ⟨?_, ?_⟩) | exact List.length_set.symm | decide), by repeat (first | exact trivial | exact .inl rfl | exact rfl | exact List.not_mem_nil | (refine .inr ?_) | (refine ⟨?_, ?_⟩) | exact List.length_set.symm | decide)⟩⟩
  · replace h := cond_f h hc
    conv => whnf
    refine ⟨⟨rfl, Nat.zero_le _, Nat.le_refl _, by decide⟩, ?_⟩
    conv => whnf
    obtain ⟨h6, h⟩ := chk_some h
    refine ⟨(of_decide_eq_true h6 : 0 + (8 - 0) ≤ x3.length), ?_⟩
    obtain rfl := Option.some.inj h
    conv => whnf
    repeat (first | exact rfl | exact trivial | refine ⟨?_, ?_⟩)

abbrev R_F_rank_ended (r : List UInt8) : PV := PV.str r

def F_rank_ended (n : Nat)  (x1 : List UInt8) : Option (List UInt8) :=
  bnd (F_strings_ReplaceAll n x1 ([0] : List UInt8) ([0, 255] : List UInt8)) fun x2 =>
  chk (decide (((x2.length + ([0, 0] : List UInt8).length : Nat) : Int) ≤ maxI)) (
  some (x2 ++ ([0, 0] : List UInt8)))

set_option maxRecDepth 100000 in
theorem F_rank_ended_ok (n : Nat)   : ∀ (x1 : List UInt8) (r : List UInt8), F_rank_ended n x1 = some r → CallsF Tryd.prog 80 [PV.str x1] (R_F_rank_ended r) := by
  intro x1 r h
  unfold F_rank_ended at h
  refine CallsF.of_vcN mixed (fun _ _ => Tryd.call80 _ _) Tryd.func80 (by kernel_rfl) (inl := [1000000]) ?_
  conv => whnf
  replace h := bnd_some h
  obtain ⟨x2, h2, h⟩ := h
  refine ⟨_, (F_strings_ReplaceAll_ok n _ _ _  _ h2), ?_⟩
  conv => whnf
  obtain ⟨h1, h⟩ := chk_some h
  refine ⟨(of_decide_eq_true h1 : ((x2.length + ([0, 0] : List UInt8).length : Nat) : Int) ≤ maxI), ?_⟩
  obtain rfl := Option.some.inj h
  conv => whnf
  repeat (first | exact rfl | exact trivial | refine ⟨?_, ?_⟩)
end W
end
section
open Go Go.Proofs Ax
namespace W
abbrev R_F_rank_lay (r : List UInt8) : PV := PV.str r

def F_rank_lay_k1 (n : Nat) (g81 : Val → Option (List UInt8)) (x1 : Int) (x2 : Bool) (x3 : Int) (x4 : List UInt8) (x5 : List Val) (x6 : List (List UInt8)) : Bool → Option (List UInt8) := fun x11 =>
 bif x11 then (
 bnd (g81 (Val.mk x1 x2 x3 x4 x5 x6)) fun x12 =>
 some x12)
else (
 some [(8 : UInt8)])

def BF_rank_lay (n : Nat) (g71 : Val → Option (List UInt8)) (g81 : Val → Option (List UInt8)) (a0_ : Val) : Option (List UInt8) :=
  match a0_ with
  | ⟨x1, x2, x3, x4, x5, x6⟩ =>
  bif (x1 == (1 : Int)) then (
  bif x2 then (
  some [(6 : UInt8), (1 : UInt8)])
  else (
  some [(6 : UInt8), (0 : UInt8)]))
  else (
  bif (x1 == (2 : Int)) then (
  bnd (F_rank_eight n (IntKind.u64.wrap (((BitVec.ofInt IntKind.u64.bits (IntKind.u64.wrap x3) ^^^ BitVec.ofInt IntKind.u64.bits (9223372036854775808 : Int)).toNat : Nat) : Int))) fun x7 =>
  chk (decide ((([(7 : UInt8)].length + x7.length : Nat) : Int) ≤ maxI)) (
  some ([(7 : UInt8)] ++ x7)))
  else (
  bif (x1 == (3 : Int)) then (
  bnd (F_rank_ended n x4) fun x8 =>
  chk (decide ((([(5 : UInt8)].length + x8.length : Nat) : Int) ≤ maxI)) (
  some ([(5 : UInt8)] ++ x8)))
  else (
  bif (x1 == (6 : Int)) then (
  bnd (F_rank_eight n (IntKind.u64.wrap x3)) fun x9 =>
  chk (decide ((([(2 : UInt8)].length + x9.length : Nat) : Int) ≤ maxI)) (
  some ([(2 : UInt8)] ++ x9)))
  else (
  bif (x1 == (7 : Int)) then (
  bnd (F_rank_eight n (IntKind.u64.wrap x3)) fun x10 =>
  chk (decide ((([(3 : UInt8)].length + x10.length : Nat) : Int) ≤ maxI)) (
  some ([(3 : UInt8)] ++ x10)))
  else (
  bif (x1 == (4 : Int)) then (
  F_rank_lay_k1 n g81 x1 x2 x3 x4 x5 x6 (x1 == (4 : Int)))
  else (
  F_rank_lay_k1 n g81 x1 x2 x3 x4 x5 x6 (x1 == (5 : Int))))))))

abbrev R_F_rank_rows (r : List UInt8) : PV := PV.str r

def F_rank_rows_k4 (n : Nat) (g71 : Val → Option (List UInt8)) (x10 : Int) (x11 : Bool) (x12 : Int) (x13 : List UInt8) (x14 : List Val) (x15 : List (List UInt8)) (nx1 : Int × List UInt8 → Option (List UInt8)) (x8 : Int) : List UInt8 → Option (List UInt8) := fun x16 =>
 bnd (g71 (Val.mk x10 x11 x12 x13 x14 x15)) fun x17 =>
 chk (decide ((bRows (x16 ++ x17)).length * 1 ≤ 140737488355328)) (
 nx1 ((IntKind.i64.wrap (x8 + (1 : Int))), (x16 ++ x17)))

def F_rank_rows_l1 (n : Nat) (x5 : List Val) (x1 : Int) (x6 : List (List UInt8)) (g71 : Val → Option (List UInt8)) : (Int × List UInt8 → Option (List UInt8)) → Int × List UInt8 → Option (List UInt8) := fun nx1 (x8, x9) =>
 bif (decide (x8 < (((Val.rows x5).length : Nat) : Int))) then (
 bnd (idx x5 x8) fun ⟨x10, x11, x12, x13, x14, x15⟩ =>
 bif (x1 == (5 : Int)) then (
 chk (decide ((bRows (x9 ++ [(1 : UInt8)])).length * 1 ≤ 140737488355328)) (
 bnd (idx x6 x8) fun x18 =>
 bnd (F_rank_ended n x18) fun x19 =>
 chk (decide ((bRows ((x9 ++ [(1 : UInt8)]) ++ x19)).length * 1 ≤ 140737488355328)) (
 F_rank_rows_k4 n g71 x10 x11 x12 x13 x14 x15 nx1 x8 ((x9 ++ [(1 : UInt8)]) ++ x19))))
else (
 F_rank_rows_k4 n g71 x10 x11 x12 x13 x14 x15 nx1 x8 x9))
else (
 chk (decide ((bRows (x9 ++ [(0 : UInt8)])).length * 1 ≤ 140737488355328)) (
 some (x9 ++ [(0 : UInt8)])))

def F_rank_rows_k1 (n : Nat) (x5 : List Val) (x1 : Int) (x6 : List (List UInt8)) (g71 : Val → Option (List UInt8)) : List UInt8 → Option (List UInt8) := fun x7 =>
 loopK (F_rank_rows_l1 n x5 x1 x6 g71) n ((0 : Int), x7)

def BF_rank_rows (n : Nat) (g71 : Val → Option (List UInt8)) (g81 : Val → Option (List UInt8)) (a0_ : Val) : Option (List UInt8) :=
  match a0_ with
  | ⟨x1, x2, x3, x4, x5, x6⟩ =>
  chk (decide ((bRows [(4 : UInt8)]).length * 1 ≤ 140737488355328)) (
  bif (x1 == (5 : Int)) then (
  chk (decide ((bRows [(1 : UInt8)]).length * 1 ≤ 140737488355328)) (
  F_rank_rows_k1 n x5 x1 x6 g71 [(1 : UInt8)]))
  else (
  F_rank_rows_k1 n x5 x1 x6 g71 [(4 : UInt8)]))

set_option maxHeartbeats 4000000 in
set_option maxRecDepth 100000 in
theorem BF_rank_lay_ok (n : Nat) (g71 : Val → Option (List UInt8)) (g81 : Val → Option (List UInt8)) (g71_ok : ∀ (a0_ : Val) (r : List UInt8), g71 a0_ = some r → CallsF Tryd.prog 71 [PV.agg (valC.cells a0_)] (R_F_rank_lay r)) (g81_ok : ∀ (a0_ : Val) (r : List UInt8), g81 a0_ = some r → CallsF Tryd.prog 81 [PV.agg (valC.cells a0_)] (R_F_rank_rows r)) : ∀ (a0_ : Val) (r : List UInt8), BF_rank_lay n g71 g81 a0_ = some r → CallsF Tryd.prog 71 [PV.agg (valC.cells a0_)] (R_F_rank_lay r) := by
  intro a0_ r h
  obtain ⟨x1, x2, x3, x4, x5, x6⟩ := a0_
  unfold BF_rank_lay at h
  refine CallsF.of_vcN mixed (fun _ _ => Tryd.call71 _ _) Tryd.func71 (by kernel_rfl) (inl := [1000000]) ?_
  conv => whnf
  refine ⟨fun hc => ?_, fun hc => ?_⟩
  · replace h := cond_t h hc
    conv => whnf
    refine ⟨fun hc => ?_, fun hc => ?_⟩
    · replace h := cond_t h hc
      conv => whnf
      refine ⟨Codec.one byteC [(6 : UInt8), (1 : UInt8)], bRows [(6 : UInt8), (1 : UInt8)], .inl rfl, ?_⟩
      conv => whnf
      refine ⟨_, rfl, ?_⟩
      obtain rfl := Option.some.inj h
      conv => whnf
      repeat (first | exact rfl | exact trivial | refine ⟨?_, ?_⟩)
    · replace h := cond_f h hc
      conv => whnf
      refine ⟨Codec.one byteC [(6 : UInt8), (0 : UInt8)], bRows [(6 : UInt8), (0 : UInt8)], .inl rfl, ?_⟩
      conv => whnf
      refine ⟨_, rfl, ?_⟩
      obtain rfl := Option.some.inj h
      conv => whnf
      repeat (first | exact rfl | exact trivial | refine ⟨?_, ?_⟩)
  · replace h := cond_f h hc
    conv => whnf
    refine ⟨fun hc => ?_, fun hc => ?_⟩
    · replace h := cond_t h hc
      conv => whnf
      refine ⟨Codec.one byteC [(7 : UInt8)], bRows [(7 : UInt8)], .inl rfl, ?_⟩
      conv => whnf
      refine ⟨_, rfl, ?_⟩
      conv => whnf
      replace h := bnd_some h
      obtain ⟨x7, h2, h⟩ := h
      refine ⟨_, (F_rank_eight_ok n _  _ h2), ?_⟩
      conv => whnf
      obtain ⟨h1, h⟩ := chk_some h
      refine ⟨(of_decide_eq_true h1 : (([(7 : UInt8)].length + x7.length : Nat) : Int) ≤ maxI), ?_⟩
      obtain rfl := Option.some.inj h
      conv => whnf
      repeat (first | exact rfl | exact trivial | refine ⟨?_, ?_⟩)
    · replace h := cond_f h hc
      conv => whnf
      refine ⟨fun hc => ?_, fun hc => ?_⟩
      · replace h := cond_t h hc
        conv => whnf
        refine ⟨Codec.one byteC [(5 : UInt8)], bRows [(5 : UInt8)], .inl rfl, ?_⟩
        conv => whnf
        refine ⟨_, rfl, ?_⟩
        conv => whnf
        replace h := bnd_some h
        obtain ⟨x8, h4, h⟩ := h
        refine ⟨_, (F_rank_ended_ok n _  _ h4), ?_⟩
        conv => whnf
        obtain ⟨h3, h⟩ := chk_some h
        refine ⟨(of_decide_eq_true h3 : (([(5 : UInt8)].length + x8.length : Nat) : Int) ≤ maxI), ?_⟩
        obtain rfl := Option.some.inj h
        conv => whnf
        repeat (first | exact rfl | exact trivial | refine ⟨?_, ?_⟩)
      · replace h := cond_f h hc
        conv => whnf
        refine ⟨fun hc => ?_, fun hc => ?_⟩
        · replace h := cond_t h hc
          conv => whnf
          refine ⟨Codec.one byteC [(2 : UInt8)], bRows [(2 : UInt8)], .inl rfl, ?_⟩
          conv => whnf
          refine ⟨_, rfl, ?_⟩
          conv => whnf
          replace h := bnd_some h
          obtain ⟨x9, h6, h⟩ := h
          refine ⟨_, (F_rank_eight_ok n _  _ h6), ?_⟩
          conv => whnf
          obtain ⟨h5, h⟩ := chk_some h
          refine ⟨(of_decide_eq_true h5 : (([(2 : UInt8)].length + x9.length : Nat) : Int) ≤ maxI), ?_⟩
          obtain rfl := Option.some.inj h
          conv => whnf
          repeat (first | exact rfl | exact trivial | refine ⟨?_, ?_⟩)
        · replace h := cond_f h hc
          conv => whnf
          refine ⟨fun hc => ?_, fun hc => ?_⟩
          · replace h := cond_t h hc
            conv => whnf
            refine ⟨Codec.one byteC [(3 : UInt8)], bRows [(3 : UInt8)], .inl rfl, ?_⟩
            conv => whnf
            refine ⟨_, rfl, ?_⟩
            conv => whnf
            replace h := bnd_some h
            obtain ⟨x10, h8, h⟩ := h
            refine ⟨_, (F_rank_eight_ok n _  _ h8), ?_⟩
            conv => whnf
            obtain ⟨h7, h⟩ := chk_some h
            refine ⟨(of_decide_eq_true h7 : (([(3 : UInt8)].length + x10.length : Nat) : Int) ≤ maxI), ?_⟩
            obtain rfl := Option.some.inj h
            conv => whnf
            repeat (first | exact rfl | exact trivial | refine ⟨?_, ?_⟩)
          · replace h := cond_f h hc
            conv => whnf
            refine SeqA.cut (S := Bool) (fun x11 => [(1, .ptr 0 0), (49, .p (.bool x11))]) (fun x11 => [.box 40 [.p (.int .i64 x1), .p (.bool x2), .p (.int .i64 x3), .p (.str x4), .p (.sl (Val.rows x5)), .p (.sl (strs x6))]]) (F_rank_lay_k1 n g81 x1 x2 x3 x4 x5 x6) (r := r) ?_ ?_
            · intro x11 h
              unfold F_rank_lay_k1 at h
              conv => whnf
              refine ⟨fun hc => ?_, fun hc => ?_⟩
              · replace h := cond_t h hc
                conv => whnf
                replace h := bnd_some h
                obtain ⟨x12, h9, h⟩ := h
                refine ⟨_, (g81_ok _  _ h9), ?_⟩
                obtain rfl := Option.some.inj h
                conv => whnf
                repeat (first | exact rfl | exact trivial | refine ⟨?_, ?_⟩)
              · replace h := cond_f h hc
                conv => whnf
                refine ⟨Codec.one byteC [(8 : UInt8)], bRows [(8 : UInt8)], .inl rfl, ?_⟩
                conv => whnf
                refine ⟨_, rfl, ?_⟩
                obtain rfl := Option.some.inj h
                conv => whnf
                repeat (first | exact rfl | exact trivial | refine ⟨?_, ?_⟩)
            · conv => whnf
              refine ⟨fun hc => ?_, fun hc => ?_⟩
              · replace h := cond_t h hc
                conv => whnf
                exact ⟨(x1 == (4 : Int)), h, ⟨[0], [], ⟨rfl, rfl, rfl, rfl⟩, by repeat (first | exact trivial | exact .inl rfl | exact rfl | exact List.not_mem_nil | (refine .inr ?_) | (refine ⟨?_, ?_⟩) | exact List.length_set.symm | decide), by repeat (first | exact trivial | exact .inl rfl | exact rfl | exact List.not_mem_nil | (refine .inr ?_) | (refine ⟨?_, ?_⟩) | exact List.length_set.symm | decide)⟩⟩
              · replace h := cond_f h hc
                conv => whnf
                exact ⟨(x1 == (5 : Int)), h, ⟨[0], [], ⟨rfl, rfl, rfl, rfl⟩, by repeat (first | exact trivial | exact .inl rfl | exact rfl | exact List.not_mem_nil | (refine .inr ?_) | (refine ⟨?_, ?_⟩) | exact List.length_set.symm | decide), by repeat (first | exact trivial | exact .inl rfl | exact rfl | exact List.not_mem_nil | (refine .inr ?_) | (refine ⟨?_, ?_⟩) | exact List.length_set.symm | decide)⟩⟩

set_option maxHeartbeats 4000000 in
set_option maxRecDepth 100000 in
theorem BF_rank_rows_ok (n : Nat) (g71 : Val → Option (List UInt8)) (g81 : Val → Option (List UInt8)) (g71_ok : ∀ (a0_ : Val) (r : List UInt8), g71 a0_ = some r → CallsF Tryd.prog 71 [PV.agg (valC.cells a0_)] (R_F_rank_lay r)) (g81_ok : ∀ (a0_ : Val) (r : List UInt8), g81 a0_ = some r → CallsF Tryd.prog 81 [PV.agg (valC.cells a0_)] (R_F_rank_rows r)) : ∀ (a0_ : Val) (r : List UInt8), BF_rank_rows n g71 g81 a0_ = some r → CallsF Tryd.prog 81 [PV.agg (valC.cells a0_)] (R_F_rank_rows r) := by
  intro a0_ r h
  obtain ⟨x1, x2, x3, x4, x5, x6⟩ := a0_
  unfold BF_rank_rows at h
  refine CallsF.of_vcN mixed (fun _ _ => Tryd.call81 _ _) Tryd.func81 (by kernel_rfl) (inl := [86, 87, 88, 89, 1000000]) ?_
  conv => whnf
  refine CallsI.of_vc mixed (fun _ _ => Tryd.call86 _ _) Tryd.func86 (by kernel_rfl) (inl := [92, 1000000]) ?_
  conv => whnf
  refine CallsI.of_vc mixed (fun _ _ => Tryd.call92 _ _) Tryd.func92 (by kernel_rfl) (inl := [97, 1000000]) ?_
  conv => whnf
  refine ⟨fun _ => ?_, fun hf => absurd hf (by first | decide | simp)⟩
  conv => whnf
  refine ⟨⟨by decide, by first | decide | exact Nat.zero_lt_succ _⟩, ?_⟩
  conv => whnf
  refine CallsI.noEscape Tryd.func97 (by kernel_rfl) (by kernel_rfl) (by kernel_rfl) (by kernel_rfl) ?_
  conv => whnf
  refine ⟨by kernel_rfl, ?_⟩
  conv => whnf
  refine ⟨Codec.one byteC [(4 : UInt8)], bRows [(4 : UInt8)], .inl rfl, ?_⟩
  conv => whnf
  obtain ⟨h10, h⟩ := chk_some h
  refine ⟨⟨Codec.wide byteC [(4 : UInt8)], of_decide_eq_true h10, len_ok h10 (by decide)⟩, ?_⟩
  conv => whnf
  refine SeqA.cut (S := List UInt8) (fun x7 => [(1, .ptr 0 0), (3, .ptr 1 0)]) (fun x7 => [.box 40 [.p (.int .i64 x1), .p (.bool x2), .p (.int .i64 x3), .p (.str x4), .p (.sl (Val.rows x5)), .p (.sl (strs x6))], .box 117 [.ptr 1 0, .tsl 2 (bRows x7)], .tail 5 1 (bRows x7).length]) (F_rank_rows_k1 n x5 x1 x6 g71) (r := r) ?_ ?_
  · intro x7 h
    unfold F_rank_rows_k1 at h
    conv => whnf
    refine LoopA.fn [86, 87, 88, 89, 1000000] (S := Int × List UInt8) (fun (x8, x9) => [(1, .ptr 0 0), (3, .ptr 1 0), (13, .p (.sl (Val.rows x5))), (14, .p (.int .i64 (((Val.rows x5).length : Nat) : Int))), (15, .p (.int .i64 x8))]) (fun (x8, x9) => [.box 40 [.p (.int .i64 x1), .p (.bool x2), .p (.int .i64 x3), .p (.str x4), .p (.sl (Val.rows x5)), .p (.sl (strs x6))], .box 117 [.ptr 1 0, .tsl 2 (bRows x9)], .tail 5 1 (bRows x9).length]) (B := F_rank_rows_l1 n x5 x1 x6 g71) h ⟨[0, 1, 2], [], ⟨rfl, rfl, rfl, rfl⟩, by repeat (first | exact trivial | exact .inl rfl | exact rfl | exact List.not_mem_nil | (refine .inr ?_) | (refine ⟨?_, ?_⟩) | exact List.length_set.symm | decide), by repeat (first | exact trivial | exact .inl rfl | exact rfl | exact List.not_mem_nil | (refine .inr ?_) | (refine ⟨?_, ?_⟩) | exact List.length_set.symm | decide)⟩ ?_
    intro nx1 st h
    obtain ⟨x8, x9⟩ := st
    unfold F_rank_rows_l1 at h
    conv => whnf
    refine ⟨fun hc => ?_, fun hc => ?_⟩
    · replace h := cond_t h hc
      conv => whnf
      replace h := bnd_some h
      obtain ⟨⟨x10, x11, x12, x13, x14, x15⟩, h7, h⟩ := h
      refine ⟨_, Codec.at_ valC h7, ?_⟩
      conv => whnf
      refine SeqA.cut (S := List UInt8) (fun x16 => [(1, .ptr 0 0), (3, .ptr 1 0), (5, .ptr 2 0), (13, .p (.sl (Val.rows x5))), (14, .p (.int .i64 (((Val.rows x5).length : Nat) : Int))), (15, .p (.int .i64 x8))]) (fun x16 => [.box 40 [.p (.int .i64 x1), .p (.bool x2), .p (.int .i64 x3), .p (.str x4), .p (.sl (Val.rows x5)), .p (.sl (strs x6))], .box 117 [.ptr 1 0, .tsl 3 (bRows x16)], .box 40 [.p (.int .i64 x10), .p (.bool x11), .p (.int .i64 x12), .p (.str x13), .p (.sl (Val.rows x14)), .p (.sl (strs x15))], .tail 5 1 (bRows x16).length]) (F_rank_rows_k4 n g71 x10 x11 x12 x13 x14 x15 nx1 x8) (r := r) ?_ ?_
      · intro x16 h
        unfold F_rank_rows_k4 at h
        conv => whnf
        replace h := bnd_some h
        obtain ⟨x17, h2, h⟩ := h
        refine ⟨_, (g71_ok _  _ h2), ?_⟩
        conv => whnf
        refine CallsI.of_vc mixed (fun _ _ => Tryd.call88 _ _) Tryd.func88 (by kernel_rfl) (inl := [92, 1000000]) ?_
        conv => whnf
        refine CallsI.of_vc mixed (fun _ _ => Tryd.call92 _ _) Tryd.func92 (by kernel_rfl) (inl := [97, 1000000]) ?_
        conv => whnf
        refine ⟨fun hf => absurd hf (by first | decide | simp), fun _ => ?_⟩
        conv => whnf
        refine ⟨fun hf => absurd hf (by first | decide | simp), fun _ => ?_⟩
        conv => whnf
        rw [show bRows x16 ++ bRows x17 = bRows (x16 ++ x17) from Codec.append byteC x16 x17]
        conv => whnf
        obtain ⟨h1, h⟩ := chk_some h
        refine ⟨⟨Codec.wide byteC x16, of_decide_eq_true h1, len_ok h1 (by decide)⟩, ?_⟩
        conv => whnf
        refine ⟨⟨rfl, rfl, rfl⟩, ?_⟩
        conv => whnf
        exact ⟨((IntKind.i64.wrap (x8 + (1 : Int))), (x16 ++ x17)), h, ⟨[0, 1, 4], [], ⟨rfl, rfl, rfl, rfl⟩, by repeat (first | exact trivial | exact .inl rfl | exact rfl | exact List.not_mem_nil | (refine .inr ?_) | (refine ⟨?_, ?_⟩) | exact List.length_set.symm | decide), by repeat (first | exact trivial | exact .inl rfl | exact rfl | exact List.not_mem_nil | (refine .inr ?_) | (refine ⟨?_, ?_⟩) | exact List.length_set.symm | decide)⟩⟩
      · conv => whnf
        refine ⟨fun hc => ?_, fun hc => ?_⟩
        · replace h := cond_t h hc
          conv => whnf
          refine CallsI.of_vc mixed (fun _ _ => Tryd.call86 _ _) Tryd.func86 (by kernel_rfl) (inl := [92, 1000000]) ?_
          conv => whnf
          refine CallsI.of_vc mixed (fun _ _ => Tryd.call92 _ _) Tryd.func92 (by kernel_rfl) (inl := [97, 1000000]) ?_
          conv => whnf
          refine ⟨fun hf => absurd hf (by first | decide | simp), fun _ => ?_⟩
          conv => whnf
          refine ⟨fun hf => absurd hf (by first | decide | simp), fun _ => ?_⟩
          conv => whnf
          refine ⟨Codec.one byteC [(1 : UInt8)], bRows [(1 : UInt8)], .inl rfl, ?_⟩
          conv => whnf
          rw [show bRows x9 ++ bRows [(1 : UInt8)] = bRows (x9 ++ [(1 : UInt8)]) from Codec.append byteC x9 [(1 : UInt8)]]
          conv => whnf
          obtain ⟨h6, h⟩ := chk_some h
          refine ⟨⟨Codec.wide byteC (x9 ++ [(1 : UInt8)]), of_decide_eq_true h6, len_ok h6 (by decide)⟩, ?_⟩
          conv => whnf
          refine ⟨⟨rfl, rfl, rfl⟩, ?_⟩
          conv => whnf
          replace h := bnd_some h
          obtain ⟨x18, h5, h⟩ := h
          refine ⟨_, Codec.at_ strC h5, ?_⟩
          conv => whnf
          replace h := bnd_some h
          obtain ⟨x19, h4, h⟩ := h
          refine ⟨_, (F_rank_ended_ok n _  _ h4), ?_⟩
          conv => whnf
          refine CallsI.of_vc mixed (fun _ _ => Tryd.call88 _ _) Tryd.func88 (by kernel_rfl) (inl := [92, 1000000]) ?_
          conv => whnf
          refine CallsI.of_vc mixed (fun _ _ => Tryd.call92 _ _) Tryd.func92 (by kernel_rfl) (inl := [97, 1000000]) ?_
          conv => whnf
          refine ⟨fun hf => absurd hf (by first | decide | simp), fun _ => ?_⟩
          conv => whnf
          refine ⟨fun hf => absurd hf (by first | decide | simp), fun _ => ?_⟩
          conv => whnf
          rw [show bRows (x9 ++ [(1 : UInt8)]) ++ bRows x19 = bRows ((x9 ++ [(1 : UInt8)]) ++ x19) from Codec.append byteC (x9 ++ [(1 : UInt8)]) x19]
          conv => whnf
          obtain ⟨h3, h⟩ := chk_some h
          refine ⟨⟨Codec.wide byteC (x9 ++ [(1 : UInt8)]), of_decide_eq_true h3, len_ok h3 (by decide)⟩, ?_⟩
          conv => whnf
          refine ⟨⟨rfl, rfl, rfl⟩, ?_⟩
          conv => whnf
          exact ⟨((x9 ++ [(1 : UInt8)]) ++ x19), h, ⟨[0, 1, 3, 5], [], ⟨rfl, rfl, rfl, rfl⟩, by repeat (first | exact trivial | exact .inl rfl | exact rfl | exact List.not_mem_nil | (refine .inr ?_) | (refine ⟨?_, ?_⟩) | exact List.length_set.symm | decide), by repeat (first | exact trivial | exact .inl rfl | exact rfl | exact List.not_mem_nil | (refine .inr ?_) | (refine ⟨?_, ?_⟩) | exact List.length_set.symm | decide)⟩⟩
        · replace h := cond_f h hc
          conv => whnf
          exact ⟨x9, h, ⟨[0, 1, 3, 2], [], ⟨rfl, rfl, rfl, rfl⟩, by repeat (first | exact trivial | exact .inl rfl | exact rfl | exact List.not_mem_nil | (refine .inr ?_) | (refine ⟨?_, ?_⟩) | exact List.length_set.symm | decide), by repeat (first | exact trivial | exact .inl rfl | exact rfl | exact List.not_mem_nil | (refine .inr ?_) | (refine ⟨?_, ?_⟩) | exact List.length_set.symm | decide)⟩⟩
    · replace h := cond_f h hc
      conv => whnf
      refine CallsI.of_vc mixed (fun _ _ => Tryd.call86 _ _) Tryd.func86 (by kernel_rfl) (inl := [92, 1000000]) ?_
      conv => whnf
      refine CallsI.of_vc mixed (fun _ _ => Tryd.call92 _ _) Tryd.func92 (by kernel_rfl) (inl := [97, 1000000]) ?_
      conv => whnf
      refine ⟨fun hf => absurd hf (by first | decide | simp), fun _ => ?_⟩
      conv => whnf
      refine ⟨fun hf => absurd hf (by first | decide | simp), fun _ => ?_⟩
      conv => whnf
      refine ⟨Codec.one byteC [(0 : UInt8)], bRows [(0 : UInt8)], .inl rfl, ?_⟩
      conv => whnf
      rw [show bRows x9 ++ bRows [(0 : UInt8)] = bRows (x9 ++ [(0 : UInt8)]) from Codec.append byteC x9 [(0 : UInt8)]]
      conv => whnf
      obtain ⟨h8, h⟩ := chk_some h
      refine ⟨⟨Codec.wide byteC (x9 ++ [(0 : UInt8)]), of_decide_eq_true h8, len_ok h8 (by decide)⟩, ?_⟩
      conv => whnf
      refine ⟨⟨rfl, rfl, rfl⟩, ?_⟩
      conv => whnf
      refine CallsI.string_any (T := 117) (E := 5) enters89 string_exact89 string_empty89 (k := 1) (j := 3) (bs := (x9 ++ [(0 : UInt8)])) (n := (bRows (x9 ++ [(0 : UInt8)])).length) rfl rfl ?_
      obtain rfl := Option.some.inj h
      conv => whnf
      repeat (first | exact rfl | exact trivial | refine ⟨?_, ?_⟩)
  · conv => whnf
    refine ⟨fun hc => ?_, fun hc => ?_⟩
    · replace h := cond_t h hc
      conv => whnf
      refine CallsI.of_vc mixed (fun _ _ => Tryd.call87 _ _) Tryd.func87 (by kernel_rfl) (inl := [1000000]) ?_
      conv => whnf
      refine CallsI.of_vc mixed (fun _ _ => Tryd.call86 _ _) Tryd.func86 (by kernel_rfl) (inl := [92, 1000000]) ?_
      conv => whnf
      refine CallsI.of_vc mixed (fun _ _ => Tryd.call92 _ _) Tryd.func92 (by kernel_rfl) (inl := [97, 1000000]) ?_
      conv => whnf
      refine ⟨fun _ => ?_, fun hf => absurd hf (by first | decide | simp)⟩
      conv => whnf
      refine ⟨⟨by decide, by first | decide | exact Nat.zero_lt_succ _⟩, ?_⟩
      conv => whnf
      refine CallsI.noEscape Tryd.func97 (by kernel_rfl) (by kernel_rfl) (by kernel_rfl) (by kernel_rfl) ?_
      conv => whnf
      refine ⟨by kernel_rfl, ?_⟩
      conv => whnf
      refine ⟨Codec.one byteC [(1 : UInt8)], bRows [(1 : UInt8)], .inl rfl, ?_⟩
      conv => whnf
      obtain ⟨h9, h⟩ := chk_some h
      refine ⟨⟨Codec.wide byteC [(1 : UInt8)], of_decide_eq_true h9, len_ok h9 (by decide)⟩, ?_⟩
      conv => whnf
      exact ⟨[(1 : UInt8)], h, ⟨[0, 1, 3], [], ⟨rfl, rfl, rfl, rfl⟩, by repeat (first | exact trivial | exact .inl rfl | exact rfl | exact List.not_mem_nil | (refine .inr ?_) | (refine ⟨?_, ?_⟩) | exact List.length_set.symm | decide), by repeat (first | exact trivial | exact .inl rfl | exact rfl | exact List.not_mem_nil | (refine .inr ?_) | (refine ⟨?_, ?_⟩) | exact List.length_set.symm | decide)⟩⟩
    · replace h := cond_f h hc
      conv => whnf
      exact ⟨[(4 : UInt8)], h, ⟨[0, 1, 2], [], ⟨rfl, rfl, rfl, rfl⟩, by repeat (first | exact trivial | exact .inl rfl | exact rfl | exact List.not_mem_nil | (refine .inr ?_) | (refine ⟨?_, ?_⟩) | exact List.length_set.symm | decide), by repeat (first | exact trivial | exact .inl rfl | exact rfl | exact List.not_mem_nil | (refine .inr ?_) | (refine ⟨?_, ?_⟩) | exact List.length_set.symm | decide)⟩⟩

mutual
def F_rank_lay : Nat → Val → Option (List UInt8)
  | 0 => fun _ => none
  | n + 1 => BF_rank_lay n (F_rank_lay n) (F_rank_rows n)
def F_rank_rows : Nat → Val → Option (List UInt8)
  | 0 => fun _ => none
  | n + 1 => BF_rank_rows n (F_rank_lay n) (F_rank_rows n)
end

set_option maxRecDepth 100000 in
theorem F_rank_lay_all (n : Nat) : (∀ (a0_ : Val) (r : List UInt8), F_rank_lay n a0_ = some r → CallsF Tryd.prog 71 [PV.agg (valC.cells a0_)] (R_F_rank_lay r)) ∧ (∀ (a0_ : Val) (r : List UInt8), F_rank_rows n a0_ = some r → CallsF Tryd.prog 81 [PV.agg (valC.cells a0_)] (R_F_rank_rows r)) := by
  induction n with
  | zero => exact ⟨(by intros; rename_i h; cases h), (by intros; rename_i h; cases h)⟩
  | succ n ih =>
    obtain ⟨hg71, hg81⟩ := ih
    exact ⟨BF_rank_lay_ok n (F_rank_lay n) (F_rank_rows n) hg71 hg81, BF_rank_rows_ok n (F_rank_lay n) (F_rank_rows n) hg71 hg81⟩

set_option maxRecDepth 100000 in
theorem F_rank_lay_ok (n : Nat) : ∀ (a0_ : Val) (r : List UInt8), F_rank_lay n a0_ = some r → CallsF Tryd.prog 71 [PV.agg (valC.cells a0_)] (R_F_rank_lay r) := (F_rank_lay_all n).1

set_option maxRecDepth 100000 in
theorem F_rank_rows_ok (n : Nat) : ∀ (a0_ : Val) (r : List UInt8), F_rank_rows n a0_ = some r → CallsF Tryd.prog 81 [PV.agg (valC.cells a0_)] (R_F_rank_rows r) := (F_rank_lay_all n).2

abbrev R_F_rank_Key (r : List UInt8 × Int) : PV := PV.tup [PV.str r.1, PV.int .i64 r.2]

def F_rank_Key (n : Nat)  (a0_ : Val) : Option (List UInt8 × Int) :=
  match a0_ with
  | ⟨x1, x2, x3, x4, x5, x6⟩ =>
  bnd (F_value_Check n (Val.mk x1 x2 x3 x4 x5 x6)) fun x7 =>
  bif (x7 != (0 : Int)) then (
  some (([] : List UInt8), x7))
  else (
  bnd (F_rank_lay n (Val.mk x1 x2 x3 x4 x5 x6)) fun x8 =>
  some (x8, (0 : Int)))

set_option maxRecDepth 100000 in
theorem F_rank_Key_ok (n : Nat)   : ∀ (a0_ : Val) (r : List UInt8 × Int), F_rank_Key n a0_ = some r → CallsF Tryd.prog 57 [PV.agg (valC.cells a0_)] (R_F_rank_Key r) := by
  intro a0_ r h
  obtain ⟨x1, x2, x3, x4, x5, x6⟩ := a0_
  unfold F_rank_Key at h
  refine CallsF.of_vcN mixed (fun _ _ => Tryd.call57 _ _) Tryd.func57 (by kernel_rfl) (inl := [1000000]) ?_
  conv => whnf
  replace h := bnd_some h
  obtain ⟨x7, h2, h⟩ := h
  refine ⟨_, (F_value_Check_ok n _  _ h2), ?_⟩
  conv => whnf
  refine ⟨fun hc => ?_, fun hc => ?_⟩
  · replace h := cond_t h hc
    obtain rfl := Option.some.inj h
    conv => whnf
    repeat (first | exact rfl | exact trivial | refine ⟨?_, ?_⟩)
  · replace h := cond_f h hc
    conv => whnf
    replace h := bnd_some h
    obtain ⟨x8, h1, h⟩ := h
    refine ⟨_, (F_rank_lay_ok n _  _ h1), ?_⟩
    obtain rfl := Option.some.inj h
    conv => whnf
    repeat (first | exact rfl | exact trivial | refine ⟨?_, ?_⟩)

abbrev R_F_rows_key (r : List UInt8) : PV := PV.str r

def F_rows_key_k3 (n : Nat) (x2 : List UInt8) (nx1 : List UInt8 × Int → Option (List UInt8)) (x3 : Int) : List UInt8 → Option (List UInt8) := fun x12 =>
 chk (decide (((x2.length + x12.length : Nat) : Int) ≤ maxI)) (
 nx1 ((x2 ++ x12), (IntKind.i64.wrap (x3 + (1 : Int)))))

def F_rows_key_l1 (n : Nat) (x1 : List Val) : (List UInt8 × Int → Option (List UInt8)) → List UInt8 × Int → Option (List UInt8) := fun nx1 (x2, x3) =>
 bif (decide (x3 < (((Val.rows x1).length : Nat) : Int))) then (
 bnd (idx x1 x3) fun ⟨x4, x5, x6, x7, x8, x9⟩ =>
 bnd (F_rank_Key n (Val.mk x4 x5 x6 x7 x8 x9)) fun ⟨x10, x11⟩ =>
 bif (x11 != (0 : Int)) then (
 F_rows_key_k3 n x2 nx1 x3 ([63] : List UInt8))
else (
 F_rows_key_k3 n x2 nx1 x3 x10))
else (
 some x2)

def F_rows_key (n : Nat)  (x1 : List Val) : Option (List UInt8) :=
  loopK (F_rows_key_l1 n x1) n (([] : List UInt8), (0 : Int))

set_option maxRecDepth 100000 in
theorem F_rows_key_ok (n : Nat)   : ∀ (x1 : List Val) (r : List UInt8), F_rows_key n x1 = some r → CallsF Tryd.prog 30 [PV.sl (Val.rows x1)] (R_F_rows_key r) := by
  intro x1 r h
  unfold F_rows_key at h
  refine CallsF.of_vcN mixed (fun _ _ => Tryd.call30 _ _) Tryd.func30 (by kernel_rfl) (inl := [1000000]) ?_
  conv => whnf
  refine LoopA.fn [1000000] (S := List UInt8 × Int) (fun (x2, x3) => [(3, .p (.str x2)), (8, .p (.sl (Val.rows x1))), (9, .p (.int .i64 (((Val.rows x1).length : Nat) : Int))), (10, .p (.int .i64 x3))]) (fun (x2, x3) => []) (B := F_rows_key_l1 n x1) h ⟨[], [], ⟨rfl, rfl, rfl, rfl⟩, by repeat (first | exact trivial | exact .inl rfl | exact rfl | exact List.not_mem_nil | (refine .inr ?_) | (refine ⟨?_, ?_⟩) | exact List.length_set.symm | decide), by repeat (first | exact trivial | exact .inl rfl | exact rfl | exact List.not_mem_nil | (refine .inr ?_) | (refine ⟨?_, ?_⟩) | exact List.length_set.symm | decide)⟩ ?_
  intro nx1 st h
  obtain ⟨x2, x3⟩ := st
  unfold F_rows_key_l1 at h
  conv => whnf
  refine ⟨fun hc => ?_, fun hc => ?_⟩
  · replace h := cond_t h hc
    conv => whnf
    replace h := bnd_some h
    obtain ⟨⟨x4, x5, x6, x7, x8, x9⟩, h3, h⟩ := h
    refine ⟨_, Codec.at_ valC h3, ?_⟩
    conv => whnf
    replace h := bnd_some h
    obtain ⟨⟨x10, x11⟩, h2, h⟩ := h
    refine ⟨_, (F_rank_Key_ok n _  _ h2), ?_⟩
    conv => whnf
    refine SeqA.cut (S := List UInt8) (fun x12 => [(3, .p (.str x2)), (6, .p (.str x12)), (8, .p (.sl (Val.rows x1))), (9, .p (.int .i64 (((Val.rows x1).length : Nat) : Int))), (10, .p (.int .i64 x3))]) (fun x12 => []) (F_rows_key_k3 n x2 nx1 x3) (r := r) ?_ ?_
    · intro x12 h
      unfold F_rows_key_k3 at h
      conv => whnf
      obtain ⟨h1, h⟩ := chk_some h
      refine ⟨(of_decide_eq_true h1 : ((x2.length + x12.length : Nat) : Int) ≤ maxI), ?_⟩
      conv => whnf
      exact ⟨((x2 ++ x12), (IntKind.i64.wrap (x3 + (1 : Int)))), h, ⟨[], [], ⟨rfl, rfl, rfl, rfl⟩, by repeat (first | exact trivial | exact .inl rfl | exact rfl | exact List.not_mem_nil | (refine .inr ?_) | (refine ⟨?_, ?_⟩) | exact List.length_set.symm | decide), by repeat (first | exact trivial | exact .inl rfl | exact rfl | exact List.not_mem_nil | (refine .inr ?_) | (refine ⟨?_, ?_⟩) | exact List.length_set.symm | decide)⟩⟩
    · conv => whnf
      refine ⟨fun hc => ?_, fun hc => ?_⟩
      · replace h := cond_t h hc
        conv => whnf
        exact ⟨([63] : List UInt8), h, ⟨[], [], ⟨rfl, rfl, rfl, rfl⟩, by repeat (first | exact trivial | exact .inl rfl | exact rfl | exact List.not_mem_nil | (refine .inr ?_) | (refine ⟨?_, ?_⟩) | exact List.length_set.symm | decide), by repeat (first | exact trivial | exact .inl rfl | exact rfl | exact List.not_mem_nil | (refine .inr ?_) | (refine ⟨?_, ?_⟩) | exact List.length_set.symm | decide)⟩⟩
      · replace h := cond_f h hc
        conv => whnf
        exact ⟨x10, h, ⟨[], [], ⟨rfl, rfl, rfl, rfl⟩, by repeat (first | exact trivial | exact .inl rfl | exact rfl | exact List.not_mem_nil | (refine .inr ?_) | (refine ⟨?_, ?_⟩) | exact List.length_set.symm | decide), by repeat (first | exact trivial | exact .inl rfl | exact rfl | exact List.not_mem_nil | (refine .inr ?_) | (refine ⟨?_, ?_⟩) | exact List.length_set.symm | decide)⟩⟩
  · replace h := cond_f h hc
    obtain rfl := Option.some.inj h
    conv => whnf
    repeat (first | exact rfl | exact trivial | refine ⟨?_, ?_⟩)

abbrev R_F_value_Copy (r : Val) : PV := PV.agg (valC.cells r)

def F_value_Copy_l1 (n : Nat) (x7 : Nat) (g54 : Val → Option (Val)) (x6 : List (List UInt8)) (x1 : Int) (x2 : Bool) (x3 : Int) (x4 : List UInt8) : (Int × List Val → Option (Val)) → Int × List Val → Option (Val) := fun nx1 (x8, x9) =>
 bif (decide (x8 < ((((Val.rows (List.replicate x7 (Val.mk (0 : Int) false (0 : Int) ([] : List UInt8) ([] : List Val) ([] : List (List UInt8))))).length) : Nat) : Int))) then (
 bnd (natI x8) fun x10 =>
 chk (decide (x10 < (Val.rows (List.replicate x7 (Val.mk (0 : Int) false (0 : Int) ([] : List UInt8) ([] : List Val) ([] : List (List UInt8))))).length)) (
 bnd (x9[x10]?) fun ⟨x11, x12, x13, x14, x15, x16⟩ =>
 bnd (g54 (Val.mk x11 x12 x13 x14 x15 x16)) fun ⟨x17, x18, x19, x20, x21, x22⟩ =>
 bnd (natI x8) fun x23 =>
 chk (decide (x23 < (Val.rows (List.replicate x7 (Val.mk (0 : Int) false (0 : Int) ([] : List UInt8) ([] : List Val) ([] : List (List UInt8))))).length)) (
 bnd (x9[x23]?) fun ⟨x24, x25, x26, x27, x28, x29⟩ =>
 nx1 ((IntKind.i64.wrap (x8 + (1 : Int))), (x9.set x23 (Val.mk x17 x18 x19 x20 x21 x22))))))
else (
 chk (decide ((strs x6).length * 16 ≤ 140737488355328)) (
 some (Val.mk x1 x2 x3 x4 x9 x6)))

def BF_value_Copy (n : Nat) (g54 : Val → Option (Val)) (a0_ : Val) : Option (Val) :=
  match a0_ with
  | ⟨x1, x2, x3, x4, x5, x6⟩ =>
  bnd (natI (((Val.rows x5).length : Nat) : Int)) fun x7 =>
  chk (decide (x7 * 88 ≤ 140737488355328)) (
  chk (decide ((Val.rows x5).length = (Val.rows (List.replicate x7 (Val.mk (0 : Int) false (0 : Int) ([] : List UInt8) ([] : List Val) ([] : List (List UInt8))))).length)) (
  loopK (F_value_Copy_l1 n x7 g54 x6 x1 x2 x3 x4) n ((0 : Int), x5)))

set_option maxRecDepth 100000 in
theorem BF_value_Copy_ok (n : Nat) (g54 : Val → Option (Val)) (g54_ok : ∀ (a0_ : Val) (r : Val), g54 a0_ = some r → CallsF Tryd.prog 54 [PV.agg (valC.cells a0_)] (R_F_value_Copy r)) : ∀ (a0_ : Val) (r : Val), BF_value_Copy n g54 a0_ = some r → CallsF Tryd.prog 54 [PV.agg (valC.cells a0_)] (R_F_value_Copy r) := by
  intro a0_ r h
  obtain ⟨x1, x2, x3, x4, x5, x6⟩ := a0_
  unfold BF_value_Copy at h
  refine CallsF.of_vcN mixed (fun _ _ => Tryd.call54 _ _) Tryd.func54 (by kernel_rfl) (inl := [65, 10000008, 1000000]) ?_
  conv => whnf
  replace h := bnd_some h
  obtain ⟨x7, h11, h⟩ := h
  have hj := natI_some h11
  conv => whnf
  obtain ⟨h10, h⟩ := chk_some h
  refine ⟨x7, Val.rows (List.replicate x7 (Val.mk (0 : Int) false (0 : Int) ([] : List UInt8) ([] : List Val) ([] : List (List UInt8)))), ⟨hj, hj, of_decide_eq_true h10, len_ok h10 (by decide), Codec.madeN valC (Val.mk (0 : Int) false (0 : Int) ([] : List UInt8) ([] : List Val) ([] : List (List UInt8))) x7 (by repeat (first | exact rfl | exact trivial | refine ⟨?_, ?_⟩)), rfl, by decide, rfl⟩, ?_⟩
  conv => whnf
  obtain ⟨h9, h⟩ := chk_some h
  refine ⟨⟨rfl, of_decide_eq_true h9, Codec.wide valC x5⟩, ?_⟩
  conv => whnf
  refine LoopA.fn [65, 10000008, 1000000] (S := Int × List Val) (fun (x8, x9) => [(1, .ptr 0 0), (2, .ptr 1 0), (3, .vsl 2 ((Val.rows (List.replicate x7 (Val.mk (0 : Int) false (0 : Int) ([] : List UInt8) ([] : List Val) ([] : List (List UInt8))))).length)), (14, .p (.int .i64 ((((Val.rows (List.replicate x7 (Val.mk (0 : Int) false (0 : Int) ([] : List UInt8) ([] : List Val) ([] : List (List UInt8))))).length) : Nat) : Int))), (15, .p (.int .i64 x8))]) (fun (x8, x9) => [.box 40 [.p (.int .i64 x1), .p (.bool x2), .p (.int .i64 x3), .p (.str x4), .p (.sl (Val.rows x5)), .p (.sl (strs x6))], .box 40 [.p (.int .i64 (0 : Int)), .p (.bool false), .p (.int .i64 (0 : Int)), .p (.str ([] : List UInt8)), .p (.nilsl), .p (.nilsl)], .vec 40 6 (Val.rows x9)]) (B := F_value_Copy_l1 n x7 g54 x6 x1 x2 x3 x4) h ⟨[0, 1, 2], [], ⟨rfl, rfl, rfl, rfl⟩, by repeat (first | exact trivial | exact .inl rfl | exact rfl | exact List.not_mem_nil | (refine .inr ?_) | (refine ⟨?_, ?_⟩) | exact List.length_set.symm | decide), by repeat (first | exact trivial | exact .inl rfl | exact rfl | exact List.not_mem_nil | (refine .inr ?_) | (refine ⟨?_, ?_⟩) | exact List.length_set.symm | decide)⟩ ?_
  intro nx1 st h
  obtain ⟨x8, x9⟩ := st
  unfold F_value_Copy_l1 at h
  conv => whnf
  refine ⟨fun hc => ?_, fun hc => ?_⟩
  · replace h := cond_t h hc
    conv => whnf
    replace h := bnd_some h
    obtain ⟨x10, h7, h⟩ := h
    have hj := natI_some h7
    conv => whnf
    obtain ⟨h6, h⟩ := chk_some h
    refine ⟨x10, ⟨hj, of_decide_eq_true h6⟩, ?_⟩
    conv => whnf
    replace h := bnd_some h
    obtain ⟨⟨x11, x12, x13, x14, x15, x16⟩, h5, h⟩ := h
    refine ⟨_, ⟨rfl, Codec.getN valC h5⟩, ?_⟩
    conv => whnf
    replace h := bnd_some h
    obtain ⟨⟨x17, x18, x19, x20, x21, x22⟩, h4, h⟩ := h
    refine ⟨_, (g54_ok _  _ h4), ?_⟩
    conv => whnf
    replace h := bnd_some h
    obtain ⟨x23, h3, h⟩ := h
    have hj := natI_some h3
    conv => whnf
    obtain ⟨h2, h⟩ := chk_some h
    refine ⟨x23, ⟨hj, of_decide_eq_true h2⟩, ?_⟩
    conv => whnf
    replace h := bnd_some h
    obtain ⟨⟨x24, x25, x26, x27, x28, x29⟩, h1, h⟩ := h
    refine ⟨_, ⟨rfl, Codec.getN valC h1, rfl⟩, ?_⟩
    conv => whnf
    refine ⟨_, Codec.setN valC x9 x23 (Val.mk x17 x18 x19 x20 x21 x22), ?_⟩
    conv => whnf
    exact ⟨((IntKind.i64.wrap (x8 + (1 : Int))), (x9.set x23 (Val.mk x17 x18 x19 x20 x21 x22))), h, ⟨[0, 1, 2], [], ⟨rfl, rfl, rfl, rfl⟩, by repeat (first | exact trivial | exact .inl rfl | exact rfl | exact List.not_mem_nil | (refine .inr ?_) | (refine ⟨?_, ?_⟩) | exact List.length_set.symm | decide), by repeat (first | exact trivial | exact .inl rfl | exact rfl | exact List.not_mem_nil | (refine .inr ?_) | (refine ⟨?_, ?_⟩) | exact List.length_set.symm | decide)⟩⟩
  · replace h := cond_f h hc
    conv => whnf
    obtain ⟨h8, h⟩ := chk_some h
    refine CallsO.use (Clone_ok x6 (of_decide_eq_true h8)) [] [] ⟨rfl, rfl, rfl, rfl, rfl, rfl⟩ (by repeat (first | exact trivial | exact .inl rfl | exact rfl | exact List.not_mem_nil | (refine .inr ?_) | (refine ⟨?_, ?_⟩) | exact List.length_set.symm | decide)) (by repeat (first | exact trivial | exact .inl rfl | exact rfl | exact List.not_mem_nil | (refine .inr ?_) | (refine ⟨?_, ?_⟩) | exact List.length_set.symm | decide)) ?_
    rintro _ _ ⟨rfl, rfl⟩
    refine ⟨.tsl 3 (strs x6), [.box 40 [.p (.int .i64 x1), .p (.bool x2), .p (.int .i64 x3), .p (.str x4), .vsl 2 ((Val.rows (List.replicate x7 (Val.mk (0 : Int) false (0 : Int) ([] : List UInt8) ([] : List Val) ([] : List (List UInt8))))).length), .p (.sl (strs x6))], .box 40 [.p (.int .i64 (0 : Int)), .p (.bool false), .p (.int .i64 (0 : Int)), .p (.str ([] : List UInt8)), .p (.nilsl), .p (.nilsl)], .vec 40 6 (Val.rows x9), .tail 9 1 (strs x6).length], rfl, rfl, ?_⟩
    obtain rfl := Option.some.inj h
    conv => whnf
    repeat (first | exact rfl | exact trivial | refine ⟨?_, ?_⟩)

def F_value_Copy : Nat → Val → Option (Val)
  | 0 => fun _ => none
  | n + 1 => BF_value_Copy n (F_value_Copy n)

set_option maxRecDepth 100000 in
theorem F_value_Copy_all (n : Nat) : (∀ (a0_ : Val) (r : Val), F_value_Copy n a0_ = some r → CallsF Tryd.prog 54 [PV.agg (valC.cells a0_)] (R_F_value_Copy r)) := by
  induction n with
  | zero => exact (by intros; rename_i h; cases h)
  | succ n ih =>
    have hg54 := ih
    exact BF_value_Copy_ok n (F_value_Copy n) hg54

set_option maxRecDepth 100000 in
theorem F_value_Copy_ok (n : Nat) : ∀ (a0_ : Val) (r : Val), F_value_Copy n a0_ = some r → CallsF Tryd.prog 54 [PV.agg (valC.cells a0_)] (R_F_value_Copy r) := (F_value_Copy_all n)

abbrev R_F_rows_copied (r : List Val) : PV := PV.sl (Val.rows r)

def F_rows_copied_l1 (n : Nat) (x1 : List Val) : (List Val × Int → Option (List Val)) → List Val × Int → Option (List Val) := fun nx1 (x3, x4) =>
 bif (decide (x4 < (((Val.rows x1).length : Nat) : Int))) then (
 bnd (idx x1 x4) fun ⟨x5, x6, x7, x8, x9, x10⟩ =>
 bnd (F_value_Copy n (Val.mk x5 x6 x7 x8 x9 x10)) fun ⟨x11, x12, x13, x14, x15, x16⟩ =>
 chk (decide ((Val.rows (x3 ++ [Val.mk x11 x12 x13 x14 x15 x16])).length * 88 ≤ 140737488355328)) (
 nx1 ((x3 ++ [Val.mk x11 x12 x13 x14 x15 x16]), (IntKind.i64.wrap (x4 + (1 : Int))))))
else (
 some x3)

def F_rows_copied (n : Nat)  (x1 : List Val) : Option (List Val) :=
  bnd (natI (((Val.rows x1).length : Nat) : Int)) fun x2 =>
  chk (decide (x2 * 88 ≤ 140737488355328)) (
  loopK (F_rows_copied_l1 n x1) n (([] : List Val), (0 : Int)))

set_option maxRecDepth 100000 in
theorem F_rows_copied_ok (n : Nat)   : ∀ (x1 : List Val) (r : List Val), F_rows_copied n x1 = some r → CallsF Tryd.prog 32 [PV.sl (Val.rows x1)] (R_F_rows_copied r) := by
  intro x1 r h
  unfold F_rows_copied at h
  refine CallsF.of_vcN mixed (fun _ _ => Tryd.call32 _ _) Tryd.func32 (by kernel_rfl) (inl := [1000000]) ?_
  conv => whnf
  replace h := bnd_some h
  obtain ⟨x2, h5, h⟩ := h
  have hj := natI_some h5
  conv => whnf
  obtain ⟨h4, h⟩ := chk_some h
  refine ⟨x2, ⟨rfl, hj, of_decide_eq_true h4, len_ok h4 (by decide)⟩, ?_⟩
  conv => whnf
  refine LoopA.fn [1000000] (S := List Val × Int) (fun (x3, x4) => [(3, .tsl 0 (Val.rows x3)), (9, .p (.sl (Val.rows x1))), (10, .p (.int .i64 (((Val.rows x1).length : Nat) : Int))), (11, .p (.int .i64 x4))]) (fun (x3, x4) => [.tail 40 6 (Val.rows x3).length]) (B := F_rows_copied_l1 n x1) h ⟨[0], [], ⟨rfl, rfl, rfl, rfl⟩, by repeat (first | exact trivial | exact .inl rfl | exact rfl | exact List.not_mem_nil | (refine .inr ?_) | (refine ⟨?_, ?_⟩) | exact List.length_set.symm | decide), by repeat (first | exact trivial | exact .inl rfl | exact rfl | exact List.not_mem_nil | (refine .inr ?_) | (refine ⟨?_, ?_⟩) | exact List.length_set.symm | decide)⟩ ?_
  intro nx1 st h
  obtain ⟨x3, x4⟩ := st
  unfold F_rows_copied_l1 at h
  conv => whnf
  refine ⟨fun hc => ?_, fun hc => ?_⟩
  · replace h := cond_t h hc
    conv => whnf
    replace h := bnd_some h
    obtain ⟨⟨x5, x6, x7, x8, x9, x10⟩, h3, h⟩ := h
    refine ⟨_, Codec.at_ valC h3, ?_⟩
    conv => whnf
    replace h := bnd_some h
    obtain ⟨⟨x11, x12, x13, x14, x15, x16⟩, h2, h⟩ := h
    refine ⟨_, (F_value_Copy_ok n _  _ h2), ?_⟩
    conv => whnf
    refine ⟨Codec.one valC [Val.mk x11 x12 x13 x14 x15 x16], Val.rows [Val.mk x11 x12 x13 x14 x15 x16], .inl rfl, ?_⟩
    conv => whnf
    rw [show Val.rows x3 ++ Val.rows [Val.mk x11 x12 x13 x14 x15 x16] = Val.rows (x3 ++ [Val.mk x11 x12 x13 x14 x15 x16]) from Codec.append valC x3 [Val.mk x11 x12 x13 x14 x15 x16]]
    conv => whnf
    obtain ⟨h1, h⟩ := chk_some h
    refine ⟨⟨Codec.wide valC (x3 ++ [Val.mk x11 x12 x13 x14 x15 x16]), of_decide_eq_true h1, len_ok h1 (by decide)⟩, ?_⟩
    conv => whnf
    refine ⟨⟨rfl, rfl, rfl⟩, ?_⟩
    conv => whnf
    exact ⟨((x3 ++ [Val.mk x11 x12 x13 x14 x15 x16]), (IntKind.i64.wrap (x4 + (1 : Int)))), h, ⟨[2], [], ⟨rfl, rfl, rfl, rfl⟩, by repeat (first | exact trivial | exact .inl rfl | exact rfl | exact List.not_mem_nil | (refine .inr ?_) | (refine ⟨?_, ?_⟩) | exact List.length_set.symm | decide), by repeat (first | exact trivial | exact .inl rfl | exact rfl | exact List.not_mem_nil | (refine .inr ?_) | (refine ⟨?_, ?_⟩) | exact List.length_set.symm | decide)⟩⟩
  · replace h := cond_f h hc
    obtain rfl := Option.some.inj h
    conv => whnf
    repeat (first | exact rfl | exact trivial | refine ⟨?_, ?_⟩)

abbrev R_F_rows_Unique_c1 (r : List Val) : PV := PV.sl (Val.rows r)

def F_rows_Unique_c1 (n : Nat)  (x1 : List Val) : Option (List Val) :=
  bnd (F_rows_copied n x1) fun x2 =>
  some x2

set_option maxRecDepth 100000 in
theorem F_rows_Unique_c1_ok (n : Nat)   : ∀ (x1 : List Val) (r : List Val), F_rows_Unique_c1 n x1 = some r → CallsF Tryd.prog 31 [PV.hp [PV.sl (Val.rows x1)]] (R_F_rows_Unique_c1 r) := by
  intro x1 r h
  unfold F_rows_Unique_c1 at h
  refine CallsF.of_vcN mixed (fun _ _ => Tryd.call31 _ _) Tryd.func31 (by kernel_rfl) (inl := [1000000]) ?_
  conv => whnf
  replace h := bnd_some h
  obtain ⟨x2, h1, h⟩ := h
  refine ⟨_, (F_rows_copied_ok n _  _ h1), ?_⟩
  obtain rfl := Option.some.inj h
  conv => whnf
  repeat (first | exact rfl | exact trivial | refine ⟨?_, ?_⟩)

abbrev R_F_rows_Unique (r : List (List Val)) : PV := PV.sl (slRows valC r)

def F_rows_Unique_k3 (n : Nat) (nx1 : Int × List (List Val) × List ((List UInt8) × Int) → Option (List (List Val))) (x2 : Int) : Int × List (List Val) × List ((List UInt8) × Int) → Option (List (List Val)) := fun (x7, x8, x9) =>
 nx1 ((IntKind.i64.wrap (x2 + (1 : Int))), x8, x9)

def F_rows_Unique_l1 (n : Nat) (x1 : List (List Val)) : (Int × List (List Val) × List ((List UInt8) × Int) → Option (List (List Val))) → Int × List (List Val) × List ((List UInt8) × Int) → Option (List (List Val)) := fun nx1 (x2, x3, x4) =>
 bif (decide (x2 < (((slRows valC x1).length : Nat) : Int))) then (
 bnd (idx x1 x2) fun x5 =>
 bnd (F_rows_key n x5) fun x6 =>
 bif (!(mhas x4 x6)) then (
 bnd (F_rows_Unique_c1 n x5) fun x10 =>
 chk (decide ((slRows valC (x3 ++ [x10])).length * 24 ≤ 140737488355328)) (
 F_rows_Unique_k3 n nx1 x2 ((((slRows valC x3).length : Nat) : Int), (x3 ++ [x10]), (mset x6 (((slRows valC x3).length : Nat) : Int) x4))))
else (
 F_rows_Unique_k3 n nx1 x2 ((mgetD x4 x6 (0 : Int)), x3, x4)))
else (
 some x3)

def F_rows_Unique (n : Nat)  (x1 : List (List Val)) : Option (List (List Val)) :=
  loopK (F_rows_Unique_l1 n x1) n ((0 : Int), ([] : List _), ([] : List ((List UInt8) × Int)))

set_option maxHeartbeats 4000000 in
set_option maxRecDepth 100000 in
theorem F_rows_Unique_ok (n : Nat)   : ∀ (x1 : List (List Val)) (r : List (List Val)), F_rows_Unique n x1 = some r → CallsF Tryd.prog 12 [PV.sl (slRows valC x1)] (R_F_rows_Unique r) := by
  intro x1 r h
  unfold F_rows_Unique at h
  refine CallsF.of_vcN mixed (fun _ _ => Tryd.call12 _ _) Tryd.func12 (by kernel_rfl) (inl := [28, 29, 33, 1000000]) ?_
  conv => whnf
  refine CallsI.of_vc mixed (fun _ _ => Tryd.call28 _ _) Tryd.func28 (by kernel_rfl) (inl := [1000000]) ?_
  conv => whnf
  refine LoopA.fn [28, 29, 33, 1000000] (S := Int × List (List Val) × List ((List UInt8) × Int)) (fun (x2, x3, x4) => [(3, .ptr 0 0), (7, .p (.sl (slRows valC x1))), (8, .p (.int .i64 (((slRows valC x1).length : Nat) : Int))), (9, .p (.int .i64 x2))]) (fun (x2, x3, x4) => [.box 87 [.mref 1, .tsl 2 (slRows valC x3)], .mp .string (mRows PV.str (PV.int .i64) x4) none, .tail 37 1 (slRows valC x3).length]) (B := F_rows_Unique_l1 n x1) h ⟨[1, 0, 0], [2], ⟨rfl, rfl, rfl, rfl⟩, by repeat (first | exact trivial | exact .inl rfl | exact rfl | exact List.not_mem_nil | (refine .inr ?_) | (refine ⟨?_, ?_⟩) | exact List.length_set.symm | decide), by repeat (first | exact trivial | exact .inl rfl | exact rfl | exact List.not_mem_nil | (refine .inr ?_) | (refine ⟨?_, ?_⟩) | exact List.length_set.symm | decide)⟩ ?_
  intro nx1 st h
  obtain ⟨x2, x3, x4⟩ := st
  unfold F_rows_Unique_l1 at h
  conv => whnf
  refine ⟨fun hc => ?_, fun hc => ?_⟩
  · replace h := cond_t h hc
    conv => whnf
    replace h := bnd_some h
    obtain ⟨x5, h4, h⟩ := h
    refine ⟨_, Codec.at_ (slC valC) h4, ?_⟩
    conv => whnf
    replace h := bnd_some h
    obtain ⟨x6, h3, h⟩ := h
    refine ⟨_, (F_rows_key_ok n _  _ h3), ?_⟩
    conv => whnf
    refine CallsI.pubBox (P := Tryd.prog) (f := 29) 3 (t := 37) (cells := [.p (.sl (Val.rows x5))]) (row := [PV.sl (Val.rows x5)]) ?_ ?_ ?_ ?_
    rfl
    rfl
    rfl
    refine CallsI.of_vc mixed (fun _ _ => Tryd.call29 _ _) Tryd.func29 (by kernel_rfl) (inl := [1000000]) ?_
    conv => whnf
    refine ⟨PV.int .i64 (mgetD x4 x6 (0 : Int)), (mhas x4 x6), ⟨look_D keyStr (PV.int .i64) x4 x6 (0 : Int), look_b keyStr (PV.int .i64) x4 x6⟩, ?_⟩
    conv => whnf
    refine SeqA.cut (S := Int × List (List Val) × List ((List UInt8) × Int)) (fun (x7, x8, x9) => [(8, .p (.int .i64 x7)), (9, .p (.bool (mhas x4 x6)))]) (fun (x7, x8, x9) => [.box 87 [.mref 1, .tsl 4 (slRows valC x8)], .mp .string (mRows PV.str (PV.int .i64) x9) none, .dead, .dead, .tail 37 1 (slRows valC x8).length]) (F_rows_Unique_k3 n nx1 x2) (r := r) ?_ ?_
    · intro st h
      obtain ⟨x7, x8, x9⟩ := st
      unfold F_rows_Unique_k3 at h
      conv => whnf
      exact ⟨((IntKind.i64.wrap (x2 + (1 : Int))), x8, x9), h, ⟨[0, 1, 4], [], ⟨rfl, rfl, rfl, rfl⟩, by repeat (first | exact trivial | exact .inl rfl | exact rfl | exact List.not_mem_nil | (refine .inr ?_) | (refine ⟨?_, ?_⟩) | exact List.length_set.symm | decide), by repeat (first | exact trivial | exact .inl rfl | exact rfl | exact List.not_mem_nil | (refine .inr ?_) | (refine ⟨?_, ?_⟩) | exact List.length_set.symm | decide)⟩⟩
    · conv => whnf
      refine ⟨fun hc => ?_, fun hc => ?_⟩
      · replace h := cond_t h hc
        conv => whnf
        refine ⟨_, set_rows keyStr (PV.int .i64) x6 (((slRows valC x3).length : Nat) : Int) x4, ?_⟩
        conv => whnf
        replace h := bnd_some h
        obtain ⟨x10, h2, h⟩ := h
        refine ⟨_, (F_rows_Unique_c1_ok n _  _ h2), ?_⟩
        conv => whnf
        refine ⟨Codec.one (slC valC) [x10], slRows valC [x10], .inl rfl, ?_⟩
        conv => whnf
        rw [show slRows valC x3 ++ slRows valC [x10] = slRows valC (x3 ++ [x10]) from Codec.append (slC valC) x3 [x10]]
        conv => whnf
        obtain ⟨h1, h⟩ := chk_some h
        refine ⟨⟨Codec.wide (slC valC) (x3 ++ [x10]), of_decide_eq_true h1, len_ok h1 (by decide)⟩, ?_⟩
        conv => whnf
        refine ⟨⟨rfl, rfl, rfl⟩, ?_⟩
        conv => whnf
        exact ⟨((((slRows valC x3).length : Nat) : Int), (x3 ++ [x10]), (mset x6 (((slRows valC x3).length : Nat) : Int) x4)), h, ⟨[0, 1, 2, 3, 4], [], ⟨rfl, rfl, rfl, rfl⟩, by repeat (first | exact trivial | exact .inl rfl | exact rfl | exact List.not_mem_nil | (refine .inr ?_) | (refine ⟨?_, ?_⟩) | exact List.length_set.symm | decide), by repeat (first | exact trivial | exact .inl rfl | exact rfl | exact List.not_mem_nil | (refine .inr ?_) | (refine ⟨?_, ?_⟩) | exact List.length_set.symm | decide)⟩⟩
      · replace h := cond_f h hc
        conv => whnf
        exact ⟨((mgetD x4 x6 (0 : Int)), x3, x4), h, ⟨[0, 1, 2, 3, 2], [], ⟨rfl, rfl, rfl, rfl⟩, by repeat (first | exact trivial | exact .inl rfl | exact rfl | exact List.not_mem_nil | (refine .inr ?_) | (refine ⟨?_, ?_⟩) | exact List.length_set.symm | decide), by repeat (first | exact trivial | exact .inl rfl | exact rfl | exact List.not_mem_nil | (refine .inr ?_) | (refine ⟨?_, ?_⟩) | exact List.length_set.symm | decide)⟩⟩
  · replace h := cond_f h hc
    conv => whnf
    refine CallsI.of_vc mixed (fun _ _ => Tryd.call33 _ _) Tryd.func33 (by kernel_rfl) (inl := [1000000]) ?_
    obtain rfl := Option.some.inj h
    conv => whnf
    repeat (first | exact rfl | exact trivial | refine ⟨?_, ?_⟩)

abbrev R_F_value_place (r : Int) : PV := PV.int .i64 r

def F_value_place (n : Nat)  (x1 : Int) : Option (Int) :=
  bnd (idx [(7 : Int), (5 : Int), (6 : Int), (4 : Int), (3 : Int), (0 : Int), (1 : Int), (2 : Int)] x1) fun x2 =>
  some x2

set_option maxRecDepth 100000 in
theorem F_value_place_ok (n : Nat)   : ∀ (x1 : Int) (r : Int), F_value_place n x1 = some r → CallsF Tryd.prog 42 [PV.int .i64 x1] (R_F_value_place r) := by
  intro x1 r h
  unfold F_value_place at h
  refine CallsF.of_vcN mixed (fun _ _ => Tryd.call42 _ _) Tryd.func42 (by kernel_rfl) (inl := [1000000]) ?_
  conv => whnf
  refine ⟨rfl, all_one rfl, ?_⟩
  conv => whnf
  replace h := bnd_some h
  obtain ⟨x2, h1, h⟩ := h
  refine ⟨_, arr_at (k := .i64) h1 rfl (by decide), ?_⟩
  obtain rfl := Option.some.inj h
  conv => whnf
  repeat (first | exact rfl | exact trivial | refine ⟨?_, ?_⟩)

abbrev R_F_cmp_isNaN_int (r : Bool) : PV := PV.bool r

def F_cmp_isNaN_int (n : Nat)  (x1 : Int) : Option (Bool) :=
  some (x1 != x1)

set_option maxRecDepth 100000 in
theorem F_cmp_isNaN_int_ok (n : Nat)   : ∀ (x1 : Int) (r : Bool), F_cmp_isNaN_int n x1 = some r → CallsF Tryd.prog 61 [PV.int .i64 x1] (R_F_cmp_isNaN_int r) := by
  intro x1 r h
  unfold F_cmp_isNaN_int at h
  refine CallsF.of_vcN mixed (fun _ _ => Tryd.call61 _ _) Tryd.func61 (by kernel_rfl) (inl := [1000000]) ?_
  obtain rfl := Option.some.inj h
  conv => whnf
  repeat (first | exact rfl | exact trivial | refine ⟨?_, ?_⟩)

abbrev R_F_cmp_Compare_int (r : Int) : PV := PV.int .i64 r

def F_cmp_Compare_int (n : Nat)  (x1 : Int) (x2 : Int) : Option (Int) :=
  bnd (F_cmp_isNaN_int n x1) fun x3 =>
  bnd (F_cmp_isNaN_int n x2) fun x4 =>
  bif x3 then (
  bif x4 then (
  some (0 : Int))
  else (
  some (-1 : Int)))
  else (
  bif x4 then (
  some (1 : Int))
  else (
  bif (decide (x1 < x2)) then (
  some (-1 : Int))
  else (
  bif (decide (x1 > x2)) then (
  some (1 : Int))
  else (
  some (0 : Int)))))

set_option maxRecDepth 100000 in
theorem F_cmp_Compare_int_ok (n : Nat)   : ∀ (x1 : Int) (x2 : Int) (r : Int), F_cmp_Compare_int n x1 x2 = some r → CallsF Tryd.prog 41 [PV.int .i64 x1, PV.int .i64 x2] (R_F_cmp_Compare_int r) := by
  intro x1 x2 r h
  unfold F_cmp_Compare_int at h
  refine CallsF.of_vcN mixed (fun _ _ => Tryd.call41 _ _) Tryd.func41 (by kernel_rfl) (inl := [1000000]) ?_
  conv => whnf
  replace h := bnd_some h
  obtain ⟨x3, h2, h⟩ := h
  refine ⟨_, (F_cmp_isNaN_int_ok n _  _ h2), ?_⟩
  conv => whnf
  replace h := bnd_some h
  obtain ⟨x4, h1, h⟩ := h
  refine ⟨_, (F_cmp_isNaN_int_ok n _  _ h1), ?_⟩
  conv => whnf
  refine ⟨fun hc => ?_, fun hc => ?_⟩
  · replace h := cond_t h hc
    conv => whnf
    refine ⟨fun hc => ?_, fun hc => ?_⟩
    · replace h := cond_t h hc
      obtain rfl := Option.some.inj h
      conv => whnf
      repeat (first | exact rfl | exact trivial | refine ⟨?_, ?_⟩)
    · replace h := cond_f h hc
      obtain rfl := Option.some.inj h
      conv => whnf
      repeat (first | exact rfl | exact trivial | refine ⟨?_, ?_⟩)
  · replace h := cond_f h hc
    conv => whnf
    refine ⟨fun hc => ?_, fun hc => ?_⟩
    · replace h := cond_t h hc
      obtain rfl := Option.some.inj h
      conv => whnf
      repeat (first | exact rfl | exact trivial | refine ⟨?_, ?_⟩)
    · replace h := cond_f h hc
      conv => whnf
      refine ⟨fun hc => ?_, fun hc => ?_⟩
      · replace h := cond_t h hc
        obtain rfl := Option.some.inj h
        conv => whnf
        repeat (first | exact rfl | exact trivial | refine ⟨?_, ?_⟩)
      · replace h := cond_f h hc
        conv => whnf
        refine ⟨fun hc => ?_, fun hc => ?_⟩
        · replace h := cond_t h hc
          obtain rfl := Option.some.inj h
          conv => whnf
          repeat (first | exact rfl | exact trivial | refine ⟨?_, ?_⟩)
        · replace h := cond_f h hc
          obtain rfl := Option.some.inj h
          conv => whnf
          repeat (first | exact rfl | exact trivial | refine ⟨?_, ?_⟩)

abbrev R_F_cmp_isNaN_string (r : Bool) : PV := PV.bool r

def F_cmp_isNaN_string (n : Nat)  (x1 : List UInt8) : Option (Bool) :=
  some (!(x1 == x1))

set_option maxRecDepth 100000 in
theorem F_cmp_isNaN_string_ok (n : Nat)   : ∀ (x1 : List UInt8) (r : Bool), F_cmp_isNaN_string n x1 = some r → CallsF Tryd.prog 62 [PV.str x1] (R_F_cmp_isNaN_string r) := by
  intro x1 r h
  unfold F_cmp_isNaN_string at h
  refine CallsF.of_vcN mixed (fun _ _ => Tryd.call62 _ _) Tryd.func62 (by kernel_rfl) (inl := [1000000]) ?_
  obtain rfl := Option.some.inj h
  conv => whnf
  repeat (first | exact rfl | exact trivial | refine ⟨?_, ?_⟩)

abbrev R_F_cmp_Compare_string (r : Int) : PV := PV.int .i64 r

def F_cmp_Compare_string (n : Nat)  (x1 : List UInt8) (x2 : List UInt8) : Option (Int) :=
  bnd (F_cmp_isNaN_string n x1) fun x3 =>
  bnd (F_cmp_isNaN_string n x2) fun x4 =>
  bif x3 then (
  bif x4 then (
  some (0 : Int))
  else (
  some (-1 : Int)))
  else (
  bif x4 then (
  some (1 : Int))
  else (
  bif (Op.bytesLess x1 x2) then (
  some (-1 : Int))
  else (
  bif (!(Op.bytesLess x1 x2 || x1 == x2)) then (
  some (1 : Int))
  else (
  some (0 : Int)))))

set_option maxRecDepth 100000 in
theorem F_cmp_Compare_string_ok (n : Nat)   : ∀ (x1 : List UInt8) (x2 : List UInt8) (r : Int), F_cmp_Compare_string n x1 x2 = some r → CallsF Tryd.prog 43 [PV.str x1, PV.str x2] (R_F_cmp_Compare_string r) := by
  intro x1 x2 r h
  unfold F_cmp_Compare_string at h
  refine CallsF.of_vcN mixed (fun _ _ => Tryd.call43 _ _) Tryd.func43 (by kernel_rfl) (inl := [1000000]) ?_
  conv => whnf
  replace h := bnd_some h
  obtain ⟨x3, h2, h⟩ := h
  refine ⟨_, (F_cmp_isNaN_string_ok n _  _ h2), ?_⟩
  conv => whnf
  replace h := bnd_some h
  obtain ⟨x4, h1, h⟩ := h
  refine ⟨_, (F_cmp_isNaN_string_ok n _  _ h1), ?_⟩
  conv => whnf
  refine ⟨fun hc => ?_, fun hc => ?_⟩
  · replace h := cond_t h hc
    conv => whnf
    refine ⟨fun hc => ?_, fun hc => ?_⟩
    · replace h := cond_t h hc
      obtain rfl := Option.some.inj h
      conv => whnf
      repeat (first | exact rfl | exact trivial | refine ⟨?_, ?_⟩)
    · replace h := cond_f h hc
      obtain rfl := Option.some.inj h
      conv => whnf
      repeat (first | exact rfl | exact trivial | refine ⟨?_, ?_⟩)
  · replace h := cond_f h hc
    conv => whnf
    refine ⟨fun hc => ?_, fun hc => ?_⟩
    · replace h := cond_t h hc
      obtain rfl := Option.some.inj h
      conv => whnf
      repeat (first | exact rfl | exact trivial | refine ⟨?_, ?_⟩)
    · replace h := cond_f h hc
      conv => whnf
      refine ⟨fun hc => ?_, fun hc => ?_⟩
      · replace h := cond_t h hc
        obtain rfl := Option.some.inj h
        conv => whnf
        repeat (first | exact rfl | exact trivial | refine ⟨?_, ?_⟩)
      · replace h := cond_f h hc
        conv => whnf
        refine ⟨fun hc => ?_, fun hc => ?_⟩
        · replace h := cond_t h hc
          obtain rfl := Option.some.inj h
          conv => whnf
          repeat (first | exact rfl | exact trivial | refine ⟨?_, ?_⟩)
        · replace h := cond_f h hc
          obtain rfl := Option.some.inj h
          conv => whnf
          repeat (first | exact rfl | exact trivial | refine ⟨?_, ?_⟩)

abbrev R_F_value_first_int (r : Int) : PV := PV.int .i64 r

def F_value_first_int_l1 (n : Nat) (x1 : List Int) : (Int → Option (Int)) → Int → Option (Int) := fun nx1 x2 =>
 bif (decide (x2 < (((intRows .i64 x1).length : Nat) : Int))) then (
 bnd (idx x1 x2) fun x3 =>
 bif (x3 != (0 : Int)) then (
 some x3)
else (
 nx1 (IntKind.i64.wrap (x2 + (1 : Int)))))
else (
 some (0 : Int))

def F_value_first_int (n : Nat)  (x1 : List Int) : Option (Int) :=
  loopK (F_value_first_int_l1 n x1) n (0 : Int)

set_option maxRecDepth 100000 in
theorem F_value_first_int_ok (n : Nat)   : ∀ (x1 : List Int) (r : Int), F_value_first_int n x1 = some r → CallsF Tryd.prog 44 [PV.sl (intRows .i64 x1)] (R_F_value_first_int r) := by
  intro x1 r h
  unfold F_value_first_int at h
  refine CallsF.of_vcN mixed (fun _ _ => Tryd.call44 _ _) Tryd.func44 (by kernel_rfl) (inl := [1000000]) ?_
  conv => whnf
  refine LoopA.fn [1000000] (S := Int) (fun x2 => [(3, .p (.int .i64 (0 : Int))), (6, .p (.sl (intRows .i64 x1))), (7, .p (.int .i64 (((intRows .i64 x1).length : Nat) : Int))), (8, .p (.int .i64 x2))]) (fun x2 => []) (B := F_value_first_int_l1 n x1) h ⟨[], [], ⟨rfl, rfl, rfl, rfl⟩, by repeat (first | exact trivial | exact .inl rfl | exact rfl | exact List.not_mem_nil | (refine .inr ?_) | (refine ⟨?_, ?_⟩) | exact List.length_set.symm | decide), by repeat (first | exact trivial | exact .inl rfl | exact rfl | exact List.not_mem_nil | (refine .inr ?_) | (refine ⟨?_, ?_⟩) | exact List.length_set.symm | decide)⟩ ?_
  intro nx1 x2 h
  unfold F_value_first_int_l1 at h
  conv => whnf
  refine ⟨fun hc => ?_, fun hc => ?_⟩
  · replace h := cond_t h hc
    conv => whnf
    replace h := bnd_some h
    obtain ⟨x3, h1, h⟩ := h
    refine ⟨_, Codec.at_ (intC .i64) h1, ?_⟩
    conv => whnf
    refine ⟨fun hc => ?_, fun hc => ?_⟩
    · replace h := cond_t h hc
      obtain rfl := Option.some.inj h
      conv => whnf
      repeat (first | exact rfl | exact trivial | refine ⟨?_, ?_⟩)
    · replace h := cond_f h hc
      conv => whnf
      exact ⟨(IntKind.i64.wrap (x2 + (1 : Int))), h, ⟨[], [], ⟨rfl, rfl, rfl, rfl⟩, by repeat (first | exact trivial | exact .inl rfl | exact rfl | exact List.not_mem_nil | (refine .inr ?_) | (refine ⟨?_, ?_⟩) | exact List.length_set.symm | decide), by repeat (first | exact trivial | exact .inl rfl | exact rfl | exact List.not_mem_nil | (refine .inr ?_) | (refine ⟨?_, ?_⟩) | exact List.length_set.symm | decide)⟩⟩
  · replace h := cond_f h hc
    obtain rfl := Option.some.inj h
    conv => whnf
    repeat (first | exact rfl | exact trivial | refine ⟨?_, ?_⟩)

abbrev R_F_value_number (r : Int) : PV := PV.int .i64 r

def F_value_number (n : Nat)  (x1 : Bool) : Option (Int) :=
  bif x1 then (
  some (1 : Int))
  else (
  some (0 : Int))

set_option maxRecDepth 100000 in
theorem F_value_number_ok (n : Nat)   : ∀ (x1 : Bool) (r : Int), F_value_number n x1 = some r → CallsF Tryd.prog 45 [PV.bool x1] (R_F_value_number r) := by
  intro x1 r h
  unfold F_value_number at h
  refine CallsF.of_vcN mixed (fun _ _ => Tryd.call45 _ _) Tryd.func45 (by kernel_rfl) (inl := [1000000]) ?_
  conv => whnf
  refine ⟨fun hc => ?_, fun hc => ?_⟩
  · replace h := cond_t h hc
    obtain rfl := Option.some.inj h
    conv => whnf
    repeat (first | exact rfl | exact trivial | refine ⟨?_, ?_⟩)
  · replace h := cond_f h hc
    obtain rfl := Option.some.inj h
    conv => whnf
    repeat (first | exact rfl | exact trivial | refine ⟨?_, ?_⟩)
end W
end
section
open Go Go.Proofs Ax
namespace W
abbrev R_F_cmp_isNaN_int64 (r : Bool) : PV := PV.bool r

def F_cmp_isNaN_int64 (n : Nat)  (x1 : Int) : Option (Bool) :=
  some (x1 != x1)

set_option maxRecDepth 100000 in
theorem F_cmp_isNaN_int64_ok (n : Nat)   : ∀ (x1 : Int) (r : Bool), F_cmp_isNaN_int64 n x1 = some r → CallsF Tryd.prog 63 [PV.int .i64 x1] (R_F_cmp_isNaN_int64 r) := by
  intro x1 r h
  unfold F_cmp_isNaN_int64 at h
  refine CallsF.of_vcN mixed (fun _ _ => Tryd.call63 _ _) Tryd.func63 (by kernel_rfl) (inl := [1000000]) ?_
  obtain rfl := Option.some.inj h
  conv => whnf
  repeat (first | exact rfl | exact trivial | refine ⟨?_, ?_⟩)

abbrev R_F_cmp_Compare_int64 (r : Int) : PV := PV.int .i64 r

def F_cmp_Compare_int64 (n : Nat)  (x1 : Int) (x2 : Int) : Option (Int) :=
  bnd (F_cmp_isNaN_int64 n x1) fun x3 =>
  bnd (F_cmp_isNaN_int64 n x2) fun x4 =>
  bif x3 then (
  bif x4 then (
  some (0 : Int))
  else (
  some (-1 : Int)))
  else (
  bif x4 then (
  some (1 : Int))
  else (
  bif (decide (x1 < x2)) then (
  some (-1 : Int))
  else (
  bif (decide (x1 > x2)) then (
  some (1 : Int))
  else (
  some (0 : Int)))))

set_option maxRecDepth 100000 in
theorem F_cmp_Compare_int64_ok (n : Nat)   : ∀ (x1 : Int) (x2 : Int) (r : Int), F_cmp_Compare_int64 n x1 x2 = some r → CallsF Tryd.prog 46 [PV.int .i64 x1, PV.int .i64 x2] (R_F_cmp_Compare_int64 r) := by
  intro x1 x2 r h
  unfold F_cmp_Compare_int64 at h
  refine CallsF.of_vcN mixed (fun _ _ => Tryd.call46 _ _) Tryd.func46 (by kernel_rfl) (inl := [1000000]) ?_
  conv => whnf
  replace h := bnd_some h
  obtain ⟨x3, h2, h⟩ := h
  refine ⟨_, (F_cmp_isNaN_int64_ok n _  _ h2), ?_⟩
  conv => whnf
  replace h := bnd_some h
  obtain ⟨x4, h1, h⟩ := h
  refine ⟨_, (F_cmp_isNaN_int64_ok n _  _ h1), ?_⟩
  conv => whnf
  refine ⟨fun hc => ?_, fun hc => ?_⟩
  · replace h := cond_t h hc
    conv => whnf
    refine ⟨fun hc => ?_, fun hc => ?_⟩
    · replace h := cond_t h hc
      obtain rfl := Option.some.inj h
      conv => whnf
      repeat (first | exact rfl | exact trivial | refine ⟨?_, ?_⟩)
    · replace h := cond_f h hc
      obtain rfl := Option.some.inj h
      conv => whnf
      repeat (first | exact rfl | exact trivial | refine ⟨?_, ?_⟩)
  · replace h := cond_f h hc
    conv => whnf
    refine ⟨fun hc => ?_, fun hc => ?_⟩
    · replace h := cond_t h hc
      obtain rfl := Option.some.inj h
      conv => whnf
      repeat (first | exact rfl | exact trivial | refine ⟨?_, ?_⟩)
    · replace h := cond_f h hc
      conv => whnf
      refine ⟨fun hc => ?_, fun hc => ?_⟩
      · replace h := cond_t h hc
        obtain rfl := Option.some.inj h
        conv => whnf
        repeat (first | exact rfl | exact trivial | refine ⟨?_, ?_⟩)
      · replace h := cond_f h hc
        conv => whnf
        refine ⟨fun hc => ?_, fun hc => ?_⟩
        · replace h := cond_t h hc
          obtain rfl := Option.some.inj h
          conv => whnf
          repeat (first | exact rfl | exact trivial | refine ⟨?_, ?_⟩)
        · replace h := cond_f h hc
          obtain rfl := Option.some.inj h
          conv => whnf
          repeat (first | exact rfl | exact trivial | refine ⟨?_, ?_⟩)

abbrev R_F_value_Order (r : Int) : PV := PV.int .i64 r

def F_value_Order_k3 (n : Nat) (x5 : List Val) (x16 : Int) (x11 : List Val) (g21 : Val → Val → Option (Int)) (nx1 : Int → Option (Int)) : Int → Option (Int) := fun x17 =>
 bnd (idx x5 x16) fun ⟨x18, x19, x20, x21, x22, x23⟩ =>
 bnd (idx x11 x16) fun ⟨x24, x25, x26, x27, x28, x29⟩ =>
 bnd (g21 (Val.mk x18 x19 x20 x21 x22 x23) (Val.mk x24 x25 x26 x27 x28 x29)) fun x30 =>
 bnd (F_value_first_int n [x17, x30]) fun x31 =>
 bif (x31 != (0 : Int)) then (
 some x31)
else (
 nx1 (IntKind.i64.wrap (x16 + (1 : Int))))

def F_value_Order_l1 (n : Nat) (x5 : List Val) (x11 : List Val) (x1 : Int) (x6 : List (List UInt8)) (x12 : List (List UInt8)) (g21 : Val → Val → Option (Int)) (x2 : Bool) (x8 : Bool) (x3 : Int) (x9 : Int) (x4 : List UInt8) (x10 : List UInt8) : (Int → Option (Int)) → Int → Option (Int) := fun nx1 x16 =>
 bif (bif (decide (x16 < (((Val.rows x5).length : Nat) : Int))) then (decide (x16 < (((Val.rows x11).length : Nat) : Int))) else false) then (
 bif (x1 == (5 : Int)) then (
 bnd (idx x6 x16) fun x32 =>
 bnd (idx x12 x16) fun x33 =>
 bnd (F_cmp_Compare_string n x32 x33) fun x34 =>
 F_value_Order_k3 n x5 x16 x11 g21 nx1 x34)
else (
 F_value_Order_k3 n x5 x16 x11 g21 nx1 (0 : Int)))
else (
 bnd (F_cmp_Compare_int n (((Val.rows x5).length : Nat) : Int) (((Val.rows x11).length : Nat) : Int)) fun x35 =>
 bnd (F_value_number n x2) fun x36 =>
 bnd (F_value_number n x8) fun x37 =>
 bnd (F_cmp_Compare_int n x36 x37) fun x38 =>
 bnd (F_cmp_Compare_int64 n x3 x9) fun x39 =>
 bnd (F_cmp_Compare_string n x4 x10) fun x40 =>
 bnd (F_value_first_int n [x35, x38, x39, x40]) fun x41 =>
 some x41)

def BF_value_Order (n : Nat) (g21 : Val → Val → Option (Int)) (a0_ : Val) (a1_ : Val) : Option (Int) :=
  match a0_, a1_ with
  | ⟨x1, x2, x3, x4, x5, x6⟩, ⟨x7, x8, x9, x10, x11, x12⟩ =>
  bif (x1 != x7) then (
  bnd (F_value_place n (IntKind.i64.wrap (((BitVec.ofInt IntKind.i64.bits x1 &&& BitVec.ofInt IntKind.i64.bits (7 : Int)).toNat : Nat) : Int))) fun x13 =>
  bnd (F_value_place n (IntKind.i64.wrap (((BitVec.ofInt IntKind.i64.bits x7 &&& BitVec.ofInt IntKind.i64.bits (7 : Int)).toNat : Nat) : Int))) fun x14 =>
  bnd (F_cmp_Compare_int n x13 x14) fun x15 =>
  some x15)
  else (
  loopK (F_value_Order_l1 n x5 x11 x1 x6 x12 g21 x2 x8 x3 x9 x4 x10) n (0 : Int))

set_option maxHeartbeats 4000000 in
set_option maxRecDepth 100000 in
theorem BF_value_Order_ok (n : Nat) (g21 : Val → Val → Option (Int)) (g21_ok : ∀ (a0_ : Val) (a1_ : Val) (r : Int), g21 a0_ a1_ = some r → CallsF Tryd.prog 21 [PV.agg (valC.cells a0_), PV.agg (valC.cells a1_)] (R_F_value_Order r)) : ∀ (a0_ : Val) (a1_ : Val) (r : Int), BF_value_Order n g21 a0_ a1_ = some r → CallsF Tryd.prog 21 [PV.agg (valC.cells a0_), PV.agg (valC.cells a1_)] (R_F_value_Order r) := by
  intro a0_ a1_ r h
  obtain ⟨x1, x2, x3, x4, x5, x6⟩ := a0_
  obtain ⟨x7, x8, x9, x10, x11, x12⟩ := a1_
  unfold BF_value_Order at h
  refine CallsF.of_vcN mixed (fun _ _ => Tryd.call21 _ _) Tryd.func21 (by kernel_rfl) (inl := [1000000]) ?_
  conv => whnf
  refine ⟨fun hc => ?_, fun hc => ?_⟩
  · replace h := cond_t h hc
    conv => whnf
    replace h := bnd_some h
    obtain ⟨x13, h3, h⟩ := h
    refine ⟨_, (F_value_place_ok n _  _ h3), ?_⟩
    conv => whnf
    replace h := bnd_some h
    obtain ⟨x14, h2, h⟩ := h
    refine ⟨_, (F_value_place_ok n _  _ h2), ?_⟩
    conv => whnf
    replace h := bnd_some h
    obtain ⟨x15, h1, h⟩ := h
    refine ⟨_, (F_cmp_Compare_int_ok n _ _  _ h1), ?_⟩
    obtain rfl := Option.some.inj h
    conv => whnf
    repeat (first | exact rfl | exact trivial | refine ⟨?_, ?_⟩)
  · replace h := cond_f h hc
    conv => whnf
    refine LoopA.fn [1000000] (S := Int) (fun x16 => [(2, .ptr 0 0), (3, .ptr 1 0), (5, .p (.int .i64 x16))]) (fun x16 => [.box 40 [.p (.int .i64 x1), .p (.bool x2), .p (.int .i64 x3), .p (.str x4), .p (.sl (Val.rows x5)), .p (.sl (strs x6))], .box 40 [.p (.int .i64 x7), .p (.bool x8), .p (.int .i64 x9), .p (.str x10), .p (.sl (Val.rows x11)), .p (.sl (strs x12))]]) (B := F_value_Order_l1 n x5 x11 x1 x6 x12 g21 x2 x8 x3 x9 x4 x10) h ⟨[0, 1], [], ⟨rfl, rfl, rfl, rfl⟩, by repeat (first | exact trivial | exact .inl rfl | exact rfl | exact List.not_mem_nil | (refine .inr ?_) | (refine ⟨?_, ?_⟩) | exact List.length_set.symm | decide), by repeat (first | exact trivial | exact .inl rfl | exact rfl | exact List.not_mem_nil | (refine .inr ?_) | (refine ⟨?_, ?_⟩) | exact List.length_set.symm | decide)⟩ ?_
    intro nx1 x16 h
    unfold F_value_Order_l1 at h
    conv => whnf
    iterate 5 (refine And.intro (fun h => h) ?_)
    conv => whnf
    refine ⟨fun hc => ?_, fun hc => ?_⟩
    · replace h := cond_t h hc
      conv => whnf
      refine SeqA.cut (S := Int) (fun x17 => [(2, .ptr 0 0), (3, .ptr 1 0), (5, .p (.int .i64 x16)), (6, .p (.int .i64 x17))]) (fun x17 => [.box 40 [.p (.int .i64 x1), .p (.bool x2), .p (.int .i64 x3), .p (.str x4), .p (.sl (Val.rows x5)), .p (.sl (strs x6))], .box 40 [.p (.int .i64 x7), .p (.bool x8), .p (.int .i64 x9), .p (.str x10), .p (.sl (Val.rows x11)), .p (.sl (strs x12))]]) (F_value_Order_k3 n x5 x16 x11 g21 nx1) (r := r) ?_ ?_
      · intro x17 h
        unfold F_value_Order_k3 at h
        conv => whnf
        replace h := bnd_some h
        obtain ⟨⟨x18, x19, x20, x21, x22, x23⟩, h7, h⟩ := h
        refine ⟨_, Codec.at_ valC h7, ?_⟩
        conv => whnf
        replace h := bnd_some h
        obtain ⟨⟨x24, x25, x26, x27, x28, x29⟩, h6, h⟩ := h
        refine ⟨_, Codec.at_ valC h6, ?_⟩
        conv => whnf
        replace h := bnd_some h
        obtain ⟨x30, h5, h⟩ := h
        refine ⟨_, (g21_ok _ _  _ h5), ?_⟩
        conv => whnf
        refine ⟨Codec.one (intC .i64) [x17, x30], intRows .i64 [x17, x30], .inl rfl, ?_⟩
        conv => whnf
        replace h := bnd_some h
        obtain ⟨x31, h4, h⟩ := h
        refine ⟨_, (F_value_first_int_ok n _  _ h4), ?_⟩
        conv => whnf
        refine ⟨fun hc => ?_, fun hc => ?_⟩
        · replace h := cond_t h hc
          obtain rfl := Option.some.inj h
          conv => whnf
          repeat (first | exact rfl | exact trivial | refine ⟨?_, ?_⟩)
        · replace h := cond_f h hc
          conv => whnf
          exact ⟨(IntKind.i64.wrap (x16 + (1 : Int))), h, ⟨[0, 1], [], ⟨rfl, rfl, rfl, rfl⟩, by repeat (first | exact trivial | exact .inl rfl | exact rfl | exact List.not_mem_nil | (refine .inr ?_) | (refine ⟨?_, ?_⟩) | exact List.length_set.symm | decide), by repeat (first | exact trivial | exact .inl rfl | exact rfl | exact List.not_mem_nil | (refine .inr ?_) | (refine ⟨?_, ?_⟩) | exact List.length_set.symm | decide)⟩⟩
      · conv => whnf
        refine ⟨fun hc => ?_, fun hc => ?_⟩
        · replace h := cond_t h hc
          conv => whnf
          replace h := bnd_some h
          obtain ⟨x32, h10, h⟩ := h
          refine ⟨_, Codec.at_ strC h10, ?_⟩
          conv => whnf
          replace h := bnd_some h
          obtain ⟨x33, h9, h⟩ := h
          refine ⟨_, Codec.at_ strC h9, ?_⟩
          conv => whnf
          replace h := bnd_some h
          obtain ⟨x34, h8, h⟩ := h
          refine ⟨_, (F_cmp_Compare_string_ok n _ _  _ h8), ?_⟩
          conv => whnf
          exact ⟨x34, h, ⟨[0, 1], [], ⟨rfl, rfl, rfl, rfl⟩, by repeat (first | exact trivial | exact .inl rfl | exact rfl | exact List.not_mem_nil | (refine .inr ?_) | (refine ⟨?_, ?_⟩) | exact List.length_set.symm | decide), by repeat (first | exact trivial | exact .inl rfl | exact rfl | exact List.not_mem_nil | (refine .inr ?_) | (refine ⟨?_, ?_⟩) | exact List.length_set.symm | decide)⟩⟩
        · replace h := cond_f h hc
          conv => whnf
          exact ⟨(0 : Int), h, ⟨[0, 1], [], ⟨rfl, rfl, rfl, rfl⟩, by repeat (first | exact trivial | exact .inl rfl | exact rfl | exact List.not_mem_nil | (refine .inr ?_) | (refine ⟨?_, ?_⟩) | exact List.length_set.symm | decide), by repeat (first | exact trivial | exact .inl rfl | exact rfl | exact List.not_mem_nil | (refine .inr ?_) | (refine ⟨?_, ?_⟩) | exact List.length_set.symm | decide)⟩⟩
    · replace h := cond_f h hc
      conv => whnf
      replace h := bnd_some h
      obtain ⟨x35, h17, h⟩ := h
      refine ⟨_, (F_cmp_Compare_int_ok n _ _  _ h17), ?_⟩
      conv => whnf
      replace h := bnd_some h
      obtain ⟨x36, h16, h⟩ := h
      refine ⟨_, (F_value_number_ok n _  _ h16), ?_⟩
      conv => whnf
      replace h := bnd_some h
      obtain ⟨x37, h15, h⟩ := h
      refine ⟨_, (F_value_number_ok n _  _ h15), ?_⟩
      conv => whnf
      replace h := bnd_some h
      obtain ⟨x38, h14, h⟩ := h
      refine ⟨_, (F_cmp_Compare_int_ok n _ _  _ h14), ?_⟩
      conv => whnf
      replace h := bnd_some h
      obtain ⟨x39, h13, h⟩ := h
      refine ⟨_, (F_cmp_Compare_int64_ok n _ _  _ h13), ?_⟩
      conv => whnf
      replace h := bnd_some h
      obtain ⟨x40, h12, h⟩ := h
      refine ⟨_, (F_cmp_Compare_string_ok n _ _  _ h12), ?_⟩
      conv => whnf
      refine ⟨Codec.one (intC .i64) [x35, x38, x39, x40], intRows .i64 [x35, x38, x39, x40], .inl rfl, ?_⟩
      conv => whnf
      replace h := bnd_some h
      obtain ⟨x41, h11, h⟩ := h
      refine ⟨_, (F_value_first_int_ok n _  _ h11), ?_⟩
      obtain rfl := Option.some.inj h
      conv => whnf
      repeat (first | exact rfl | exact trivial | refine ⟨?_, ?_⟩)

def F_value_Order : Nat → Val → Val → Option (Int)
  | 0 => fun _ _ => none
  | n + 1 => BF_value_Order n (F_value_Order n)

set_option maxRecDepth 100000 in
theorem F_value_Order_all (n : Nat) : (∀ (a0_ : Val) (a1_ : Val) (r : Int), F_value_Order n a0_ a1_ = some r → CallsF Tryd.prog 21 [PV.agg (valC.cells a0_), PV.agg (valC.cells a1_)] (R_F_value_Order r)) := by
  induction n with
  | zero => exact (by intros; rename_i h; cases h)
  | succ n ih =>
    have hg21 := ih
    exact BF_value_Order_ok n (F_value_Order n) hg21

set_option maxRecDepth 100000 in
theorem F_value_Order_ok (n : Nat) : ∀ (a0_ : Val) (a1_ : Val) (r : Int), F_value_Order n a0_ a1_ = some r → CallsF Tryd.prog 21 [PV.agg (valC.cells a0_), PV.agg (valC.cells a1_)] (R_F_value_Order r) := (F_value_Order_all n)

abbrev R_F_rows_Sort_c1 (r : Int) : PV := PV.int .i64 r

def F_rows_Sort_c1_l1 (n : Nat) (x4 : List Bool) (x3 : List (List Val)) (x1 : Int) (x2 : Int) : (Int → Option (Int)) → Int → Option (Int) := fun nx1 x5 =>
 bnd (gsome (decide (x5 < (((boolRows x4).length : Nat) : Int))) (idx x3 x1)) fun x6 =>
 bnd (gsome (bif (decide (x5 < (((boolRows x4).length : Nat) : Int))) then (decide (x5 < (((Val.rows x6).length : Nat) : Int))) else false) (idx x3 x2)) fun x7 =>
 bif (bif (bif (decide (x5 < (((boolRows x4).length : Nat) : Int))) then (decide (x5 < (((Val.rows x6).length : Nat) : Int))) else false) then (decide (x5 < (((Val.rows x7).length : Nat) : Int))) else false) then (
 bnd (idx x3 x1) fun x8 =>
 bnd (idx x8 x5) fun ⟨x9, x10, x11, x12, x13, x14⟩ =>
 bnd (idx x3 x2) fun x15 =>
 bnd (idx x15 x5) fun ⟨x16, x17, x18, x19, x20, x21⟩ =>
 bnd (F_value_Order n (Val.mk x9 x10 x11 x12 x13 x14) (Val.mk x16 x17 x18 x19 x20 x21)) fun x22 =>
 bnd (gsome (x22 != (0 : Int)) (idx x4 x5)) fun x23 =>
 bif (bif (x22 != (0 : Int)) then x23 else false) then (
 some (IntKind.i64.wrap (0 - x22)))
else (
 bif (x22 != (0 : Int)) then (
 some x22)
else (
 nx1 (IntKind.i64.wrap (x5 + (1 : Int))))))
else (
 some (0 : Int))

def F_rows_Sort_c1 (n : Nat)  (x1 : Int) (x2 : Int) (x3 : List (List Val)) (x4 : List Bool) : Option (Int) :=
  bif (bif (decide (x1 ≥ (((slRows valC x3).length : Nat) : Int))) then true else (decide (x2 ≥ (((slRows valC x3).length : Nat) : Int)))) then (
  some (0 : Int))
  else (
  loopK (F_rows_Sort_c1_l1 n x4 x3 x1 x2) n (0 : Int))

set_option maxHeartbeats 4000000 in
set_option maxRecDepth 100000 in
theorem F_rows_Sort_c1_ok (n : Nat)   : ∀ (x1 : Int) (x2 : Int) (x3 : List (List Val)) (x4 : List Bool) (r : Int), F_rows_Sort_c1 n x1 x2 x3 x4 = some r → CallsF Tryd.prog 39 [PV.int .i64 x1, PV.int .i64 x2, PV.hp [PV.sl (slRows valC x3)], PV.hp [PV.sl (boolRows x4)]] (R_F_rows_Sort_c1 r) := by
  intro x1 x2 x3 x4 r h
  unfold F_rows_Sort_c1 at h
  refine CallsF.of_vcN mixed (fun _ _ => Tryd.call39 _ _) Tryd.func39 (by kernel_rfl) (inl := [1000000]) ?_
  conv => whnf
  iterate 4 (refine And.intro (fun h => h) ?_)
  conv => whnf
  refine ⟨fun hc => ?_, fun hc => ?_⟩
  · replace h := cond_t h hc
    obtain rfl := Option.some.inj h
    conv => whnf
    repeat (first | exact rfl | exact trivial | refine ⟨?_, ?_⟩)
  · replace h := cond_f h hc
    conv => whnf
    refine LoopA.fn [1000000] (S := Int) (fun x5 => [(0, .p (.int .i64 x1)), (1, .p (.int .i64 x2)), (2, .hptr [PV.sl (slRows valC x3)]), (3, .hptr [PV.sl (boolRows x4)]), (7, .p (.int .i64 x5))]) (fun x5 => []) (B := F_rows_Sort_c1_l1 n x4 x3 x1 x2) h ⟨[], [], ⟨rfl, rfl, rfl, rfl⟩, by repeat (first | exact trivial | exact .inl rfl | exact rfl | exact List.not_mem_nil | (refine .inr ?_) | (refine ⟨?_, ?_⟩) | exact List.length_set.symm | decide), by repeat (first | exact trivial | exact .inl rfl | exact rfl | exact List.not_mem_nil | (refine .inr ?_) | (refine ⟨?_, ?_⟩) | exact List.length_set.symm | decide)⟩ ?_
    intro nx1 x5 h
    unfold F_rows_Sort_c1_l1 at h
    conv => whnf
    iterate 2 (refine And.intro (fun h => h) ?_)
    conv => whnf
    replace h := bnd_some h
    obtain ⟨x6, h8, h⟩ := h
    refine ⟨_, fun hg => Codec.at_ (slC valC) (gsome_some h8 hg), ?_⟩
    conv => whnf
    iterate 7 (refine And.intro (fun h => h) ?_)
    conv => whnf
    replace h := bnd_some h
    obtain ⟨x7, h7, h⟩ := h
    refine ⟨_, fun hg => Codec.at_ (slC valC) (gsome_some h7 hg), ?_⟩
    conv => whnf
    iterate 5 (refine And.intro (fun h => h) ?_)
    conv => whnf
    refine ⟨fun hc => ?_, fun hc => ?_⟩
    · replace h := cond_t h hc
      conv => whnf
      replace h := bnd_some h
      obtain ⟨x8, h6, h⟩ := h
      refine ⟨_, Codec.at_ (slC valC) h6, ?_⟩
      conv => whnf
      replace h := bnd_some h
      obtain ⟨⟨x9, x10, x11, x12, x13, x14⟩, h5, h⟩ := h
      refine ⟨_, Codec.at_ valC h5, ?_⟩
      conv => whnf
      replace h := bnd_some h
      obtain ⟨x15, h4, h⟩ := h
      refine ⟨_, Codec.at_ (slC valC) h4, ?_⟩
      conv => whnf
      replace h := bnd_some h
      obtain ⟨⟨x16, x17, x18, x19, x20, x21⟩, h3, h⟩ := h
      refine ⟨_, Codec.at_ valC h3, ?_⟩
      conv => whnf
      replace h := bnd_some h
      obtain ⟨x22, h2, h⟩ := h
      refine ⟨_, (F_value_Order_ok n _ _  _ h2), ?_⟩
      conv => whnf
      iterate 2 (refine And.intro (fun h => h) ?_)
      conv => whnf
      replace h := bnd_some h
      obtain ⟨x23, h1, h⟩ := h
      refine ⟨_, fun hg => Codec.at_ boolC (gsome_some h1 hg), ?_⟩
      conv => whnf
      iterate 2 (refine And.intro (fun h => h) ?_)
      conv => whnf
      refine ⟨fun hc => ?_, fun hc => ?_⟩
      · replace h := cond_t h hc
        obtain rfl := Option.some.inj h
        conv => whnf
        repeat (first | exact rfl | exact trivial | refine ⟨?_, ?_⟩)
      · replace h := cond_f h hc
        conv => whnf
        refine ⟨fun hc => ?_, fun hc => ?_⟩
        · replace h := cond_t h hc
          obtain rfl := Option.some.inj h
          conv => whnf
          repeat (first | exact rfl | exact trivial | refine ⟨?_, ?_⟩)
        · replace h := cond_f h hc
          conv => whnf
          exact ⟨(IntKind.i64.wrap (x5 + (1 : Int))), h, ⟨[], [], ⟨rfl, rfl, rfl, rfl⟩, by repeat (first | exact trivial | exact .inl rfl | exact rfl | exact List.not_mem_nil | (refine .inr ?_) | (refine ⟨?_, ?_⟩) | exact List.length_set.symm | decide), by repeat (first | exact trivial | exact .inl rfl | exact rfl | exact List.not_mem_nil | (refine .inr ?_) | (refine ⟨?_, ?_⟩) | exact List.length_set.symm | decide)⟩⟩
    · replace h := cond_f h hc
      obtain rfl := Option.some.inj h
      conv => whnf
      repeat (first | exact rfl | exact trivial | refine ⟨?_, ?_⟩)

abbrev R_F_slices_insertionSortCmpFunc_int__rows_Sort_c1 (x6 : List Int) (r : (List Int)) : FV := .p (.tup [])

abbrev L_F_slices_insertionSortCmpFunc_int__rows_Sort_c1 (x6 : List Int) (r : (List Int)) : List AObj := [.vec 3 1 (intRows .i64 r)]

def F_slices_insertionSortCmpFunc_int__rows_Sort_c1_l2 (n : Nat) (x2 : Int) (x1 : Nat) (x4 : List (List Val)) (x5 : List Bool) (nx1 : Int × List Int → Option ((List Int))) (x7 : Int) : (Int × List Int → Option ((List Int))) → Int × List Int → Option ((List Int)) := fun nx2 (x9, x10) =>
 bnd (gsome (decide (x9 > x2)) (natI x9)) fun x11 =>
 chk (bif (decide (x9 > x2)) then decide (x11 < x1) else true) (
 bnd (gsome (decide (x9 > x2)) (x10[x11]?)) fun x12 =>
 bnd (gsome (decide (x9 > x2)) (natI (IntKind.i64.wrap (x9 - (1 : Int))))) fun x13 =>
 chk (bif (decide (x9 > x2)) then decide (x13 < x1) else true) (
 bnd (gsome (decide (x9 > x2)) (x10[x13]?)) fun x14 =>
 bnd (gsome (decide (x9 > x2)) (F_rows_Sort_c1 n x12 x14 x4 x5)) fun x15 =>
 bif (bif (decide (x9 > x2)) then (decide (x15 < (0 : Int))) else false) then (
 bnd (natI (IntKind.i64.wrap (x9 - (1 : Int)))) fun x16 =>
 chk (decide (x16 < x1)) (
 bnd (x10[x16]?) fun x17 =>
 bnd (natI x9) fun x18 =>
 chk (decide (x18 < x1)) (
 bnd (x10[x18]?) fun x19 =>
 bnd (natI x9) fun x20 =>
 chk (decide (x20 < x1)) (
 bnd (x10[x20]?) fun x21 =>
 bnd (natI (IntKind.i64.wrap (x9 - (1 : Int)))) fun x22 =>
 chk (decide (x22 < x1)) (
 bnd ((x10.set x20 x17)[x22]?) fun x23 =>
 nx2 ((IntKind.i64.wrap (x9 - (1 : Int))), ((x10.set x20 x17).set x22 x19)))))))
else (
 nx1 ((IntKind.i64.wrap (x7 + (1 : Int))), x10))))

def F_slices_insertionSortCmpFunc_int__rows_Sort_c1_l1 (n : Nat) (x3 : Int) (x2 : Int) (x1 : Nat) (x4 : List (List Val)) (x5 : List Bool) : (Int × List Int → Option ((List Int))) → Int × List Int → Option ((List Int)) := fun nx1 (x7, x8) =>
 bif (decide (x7 < x3)) then (
 loopK (F_slices_insertionSortCmpFunc_int__rows_Sort_c1_l2 n x2 x1 x4 x5 nx1 x7) n (x7, x8))
else (
 some x8)

def F_slices_insertionSortCmpFunc_int__rows_Sort_c1 (n : Nat)  (x1 : Nat) (x2 : Int) (x3 : Int) (x4 : List (List Val)) (x5 : List Bool) (x6 : List Int) : Option ((List Int)) :=
  loopK (F_slices_insertionSortCmpFunc_int__rows_Sort_c1_l1 n x3 x2 x1 x4 x5) n ((IntKind.i64.wrap (x2 + (1 : Int))), x6)

set_option maxHeartbeats 4000000 in
set_option maxRecDepth 100000 in
theorem F_slices_insertionSortCmpFunc_int__rows_Sort_c1_ok (n : Nat)   : ∀ (x1 : Nat) (x2 : Int) (x3 : Int) (x4 : List (List Val)) (x5 : List Bool) (x6 : List Int) (r : (List Int)), F_slices_insertionSortCmpFunc_int__rows_Sort_c1 n x1 x2 x3 x4 x5 x6 = some r → CallsO Tryd.prog 73 [.vsl 0 x1, .p (PV.int .i64 x2), .p (PV.int .i64 x3), .p (PV.clo 39 [PV.hp [PV.sl (slRows valC x4)], PV.hp [PV.sl (boolRows x5)]])] [.vec 3 1 (intRows .i64 x6)] 1 (fun v lo => v = R_F_slices_insertionSortCmpFunc_int__rows_Sort_c1 x6 r ∧ lo = L_F_slices_insertionSortCmpFunc_int__rows_Sort_c1 x6 r) := by
  intro x1 x2 x3 x4 x5 x6 r h
  unfold F_slices_insertionSortCmpFunc_int__rows_Sort_c1 at h
  refine CallsO.of_vc mixed (fun _ _ => Tryd.call73 _ _) Tryd.func73 (by kernel_rfl) (inl := [1000000]) (Nat.le_of_ble_eq_true rfl) ?_
  conv => whnf
  refine LoopA.fn [1000000] (S := Int × List Int) (fun (x7, x8) => [(0, .vsl 0 x1), (1, .p (.int .i64 x2)), (2, .p (.int .i64 x3)), (3, .p (.clo 39 [PV.hp [PV.sl (slRows valC x4)], PV.hp [PV.sl (boolRows x5)]])), (8, .p (.int .i64 x7))]) (fun (x7, x8) => [.vec 3 1 (intRows .i64 x8)]) (B := F_slices_insertionSortCmpFunc_int__rows_Sort_c1_l1 n x3 x2 x1 x4 x5) h ⟨[0], [], ⟨rfl, rfl, rfl, rfl⟩, by repeat (first | exact trivial | exact .inl rfl | exact rfl | exact List.not_mem_nil | (refine .inr ?_) | (refine ⟨?_, ?_⟩) | exact List.length_set.symm | decide), by repeat (first | exact trivial | exact .inl rfl | exact rfl | exact List.not_mem_nil | (refine .inr ?_) | (refine ⟨?_, ?_⟩) | exact List.length_set.symm | decide)⟩ ?_
  intro nx1 st h
  obtain ⟨x7, x8⟩ := st
  unfold F_slices_insertionSortCmpFunc_int__rows_Sort_c1_l1 at h
  conv => whnf
  refine ⟨fun hc => ?_, fun hc => ?_⟩
  · replace h := cond_t h hc
    conv => whnf
    refine LoopA.fn [1000000] (S := Int × List Int) (fun (x9, x10) => [(0, .vsl 0 x1), (1, .p (.int .i64 x2)), (2, .p (.int .i64 x3)), (3, .p (.clo 39 [PV.hp [PV.sl (slRows valC x4)], PV.hp [PV.sl (boolRows x5)]])), (8, .p (.int .i64 x7)), (9, .p (.int .i64 x9))]) (fun (x9, x10) => [.vec 3 1 (intRows .i64 x10)]) (B := F_slices_insertionSortCmpFunc_int__rows_Sort_c1_l2 n x2 x1 x4 x5 nx1 x7) h ⟨[0], [], ⟨rfl, rfl, rfl, rfl⟩, by repeat (first | exact trivial | exact .inl rfl | exact rfl | exact List.not_mem_nil | (refine .inr ?_) | (refine ⟨?_, ?_⟩) | exact List.length_set.symm | decide), by repeat (first | exact trivial | exact .inl rfl | exact rfl | exact List.not_mem_nil | (refine .inr ?_) | (refine ⟨?_, ?_⟩) | exact List.length_set.symm | decide)⟩ ?_
    intro nx2 st h
    obtain ⟨x9, x10⟩ := st
    unfold F_slices_insertionSortCmpFunc_int__rows_Sort_c1_l2 at h
    conv => whnf
    iterate 2 (refine And.intro (fun h => h) ?_)
    conv => whnf
    replace h := bnd_some h
    obtain ⟨x11, h1, h⟩ := h
    obtain ⟨h2, h⟩ := chk_some h
    refine ⟨x11, fun hg => ⟨natI_some (gsome_some h1 hg), of_decide_eq_true (gd h2 hg)⟩, ?_⟩
    conv => whnf
    refine And.intro (fun h => h) ?_
    conv => whnf
    replace h := bnd_some h
    obtain ⟨x12, h19, h⟩ := h
    refine ⟨_, fun hg => ⟨rfl, Codec.getN (intC .i64) (gsome_some h19 hg)⟩, ?_⟩
    conv => whnf
    iterate 3 (refine And.intro (fun h => h) ?_)
    conv => whnf
    replace h := bnd_some h
    obtain ⟨x13, h3, h⟩ := h
    obtain ⟨h4, h⟩ := chk_some h
    refine ⟨x13, fun hg => ⟨natI_some (gsome_some h3 hg), of_decide_eq_true (gd h4 hg)⟩, ?_⟩
    conv => whnf
    refine And.intro (fun h => h) ?_
    conv => whnf
    replace h := bnd_some h
    obtain ⟨x14, h18, h⟩ := h
    refine ⟨_, fun hg => ⟨rfl, Codec.getN (intC .i64) (gsome_some h18 hg)⟩, ?_⟩
    conv => whnf
    iterate 3 (refine And.intro (fun h => h) ?_)
    conv => whnf
    replace h := bnd_some h
    obtain ⟨x15, h17, h⟩ := h
    refine ⟨_, fun hg => (F_rows_Sort_c1_ok n _ _ _ _  _ (gsome_some h17 hg)), ?_⟩
    conv => whnf
    iterate 2 (refine And.intro (fun h => h) ?_)
    conv => whnf
    refine ⟨fun hc => ?_, fun hc => ?_⟩
    · replace h := cond_t h hc
      conv => whnf
      replace h := bnd_some h
      obtain ⟨x16, h16, h⟩ := h
      have hj := natI_some h16
      conv => whnf
      obtain ⟨h15, h⟩ := chk_some h
      refine ⟨x16, ⟨hj, of_decide_eq_true h15⟩, ?_⟩
      conv => whnf
      replace h := bnd_some h
      obtain ⟨x17, h14, h⟩ := h
      refine ⟨_, ⟨rfl, Codec.getN (intC .i64) h14⟩, ?_⟩
      conv => whnf
      replace h := bnd_some h
      obtain ⟨x18, h13, h⟩ := h
      have hj := natI_some h13
      conv => whnf
      obtain ⟨h12, h⟩ := chk_some h
      refine ⟨x18, ⟨hj, of_decide_eq_true h12⟩, ?_⟩
      conv => whnf
      replace h := bnd_some h
      obtain ⟨x19, h11, h⟩ := h
      refine ⟨_, ⟨rfl, Codec.getN (intC .i64) h11⟩, ?_⟩
      conv => whnf
      replace h := bnd_some h
      obtain ⟨x20, h10, h⟩ := h
      have hj := natI_some h10
      conv => whnf
      obtain ⟨h9, h⟩ := chk_some h
      refine ⟨x20, ⟨hj, of_decide_eq_true h9⟩, ?_⟩
      conv => whnf
      replace h := bnd_some h
      obtain ⟨x21, h8, h⟩ := h
      refine ⟨_, ⟨rfl, Codec.getN (intC .i64) h8, rfl⟩, ?_⟩
      conv => whnf
      refine ⟨_, Codec.setN (intC .i64) x10 x20 x17, ?_⟩
      conv => whnf
      replace h := bnd_some h
      obtain ⟨x22, h7, h⟩ := h
      have hj := natI_some h7
      conv => whnf
      obtain ⟨h6, h⟩ := chk_some h
      refine ⟨x22, ⟨hj, of_decide_eq_true h6⟩, ?_⟩
      conv => whnf
      replace h := bnd_some h
      obtain ⟨x23, h5, h⟩ := h
      refine ⟨_, ⟨rfl, Codec.getN (intC .i64) h5, rfl⟩, ?_⟩
      conv => whnf
      refine ⟨_, Codec.setN (intC .i64) (x10.set x20 x17) x22 x19, ?_⟩
      conv => whnf
      exact ⟨((IntKind.i64.wrap (x9 - (1 : Int))), ((x10.set x20 x17).set x22 x19)), h, ⟨[0], [], ⟨rfl, rfl, rfl, rfl⟩, by repeat (first | exact trivial | exact .inl rfl | exact rfl | exact List.not_mem_nil | (refine .inr ?_) | (refine ⟨?_, ?_⟩) | exact List.length_set.symm | decide), by repeat (first | exact trivial | exact .inl rfl | exact rfl | exact List.not_mem_nil | (refine .inr ?_) | (refine ⟨?_, ?_⟩) | exact List.length_set.symm | decide)⟩⟩
    · replace h := cond_f h hc
      conv => whnf
      exact ⟨((IntKind.i64.wrap (x7 + (1 : Int))), x10), h, ⟨[0], [], ⟨rfl, rfl, rfl, rfl⟩, by repeat (first | exact trivial | exact .inl rfl | exact rfl | exact List.not_mem_nil | (refine .inr ?_) | (refine ⟨?_, ?_⟩) | exact List.length_set.symm | decide), by repeat (first | exact trivial | exact .inl rfl | exact rfl | exact List.not_mem_nil | (refine .inr ?_) | (refine ⟨?_, ?_⟩) | exact List.length_set.symm | decide)⟩⟩
  · replace h := cond_f h hc
    obtain rfl := Option.some.inj h
    conv => whnf
    refine ⟨_, _, ⟨rfl, rfl⟩, ⟨[0], [], ⟨rfl, rfl, rfl, rfl⟩, by repeat (first | exact trivial | exact .inl rfl | exact rfl | exact List.not_mem_nil | (refine .inr ?_) | (refine ⟨?_, ?_⟩) | exact List.length_set.symm | decide), by repeat (first | exact trivial | exact .inl rfl | exact rfl | exact List.not_mem_nil | (refine .inr ?_) | (refine ⟨?_, ?_⟩) | exact List.length_set.symm | decide)⟩⟩

abbrev R_F_slices_swapRangeCmpFunc_int__rows_Sort_c1 (x7 : List Int) (r : (List Int)) : FV := .p (.tup [])

abbrev L_F_slices_swapRangeCmpFunc_int__rows_Sort_c1 (x7 : List Int) (r : (List Int)) : List AObj := [.vec 3 1 (intRows .i64 r)]

def F_slices_swapRangeCmpFunc_int__rows_Sort_c1_l1 (n : Nat) (x4 : Int) (x3 : Int) (x1 : Nat) (x2 : Int) : (Int × List Int → Option ((List Int))) → Int × List Int → Option ((List Int)) := fun nx1 (x8, x9) =>
 bif (decide (x8 < x4)) then (
 bnd (natI (IntKind.i64.wrap (x3 + x8))) fun x10 =>
 chk (decide (x10 < x1)) (
 bnd (x9[x10]?) fun x11 =>
 bnd (natI (IntKind.i64.wrap (x2 + x8))) fun x12 =>
 chk (decide (x12 < x1)) (
 bnd (x9[x12]?) fun x13 =>
 bnd (natI (IntKind.i64.wrap (x2 + x8))) fun x14 =>
 chk (decide (x14 < x1)) (
 bnd (x9[x14]?) fun x15 =>
 bnd (natI (IntKind.i64.wrap (x3 + x8))) fun x16 =>
 chk (decide (x16 < x1)) (
 bnd ((x9.set x14 x11)[x16]?) fun x17 =>
 nx1 ((IntKind.i64.wrap (x8 + (1 : Int))), ((x9.set x14 x11).set x16 x13)))))))
else (
 some x9)

def F_slices_swapRangeCmpFunc_int__rows_Sort_c1 (n : Nat)  (x1 : Nat) (x2 : Int) (x3 : Int) (x4 : Int) (x5 : List (List Val)) (x6 : List Bool) (x7 : List Int) : Option ((List Int)) :=
  loopK (F_slices_swapRangeCmpFunc_int__rows_Sort_c1_l1 n x4 x3 x1 x2) n ((0 : Int), x7)

set_option maxHeartbeats 4000000 in
set_option maxRecDepth 100000 in
theorem F_slices_swapRangeCmpFunc_int__rows_Sort_c1_ok (n : Nat)   : ∀ (x1 : Nat) (x2 : Int) (x3 : Int) (x4 : Int) (x5 : List (List Val)) (x6 : List Bool) (x7 : List Int) (r : (List Int)), F_slices_swapRangeCmpFunc_int__rows_Sort_c1 n x1 x2 x3 x4 x5 x6 x7 = some r → CallsO Tryd.prog 90 [.vsl 0 x1, .p (PV.int .i64 x2), .p (PV.int .i64 x3), .p (PV.int .i64 x4), .p (PV.clo 39 [PV.hp [PV.sl (slRows valC x5)], PV.hp [PV.sl (boolRows x6)]])] [.vec 3 1 (intRows .i64 x7)] 1 (fun v lo => v = R_F_slices_swapRangeCmpFunc_int__rows_Sort_c1 x7 r ∧ lo = L_F_slices_swapRangeCmpFunc_int__rows_Sort_c1 x7 r) := by
  intro x1 x2 x3 x4 x5 x6 x7 r h
  unfold F_slices_swapRangeCmpFunc_int__rows_Sort_c1 at h
  refine CallsO.of_vc mixed (fun _ _ => Tryd.call90 _ _) Tryd.func90 (by kernel_rfl) (inl := [1000000]) (Nat.le_of_ble_eq_true rfl) ?_
  conv => whnf
  refine LoopA.fn [1000000] (S := Int × List Int) (fun (x8, x9) => [(0, .vsl 0 x1), (1, .p (.int .i64 x2)), (2, .p (.int .i64 x3)), (3, .p (.int .i64 x4)), (10, .p (.int .i64 x8))]) (fun (x8, x9) => [.vec 3 1 (intRows .i64 x9)]) (B := F_slices_swapRangeCmpFunc_int__rows_Sort_c1_l1 n x4 x3 x1 x2) h ⟨[0], [], ⟨rfl, rfl, rfl, rfl⟩, by repeat (first | exact trivial | exact .inl rfl | exact rfl | exact List.not_mem_nil | (refine .inr ?_) | (refine ⟨?_, ?_⟩) | exact List.length_set.symm | decide), by repeat (first | exact trivial | exact .inl rfl | exact rfl | exact List.not_mem_nil | (refine .inr ?_) | (refine ⟨?_, ?_⟩) | exact List.length_set.symm | decide)⟩ ?_
  intro nx1 st h
  obtain ⟨x8, x9⟩ := st
  unfold F_slices_swapRangeCmpFunc_int__rows_Sort_c1_l1 at h
  conv => whnf
  refine ⟨fun hc => ?_, fun hc => ?_⟩
  · replace h := cond_t h hc
    conv => whnf
    replace h := bnd_some h
    obtain ⟨x10, h12, h⟩ := h
    have hj := natI_some h12
    conv => whnf
    obtain ⟨h11, h⟩ := chk_some h
    refine ⟨x10, ⟨hj, of_decide_eq_true h11⟩, ?_⟩
    conv => whnf
    replace h := bnd_some h
    obtain ⟨x11, h10, h⟩ := h
    refine ⟨_, ⟨rfl, Codec.getN (intC .i64) h10⟩, ?_⟩
    conv => whnf
    replace h := bnd_some h
    obtain ⟨x12, h9, h⟩ := h
    have hj := natI_some h9
    conv => whnf
    obtain ⟨h8, h⟩ := chk_some h
    refine ⟨x12, ⟨hj, of_decide_eq_true h8⟩, ?_⟩
    conv => whnf
    replace h := bnd_some h
    obtain ⟨x13, h7, h⟩ := h
    refine ⟨_, ⟨rfl, Codec.getN (intC .i64) h7⟩, ?_⟩
    conv => whnf
    replace h := bnd_some h
    obtain ⟨x14, h6, h⟩ := h
    have hj := natI_some h6
    conv => whnf
    obtain ⟨h5, h⟩ := chk_some h
    refine ⟨x14, ⟨hj, of_decide_eq_true h5⟩, ?_⟩
    conv => whnf
    replace h := bnd_some h
    obtain ⟨x15, h4, h⟩ := h
    refine ⟨_, ⟨rfl, Codec.getN (intC .i64) h4, rfl⟩, ?_⟩
    conv => whnf
    refine ⟨_, Codec.setN (intC .i64) x9 x14 x11, ?_⟩
    conv => whnf
    replace h := bnd_some h
    obtain ⟨x16, h3, h⟩ := h
    have hj := natI_some h3
    conv => whnf
    obtain ⟨h2, h⟩ := chk_some h
    refine ⟨x16, ⟨hj, of_decide_eq_true h2⟩, ?_⟩
    conv => whnf
    replace h := bnd_some h
    obtain ⟨x17, h1, h⟩ := h
    refine ⟨_, ⟨rfl, Codec.getN (intC .i64) h1, rfl⟩, ?_⟩
    conv => whnf
    refine ⟨_, Codec.setN (intC .i64) (x9.set x14 x11) x16 x13, ?_⟩
    conv => whnf
    exact ⟨((IntKind.i64.wrap (x8 + (1 : Int))), ((x9.set x14 x11).set x16 x13)), h, ⟨[0], [], ⟨rfl, rfl, rfl, rfl⟩, by repeat (first | exact trivial | exact .inl rfl | exact rfl | exact List.not_mem_nil | (refine .inr ?_) | (refine ⟨?_, ?_⟩) | exact List.length_set.symm | decide), by repeat (first | exact trivial | exact .inl rfl | exact rfl | exact List.not_mem_nil | (refine .inr ?_) | (refine ⟨?_, ?_⟩) | exact List.length_set.symm | decide)⟩⟩
  · replace h := cond_f h hc
    obtain rfl := Option.some.inj h
    conv => whnf
    refine ⟨_, _, ⟨rfl, rfl⟩, ⟨[0], [], ⟨rfl, rfl, rfl, rfl⟩, by repeat (first | exact trivial | exact .inl rfl | exact rfl | exact List.not_mem_nil | (refine .inr ?_) | (refine ⟨?_, ?_⟩) | exact List.length_set.symm | decide), by repeat (first | exact trivial | exact .inl rfl | exact rfl | exact List.not_mem_nil | (refine .inr ?_) | (refine ⟨?_, ?_⟩) | exact List.length_set.symm | decide)⟩⟩

abbrev R_F_slices_rotateCmpFunc_int__rows_Sort_c1 (x7 : List Int) (r : (List Int)) : FV := .p (.tup [])

abbrev L_F_slices_rotateCmpFunc_int__rows_Sort_c1 (x7 : List Int) (r : (List Int)) : List AObj := [.vec 3 1 (intRows .i64 r)]

def F_slices_rotateCmpFunc_int__rows_Sort_c1_l1 (n : Nat) (x1 : Nat) (x3 : Int) (x5 : List (List Val)) (x6 : List Bool) : (Int × Int × List Int → Option ((List Int))) → Int × Int × List Int → Option ((List Int)) := fun nx1 (x8, x9, x10) =>
 bif (x8 != x9) then (
 bif (decide (x8 > x9)) then (
 bnd (F_slices_swapRangeCmpFunc_int__rows_Sort_c1 n x1 (IntKind.i64.wrap (x3 - x8)) x3 x9 x5 x6 x10) fun x11 =>
 nx1 ((IntKind.i64.wrap (x8 - x9)), x9, x11))
else (
 bnd (F_slices_swapRangeCmpFunc_int__rows_Sort_c1 n x1 (IntKind.i64.wrap (x3 - x8)) (IntKind.i64.wrap ((IntKind.i64.wrap (x3 + x9)) - x8)) x8 x5 x6 x10) fun x12 =>
 nx1 (x8, (IntKind.i64.wrap (x9 - x8)), x12)))
else (
 bnd (F_slices_swapRangeCmpFunc_int__rows_Sort_c1 n x1 (IntKind.i64.wrap (x3 - x8)) x3 x8 x5 x6 x10) fun x13 =>
 some x13)

def F_slices_rotateCmpFunc_int__rows_Sort_c1 (n : Nat)  (x1 : Nat) (x2 : Int) (x3 : Int) (x4 : Int) (x5 : List (List Val)) (x6 : List Bool) (x7 : List Int) : Option ((List Int)) :=
  loopK (F_slices_rotateCmpFunc_int__rows_Sort_c1_l1 n x1 x3 x5 x6) n ((IntKind.i64.wrap (x3 - x2)), (IntKind.i64.wrap (x4 - x3)), x7)

set_option maxRecDepth 100000 in
theorem F_slices_rotateCmpFunc_int__rows_Sort_c1_ok (n : Nat)   : ∀ (x1 : Nat) (x2 : Int) (x3 : Int) (x4 : Int) (x5 : List (List Val)) (x6 : List Bool) (x7 : List Int) (r : (List Int)), F_slices_rotateCmpFunc_int__rows_Sort_c1 n x1 x2 x3 x4 x5 x6 x7 = some r → CallsO Tryd.prog 82 [.vsl 0 x1, .p (PV.int .i64 x2), .p (PV.int .i64 x3), .p (PV.int .i64 x4), .p (PV.clo 39 [PV.hp [PV.sl (slRows valC x5)], PV.hp [PV.sl (boolRows x6)]])] [.vec 3 1 (intRows .i64 x7)] 1 (fun v lo => v = R_F_slices_rotateCmpFunc_int__rows_Sort_c1 x7 r ∧ lo = L_F_slices_rotateCmpFunc_int__rows_Sort_c1 x7 r) := by
  intro x1 x2 x3 x4 x5 x6 x7 r h
  unfold F_slices_rotateCmpFunc_int__rows_Sort_c1 at h
  refine CallsO.of_vc mixed (fun _ _ => Tryd.call82 _ _) Tryd.func82 (by kernel_rfl) (inl := [90, 1000000]) (Nat.le_of_ble_eq_true rfl) ?_
  conv => whnf
  refine LoopA.fn [90, 1000000] (S := Int × Int × List Int) (fun (x8, x9, x10) => [(0, .vsl 0 x1), (2, .p (.int .i64 x3)), (4, .p (.clo 39 [PV.hp [PV.sl (slRows valC x5)], PV.hp [PV.sl (boolRows x6)]])), (10, .p (.int .i64 x8)), (11, .p (.int .i64 x9))]) (fun (x8, x9, x10) => [.vec 3 1 (intRows .i64 x10)]) (B := F_slices_rotateCmpFunc_int__rows_Sort_c1_l1 n x1 x3 x5 x6) h ⟨[0], [], ⟨rfl, rfl, rfl, rfl⟩, by repeat (first | exact trivial | exact .inl rfl | exact rfl | exact List.not_mem_nil | (refine .inr ?_) | (refine ⟨?_, ?_⟩) | exact List.length_set.symm | decide), by repeat (first | exact trivial | exact .inl rfl | exact rfl | exact List.not_mem_nil | (refine .inr ?_) | (refine ⟨?_, ?_⟩) | exact List.length_set.symm | decide)⟩ ?_
  intro nx1 st h
  obtain ⟨x8, x9, x10⟩ := st
  unfold F_slices_rotateCmpFunc_int__rows_Sort_c1_l1 at h
  conv => whnf
  refine ⟨fun hc => ?_, fun hc => ?_⟩
  · replace h := cond_t h hc
    conv => whnf
    refine ⟨fun hc => ?_, fun hc => ?_⟩
    · replace h := cond_t h hc
      conv => whnf
      replace h := bnd_some h
      obtain ⟨x11, h1, h⟩ := h
      refine CallsO.use (F_slices_swapRangeCmpFunc_int__rows_Sort_c1_ok n _ _ _ _ _ _ _ _  h1) [0] [] ⟨rfl, rfl, rfl, rfl, rfl, rfl⟩ (by repeat (first | exact trivial | exact .inl rfl | exact rfl | exact List.not_mem_nil | (refine .inr ?_) | (refine ⟨?_, ?_⟩) | exact List.length_set.symm | decide)) (by repeat (first | exact trivial | exact .inl rfl | exact rfl | exact List.not_mem_nil | (refine .inr ?_) | (refine ⟨?_, ?_⟩) | exact List.length_set.symm | decide)) ?_
      rintro _ _ ⟨rfl, rfl⟩
      refine ⟨.p (.tup []), [.vec 3 1 (intRows .i64 x11)], rfl, rfl, ?_⟩
      conv => whnf
      exact ⟨((IntKind.i64.wrap (x8 - x9)), x9, x11), h, ⟨[0], [], ⟨rfl, rfl, rfl, rfl⟩, by repeat (first | exact trivial | exact .inl rfl | exact rfl | exact List.not_mem_nil | (refine .inr ?_) | (refine ⟨?_, ?_⟩) | exact List.length_set.symm | decide), by repeat (first | exact trivial | exact .inl rfl | exact rfl | exact List.not_mem_nil | (refine .inr ?_) | (refine ⟨?_, ?_⟩) | exact List.length_set.symm | decide)⟩⟩
    · replace h := cond_f h hc
      conv => whnf
      replace h := bnd_some h
      obtain ⟨x12, h2, h⟩ := h
      refine CallsO.use (F_slices_swapRangeCmpFunc_int__rows_Sort_c1_ok n _ _ _ _ _ _ _ _  h2) [0] [] ⟨rfl, rfl, rfl, rfl, rfl, rfl⟩ (by repeat (first | exact trivial | exact .inl rfl | exact rfl | exact List.not_mem_nil | (refine .inr ?_) | (refine ⟨?_, ?_⟩) | exact List.length_set.symm | decide)) (by repeat (first | exact trivial | exact .inl rfl | exact rfl | exact List.not_mem_nil | (refine .inr ?_) | (refine ⟨?_, ?_⟩) | exact List.length_set.symm | decide)) ?_
      rintro _ _ ⟨rfl, rfl⟩
      refine ⟨.p (.tup []), [.vec 3 1 (intRows .i64 x12)], rfl, rfl, ?_⟩
      conv => whnf
      exact ⟨(x8, (IntKind.i64.wrap (x9 - x8)), x12), h, ⟨[0], [], ⟨rfl, rfl, rfl, rfl⟩, by repeat (first | exact trivial | exact .inl rfl | exact rfl | exact List.not_mem_nil | (refine .inr ?_) | (refine ⟨?_, ?_⟩) | exact List.length_set.symm | decide), by repeat (first | exact trivial | exact .inl rfl | exact rfl | exact List.not_mem_nil | (refine .inr ?_) | (refine ⟨?_, ?_⟩) | exact List.length_set.symm | decide)⟩⟩
  · replace h := cond_f h hc
    conv => whnf
    replace h := bnd_some h
    obtain ⟨x13, h3, h⟩ := h
    refine CallsO.use (F_slices_swapRangeCmpFunc_int__rows_Sort_c1_ok n _ _ _ _ _ _ _ _  h3) [0] [] ⟨rfl, rfl, rfl, rfl, rfl, rfl⟩ (by repeat (first | exact trivial | exact .inl rfl | exact rfl | exact List.not_mem_nil | (refine .inr ?_) | (refine ⟨?_, ?_⟩) | exact List.length_set.symm | decide)) (by repeat (first | exact trivial | exact .inl rfl | exact rfl | exact List.not_mem_nil | (refine .inr ?_) | (refine ⟨?_, ?_⟩) | exact List.length_set.symm | decide)) ?_
    rintro _ _ ⟨rfl, rfl⟩
    refine ⟨.p (.tup []), [.vec 3 1 (intRows .i64 x13)], rfl, rfl, ?_⟩
    obtain rfl := Option.some.inj h
    conv => whnf
    refine ⟨_, _, ⟨rfl, rfl⟩, ⟨[0], [], ⟨rfl, rfl, rfl, rfl⟩, by repeat (first | exact trivial | exact .inl rfl | exact rfl | exact List.not_mem_nil | (refine .inr ?_) | (refine ⟨?_, ?_⟩) | exact List.length_set.symm | decide), by repeat (first | exact trivial | exact .inl rfl | exact rfl | exact List.not_mem_nil | (refine .inr ?_) | (refine ⟨?_, ?_⟩) | exact List.length_set.symm | decide)⟩⟩
end W
end
