/- Pure functions that answer something or nothing, beside the abstract execution: what they answer, the code answers. -/
import Derived.Test.YtkakmigbbipgoaaDoorAxNorm
import Derived.Test.YtkakmigbbipgoaaDoorAxLoop
namespace Ax
open Go
section
variable {A R S : Type}

def chk (b : Bool) (k : Option R) : Option R := match b with | true => k | false => none
theorem chk_some {b : Bool} {k : Option R} {r : R} (h : chk b k = some r) : b = true ∧ k = some r := by
  cases b with
  | true => exact ⟨rfl, h⟩
  | false => cases h
def bnd (o : Option A) (k : A → Option R) : Option R := match o with | some a => k a | none => none
theorem bnd_some {o : Option A} {k : A → Option R} {r : R} (h : bnd o k = some r) : ∃ x, o = some x ∧ k x = some r := by
  cases o with
  | some a => exact ⟨a, rfl, h⟩
  | none => cases h
theorem cond_t {c : Bool} {a b : Option R} {r : R} (h : (bif c then a else b) = some r) (hc : c = true) : a = some r := by subst hc; exact h
theorem cond_f {c : Bool} {a b : Option R} {r : R} (h : (bif c then a else b) = some r) (hc : c = false) : b = some r := by subst hc; exact h
def idx (l : List A) (i : Int) : Option A := if 0 ≤ i then l[i.toNat]? else none
theorem idx_some {l : List A} {i : Int} {x : A} (h : idx l i = some x) : 0 ≤ i ∧ l[i.toNat]? = some x := by
  unfold idx at h
  split at h
  · exact ⟨by assumption, h⟩
  · cases h
def gsome [Inhabited A] (g : Bool) (o : Option A) : Option A := bif g then o else some default
theorem gsome_some [Inhabited A] {g : Bool} {o : Option A} {x : A} (h : gsome g o = some x) (hg : g = true) : o = some x := by subst hg; exact h
def natI (i : Int) : Option Nat := if 0 ≤ i then some i.toNat else none
theorem natI_some {i : Int} {n : Nat} (h : natI i = some n) : i = n := by
  unfold natI at h
  split at h
  · cases h; omega
  · cases h
def u8I (i : Int) : Option UInt8 := if 0 ≤ i ∧ i < 256 then some (UInt8.ofNat i.toNat) else none
theorem u8I_some {i : Int} {b : UInt8} (h : u8I i = some b) : i = (b.toNat : Int) := by
  unfold u8I at h
  split at h
  · cases h
    simp only [UInt8.toNat_ofNat']
    omega
  · cases h
theorem and_l {a b : Bool} (h : (a && b) = true) : a = true := by cases a <;> simp_all
theorem and_r {a b : Bool} (h : (a && b) = true) : b = true := by cases a <;> simp_all

def loopK (B : (S → Option R) → S → Option R) : Nat → S → Option R
  | 0, _ => none
  | n + 1, s => B (loopK B n) s
end

/-- How a type's values lie in cells. -/
structure Codec (A : Type) where
  cells : A → List PV
  rows : List A → List (List PV)
  z : Nat
  hrows : ∀ l, rows l = l.map cells
  hz : ∀ a, (cells a).length = z
  hone : ∀ a, (cells a).all oneP = true

namespace Codec
variable {A : Type} (C : Codec A)
theorem at_ {l : List A} {i : Int} {x : A} (h : idx l i = some x) : 0 ≤ i ∧ (C.rows l)[i.toNat]? = some (C.cells x) ∧ (C.cells x).length = C.z := by
  obtain ⟨h0, h1⟩ := idx_some h
  exact ⟨h0, by rw [C.hrows]; simp [h1], C.hz x⟩
theorem length (l : List A) : (C.rows l).length = l.length := by rw [C.hrows]; simp
theorem append (a b : List A) : C.rows a ++ C.rows b = C.rows (a ++ b) := by simp [C.hrows]
theorem take (l : List A) (n : Nat) : (C.rows l).take n = C.rows (l.take n) := by simp [C.hrows]
theorem drop (l : List A) (n : Nat) : (C.rows l).drop n = C.rows (l.drop n) := by simp [C.hrows]
theorem cut (l : List A) (n m : Nat) : ((C.rows l).take n).drop m = C.rows ((l.take n).drop m) := by simp [C.hrows]
theorem dropAll (l : List A) (m : Nat) : ((C.rows l).take (C.rows l).length).drop m = C.rows (l.drop m) := by rw [List.take_length, C.drop]
theorem wide (l : List A) : ∀ r ∈ C.rows l, r.length = C.z := by
  intro r hr
  rw [C.hrows] at hr
  obtain ⟨a, _, rfl⟩ := List.mem_map.1 hr
  exact C.hz a
theorem one (l : List A) : ∀ r ∈ C.rows l, r.length = C.z ∧ r.all oneP = true := by
  intro r hr
  rw [C.hrows] at hr
  obtain ⟨a, _, rfl⟩ := List.mem_map.1 hr
  exact ⟨C.hz a, C.hone a⟩
end Codec

def intRows (k : IntKind) (l : List Int) : List (List PV) := l.map fun n => [PV.int k n]
def boolRows (l : List Bool) : List (List PV) := l.map fun n => [PV.bool n]
def slRows {A : Type} (C : Codec A) (l : List (List A)) : List (List PV) := l.map fun x => [PV.sl (C.rows x)]
def strC : Codec (List UInt8) := { cells := fun s => [.str s], rows := strs, z := 1, hrows := fun _ => rfl, hz := fun _ => rfl, hone := fun _ => rfl }
def byteC : Codec UInt8 := { cells := fun b => [.int .u8 b.toNat], rows := bRows, z := 1, hrows := fun _ => rfl, hz := fun _ => rfl, hone := fun _ => rfl }
def intC (k : IntKind) : Codec Int := { cells := fun n => [.int k n], rows := intRows k, z := 1, hrows := fun _ => rfl, hz := fun _ => rfl, hone := fun _ => rfl }
def boolC : Codec Bool := { cells := fun n => [.bool n], rows := boolRows, z := 1, hrows := fun _ => rfl, hz := fun _ => rfl, hone := fun _ => rfl }
def slC {A : Type} (C : Codec A) : Codec (List A) := { cells := fun x => [.sl (C.rows x)], rows := slRows C, z := 1, hrows := fun _ => rfl, hz := fun _ => rfl, hone := fun _ => rfl }
theorem Val.one (v : Val) : v.cells.all oneP = true := by cases v; rfl
def valC : Codec Val := { cells := Val.cells, rows := Val.rows, z := 6, hrows := fun l => rows_eq l, hz := cells_length, hone := Val.one }

theorem all_one {ps : List PV} (h : ps.all oneP = true) : ∀ c ∈ ps, oneP c = true := by simpa using h
theorem arr_at {k : IntKind} {es : List Int} {cs : List PV} {i x : Int} {n : Nat} (h : idx es i = some x) (e : es.map (PV.int k) = cs) (hn : es.length ≤ n) : 0 ≤ i ∧ i < (n : Int) ∧ cs[i.toNat]? = some (.int k x) := by
  obtain ⟨h0, h1⟩ := idx_some h
  have h2 := (List.getElem?_eq_some_iff.1 h1).1
  refine ⟨h0, by omega, ?_⟩
  rw [← e]
  simp [h1]

theorem len_ok {n b : Nat} (h : decide (n * b ≤ 140737488355328) = true) (hb : 1 ≤ b) : n ≤ 9223372036854775807 := by
  have := of_decide_eq_true h
  have : n * 1 ≤ n * b := Nat.mul_le_mul_left n hb
  omega

/-! ### Nil slices, again -/
mutual
/-- The same, but that a nil slice is a slice of no rows. -/
def nle : PV → PV → Prop
  | .nilsl, .sl rows => rows = []
  | .agg a, .agg b => nleL a b
  | .tup a, .tup b => nleL a b
  | a, b => a = b
def nleL : List PV → List PV → Prop
  | [], [] => True
  | a :: l, b :: m => nle a b ∧ nleL l m
  | _, _ => False
end

mutual
theorem nle_rep {H : PH} : ∀ {p q : PV} {v : Value}, nle p q → RepP H p v → RepP H q v
  | .nilsl, q, v, h, r => by
    cases q <;> simp only [nle] at h <;> first | (subst h; simp only [RepP] at *; exact .inl ⟨trivial, .inl r⟩) | exact r | cases h
  | .agg a, q, v, h, r => by
    cases q <;> simp only [nle] at h <;> try cases h
    simp only [RepP] at *
    obtain ⟨vs, e, rr⟩ := r
    exact ⟨vs, e, nleL_rep h rr⟩
  | .tup a, q, v, h, r => by
    cases q <;> simp only [nle] at h <;> try cases h
    simp only [RepP] at *
    obtain ⟨vs, e, rr⟩ := r
    exact ⟨vs, e, nleL_rep h rr⟩
  | .bool _, q, v, h, r | .int .., q, v, h, r | .str _, q, v, h, r | .sl _, q, v, h, r | .nilp, q, v, h, r | .fn _, q, v, h, r | .nilfn, q, v, h, r | .nili, q, v, h, r | .ifc .., q, v, h, r | .nilmap, q, v, h, r => by
    cases q <;> simp only [nle] at h <;> cases h <;> exact r
theorem nleL_rep {H : PH} : ∀ {p q : List PV} {v : List Value}, nleL p q → RepL H p v → RepL H q v
  | [], [], _, _, r => r
  | [], _ :: _, _, h, _ => by simp [nleL] at h
  | _ :: _, [], _, h, _ => by simp [nleL] at h
  | a :: l, b :: m, vs, h, r => by
    simp only [nleL] at h
    simp only [RepL] at *
    obtain ⟨v, vs', e, r1, r2⟩ := r
    exact ⟨v, vs', e, nle_rep h.1 r1, nleL_rep h.2 r2⟩
end

theorem CallsF.leArgs {P : Program} {f : FuncId} {args args' : List PV} {r : PV} (h : CallsF P f args' r) (e : nleL args args') : CallsF P f args r :=
  fun H w vs hs rl => h H w vs hs (nleL_rep e rl)
theorem CallsF.le {P : Program} {f : FuncId} {args : List PV} {r r' : PV} (h : CallsF P f args r) (e : nle r r') : CallsF P f args r' := by
  intro H w vs hs rl
  have := h H w vs hs rl
  generalize (callFunc f vs.toArray).run P w = x at *
  cases x with
  | ok n w' =>
    cases n <;> simp only [CallUpon] at this ⊢ <;> try exact this
    · obtain ⟨H', c, r⟩ := this; exact ⟨H', c, nle_rep e r⟩
    · exact ⟨this.1, this.2.mono fun en w'' ⟨v, H', e1, c, r⟩ => ⟨v, H', e1, c, nle_rep e r⟩⟩
  | halt x w' => exact this

/-! ### Loops and joins -/
theorem LoopA.fn {P : Program} (inl : List Nat) {N nb : Nat} {body : Code} {K : KA} {E : Env} {lo : List AObj} {S R : Type} (fr : S → Env) (ob : S → List AObj) {B : (S → Option R) → S → Option R} {n : Nat} {s0 : S} {r : R}
    (h : loopK B n s0 = some r) (hw : WeakK nb E lo (fr s0) (ob s0))
    (round : ∀ (next : S → Option R) (s : S), B next s = some r → vc P inl N nb body (fun x E' lo' => match x with
      | .normal => ∃ s', next s' = some r ∧ WeakK nb E' lo' (fr s') (ob s')
      | .exit i => K (.exit i) E' lo'
      | .ret => K .ret E' lo') (fr s) (ob s)) : LoopA P inl N nb body K E lo := by
  intro hm hd bs ρ H a w hb sat
  subst hb
  obtain ⟨ρ', sat'⟩ := hw.sat sat
  refine wp_loop_ghost (I := fun n a w => ∃ s ρ H, loopK B n s = some r ∧ Sat bs N ρ H (lookD (fr s)) (ob s) a w) n ⟨s0, ρ', H, h, sat'⟩ fun n a w ⟨s, ρ, H, hs, sat⟩ => ?_
  cases n with
  | zero => cases hs
  | succ n =>
    refine wp_mono (vc_sound hm body _ _ _ hd (round (loopK B n) s hs) bs ρ H a w rfl sat) fun e a w p => ?_
    obtain ⟨x, ρ2, H2, E2, lo2, hx, sat2, k⟩ := p
    cases x <;> cases e <;> simp only [AXis] at hx
    · obtain ⟨s', hok', hwk⟩ := k
      obtain ⟨ρ3, sat3⟩ := hwk.sat sat2
      exact ⟨n, Nat.lt_succ_self _, s', ρ3, H2, hok', sat3⟩
    · exact ⟨.exit _, ρ2, H2, E2, lo2, hx, sat2, k⟩
    · exact ⟨.ret, ρ2, H2, E2, lo2, trivial, sat2, k⟩

theorem SeqA.go {P : Program} {inl : List Nat} {N nb : Nat} {x y : Code} {K : KA} {E : Env} {lo : List AObj}
    (h : vc P inl N nb x (fun e E lo => match e with | .normal => vc P inl N nb y K E lo | .exit i => K (.exit i) E lo | .ret => K .ret E lo) E lo) : SeqA P inl N nb x y K E lo := by
  intro hm hx hy bs ρ H a w hb s
  refine wp_seq (wp_mono (vc_sound hm x _ E lo hx h bs ρ H a w hb s) fun e a w p => ?_)
  obtain ⟨x', ρ', H', E', lo', hx, s', k⟩ := p
  cases x' <;> cases e <;> simp only [AXis] at hx
  · exact vc_sound hm y K E' lo' hy k bs ρ' H' a w hb s'
  · exact ⟨.exit _, ρ', H', E', lo', hx, s', k⟩
  · exact ⟨.ret, ρ', H', E', lo', trivial, s', k⟩

theorem SeqA.cut {P : Program} {inl : List Nat} {N nb : Nat} {x y : Code} {K : KA} {E : Env} {lo : List AObj} {S R : Type} (fr : S → Env) (ob : S → List AObj) (k : S → Option R) {r : R}
    (hy : ∀ s, k s = some r → vc P inl N nb y K (fr s) (ob s))
    (hx : vc P inl N nb x (fun e E lo => match e with | .normal => ∃ s, k s = some r ∧ WeakK nb E lo (fr s) (ob s) | .exit i => K (.exit i) E lo | .ret => K .ret E lo) E lo) : SeqA P inl N nb x y K E lo := by
  intro hm hdx hdy bs ρ H a w hb s
  refine wp_seq (wp_mono (vc_sound hm x _ E lo hdx hx bs ρ H a w hb s) fun e a w p => ?_)
  obtain ⟨x', ρ', H', E', lo', hx, s', kk⟩ := p
  cases x' <;> cases e <;> simp only [AXis] at hx
  · obtain ⟨st, hst, hwk⟩ := kk
    subst hb
    obtain ⟨ρ3, s3⟩ := hwk.sat s'
    exact vc_sound hm y K _ _ hdy (hy st hst) bs ρ3 H' a w rfl s3
  · exact ⟨.exit _, ρ', H', E', lo', hx, s', kk⟩
  · exact ⟨.ret, ρ', H', E', lo', trivial, s', kk⟩

theorem CallsF.of_vcN {P : Program} {f : FuncId} {fn : Func} {args : List PV} {r : PV} {inl : List Nat} (hm : P.follows .mixedOrders = true) (he : Enters P f) (hf : P.funcs[f]? = some fn) (hok : fnOk inl fn args.length = true)
    (h : vcFn P inl fn args (fun v => nle v r)) : CallsF P f args r :=
  CallsF.of_vcR hm he hf hok (fun _ _ _ => nle_rep) h

/-! ### Reckoning -/
section
variable {A R S : Type}
theorem loopK_succ (B : (S → Option R) → S → Option R) (n : Nat) (s : S) : loopK B (n + 1) s = B (loopK B n) s := rfl
@[simp] theorem bnd_eq (a : A) (k : A → Option R) : bnd (some a) k = k a := rfl
@[simp] theorem bnd_no (k : A → Option R) : bnd none k = none := rfl
@[simp] theorem chk_eq (k : Option R) : chk true k = k := rfl
@[simp] theorem gsome_t [Inhabited A] (o : Option A) : gsome true o = o := rfl
@[simp] theorem gsome_f [Inhabited A] (o : Option A) : gsome false o = some default := rfl
@[simp] theorem idx_nat (l : List A) (i : Nat) : idx l (i : Int) = l[i]? := by unfold idx; simp
@[simp] theorem idx_zero (l : List A) : idx l 0 = l[0]? := by unfold idx; simp
@[simp] theorem natI_nat (i : Nat) : natI (i : Int) = some i := by unfold natI; simp
@[simp] theorem u8I_byte (b : UInt8) : u8I ((b.toNat : Nat) : Int) = some b := by
  have := b.toNat_lt
  unfold u8I
  rw [if_pos ⟨Int.natCast_nonneg _, by omega⟩]
  simp
theorem idx_of {l : List A} {i : Int} (n : Nat) (h : i = n) : idx l i = l[n]? := by subst h; simp
theorem natI_of {i : Int} (n : Nat) (h : i = n) : natI i = some n := by subst h; simp
@[simp] theorem bRows_len (l : List UInt8) : (bRows l).length = l.length := by simp [bRows]
@[simp] theorem valRows_len (l : List Val) : (Val.rows l).length = l.length := by rw [rows_eq]; simp
theorem chk_of {b : Bool} (k : Option R) (h : b = true) : chk b k = k := by subst h; rfl
end
end Ax
