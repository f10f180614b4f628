/- A part of the proof. -/
import Derived.Test.YtkakmigbbipgoaaDoorAxLoop
import Derived.Test.YtkakmigbbipgoaaDoorRkD
import Derived.Test.YtkakmigbbipgoaaDoorShelf
open Go Go.Proofs Ax Go.RowKit
namespace Rk
set_option maxRecDepth 10000

/-- What is new lies behind all that is there. -/
theorem calm_below {H : PH} {w w' : World} (s : SatH H w) (h : Below w.heap.size w w') : Calm H w H w' :=
  ⟨PH.le.refl H, s.block fun b _ _ hv => h.block b (s.lt hv), ⟨h.os, h.tape, h.output, h.size, fun k hk _ => h.block k hk⟩, fun _ _ v hv => .inl ⟨v, hv⟩⟩

theorem ReplaceAll_ok (s old new : List UInt8) (hs : s.length < 4294967281) (h1 : 1 ≤ old.length) (hlen : s.length + Lib.countB ⟨s.toArray⟩ ⟨old.toArray⟩ * new.length ≤ 140737488355328) :
    CallsF Tryd.prog 46 [.str s, .str old, .str new] (.str (Lib.replaceAll s old new)) := by
  intro H w vs hsat hr
  obtain ⟨m, hm⟩ := hsat.root
  have c := Tryd.strings_ReplaceAll ⟨s.toArray⟩ ⟨old.toArray⟩ ⟨new.toArray⟩ m w hs (hsat.cell _ _ _ hm).1 h1 hlen
  have e : vs = [.string ⟨s.toArray⟩, .string ⟨old.toArray⟩, .string ⟨new.toArray⟩] := by
    simp only [RepL, RepP] at hr
    obtain ⟨_, _, rfl, rfl, _, _, rfl, rfl, _, _, rfl, rfl, rfl⟩ := hr
    rfl
  subst e
  rw [Tryd.call46]
  refine ⟨rfl, c.mono fun e w' p => ?_⟩
  exact ⟨_, H, p.1, calm_below hsat p.2, by simp [RepP]⟩

theorem IndexByte_ok (s : List UInt8) (c : UInt8) : CallsF Tryd.prog 52 [.str s, .int .u8 c.toNat] (.int .i64 (Lib.indexByte s c)) := by
  intro H w vs hsat hr
  have cc := Tryd.strings_IndexByte ⟨s.toArray⟩ c.toNat w
  have e : vs = [.string ⟨s.toArray⟩, .int .u8 c.toNat] := by
    simp only [RepL, RepP] at hr
    obtain ⟨_, _, rfl, rfl, _, _, rfl, rfl, rfl⟩ := hr
    rfl
  subst e
  rw [Tryd.call52]
  refine ⟨rfl, cc.mono fun e w' p => ?_⟩
  obtain ⟨p1, rfl⟩ := p
  refine ⟨_, H, p1, Calm.refl hsat, ?_⟩
  have e : ((c.toNat : Nat) : Int).toNat.toUInt8 = c := by rw [Int.toNat_natCast]; exact UInt8.ofNat_toNat
  rw [e]
  simp [RepP]

/-- A text with a byte FF behind each nought. -/
def esc (s : List UInt8) : List UInt8 := s.flatMap fun b => if b == 0 then [0, 255] else [b]

theorem replaceK_ne (b c : UInt8) (h : b ≠ c) (new : List UInt8) : ∀ (k : Nat) (l : List UInt8), Lib.replaceK [c] new k (b :: l) = b :: Lib.replaceK [c] new k l
  | 0, _ => rfl
  | k + 1, l => by
    have hi : Lib.index (b :: l) [c] = if Lib.index l [c] == -1 then -1 else Lib.index l [c] + 1 := by
      rw [Lib.index]
      have : ([c] : List UInt8).isPrefixOf (b :: l) = false := by simp [List.isPrefixOf, Ne.symm h]
      rw [this]; rfl
    have hge := Lib.index_ge l [c]
    rw [Lib.replaceK, Lib.replaceK, hi]
    by_cases h1 : Lib.index l [c] = -1
    · simp [h1]
    · have h2 : (Lib.index l [c] == -1) = false := by simp [h1]
      have h3 : (Lib.index l [c] + 1 == -1) = false := by simp; omega
      simp only [h2, h3, if_false, Bool.false_eq_true]
      have e1 : (Lib.index l [c] + 1).toNat = (Lib.index l [c]).toNat + 1 := by omega
      rw [e1]
      simp

theorem replaceK_eq (c : UInt8) (new : List UInt8) (k : Nat) (l : List UInt8) : Lib.replaceK [c] new (k + 1) (c :: l) = new ++ Lib.replaceK [c] new k l := by
  have hi : Lib.index (c :: l) [c] = 0 := by rw [Lib.index]; simp [List.isPrefixOf]
  rw [Lib.replaceK, hi]
  simp

theorem replaceAll_esc (s : List UInt8) : Lib.replaceAll s [0] [0, 255] = esc s := by
  have key : ∀ s : List UInt8, Lib.replaceK [0] [0, 255] (Lib.count s [0]) s = esc s := by
    intro s
    induction s with
    | nil => rfl
    | cons b l ih =>
      by_cases h : b = 0
      · subst h
        rw [Lib.count_cons_eq, Nat.add_comm, replaceK_eq, ih]
        simp [esc]
      · rw [Lib.count_cons_ne _ _ _ h, replaceK_ne _ _ h, ih]
        simp [esc, h]
  unfold Lib.replaceAll Lib.replace Lib.replaceNum
  simp only [show ((-1 : Int) < 0) from by decide, true_or, if_true]
  rw [key]
  rfl

theorem esc_length (s : List UInt8) : (esc s).length ≤ 2 * s.length := by
  induction s with
  | nil => exact Nat.le_refl _
  | cons b l ih =>
    have e : esc (b :: l) = (if b == 0 then [0, 255] else [b]) ++ esc l := rfl
    rw [e, List.length_append, List.length_cons]
    split
    · show 2 + _ ≤ _; omega
    · show 1 + _ ≤ _; omega

def endedM (s : List UInt8) : List UInt8 := esc s ++ [0, 0]

theorem ended_ok (s : List UInt8) (hs : s.length < 1099511627776) (hs2 : s.length < 4294967281) : CallsF Tryd.prog 31 [.str s] (.str (endedM s)) := by
  refine CallsF.of_vc mixed (fun _ _ => Tryd.call31 _ _) Tryd.func31 (by kernel_rfl) (inl := []) ?_
  conv => whnf
  refine ⟨_, ReplaceAll_ok s [0] [0, 255] hs2 (Nat.le_refl _) ?_, ?_⟩
  · have := Lib.countB_le ⟨#[0]⟩ (Nat.le_refl _) s.length ⟨s.toArray⟩ (Nat.le_refl _)
    show s.length + _ * 2 ≤ _
    have : Lib.countB ⟨s.toArray⟩ ⟨#[0]⟩ ≤ s.length := this
    have e : Lib.countB ⟨s.toArray⟩ ⟨([0] : List UInt8).toArray⟩ = Lib.countB ⟨s.toArray⟩ ⟨#[0]⟩ := rfl
    rw [e]
    omega
  rw [replaceAll_esc]
  have := esc_length s
  conv => whnf
  refine ⟨?_, ?_⟩
  · show (((esc s).length + 2 : Nat) : Int) ≤ maxI
    unfold maxI; omega
  conv => whnf
  rfl

theorem Ended_ok (s : List UInt8) (hs : s.length < 1099511627776) : CallsF Tryd.prog 34 [.str s] (.str (endedM s)) := by
  refine CallsF.of_vc mixed (fun _ _ => Tryd.call34 _ _) Tryd.func34 (by kernel_rfl) (inl := []) ?_
  conv => whnf
  refine LoopA.of [] (fun i : Nat => [(0, .p (.str s)), (3, .p (.str (esc (s.take i)))), (4, .p (.int .i64 i))]) (fun _ => [])
    (fun i => i ≤ s.length) (fun i => s.length - i) 0 (Nat.zero_le _) ?_ ?_
  · exact ⟨[], [], ⟨rfl, rfl, rfl, rfl⟩, ⟨.inl rfl, .inl rfl, .inl rfl, trivial⟩, trivial⟩
  · intro i hi
    conv => whnf
    refine ⟨fun ht => ?_, fun hf => ?_⟩
    · have hlt : i < s.length := by simp only [decide_eq_true_eq] at ht; omega
      have htk := esc_length (s.take i)
      have htl : (s.take i).length ≤ s.length := List.length_take_le' _ _
      obtain ⟨c, hc⟩ : ∃ c, s[i]? = some c := ⟨_, List.getElem?_eq_getElem hlt⟩
      have hcs : (s.take (i + 1)).drop i = [c] := by
        rw [List.take_add_one, hc, List.drop_append_of_le_length (by rw [List.length_take]; omega), List.drop_eq_nil_of_le (by rw [List.length_take]; omega)]
        rfl
      have hn : esc (s.take (i + 1)) = esc (s.take i) ++ (if c == 0 then [0, 255] else [c]) := by
        rw [List.take_add_one, hc]
        simp [esc]
      conv => whnf
      refine ⟨i + 1, wrap_nat i (by omega), ?_⟩
      conv => whnf
      refine ⟨i, rfl, ?_⟩
      refine ⟨⟨by omega, by omega⟩, ?_⟩
      conv => whnf
      rw [hcs]
      refine ⟨?_, ?_⟩
      · show (((esc (s.take i)).length + 1 : Nat) : Int) ≤ maxI
        unfold maxI; omega
      conv => whnf
      refine ⟨c, ⟨by omega, hc⟩, ?_⟩
      conv => whnf
      have hc0 : ((c.toNat : Int) == 0) = (c == 0) := by
        rw [Bool.eq_iff_iff]
        simp only [beq_iff_eq]
        constructor
        · intro h; exact UInt8.toNat.inj (by show c.toNat = 0; omega)
        · intro h; subst h; rfl
      rw [hc0]
      refine ⟨fun ht => ?_, fun hf => ?_⟩
      · rw [ht] at hn
        conv => whnf
        refine ⟨?_, ?_⟩
        · show (((esc (s.take i) ++ [c]).length + 1 : Nat) : Int) ≤ maxI
          rw [List.length_append]
          show (((esc (s.take i)).length + 1 + 1 : Nat) : Int) ≤ maxI
          unfold maxI; omega
        conv => whnf
        have : c = 0 := by simpa using ht
        refine ⟨i + 1, hlt, by omega, [], [], ⟨rfl, rfl, rfl, rfl⟩, ⟨.inl rfl, .inl ?_, .inl ?_, trivial⟩, trivial⟩
        · rw [hn, this]; simp
        · rw [wrap_nat i (by omega)]
      · rw [hf] at hn
        conv => whnf
        refine ⟨i + 1, hlt, by omega, [], [], ⟨rfl, rfl, rfl, rfl⟩, ⟨.inl rfl, .inl ?_, .inl ?_, trivial⟩, trivial⟩
        · rw [hn]; simp
        · rw [wrap_nat i (by omega)]
    · have : i = s.length := by simp at hf; omega
      subst this
      have := esc_length s
      conv => whnf
      rw [List.take_length]
      refine ⟨?_, rfl⟩
      show (((esc s).length + 2 : Nat) : Int) ≤ maxI
      unfold maxI; omega
end Rk
