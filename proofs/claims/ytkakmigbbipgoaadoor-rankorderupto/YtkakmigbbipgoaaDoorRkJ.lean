/- A part of the proof. -/
import Derived.Test.YtkakmigbbipgoaaDoorAxNorm
import Derived.Test.YtkakmigbbipgoaaDoorRkC
import Derived.Test.YtkakmigbbipgoaaDoorRkI
open Go Go.Proofs Ax Go.RowKit
namespace Rk
set_option maxRecDepth 10000

mutual
theorem lookM_keyed : ∀ (v : Val) (d p : Int), (lookM v d p).2 = true → keyed v = true
  | .mk k b i s l ks, d, p, h => by
    unfold lookM at h
    cases hb : (decide (d < 1) || decide (p + 1 > 4096) || !good1 (.mk k b i s l ks)) with
    | true => rw [hb] at h; simp at h
    | false =>
      rw [hb, cond_false] at h
      have := lookL_keyed l _ _ h
      simp only [keyed, Bool.and_eq_true, Bool.or_eq_true]
      refine ⟨?_, this⟩
      simp only [Bool.or_eq_false_iff, Bool.not_eq_false', good1, Bool.and_eq_true, Bool.not_eq_true', Bool.and_eq_false_iff] at hb
      obtain ⟨_, _, h5⟩ := hb
      rcases h5 with h5 | h5
      · left; simpa using h5
      · right
        simp at h5
        simpa using h5.1
theorem lookL_keyed : ∀ (l : List Val) (d p : Int), (lookL l d p).2 = true → keyedL l = true
  | [], _, _, _ => rfl
  | v :: l, d, p, h => by
    unfold lookL at h
    cases hb : (lookM v d p).2 with
    | false => rw [hb] at h; simp at h
    | true =>
      rw [hb, cond_true] at h
      simp only [keyedL, Bool.and_eq_true]
      exact ⟨lookM_keyed v _ _ hb, lookL_keyed l _ _ h⟩
end

/-- May a value be? -/
def mayM (v : Val) : Bool := (lookM v 32 0).2
def keyM (v : Val) : PV := .tup [.str (bif mayM v then layM v else []), .int .i64 (bif mayM v then 0 else 20)]

theorem Key_ok (v : Val) (hv : v.big ≤ 4294967280) : CallsF Tryd.prog 8 [v.pv] (keyM v) := by
  obtain ⟨k, b, i, s, l, ks⟩ := v
  refine CallsF.of_vc mixed (fun _ _ => Tryd.call8 _ _) Tryd.func8 (by kernel_rfl) (inl := []) ?_
  conv => whnf
  refine ⟨_, Check_ok (.mk k b i s l ks) (by omega), ?_⟩
  have hlay := fun h => lay_ok _ (.mk k b i s l ks) hv (Nat.le_refl _) (lookM_keyed _ 32 0 h)
  unfold keyM mayM
  generalize (lookM (.mk k b i s l ks) 32 0).2 = r at *
  generalize layM (.mk k b i s l ks) = out at *
  cases r with
  | false =>
    conv => whnf
    refine ⟨fun _ => ?_, fun hf => absurd hf (by decide)⟩
    conv => whnf
    rfl
  | true =>
    conv => whnf
    refine ⟨fun hf => absurd hf (by decide), fun _ => ?_⟩
    conv => whnf
    refine ⟨_, hlay rfl, ?_⟩
    conv => whnf
    rfl

theorem KeyR_ok (v : Val) (hv : v.big ≤ 4294967280) : CallsF Tryd.prog 9 [v.pv] (keyM v) := by
  obtain ⟨k, b, i, s, l, ks⟩ := v
  refine CallsF.of_vc mixed (fun _ _ => Tryd.call9 _ _) Tryd.func9 (by kernel_rfl) (inl := []) ?_
  conv => whnf
  refine ⟨_, May_ok (.mk k b i s l ks) (by omega), ?_⟩
  have hlay := fun h => Text_ok _ (.mk k b i s l ks) hv (Nat.le_refl _) (lookM_keyed _ 32 0 h)
  unfold keyM mayM
  generalize (lookM (.mk k b i s l ks) 32 0).2 = r at *
  generalize layM (.mk k b i s l ks) = out at *
  cases r with
  | false =>
    conv => whnf
    refine ⟨fun _ => ?_, fun hf => absurd hf (by decide)⟩
    conv => whnf
    rfl
  | true =>
    conv => whnf
    refine ⟨fun hf => absurd hf (by decide), fun _ => ?_⟩
    conv => whnf
    refine ⟨_, hlay rfl, ?_⟩
    conv => whnf
    rfl

/-- Back of 06 01. -/
theorem read61_ok : CallsF Tryd.prog 19 [.str [6, 1], .int .i64 32] (.tup [(Val.mk 1 true 0 [] [] []).pv, .str [], .bool true]) := by
  refine CallsF.norm (r := .tup [.agg [.int .i64 1, .bool true, .int .i64 0, .str [], .nilsl, .nilsl], .str [], .bool true]) ?_ rfl
  refine CallsF.of_vc mixed (fun _ _ => Tryd.call19 _ _) Tryd.func19 (by kernel_rfl) (inl := []) ?_
  conv => whnf
  repeat (refine And.intro (fun h => h) ?_)
  conv => whnf
  refine ⟨fun hf => absurd hf (by decide), fun _ => ?_⟩
  conv => whnf
  refine ⟨6, ⟨by decide, rfl⟩, ?_⟩
  conv => whnf
  refine ⟨1, rfl, ?_⟩
  refine ⟨⟨by decide, by decide⟩, ?_⟩
  conv => whnf
  refine ⟨fun hf => absurd hf (by decide), fun _ => ?_⟩
  conv => whnf
  refine ⟨fun _ => ?_, fun hf => absurd hf (by decide)⟩
  conv => whnf
  repeat (refine And.intro (fun h => h) ?_)
  refine ⟨1, fun _ => ⟨by decide, rfl⟩, ?_⟩
  repeat (refine And.intro (fun h => h) ?_)
  conv => whnf
  refine ⟨fun hf => absurd hf (by decide), fun _ => ?_⟩
  conv => whnf
  refine ⟨1, ⟨by decide, rfl⟩, ?_⟩
  conv => whnf
  refine ⟨1, rfl, ?_⟩
  refine ⟨⟨by decide, by decide⟩, ?_⟩
  conv => whnf
  rfl

theorem back61_ok : CallsF Tryd.prog 11 [.str [6, 1]] (.tup [(Val.mk 1 true 0 [] [] []).pv, .int .i64 0]) := by
  refine CallsF.of_vc mixed (fun _ _ => Tryd.call11 _ _) Tryd.func11 (by kernel_rfl) (inl := []) ?_
  conv => whnf
  refine ⟨_, read61_ok, ?_⟩
  conv => whnf
  repeat (refine And.intro (fun h => h) ?_)
  refine ⟨_, fun _ => Check_ok (.mk 1 true 0 [] [] []) (by decide), ?_⟩
  repeat (refine And.intro (fun h => h) ?_)
  conv => whnf
  refine ⟨fun hf => absurd hf (by decide), fun _ => ?_⟩
  conv => whnf
  rfl

theorem works_ok : CallsF Tryd.prog 10 [] (.bool true) := by
  refine CallsF.of_vc mixed (fun _ _ => Tryd.call10 _ _) Tryd.func10 (by kernel_rfl) (inl := []) ?_
  conv => whnf
  refine ⟨_, CallsF.args (Key_ok (.mk 3 false 0 [97] [] []) (by decide)) rfl, ?_⟩
  conv => whnf
  refine ⟨_, back61_ok, ?_⟩
  repeat (refine And.intro (fun h => h) ?_)
  conv => whnf
  have e1 : mayM (.mk 3 false 0 [97] [] []) = true := by kernel_rfl
  have e2 : layM (.mk 3 false 0 [97] [] []) = [5, 97, 0, 0] := by kernel_rfl
  rw [e1, e2]
  rfl

theorem pvList_beq (l : List UInt8) : (l == l) = true := by simp
theorem RankKeys_ok (v : Val) (hv : v.big ≤ 4294967280) : CallsF Tryd.prog 3 [v.pv] (.bool true) := by
  obtain ⟨k, b, i, s, l, ks⟩ := v
  refine CallsF.of_vc mixed (fun _ _ => Tryd.call3 _ _) Tryd.func3 (by kernel_rfl) (inl := []) ?_
  conv => whnf
  refine ⟨_, Key_ok (.mk k b i s l ks) hv, ?_⟩
  conv => whnf
  refine ⟨_, KeyR_ok (.mk k b i s l ks) hv, ?_⟩
  conv => whnf
  generalize mayM (.mk k b i s l ks) = m
  generalize layM (.mk k b i s l ks) = out
  repeat (refine And.intro (fun h => h) ?_)
  refine ⟨_, fun _ => works_ok, ?_⟩
  repeat (refine And.intro (fun h => h) ?_)
  conv => whnf
  refine congrArg PV.bool ?_
  cases m <;> simp
end Rk
