/- RankOrder. -/
import Derived.Test.YtkakmigbbipgoaaDoorRgV
import Derived.Test.YtkakmigbbipgoaaDoorRgW
namespace Rk
open Go Go.Proofs Ax Go.RowKit Go.ChangeShapes Go.WideShapes Go.ChangeAt
open Go.Proofs.YtkakmigbbipgoaaDoor Go.ChangeMaps
theorem contract7 (H : Type) (enc : TypeId × Value → H) (W : World) (base : Nat) (args : Array Value) (ds gs : List (DataW H)) (before : List MemPlace)
    (hval : ∀ (j : Nat) t v, Tryd.f7.params[j]? = some t → args[j]? = some v → Value.okWide Tryd.prog W .any base t v)
    (hW : DataW.Whole enc Tryd.prog Tryd.f7.params.toList Rows.rankOrderSpec.vars false W args.toList ds gs before) (hk : Rows.uptoSmall H (ds ++ gs) = true) (hsh : W.ShapedOpen Tryd.prog) :
    Calls Tryd.prog 7 args W fun e W' => ∃ v, e = .returned v ∧ Rows.rankOrderSpec.post enc Tryd.prog Tryd.f7 false true false false W args v W' := by
  have hW' := hW
  obtain ⟨p, q, hA, hV, rfl, hfz, hnd⟩ := hW
  rw [Tryd.params7] at hA hval
  obtain ⟨v0, vs0, d0, ds0, p0, q0, hargs0, rfl, rfl, h0, r0⟩ := trodAll_cons hA
  obtain ⟨v1, vs1, d1, ds1, p1, q1, hargs1, rfl, rfl, h1, r1⟩ := trodAll_cons r0
  obtain ⟨rfl, rfl, rfl⟩ := trodAll_nil r1
  subst hargs1
  obtain ⟨x0, rx0, bx0, ix0⟩ := reads_argR h0
  obtain ⟨x1, rx1, bx1, ix1⟩ := reads_argR h1
  have hb := of_decide_eq_true hk
  simp only [List.cons_append, Rows.uptoBulkAll] at hb
  have hc := (F7_ok 67108864 _ _ _ (F7_true 67108864 x0 x1 (by omega) ix0 (by omega) ix1 (by omega))).calls (fun _ _ => Tryd.call7 _ _) (w := W) (heapH_sat (root hsh)) (vs := args.toList) (by rw [hargs0]; simp only [RepL]; exact ⟨_, _, rfl, rx0, ⟨_, _, rfl, rx1, rfl⟩⟩)
  refine hc.mono fun e W' ⟨v, H', he, c, r⟩ => ⟨v, he, ?_⟩
  simp only [RepP] at r
  subst r
  obtain ⟨-, rfl⟩ : True ∧ gs = [] := ⟨trivial, by obtain ⟨h1, h2⟩ := trodVars_none hV; first | exact h1 | exact h2⟩
  exact post_law (tb := 4) laidOut (by kernel_rfl) hW' c.below rfl rfl (by kernel_rfl) Tryd.underlying4

theorem plain7 (f : FuncId) (fn : Func) (hf : Tryd.pinned.checked.prog.funcNamed "wattle/wattlelaw06.RankOrder" = some f) (hfn : Tryd.pinned.checked.prog.funcs[f]? = some fn) :
    false = Tryd.pinned.checked.prog.looks [] ∧ ∀ (j : Nat) t, fn.params[j]? = some t → Tryd.pinned.checked.prog.wantsStandIn t = false := by
  obtain rfl : f = 7 := Option.some.inj ((show Tryd.prog.funcNamed "wattle/wattlelaw06.RankOrder" = some 7 by kernel_rfl).symm.trans hf) |>.symm
  obtain rfl : fn = Tryd.f7 := (Option.some.inj (Tryd.func7.symm.trans hfn)).symm
  refine ⟨by kernel_rfl, fun j t ht => ?_⟩
  rw [Tryd.params7] at ht
  have := Array.mem_of_getElem? ht
  simp only [List.mem_toArray, List.mem_cons, List.not_mem_nil, or_false] at this
  rcases this with rfl | rfl <;> first | exact (show Tryd.prog.wantsStandIn 25 = false by kernel_rfl) | exact (show Tryd.prog.wantsStandIn 9 = false by kernel_rfl)

theorem laid_met7 (os : Os) : laidMet Tryd.prog Rows.rankOrderUptoRow.laid ((laidWorld os).forCall (fun _ _ => 0) ⟨#[], #[V0, V0], []⟩).memory :=
  laidMet_of_run' 8 (by kernel_rfl) (by kernel_rfl)
theorem reads7 (os : Os) {H : Type} (enc : TypeId × Value → H) : ∃ places, DataW.whole enc Tryd.prog ((laidWorld os).forCall (fun _ _ => 0) ⟨#[], #[V0, V0], []⟩).memory Tryd.f7.params.toList Rows.rankOrderSpec.vars false #[V0, V0].toList 8 = some ([D0 H, D0 H], [], places) :=
  ⟨[], by kernel_rfl⟩

set_option maxRecDepth 100000 in
theorem lifted7 (os : Os) (started : os.Started) (H : Type) (enc : TypeId × Value → H) (F : Stop.Interp) :
    ReturnsInHanded {} Tryd.checked os 7 .any ((Rows.OpenSpec.upto Rows.rankOrderSpec).preRow enc Tryd.prog Tryd.f7 Rows.rankOrderUptoRow.domain false Rows.rankOrderUptoRow.laid) (((Rows.OpenSpec.upto Rows.rankOrderSpec).at F).post enc Tryd.prog Tryd.f7 false true false false) := by
  obtain ⟨places, hx⟩ := reads7 os enc
  refine returnsInHanded_of_row (C := Tryd.checked) (s := Rows.OpenSpec.upto Rows.rankOrderSpec) own started (by kernel_rfl) Tryd.func7
    (witness_row_at (enc := enc) (C := Tryd.checked) false (laidWorld os) #[V0, V0] rfl (by kernel_rfl) (by kernel_rfl) (by kernel_rfl)
      (OpenSpec.preRow_of_cond 8 hx (by kernel_rfl) (fun k hk => by cases hk; kernel_rfl) (by kernel_rfl) (laid_met7 os))) ?_
  intro W base args ds gs before hval hW _ hcond _ _ hsh _
  exact contract7 H enc W base args ds gs before hval hW (hcond _ rfl) hsh

theorem saidUpto7 : Rows.RankOrderUptoSaid :=
  OpenClaim.holds_of_cond 7 Tryd.f7 rfl rfl rfl rfl rfl rfl rfl ⟨rfl, rfl, rfl, rfl, rfl⟩ rfl rfl rfl rfl rfl (by kernel_rfl) Tryd.func7 (by kernel_rfl)
    (of_decide_eq_true (by kernel_rfl)) (by unfold Func.isWrapper; first | (rw [if_pos (by decide +kernel)]; kernel_rfl) | (rw [if_neg (by decide +kernel)]; exact ⟨rfl, rfl⟩))
    (fun os started H enc _ F => by rw [OpenClaim.pre_eq_preRow]; exact lifted7 os started H enc F)
theorem cardUpto7 : Rows.RankOrderUptoCardSaid :=
  Claim7.holds_tied_plain_at .later [] _ _ _ _ saidUpto7 (fun _ h => by cases h) (by kernel_rfl) (fun _ h => by cases h) rankOrderUpto_row_tie rfl ⟨rfl, rfl⟩ (by kernel_rfl) rfl plain7 (by kernel_rfl)
end Rk
