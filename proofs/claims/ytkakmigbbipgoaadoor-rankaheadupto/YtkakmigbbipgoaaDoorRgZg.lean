/- RankAhead. -/
import Derived.Test.YtkakmigbbipgoaaDoorRgV
namespace Rk
open Go Go.Proofs Ax Go.RowKit Go.ChangeShapes Go.WideShapes Go.ChangeAt
open Go.Proofs.YtkakmigbbipgoaaDoor Go.ChangeMaps
theorem contract6 (H : Type) (enc : TypeId × Value → H) (W : World) (base : Nat) (args : Array Value) (ds gs : List (DataW H)) (before : List MemPlace)
    (hval : ∀ (j : Nat) t v, Tryd.f6.params[j]? = some t → args[j]? = some v → Value.okWide Tryd.prog W .any base t v)
    (hW : DataW.Whole enc Tryd.prog Tryd.f6.params.toList Rows.rankAheadSpec.vars false W args.toList ds gs before) (hk : Rows.uptoSmall H (ds ++ gs) = true) (hsh : W.ShapedOpen Tryd.prog) :
    Calls Tryd.prog 6 args W fun e W' => ∃ v, e = .returned v ∧ Rows.rankAheadSpec.post enc Tryd.prog Tryd.f6 false true false false W args v W' := by
  have hW' := hW
  obtain ⟨p, q, hA, hV, rfl, hfz, hnd⟩ := hW
  rw [Tryd.params6] at hA hval
  obtain ⟨v0, vs0, d0, ds0, p0, q0, hargs0, rfl, rfl, h0, r0⟩ := trodAll_cons hA
  obtain ⟨v1, vs1, d1, ds1, p1, q1, hargs1, rfl, rfl, h1, r1⟩ := trodAll_cons r0
  obtain ⟨v2, vs2, d2, ds2, p2, q2, hargs2, rfl, rfl, h2, r2⟩ := trodAll_cons r1
  obtain ⟨rfl, rfl, rfl⟩ := trodAll_nil r2
  subst hargs1
  subst hargs2
  obtain ⟨x0, rx0, bx0, ix0⟩ := reads_argR h0
  obtain ⟨x1, rx1, bx1, ix1⟩ := reads_argR h1
  obtain ⟨x2, rx2, bx2⟩ := reads_text (hval 2 9 v2 rfl (by have := congrArg (fun l => l[2]?) hargs0; simpa using this)) h2
  have hb := of_decide_eq_true hk
  simp only [List.cons_append, Rows.uptoBulkAll] at hb
  have hc := (F6_ok 67108864 _ _ _ _ (F6_true 67108864 x0 x1 x2 (by omega) ix0 (by omega) ix1 (by omega) (by omega))).calls (fun _ _ => Tryd.call6 _ _) (w := W) (heapH_sat (root hsh)) (vs := args.toList) (by rw [hargs0]; simp only [RepL]; exact ⟨_, _, rfl, rx0, ⟨_, _, rfl, rx1, ⟨_, _, rfl, rx2, rfl⟩⟩⟩)
  refine hc.mono fun e W' ⟨v, H', he, c, r⟩ => ⟨v, he, ?_⟩
  simp only [RepP] at r
  subst r
  obtain ⟨-, rfl⟩ : True ∧ gs = [] := ⟨trivial, by obtain ⟨h1, h2⟩ := trodVars_none hV; first | exact h1 | exact h2⟩
  exact post_law (tb := 4) laidOut (by kernel_rfl) hW' c.below rfl rfl (by kernel_rfl) Tryd.underlying4

theorem plain6 (f : FuncId) (fn : Func) (hf : Tryd.pinned.checked.prog.funcNamed "wattle/wattlelaw06.RankAhead" = some f) (hfn : Tryd.pinned.checked.prog.funcs[f]? = some fn) :
    false = Tryd.pinned.checked.prog.looks [] ∧ ∀ (j : Nat) t, fn.params[j]? = some t → Tryd.pinned.checked.prog.wantsStandIn t = false := by
  obtain rfl : f = 6 := Option.some.inj ((show Tryd.prog.funcNamed "wattle/wattlelaw06.RankAhead" = some 6 by kernel_rfl).symm.trans hf) |>.symm
  obtain rfl : fn = Tryd.f6 := (Option.some.inj (Tryd.func6.symm.trans hfn)).symm
  refine ⟨by kernel_rfl, fun j t ht => ?_⟩
  rw [Tryd.params6] at ht
  have := Array.mem_of_getElem? ht
  simp only [List.mem_toArray, List.mem_cons, List.not_mem_nil, or_false] at this
  rcases this with rfl | rfl | rfl <;> first | exact (show Tryd.prog.wantsStandIn 25 = false by kernel_rfl) | exact (show Tryd.prog.wantsStandIn 9 = false by kernel_rfl)

theorem laid_met6 (os : Os) : laidMet Tryd.prog Rows.rankAheadUptoRow.laid ((laidWorld os).forCall (fun _ _ => 0) ⟨#[], #[V0, V0, S0], []⟩).memory :=
  laidMet_of_run' 8 (by kernel_rfl) (by kernel_rfl)
theorem reads6 (os : Os) {H : Type} (enc : TypeId × Value → H) : ∃ places, DataW.whole enc Tryd.prog ((laidWorld os).forCall (fun _ _ => 0) ⟨#[], #[V0, V0, S0], []⟩).memory Tryd.f6.params.toList Rows.rankAheadSpec.vars false #[V0, V0, S0].toList 8 = some ([D0 H, D0 H, .lit (.string [])], [], places) :=
  ⟨[], by kernel_rfl⟩

set_option maxRecDepth 100000 in
theorem lifted6 (os : Os) (started : os.Started) (H : Type) (enc : TypeId × Value → H) (F : Stop.Interp) :
    ReturnsInHanded {} Tryd.checked os 6 .any ((Rows.OpenSpec.upto Rows.rankAheadSpec).preRow enc Tryd.prog Tryd.f6 Rows.rankAheadUptoRow.domain false Rows.rankAheadUptoRow.laid) (((Rows.OpenSpec.upto Rows.rankAheadSpec).at F).post enc Tryd.prog Tryd.f6 false true false false) := by
  obtain ⟨places, hx⟩ := reads6 os enc
  refine returnsInHanded_of_row (C := Tryd.checked) (s := Rows.OpenSpec.upto Rows.rankAheadSpec) own started (by kernel_rfl) Tryd.func6
    (witness_row_at (enc := enc) (C := Tryd.checked) false (laidWorld os) #[V0, V0, S0] rfl (by kernel_rfl) (by kernel_rfl) (by kernel_rfl)
      (OpenSpec.preRow_of_cond 8 hx (by kernel_rfl) (fun k hk => by cases hk; kernel_rfl) (by kernel_rfl) (laid_met6 os))) ?_
  intro W base args ds gs before hval hW _ hcond _ _ hsh _
  exact contract6 H enc W base args ds gs before hval hW (hcond _ rfl) hsh

theorem saidUpto6 : Rows.RankAheadUptoSaid :=
  OpenClaim.holds_of_cond 6 Tryd.f6 rfl rfl rfl rfl rfl rfl rfl ⟨rfl, rfl, rfl, rfl, rfl⟩ rfl rfl rfl rfl rfl (by kernel_rfl) Tryd.func6 (by kernel_rfl)
    (of_decide_eq_true (by kernel_rfl)) (by unfold Func.isWrapper; first | (rw [if_pos (by decide +kernel)]; kernel_rfl) | (rw [if_neg (by decide +kernel)]; exact ⟨rfl, rfl⟩))
    (fun os started H enc _ F => by rw [OpenClaim.pre_eq_preRow]; exact lifted6 os started H enc F)
theorem cardUpto6 : Rows.RankAheadUptoCardSaid :=
  Claim7.holds_tied_plain_at .later [] _ _ _ _ saidUpto6 (fun _ h => by cases h) (by kernel_rfl) (fun _ h => by cases h) rankAheadUpto_row_tie rfl ⟨rfl, rfl⟩ (by kernel_rfl) rfl plain6 (by kernel_rfl)
end Rk
