/- A part of the proof. -/
import Derived.Test.YtkakmigbbipgoaaDoorAxLaw
import Derived.Test.YtkakmigbbipgoaaDoorRkR
import Derived.Test.YtkakmigbbipgoaaDoorCards
import Derived.Test.YtkakmigbbipgoaaDoorTie
import Derived.Deep.DeepHandedRow
import Derived.SevenTiedAt
import Derived.ChangeMaps5
namespace Rk
open Go Go.Proofs Ax Go.RowKit Go.ChangeShapes Go.WideShapes Go.ChangeAt
open Go.Proofs.YtkakmigbbipgoaaDoor Go.ChangeMaps

theorem own : ownKnob Tryd.prog.godebug = none := by kernel_rfl
theorem laidOut : laidOutB Tryd.prog = true := by kernel_rfl
theorem root {W : World} (h : W.ShapedOpen Tryd.prog) : ∃ m, W.cell? ⟨0, 0, none⟩ = some (.int .i64 m) := Tryd.laysM155.s1_3 W h

section
variable {Hd : Type} {enc : TypeId × Value → Hd} {W : World}
theorem reads_arg {v0 : Value} {d0 : DataW Hd} {p : List MemPlace} (h : DataW.Trod enc Tryd.prog W 0 (fun _ => true) true 25 v0 d0 p) : ∃ v : Val, RepP (heapH W) v.pv v0 ∧ v.big ≤ Rows.uptoBulk d0 := by
  obtain ⟨fuel, h⟩ := h
  obtain ⟨v, r, _, hb⟩ := reads_val fuel _ _ h
  exact ⟨v, rep_agg r (by rw [cells_length]; decide), hb⟩
theorem reads_text {v0 : Value} {d0 : DataW Hd} {p : List MemPlace} {b : Nat} (hval : Value.okWide Tryd.prog W .any b 9 v0) (h : DataW.Trod enc Tryd.prog W 0 (fun _ => true) true 9 v0 d0 p) :
    ∃ s : List UInt8, RepP (heapH W) (.str s) v0 ∧ s.length + 1 ≤ Rows.uptoBulk d0 := by
  obtain ⟨s, rfl, rfl, _⟩ := open_string Tryd.underlying9 hval h
  exact ⟨s.data.toList, by simp [RepP], by simp [Rows.uptoBulk]⟩
end

/-- A world for the witness: Go's tables hold what they are laid with. -/
def putCells (cs : List Value) : Obj → Obj
  | .cells _ t frozen => .cells cs.toArray t frozen
  | o => o
noncomputable def laidWorld (os : Os) : World :=
  { World.holding Tryd.prog os ⟨#[], #[], []⟩ with heap := ((World.holding Tryd.prog os ⟨#[], #[], []⟩).heap.modify 1 (putCells (cellsD Rows.laid_unicode_utf8_first))).modify 2 (putCells (cellsD (Rows.laid_unicode_utf8_acceptRanges (H := Unit)))) }
abbrev V0 : Value := .agg #[.int .i64 0, .bool false, .int .i64 0, .string ⟨#[]⟩, .slice none 0 0, .slice none 0 0]
abbrev D0 (H : Type) : DataW H := .agg [.lit (.int .i64 0), .lit (.bool false), .lit (.int .i64 0), .lit (.string []), .nil, .nil]
abbrev S0 : Value := .string ⟨#[]⟩

theorem contract3 (H : Type) (enc : TypeId × Value → H) (W : World) (base : Nat) (args : Array Value) (ds gs : List (DataW H)) (before : List MemPlace)
    (hval : ∀ (j : Nat) t v, Tryd.f3.params[j]? = some t → args[j]? = some v → Value.okWide Tryd.prog W .any base t v)
    (hW : DataW.Whole enc Tryd.prog Tryd.f3.params.toList Rows.rankKeysSpec.vars false W args.toList ds gs before) (hk : Rows.uptoSmall H (ds ++ gs) = true) (hsh : W.ShapedOpen Tryd.prog) :
    Calls Tryd.prog 3 args W fun e W' => ∃ v, e = .returned v ∧ Rows.rankKeysSpec.post enc Tryd.prog Tryd.f3 false true false false W args v W' := by
  have hW' := hW
  obtain ⟨p, q, hA, hV, rfl, hfz, hnd⟩ := hW
  rw [Tryd.params3] at hA hval
  obtain ⟨v0, vs0, d0, ds0, p0, q0, hargs, rfl, rfl, h0, r0⟩ := trodAll_cons hA
  obtain ⟨rfl, rfl, rfl⟩ := trodAll_nil r0
  obtain ⟨x, rx, bx⟩ := reads_arg h0
  have hb := of_decide_eq_true hk
  simp only [List.cons_append, Rows.uptoBulkAll] at hb
  have hc := (RankKeys_ok x (by omega)).calls (fun _ _ => Tryd.call3 _ _) (w := W) (heapH_sat (root hsh)) (vs := args.toList) (by rw [hargs]; simp only [RepL]; exact ⟨_, _, rfl, rx, rfl⟩)
  refine hc.mono fun e W' ⟨v, H', he, c, r⟩ => ⟨v, he, ?_⟩
  simp only [RepP] at r
  subst r
  obtain ⟨-, rfl⟩ : True ∧ gs = [] := ⟨trivial, by obtain ⟨h1, h2⟩ := trodVars_none hV; first | exact h1 | exact h2⟩
  exact post_law (tb := 4) laidOut (by kernel_rfl) hW' c.below rfl rfl (by kernel_rfl) Tryd.underlying4

theorem plain3 (f : FuncId) (fn : Func) (hf : Tryd.pinned.checked.prog.funcNamed "wattle/wattlelaw06.RankKeys" = some f) (hfn : Tryd.pinned.checked.prog.funcs[f]? = some fn) :
    false = Tryd.pinned.checked.prog.looks [] ∧ ∀ (j : Nat) t, fn.params[j]? = some t → Tryd.pinned.checked.prog.wantsStandIn t = false := by
  obtain rfl : f = 3 := Option.some.inj ((show Tryd.prog.funcNamed "wattle/wattlelaw06.RankKeys" = some 3 by kernel_rfl).symm.trans hf) |>.symm
  obtain rfl : fn = Tryd.f3 := (Option.some.inj (Tryd.func3.symm.trans hfn)).symm
  refine ⟨by kernel_rfl, fun j t ht => ?_⟩
  rw [Tryd.params3] at ht
  have := Array.mem_of_getElem? ht
  simp only [List.mem_toArray, List.mem_cons, List.not_mem_nil, or_false] at this
  obtain rfl : t = 25 := this
  exact (show Tryd.prog.wantsStandIn 25 = false by kernel_rfl)

theorem laid_met3 (os : Os) : laidMet Tryd.prog Rows.rankKeysUptoRow.laid ((laidWorld os).forCall (fun _ _ => 0) ⟨#[], #[V0], []⟩).memory :=
  laidMet_of_run' 8 (by kernel_rfl) (by kernel_rfl)
theorem reads3 (os : Os) {H : Type} (enc : TypeId × Value → H) : ∃ places, DataW.whole enc Tryd.prog ((laidWorld os).forCall (fun _ _ => 0) ⟨#[], #[V0], []⟩).memory Tryd.f3.params.toList Rows.rankKeysSpec.vars false #[V0].toList 8 = some ([D0 H], [], places) :=
  ⟨[], by kernel_rfl⟩

set_option maxRecDepth 100000 in
theorem lifted3 (os : Os) (started : os.Started) (H : Type) (enc : TypeId × Value → H) (F : Stop.Interp) :
    ReturnsInHanded {} Tryd.checked os 3 .any ((Rows.OpenSpec.upto Rows.rankKeysSpec).preRow enc Tryd.prog Tryd.f3 Rows.rankKeysUptoRow.domain false Rows.rankKeysUptoRow.laid) (((Rows.OpenSpec.upto Rows.rankKeysSpec).at F).post enc Tryd.prog Tryd.f3 false true false false) := by
  obtain ⟨places, hx⟩ := reads3 os enc
  refine returnsInHanded_of_row (C := Tryd.checked) (s := Rows.OpenSpec.upto Rows.rankKeysSpec) own started (by kernel_rfl) Tryd.func3
    (witness_row_at (enc := enc) (C := Tryd.checked) false (laidWorld os) #[V0] rfl (by kernel_rfl) (by kernel_rfl) (by kernel_rfl)
      (OpenSpec.preRow_of_cond 8 hx (by kernel_rfl) (fun k hk => by cases hk; kernel_rfl) (by kernel_rfl) (laid_met3 os))) ?_
  intro W base args ds gs before hval hW _ hcond _ _ hsh _
  exact contract3 H enc W base args ds gs before hval hW (hcond _ rfl) hsh

theorem saidUpto3 : Rows.RankKeysUptoSaid :=
  OpenClaim.holds_of_cond 3 Tryd.f3 rfl rfl rfl rfl rfl rfl rfl ⟨rfl, rfl, rfl, rfl, rfl⟩ rfl rfl rfl rfl rfl (by kernel_rfl) Tryd.func3 (by kernel_rfl)
    (of_decide_eq_true (by kernel_rfl)) (by unfold Func.isWrapper; first | (rw [if_pos (by decide +kernel)]; kernel_rfl) | (rw [if_neg (by decide +kernel)]; exact ⟨rfl, rfl⟩))
    (fun os started H enc _ F => by rw [OpenClaim.pre_eq_preRow]; exact lifted3 os started H enc F)
theorem cardUpto3 : Rows.RankKeysUptoCardSaid :=
  Claim7.holds_tied_plain_at .later [] _ _ _ _ saidUpto3 (fun _ h => by cases h) (by kernel_rfl) (fun _ h => by cases h) rankKeysUpto_row_tie rfl ⟨rfl, rfl⟩ (by kernel_rfl) rfl plain3 (by kernel_rfl)
end Rk
