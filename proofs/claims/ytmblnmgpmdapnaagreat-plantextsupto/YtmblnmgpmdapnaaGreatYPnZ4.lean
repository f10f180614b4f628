/- A part of the proof: the plain law. -/
import Derived.Test.YtmblnmgpmdapnaaGreatK
import Derived.Test.YtmblnmgpmdapnaaGreatL
import Derived.Test.YtmblnmgpmdapnaaGreatM
set_option linter.unusedVariables false
set_option linter.unusedSimpArgs false
set_option linter.unnecessarySimpa false
set_option linter.deprecated false
set_option linter.unusedSectionVars false
set_option linter.constructorNameAsVariable false
section
namespace W
open Go Go.Proofs Ax Go.RowKit Go.ChangeShapes Go.WideShapes Go.ChangeAt
open Go.Proofs.YtmblnmgpmdapnaaGreat Go.ChangeMaps
set_option maxRecDepth 100000 in
theorem zn7 (H:Type) (enc:TypeId×Value->H) (W:World) (base:Nat) (args:Array Value) (ds gs:List (DataW H)) (before:List MemPlace)
  (hval:∀ (j:Nat) t v,Tryz.f4.params[j]? =some t->args[j]? =some v->Value.okWide Tryz.prog W .any base t v)
  (hW:DataW.Whole enc Tryz.prog Tryz.f4.params.toList Rows.planTextsSpec.vars false W args.toList ds gs before) (hk:Rows.uptoSmall H (ds++gs)=true) (hsh:W.ShapedOpen Tryz.prog) :
  Calls Tryz.prog 4 args W fun e W'=>∃ v,e=.returned v/\Rows.planTextsSpec.post enc Tryz.prog Tryz.f4 false true false false W args v W':=by
 have hW':=hW;obtain⟨p,q,hA,hV,rfl,hfz,hnd⟩:=hW;rw[Tryz.params4]at hA hval;obtain⟨v0,vs0,d0,ds0,p0,q0,hargs0,rfl,rfl,h0,r0⟩:=trodAll_cons hA;obtain⟨rfl,rfl,rfl⟩:=trodAll_nil r0;obtain⟨x0,rx0,bx0⟩:=zia (hval 0 27 v0 rfl (by have:=congrArg (fun l=>l[0]?) hargs0; simpa using this)) h0
 have hb:=of_decide_eq_true hk;simp only[List.cons_append,Rows.uptoBulkAll]at hb;have hc:=(q3c 67108864 _ _ (zpo (n:=67108864) (by decide) (by decide) (l:=x0) (by omega))).calls (fun _ _=>Tryz.call4 _ _) (w:=W) (qzz (root hsh)) (vs:=args.toList) (by rw[hargs0]; simp only[qdk]; exact⟨_,_,rfl,rx0,rfl⟩)
 refine hc.mono fun e W' ⟨v,H',he,c,r⟩=>⟨v,he,?_⟩;simp only[qco]at r;subst r;obtain⟨-,rfl⟩:True/\gs=[]:=⟨trivial,by obtain⟨h1,h2⟩:=trodVars_none hV; first|exact h1|exact h2⟩
 exact q4h (tb:=4) q5t (by kernel_rfl) hW' c.below rfl rfl (by kernel_rfl) Tryz.underlying4
theorem zpi (os:Os):laidMet Tryz.prog Rows.planTextsUptoRow.laid ((qtb os).forCall (fun _ _=>0) ⟨#[],#[VG],[]⟩).memory:=
 laidMet_of_run' 8 (by kernel_rfl) (by kernel_rfl)
theorem zwz (os:Os) {H:Type} (enc:TypeId×Value->H):∃ places,DataW.whole enc Tryz.prog ((qtb os).forCall (fun _ _=>0) ⟨#[],#[VG],[]⟩).memory Tryz.f4.params.toList Rows.planTextsSpec.vars false #[VG].toList 8=some ([DG H],[],places):=
 ⟨[],by kernel_rfl⟩
set_option maxRecDepth 100000 in
theorem zu8 (os:Os) (started:os.Started) (H:Type) (enc:TypeId×Value->H) (F:Stop.Interp) :
  ReturnsInHanded {} Tryz.checked os 4 .any ((Rows.OpenSpec.upto Rows.planTextsSpec).preRow enc Tryz.prog Tryz.f4 Rows.planTextsUptoRow.domain false Rows.planTextsUptoRow.laid) (((Rows.OpenSpec.upto Rows.planTextsSpec).at F).post enc Tryz.prog Tryz.f4 false true false false):=by
 obtain⟨places,hx⟩:=zwz os enc;refine returnsInHanded_of_row (C:=Tryz.checked) (s:=Rows.OpenSpec.upto Rows.planTextsSpec) own started (by kernel_rfl) Tryz.func4
  (witness_row_at (enc:=enc) (C:=Tryz.checked) false (qtb os) #[VG] rfl (by kernel_rfl) (by kernel_rfl) (by kernel_rfl)
   (OpenSpec.preRow_of_cond 8 hx (by kernel_rfl) (fun k hk=>by cases hk; kernel_rfl) (by kernel_rfl) (zpi os))) ?_
 intro W base args ds gs before hval hW _ hcond _ _ hsh _;exact zn7 H enc W base args ds gs before hval hW (hcond _ rfl) hsh
theorem saidUpto4:Rows.PlanTextsUptoSaid:=
 OpenClaim.holds_of_cond 4 Tryz.f4 rfl rfl rfl rfl rfl rfl rfl ⟨rfl,rfl,rfl,rfl,rfl⟩ rfl rfl rfl rfl rfl (by kernel_rfl) Tryz.func4 (by kernel_rfl)
  (of_decide_eq_true (by kernel_rfl)) (by unfold Func.isWrapper; first|(rw[if_pos (by decide +kernel)]; kernel_rfl)|(rw[if_neg (by decide +kernel)]; exact⟨rfl,rfl⟩))
  (fun os started H enc _ F=>by rw[OpenClaim.pre_eq_preRow]; exact zu8 os started H enc F)
end W
end
