/- A part of the proof: the plain law. -/
import Derived.Test.YtmblnmgpmdapnaaGreatK
import Derived.Test.YtmblnmgpmdapnaaGreatM
set_option linter.unusedVariables false
set_option linter.unusedSimpArgs false
set_option linter.unnecessarySimpa false
set_option linter.deprecated false
set_option linter.unusedSectionVars false
set_option linter.constructorNameAsVariable false
section
namespace W
open Go Go.Proofs Ax Go.RowKit Go.ChangeShapes Go.WideShapes Go.ChangeAt
open Go.Proofs.YtmblnmgpmdapnaaGreat Go.ChangeMaps
set_option maxRecDepth 100000 in
theorem zn6 (H:Type) (enc:TypeId×Value->H) (W:World) (base:Nat) (args:Array Value) (ds gs:List (DataW H)) (before:List MemPlace)
  (hval:∀ (j:Nat) t v,Tryz.f3.params[j]? =some t->args[j]? =some v->Value.okWide Tryz.prog W .any base t v)
  (hW:DataW.Whole enc Tryz.prog Tryz.f3.params.toList Rows.planStagesSpec.vars false W args.toList ds gs before) (hk:Rows.uptoSmall H (ds++gs)=true) (hsh:W.ShapedOpen Tryz.prog) :
  Calls Tryz.prog 3 args W fun e W'=>∃ v,e=.returned v/\Rows.planStagesSpec.post enc Tryz.prog Tryz.f3 false true false false W args v W':=by
 have hW':=hW;obtain⟨p,q,hA,hV,rfl,hfz,hnd⟩:=hW;rw[Tryz.params3]at hA hval;obtain⟨v0,vs0,d0,ds0,p0,q0,hargs0,rfl,rfl,h0,r0⟩:=trodAll_cons hA;obtain⟨rfl,rfl,rfl⟩:=trodAll_nil r0;obtain⟨⟨x0⟩,rx0,bx0⟩:=q0q (hval 0 24 v0 rfl (by have:=congrArg (fun l=>l[0]?) hargs0; simpa using this)) h0
 have bx0:qca x0<=Rows.uptoBulk d0:=bx0;have hb:=kod hk;simp only[List.cons_append,Rows.uptoBulkAll]at hb;have hc:=(q17 67108864 _ _ (zmh (n:=67108864) (by decide) (cl:=x0) (by omega) (fun c hc=>q72 (by have:=qbt qda hc; unfold qca at bx0; omega)) (by omega) (by decide))).calls (fun _ _=>Tryz.call3 _ _) (w:=W) (qzz (root hsh)) (vs:=args.toList) (by rw[hargs0]; simp only[qdi]; exact⟨_,_,rfl,rx0,rfl⟩)
 refine hc.mono fun e W' ⟨v,H',he,c,r⟩=>⟨v,he,?_⟩;simp only[qco]at r;subst r;obtain⟨-,rfl⟩:True/\gs=[]:=⟨trivial,by obtain⟨h1,h2⟩:=trodVars_none hV; first|exact h1|exact h2⟩
 exact q4h (tb:=4) q5t (by kernel_rfl) hW' c.below rfl rfl (by kernel_rfl) Tryz.underlying4
theorem zpi (os:Os):laidMet Tryz.prog Rows.planStagesUptoRow.laid ((qtb os).forCall (fun _ _=>0) ⟨#[],#[VM],[]⟩).memory:=
 laidMet_of_run' 8 (by kernel_rfl) (by kernel_rfl)
theorem zwy (os:Os) {H:Type} (enc:TypeId×Value->H):∃ places,DataW.whole enc Tryz.prog ((qtb os).forCall (fun _ _=>0) ⟨#[],#[VM],[]⟩).memory Tryz.f3.params.toList Rows.planStagesSpec.vars false #[VM].toList 8=some ([DM H],[],places):=
 ⟨[],by kernel_rfl⟩
set_option maxRecDepth 100000 in
theorem zu7 (os:Os) (started:os.Started) (H:Type) (enc:TypeId×Value->H) (F:Stop.Interp) :
  ReturnsInHanded {} Tryz.checked os 3 .any ((Rows.OpenSpec.upto Rows.planStagesSpec).preRow enc Tryz.prog Tryz.f3 Rows.planStagesUptoRow.domain false Rows.planStagesUptoRow.laid) (((Rows.OpenSpec.upto Rows.planStagesSpec).at F).post enc Tryz.prog Tryz.f3 false true false false):=by
 obtain⟨places,hx⟩:=zwy os enc;refine returnsInHanded_of_row (C:=Tryz.checked) (s:=Rows.OpenSpec.upto Rows.planStagesSpec) own started (by kernel_rfl) Tryz.func3
  (witness_row_at (enc:=enc) (C:=Tryz.checked) false (qtb os) #[VM] rfl (by kernel_rfl) (by kernel_rfl) (by kernel_rfl)
   (OpenSpec.preRow_of_cond 8 hx (by kernel_rfl) (fun k hk=>by cases hk; kernel_rfl) (by kernel_rfl) (zpi os))) ?_
 intro W base args ds gs before hval hW _ hcond _ _ hsh _;exact zn6 H enc W base args ds gs before hval hW (hcond _ rfl) hsh
theorem saidUpto3:Rows.PlanStagesUptoSaid:=
 OpenClaim.holds_of_cond 3 Tryz.f3 rfl rfl rfl rfl rfl rfl rfl ⟨rfl,rfl,rfl,rfl,rfl⟩ rfl rfl rfl rfl rfl (by kernel_rfl) Tryz.func3 (by kernel_rfl)
  (kod (by kernel_rfl)) (by unfold Func.isWrapper; first|(rw[if_pos (by decide +kernel)]; kernel_rfl)|(rw[if_neg (by decide +kernel)]; exact⟨rfl,rfl⟩))
  (fun os started H enc _ F=>by rw[OpenClaim.pre_eq_preRow]; exact zu7 os started H enc F)
end W
end
