/- A part of the proof: the plain law. -/
import Derived.Test.YtgbnebnnphdenaaGreatI
import Derived.Test.YtgbnebnnphdenaaGreatJ
set_option linter.unusedVariables false
set_option linter.unusedSimpArgs false
set_option linter.unnecessarySimpa false
set_option linter.deprecated false
set_option linter.unusedSectionVars false
set_option linter.constructorNameAsVariable false
section
namespace W
open Go Go.Proofs Ax Go.RowKit Go.ChangeShapes Go.WideShapes Go.ChangeAt
open Go.Proofs.YtgbnebnnphdenaaGreat Go.ChangeMaps
set_option maxRecDepth 100000 in
theorem iz (H:Type) (enc:TypeId×Value->H) (W:World) (base:Nat) (args:Array Value) (k gs:List (DataW H)) (before:List MemPlace)
  (b:∀ (j:Nat) t v,Tryz.f5.params[j]? =some t->args[j]? =some v->Value.okWide Tryz.prog W .any base t v)
  (m:DataW.Whole enc Tryz.prog Tryz.f5.params.toList Rows.evalBindsSpec.vars false W args.toList k gs before) (u:Rows.uptoSmall H (k++gs)=true) (f:W.ShapedOpen Tryz.prog) :
  Calls Tryz.prog 5 args W fun e n=>∃ v,e=.returned v/\Rows.evalBindsSpec.post enc Tryz.prog Tryz.f5 false true false false W args v n:=by
 have g:=m;obtain⟨p,q,o,x,rfl,y,z⟩:=m;rw[Tryz.params5]at o b;obtain⟨v0,A,d0,B,M,N,a,rfl,rfl,C,r0⟩:=trodAll_cons o;obtain⟨v1,D,d1,E,O,P,d,rfl,rfl,h1,F⟩:=trodAll_cons r0;obtain⟨rfl,rfl,rfl⟩:=trodAll_nil F;subst d;obtain⟨G,h,I⟩:=rC (b 0 28 v0 rfl (by have:=congrArg (fun l=>l[0]?) a; simpa using this)) C
 obtain⟨s,i,J⟩:=Zv (b 1 36 v1 rfl (by have:=congrArg (fun l=>l[1]?) a; simpa using this)) h1
 have ba1:=Uy s;have K:=kod u;simp only[List.cons_append,Rows.uptoBulkAll]at K;have L:=(Uh 68719476736 G s true (lE (by omega))).calls (fun _ _=>Tryz.call5 _ _) (w:=W) (UD (root f)) (vs:=args.toList) (by rw[a]; simp only[zz]; exact⟨_,_,rfl,h,⟨_,_,rfl,i,rfl⟩⟩)
 refine L.mono fun e n ⟨v,H',he,c,r⟩=>⟨v,he,?_⟩;simp only[qP]at r;subst r;obtain⟨-,rfl⟩:True/\gs=[]:=⟨trivial,by obtain⟨h1,h2⟩:=trodVars_none x; first|exact h1|exact h2⟩
 exact Cp (tb:=4) LH (by kernel_rfl) g c.below rfl rfl (by kernel_rfl) Tryz.underlying4
theorem lB (os:Os):laidMet Tryz.prog Rows.evalBindsUptoRow.laid ((ZI os).forCall (fun _ _=>0) ⟨#[],#[VE,VA],[]⟩).memory:=
 laidMet_of_run' 8 (by kernel_rfl) (by kernel_rfl)
theorem qen (os:Os) {H:Type} (enc:TypeId×Value->H):∃ places,DataW.whole enc Tryz.prog ((ZI os).forCall (fun _ _=>0) ⟨#[],#[VE,VA],[]⟩).memory Tryz.f5.params.toList Rows.evalBindsSpec.vars false #[VE,VA].toList 8=some ([DE H,DA H],[],places):=
 ⟨[],by kernel_rfl⟩
set_option maxRecDepth 100000 in
theorem qb0 (os:Os) (started:os.Started) (H:Type) (enc:TypeId×Value->H) (F:Stop.Interp) :
  ReturnsInHanded {} Tryz.checked os 5 .any ((Rows.OpenSpec.upto Rows.evalBindsSpec).preRow enc Tryz.prog Tryz.f5 Rows.evalBindsUptoRow.domain false Rows.evalBindsUptoRow.laid) (((Rows.OpenSpec.upto Rows.evalBindsSpec).at F).post enc Tryz.prog Tryz.f5 false true false false):=by
 obtain⟨places,c⟩:=qen os enc;refine returnsInHanded_of_row (C:=Tryz.checked) (s:=Rows.OpenSpec.upto Rows.evalBindsSpec) own started (by kernel_rfl) Tryz.func5
  (witness_row_at (enc:=enc) (C:=Tryz.checked) false (ZI os) #[VE,VA] rfl (by kernel_rfl) (by kernel_rfl) (by kernel_rfl)
   (OpenSpec.preRow_of_cond 8 c (by kernel_rfl) (fun k d=>by cases d; kernel_rfl) (by kernel_rfl) (lB os))) ?_
 intro W base args e gs before a f _ hcond _ _ b _;exact iz H enc W base args e gs before a f (hcond _ rfl) b
theorem saidUpto5:Rows.EvalBindsUptoSaid:=
 OpenClaim.holds_of_cond 5 Tryz.f5 rfl rfl rfl rfl rfl rfl rfl ⟨rfl,rfl,rfl,rfl,rfl⟩ rfl rfl rfl rfl rfl (by kernel_rfl) Tryz.func5 qd1
  (kod (by kernel_rfl)) (by unfold Func.isWrapper; first|(rw[if_pos (by decide +kernel)]; kernel_rfl)|(rw[if_neg (by decide +kernel)]; exact⟨rfl,rfl⟩))
  (fun os started H enc _ F=>by rw[OpenClaim.pre_eq_preRow]; exact qb0 os started H enc F)
end W
end
