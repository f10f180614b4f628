/- A part of the proof: the plain law. -/
import Derived.Test.YtgbnebnnphdenaaGreatI
import Derived.Test.YtgbnebnnphdenaaGreatJ
set_option linter.unusedVariables false
set_option linter.unusedSimpArgs false
set_option linter.unnecessarySimpa false
set_option linter.deprecated false
set_option linter.unusedSectionVars false
set_option linter.constructorNameAsVariable false
section
namespace W
open Go Go.Proofs Ax Go.RowKit Go.ChangeShapes Go.WideShapes Go.ChangeAt
open Go.Proofs.YtgbnebnnphdenaaGreat Go.ChangeMaps
set_option maxRecDepth 100000 in
theorem iy (H:Type) (enc:TypeId×Value->H) (W:World) (base:Nat) (args:Array Value) (n gs:List (DataW H)) (before:List MemPlace)
  (b:∀ (j:Nat) t v,Tryz.f4.params[j]? =some t->args[j]? =some v->Value.okWide Tryz.prog W .any base t v)
  (o:DataW.Whole enc Tryz.prog Tryz.f4.params.toList Rows.evalPartsSpec.vars false W args.toList n gs before) (y:Rows.uptoSmall H (n++gs)=true) (g:W.ShapedOpen Tryz.prog) :
  Calls Tryz.prog 4 args W fun e s=>∃ v,e=.returned v/\Rows.evalPartsSpec.post enc Tryz.prog Tryz.f4 false true false false W args v s:=by
 have h:=o;obtain⟨p,q,u,z,rfl,A,B⟩:=o;rw[Tryz.params4]at u b;obtain⟨v0,C,d0,D,T,U,a,rfl,rfl,E,r0⟩:=trodAll_cons u;obtain⟨v1,F,d1,G,V,X,d,rfl,rfl,h1,I⟩:=trodAll_cons r0;obtain⟨v2,J,d2,K,Y,Z,f,rfl,rfl,h2,L⟩:=trodAll_cons I;obtain⟨rfl,rfl,rfl⟩:=trodAll_nil L;subst d;subst f;obtain⟨M,i,N⟩:=rC (b 0 28 v0 rfl (by have:=congrArg (fun l=>l[0]?) a; simpa using this)) E
 obtain⟨O,k,P⟩:=rC (b 1 28 v1 rfl (by have:=congrArg (fun l=>l[1]?) a; simpa using this)) h1
 obtain⟨x,m,Q⟩:=Zv (b 2 36 v2 rfl (by have:=congrArg (fun l=>l[2]?) a; simpa using this)) h2
 have ba2:=Uy x;have R:=kod y;simp only[List.cons_append,Rows.uptoBulkAll]at R;have S:=(Ui 68719476736 M O x true (lF (by omega))).calls (fun _ _=>Tryz.call4 _ _) (w:=W) (UD (root g)) (vs:=args.toList) (by rw[a]; simp only[zz]; exact⟨_,_,rfl,i,⟨_,_,rfl,k,⟨_,_,rfl,m,rfl⟩⟩⟩)
 refine S.mono fun e s ⟨v,H',he,c,r⟩=>⟨v,he,?_⟩;simp only[qP]at r;subst r;obtain⟨-,rfl⟩:True/\gs=[]:=⟨trivial,by obtain⟨h1,h2⟩:=trodVars_none z; first|exact h1|exact h2⟩
 exact Cp (tb:=4) LH (by kernel_rfl) h c.below rfl rfl (by kernel_rfl) Tryz.underlying4
theorem lA (os:Os):laidMet Tryz.prog Rows.evalPartsUptoRow.laid ((ZI os).forCall (fun _ _=>0) ⟨#[],#[VE,VE,VA],[]⟩).memory:=
 laidMet_of_run' 8 (by kernel_rfl) (by kernel_rfl)
theorem qem (os:Os) {H:Type} (enc:TypeId×Value->H):∃ places,DataW.whole enc Tryz.prog ((ZI os).forCall (fun _ _=>0) ⟨#[],#[VE,VE,VA],[]⟩).memory Tryz.f4.params.toList Rows.evalPartsSpec.vars false #[VE,VE,VA].toList 8=some ([DE H,DE H,DA H],[],places):=
 ⟨[],by kernel_rfl⟩
set_option maxRecDepth 100000 in
theorem qbz (os:Os) (started:os.Started) (H:Type) (enc:TypeId×Value->H) (F:Stop.Interp) :
  ReturnsInHanded {} Tryz.checked os 4 .any ((Rows.OpenSpec.upto Rows.evalPartsSpec).preRow enc Tryz.prog Tryz.f4 Rows.evalPartsUptoRow.domain false Rows.evalPartsUptoRow.laid) (((Rows.OpenSpec.upto Rows.evalPartsSpec).at F).post enc Tryz.prog Tryz.f4 false true false false):=by
 obtain⟨places,c⟩:=qem os enc;refine returnsInHanded_of_row (C:=Tryz.checked) (s:=Rows.OpenSpec.upto Rows.evalPartsSpec) own started (by kernel_rfl) Tryz.func4
  (witness_row_at (enc:=enc) (C:=Tryz.checked) false (ZI os) #[VE,VE,VA] rfl (by kernel_rfl) (by kernel_rfl) (by kernel_rfl)
   (OpenSpec.preRow_of_cond 8 c (by kernel_rfl) (fun k d=>by cases d; kernel_rfl) (by kernel_rfl) (lA os))) ?_
 intro W base args e gs before a f _ hcond _ _ b _;exact iy H enc W base args e gs before a f (hcond _ rfl) b
theorem saidUpto4:Rows.EvalPartsUptoSaid:=
 OpenClaim.holds_of_cond 4 Tryz.f4 rfl rfl rfl rfl rfl rfl rfl ⟨rfl,rfl,rfl,rfl,rfl⟩ rfl rfl rfl rfl rfl (by kernel_rfl) Tryz.func4 qd0
  (kod (by kernel_rfl)) (by unfold Func.isWrapper; first|(rw[if_pos (by decide +kernel)]; kernel_rfl)|(rw[if_neg (by decide +kernel)]; exact⟨rfl,rfl⟩))
  (fun os started H enc _ F=>by rw[OpenClaim.pre_eq_preRow]; exact qbz os started H enc F)
end W
end
