/- A part of the proof: the plain law. -/
import Derived.Test.YtgbnebnnphdenaaGreatI
import Derived.Test.YtgbnebnnphdenaaGreatJ
set_option linter.unusedVariables false
set_option linter.unusedSimpArgs false
set_option linter.unnecessarySimpa false
set_option linter.deprecated false
set_option linter.unusedSectionVars false
set_option linter.constructorNameAsVariable false
section
namespace W
open Go Go.Proofs Ax Go.RowKit Go.ChangeShapes Go.WideShapes Go.ChangeAt
open Go.Proofs.YtgbnebnnphdenaaGreat Go.ChangeMaps
set_option maxRecDepth 100000 in
theorem iA (H:Type) (enc:TypeId×Value->H) (W:World) (base:Nat) (args:Array Value) (n gs:List (DataW H)) (before:List MemPlace)
  (b:∀ (j:Nat) t v,Tryz.f6.params[j]? =some t->args[j]? =some v->Value.okWide Tryz.prog W .any base t v)
  (o:DataW.Whole enc Tryz.prog Tryz.f6.params.toList Rows.evalMoreSpec.vars false W args.toList n gs before) (y:Rows.uptoSmall H (n++gs)=true) (g:W.ShapedOpen Tryz.prog) :
  Calls Tryz.prog 6 args W fun e s=>∃ v,e=.returned v/\Rows.evalMoreSpec.post enc Tryz.prog Tryz.f6 false true false false W args v s:=by
 have h:=o;obtain⟨p,q,u,z,rfl,A,B⟩:=o;rw[Tryz.params6]at u b;obtain⟨v0,C,d0,D,T,U,a,rfl,rfl,E,r0⟩:=trodAll_cons u;obtain⟨v1,F,d1,G,V,X,d,rfl,rfl,h1,I⟩:=trodAll_cons r0;obtain⟨v2,J,d2,K,Y,Z,f,rfl,rfl,h2,L⟩:=trodAll_cons I;obtain⟨rfl,rfl,rfl⟩:=trodAll_nil L;subst d;subst f;obtain⟨M,i,N⟩:=rC (b 0 28 v0 rfl (by have:=congrArg (fun l=>l[0]?) a; simpa using this)) E
 obtain⟨x,k,O⟩:=Zv (b 1 36 v1 rfl (by have:=congrArg (fun l=>l[1]?) a; simpa using this)) h1
 have ba1:=Uy x;obtain⟨P,m,Q⟩:=ae (b 2 25 v2 rfl (by have:=congrArg (fun l=>l[2]?) a; simpa using this)) h2
 have R:=kod y;simp only[List.cons_append,Rows.uptoBulkAll]at R;have S:=(Gd 68719476736 M x P true (eP (by omega))).calls (fun _ _=>Tryz.call6 _ _) (w:=W) (UD (root g)) (vs:=args.toList) (by rw[a]; simp only[zz]; exact⟨_,_,rfl,i,⟨_,_,rfl,k,⟨_,_,rfl,m,rfl⟩⟩⟩)
 refine S.mono fun e s ⟨v,H',he,c,r⟩=>⟨v,he,?_⟩;simp only[qP]at r;subst r;obtain⟨-,rfl⟩:True/\gs=[]:=⟨trivial,by obtain⟨h1,h2⟩:=trodVars_none z; first|exact h1|exact h2⟩
 exact Cp (tb:=4) LH (by kernel_rfl) h c.below rfl rfl (by kernel_rfl) Tryz.underlying4
theorem lC (os:Os):laidMet Tryz.prog Rows.evalMoreUptoRow.laid ((ZI os).forCall (fun _ _=>0) ⟨#[],#[VE,VA,VV],[]⟩).memory:=
 laidMet_of_run' 8 (by kernel_rfl) (by kernel_rfl)
theorem qeo (os:Os) {H:Type} (enc:TypeId×Value->H):∃ places,DataW.whole enc Tryz.prog ((ZI os).forCall (fun _ _=>0) ⟨#[],#[VE,VA,VV],[]⟩).memory Tryz.f6.params.toList Rows.evalMoreSpec.vars false #[VE,VA,VV].toList 8=some ([DE H,DA H,DV H],[],places):=
 ⟨[],by kernel_rfl⟩
set_option maxRecDepth 100000 in
theorem qb1 (os:Os) (started:os.Started) (H:Type) (enc:TypeId×Value->H) (F:Stop.Interp) :
  ReturnsInHanded {} Tryz.checked os 6 .any ((Rows.OpenSpec.upto Rows.evalMoreSpec).preRow enc Tryz.prog Tryz.f6 Rows.evalMoreUptoRow.domain false Rows.evalMoreUptoRow.laid) (((Rows.OpenSpec.upto Rows.evalMoreSpec).at F).post enc Tryz.prog Tryz.f6 false true false false):=by
 obtain⟨places,c⟩:=qeo os enc;refine returnsInHanded_of_row (C:=Tryz.checked) (s:=Rows.OpenSpec.upto Rows.evalMoreSpec) own started (by kernel_rfl) Tryz.func6
  (witness_row_at (enc:=enc) (C:=Tryz.checked) false (ZI os) #[VE,VA,VV] rfl (by kernel_rfl) (by kernel_rfl) (by kernel_rfl)
   (OpenSpec.preRow_of_cond 8 c (by kernel_rfl) (fun k d=>by cases d; kernel_rfl) (by kernel_rfl) (lC os))) ?_
 intro W base args e gs before a f _ hcond _ _ b _;exact iA H enc W base args e gs before a f (hcond _ rfl) b
theorem saidUpto6:Rows.EvalMoreUptoSaid:=
 OpenClaim.holds_of_cond 6 Tryz.f6 rfl rfl rfl rfl rfl rfl rfl ⟨rfl,rfl,rfl,rfl,rfl⟩ rfl rfl rfl rfl rfl (by kernel_rfl) Tryz.func6 qd2
  (kod (by kernel_rfl)) (by unfold Func.isWrapper; first|(rw[if_pos (by decide +kernel)]; kernel_rfl)|(rw[if_neg (by decide +kernel)]; exact⟨rfl,rfl⟩))
  (fun os started H enc _ F=>by rw[OpenClaim.pre_eq_preRow]; exact qb1 os started H enc F)
end W
end
