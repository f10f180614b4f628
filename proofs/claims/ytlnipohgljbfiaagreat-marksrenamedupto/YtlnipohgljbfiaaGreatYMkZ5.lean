/- A part of the proof: the plain law. -/
import Derived.Test.YtlnipohgljbfiaaGreatN
import Derived.Test.YtlnipohgljbfiaaGreatQ
set_option linter.unusedVariables false
set_option linter.unusedSimpArgs false
set_option linter.unnecessarySimpa false
set_option linter.deprecated false
set_option linter.unusedSectionVars false
set_option linter.constructorNameAsVariable false
section
namespace W
open Go Go.Proofs Ax Go.RowKit Go.ChangeShapes Go.WideShapes Go.ChangeAt
open Go.Proofs.YtlnipohgljbfiaaGreat Go.ChangeMaps
set_option maxRecDepth 100000 in
theorem qex (H:Type) (enc:TypeId×Value->H) (W:World) (base:Nat) (args:Array Value) (m gs:List (DataW H)) (before:List MemPlace)
  (b:∀ (j:Nat) t v,Tryz.f5.params[j]? =some t->args[j]? =some v->Value.okWide Tryz.prog W .any base t v)
  (o:DataW.Whole enc Tryz.prog Tryz.f5.params.toList Rows.marksRenamedSpec.vars false W args.toList m gs before) (x:Rows.uptoSmall H (m++gs)=true) (f:W.ShapedOpen Tryz.prog) :
  Calls Tryz.prog 5 args W fun e s=>∃ v,e=.returned v/\Rows.marksRenamedSpec.post enc Tryz.prog Tryz.f5 false true false false W args v s:=by
 have g:=o;obtain⟨p,q,u,y,rfl,z,A⟩:=o;rw[Tryz.params5]at u b;obtain⟨v0,B,d0,C,F,G,a,rfl,rfl,D,r0⟩:=trodAll_cons u;obtain⟨rfl,rfl,rfl⟩:=trodAll_nil r0;obtain⟨⟨h⟩,i,d⟩:=RW (b 0 24 v0 rfl (by have:=congrArg (fun l=>l[0]?) a; simpa using this)) D
 have d:xq h<=Rows.uptoBulk d0:=d;have E:=kod x;simp only[List.cons_append,Rows.uptoBulkAll]at E;have k:=(UZ 137438953472 ⟨h⟩ true (oH (n:=137438953472) (by decide) (cl:=h) (by omega) (by omega) (fun c k=>qbi (by have:=zd vh k; unfold xq at d; omega)))).calls (fun _ _=>Tryz.call5 _ _) (w:=W) (Nr (root f)) (vs:=args.toList) (by rw[a]; simp only[zS]; exact⟨_,_,rfl,i,rfl⟩)
 refine k.mono fun e s ⟨v,H',he,c,r⟩=>⟨v,he,?_⟩;simp only[zn]at r;subst r;obtain⟨-,rfl⟩:True/\gs=[]:=⟨trivial,by obtain⟨h1,h2⟩:=trodVars_none y; first|exact h1|exact h2⟩
 exact TT (tb:=4) TG (by kernel_rfl) g c.below rfl rfl (by kernel_rfl) Tryz.underlying4
theorem qf7 (os:Os):laidMet Tryz.prog Rows.marksRenamedUptoRow.laid ((CD os).forCall (fun _ _=>0) ⟨#[],#[VM],[]⟩).memory:=
 laidMet_of_run' 8 (by kernel_rfl) (by kernel_rfl)
theorem qpr (os:Os) {H:Type} (enc:TypeId×Value->H):∃ places,DataW.whole enc Tryz.prog ((CD os).forCall (fun _ _=>0) ⟨#[],#[VM],[]⟩).memory Tryz.f5.params.toList Rows.marksRenamedSpec.vars false #[VM].toList 8=some ([DM H],[],places):=
 ⟨[],by kernel_rfl⟩
set_option maxRecDepth 100000 in
theorem qm5 (os:Os) (started:os.Started) (H:Type) (enc:TypeId×Value->H) (F:Stop.Interp) :
  ReturnsInHanded {} Tryz.checked os 5 .any ((Rows.OpenSpec.upto Rows.marksRenamedSpec).preRow enc Tryz.prog Tryz.f5 Rows.marksRenamedUptoRow.domain false Rows.marksRenamedUptoRow.laid) (((Rows.OpenSpec.upto Rows.marksRenamedSpec).at F).post enc Tryz.prog Tryz.f5 false true false false):=by
 obtain⟨places,c⟩:=qpr os enc;refine returnsInHanded_of_row (C:=Tryz.checked) (s:=Rows.OpenSpec.upto Rows.marksRenamedSpec) own started (by kernel_rfl) Tryz.func5
  (witness_row_at (enc:=enc) (C:=Tryz.checked) false (CD os) #[VM] rfl (by kernel_rfl) (by kernel_rfl) (by kernel_rfl)
   (OpenSpec.preRow_of_cond 8 c (by kernel_rfl) (fun k d=>by cases d; kernel_rfl) (by kernel_rfl) (qf7 os))) ?_
 intro W base args e gs before a f _ hcond _ _ b _;exact qex H enc W base args e gs before a f (hcond _ rfl) b
theorem saidUpto5:Rows.MarksRenamedUptoSaid:=
 OpenClaim.holds_of_cond 5 Tryz.f5 rfl rfl rfl rfl rfl rfl rfl ⟨rfl,rfl,rfl,rfl,rfl⟩ rfl rfl rfl rfl rfl (by kernel_rfl) Tryz.func5 qpa
  (kod (by kernel_rfl)) (by unfold Func.isWrapper; first|(rw[if_pos (by decide +kernel)]; kernel_rfl)|(rw[if_neg (by decide +kernel)]; exact⟨rfl,rfl⟩))
  (fun os started H enc _ F=>by rw[OpenClaim.pre_eq_preRow]; exact qm5 os started H enc F)
end W
end
