/- A part of the proof: the plain law. -/
import Derived.Test.YtlnipohgljbfiaaGreatN
import Derived.Test.YtlnipohgljbfiaaGreatQ
set_option linter.unusedVariables false
set_option linter.unusedSimpArgs false
set_option linter.unnecessarySimpa false
set_option linter.deprecated false
set_option linter.unusedSectionVars false
set_option linter.constructorNameAsVariable false
section
namespace W
open Go Go.Proofs Ax Go.RowKit Go.ChangeShapes Go.WideShapes Go.ChangeAt
open Go.Proofs.YtlnipohgljbfiaaGreat Go.ChangeMaps
set_option maxRecDepth 100000 in
theorem qev (H:Type) (enc:TypeId×Value->H) (W:World) (base:Nat) (args:Array Value) (s gs:List (DataW H)) (before:List MemPlace)
  (b:∀ (j:Nat) t v,Tryz.f3.params[j]? =some t->args[j]? =some v->Value.okWide Tryz.prog W .any base t v)
  (u:DataW.Whole enc Tryz.prog Tryz.f3.params.toList Rows.marksReadsSpec.vars false W args.toList s gs before) (z:Rows.uptoSmall H (s++gs)=true) (g:W.ShapedOpen Tryz.prog) :
  Calls Tryz.prog 3 args W fun e x=>∃ v,e=.returned v/\Rows.marksReadsSpec.post enc Tryz.prog Tryz.f3 false true false false W args v x:=by
 have h:=u;obtain⟨p,q,y,A,rfl,B,C⟩:=u;rw[Tryz.params3]at y b;obtain⟨v0,D,d0,E,M,N,a,rfl,rfl,F,r0⟩:=trodAll_cons y;obtain⟨v1,G,d1,I,O,P,d,rfl,rfl,h1,J⟩:=trodAll_cons r0;obtain⟨rfl,rfl,rfl⟩:=trodAll_nil J;subst d;obtain⟨⟨i⟩,k,f⟩:=RW (b 0 24 v0 rfl (by have:=congrArg (fun l=>l[0]?) a; simpa using this)) F
 have f:xq i<=Rows.uptoBulk d0:=f;obtain⟨x1,m,K⟩:=qg8 (b 1 28 v1 rfl (by have:=congrArg (fun l=>l[1]?) a; simpa using this)) h1
 have L:=kod z;simp only[List.cons_append,Rows.uptoBulkAll]at L;have o:=(CF 137438953472 ⟨i⟩ x1 true (qf9 (n:=137438953472) (by decide) (cl:=i) (by omega) (by omega) (fun c o=>qbi (by have:=zd vh o; unfold xq at f; omega)) (by omega) (by omega))).calls (fun _ _=>Tryz.call3 _ _) (w:=W) (Nr (root g)) (vs:=args.toList) (by rw[a]; simp only[zS]; exact⟨_,_,rfl,k,⟨_,_,rfl,m,rfl⟩⟩)
 refine o.mono fun e x ⟨v,H',he,c,r⟩=>⟨v,he,?_⟩;simp only[zn]at r;subst r;obtain⟨-,rfl⟩:True/\gs=[]:=⟨trivial,by obtain⟨h1,h2⟩:=trodVars_none A; first|exact h1|exact h2⟩
 exact TT (tb:=4) TG (by kernel_rfl) h c.below rfl rfl (by kernel_rfl) Tryz.underlying4
theorem qf5 (os:Os):laidMet Tryz.prog Rows.marksReadsUptoRow.laid ((CD os).forCall (fun _ _=>0) ⟨#[],#[VM,VV],[]⟩).memory:=
 laidMet_of_run' 8 (by kernel_rfl) (by kernel_rfl)
theorem qpp (os:Os) {H:Type} (enc:TypeId×Value->H):∃ places,DataW.whole enc Tryz.prog ((CD os).forCall (fun _ _=>0) ⟨#[],#[VM,VV],[]⟩).memory Tryz.f3.params.toList Rows.marksReadsSpec.vars false #[VM,VV].toList 8=some ([DM H,DV H],[],places):=
 ⟨[],by kernel_rfl⟩
set_option maxRecDepth 100000 in
theorem qm3 (os:Os) (started:os.Started) (H:Type) (enc:TypeId×Value->H) (F:Stop.Interp) :
  ReturnsInHanded {} Tryz.checked os 3 .any ((Rows.OpenSpec.upto Rows.marksReadsSpec).preRow enc Tryz.prog Tryz.f3 Rows.marksReadsUptoRow.domain false Rows.marksReadsUptoRow.laid) (((Rows.OpenSpec.upto Rows.marksReadsSpec).at F).post enc Tryz.prog Tryz.f3 false true false false):=by
 obtain⟨places,c⟩:=qpp os enc;refine returnsInHanded_of_row (C:=Tryz.checked) (s:=Rows.OpenSpec.upto Rows.marksReadsSpec) own started (by kernel_rfl) Tryz.func3
  (witness_row_at (enc:=enc) (C:=Tryz.checked) false (CD os) #[VM,VV] rfl (by kernel_rfl) (by kernel_rfl) (by kernel_rfl)
   (OpenSpec.preRow_of_cond 8 c (by kernel_rfl) (fun k d=>by cases d; kernel_rfl) (by kernel_rfl) (qf5 os))) ?_
 intro W base args e gs before a f _ hcond _ _ b _;exact qev H enc W base args e gs before a f (hcond _ rfl) b
theorem saidUpto3:Rows.MarksReadsUptoSaid:=
 OpenClaim.holds_of_cond 3 Tryz.f3 rfl rfl rfl rfl rfl rfl rfl ⟨rfl,rfl,rfl,rfl,rfl⟩ rfl rfl rfl rfl rfl (by kernel_rfl) Tryz.func3 qo8
  (kod (by kernel_rfl)) (by unfold Func.isWrapper; first|(rw[if_pos (by decide +kernel)]; kernel_rfl)|(rw[if_neg (by decide +kernel)]; exact⟨rfl,rfl⟩))
  (fun os started H enc _ F=>by rw[OpenClaim.pre_eq_preRow]; exact qm3 os started H enc F)
end W
end
