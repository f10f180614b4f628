/- A part of the proof: the plain law. -/
import Derived.Test.YtlnipohgljbfiaaGreatN
import Derived.Test.YtlnipohgljbfiaaGreatP
set_option linter.unusedVariables false
set_option linter.unusedSimpArgs false
set_option linter.unnecessarySimpa false
set_option linter.deprecated false
set_option linter.unusedSectionVars false
set_option linter.constructorNameAsVariable false
section
namespace W
open Go Go.Proofs Ax Go.RowKit Go.ChangeShapes Go.WideShapes Go.ChangeAt
open Go.Proofs.YtlnipohgljbfiaaGreat Go.ChangeMaps
set_option maxRecDepth 100000 in
theorem qew (H:Type) (enc:TypeId×Value->H) (W:World) (base:Nat) (args:Array Value) (k gs:List (DataW H)) (before:List MemPlace)
  (b:∀ (j:Nat) t v,Tryz.f4.params[j]? =some t->args[j]? =some v->Value.okWide Tryz.prog W .any base t v)
  (m:DataW.Whole enc Tryz.prog Tryz.f4.params.toList Rows.marksTouchesSpec.vars false W args.toList k gs before) (u:Rows.uptoSmall H (k++gs)=true) (f:W.ShapedOpen Tryz.prog) :
  Calls Tryz.prog 4 args W fun e o=>∃ v,e=.returned v/\Rows.marksTouchesSpec.post enc Tryz.prog Tryz.f4 false true false false W args v o:=by
 have g:=m;obtain⟨p,q,s,x,rfl,y,z⟩:=m;rw[Tryz.params4]at s b;obtain⟨v0,A,d0,B,M,N,a,rfl,rfl,C,r0⟩:=trodAll_cons s;obtain⟨v1,D,d1,E,O,P,d,rfl,rfl,h1,F⟩:=trodAll_cons r0;obtain⟨rfl,rfl,rfl⟩:=trodAll_nil F;subst d;obtain⟨G,h,I⟩:=NL (b 0 40 v0 rfl (by have:=congrArg (fun l=>l[0]?) a; simpa using this)) C
 obtain⟨x1,i,J⟩:=NL (b 1 40 v1 rfl (by have:=congrArg (fun l=>l[1]?) a; simpa using this)) h1
 have K:=kod u;simp only[List.cons_append,Rows.uptoBulkAll]at K;have L:=(Ga 137438953472 G x1 true (oI (n:=137438953472) (by decide) (by decide) (by omega))).calls (fun _ _=>Tryz.call4 _ _) (w:=W) (Nr (root f)) (vs:=args.toList) (by rw[a]; simp only[zS]; exact⟨_,_,rfl,h,⟨_,_,rfl,i,rfl⟩⟩)
 refine L.mono fun e o ⟨v,H',he,c,r⟩=>⟨v,he,?_⟩;simp only[zn]at r;subst r;obtain⟨-,rfl⟩:True/\gs=[]:=⟨trivial,by obtain⟨h1,h2⟩:=trodVars_none x; first|exact h1|exact h2⟩
 exact TT (tb:=4) TG (by kernel_rfl) g c.below rfl rfl (by kernel_rfl) Tryz.underlying4
theorem qf6 (os:Os):laidMet Tryz.prog Rows.marksTouchesUptoRow.laid ((CD os).forCall (fun _ _=>0) ⟨#[],#[VG,VG],[]⟩).memory:=
 laidMet_of_run' 8 (by kernel_rfl) (by kernel_rfl)
theorem qpq (os:Os) {H:Type} (enc:TypeId×Value->H):∃ places,DataW.whole enc Tryz.prog ((CD os).forCall (fun _ _=>0) ⟨#[],#[VG,VG],[]⟩).memory Tryz.f4.params.toList Rows.marksTouchesSpec.vars false #[VG,VG].toList 8=some ([DG H,DG H],[],places):=
 ⟨[],by kernel_rfl⟩
set_option maxRecDepth 100000 in
theorem qm4 (os:Os) (started:os.Started) (H:Type) (enc:TypeId×Value->H) (F:Stop.Interp) :
  ReturnsInHanded {} Tryz.checked os 4 .any ((Rows.OpenSpec.upto Rows.marksTouchesSpec).preRow enc Tryz.prog Tryz.f4 Rows.marksTouchesUptoRow.domain false Rows.marksTouchesUptoRow.laid) (((Rows.OpenSpec.upto Rows.marksTouchesSpec).at F).post enc Tryz.prog Tryz.f4 false true false false):=by
 obtain⟨places,c⟩:=qpq os enc;refine returnsInHanded_of_row (C:=Tryz.checked) (s:=Rows.OpenSpec.upto Rows.marksTouchesSpec) own started (by kernel_rfl) Tryz.func4
  (witness_row_at (enc:=enc) (C:=Tryz.checked) false (CD os) #[VG,VG] rfl (by kernel_rfl) (by kernel_rfl) (by kernel_rfl)
   (OpenSpec.preRow_of_cond 8 c (by kernel_rfl) (fun k d=>by cases d; kernel_rfl) (by kernel_rfl) (qf6 os))) ?_
 intro W base args e gs before a f _ hcond _ _ b _;exact qew H enc W base args e gs before a f (hcond _ rfl) b
theorem saidUpto4:Rows.MarksTouchesUptoSaid:=
 OpenClaim.holds_of_cond 4 Tryz.f4 rfl rfl rfl rfl rfl rfl rfl ⟨rfl,rfl,rfl,rfl,rfl⟩ rfl rfl rfl rfl rfl (by kernel_rfl) Tryz.func4 qo9
  (kod (by kernel_rfl)) (by unfold Func.isWrapper; first|(rw[if_pos (by decide +kernel)]; kernel_rfl)|(rw[if_neg (by decide +kernel)]; exact⟨rfl,rfl⟩))
  (fun os started H enc _ F=>by rw[OpenClaim.pre_eq_preRow]; exact qm4 os started H enc F)
end W
end
