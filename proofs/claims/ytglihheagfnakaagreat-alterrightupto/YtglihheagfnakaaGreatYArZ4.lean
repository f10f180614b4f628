/- A part of the proof: the plain law. -/
import Derived.Test.YtglihheagfnakaaGreatN
import Derived.Test.YtglihheagfnakaaGreatO
import Derived.Test.YtglihheagfnakaaGreatP
set_option linter.unusedVariables false
set_option linter.unusedSimpArgs false
set_option linter.unnecessarySimpa false
set_option linter.deprecated false
set_option linter.unusedSectionVars false
set_option linter.constructorNameAsVariable false
section
namespace W
open Go Go.Proofs Ax Go.RowKit Go.ChangeShapes Go.WideShapes Go.ChangeAt
open Go.Proofs.YtglihheagfnakaaGreat Go.ChangeMaps
theorem qdg (a:Given):Np a+2<=Tf a:=by
 unfold Np Tf ou Pb;omega
set_option maxRecDepth 100000 in
theorem SF (H:Type) (enc:TypeId×Value->H) (W:World) (base:Nat) (args:Array Value) (ds gs:List (DataW H)) (before:List MemPlace)
  (d:∀(j:Nat) t v,Tryz.f4.params[j]? =some t->args[j]? =some v->Value.okWide Tryz.prog W .any base t v)
  (o:DataW.Whole enc Tryz.prog Tryz.f4.params.toList Rows.alterRightSpec.vars false W args.toList ds gs before) (x:Rows.uptoSmall H (ds++gs)=true) (h:W.ShapedOpen Tryz.prog) :
  Calls Tryz.prog 4 args W fun e s=>∃ v,e=.returned v/\Rows.alterRightSpec.post enc Tryz.prog Tryz.f4 false true false false W args v s:=by
 have i:=o;obtain⟨p,q,u,y,rfl,z,A⟩:=o;rw[Tryz.params4]at u d;obtain⟨v0,B,d0,C,N,O,b,rfl,rfl,D,r0⟩:=trodAll_cons u;obtain⟨v1,E,d1,F,P,Q,f,rfl,rfl,h1,G⟩:=trodAll_cons r0;obtain⟨rfl,rfl,rfl⟩:=trodAll_nil G;subst f;obtain⟨k,m,I⟩:=Mv (d 0 39 v0 rfl (by have:=congrArg (fun l=>l[0]?) b; simpa using this)) D
 obtain⟨g,n,J⟩:=Mu (d 1 37 v1 rfl (by have:=congrArg (fun l=>l[1]?) b; simpa using this)) h1
 have ba:=qdg g;have K:=kod x;simp only[List.cons_append,Rows.uptoBulkAll]at K;have L:gC 1099511627776 k g=some true:=(TU (l:=k) (a:=g) (by omega)).at (Nat.le_refl _) (Nat.le_refl _);have M:=(rQ 1099511627776 k g true L).calls (fun _ _=>Tryz.call4 _ _) (w:=W) (Tl (root h)) (vs:=args.toList) (by rw[b]; simp only[zC]; exact⟨_,_,rfl,m,_,_,rfl,n,rfl⟩)
 refine M.mono fun e s ⟨v,H',he,c,r⟩=>⟨v,he,?_⟩;simp only[qO]at r;subst r;obtain⟨-,rfl⟩:True/\gs=[]:=⟨trivial,by obtain⟨h1,h2⟩:=trodVars_none y; first|exact h1|exact h2⟩
 exact eL (tb:=4) qbc (by kernel_rfl) i c.below rfl rfl (by kernel_rfl) Tryz.underlying4
theorem TS (os:Os):laidMet Tryz.prog Rows.alterRightUptoRow.laid ((lE os).forCall (fun _ _=>0) ⟨#[],#[.slice none 0 0,VG],[]⟩).memory:=
 laidMet_of_run' 8 (by kernel_rfl) (by kernel_rfl)
theorem qd0 (os:Os) {H:Type} (enc:TypeId×Value->H):∃ places,DataW.whole enc Tryz.prog ((lE os).forCall (fun _ _=>0) ⟨#[],#[.slice none 0 0,VG],[]⟩).memory Tryz.f4.params.toList Rows.alterRightSpec.vars false #[.slice none 0 0,VG].toList 8=some ([.nil,DG H],[],places):=
 ⟨[],by kernel_rfl⟩
set_option maxRecDepth 100000 in
theorem qbg (os:Os) (started:os.Started) (H:Type) (enc:TypeId×Value->H) (F:Stop.Interp) :
  ReturnsInHanded {} Tryz.checked os 4 .any ((Rows.OpenSpec.upto Rows.alterRightSpec).preRow enc Tryz.prog Tryz.f4 Rows.alterRightUptoRow.domain false Rows.alterRightUptoRow.laid) (((Rows.OpenSpec.upto Rows.alterRightSpec).at F).post enc Tryz.prog Tryz.f4 false true false false):=by
 obtain⟨places,c⟩:=qd0 os enc;refine returnsInHanded_of_row (C:=Tryz.checked) (s:=Rows.OpenSpec.upto Rows.alterRightSpec) own started (by kernel_rfl) Tryz.func4
  (witness_row_at (enc:=enc) (C:=Tryz.checked) false (lE os) #[.slice none 0 0,VG] rfl (by kernel_rfl) (by kernel_rfl) (by kernel_rfl)
   (OpenSpec.preRow_of_cond 8 c (by kernel_rfl) (fun k d=>by cases d; kernel_rfl) (by kernel_rfl) (TS os))) ?_
 intro W base args ds gs before a e _ hcond _ _ b _;exact SF H enc W base args ds gs before a e (hcond _ rfl) b
theorem saidUpto4:Rows.AlterRightUptoSaid:=
 OpenClaim.holds_of_cond 4 Tryz.f4 rfl rfl rfl rfl rfl rfl rfl ⟨rfl,rfl,rfl,rfl,rfl⟩ rfl rfl rfl rfl rfl (by kernel_rfl) Tryz.func4 qdc
  (kod (by kernel_rfl)) (by unfold Func.isWrapper; first|(rw[if_pos (by decide +kernel)]; kernel_rfl)|(rw[if_neg (by decide +kernel)]; exact⟨rfl,rfl⟩))
  (fun os started H enc _ F=>by rw[OpenClaim.pre_eq_preRow]; exact qbg os started H enc F)
end W
end
