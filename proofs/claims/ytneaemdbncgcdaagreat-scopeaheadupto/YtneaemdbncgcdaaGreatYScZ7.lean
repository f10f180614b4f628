/- A part of the proof: the plain law. -/
import Derived.Test.YtneaemdbncgcdaaGreatJ
import Derived.Test.YtneaemdbncgcdaaGreatK
import Derived.Test.YtneaemdbncgcdaaGreatL
set_option linter.unusedVariables false
set_option linter.unusedSimpArgs false
set_option linter.unnecessarySimpa false
set_option linter.deprecated false
set_option linter.unusedSectionVars false
set_option linter.constructorNameAsVariable false
section
namespace W
open Go Go.Proofs Ax Go.RowKit Go.ChangeShapes Go.WideShapes Go.ChangeAt
open Go.Proofs.YtneaemdbncgcdaaGreat Go.ChangeMaps
set_option maxRecDepth 100000 in
theorem zif (H:Type) (enc:TypeId×Value→H) (W:World) (base:Nat) (args:Array Value) (ds gs:List (DataW H)) (before:List MemPlace)
  (hval:∀ (j:Nat) t v,Tryz.f7.params[j]? =some t→args[j]? =some v→Value.okWide Tryz.prog W .any base t v)
  (hW:DataW.Whole enc Tryz.prog Tryz.f7.params.toList Rows.scopeAheadSpec.vars false W args.toList ds gs before) (hk:Rows.uptoSmall H (ds++gs)=true) (hsh:W.ShapedOpen Tryz.prog) :
  Calls Tryz.prog 7 args W fun e W'=>∃ v,e=.returned v∧Rows.scopeAheadSpec.post enc Tryz.prog Tryz.f7 false true false false W args v W':=by
 have hW':=hW
 obtain⟨p,q,hA,hV,rfl,hfz,hnd⟩:=hW
 rw[Tryz.params7]at hA hval
 obtain⟨v0,vs0,d0,ds0,p0,q0,hargs0,rfl,rfl,h0,r0⟩:=trodAll_cons hA
 obtain⟨v1,vs1,d1,ds1,p1,q1,hargs1,rfl,rfl,h1,r1⟩:=trodAll_cons r0
 obtain⟨rfl,rfl,rfl⟩:=trodAll_nil r1
 subst hargs1
 obtain⟨⟨x0⟩,rx0,bx0⟩:=quw (hval 0 24 v0 rfl (by have:=congrArg (fun l=>l[0]?) hargs0; simpa using this)) h0
 have bx0:qck x0≤Rows.uptoBulk d0:=bx0
 obtain⟨x1,rx1⟩:=zc9 (hval 1 3 v1 rfl (by have:=congrArg (fun l=>l[1]?) hargs0; simpa using this)) h1
 have hb:=of_decide_eq_true hk
 simp only[List.cons_append,Rows.uptoBulkAll]at hb
 have hc:=(qzc 67108864 _ _ _ (zjo (n:=67108864) (by decide) (cl:=x0) (by omega) (fun c hc=>qxo (by have:=qbz qdp hc; unfold qck at bx0; omega)) x1)).calls (fun _ _=>Tryz.call7 _ _) (w:=W) (qur (root hsh)) (vs:=args.toList) (by rw[hargs0]; simp only[qec]; exact⟨_,_,rfl,rx0,⟨_,_,rfl,rx1,rfl⟩⟩)
 refine hc.mono fun e W' ⟨v,H',he,c,r⟩=>⟨v,he,?_⟩
 simp only[qcp]at r
 subst r
 obtain⟨-,rfl⟩:True∧gs=[]:=⟨trivial,by obtain⟨h1,h2⟩:=trodVars_none hV; first|exact h1|exact h2⟩
 exact qxv (tb:=4) q2n (by kernel_rfl) hW' c.below rfl rfl (by kernel_rfl) Tryz.underlying4
theorem zjm (os:Os):laidMet Tryz.prog Rows.scopeAheadUptoRow.laid ((qqw os).forCall (fun _ _=>0) ⟨#[],#[VM,VI],[]⟩).memory:=
 laidMet_of_run' 8 (by kernel_rfl) (by kernel_rfl)
theorem zp1 (os:Os) {H:Type} (enc:TypeId×Value→H):∃ places,DataW.whole enc Tryz.prog ((qqw os).forCall (fun _ _=>0) ⟨#[],#[VM,VI],[]⟩).memory Tryz.f7.params.toList Rows.scopeAheadSpec.vars false #[VM,VI].toList 8=some ([DM H,DI H],[],places):=
 ⟨[],by kernel_rfl⟩
set_option maxRecDepth 100000 in
theorem zn4 (os:Os) (started:os.Started) (H:Type) (enc:TypeId×Value→H) (F:Stop.Interp) :
  ReturnsInHanded {} Tryz.checked os 7 .any ((Rows.OpenSpec.upto Rows.scopeAheadSpec).preRow enc Tryz.prog Tryz.f7 Rows.scopeAheadUptoRow.domain false Rows.scopeAheadUptoRow.laid) (((Rows.OpenSpec.upto Rows.scopeAheadSpec).at F).post enc Tryz.prog Tryz.f7 false true false false):=by
 obtain⟨places,hx⟩:=zp1 os enc
 refine returnsInHanded_of_row (C:=Tryz.checked) (s:=Rows.OpenSpec.upto Rows.scopeAheadSpec) own started (by kernel_rfl) Tryz.func7
  (witness_row_at (enc:=enc) (C:=Tryz.checked) false (qqw os) #[VM,VI] rfl (by kernel_rfl) (by kernel_rfl) (by kernel_rfl)
   (OpenSpec.preRow_of_cond 8 hx (by kernel_rfl) (fun k hk=>by cases hk; kernel_rfl) (by kernel_rfl) (zjm os))) ?_
 intro W base args ds gs before hval hW _ hcond _ _ hsh _
 exact zif H enc W base args ds gs before hval hW (hcond _ rfl) hsh
theorem saidUpto7:Rows.ScopeAheadUptoSaid:=
 OpenClaim.holds_of_cond 7 Tryz.f7 rfl rfl rfl rfl rfl rfl rfl ⟨rfl,rfl,rfl,rfl,rfl⟩ rfl rfl rfl rfl rfl (by kernel_rfl) Tryz.func7 (by kernel_rfl)
  (of_decide_eq_true (by kernel_rfl)) (by unfold Func.isWrapper; first|(rw[if_pos (by decide +kernel)]; kernel_rfl)|(rw[if_neg (by decide +kernel)]; exact⟨rfl,rfl⟩))
  (fun os started H enc _ F=>by rw[OpenClaim.pre_eq_preRow]; exact zn4 os started H enc F)
end W
end
