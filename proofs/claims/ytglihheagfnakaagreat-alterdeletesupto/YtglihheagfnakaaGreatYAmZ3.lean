/- A part of the proof: the plain law. -/
import Derived.Test.YtglihheagfnakaaGreatJ
import Derived.Test.YtglihheagfnakaaGreatL
set_option linter.unusedVariables false
set_option linter.unusedSimpArgs false
set_option linter.unnecessarySimpa false
set_option linter.deprecated false
set_option linter.unusedSectionVars false
set_option linter.constructorNameAsVariable false
section
namespace W
open Go Go.Proofs Ax Go.RowKit Go.ChangeShapes Go.WideShapes Go.ChangeAt
open Go.Proofs.YtglihheagfnakaaGreat Go.ChangeMaps
theorem ag (a:Given):Hm a+2<=Rn a:=by
 unfold Hm Rn TK Nv;omega
theorem Tg {n:Nat} (x:34359738368<=n) (y:n<=1099511627776) {vars:List (List UInt8)} (dt:Bool) {a:Given} (z:QU vars+Hm a<=1048576) {Lw:Nat} {H:PH Lw} {w:World} {q s:Value} (t:SatH H w) (u:qu H (.sl (qi vars)) q) (v:qu H (.agg (XM.cells a)) s) :
  Calls Tryz.prog 3 #[q,.bool dt,s] w fun e w'=>e=.returned (.bool true)/\Below w.heap.size w w':=by
 rcases Mo x y dt z with h|⟨r,h⟩
 ·obtain⟨⟨b,g⟩,⟨⟨i,j⟩,⟨k,l⟩⟩,⟨m,o,p,c,d,f⟩⟩:=a
  exact DH h (NA (by omega)) t u v
 obtain⟨⟨b,g⟩,⟨⟨i,j⟩,⟨k,l⟩⟩,⟨m,o,p,c,d,f⟩⟩:=a;exact He h t u v
set_option maxRecDepth 100000 in
theorem PS (H:Type) (enc:TypeId×Value->H) (W:World) (base:Nat) (args:Array Value) (y gs:List (DataW H)) (before:List MemPlace)
  (h:∀ (j:Nat) t v,Tryz.f3.params[j]? =some t->args[j]? =some v->Value.okWide Tryz.prog W .any base t v)
  (z:DataW.Whole enc Tryz.prog Tryz.f3.params.toList Rows.alterDeletesSpec.vars false W args.toList y gs before) (C:Rows.uptoSmall H (y++gs)=true) (m:W.ShapedOpen Tryz.prog) :
  Calls Tryz.prog 3 args W fun e A=>∃ v,e=.returned v/\Rows.alterDeletesSpec.post enc Tryz.prog Tryz.f3 false true false false W args v A:=by
 have o:=z;obtain⟨p,q,B,D,rfl,E,F⟩:=z;rw[Tryz.params3]at B h;obtain⟨v0,G,d0,I,U,V,g,rfl,rfl,J,r0⟩:=trodAll_cons B;obtain⟨v1,K,d1,L,X,Y,i,rfl,rfl,r,M⟩:=trodAll_cons r0;obtain⟨v2,N,d2,O,Z,q2,k,rfl,rfl,s,P⟩:=trodAll_cons M;obtain⟨rfl,rfl,rfl⟩:=trodAll_nil P;subst i;subst k;obtain⟨f,u,Q⟩:=Mw (h 0 22 v0 rfl (by have:=congrArg (fun l=>l[0]?) g; simpa using this)) J
 obtain⟨b,rfl⟩:=Pa (h 1 4 v1 rfl (by have:=congrArg (fun l=>l[1]?) g; simpa using this)) r
 obtain⟨d,x,R⟩:=Mv (h 2 37 v2 rfl (by have:=congrArg (fun l=>l[2]?) g; simpa using this)) s
 have ba:=ag d;have S:=kod C;simp only[List.cons_append,Rows.uptoBulkAll]at S;have T:=Tg (n:=68719476736) (w:=W) (H:=Xh W) (by omega) (by omega) b (vars:=f) (a:=d) (by omega) (Rt (root m)) u x;have ea:args = #[v0,.bool b,v2]:=by rw[← Array.toList_inj,g]
 rw[ea];refine T.mono fun e A ⟨he,c⟩=>⟨.bool true,he,?_⟩;obtain⟨-,rfl⟩:True/\gs=[]:=⟨trivial,by obtain⟨r,s⟩:=trodVars_none D; first|exact r|exact s⟩
 exact Tq (tb:=4) iT (by kernel_rfl) (ea ▸ o) c rfl rfl (by kernel_rfl) Tryz.underlying4
theorem RP (os:Os):laidMet Tryz.prog Rows.alterDeletesUptoRow.laid ((SD os).forCall (fun _ _=>0) ⟨#[],#[.slice none 0 0,.bool false,VG],[]⟩).memory:=
 laidMet_of_run' 8 (by kernel_rfl) (by kernel_rfl)
theorem aB (os:Os) {H:Type} (enc:TypeId×Value->H):∃ places,DataW.whole enc Tryz.prog ((SD os).forCall (fun _ _=>0) ⟨#[],#[.slice none 0 0,.bool false,VG],[]⟩).memory Tryz.f3.params.toList Rows.alterDeletesSpec.vars false #[.slice none 0 0,.bool false,VG].toList 8=some ([.nil,.lit (.bool false),DG H],[],places):=
 ⟨[],by kernel_rfl⟩
set_option maxRecDepth 100000 in
theorem iW (os:Os) (started:os.Started) (H:Type) (enc:TypeId×Value->H) (F:Stop.Interp) :
  ReturnsInHanded {} Tryz.checked os 3 .any ((Rows.OpenSpec.upto Rows.alterDeletesSpec).preRow enc Tryz.prog Tryz.f3 Rows.alterDeletesUptoRow.domain false Rows.alterDeletesUptoRow.laid) (((Rows.OpenSpec.upto Rows.alterDeletesSpec).at F).post enc Tryz.prog Tryz.f3 false true false false):=by
 obtain⟨places,c⟩:=aB os enc;refine returnsInHanded_of_row (C:=Tryz.checked) (s:=Rows.OpenSpec.upto Rows.alterDeletesSpec) own started (by kernel_rfl) Tryz.func3
  (witness_row_at (enc:=enc) (C:=Tryz.checked) false (SD os) #[.slice none 0 0,.bool false,VG] rfl (by kernel_rfl) (by kernel_rfl) (by kernel_rfl)
   (OpenSpec.preRow_of_cond 8 c (by kernel_rfl) (fun k d=>by cases d; kernel_rfl) (by kernel_rfl) (RP os))) ?_
 intro W base args e gs before a f _ hcond _ _ b _;exact PS H enc W base args e gs before a f (hcond _ rfl) b
theorem saidUpto3:Rows.AlterDeletesUptoSaid:=
 OpenClaim.holds_of_cond 3 Tryz.f3 rfl rfl rfl rfl rfl rfl rfl ⟨rfl,rfl,rfl,rfl,rfl⟩ rfl rfl rfl rfl rfl (by kernel_rfl) Tryz.func3 ae
  (kod (by kernel_rfl)) (by unfold Func.isWrapper; first|(rw[if_pos (by decide +kernel)]; kernel_rfl)|(rw[if_neg (by decide +kernel)]; exact⟨rfl,rfl⟩))
  (fun os started H enc _ F=>by rw[OpenClaim.pre_eq_preRow]; exact iW os started H enc F)
end W
end
