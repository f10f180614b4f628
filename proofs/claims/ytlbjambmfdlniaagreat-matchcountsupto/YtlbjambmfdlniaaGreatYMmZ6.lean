/- A part of the proof: the plain law. -/
import Derived.Test.YtlbjambmfdlniaaGreatK
set_option linter.unusedVariables false
set_option linter.unusedSimpArgs false
set_option linter.unnecessarySimpa false
set_option linter.deprecated false
set_option linter.unusedSectionVars false
set_option linter.constructorNameAsVariable false
section
namespace W
open Go Go.Proofs Ax Go.RowKit Go.ChangeShapes Go.WideShapes Go.ChangeAt
open Go.Proofs.YtlbjambmfdlniaaGreat Go.ChangeMaps
theorem Nq (i:Int):1<=Sr i:=by unfold Sr; split<;>omega
theorem Nl (e:Edge):sU e<=LJ e:=by
 have:=Nq e.id;unfold sU LJ;omega
theorem MY {A:Type} {f k:A->Nat} (h:∀ a,f a<=k a):∀ l:List A,(l.map f).sum<=(l.map k).sum
 | []=>Nat.le_refl _
 | a::l=>by
  have b:=h a;have c:=MY h l;simp only[List.map_cons,List.sum_cons];omega
theorem Nk (g:Graph):Fz g<=Sp g:=Nat.add_le_add (Nat.le_refl _) (MY Nl g.edges)
theorem Pp {g:Graph} (h:Sp g<=1048576):∀ d∈g.edges,(Lit.int .i64 d.id).wf=true:=fun d b=>by
 have c:=Ft LJ b;have j:LJ d<=Sp g:=Nat.le_trans c (Nat.le_add_left _ _);have k:Sr d.id<=LJ d:=by unfold LJ; omega
 have a:=Pv (i:=d.id) (by omega);have e:decide (IntKind.i64.min<=d.id)=true:=kdt a.1;have f:decide (d.id<=IntKind.i64.max)=true:=kdt a.2;simp[Lit.wf,e,f];exact a.2
theorem Mh {n:Nat} (d:34359738368<=n) (f:n<=1099511627776) {g:Graph} (b:Sp g<=1048576) {Lw:Nat} {H:PH Lw} {w:World} {a:Value} (h:SatH H w) (i:qp H (.agg (df.cells g)) a) :
  Calls Tryz.prog 6 #[a] w fun e w'=>e=.returned (.bool true)/\Below w.heap.size w w':=by
 have j:=Ez d f (Nat.le_trans (Nk g) b) (Pp b);refine((sR n g true j).calls (fun _ _=>Tryz.call6 _ _) h (vs:=[a]) (by simp only[qJ]; exact⟨_,_,rfl,i,rfl⟩)).mono ?_
 rintro e w' ⟨v,H',rfl,c,r⟩;simp only[bJ,qp]at r;subst r;exact⟨rfl,c.below⟩
set_option maxRecDepth 100000 in
theorem Hr (H:Type) (enc:TypeId×Value->H) (W:World) (base:Nat) (args:Array Value) (i gs:List (DataW H)) (before:List MemPlace)
  (b:∀ (j:Nat) t v,Tryz.f6.params[j]? =some t->args[j]? =some v->Value.okWide Tryz.prog W .any base t v)
  (k:DataW.Whole enc Tryz.prog Tryz.f6.params.toList Rows.matchCountsSpec.vars false W args.toList i gs before) (o:Rows.uptoSmall H (i++gs)=true) (d:W.ShapedOpen Tryz.prog) :
  Calls Tryz.prog 6 args W fun e W'=>∃ v,e=.returned v/\Rows.matchCountsSpec.post enc Tryz.prog Tryz.f6 false true false false W args v W':=by
 have f:=k;obtain⟨p,q,m,r,rfl,s,u⟩:=k;rw[Tryz.params6]at m b;obtain⟨v0,x,d0,y,G,I,a,rfl,rfl,z,r0⟩:=trodAll_cons m;obtain⟨rfl,rfl,rfl⟩:=trodAll_nil r0;obtain⟨A,h,B⟩:=Dh (b 0 30 v0 rfl (by have:=congrArg (fun l=>l[0]?) a; simpa using this)) z
 have C:=kod o;simp only[List.cons_append,Rows.uptoBulkAll]at C;have D:=Mh (n:=68719476736) (w:=W) (H:=tX W) (by omega) (by omega) (g:=A) (by omega) (HJ (root d)) h;have ea:args = #[v0]:=by rw[← Array.toList_inj,a]
 rw[ea];refine D.mono fun e W' ⟨he,c⟩=>⟨.bool true,he,?_⟩;obtain⟨-,rfl⟩:True/\gs=[]:=⟨trivial,by obtain⟨E,F⟩:=trodVars_none r; first|exact E|exact F⟩
 exact Ms (tb:=4) Nv (by kernel_rfl) (ea ▸ f) c rfl rfl (by kernel_rfl) Tryz.underlying4
theorem La (os:Os):laidMet Tryz.prog Rows.matchCountsUptoRow.laid ((LC os).forCall (fun _ _=>0) ⟨#[],#[VG],[]⟩).memory:=
 laidMet_of_run' 8 (by kernel_rfl) (by kernel_rfl)
theorem PA (os:Os) {H:Type} (enc:TypeId×Value->H):∃ places,DataW.whole enc Tryz.prog ((LC os).forCall (fun _ _=>0) ⟨#[],#[VG],[]⟩).memory Tryz.f6.params.toList Rows.matchCountsSpec.vars false #[VG].toList 8=some ([DG H],[],places):=
 ⟨[],by kernel_rfl⟩
set_option maxRecDepth 100000 in
theorem Nz (os:Os) (started:os.Started) (H:Type) (enc:TypeId×Value->H) (F:Stop.Interp) :
  ReturnsInHanded {} Tryz.checked os 6 .any ((Rows.OpenSpec.upto Rows.matchCountsSpec).preRow enc Tryz.prog Tryz.f6 Rows.matchCountsUptoRow.domain false Rows.matchCountsUptoRow.laid) (((Rows.OpenSpec.upto Rows.matchCountsSpec).at F).post enc Tryz.prog Tryz.f6 false true false false):=by
 obtain⟨places,c⟩:=PA os enc;refine returnsInHanded_of_row (C:=Tryz.checked) (s:=Rows.OpenSpec.upto Rows.matchCountsSpec) own started (by kernel_rfl) Tryz.func6
  (witness_row_at (enc:=enc) (C:=Tryz.checked) false (LC os) #[VG] rfl (by kernel_rfl) (by kernel_rfl) (by kernel_rfl)
   (OpenSpec.preRow_of_cond 8 c (by kernel_rfl) (fun k d=>by cases d; kernel_rfl) (by kernel_rfl) (La os))) ?_
 intro W base args e gs before a f _ hcond _ _ b _;exact Hr H enc W base args e gs before a f (hcond _ rfl) b
theorem saidUpto6:Rows.MatchCountsUptoSaid:=
 OpenClaim.holds_of_cond 6 Tryz.f6 rfl rfl rfl rfl rfl rfl rfl ⟨rfl,rfl,rfl,rfl,rfl⟩ rfl rfl rfl rfl rfl (by kernel_rfl) Tryz.func6 Po
  (kod (by kernel_rfl)) (by unfold Func.isWrapper; first|(rw[if_pos (by decide +kernel)]; kernel_rfl)|(rw[if_neg (by decide +kernel)]; exact⟨rfl,rfl⟩))
  (fun os started H enc _ F=>by rw[OpenClaim.pre_eq_preRow]; exact Nz os started H enc F)
end W
end
