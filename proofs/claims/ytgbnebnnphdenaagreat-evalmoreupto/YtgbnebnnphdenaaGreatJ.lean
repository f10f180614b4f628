/- A part of the proof: the plain law. -/
import Derived.Test.YtgbnebnnphdenaaGreatRows
import Derived.Deep.DeepHandedRow
import Derived.ChangeMaps5
import Derived.OpenShut
import Derived.Test.YtgbnebnnphdenaaGreatI
set_option linter.unusedVariables false
set_option linter.unusedSimpArgs false
set_option linter.unnecessarySimpa false
set_option linter.deprecated false
set_option linter.unusedSectionVars false
set_option linter.constructorNameAsVariable false
section
open Go Ax Go.Proofs
namespace W
inductive Al (p p':xa):qa->qa->Prop where
 | leaf {x x':qa} (h:∀ n,34359738368<n->n<=1099511627776->qu n p x=qu n p' x'):Al p p' x x'
 | node {op:Int} {name:List UInt8} {val:Val} {nms:List (List UInt8)} {args args':List qa} (h:op≠2/\op≠3) (hl:args.length=args'.length) (ha:∀ (i:Nat) (a a':qa),args[i]? =some a->args'[i]? =some a'->Al p p' a a') :
   Al p p' (.mk op name val nms args) (.mk op name val nms args')
theorem TY {p p':xa} {m:Nat} {args args':List qa} (hl:args.length=args'.length) (ha:∀ (i:Nat) (a a':qa),args[i]? =some a->args'[i]? =some a'->qu m p a=qu m p' a') :
  qW (m+1) p args=qW (m+1) p' args':=by
 rw[Ll,Ll];have key:∀ (j:Nat) (st:List Val×Int),qA (SM m p args) j st=qA (SM m p' args') j st:=by
  intro j
  induction j with
  | zero=>intro st; rfl
  | succ j ih=>
   rintro⟨acc,i⟩;have ih':qA (SM m p args) j=qA (SM m p' args') j:=funext ih;rw[zJ,zJ,ih'];generalize qA (SM m p' args') j=nx;unfold SM xA
   dsimp only
   rw[zM,zM,hl];cases l:decide (i<((args'.length:Nat):Int))with
   | false=>rfl
   | true=>
    rw[zm,zm];by_cases g:0<=i
    ·obtain⟨q,rfl⟩:=Int.eq_ofNat_of_zero_le g
     have k:q<args'.length:=by have:=kod l; omega
     have b:q<args.length:=by omega
     have e:=ha q _ _ (xG b) (xG k);rw[zG (xG b),zG (xG k),zl,zl];generalize args[q]=a at e;generalize args'[q]=a' at e;obtain⟨r,s,⟨t,u,v,w,x,y⟩,z,n⟩:=a;obtain⟨A,B,⟨C,D,E,F,G,H⟩,I,o⟩:=a';obtain⟨⟨names,vals⟩,⟨nodes,edges⟩,⟨J,K,L,M,N,O⟩⟩:=p;obtain⟨⟨c,h⟩,⟨d,f⟩,⟨P,Q,R,S,T,U⟩⟩:=p'
     dsimp only at e ⊢
     rw[e]
    unfold idx;rw[if_neg g,if_neg g];rfl
 exact key m _
theorem SZ {p p':xa} (j:p.g=p'.g):∀ (N:Nat) (x x':qa),Al p p' x x'->cQ x<=N->∀ n,34359738368+2 * N<=n->n<=1099511627776->qu n p x=qu n p' x':=by
 intro N
 induction N with
 | zero=>intro x x' _ h; obtain⟨op,name,val,names,args⟩:=x; simp only[cQ]at h; omega
 | succ N ih=>
  intro x x' h B n h1 h2;cases h with
  | leaf h=>exact h n (by omega) h2
  | @node op name val nms args args' hop hl ha=>
   have k:cQ (.mk op name val nms args)=1+name.length+cn val+pb nms+cM args:=by simp only[cQ]
   obtain⟨m,rfl⟩:∃ m,n=m+1+1:=⟨n - 2,by omega⟩;have f:qW (m+1) p args=qW (m+1) p' args':=TY hl fun i a a' h3 h4=>ih a a' (ha i a a' h3 h4) (by have:=cN (gM h3); omega) m (by omega) (by omega)
   by_cases e1:op=1
   ·subst e1
    obtain⟨⟨names,vals⟩,⟨nodes,edges⟩,⟨l,o,q,r,s,t⟩⟩:=p;obtain⟨⟨b,e⟩,⟨c,d⟩,⟨u,v,w,y,z,A⟩⟩:=p';obtain⟨v1,v2,v3,v4,v5,v6⟩:=val;rfl
   by_cases e14:op=14
   ·subst e14
    obtain⟨⟨names,vals⟩,⟨nodes,edges⟩,⟨l,o,q,r,s,t⟩⟩:=p;obtain⟨⟨b,e⟩,⟨c,d⟩,⟨u,v,w,y,z,A⟩⟩:=p';obtain⟨v1,v2,v3,v4,v5,v6⟩:=val;rfl
   rw[Ci (m+1) p ⟨e1,hop.1,hop.2,e14⟩,Ci (m+1) p' ⟨e1,hop.1,hop.2,e14⟩,f,j];congr 1
theorem Res.alike {p p':xa} (c:p.g=p'.g) {x x':qa} (h:Al p p' x x') (d:cQ x<=1048576) {N:Nat} {r r':Val×Int} (f:Res N p x r) (a:Res N p' x' r') (b:N<=549755813888):r=r':=by
 have e:=SZ c 1048576 x x' h d 549755813888 (by decide) (by decide);rw[f.2 _ b (by decide),a.2 _ b (by decide)]at e;exact Option.some.inj e
theorem qax {r:Val×Int} (h:VR r):VF (Pb r).1:=by
 unfold Pb;cases he:r.2 != 0 with
 | true=>exact gC
 | false=>exact h (by simpa using he)
theorem lO (n:Nat) (x:qa):xI n x=bnd (gk n x 32) fun b=>some b:=by
 obtain⟨c,d,⟨e,f,g,h,i,j⟩,k,a⟩:=x;rfl
abbrev LP:List UInt8:=[110,111,32,111,110,101,39,115]
def oR (e:List (List UInt8×Val)) (name:List UInt8):Val×Int:=match e.find? fun x=>x.1==name with
 | some x=>(x.2,0)
 | none=>(Eu,2)
theorem RW {name:List UInt8}:∀ {names:List (List UInt8)} {vals:List Val} {j:Nat} {v:Val},names[j]? =some name->vals[j]? =some v->name ∉ names.take j->((names.zip vals).find? fun x=>x.1==name)=some (name,v)
 | [],_,j,_,h,_,_=>by simp at h
 | _::_,[],j,_,_,h,_=>by simp at h
 | a::names,w::vals,0,v,h,h',_=>by
  simp only[List.getElem?_cons_zero,Option.some.injEq]at h h';subst h h';simp
 | a::names,w::vals,j+1,v,h,h',hn=>by
  simp only[List.take_succ_cons,List.mem_cons,not_or]at hn;rw[List.zip_cons_cons,List.find?_cons];have:(a==name)=false:=by simpa using fun e=>hn.1 e.symm
  simp only[this];exact RW (by simpa using h) (by simpa using h') hn.2
theorem iL {name:List UInt8} {names:List (List UInt8)} {vals:List Val} (h:name ∉ names):((names.zip vals).find? fun x=>x.1==name)=none:=by
 rw[List.find?_eq_none];rintro⟨a,v⟩ hm he;have:=(List.of_mem_zip hm).1;have he:a=name:=eq_of_beq he;rw[he]at this;exact h this
theorem aJ {names:List (List UInt8)} {vals:List Val} (hl:names.length=vals.length) (e:names.length<=1048576) (g:Graph) (par:Val) (name:List UInt8) (val:Val) (nms:List (List UInt8)) (args:List qa) {n:Nat} (h1:34359738368<n) (h2:n<=1099511627776) :
  qu n ⟨⟨names,vals⟩,g,par⟩ (.mk 2 name val nms args)=some (oR (names.zip vals) name):=by
 obtain⟨m,rfl⟩:∃ m,n=m+1:=⟨n - 1,by omega⟩;obtain⟨r,f,a⟩:=BB names name e;have a:=a m (by omega) (by omega);obtain⟨nodes,edges⟩:=g;obtain⟨i,k,l,o,p,q⟩:=par;obtain⟨v1,v2,v3,v4,v5,v6⟩:=val;show zK m (qu m) (qW m) _ _=_;unfold zK uy oR
 dsimp only at a ⊢
 rw[a,zl,qo];rcases f with ⟨c,rfl⟩|⟨j,rfl,d,c⟩
 ·rw[iL c]
  rfl
 have h:=py d;have b:j<vals.length:=by omega
 rw[RW d (xG b) c,kdf (show ¬ ((j:Nat):Int)<0 by omega),kdf (show ¬ ((j:Nat):Int)≥((vals.length:Nat):Int) by omega),zG (xG b)];generalize vals[j]=v;obtain⟨s,z2,z3,z4,z5,t⟩:=v;rfl
theorem qa8 {names:List (List UInt8)} {vals:List Val} {g:Graph} {par:Val} (hl:names.length=vals.length) (p:names.length<=1048570) (v:Val):∀ (N:Nat) (x:qa),cQ x<=N->EvOk x->Al ⟨⟨names,vals⟩,g,par⟩ ⟨⟨names++[LP],vals++[v]⟩,g,par⟩ x x:=by
 intro N
 induction N with
 | zero=>intro x h; obtain⟨op,name,val,names,args⟩:=x; simp only[cQ]at h; omega
 | succ N ih=>
  intro x l d;cases d with
  | @mk op name val nms args h1 h2 h3 h4 h5=>
   have o:cQ (.mk op name val nms args)=1+name.length+cn val+pb nms+cM args:=by simp only[cQ]
   by_cases e2:op=2
   ·subst e2
    refine .leaf fun n b c=>?_;have f:name≠LP:=by
     intro e;have:=h5 rfl;rw[e]at this;exact absurd this (by decide +kernel)
    rw[aJ hl (by omega) g par name val nms args b c,aJ (by simp[hl]) (by simp; omega) g par name val nms args b c];congr 1;unfold oR;rw[List.zip_append hl,List.find?_append];have j:([(LP,v)].find? fun x=>x.1==name)=none:=by
     rw[List.find?_eq_none];intro x l;rw[List.mem_singleton.1 l];simpa using fun e=>f e.symm
    rw[show[LP].zip [v]=[(LP,v)]from rfl,j,Option.or_none]
   by_cases e3:op=3
   ·subst e3
    refine .leaf fun n b c=>?_;obtain⟨m,rfl⟩:∃ m,n=m+1:=⟨n - 1,by omega⟩;obtain⟨nodes,edges⟩:=g;obtain⟨q,r,s,t,u,w⟩:=par;obtain⟨v1,v2,v3,v4,v5,v6⟩:=val;rfl
   exact .node ⟨e2,e3⟩ rfl fun i a a' ha k=>by
    have:a=a':=Option.some.inj (ha.symm.trans k);subst this;exact ih a (by have:=cN (gM ha); omega) (h4 a (gM ha))
set_option maxRecDepth 100000 in
theorem eP {x:qa} {a:vK} {v:Val} (J:cQ x+XB a+cn v<=1048570):mV 68719476736 x a v=some true:=by
 obtain⟨A,hl⟩:=XY (n:=68719476736) (by decide) (by decide) (l:=[x]) (by have:=tj a; simp only[cM]; omega);obtain⟨i,c,f⟩:=XV 1048576 (by decide) x 32 (by omega);obtain⟨z,j,hm⟩:=Uz (a:=a) (by omega);have f:=f 68719476736 (by decide) (by decide);have hm:=hm 68719476736 (by decide) (by decide);have B:gm 68719476736 v=some (ZV v):=Rr (by omega) (by decide);have C:xI 68719476736 x=some i:=by rw[lO]; dsimp only at f; rw[f]; rfl
 have hw:=Ct;have k:=aO (v:=v) (by omega);have m:=gb a.v.names;have o:pb a.v.names+vk a.v.vals+Bz a.g+cn a.params=XB a:=rfl;have b:i=true->z=true->ZV v=true->∃ r:Val×Int,VF r.1/\zA 68719476736 x a=some r/\zA 68719476736 x ⟨⟨a.v.names++[LP],a.v.vals++[v]⟩,a.g,a.params⟩=some r:=by
  intro q e2 D;have hp:=j e2;have s:PlOk ⟨⟨a.v.names++[LP],a.v.vals++[v]⟩,a.g,a.params⟩:=⟨by simp[hp.len],by simp; omega,fun w hw=>by
   rcases List.mem_append.1 hw with h|h
   ·exact hp.vals w h
   rw[List.mem_singleton.1 h]; exact k D,hp.gr,hp.par,hp.par5⟩
  obtain⟨r,t⟩:=tk hp (c q) (by omega);obtain⟨r',d⟩:=tk s (c q) (by omega);have e:=Res.alike (p:=⟨⟨a.v.names,a.v.vals⟩,a.g,a.params⟩) (p':=⟨⟨a.v.names++[LP],a.v.vals++[v]⟩,a.g,a.params⟩) rfl (qa8 (names:=a.v.names) (vals:=a.v.vals) hp.len (by omega) v _ x (Nat.le_refl _) (c q)) (by omega) t d (by decide);subst e;exact⟨Pb r,qax t.1,Uw t (by decide) (by decide) (by decide),Uw (a:=⟨⟨a.v.names++[LP],a.v.vals++[v]⟩,a.g,a.params⟩) d (by decide) (by decide) (by decide)⟩
 obtain⟨K,L,⟨M,N,O,P,Q,R⟩,S,E⟩:=x;obtain⟨⟨T,a2⟩,⟨a3,a4⟩,⟨a5,U,V,X,a9,F⟩⟩:=a;obtain⟨v1,v2,v3,v4,v5,v6⟩:=v;have G:=xP a2
 dsimp only at m o hm b
 unfold mV
 dsimp only
 rw[hl,zl,C,hm,B,hw];cases A with
 | true=>rfl
 | false=>
  cases i with
  | false=>rfl
  | true=>
   cases z with
   | false=>rfl
   | true=>
    cases u:ZV (Val.mk v1 v2 v3 v4 v5 v6)with
    | false=>rfl
    | true=>
     obtain⟨r,y,H,I⟩:=b rfl rfl u;simp only[Bool.not_true,Bool.not_false,gL,zl,qw];rw[zc,qo,zc,qo,vH (kdt (by omega)),vH (kdt (by omega)),vH (kdt (by simp; omega)),vH (kdt (by simp; omega)),H,I];obtain⟨⟨Y,z2,z3,z4,z5,Z⟩,e⟩:=r;rw[zl]
     dsimp only
     rw[zl]
     dsimp only
     rw[BEq.rfl,XN y (by decide) (by decide)];rfl
end W
end
section
namespace W
open Go Go.Proofs Go.RowKit Go.ChangeShapes Go.WideShapes Go.ChangeAt
open Go.Proofs.YtgbnebnnphdenaaGreat Go.ChangeMaps
theorem qfj {a b:Bool} (ha:a=true) (c:b=true):(a&&b)=true:=by rw[ha,c]; rfl
set_option maxHeartbeats 4000000 in
theorem qd2:joinedFacts Tryz.pinned.checked.prog 6 Tryz.f6 (Rows.OpenSpec.upto Rows.evalMoreSpec).bare Rows.evalMoreUptoRow=true:=by
 unfold joinedFacts
 repeat' with_reducible refine qfj ?_ ?_
 all_goals (as_aux_lemma=>kernel_rfl)
end W
end
