/- A part of the proof: the plain law. -/
import Derived.Test.YtgbnebnnphdenaaGreatRows
import Derived.Deep.DeepHandedRow
import Derived.ChangeMaps5
import Derived.OpenShut
import Derived.Test.YtgbnebnnphdenaaGreatI
set_option linter.unusedVariables false
set_option linter.unusedSimpArgs false
set_option linter.unnecessarySimpa false
set_option linter.deprecated false
set_option linter.unusedSectionVars false
set_option linter.constructorNameAsVariable false
open Nat renaming exists_eq_succ_of_ne_zero->jj,le_refl->jw
open List renaming append_assoc->js,length_take->jt,mem_append->jy,getElem?_eq_some_iff->jG
section
open Go Ax Go.Proofs
namespace W
inductive Al (p p':xa):qa->qa->Prop where
 | leaf {x x':qa} (h:∀ n,34359738368<n->n<=1099511627776->qu n p x=qu n p' x'):Al p p' x x'
 | node {op:Int} {name:List UInt8} {val:Val} {nms:List (List UInt8)} {args args':List qa} (h:op≠2/\op≠3) (hl:args.length=args'.length) (ha:∀ (i:Nat) (a a':qa),args[i]? =some a->args'[i]? =some a'->Al p p' a a') :
   Al p p' (.mk op name val nms args) (.mk op name val nms args')
theorem TY {p p':xa} {m:Nat} {args args':List qa} (hl:args.length=args'.length) (ha:∀ (i:Nat) (a a':qa),args[i]? =some a->args'[i]? =some a'->qu m p a=qu m p' a') :
  qW (m+1) p args=qW (m+1) p' args':=by
 rw[Ll,Ll];have key:∀ (j:Nat) (st:List Val×Int),qA (SM m p args) j st=qA (SM m p' args') j st:=by
  intro j
  induction j with
  | zero=>intro st; rfl
  | succ j ih=>
   rintro⟨acc,i⟩;have ih':qA (SM m p args) j=qA (SM m p' args') j:=funext ih;rw[zJ,zJ,ih'];generalize qA (SM m p' args') j=nx;unfold SM xA
   dsimp only
   rw[zM,zM,hl];cases l:decide (i<((args'.length:Nat):Int))with
   | false=>rfl
   | true=>
    rw[zm,zm];by_cases g:0<=i
    ·obtain⟨q,rfl⟩:=Int.eq_ofNat_of_zero_le g
     have k:q<args'.length:=by have:=kod l; omega
     have b:q<args.length:=by omega
     have e:=ha q _ _ (xG b) (xG k);rw[zG (xG b),zG (xG k),zl,zl];generalize args[q]=a at e;generalize args'[q]=a' at e;obtain⟨r,s,⟨t,u,v,w,x,y⟩,z,n⟩:=a;obtain⟨A,B,⟨C,D,E,F,G,H⟩,I,o⟩:=a';obtain⟨⟨names,vals⟩,⟨nodes,edges⟩,⟨J,K,L,M,N,O⟩⟩:=p;obtain⟨⟨c,h⟩,⟨d,f⟩,⟨P,Q,R,S,T,U⟩⟩:=p'
     dsimp only at e ⊢
     rw[e]
    unfold idx;rw[if_neg g,if_neg g];rfl
 exact key m _
theorem SZ {p p':xa} (j:p.g=p'.g):∀ (N:Nat) (x x':qa),Al p p' x x'->cQ x<=N->∀ n,34359738368+2 * N<=n->n<=1099511627776->qu n p x=qu n p' x':=by
 intro N
 induction N with
 | zero=>intro x x' _ h; obtain⟨op,name,val,names,args⟩:=x; simp only[cQ]at h; omega
 | succ N ih=>
  intro x x' h B n h1 h2;cases h with
  | leaf h=>exact h n (by omega) h2
  | @node op name val nms args args' hop hl ha=>
   have k:cQ (.mk op name val nms args)=1+name.length+cn val+pb nms+cM args:=by simp only[cQ]
   obtain⟨m,rfl⟩:∃ m,n=m+1+1:=⟨n - 2,by omega⟩;have f:qW (m+1) p args=qW (m+1) p' args':=TY hl fun i a a' h3 h4=>ih a a' (ha i a a' h3 h4) (by have:=cN (gM h3); omega) m (by omega) (by omega)
   by_cases e1:op=1
   ·subst e1
    obtain⟨⟨names,vals⟩,⟨nodes,edges⟩,⟨l,o,q,r,s,t⟩⟩:=p;obtain⟨⟨b,e⟩,⟨c,d⟩,⟨u,v,w,y,z,A⟩⟩:=p';obtain⟨v1,v2,v3,v4,v5,v6⟩:=val;rfl
   by_cases e14:op=14
   ·subst e14
    obtain⟨⟨names,vals⟩,⟨nodes,edges⟩,⟨l,o,q,r,s,t⟩⟩:=p;obtain⟨⟨b,e⟩,⟨c,d⟩,⟨u,v,w,y,z,A⟩⟩:=p';obtain⟨v1,v2,v3,v4,v5,v6⟩:=val;rfl
   rw[Ci (m+1) p ⟨e1,hop.1,hop.2,e14⟩,Ci (m+1) p' ⟨e1,hop.1,hop.2,e14⟩,f,j];congr 1
theorem Res.alike {p p':xa} (c:p.g=p'.g) {x x':qa} (h:Al p p' x x') (d:cQ x<=1048576) {N:Nat} {r r':Val×Int} (f:Res N p x r) (a:Res N p' x' r') (b:N<=549755813888):r=r':=by
 have e:=SZ c 1048576 x x' h d 549755813888 (by decide) (by decide);rw[f.2 _ b (by decide),a.2 _ b (by decide)]at e;exact Option.some.inj e
theorem qax {r:Val×Int} (h:VR r):VF (Pb r).1:=by
 unfold Pb;cases he:r.2 != 0 with
 | true=>exact gC
 | false=>exact h (by simpa using he)
theorem lO (n:Nat) (x:qa):xI n x=bnd (gk n x 32) fun b=>some b:=by
 obtain⟨c,d,⟨e,f,g,h,i,j⟩,k,a⟩:=x;rfl
def oR (e:List (List UInt8×Val)) (name:List UInt8):Val×Int:=match e.find? fun x=>x.1==name with
 | some x=>(x.2,0)
 | none=>(Eu,2)
theorem RW {name:List UInt8}:∀ {names:List (List UInt8)} {vals:List Val} {j:Nat} {v:Val},names[j]? =some name->vals[j]? =some v->name ∉ names.take j->((names.zip vals).find? fun x=>x.1==name)=some (name,v)
 | [],_,j,_,h,_,_=>by simp at h
 | _::_,[],j,_,_,h,_=>by simp at h
 | a::names,w::vals,0,v,h,h',_=>by
  simp only[List.getElem?_cons_zero,Option.some.injEq]at h h';subst h h';simp
 | a::names,w::vals,j+1,v,h,h',hn=>by
  simp only[List.take_succ_cons,List.mem_cons,not_or]at hn;rw[List.zip_cons_cons,List.find?_cons];have:(a==name)=false:=by simpa using fun e=>hn.1 e.symm
  simp only[this];exact RW (by simpa using h) (by simpa using h') hn.2
theorem iL {name:List UInt8} {names:List (List UInt8)} {vals:List Val} (h:name ∉ names):((names.zip vals).find? fun x=>x.1==name)=none:=by
 rw[List.find?_eq_none];rintro⟨a,v⟩ hm he;have:=(List.of_mem_zip hm).1;have he:a=name:=eq_of_beq he;rw[he]at this;exact h this
theorem aJ {names:List (List UInt8)} {vals:List Val} (hl:names.length=vals.length) (e:names.length<=1048576) (g:Graph) (par:Val) (name:List UInt8) (val:Val) (nms:List (List UInt8)) (args:List qa) {n:Nat} (h1:34359738368<n) (h2:n<=1099511627776) :
  qu n ⟨⟨names,vals⟩,g,par⟩ (.mk 2 name val nms args)=some (oR (names.zip vals) name):=by
 obtain⟨m,rfl⟩:∃ m,n=m+1:=⟨n - 1,by omega⟩;obtain⟨r,f,a⟩:=BB names name e;have a:=a m (by omega) (by omega);obtain⟨nodes,edges⟩:=g;obtain⟨i,k,l,o,p,q⟩:=par;obtain⟨v1,v2,v3,v4,v5,v6⟩:=val;show zK m (qu m) (qW m) _ _=_;unfold zK uy oR
 dsimp only at a ⊢
 rw[a,zl,qo];rcases f with ⟨c,rfl⟩|⟨j,rfl,d,c⟩
 ·rw[iL c]
  rfl
 have h:=py d;have b:j<vals.length:=by omega
 rw[RW d (xG b) c,kdf (show ¬ ((j:Nat):Int)<0 by omega),kdf (show ¬ ((j:Nat):Int)≥((vals.length:Nat):Int) by omega),zG (xG b)];generalize vals[j]=v;obtain⟨s,z2,z3,z4,z5,t⟩:=v;rfl
end W
end
section
open Go Ax Go.Proofs
namespace W
theorem zo.loop {R S T:Type} {N:Nat} {Q:R->Prop} {f:S->Prop} {B:Nat->(S->Option R)->(T->Option R)->T->Option R} (I:Nat->T->Prop)
  (h:∀ m t,I m t->zo N (fun n (a:T ⊕ S->Option R)=>B n (fun s=>a (.inr s)) (fun t=>a (.inl t)) t) (fun o=>match o with|.inl t'=>∃ d,d<m/\I d t'|.inr s=>f s) Q) {m0:Nat} {t0:T} (l:I m0 t0) (q:m0<N) :
  zo N (fun n a=>qA (B n a) n t0) f Q:=by
 have key:∀ (M m:Nat),m<=M->∀ t,I m t->(∃ s,f s/\∀ n a k,N<=n->n<=1099511627776->m<k->qA (B n a) k t=a s)\/∃ r,Q r/\∀ n a k,N<=n->n<=1099511627776->m<k->qA (B n a) k t=some r:=by
  intro M
  induction M with
  | zero=>
   intro m hm t g;rcases h m t g with ⟨o,e,b⟩|⟨r,qr,b⟩
   ·cases o with
    | inl t'=>obtain⟨d,i,_⟩:=e; omega
    | inr s=>
     refine .inl ⟨s,e,fun n a k h1 h2 h3=>?_⟩;obtain⟨k,rfl⟩:=jj (by omega:k≠0);exact b n (Sum.elim (qA (B n a) k) a) h1 h2
   refine .inr ⟨r,qr,fun n a k h1 h2 h3=>?_⟩;obtain⟨k,rfl⟩:=jj (by omega:k≠0);exact b n (Sum.elim (qA (B n a) k) a) h1 h2
  | succ M ih=>
   intro m hm t g;rcases h m t g with ⟨o,e,b⟩|⟨r,qr,b⟩
   ·cases o with
    | inl t'=>
     obtain⟨d,i,p⟩:=e;rcases ih d (by omega) t' p with ⟨s,j,c⟩|⟨r,qr,c⟩
     ·refine .inl ⟨s,j,fun n a k h1 h2 h3=>?_⟩
      obtain⟨k,rfl⟩:=jj (by omega:k≠0);exact(b n (Sum.elim (qA (B n a) k) a) h1 h2).trans (c n a k h1 h2 (by omega))
     refine .inr ⟨r,qr,fun n a k h1 h2 h3=>?_⟩;obtain⟨k,rfl⟩:=jj (by omega:k≠0);exact(b n (Sum.elim (qA (B n a) k) a) h1 h2).trans (c n a k h1 h2 (by omega))
    | inr s=>
     refine .inl ⟨s,e,fun n a k h1 h2 h3=>?_⟩;obtain⟨k,rfl⟩:=jj (by omega:k≠0);exact b n (Sum.elim (qA (B n a) k) a) h1 h2
   refine .inr ⟨r,qr,fun n a k h1 h2 h3=>?_⟩;obtain⟨k,rfl⟩:=jj (by omega:k≠0);exact b n (Sum.elim (qA (B n a) k) a) h1 h2
 rcases key m0 m0 (jw _) t0 l with ⟨s,j,b⟩|⟨r,qr,b⟩
 ·exact .inl ⟨s,j,fun n a h1 h2=>b n a n h1 h2 (by omega)⟩
 exact .inr ⟨r,qr,fun n a h1 h2=>b n a n h1 h2 (by omega)⟩
theorem Tx {ks:List (List UInt8)} (h:sz ks) {q:Nat} (j:q<=ks.length) {x:List UInt8} (h1:∀ (i:Nat) (f:i<ks.length),i<q->ks[i]<x) (h2:∀ f:q<ks.length,x<ks[q]):sz (ks.take q++[x]++ks.drop q):=by
 intro i a b ha c;rw[js]at ha c;rw[List.getElem?_append]at ha c;have g:(ks.take q).length=q:=by rw[jt]; omega
 rw[g]at ha c;by_cases c1:i+1<q
 ·rw[if_pos (by omega),List.getElem?_take_of_lt (by omega)]at ha
  rw[if_pos c1,List.getElem?_take_of_lt (by omega)]at c;exact h i a b ha c
 by_cases c2:i<q
 ·have e:i+1=q:=by omega
  rw[if_pos c2,List.getElem?_take_of_lt c2]at ha;rw[if_neg c1,e,Nat.sub_self]at c;have c:x=b:=by simpa using c
  obtain⟨f,rfl⟩:=jG.1 ha;rw[← c];exact h1 i f c2
 rw[if_neg c2]at ha;rw[if_neg (by omega)]at c;by_cases c3:i=q
 ·subst c3
  rw[Nat.sub_self]at ha;rw[show i+1 - i=0+1 by omega]at c;have ha:x=a:=by simpa using ha
  have c:ks[i]? =some b:=by simpa using c
  obtain⟨f,rfl⟩:=jG.1 c;rw[← ha];exact h2 f
 obtain⟨d,rfl⟩:∃ d,i=q+d+1:=⟨i - q - 1,by omega⟩;rw[show q+d+1 - q=d+1 by omega]at ha;rw[show q+d+1+1 - q=d+1+1 by omega]at c;have ha:ks[q+d]? =some a:=by simpa using ha
 have c:ks[q+(d+1)]? =some b:=by simpa using c
 exact h (q+d) a b ha (by rw[Nat.add_assoc]; exact c)
def qgn (names:List (List UInt8)) (vals:List Val) (r:Val×Int):Prop:=
 r.2=0->∃ ks l,r.1=.mk 5 false 0 [] l ks/\sz ks/\ks.length=l.length/\(ks.zip l).Perm (names.zip vals)/\cn r.1<=1048576
theorem Hm:∀ l:List Val,vk l=1+l.length+(l.map cn).sum
 | []=>rfl
 | v::l=>by simp only[vk,Hm l,List.length_cons,List.map_cons,List.sum_cons]; omega
theorem Sr {A:Type} (f:A->Nat) {l m:List A} (h:l.Perm m):(l.map f).sum=(m.map f).sum:=by
 induction h with
 | nil=>rfl
 | cons x _ ih=>simp[ih]
 | swap x y l=>simp; omega
 | trans _ _ h1 h2=>exact h1.trans h2
theorem qb2 {names ks:List (List UInt8)} {vals l:List Val} (h1:ks.length=l.length) (h2:names.length=vals.length) (a:(ks.zip l).Perm (names.zip vals)):cn (.mk 5 false 0 [] l ks)=2+vk vals+pb names:=by
 have e1:l.Perm vals:=by
  have:=a.map Prod.snd
  rwa [List.map_snd_zip (by omega),List.map_snd_zip (by omega)]at this
 have e2:ks.Perm names:=by
  have:=a.map Prod.fst
  rwa [List.map_fst_zip (by omega),List.map_fst_zip (by omega)]at this
 have s1:=Sr cn e1;have s2:=Sr (fun k=>1+k.length) e2
 have s3:=e1.length_eq;have b:isz 0=1:=by decide
 unfold pb;simp only[cn,b,Hm,List.length_nil];omega
theorem Tt {names:List (List UInt8)} {vals:List Val} (hn:names.length<=1048570) (hv:∀ v∈vals,cn v<=1048576/\VF v) (hbn:pb names+vk vals<=1048570):Tot 34359738368 (fun n=>Qa n names vals) (qgn names vals):=by
 unfold Qa;rw[zc,qo];refine Tot.cond (fun _=>.one fun h=>absurd h (by dsimp only; decide)) fun hc=>?_
 have hlen:names.length=vals.length:=by have:=bne_eq_false_iff_eq.1 hc; omega
 refine Tot.loop (fun m st=>∃ (j:Nat) (l:List Val) (ks:List (List UInt8)),st=(((j:Nat):Int),l,ks)/\j+m=names.length/\ks.length=j/\l.length=j/\sz ks/\(ks.zip l).Perm ((names.take j).zip (vals.take j))/\∀ v∈l,VF v) ?_ ⟨0,[],[],rfl,by omega,rfl,rfl,(fun i x y h=>by simp at h),by simp,(fun v h=>by cases h)⟩ (by omega:names.length<34359738368)
 rintro m _ ⟨j,l,ks,rfl,hm,X,u,Y,A,Z⟩;unfold sS
 dsimp only
 rw[zc];refine zo.cond (fun F=>?_) fun F=>?_
 ·have G:j<names.length:=by have:=kod F; omega
  have p:j<vals.length:=by omega
  refine zo.loop (fun m2 t=>∃ q:Nat,t=((q:Nat):Int)/\q+m2=ks.length/\∀ (i:Nat) (B:i<ks.length),i<q->ks[i]<names[j]) ?_ ⟨0,rfl,by omega,fun i B h=>by omega⟩ (by omega:ks.length<34359738368)
  rintro m2 _ ⟨q,rfl,hq,hless⟩;unfold sT;rw[zc,qo];have C:∀ g:Bool,(g=true->q<ks.length)->Tot 34359738368 (fun n=>qE g (idx ks ((q:Nat):Int))) (fun x=>g=true->∃ B:q<ks.length,x=ks[q]):=fun g hg=>Tot.gs fun h=>Tot.idx (xG (hg h)) ⟨hg h,rfl⟩
  have D:∀ g:Bool,Tot 34359738368 (fun n=>qE g (idx names ((j:Nat):Int))) (fun x=>g=true->x=names[j]):=fun g=>Tot.gs fun _=>Tot.idx (xG G) rfl
  have E:decide (((q:Nat):Int)<((ks.length:Nat):Int))=true->q<ks.length:=fun h=>by have:=kod h; omega
  refine zo.bnd (C _ E) fun x7 h7=>zo.bnd (D _) fun x8 h8=>zo.cond (fun k=>?_) fun k=>zo.bnd (C _ E) fun x9 h9=>zo.bnd (D _) fun x10 H=>zo.cond (fun _=>.one fun h=>absurd h (by dsimp only; decide)) fun r=>?_
  ·cases f:decide (((q:Nat):Int)<((ks.length:Nat):Int))with
   | false=>rw[f]at k; cases k
   | true=>
    rw[f]at k;obtain⟨hqk,I⟩:=h7 f;have e8:=h8 f;rw[zm,PG,I,e8]at k;have J:=kod k;rw[xW (by omega)];refine .next ⟨m2 - 1,by omega,q+1,rfl,by omega,fun i B hiq=>?_⟩;by_cases e:i<q
    ·exact hless i B e
    obtain rfl:i=q:=by omega
    exact J
  have o:q<=ks.length:=by omega
  have htl:(ks.take q).length=q:=by rw[jt]; omega
  have htl2:(l.take q).length=q:=by rw[jt]; omega
  have nat:∀ z:Nat,Tot 34359738368 (fun _=>Qq ((z:Nat):Int)) (fun w=>w=z):=fun z=>.of (fun n _ _=>natI_nat z) rfl
  refine zo.bnd (nat q) fun x11 K=>?_;subst K;refine zo.chk (kdt o) (zo.chk (kdt (by rw[zc]; omega)) (zo.bnd (nat _) fun x12 L=>?_));subst L;refine zo.chk (kdt (by omega)) (zo.chk (kdt (by rw[qo]; omega)) (zo.bnd (Tot.idx (xG G) (P:=fun x=>x=names[j]) rfl) fun x13 M=>?_))
  subst M;refine zo.chk (kdt (by rw[zc]; simp; omega)) (zo.bnd (Tot.idx (xG p) (P:=fun x=>x=vals[j]) rfl) fun c N=>?_)
  obtain⟨y1,y2,y3,y4,y5,y6⟩:=c
  dsimp only
  rw[N];obtain⟨hvb,O⟩:=hv _ (List.getElem_mem p);refine zo.bnd (.of (fun n h1 h2=>ou n h2 vals[j] (by omega)) (Q:=fun x=>x=vals[j]) rfl) fun d R=>?_
  obtain⟨w1,w2,w3,w4,w5,w6⟩:=d
  dsimp only
  rw[R];refine zo.chk (kdt (by rw[qo]; simp; omega)) (zo.bnd (nat _) fun x26 S=>?_);subst S;refine zo.chk (kdt o) (zo.chk (kdt (by rw[zc]; simp; omega)) (zo.bnd (nat _) fun a T=>?_));subst T;refine zo.chk (kdt (by omega)) (zo.chk (kdt (by rw[qo]; simp; omega)) ?_);rw[xW (by omega)];refine zo.next (s:=Sum.inr (((j+1:Nat):Int),l.take a++[vals[j]]++l.drop a,ks.take a++[names[j]]++ks.drop a)) ⟨m - 1,by omega,j+1,_,_,rfl,by omega,by simp; omega,by simp; omega,?_,?_,?_⟩
  ·refine Tx Y o hless fun B=>?_
   have f:decide (((a:Nat):Int)<((ks.length:Nat):Int))=true:=kdt (by omega);rw[f]at k r;obtain⟨_,I⟩:=h7 f;obtain⟨_,e9⟩:=h9 f;rw[zm,PG,I,h8 f]at k;rw[zm,e9,H f]at r;refine qdp.1 ?_;rw[PG,k,r];rfl
  ·rw[gA G,gA p,List.zip_append (by simp; omega),List.zip_append (by simp; omega),List.zip_append (by simp; omega)]
   have e1:ks.zip l=(ks.take a).zip (l.take a)++(ks.drop a).zip (l.drop a):=by
    rw[← List.zip_append (by simp; omega),List.take_append_drop,List.take_append_drop]
   rw[e1]at A;have hs:[names[j]].zip [vals[j]]=[(names[j],vals[j])]:=rfl;rw[hs,js];refine List.Perm.trans ?_ (A.append_right _);rw[js];exact List.Perm.append_left _ List.perm_append_comm
  intro v U;rcases jy.1 U with h|h
  ·rcases jy.1 h with h|h
   ·exact Z v (List.mem_of_mem_take h)
   rw[List.mem_singleton.1 h]; exact O
  exact Z v (List.mem_of_mem_drop h)
 have V:j=names.length:=by have:=of_decide_eq_false F; omega
 subst V;rw[List.take_length,hlen,List.take_length]at A;have hbig:=qb2 (X.trans u.symm) hlen A;refine zo.bnd (Cl (by omega)) fun b hb=>zo.cond (fun _=>.one fun h=>absurd h (by dsimp only; decide)) fun _=>.one fun _=>?_
 exact⟨ks,l,rfl,Y,X.trans u.symm,A,by dsimp only; omega⟩
end W
end
section
open Go Ax Go.Proofs
namespace W
inductive NoP:qa->Prop where
 | mk {op:Int} {name:List UInt8} {val:Val} {nms:List (List UInt8)} {args:List qa} (h:op≠3/\op≠15) (ha:∀ x∈args,NoP x):NoP (.mk op name val nms args)
inductive Ren:qa->qa->Prop where
 | mk {op:Int} {name:List UInt8} {val:Val} {nms:List (List UInt8)} {args args':List qa} (hl:args.length=args'.length) (ha:∀ (i:Nat) (a a':qa),args[i]? =some a->args'[i]? =some a'->Ren a a') :
   Ren (.mk op name val nms args) (.mk (if op=2 then 3 else op) name val nms args')
theorem oP:∀ (N:Nat),N<=1048576->∀ (x:qa),cQ x<=N->Tot (34359738368+N) (fun n=>dU n x) (fun b=>b=false->NoP x):=by
 intro N
 induction N with
 | zero=>intro _ x h; obtain⟨op,name,val,names,args⟩:=x; simp only[cQ]at h; omega
 | succ N ih=>
  intro v x o;refine Tot.succ (N:=34359738368+N) (G:=fun n=>nD n (dU n) x) (fun n=>rfl) ?_
  obtain⟨op,name,val,names,args⟩:=x;have q:cQ (.mk op name val names args)=1+name.length+cn val+pb names+cM args:=by simp only[cQ]
  have r:=dA args;obtain⟨v1,v2,v3,v4,v5,v6⟩:=val;unfold nD
  dsimp only
  refine Tot.cond (fun _=>.one fun h=>by cases h) fun a=>?_
  have d:op≠3/\op≠15:=by
   cases h3:op==3 with
   | true=>rw[h3]at a; cases a
   | false=>
    rw[h3,qw]at a;exact⟨by simpa using h3,by simpa using a⟩
  refine Tot.loop (fun m st=>∃ j:Nat,st=((j:Nat):Int)/\j+m=args.length/\∀ (i:Nat) (h:i<args.length),i<j->NoP args[i]) ?_ ⟨0,rfl,by omega,fun i h c=>by omega⟩ (by omega:args.length<34359738368+N)
  rintro m _ ⟨j,rfl,hm,p⟩;unfold mX;rw[zM];refine zo.cond (fun f=>?_) fun f=>.one fun _=>?_
  ·have g:j<args.length:=by have:=kod f; omega
   have s:=cN (List.getElem_mem g);refine zo.bnd (Tot.idx (xG g) (P:=fun x=>x=args[j]) rfl) fun x k=>?_
   obtain⟨w,y,⟨z,A,B,C,D,E⟩,F,t⟩:=x
   dsimp only
   rw[k];refine zo.bnd (ih (by omega) args[j] (by omega)) fun b o=>zo.cond (fun _=>.one fun h=>by cases h) fun l=>?_
   rw[xW (by omega)];refine .next ⟨m - 1,by omega,j+1,rfl,by omega,fun i c u=>?_⟩;by_cases e:i<j
   ·exact p i c e
   obtain rfl:i=j:=by omega
   exact o l
  have g:j=args.length:=by have:=of_decide_eq_false f; omega
  refine .mk d fun x k=>?_;obtain⟨i,c,rfl⟩:=List.mem_iff_getElem.1 k;exact p i c (by omega)
theorem Tp:∀ (N:Nat),N<=1048576->∀ (x:qa),cQ x<=N->Tot (34359738368+N) (fun n=>fj n x) (fun x'=>Ren x x'):=by
 intro N
 induction N with
 | zero=>intro _ x h; obtain⟨op,name,val,names,args⟩:=x; simp only[cQ]at h; omega
 | succ N ih=>
  intro v x w;refine Tot.succ (N:=34359738368+N) (G:=fun n=>bC n (fj n) x) (fun n=>rfl) ?_
  obtain⟨op,name,val,names,args⟩:=x;have p:cQ (.mk op name val names args)=1+name.length+cn val+pb names+cM args:=by simp only[cQ]
  have q:=dA args;have key:∀ c:Int,Tot (34359738368+N) (fun n=>gV n args (fj n) name val.1 val.2 val.3 val.4 val.5 val.6 names c) (fun x'=>∃ args',x'=.mk c name val names args'/\args.length=args'.length/\∀ (i:Nat) (a a':qa),args[i]? =some a->args'[i]? =some a'->Ren a a'):=by
   intro c;obtain⟨v1,v2,v3,v4,v5,v6⟩:=val;unfold gV;refine Tot.loop (fun m st=>∃ (j:Nat) (acc:List qa),st=(acc,((j:Nat):Int))/\j+m=args.length/\acc.length=j/\∀ (i:Nat) (a a':qa),args[i]? =some a->acc[i]? =some a'->Ren a a') ?_ ⟨0,[],rfl,by omega,rfl,fun i a a' _ h=>by simp at h⟩ (by omega:args.length<34359738368+N)
   rintro m _ ⟨j,acc,rfl,hm,d,o⟩;unfold bH
   dsimp only
   rw[zM];refine zo.cond (fun g=>?_) fun g=>.one ?_
   ·have f:j<args.length:=by have:=kod g; omega
    have r:=cN (List.getElem_mem f);refine zo.bnd (Tot.idx (xG f) (P:=fun x=>x=args[j]) rfl) fun x s=>?_
    obtain⟨y,z,⟨A,B,C,D,E,F⟩,H,t⟩:=x
    dsimp only
    rw[s];refine zo.bnd (ih (by omega) args[j] (by omega)) fun x' k=>?_;obtain⟨I,J,⟨K,L,M,O,Q,R⟩,S,u⟩:=x'
    dsimp only
    rw[zM,xW (by omega)];refine zo.chk (kdt (by simp; omega)) (.next ⟨m - 1,by omega,j+1,_,rfl,by omega,by simp; omega,fun i a a' ha b=>?_⟩);rw[List.getElem?_append]at b;by_cases e:i<acc.length
    ·rw[if_pos e]at b
     exact o i a a' ha b
    rw[if_neg e]at b;have l:i=j:=by
     have:=py b;simp at this;omega
    subst l;rw[d,Nat.sub_self]at b;have e1:a=args[i]:=Option.some.inj (ha.symm.trans (xG f));have e2:=Option.some.inj b;rw[e1,← e2];exact k
   have f:j=args.length:=by have:=of_decide_eq_false g; omega
   exact⟨acc,rfl,by omega,o⟩
  obtain⟨v1,v2,v3,v4,v5,v6⟩:=val;unfold bC
  dsimp only
  refine Tot.cond (fun h=>(key 3).imp ?_) fun h=>(key op).imp ?_
  ·rintro _ ⟨args',rfl,h1,h2⟩
   have e:=Ren.mk (op:=op) (name:=name) (val:=.mk v1 v2 v3 v4 v5 v6) (nms:=names) h1 h2
   rwa [if_pos (eq_of_beq h)]at e
  rintro _ ⟨args',rfl,h1,h2⟩;have e:=Ren.mk (op:=op) (name:=name) (val:=.mk v1 v2 v3 v4 v5 v6) (nms:=names) h1 h2
  rwa [if_neg (by simpa using h)]at e
theorem St:∀ {args args':List qa},args.length=args'.length->(∀ (i:Nat) (a a':qa),args[i]? =some a->args'[i]? =some a'->cQ a'=cQ a)->cM args'=cM args
 | [],[],_,_=>rfl
 | [],_::_,h,_=>by simp at h
 | _::_,[],h,_=>by simp at h
 | a::l,a'::l',h,h'=>by
  have e1:=h' 0 a a' rfl rfl;have e2:=St (args:=l) (args':=l') (by simpa using h) fun i b d e c=>h' (i+1) b d (by simpa using e) (by simpa using c)
  simp only[cM,e1,e2]
theorem qep:∀ (N:Nat) (x x':qa),Ren x x'->cQ x<=N->cQ x'=cQ x/\(EvOk x->EvOk x'):=by
 intro N
 induction N with
 | zero=>intro x x' _ h; obtain⟨op,name,val,names,args⟩:=x; simp only[cQ]at h; omega
 | succ N ih=>
  intro x x' h j;cases h with
  | @mk op name val nms args args' hl ha=>
   have f:cQ (.mk op name val nms args)=1+name.length+cn val+pb nms+cM args:=by simp only[cQ]
   have ih':=fun(i:Nat) (a a':qa) (h1:args[i]? =some a) (h2:args'[i]? =some a')=>ih a a' (ha i a a' h1 h2) (by have:=cN (gM h1); omega);refine⟨?_,fun c=>?_⟩
   ·have:=St hl fun i a a' h1 h2=>(ih' i a a' h1 h2).1
    simp only[cQ,this]
   cases c with
   | mk h1 h2 h3 h4 h5=>
    refine .mk (fun e=>?_) (fun e=>?_) (fun e=>?_) (fun a' d=>?_) fun e=>?_
    ·split at e
     ·omega
     exact h1 e
    ·rw[← hl]
     split at e
     ·omega
     exact h2 e
    ·rw[← hl]
     split at e
     ·omega
     exact h3 e
    ·obtain⟨i,g,rfl⟩:=List.mem_iff_getElem.1 d
     have b:i<args.length:=by omega
     exact(ih' i _ _ (xG b) (xG g)).2 (h4 _ (List.getElem_mem b))
    split at e
    ·omega
    exact h5 e
theorem qbl {names ks:List (List UInt8)} {vals l:List Val} (g:sz ks) (hl:ks.length=l.length) (e:(ks.zip l).Perm (names.zip vals)) (name:List UInt8) :
  (PS 5 l ks name).1=(oR (names.zip vals) name).1/\((PS 5 l ks name).2=true->(oR (names.zip vals) name).2=0)/\((PS 5 l ks name).2=false->oR (names.zip vals) name=(Eu,2)):=by
 unfold oR;cases c:(names.zip vals).find? fun x=>x.1==name with
 | some x=>
  obtain⟨a,v⟩:=x;have h1:a=name:=by have:=List.find?_some c; exact eq_of_beq this
  subst h1;have h2:=e.mem_iff.2 (List.mem_of_find?_eq_some c);obtain⟨i,f,he⟩:=List.mem_iff_getElem.1 h2;rw[List.getElem_zip]at he;have d:i<ks.length:=by simp at f; omega
  have b:i<l.length:=by omega
  have e1:ks[i]=a:=(Prod.mk.inj he).1;have e2:l[i]=v:=(Prod.mk.inj he).2;have e3:ks[i]? =some a:=by rw[xG d,e1]
  have e4:PS 5 l ks a=(v,true):=by
   unfold PS;rw[if_pos ⟨rfl,gM e3⟩,Sc g e3,xG b,e2]
  rw[e4];exact⟨rfl,fun _=>rfl,fun h=>by cases h⟩
 | none=>
  have j:name ∉ ks:=by
   intro hm;obtain⟨i,f,he⟩:=List.mem_iff_getElem.1 hm;have b:i<l.length:=by omega
   have:(name,l[i])∈ks.zip l:=by
    rw[← he];exact List.mem_iff_getElem.2 ⟨i,by simp; omega,List.getElem_zip⟩
   have:=List.find?_eq_none.1 c _ (e.mem_iff.1 this);simp at this
  have e4:PS 5 l ks name=RJ:=by
   unfold PS;rw[if_neg fun h=>j h.2]
  rw[e4];exact⟨rfl,(fun h=>by cases h),fun _=>rfl⟩
theorem qek {names ks:List (List UInt8)} {vals l:List Val} (f:VF (.mk 5 false 0 [] l ks)) (h:sz ks) (hl:ks.length=l.length) (i:(ks.zip l).Perm (names.zip vals)) (e:Env) (g:Graph) (name:List UInt8) (val:Val) (nms:List (List UInt8)) (args:List qa) {n:Nat} (h1:34359738368<n) (h2:n<=1099511627776) :
  qu n ⟨e,g,.mk 5 false 0 [] l ks⟩ (.mk 3 name val nms args)=some (oR (names.zip vals) name):=by
 obtain⟨m,rfl⟩:∃ m,n=m+1:=⟨n - 1,by omega⟩;obtain⟨k,a2⟩:=e;obtain⟨nodes,edges⟩:=g;obtain⟨v1,v2,v3,v4,v5,v6⟩:=val;obtain⟨a,c,d⟩:=qbl h hl i name;have j:=EI (n:=m) (by omega) f rfl (by omega) name;show zK m (qu m) (qW m) _ _=_;unfold zK uz
 dsimp only
 rw[j];generalize PS 5 l ks name=r at a c d;obtain⟨⟨o,z2,z3,z4,z5,p⟩,b⟩:=r
 dsimp only at a c d
 generalize oR (names.zip vals) name=w at a c d;obtain⟨q,s⟩:=w
 dsimp only at a c d
 cases b with
 | true=>
  have:=c rfl;subst a this;rfl
 | false=>
  rw[d rfl];rfl
theorem qdl {names ks:List (List UInt8)} {vals l:List Val} (c:VF (.mk 5 false 0 [] l ks)) (d:sz ks) (hl:ks.length=l.length) (f:(ks.zip l).Perm (names.zip vals)) (j:names.length=vals.length) (k:names.length<=1048576) (e:Env) (g:Graph) (par:Val) :
  ∀ (N:Nat) (x x':qa),Ren x x'->NoP x->cQ x<=N->Al ⟨⟨names,vals⟩,g,par⟩ ⟨e,g,.mk 5 false 0 [] l ks⟩ x x':=by
 intro N
 induction N with
 | zero=>intro x x' _ _ h; obtain⟨op,name,val,names,args⟩:=x; simp only[cQ]at h; omega
 | succ N ih=>
  intro x x' h b m;cases h with
  | @mk op name val nms args args' hl2 ha=>
   have o:cQ (.mk op name val nms args)=1+name.length+cn val+pb nms+cM args:=by simp only[cQ]
   cases b with
   | mk hop hna=>
    by_cases e2:op=2
    ·subst e2
     refine .leaf fun n h1 h2=>?_;rw[aJ j k g par name val nms args h1 h2,if_pos rfl,qek c d hl f e g name val nms args' h1 h2]
    rw[if_neg e2];exact .node ⟨e2,hop.1⟩ hl2 fun i a a' h1 h2=>ih a a' (ha i a a' h1 h2) (hna a (gM h1)) (by have:=cN (gM h1); omega)
theorem eC {N:Nat} {p:xa} {x:qa} {r:Val×Int} (b:Res N p x r) (j:34359738368<=N) {n:Nat} (h1:N<=n) (h2:n<=1099511627776):cE n x p.env p.g p.params=some (Pb r):=by
 have h:=b.2 n h1 h2;have c:=b.1;obtain⟨⟨names,vals⟩,⟨nodes,edges⟩,⟨k,l,m,o,q,s⟩⟩:=p;obtain⟨t,u,⟨v,w,y,z,A,B⟩,C,d⟩:=x;obtain⟨⟨f,z2,z3,z4,z5,i⟩,e⟩:=r;unfold cE Pb
 dsimp only
 rw[h,zl]
 dsimp only
 cases he:e != 0 with
 | true=>rfl
 | false=>
  have a:VF (Val.mk f z2 z3 z4 z5 i):=c (by simpa using he);rw[qw,Bt n h2 _ (by have:=a.big; omega)];rfl
set_option maxRecDepth 100000 in
theorem lE {x:qa} {a:vK} (hb:cQ x+XB a<=1048571):bE 68719476736 x a=some true:=by
 obtain⟨P,hl⟩:=XY (n:=68719476736) (by decide) (by decide) (l:=[x]) (by have:=tj a; simp only[cM]; omega);obtain⟨u,i,s⟩:=XV 1048576 (by decide) x 32 (by omega);obtain⟨M,y,hm⟩:=Uz (a:=a) (by omega);obtain⟨N,z,t⟩:=oP 1048576 (by decide) x (by omega);obtain⟨x',d,c⟩:=Tp 1048576 (by decide) x (by omega);have s:=s 68719476736 (by decide) (by decide);have hm:=hm 68719476736 (by decide) (by decide);have t:=t 68719476736 (by decide) (by decide);have c:=c 68719476736 (by decide) (by decide);have Q:xI 68719476736 x=some u:=by rw[lO]; dsimp only at s; rw[s]; rfl
 have hw:=Ct;have R:=gb a.v.names;have S:=Vg a.params;have T:pb a.v.names+vk a.v.vals+Bz a.g+cn a.params=XB a:=rfl;have f:u=true->M=true->N=false->∃ m:Val×Int,Qa 68719476736 a.v.names a.v.vals=some m/\(m.2=0->∃ b,uS 68719476736 m.1=some b/\(b=true->∃ r:Val×Int,VF r.1/\zA 68719476736 x a=some r/\cE 68719476736 x' ⟨[],[]⟩ a.g m.1=some r)):=by
  intro O e2 U;have hp:=y e2;obtain⟨m,A,B⟩:=Tt (names:=a.v.names) (vals:=a.v.vals) (by omega) (fun v h=>⟨by have:=uZ h; omega,hp.vals v h⟩) (by omega);refine⟨m,B _ (by decide) (by decide),fun e=>?_⟩;obtain⟨ks,l,em,V,C,X,j⟩:=A e;obtain⟨b,D,E⟩:=UK j;refine⟨b,E _ (by decide) (by decide),fun Y=>?_⟩;obtain⟨h,h5⟩:=D Y;obtain⟨o1,Z⟩:=qep _ x x' d (jw _);have F:PlOk ⟨⟨[],[]⟩,a.g,m.1⟩:=⟨rfl,by simp,(fun w hw=>by cases hw),hp.gr,h,h5⟩
  obtain⟨r,G⟩:=tk hp (i O) (by omega);obtain⟨r',k⟩:=tk F (Z (i O)) (by omega);rw[em]at h;have o:=qdl h V C X hp.len (by omega) ⟨[],[]⟩ a.g a.params _ x x' d (z U) (jw _);rw[← em]at o;have e:=Res.alike (p:=⟨⟨a.v.names,a.v.vals⟩,a.g,a.params⟩) (p':=⟨⟨[],[]⟩,a.g,m.1⟩) rfl o (by omega) G k (by decide);subst e;exact⟨Pb r,qax G.1,Uw G (by decide) (by decide) (by decide),eC k (by decide) (by decide) (by decide)⟩
 obtain⟨x1,x2,⟨x3,x4,x5,x6,x7,x8⟩,x9,x10⟩:=x;obtain⟨⟨a1,a2⟩,⟨a3,a4⟩,⟨a5,a6,a7,a8,a9,a10⟩⟩:=a;obtain⟨w1,w2,⟨w3,w4,w5,w6,w7,w8⟩,w9,w10⟩:=x'
 dsimp only at hm f t c
 unfold bE
 dsimp only
 rw[hl,zl,Q,hm,t,hw,c];cases P with
 | true=>rfl
 | false=>
  cases u with
  | false=>rfl
  | true=>
   cases M with
   | false=>rfl
   | true=>
    cases N with
    | true=>rfl
    | false=>
     obtain⟨m,H,q⟩:=f rfl rfl rfl;simp only[Bool.not_true,Bool.not_false,gL,zl,qw];rw[H,zl];obtain⟨⟨m1,m2,m3,m4,m5,m6⟩,me⟩:=m
     dsimp only at q ⊢
     cases I:me != 0 with
     | true=>rfl
     | false=>
      obtain⟨b,J,K⟩:=q (by simpa using I);rw[Bool.not_false,gL,J,zl,qw];cases b with
      | false=>rfl
      | true=>
       obtain⟨r,L,q1,q2⟩:=K rfl;rw[q1];obtain⟨⟨z1,z2,z3,z4,z5,z6⟩,e⟩:=r;rw[Bool.not_true,qw,zl]
       dsimp only
       rw[q2,zl]
       dsimp only
       rw[BEq.rfl,XN L (by decide) (by decide)];rfl
end W
end
section
namespace W
open Go Go.Proofs Go.RowKit Go.ChangeShapes Go.WideShapes Go.ChangeAt
open Go.Proofs.YtgbnebnnphdenaaGreat Go.ChangeMaps
theorem qfi {a b:Bool} (ha:a=true) (c:b=true):(a&&b)=true:=by rw[ha,c]; rfl
set_option maxHeartbeats 4000000 in
theorem qd1:joinedFacts Tryz.pinned.checked.prog 5 Tryz.f5 (Rows.OpenSpec.upto Rows.evalBindsSpec).bare Rows.evalBindsUptoRow=true:=by
 unfold joinedFacts
 repeat' with_reducible refine qfi ?_ ?_
 all_goals (as_aux_lemma=>kernel_rfl)
end W
end
