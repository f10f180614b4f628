/- A part of the proof: the plain law. -/
import Derived.ProofKit
import Derived.Test.YtglihheagfnakaaGreatJ
import Derived.Test.YtglihheagfnakaaGreatM
import Derived.Test.YtglihheagfnakaaGreatN
import Derived.Test.YtglihheagfnakaaGreatO
set_option linter.unusedVariables false
set_option linter.unusedSimpArgs false
set_option linter.unnecessarySimpa false
set_option linter.deprecated false
set_option linter.unusedSectionVars false
set_option linter.constructorNameAsVariable false
open Go.IntKind renaming wrap->kwr,bits->kbt
open List renaming length_append->jb,getElem?_eq_getElem->jf,append_assoc->js,length_take->jt,mem_append->jy,mem_singleton->jz,getElem?_eq_some_iff->jG
open Bool renaming and_eq_true->ji,not_false->jo,not_true->jp
open Nat renaming exists_eq_succ_of_ne_zero->jj,le_refl->jw
section
open Go Ax Go.Proofs
namespace W
theorem Dp {v:Val} (a:fQ v<=1048576):Tot 34359738368 (fun n=>vM n v) (fun _=>True):=by
 have:∀(N:Nat) (v:Val),fQ v<=N->N<=1048576->Tot (34359738368 - 1048576+N) (fun n=>vM n v) (fun _=>True):=by
  intro N
  induction N with
  | zero=>intro v h; have:=Fy v; omega
  | succ N ih=>
   intro v o p;refine Tot.succ (N:=34359738368 - 1048576+N) (G:=fun n=>cx n (vM n) v) (fun n=>rfl) ?_
   obtain⟨k,b,i,s,l,ks⟩:=v;have a:fQ (.mk k b i s l ks)=1+isz i+s.length+vo l+(ks.map fun k=>1+k.length).sum:=by simp only[fQ]
   have d:=xz l;unfold cx
   dsimp only
   refine Tot.cond (fun _=>.one trivial) fun _=>?_;refine Tot.loop (fun m st=>∃ j:Nat,st=((j:Nat):Int)/\j+m=l.length) ?_ ⟨0,rfl,by omega⟩ (by omega:l.length<34359738368 - 1048576+N);rintro m _ ⟨j,rfl,hm⟩;unfold nG;rw[qn];refine qI.cond (fun e=>?_) fun _=>.one trivial;have c:j<l.length:=by have:=kod e; omega
   have f:=um (List.getElem_mem c);refine qI.bnd (Tot.idx (zE c) (P:=fun x=>x=l[j]) rfl) fun x g=>?_
   obtain⟨q,r,t,u,w,y⟩:=x
   dsimp only
   rw[g];refine qI.bnd (ih l[j] (by omega) (by omega)) fun b _=>qI.cond (fun _=>.one trivial) fun _=>?_
   rw[zM (by omega)];exact .next ⟨m - 1,by omega,j+1,rfl,by omega⟩
 exact(this 1048576 v a (by decide)).up (by decide)
theorem Fq {v:Val} (a:fQ v<=1048576):Tot 34359738368 (fun n=>fR n v) (fun b=>b=Ul v):=.of (fun n h1 h2=>ib (by omega) h2) rfl
theorem VA {l:List (List UInt8)} (e:l.length<=1048576):Tot 34359738368 (fun n=>uP n l) (fun _=>True):=by
 unfold uP;refine Tot.loop (fun m st=>∃ j:Nat,st=((j:Nat):Int)/\j+m=l.length) ?_ ⟨0,rfl,by omega⟩ (by omega:l.length<34359738368);rintro m _ ⟨j,rfl,hm⟩;unfold mv;rw[zb];refine qI.cond (fun c=>?_) fun _=>.one trivial;have a:j<l.length:=by have:=kod c; omega
 refine qI.bnd (Tot.idx (zE a) (P:=fun _=>True) trivial) fun x _=>qI.bnd (P:=fun _=>True) (.of (fun n _ _=>rfl) trivial) fun b _=>?_
 refine qI.bnd (P:=fun _=>True) ((Tot.gs (P:=fun _=>True) fun _=>Tot.idx (zE a) trivial).imp fun _ _=>trivial) fun y _=>?_
 refine qI.bnd (P:=fun _=>True) ((Tot.gs (P:=fun _=>True) fun d=>?_).imp fun _ _=>trivial) fun z _=>?_
 ·simp only[ji,kde]at d
  obtain⟨i,rfl⟩:∃ i,j=i+1:=⟨j - 1,by omega⟩;rw[VE (by omega)];exact Tot.idx (zE (show i<l.length by omega)) trivial
 refine qI.cond (fun _=>.one trivial) fun _=>?_;rw[zM (by omega)];exact .next ⟨m - 1,by omega,j+1,rfl,by omega⟩
theorem HS {v:Val} (a:fQ v<=1048576):Tot 34359738368 (fun n=>gU n v) (fun b=>b=true->VF v):=by
 have h1:=Fq a;have h2:=Dp a;have h3:=lA a;obtain⟨k,b,i,s,l,ks⟩:=v;unfold gU
 dsimp only
 refine Tot.bnd (Tot.gs fun _=>h1) fun x d=>Tot.bnd (P:=fun _=>True) ((Tot.gs fun _=>h2).imp fun _ _=>trivial) fun y _=>.one fun he=>h3 ?_
 cases c:k != 0 with
 | false=>rw[c]at he; cases he
 | true=>
  rw[c]at he;cases x with
  | false=>cases he
  | true=>exact(d c).symm
theorem Dq {ks:List (List UInt8)} {vs:List Val} (h1:ks.length<=1048576) (h2:vo vs<=1048576):Tot 34359738368 (fun n=>cE n ks vs) (fun b=>b=true->ks.length=vs.length/\∀ v∈vs,VF v):=by
 have l:=xz vs;unfold cE;refine Tot.loop (fun m st=>∃ j:Nat,st=((j:Nat):Int)/\j+m=vs.length/\∀(i:Nat) (h:i<vs.length),i<j->VF vs[i]) ?_ ⟨0,rfl,by omega,fun i h a=>by omega⟩ (by omega:vs.length<34359738368)
 rintro m _ ⟨j,rfl,hm,g⟩;unfold nJ;rw[qn,zb];refine qI.cond (fun c=>?_) fun c=>?_
 ·have d:j<vs.length:=by have:=kod c; omega
  have o:=um (List.getElem_mem d);refine qI.bnd (Tot.idx (zE d) (P:=fun x=>x=vs[j]) rfl) fun x p=>?_
  obtain⟨t,u,w,y,z,A⟩:=x
  dsimp only
  rw[p];refine qI.bnd (HS (by omega)) fun b q=>qI.cond (fun _=>.one fun h=>by cases h) fun f=>?_
  rw[zM (by omega)];refine .next ⟨m - 1,by omega,j+1,rfl,by omega,fun i a r=>?_⟩;by_cases e:i<j
  ·exact g i a e
  obtain rfl:i=j:=by omega
  exact q (by simpa using f)
 have d:j=vs.length:=by have:=of_decide_eq_false c; omega
 refine qI.bnd (P:=fun _=>True) ((Tot.gs fun _=>VA h1).imp fun _ _=>trivial) fun x _=>.one fun he=>?_
 have:=De (k:=vs.length) he;refine⟨this.1,fun v s=>?_⟩;obtain⟨i,a,rfl⟩:=List.mem_iff_getElem.1 s;exact g i a (by omega)
theorem im {d:Node} (c:pW d<=1048576):Tot 34359738368 (fun n=>fL n d) (fun b=>b=true->d.keys.length=d.vals.length/\∀ v∈d.vals,VF v):=by
 obtain⟨id,labels,keys,vals⟩:=d;have c:1+rA labels+rA keys+vo vals<=1048576:=c;have h1:=vm labels;have h2:=vm keys;unfold fL
 dsimp only
 refine Tot.bnd (P:=fun _=>True) ((Tot.gs fun _=>VA (by omega)).imp fun _ _=>trivial) fun x _=>Tot.bnd (Tot.gs fun _=>Dq (ks:=keys) (vs:=vals) (by omega) (by omega)) fun y e=>.one fun he=>?_
 cases a:(bif(decide (id≥(1:Int)))then x else false)with
 | false=>rw[a]at he; cases he
 | true=>rw[a]at he; exact e a he
theorem SK {d:Edge} (c:pg d<=1048576):Tot 34359738368 (fun n=>fK n d) (fun b=>b=true->d.keys.length=d.vals.length/\∀ v∈d.vals,VF v):=by
 obtain⟨id,f,to,ty,keys,vals⟩:=d;have c:1+ty.length+rA keys+vo vals<=1048576:=c;have h2:=vm keys;unfold fK
 dsimp only
 refine Tot.bnd (P:=fun _=>True) ((Tot.gs (P:=fun _=>True) fun _=>.of (fun n _ _=>rfl) trivial).imp fun _ _=>trivial) fun x _=>Tot.bnd (Tot.gs fun _=>Dq (ks:=keys) (vs:=vals) (by omega) (by omega)) fun y e=>.one fun he=>?_
 cases a:(bif(decide (id≥(1:Int)))then x else false)with
 | false=>rw[a]at he; cases he
 | true=>rw[a]at he; exact e a he
theorem iO {A:Type} {key:A->Int} {l:List A} {x:A} {id:Int} (h:fD key l id=none) (a:(key x==id)=false):fD key (l++[x]) id=none:=by
 unfold fD at *;rw[List.find?_append,h];simp[List.find?,a]
theorem qb0 {A:Type} {key:A->Int} {l:List A} {x:A} {id:Int} (h:x∈l) (a:(key x==id)=true):(fD key l id).isSome=true:=by
 unfold fD;rw[List.find?_isSome];exact⟨x,h,a⟩
theorem Vy {l:List Node} (e:l.length<=1048576) (es:List Edge) (id:Int):Tot 34359738368 (fun n=>cC n ⟨l,es⟩ id) (fun r=>(fD Node.id l id=none/\r = -1)\/((fD Node.id l id).isSome=true/\0<=r)):=by
 unfold cC
 dsimp only
 refine Tot.loop (fun m st=>∃ j:Nat,st=((j:Nat):Int)/\j+m=l.length/\fD Node.id (l.take j) id=none) ?_ ⟨0,rfl,by omega,rfl⟩ (by omega:l.length<34359738368);rintro m _ ⟨j,rfl,hm,a⟩;unfold sg;rw[show(Node.rows l).length=l.length by simp[Node.rows]];refine qI.cond (fun b=>?_) fun b=>.one (.inl ⟨?_,rfl⟩)
 ·have c:j<l.length:=by have:=kod b; omega
  refine qI.bnd (Tot.idx (zE c) (P:=fun x=>x=l[j]) rfl) fun x d=>?_
  obtain⟨f,g,h,i⟩:=x;refine qI.cond (fun he=>.one (.inr ⟨qb0 (List.getElem_mem c) (by rw[← d]; exact he),Int.natCast_nonneg _⟩)) fun he=>?_;rw[zM (by omega)];refine .next ⟨m - 1,by omega,j+1,rfl,by omega,?_⟩;rw[zK c];exact iO a (by rw[← d]; exact he)
 have:l.take j=l:=List.take_of_length_le (by have:=of_decide_eq_false b; omega);rw[this]at a;exact a
theorem Pj {A:Type} {key:A->Int} {l:List A} {k:Nat} (d:k<l.length) (h:UpI key (l.take k)) (h2:∀ m:0<k,key l[k - 1]<key l[k]):UpI key (l.take (k+1)):=by
 rw[zK d];refine List.pairwise_append.2 ⟨h,List.pairwise_singleton _ _,fun a f b g=>?_⟩;rw[jz.1 g];obtain⟨i,c,rfl⟩:=List.mem_iff_getElem.1 f;have j:i<k:=by have:=List.length_take_le k l; rw[jt]at c; omega
 rw[List.getElem_take];have h2:=h2 (by omega);by_cases e:i=k - 1
 ·subst e; exact h2
 have hp:=List.pairwise_iff_getElem.1 h i (k - 1) c (by rw[jt]; omega) (by omega);rw[List.getElem_take,List.getElem_take]at hp;omega
theorem qay {b:Bool} {p q:Int} {A B:Option Node} (a:(bif(bif b then true else decide (p<0))then true else decide (q<0))=false)
  (h1:(!b)=true->(A=none/\p = -1)\/(A.isSome=true/\0<=p)) (h2:(!(bif b then true else decide (p<0)))=true->(B=none/\q = -1)\/(B.isSome=true/\0<=q)):A.isSome=true/\B.isSome=true:=by
 cases b with
 | true=>cases a
 | false=>
  rw[qV]at a h2;rcases h1 rfl with ⟨_,h⟩|⟨c,hp⟩
  ·subst h; cases a
  rw[kdf (by omega:¬ p<0)]at a h2;rw[qV]at a;rcases h2 rfl with ⟨_,h⟩|⟨d,_⟩
  ·subst h; cases a
  exact⟨c,d⟩
theorem Tj {nodes:List Node} {edges:List Edge} (E:Cu ⟨nodes,edges⟩<=1048576):Tot 34359738368 (fun n=>nT n ⟨nodes,edges⟩) (fun b=>b=true->UpI Node.id nodes/\UpI Edge.id edges/\(∀ d∈nodes,d.keys.length=d.vals.length/\∀ v∈d.vals,VF v)/\∀ d∈edges,d.keys.length=d.vals.length/\(∀ v∈d.vals,VF v)/\(fD Node.id nodes d.from_).isSome=true/\(fD Node.id nodes d.to).isSome=true):=by
 obtain⟨y,z⟩:=qgc (g:=⟨nodes,edges⟩);have y:nodes.length<=Cu ⟨nodes,edges⟩:=y;have z:edges.length<=Cu ⟨nodes,edges⟩:=z;have G:∀ d∈nodes,pW d<=Cu ⟨nodes,edges⟩:=fun d k=>Ns (g:=⟨nodes,edges⟩) k
 have H:∀ d∈edges,pg d<=Cu ⟨nodes,edges⟩:=fun d k=>Hi (g:=⟨nodes,edges⟩) k
 unfold nT
 dsimp only
 refine Tot.loop (fun m st=>∃ j:Nat,st=((j:Nat):Int)/\j+m=nodes.length/\UpI Node.id (nodes.take j)/\∀(i:Nat) (h:i<nodes.length),i<j->nodes[i].keys.length=nodes[i].vals.length/\∀ v∈nodes[i].vals,VF v) ?_ ⟨0,rfl,by omega,.nil,fun i h l=>by omega⟩ (by omega:nodes.length<34359738368)
 rintro m _ ⟨j,rfl,hm,I,Q⟩;unfold tr;rw[show(Node.rows nodes).length=nodes.length by simp[Node.rows]];refine qI.cond (fun k=>?_) fun k=>.tot ?_
 ·have s:j<nodes.length:=by have:=kod k; omega
  have p:=List.getElem_mem s;refine qI.bnd (Tot.idx (zE s) (P:=fun x=>x=nodes[j]) rfl) fun x A=>?_
  obtain⟨a,c,f,o⟩:=x
  dsimp only
  rw[A];refine qI.bnd (im (by have:=G _ p; omega)) fun b E=>?_;refine qI.bnd (Tot.gs (P:=fun x=>x=nodes[j]) fun _=>Tot.idx (zE s) rfl) fun x B=>?_
  obtain⟨S,w2,w3,w4⟩:=x
  dsimp only
  refine qI.bnd (Tot.gs (P:=fun x=>∀ C:0<j,x=nodes[j - 1]) fun J=>?_) fun x q=>?_
  ·simp only[ji,kde]at J
   obtain⟨i,rfl⟩:∃ i,j=i+1:=⟨j - 1,by omega⟩;rw[VE (by omega)];exact Tot.idx (zE (show i<nodes.length by omega)) fun _=>rfl
  obtain⟨F,T,U,V⟩:=x
  dsimp only
  refine qI.cond (fun _=>.one fun h=>by cases h) fun r=>?_
  rw[zM (by omega)];have t:b=true:=by cases b with
   | true=>rfl
   | false=>cases r
  subst t;refine .next ⟨m - 1,by omega,j+1,rfl,by omega,Pj s I fun C=>?_,fun i l K=>?_⟩
  ·have u:decide (((j:Nat):Int)>0)=true:=kdt (by omega)
   rw[u]at r B q;have e1:=B rfl;have e2:=q rfl C;rw[← e1,← e2];have:=of_decide_eq_false r;show F<S;omega
  by_cases e:i<j
  ·exact Q i l e
  obtain rfl:i=j:=by omega
  exact E rfl
 have L:j=nodes.length:=by have:=of_decide_eq_false k; omega
 subst L;rw[List.take_length]at I;have X:∀ d∈nodes,d.keys.length=d.vals.length/\∀ v∈d.vals,VF v:=fun d k=>by
  obtain⟨i,l,rfl⟩:=List.mem_iff_getElem.1 k;exact Q i l l
 refine Tot.loop (fun m st=>∃ j:Nat,st=((j:Nat):Int)/\j+m=edges.length/\UpI Edge.id (edges.take j)/\∀(i:Nat) (h:i<edges.length),i<j->edges[i].keys.length=edges[i].vals.length/\(∀ v∈edges[i].vals,VF v)/\(fD Node.id nodes edges[i].from_).isSome=true/\(fD Node.id nodes edges[i].to).isSome=true) ?_ ⟨0,rfl,by omega,.nil,fun i h l=>by omega⟩ (by omega:edges.length<34359738368)
 rintro m _ ⟨j,rfl,hm,w,D⟩;unfold tt;rw[show(Edge.rows edges).length=edges.length by simp[Edge.rows]];refine qI.cond (fun k=>?_) fun k=>.one fun _=>?_
 ·have s:j<edges.length:=by have:=kod k; omega
  have p:=List.getElem_mem s;refine qI.bnd (Tot.idx (zE s) (P:=fun x=>x=edges[j]) rfl) fun x A=>?_
  obtain⟨a,c,f,o,y5,y6⟩:=x
  dsimp only
  rw[A];refine qI.bnd (SK (by have:=H _ p; omega)) fun b E=>?_;refine qI.bnd (Tot.gs (P:=fun x=>∀ C:0<j,x=edges[j - 1]) fun J=>?_) fun x q=>?_
  ·simp only[ji,kde]at J
   obtain⟨i,rfl⟩:∃ i,j=i+1:=⟨j - 1,by omega⟩;rw[VE (by omega)];exact Tot.idx (zE (show i<edges.length by omega)) fun _=>rfl
  obtain⟨F,T,U,V,u5,u6⟩:=x
  dsimp only
  refine qI.bnd (Tot.gs fun _=>Vy (by omega) _ _) fun Y M=>qI.bnd (Tot.gs fun _=>Vy (by omega) _ _) fun Z N=>?_
  refine qI.cond (fun _=>.one fun h=>by cases h) fun r=>?_
  rw[zM (by omega)];have t:b=true:=by cases b with
   | true=>rfl
   | false=>cases r
  subst t;refine .next ⟨m - 1,by omega,j+1,rfl,by omega,Pj s w fun C=>?_,fun i l K=>?_⟩
  ·have u:decide (((j:Nat):Int)>0)=true:=kdt (by omega)
   rw[u]at r q;have e2:=q rfl C;rw[← A,← e2];show F<a;cases R:decide (a<=F)with
   | true=>rw[R]at r; cases r
   | false=>have:=of_decide_eq_false R; omega
  ·by_cases e:i<j
   ·exact D i l e
   obtain rfl:i=j:=by omega
   obtain⟨q1,q2⟩:=E rfl;refine⟨q1,q2,?_⟩;rw[← A];exact qay r M N
 have O:j=edges.length:=by have:=of_decide_eq_false k; omega
 subst O;rw[List.take_length]at w;exact⟨I,w,X,fun d k=>by
  obtain⟨i,l,rfl⟩:=List.mem_iff_getElem.1 k;exact D i l l⟩
theorem aY {nodes:List Node} {edges:List Edge} (C:nodes.length<=1048576) (D:edges.length<=1048576):Tot 34359738368 (fun n=>Qa n ⟨nodes,edges⟩) (fun b=>b=true->(∀ d∈nodes,d.labels.length<=1000/\d.keys.length<=1000)/\∀ d∈edges,d.keys.length<=1000):=by
 unfold Qa
 dsimp only
 refine Tot.loop (fun m st=>∃ j:Nat,st=((j:Nat):Int)/\j+m=nodes.length/\∀(i:Nat) (h:i<nodes.length),i<j->nodes[i].labels.length<=1000/\nodes[i].keys.length<=1000) ?_ ⟨0,rfl,by omega,fun i h k=>by omega⟩ (by omega:nodes.length<34359738368)
 rintro m _ ⟨j,rfl,hm,z⟩;unfold QE;rw[show(Node.rows nodes).length=nodes.length by simp[Node.rows]];refine qI.cond (fun l=>?_) fun l=>.tot ?_
 ·have s:j<nodes.length:=by have:=kod l; omega
  refine qI.bnd (Tot.idx (zE s) (P:=fun x=>x=nodes[j]) rfl) fun x t=>?_
  obtain⟨c,a,f,g⟩:=x
  dsimp only
  rw[zb];refine qI.bnd (Tot.gs (P:=fun x=>x=nodes[j]) fun _=>Tot.idx (zE s) rfl) fun x q=>?_
  obtain⟨E,w2,A,F⟩:=x
  dsimp only
  rw[zb];refine qI.cond (fun _=>.one fun h=>by cases h) fun p=>?_
  rw[zM (by omega)];cases h1:decide (((a.length:Nat):Int)>1000)with
  | true=>rw[h1]at p; cases p
  | false=>
   rw[h1,qV]at p;rw[h1]at q;have e1:=q rfl;have a1:=of_decide_eq_false h1;have a2:=of_decide_eq_false p;refine .next ⟨m - 1,by omega,j+1,rfl,by omega,fun i k u=>?_⟩;by_cases e:i<j
   ·exact z i k e
   obtain rfl:i=j:=by omega
   refine⟨?_,?_⟩
   ·rw[← t]; show a.length<=1000; omega
   rw[← e1]; show A.length<=1000; omega
 have v:j=nodes.length:=by have:=of_decide_eq_false l; omega
 subst v;have w:∀ d∈nodes,d.labels.length<=1000/\d.keys.length<=1000:=fun d l=>by
  obtain⟨i,k,rfl⟩:=List.mem_iff_getElem.1 l;exact z i k k
 refine Tot.loop (fun m st=>∃ j:Nat,st=((j:Nat):Int)/\j+m=edges.length/\∀(i:Nat) (h:i<edges.length),i<j->edges[i].keys.length<=1000) ?_ ⟨0,rfl,by omega,fun i h k=>by omega⟩ (by omega:edges.length<34359738368)
 rintro m _ ⟨j,rfl,hm,r⟩;unfold QF;rw[show(Edge.rows edges).length=edges.length by simp[Edge.rows]];refine qI.cond (fun l=>?_) fun l=>.one fun _=>⟨w,fun d y=>?_⟩
 ·have s:j<edges.length:=by have:=kod l; omega
  refine qI.bnd (Tot.idx (zE s) (P:=fun x=>x=edges[j]) rfl) fun x t=>?_
  obtain⟨c,a,f,g,o,G⟩:=x
  dsimp only
  rw[zb];refine qI.cond (fun _=>.one fun h=>by cases h) fun p=>?_
  rw[zM (by omega)];have a1:=of_decide_eq_false p;refine .next ⟨m - 1,by omega,j+1,rfl,by omega,fun i k u=>?_⟩;by_cases e:i<j
  ·exact r i k e
  obtain rfl:i=j:=by omega
  rw[← t]; show o.length<=1000; omega
 have B:j=edges.length:=by have:=of_decide_eq_false l; omega
 obtain⟨i,k,rfl⟩:=List.mem_iff_getElem.1 y;exact r i k (by omega)
theorem Rf {names:List (List UInt8)} {vals:List Val} (g:vo vals<=1048576):Tot 34359738368 (fun n=>nU n ⟨names,vals⟩) (fun b=>b=true->names.length=vals.length/\∀ v∈vals,VF v):=by
 have l:=xz vals;unfold nU
 dsimp only
 refine Tot.loop (fun m st=>∃ j:Nat,st=((j:Nat):Int)/\j+m=vals.length/\∀(i:Nat) (h:i<vals.length),i<j->VF vals[i]) ?_ ⟨0,rfl,by omega,fun i h a=>by omega⟩ (by omega:vals.length<34359738368)
 rintro m _ ⟨j,rfl,hm,k⟩;unfold sh;rw[qn,zb];refine qI.cond (fun c=>?_) fun c=>.one fun he=>?_
 ·have d:j<vals.length:=by have:=kod c; omega
  have o:=um (List.getElem_mem d);refine qI.bnd (Tot.idx (zE d) (P:=fun x=>x=vals[j]) rfl) fun x p=>?_
  obtain⟨s,t,u,w,y,z⟩:=x
  dsimp only
  rw[p];refine qI.bnd (Fq (by omega)) fun b q=>qI.cond (fun _=>.one fun h=>by cases h) fun f=>?_
  rw[zM (by omega)];refine .next ⟨m - 1,by omega,j+1,rfl,by omega,fun i a r=>?_⟩;by_cases e:i<j
  ·exact k i a e
  obtain rfl:i=j:=by omega
  refine lA (by omega) ?_;rw[← q]; simpa using f
 have d:j=vals.length:=by have:=of_decide_eq_false c; omega
 have:=eq_of_beq he;refine⟨by omega,fun v g=>?_⟩;obtain⟨i,a,rfl⟩:=List.mem_iff_getElem.1 g;exact k i a (by omega)
theorem Ep {v:Val} (c:fQ v<=1048576):Tot 34359738368 (fun n=>cF n v) (fun b=>b=true->VF v/\kd v=5):=by
 have h1:=Fq c;have h2:=Dp c;have h3:=lA c;obtain⟨k,b,i,s,l,ks⟩:=v;unfold cF
 dsimp only
 refine Tot.bnd (Tot.gs fun _=>h1) fun x d=>Tot.bnd (P:=fun _=>True) ((Tot.gs fun _=>h2).imp fun _ _=>trivial) fun y _=>.one fun he=>?_
 cases a:k==5 with
 | false=>rw[a]at he; cases he
 | true=>
  rw[a]at he;cases x with
  | false=>cases he
  | true=>exact⟨h3 (d a).symm,eq_of_beq a⟩
end W
end
section
open Go Ax Go.Proofs
namespace W
theorem NF (n:Nat) (s:List UInt8):cL n s=vZ n s:=by
 unfold cL vZ;cases s with
 | nil=>rfl
 | cons a l=>
  have h:decide ((((a::l).length:Nat):Int)≥1)=true:=kdt (by simp only[List.length_cons]; omega);rw[h];rfl
theorem qbf (a b:List UInt8):(Op.bytesLess a b||a==b)=!(Op.bytesLess b a):=by
 rw[Sw,Sw];by_cases h:a=b
 ·subst h
  have:¬ a<a:=List.lt_irrefl a;simp[this]
 have c:(a==b)=false:=by simpa using h
 rw[c,Bool.or_false];by_cases h1:a<b
 ·have h2:¬ b<a:=fun h2=>List.lt_irrefl a (List.lt_trans h1 h2)
  simp[h1,h2]
 have h2:b<a:=by
  by_cases h2:b<a
  ·exact h2
  exact absurd (Std.le_antisymm (List.not_lt.1 h2) (List.not_lt.1 h1)) h
 simp[h1,h2]
theorem Mw (n:Nat) (l:List (List UInt8)):uR n l=uP n l:=by
 unfold uR uP;congr 1;funext nx i;unfold ny mv;cases h:idx l i with
 | none=>rfl
 | some x=>
  simp only[vn,NF];cases a:vZ n x with
  | none=>rfl
  | some k=>
   simp only[vn];cases k with
   | false=>rfl
   | true=>
    cases b:decide (i>0)with
    | false=>rfl
    | true=>
     simp only[jp,jo,Bool.true_and,fP,vn];cases idx l (kwr .i64 (i - 1))with
     | none=>rfl
     | some y=>simp only[vn,qbf]
mutual
def plT:Val->Bool
 | .mk k _ _ _ l _=>decide (k<6)&&eJ l
def eJ:List Val->Bool
 | []=>true
 | v::l=>plT v&&eJ l
end
theorem Fu:∀ l:List Val,eJ l=true↔∀ v∈l,plT v=true
 | []=>by simp[eJ]
 | v::l=>by simp[eJ,Fu l]
theorem DC:∀(N:Nat),N<=4295475200->∀ v:Val,fQ v<=N->Tot (34359738368+4 * N) (fun n=>zB n v) (fun b=>b=plT v):=by
 intro N
 induction N with
 | zero=>
  intro _ v h;obtain⟨k,b,i,s,l,q⟩:=v;simp only[fQ]at h;omega
 | succ N ih=>
  intro A v h;obtain⟨k,b,i,s,l,q⟩:=v;have B:vo l<=N:=by simp only[fQ]at h; omega
  have p:=xz l;rw[show 34359738368+4 * (N+1)=(34359738368+4 * N+3)+1 by omega];refine Tot.succ (F:=fun n=>zB n (.mk k b i s l q)) (G:=fun n=>dz n (zB n) (qa n) (qb n) (zj n) (.mk k b i s l q)) (fun n=>rfl) ?_
  unfold dz
  dsimp only
  have t:Tot (34359738368+4 * N+3) (fun n=>qa n l) (fun b=>b=!eJ l):=by
   rw[show 34359738368+4 * N+3=(34359738368+4 * N+2)+1 by omega];refine Tot.succ (G:=fun n=>qG n (zB n) (qa n) (qb n) (zj n) l) (fun n=>rfl) ?_
   unfold qG;have u:Tot (34359738368+4 * N+2) (fun n=>qb n l) (fun r=>decide (r≥0)=!eJ l):=by
    rw[show 34359738368+4 * N+2=(34359738368+4 * N+1)+1 by omega];refine Tot.succ (G:=fun n=>qL n (zB n) (qa n) (qb n) (zj n) l) (fun n=>rfl) ?_
    unfold qL;refine Tot.loop (fun m st=>∃ j:Nat,st=((j:Nat):Int)/\j+m=l.length/\∀ x∈l.take j,plT x=true) ?_ ⟨0,rfl,by omega,fun x h=>by simp at h⟩ (by omega:l.length<34359738368+4 * N+1)
    rintro m _ ⟨j,rfl,hm,g⟩;unfold zA;rw[qn];refine qI.cond (fun o=>?_) fun o=>.one ?_
    ·have d:j<l.length:=by have:=kod o; omega
     refine qI.bnd (Tot.idx (zE d) (P:=fun x=>x=l[j]) rfl) fun x a=>?_
     obtain⟨C,D,E,H,I,J⟩:=x
     dsimp only
     rw[a];have K:=um (List.getElem_mem d);have hp:Tot (34359738368+4 * N+1) (fun n=>zj n l[j]) (fun b=>b=!plT l[j]):=by
      have:=ih (by omega) l[j] (by omega);refine Tot.succ (F:=fun n=>zj n l[j]) (G:=fun n=>fj n (zB n) (qa n) (qb n) (zj n) l[j]) (fun n=>rfl) ?_
      generalize l[j]=z at this;obtain⟨L,z2,z3,z4,z5,M⟩:=z;unfold fj
      dsimp only
      exact Tot.bnd this fun b f=>.one (by rw[f])
     refine qI.bnd hp fun b f=>qI.cond (fun c=>.one ?_) fun c=>?_
     ·have h1:plT l[j]=false:=by rw[c]at f; simpa using f.symm
      have h2:eJ l=false:=by
       cases e:eJ l with
       | false=>rfl
       | true=>rw[(Fu l).1 e _ (List.getElem_mem d)]at h1; cases h1
      rw[h2];exact kdt (by omega)
     have h1:plT l[j]=true:=by rw[c]at f; simpa using f.symm
     rw[zM (by omega)];refine .next ⟨m - 1,by omega,j+1,rfl,by omega,fun x a=>?_⟩;rw[List.take_add_one,jf d]at a;rcases jy.1 a with a|a
     ·exact g x a
     simp at a; rw[a]; exact h1
    have d:j=l.length:=by have:=of_decide_eq_false o; omega
    subst d;rw[List.take_of_length_le (jw _)]at g;rw[(Fu l).2 g];rfl
   refine Tot.bnd u fun r w=>.one w
  refine Tot.bnd (Tot.gs fun _=>t) fun x a=>.one ?_
  simp only[plT];cases y:decide (k<6)with
  | false=>rfl
  | true=>rw[a y,Bool.not_not]; rfl
theorem Rp:∀(N:Nat),N<=4295475200->∀ v:Val,fQ v<=N->Tot (34359738368+N) (fun n=>vM n v) (fun b=>b=true->VF v->plT v=true):=by
 intro N
 induction N with
 | zero=>
  intro _ v h;obtain⟨k,b,i,s,l,q⟩:=v;simp only[fQ]at h;omega
 | succ N ih=>
  intro t v h;obtain⟨k,b,i,s,l,q⟩:=v;have u:vo l<=N:=by simp only[fQ]at h; omega
  have p:=xz l;rw[show 34359738368+(N+1)=(34359738368+N)+1 by omega];refine Tot.succ (F:=fun n=>vM n (.mk k b i s l q)) (G:=fun n=>cx n (vM n) (.mk k b i s l q)) (fun n=>rfl) ?_
  unfold cx
  dsimp only
  refine Tot.cond (fun _=>.one fun h=>by cases h) fun e=>?_
  refine Tot.loop (fun m st=>∃ j:Nat,st=((j:Nat):Int)/\j+m=l.length/\∀ x∈l.take j,VF x->plT x=true) ?_ ⟨0,rfl,by omega,fun x h=>by simp at h⟩ (by omega:l.length<34359738368+N)
  rintro m _ ⟨j,rfl,hm,f⟩;unfold nG;rw[qn];refine qI.cond (fun g=>?_) fun g=>.one fun _ c=>?_
  ·have d:j<l.length:=by have:=kod g; omega
   refine qI.bnd (Tot.idx (zE d) (P:=fun x=>x=l[j]) rfl) fun x a=>?_
   obtain⟨w,y,z,A,B,C⟩:=x
   dsimp only
   rw[a];have D:=um (List.getElem_mem d);refine qI.bnd (ih (by omega) l[j] (by omega)) fun b r=>qI.cond (fun _=>.one fun h=>by cases h) fun o=>?_
   rw[zM (by omega)];refine .next ⟨m - 1,by omega,j+1,rfl,by omega,fun x a=>?_⟩;rw[List.take_add_one,jf d]at a;rcases jy.1 a with a|a
   ·exact f x a
   simp at a; rw[a]; exact r (by simpa using o)
  have d:j=l.length:=by have:=of_decide_eq_false g; omega
  subst d;rw[List.take_of_length_le (jw _)]at f;obtain⟨h1,_,_⟩:=c.one;simp only[HL,ji,Bool.not_eq_true',decide_eq_false_iff_not]at h1;obtain⟨⟨⟨⟨h2,h3⟩,_⟩,_⟩,_⟩:=h1;have E:k≠6/\k≠7:=by
   cases e6:k==6 with
   | true=>rw[e6]at e; cases e
   | false=>
    rw[e6,qV]at e;exact⟨by simpa using e6,by simpa using e⟩
  simp only[plT,(Fu l).2 fun x a=>f x a (c.child a),Bool.and_true]
  exact kdt (by omega)
end W
end
section
open Go Ax Go.Proofs
namespace W
abbrev M1:Nat:=68719476736
def prB (v:Val):Bool:=(kd v != 0)&&Ul v&&plT v
theorem Ti {v:Val} (h:fQ v<=4295475200):Tot M1 (fun n=>fX n v) (fun b=>b=prB v):=by
 have h1:Tot M1 (fun n=>xW n v) (fun r=>r=bif Ul v then 0 else 20):=.of (fun n a b=>Uc (by have:=Eb v; unfold M1 at a; omega) b) rfl
 have h2:=(DC 4295475200 (jw _) v h).up (show _<=M1 by decide);obtain⟨k,b,i,s,l,q⟩:=v;unfold fX
 dsimp only
 refine Tot.bnd (Tot.gs fun _=>h1) fun x f=>Tot.bnd (Tot.gs fun _=>h2) fun y c=>.one ?_
 have e:(kd (Val.mk k b i s l q) != 0)=(k != 0):=rfl;unfold prB;rw[e];cases d:k != 0 with
 | false=>rfl
 | true=>
  rw[f d,d]at c;rw[f d];cases hm:Ul (Val.mk k b i s l q)with
  | false=>rw[hm]at c; rfl
  | true=>rw[hm]at c; rw[c rfl]; rfl
theorem iK {v:Val} (h:fQ v<=1048576):Tot M1 (fun n=>gU n v) (fun b=>b=true->prB v=true):=by
 have h1:Tot M1 (fun n=>fR n v) (fun b=>b=Ul v):=(Fq h).up (by decide)
 have h2:=(Rp 1048576 (by decide) v h).up (show _<=M1 by decide);have h3:=fun hm=>lA h hm
 obtain⟨k,b,i,s,l,q⟩:=v;unfold gU
 dsimp only
 refine Tot.bnd (Tot.gs fun _=>h1) fun x c=>Tot.bnd (Tot.gs fun _=>h2) fun y f=>.one fun a=>?_
 have e:(kd (Val.mk k b i s l q) != 0)=(k != 0):=rfl;unfold prB;rw[e];cases d:k != 0 with
 | false=>rw[d]at a; cases a
 | true=>
  have c:=c d;rw[d]at a f;cases x with
  | false=>cases a
  | true=>
   have a:y=true:=a;rw[← c,f rfl a (h3 c.symm)];rfl
def qd2 (l:List (List UInt8)):Bool:=(uP M1 l).getD false
theorem Ey {l:List (List UInt8)} (h:l.length<=1048576):Tot M1 (fun n=>uP n l) (fun b=>b=qd2 l):=
 .of (fun n a b=>((VA h).up (show _<=M1 by decide)).val (by decide) false |>.2 n a b) rfl
theorem Nq {l:List (List UInt8)} (h:l.length<=1048576):Tot M1 (fun n=>uR n l) (fun b=>b=qd2 l):=by
 obtain⟨r,h1,h2⟩:=Ey h;exact⟨r,h1,fun n a b=>by show uR n l=some r; rw[Mw]; exact h2 n a b⟩
def Rk (ks:List (List UInt8)) (vs:List Val):Bool:=decide (ks.length=vs.length)&&qd2 ks&&vs.all prB
theorem BY {ks:List (List UInt8)} {vs:List Val} (h1:ks.length<=1048576) (h2:∀ v∈vs,fQ v<=4295475200) (h3:vs.length<=1048576):Tot M1 (fun n=>dh n ks vs) (fun b=>b=Rk ks vs):=by
 have o:Tot M1 (fun n=>qN n vs) (fun r=>decide (r≥0)=!vs.all prB):=by
  unfold qN;refine Tot.loop (fun m st=>∃ j:Nat,st=((j:Nat):Int)/\j+m=vs.length/\(vs.take j).all prB=true) ?_ ⟨0,rfl,by omega,rfl⟩ (by unfold M1; omega:vs.length<M1);rintro m _ ⟨j,rfl,hm,i⟩;unfold zz;rw[qn];refine qI.cond (fun k=>?_) fun k=>.one ?_
  ·have d:j<vs.length:=by have:=kod k; omega
   refine qI.bnd (Tot.idx (zE d) (P:=fun x=>x=vs[j]) rfl) fun x a=>?_
   obtain⟨q,s,t,u,w,A⟩:=x
   dsimp only
   rw[a];have hp:Tot M1 (fun n=>fY n vs[j]) (fun b=>b=!prB vs[j]):=by
    have:=Ti (h2 _ (List.getElem_mem d));generalize vs[j]=z at this;obtain⟨B,z2,z3,z4,z5,C⟩:=z;unfold fY
    dsimp only
    exact Tot.bnd this fun b f=>.one (by rw[f])
   refine qI.bnd hp fun b f=>qI.cond (fun c=>.one ?_) fun c=>?_
   ·have e1:prB vs[j]=false:=by rw[c]at f; simpa using f.symm
    have e2:vs.all prB=false:=by
     cases e:vs.all prB with
     | false=>rfl
     | true=>rw[List.all_eq_true.1 e _ (List.getElem_mem d)]at e1; cases e1
    rw[e2];exact kdt (by omega)
   have e1:prB vs[j]=true:=by rw[c]at f; simpa using f.symm
   rw[zM (by omega)];refine .next ⟨m - 1,by omega,j+1,rfl,by omega,?_⟩;rw[List.take_add_one,jf d,List.all_append,i];simp[e1]
  have d:j=vs.length:=by have:=of_decide_eq_false k; omega
  subst d;rw[List.take_of_length_le (jw _)]at i;rw[i];rfl
 have p:Tot M1 (fun n=>qJ n vs) (fun b=>b=!vs.all prB):=by
  unfold qJ;exact Tot.bnd o fun r l=>.one l
 unfold dh;rw[qn,zb];refine Tot.bnd (Tot.gs fun _=>Nq h1) fun x a=>Tot.bnd (Tot.gs fun _=>p) fun y g=>.one ?_
 unfold Rk;have e:(((ks.length:Nat):Int)==((vs.length:Nat):Int))=decide (ks.length=vs.length):=by
  by_cases h:ks.length=vs.length
  ·simp[h]
  have:¬ ((ks.length:Int)=(vs.length:Int)):=by omega
  simp[h,this]
 rw[e]at a g ⊢;cases he:decide (ks.length=vs.length)with
 | false=>rfl
 | true=>
  rw[he]at a g;have a:=a rfl;subst a;cases l:qd2 ks with
  | false=>rfl
  | true=>
   rw[l]at g;rw[g rfl,Bool.not_not];rfl
theorem Dw {ks:List (List UInt8)} {vs:List Val} (h1:ks.length<=1048576) (h2:∀ v∈vs,fQ v<=1048576) (h3:vs.length<=1048576):Tot M1 (fun n=>cE n ks vs) (fun b=>b=true->Rk ks vs=true):=by
 unfold cE;refine Tot.loop (fun m st=>∃ j:Nat,st=((j:Nat):Int)/\j+m=vs.length/\(vs.take j).all prB=true) ?_ ⟨0,rfl,by omega,rfl⟩ (by unfold M1; omega:vs.length<M1);rintro m _ ⟨j,rfl,hm,e⟩;unfold nJ;rw[qn,zb];refine qI.cond (fun f=>?_) fun f=>.tot ?_
 ·have c:j<vs.length:=by have:=kod f; omega
  refine qI.bnd (Tot.idx (zE c) (P:=fun x=>x=vs[j]) rfl) fun x d=>?_
  obtain⟨i,k,l,o,p,q⟩:=x
  dsimp only
  rw[d];refine qI.bnd (iK (h2 _ (List.getElem_mem c))) fun b a=>qI.cond (fun _=>.one fun h=>by cases h) fun g=>?_
  rw[zM (by omega)];refine .next ⟨m - 1,by omega,j+1,rfl,by omega,?_⟩;rw[List.take_add_one,jf c,List.all_append,e];simp[a (by simpa using g)]
 have c:j=vs.length:=by have:=of_decide_eq_false f; omega
 subst c;rw[List.take_of_length_le (jw _)]at e;refine Tot.bnd (Tot.gs fun _=>Ey h1) fun x d=>.one fun a=>?_
 unfold Rk;cases he:(((ks.length:Nat):Int)==((vs.length:Nat):Int))with
 | false=>rw[he]at a; cases a
 | true=>
  rw[he]at a d;have a:x=true:=a;rw[← d rfl,a,e,kdt (by have:=eq_of_beq he; omega)];rfl
def PK (d:Node):Bool:=decide (1<=d.id)&&qd2 d.labels&&Rk d.keys d.vals
def PJ (d:Edge):Bool:=decide (1<=d.id)&&(decide (1<=d.type_.length)&&decide (d.type_.length<=64))&&Rk d.keys d.vals
structure SzN (d:Node):Prop where
 l:d.labels.length<=1048576
 k:d.keys.length<=1048576
 v:d.vals.length<=1048576
 b:∀ v∈d.vals,fQ v<=4295475200
structure SzE (d:Edge):Prop where
 k:d.keys.length<=1048576
 v:d.vals.length<=1048576
 b:∀ v∈d.vals,fQ v<=4295475200
theorem an3 {a b c x y:Bool} (d:a=true->x=b) (e:(bif a then x else false)=true->y=c):(bif(bif a then x else false)then y else false)=(a&&b&&c):=by
 cases a with
 | false=>rfl
 | true=>
  have d:=d rfl;subst d;cases x with
  | false=>rfl
  | true=>rw[e rfl]; rfl
theorem qf4 {a b c x y:Bool} (d:a=true->x=true->b=true) (e:(bif a then x else false)=true->y=true->c=true) (h:(bif(bif a then x else false)then y else false)=true):(a&&b&&c)=true:=by
 cases a with
 | false=>cases h
 | true=>
  cases x with
  | false=>cases h
  | true=>rw[d rfl rfl,e rfl h]; rfl
theorem ND {d:Node} (h:SzN d):Tot M1 (fun n=>fr n d) (fun b=>b=PK d):=by
 obtain⟨i,ls,ks,vs⟩:=d;obtain⟨h1,h2,h3,h4⟩:=h;unfold fr
 dsimp only
 exact Tot.bnd (Tot.gs fun _=>Nq h1) fun x a=>Tot.bnd (Tot.gs fun _=>BY h2 h4 h3) fun y c=>.one (an3 a c)
theorem NC {d:Edge} (h:SzE d):Tot M1 (fun n=>fq n d) (fun b=>b=PJ d):=by
 obtain⟨i,p,q,t,ks,vs⟩:=d;obtain⟨h2,h3,h4⟩:=h;have c:Tot M1 (fun n=>cL n t) (fun b=>b=(decide (1<=t.length)&&decide (t.length<=64))):=by
  refine .of (fun n _ _=>NF n t) ?_
  by_cases a:1<=t.length<;>by_cases b:t.length<=64
  ·rw[kdt (show((t.length:Nat):Int)≥1 by omega),kdt (show((t.length:Nat):Int)<=64 by omega),kdt a,kdt b]; rfl
  ·rw[kdt (show((t.length:Nat):Int)≥1 by omega),kdf (show ¬ ((t.length:Nat):Int)<=64 by omega),kdt a,kdf b]; rfl
  ·rw[kdf (show ¬ ((t.length:Nat):Int)≥1 by omega),kdf a]; rfl
  rw[kdf (show ¬ ((t.length:Nat):Int)≥1 by omega),kdf a]; rfl
 unfold fq
 dsimp only
 exact Tot.bnd (Tot.gs fun _=>c) fun x e=>Tot.bnd (Tot.gs fun _=>BY h2 h4 h3) fun y f=>.one (an3 e f)
theorem iH {d:Node} (h:SzN d) (c:∀ v∈d.vals,fQ v<=1048576):Tot M1 (fun n=>fL n d) (fun b=>b=true->PK d=true):=by
 obtain⟨i,ls,ks,vs⟩:=d;obtain⟨h1,h2,h3,h4⟩:=h;unfold fL
 dsimp only
 exact Tot.bnd (Tot.gs fun _=>Ey h1) fun x f=>Tot.bnd (Tot.gs fun _=>Dw h2 c h3) fun y g=>.one (qf4 (fun a e=>(f a).symm.trans e) g)
theorem iG {d:Edge} (h:SzE d) (c:∀ v∈d.vals,fQ v<=1048576):Tot M1 (fun n=>fK n d) (fun b=>b=true->PJ d=true):=by
 obtain⟨i,p,q,t,ks,vs⟩:=d;obtain⟨h2,h3,h4⟩:=h;unfold fK
 dsimp only
 refine Tot.bnd (Tot.gs (P:=fun x=>x=true->(decide (1<=t.length)&&decide (t.length<=64))=true) fun _=>.of (fun n _ _=>rfl) fun e=>?_) fun x f=>Tot.bnd (Tot.gs fun _=>Dw h2 c h3) fun y g=>.one (qf4 f g)
 cases a:decide (((t.length:Nat):Int)≥1)with
 | false=>rw[a]at e; cases e
 | true=>
  rw[a]at e;have a:=kod a;have e:=kod (show decide (((t.length:Nat):Int)<=64)=true from e);rw[kdt (show 1<=t.length by omega),kdt (show t.length<=64 by omega)];rfl
end W
end
section
open Go Ax Go.Proofs
namespace W
theorem Xe (l:List Node):(Node.rows l).length=l.length:=by simp[Node.rows]
theorem XQ (l:List Edge):(Edge.rows l).length=l.length:=by simp[Edge.rows]
theorem cw {p:Prop} [Decidable p] (h:p):decide p=true:=kdt h
theorem mX {A:Type} {l:List A} {j:Nat} (h:¬ j<l.length):l.take j=l:=List.take_of_length_le (by omega)
theorem oB {A:Type} {key:A->Int} {l:List A} {id:Int} (p:UpI key l) {B:(Int×Int->Option (Int×Bool))->Int×Int->Option (Int×Bool)}
  (g:∀(i j:Nat) (x:A) b,i<j->j<=l.length->l[(i+j) / 2]? =some x->B b ((i:Int),(j:Int))=bif decide (key x<id)then b ((((i+j) / 2+1:Nat):Int),(j:Int))else b ((i:Int),(((i+j) / 2:Nat):Int)))
  (he:∀(i:Nat) b,i<=l.length->B b ((i:Int),(i:Int))=some ((i:Int),match l[i]? with|some x=>decide (key x=id)|none=>false)) {n:Nat} (k:l.length<n) :
  ∃ i:Nat,qy B n ((0:Int),((l.length:Nat):Int))=some ((i:Int),(fD key l id).isSome)/\(∀ d,fD key l id=some d->l[i]? =some d)/\((∀ x∈l,key x<id)->i=l.length):=by
 obtain⟨i,h1,h2⟩:=qat p g he k;refine⟨i,h1,h2,fun e=>?_⟩;obtain⟨q,r,z,s,t⟩:=LD (B:=B) (fun a=>match l[a]? with|some x=>decide (key x<id)|none=>false) l.length
  (fun a c u C hp=>by
   obtain⟨y,m⟩:∃ y,l[a]? =some y:=⟨_,jf (by omega)⟩;simp only[m,kde];exact e y (List.mem_of_getElem? m))
  (fun i j f v b=>by
   obtain⟨x,o⟩:∃ x,l[(i+j) / 2]? =some x:=⟨_,jf (by omega)⟩;rw[g i j x b f v o,o])
  (rest:=fun i=>some ((i:Int),match l[i]? with|some x=>decide (key x=id)|none=>false)) (fun i w b=>he i b w) k
 rw[t]at h1;have h1:=(Prod.mk.inj (Option.some.inj h1)).1;have D:q=l.length:=by
  rcases Nat.lt_or_eq_of_le r with h|h
  ·have:=s q (jw _) h
   rw[jf h]at this;have:=of_decide_eq_false this;exact absurd (e _ (List.getElem_mem h)) this
  exact h
 omega
structure GG (g:Graph):Prop where
 upN:UpI Node.id g.nodes
 upE:UpI Edge.id g.edges
 lenN:g.nodes.length<=4096
 lenE:g.edges.length<=4096
 gN:∀ d∈g.nodes,PK d=true
 gE:∀ d∈g.edges,PJ d=true
 sN:∀ d∈g.nodes,SzN d
 sE:∀ d∈g.edges,SzE d
 ends:∀ e∈g.edges,(fD Node.id g.nodes e.from_).isSome=true/\(fD Node.id g.nodes e.to).isSome=true
theorem Cv {ks:List (List UInt8)} {vs:List Val} (h1:ks.length<=1048576) (h2:∀ v∈vs,fQ v<=4295475200) (h3:vs.length<=1048576):Tot M1 (fun n=>uQ n ks vs) (fun r=>r=(ks,vs)):=by
 unfold uQ;rw[qn];refine Tot.bnd (P:=fun x=>x=vs.length) (.of (fun n _ _=>natI_nat _) rfl) fun x c=>?_
 subst c;refine Tot.chk (cw (by omega)) ?_;refine Tot.loop (fun m st=>∃ j:Nat,st=(vs.take j,((j:Nat):Int))/\j+m=vs.length) ?_ ⟨0,rfl,by omega⟩ (by unfold M1; omega:vs.length<M1);rintro m _ ⟨j,rfl,hm⟩;unfold vR
 dsimp only
 rw[qn];refine qI.cond (fun d=>?_) fun d=>?_
 ·have e:j<vs.length:=by have:=kod d; omega
  refine qI.bnd (Tot.idx (zE e) (P:=fun x=>x=vs[j]) rfl) fun x c=>?_
  obtain⟨f,g,h,i,k,l⟩:=x
  dsimp only
  rw[c];have o:=h2 _ (List.getElem_mem e);refine qI.bnd (P:=fun z=>z=vs[j]) (.of (fun n a b=>Cm n b _ (by unfold M1 at a; omega)) rfl) fun z hz=>?_
  obtain⟨p,z2,z3,z4,z5,q⟩:=z
  dsimp only
  rw[hz,← zK e];refine qI.chk (cw (by rw[qn,jt]; omega)) ?_;rw[zM (by omega)];exact .next ⟨m - 1,by omega,j+1,rfl,by omega⟩
 rw[mX (by have:=of_decide_eq_false d; omega)];exact qI.chk (cw (by rw[zb]; omega)) (.one rfl)
theorem BS {d:Node} (h:SzN d):Tot M1 (fun n=>vG n d) (fun r=>r=d):=by
 obtain⟨i,ls,ks,vs⟩:=d;obtain⟨h1,h2,h3,h4⟩:=h;unfold vG
 dsimp only at h1 ⊢
 refine Tot.chk (cw (by rw[zb]; omega)) (Tot.bnd (Cv h2 h4 h3) fun r a=>?_);subst a;exact .one rfl
theorem PB {d:Edge} (h:SzE d):Tot M1 (fun n=>xV n d) (fun r=>r=d):=by
 obtain⟨i,p,q,t,ks,vs⟩:=d;obtain⟨h2,h3,h4⟩:=h;unfold xV
 dsimp only
 refine Tot.bnd (Cv h2 h4 h3) fun r a=>?_;subst a;exact .one rfl
theorem Ct {g:Graph} (d:GG g):Tot M1 (fun n=>uc n g) (fun r=>r=g):=by
 obtain⟨nodes,edges⟩:=g;have a1:=d.lenN;have a2:=d.lenE;simp only at a1 a2;unfold uc
 dsimp only
 refine Tot.loop (fun m st=>∃ j:Nat,st=(((j:Nat):Int),nodes.take j)/\j+m=nodes.length) ?_ ⟨0,rfl,by omega⟩ (by unfold M1; omega:nodes.length<M1);rintro m _ ⟨j,rfl,hm⟩;unfold sw
 dsimp only
 rw[Xe];refine qI.cond (fun a=>?_) fun a=>.tot ?_
 ·have b:j<nodes.length:=by have:=kod a; omega
  refine qI.bnd (Tot.idx (zE b) (P:=fun x=>x=nodes[j]) rfl) fun x h=>?_
  obtain⟨c,e,f,i⟩:=x
  dsimp only
  rw[h];refine qI.bnd (BS (d.sN _ (List.getElem_mem b))) fun z hz=>?_;obtain⟨k,z2,z3,z4⟩:=z
  dsimp only
  rw[hz,← zK b];refine qI.chk (cw (by rw[Xe,jt]; omega)) ?_;rw[zM (by omega)];exact .next ⟨m - 1,by omega,j+1,rfl,by omega⟩
 rw[mX (by have:=of_decide_eq_false a; omega)];refine Tot.loop (fun m st=>∃ j:Nat,st=(((j:Nat):Int),edges.take j)/\j+m=edges.length) ?_ ⟨0,rfl,by omega⟩ (by unfold M1; omega:edges.length<M1);rintro m _ ⟨j,rfl,hm⟩;unfold sy
 dsimp only
 rw[XQ];refine qI.cond (fun a=>?_) fun a=>.one ?_
 ·have b:j<edges.length:=by have:=kod a; omega
  refine qI.bnd (Tot.idx (zE b) (P:=fun x=>x=edges[j]) rfl) fun x h=>?_
  obtain⟨c,e,f,i,l,o⟩:=x
  dsimp only
  rw[h];refine qI.bnd (PB (d.sE _ (List.getElem_mem b))) fun z hz=>?_;obtain⟨k,z2,z3,z4,z5,p⟩:=z
  dsimp only
  rw[hz,← zK b];refine qI.chk (cw (by rw[XQ,jt]; omega)) ?_;rw[zM (by omega)];exact .next ⟨m - 1,by omega,j+1,rfl,by omega⟩
 rw[mX (by have:=of_decide_eq_false a; omega)]
theorem qft {n:Nat} (w:n<=1099511627776) {l:List Edge} (hu:UpI Edge.id l) (p:l.length<n) (id:Int) :
  ∃ i:Nat,qA n l id=some ((i:Int),(fD Edge.id l id).isSome)/\(∀ d,fD Edge.id l id=some d->l[i]? =some d)/\((∀ x∈l,x.id<id)->i=l.length):=by
 have c1:∀ d:Edge,zr n d id ()=some (if d.id<id then -1 else if id<d.id then 1 else 0):=fun d=>by
  obtain⟨i,a,b,c,e,f⟩:=d;simp only[zr,dQ,vn,Xq]
 obtain⟨q,r,s,t⟩:=oB hu (id:=id) (B:=qc n l id)
  (fun i j x u m y k=>by
   have o:=c1 x;obtain⟨v,a,b,c,e,f⟩:=x;simp only[qc,ui m,xM,qbj (show i+j<=1152921504606846976 by omega),zu k,vn,o,MU];rw[zM (by omega)])
  (fun i u z=>by
   simp only[qc,xq,qV,XQ];by_cases h:i=l.length
   ·subst h
    rw[xq,List.getElem?_eq_none (jw _)];rfl
   have g:i<l.length:=by omega
   obtain⟨x,k⟩:∃ x,l[i]? =some x:=⟨_,jf g⟩;have o:=c1 x;rw[k];obtain⟨v,a,b,c,e,f⟩:=x;simp only[ui g,fP,zu k,vn,o,MT,xM])
  p
 refine⟨q,?_,s,t⟩;unfold qA qi;simp only[XQ];rw[r,qZ]
theorem eS {n:Nat} (u:n<=1099511627776) {l:List Node} (hu:UpI Node.id l) (m:l.length<n) (id:Int) :
  ∃ i:Nat,qx n l id=some ((i:Int),(fD Node.id l id).isSome)/\(∀ d,fD Node.id l id=some d->l[i]? =some d)/\((∀ x∈l,x.id<id)->i=l.length):=by
 have c1:∀ d:Node,zt n d id ()=some (if d.id<id then -1 else if id<d.id then 1 else 0):=fun d=>by
  obtain⟨i,a,b,c⟩:=d;simp only[zt,dR,vn,Xq]
 obtain⟨q,o,p,r⟩:=oB hu (id:=id) (B:=qd n l id)
  (fun i j x s g v f=>by
   have k:=c1 x;obtain⟨t,a,b,c⟩:=x;simp only[qd,ui g,xM,qbj (show i+j<=1152921504606846976 by omega),zu f,vn,k,MU];rw[zM (by omega)])
  (fun i s w=>by
   simp only[qd,xq,qV,Xe];by_cases h:i=l.length
   ·subst h
    rw[xq,List.getElem?_eq_none (jw _)];rfl
   have e:i<l.length:=by omega
   obtain⟨x,f⟩:∃ x,l[i]? =some x:=⟨_,jf e⟩;have k:=c1 x;rw[f];obtain⟨t,a,b,c⟩:=x;simp only[ui e,fP,zu f,vn,k,MT,xM])
  m
 refine⟨q,?_,p,r⟩;unfold qx qj;simp only[Xe];rw[o,qZ]
theorem Tot.at {R:Type} {N n:Nat} {F:Nat->Option R} {r:R} (h:Tot N F (fun x=>x=r)) (h1:N<=n) (h2:n<=1099511627776):F n=some r:=by
 obtain⟨x,rfl,a⟩:=h;exact a n h1 h2
theorem ll {A:Type} {key:A->Int} {l:List A} {x:A} (h:UpI key l) (c:∀ y∈l,key y<key x):UpI key (l++[x]):=
 List.pairwise_append.2 ⟨h,List.pairwise_singleton _ _,fun a d b e=>by rw[jz.1 e]; exact c a d⟩
theorem NU {A:Type} {key:A->Int} {l:List A} {x:A} {id:Int} (h:(fD key l id).isSome=true):(fD key (l++[x]) id).isSome=true:=by
 unfold fD at *;rw[List.find?_append];cases e:List.find? (fun d=>key d==id) l with
 | none=>rw[e]at h; cases h
 | some y=>rfl
theorem GG.addN {g:Graph} (b:GG g) {d:Node} (h1:∀ y∈g.nodes,y.id<d.id) (h2:g.nodes.length<4096) (h3:PK d=true) (h4:SzN d):GG ⟨g.nodes++[d],g.edges⟩ where
 upN:=ll b.upN h1
 upE:=b.upE
 lenN:=by simp only[jb,List.length_singleton]; omega
 lenE:=b.lenE
 gN:=fun x a=>by
  rcases jy.1 a with a|a
  ·exact b.gN x a
  rw[jz.1 a]; exact h3
 gE:=b.gE
 sN:=fun x a=>by
  rcases jy.1 a with a|a
  ·exact b.sN x a
  rw[jz.1 a]; exact h4
 sE:=b.sE
 ends:=fun e he=>⟨NU (b.ends e he).1,NU (b.ends e he).2⟩
theorem GG.addE {g:Graph} (b:GG g) {d:Edge} (h1:∀ y∈g.edges,y.id<d.id) (h2:g.edges.length<4096) (h3:PJ d=true) (h4:SzE d) (h5:(fD Node.id g.nodes d.from_).isSome=true) (c:(fD Node.id g.nodes d.to).isSome=true):GG ⟨g.nodes,g.edges++[d]⟩ where
 upN:=b.upN
 upE:=ll b.upE h1
 lenN:=b.lenN
 lenE:=by simp only[jb,List.length_singleton]; omega
 gN:=b.gN
 gE:=fun x a=>by
  rcases jy.1 a with a|a
  ·exact b.gE x a
  rw[jz.1 a]; exact h3
 sN:=b.sN
 sE:=fun x a=>by
  rcases jy.1 a with a|a
  ·exact b.sE x a
  rw[jz.1 a]; exact h4
 ends:=fun x a=>by
  rcases jy.1 a with a|a
  ·exact b.ends x a
  rw[jz.1 a]; exact⟨h5,c⟩
theorem NV {A:Type} {key:A->Int} {l:List A} {id:Int} (h:∀ x∈l,key x<id):fD key l id=none:=
 List.find?_eq_none.2 fun d a=>by have:=h d a; simp; omega
theorem SV {g:Graph} (c:GG g) {id:Int} (h:∀ x∈g.nodes,x.id<id):Tot M1 (fun n=>qx n g.nodes id) (fun r=>r=((g.nodes.length:Int),false)):=.of (fun n a b=>by
 have d:=c.lenN;obtain⟨i,h1,h2,h3⟩:=eS (n:=n) b c.upN (by unfold M1 at a; omega) id;show qx n g.nodes id=_;rw[h1,h3 h,NV h]; rfl) rfl
theorem SU {g:Graph} (c:GG g) {id:Int} (h:∀ x∈g.edges,x.id<id):Tot M1 (fun n=>qA n g.edges id) (fun r=>r=((g.edges.length:Int),false)):=.of (fun n a b=>by
 have d:=c.lenE;obtain⟨i,h1,h2,h3⟩:=qft (n:=n) b c.upE (by unfold M1 at a; omega) id;show qA n g.edges id=_;rw[h1,h3 h,NV h]; rfl) rfl
theorem DZ {g:Graph} (c:GG g) (id:Int):Tot M1 (fun n=>fM n g id) (fun b=>b=(fD Node.id g.nodes id).isSome):=.of (fun n a b=>by
 have d:=c.lenN;obtain⟨i,h1,_⟩:=eS (n:=n) b c.upN (by unfold M1 at a; omega) id;obtain⟨nodes,edges⟩:=g;show fM n ⟨nodes,edges⟩ id=_;unfold fM
 dsimp only
 rw[h1];rfl) rfl
theorem Th {g:Graph} (c:GG g) (id:Int):Tot M1 (fun n=>vg n g id) (fun r=>r.2=(fD Node.id g.nodes id).isSome):=by
 have h:=c.lenN;obtain⟨nodes,edges⟩:=g;cases e:fD Node.id nodes id with
 | none=>
  refine .of (r:=(⟨0,[],[],[]⟩,false)) (fun n a b=>?_) rfl;obtain⟨i,h1,_⟩:=eS (n:=n) b c.upN (by unfold M1 at a; omega) id;unfold vg
  dsimp only at h1 ⊢
  rw[h1,e];rfl
 | some d=>
  refine .of (r:=(d,true)) (fun n a b=>?_) rfl;obtain⟨i,h1,h2,_⟩:=eS (n:=n) b c.upN (by unfold M1 at a; omega) id;have h2:=h2 d e;have f:=(BS (c.sN d (Ut e).1)).at a b;unfold vg
  dsimp only at h1 h2 ⊢
  rw[h1,e];obtain⟨d1,d2,d3,d4⟩:=d;simp only[Option.isSome_some,vn,jp,qV,zu h2,f]
theorem qbv {g:Graph} (f:GG g) {d:Node} (l:SzN d) (h:∀ x∈g.nodes,x.id<d.id):Tot M1 (fun n=>nw n g d) (fun r=>r.2≠0\/(r=(⟨g.nodes++[d],g.edges⟩,0)/\GG ⟨g.nodes++[d],g.edges⟩)):=by
 obtain⟨nodes,edges⟩:=g;have m:=f.lenN;have hf:=SV f h;have hm:=ND l;obtain⟨i,ls,ks,vs⟩:=d
 dsimp only at m hf
 unfold nw
 dsimp only
 refine Tot.bnd hm fun b o=>Tot.cond (fun _=>.one (.inl (by decide))) fun j=>Tot.bnd hf fun r p=>?_
 subst p
 dsimp only
 rw[Xe];refine Tot.cond (fun _=>.one (.inl (by decide))) fun q=>?_;have h4:nodes.length<4096:=by
  have:=of_decide_eq_false (show decide (((nodes.length:Nat):Int)≥4096)=false from q);omega
 have a:=f.addN (d:=⟨i,ls,ks,vs⟩) h h4 (by rw[← o]; simpa using j) l;have c:Tot M1 (fun n=>uH n nodes (nodes.length:Int) false ⟨i,ls,ks,vs⟩) (fun r=>r=nodes++[⟨i,ls,ks,vs⟩]):=by
  unfold uH
  dsimp only
  refine Tot.bnd (P:=fun x=>x=nodes.length) (.of (fun n _ _=>natI_nat _) rfl) fun x e=>Tot.bnd (P:=fun x=>x=nodes.length) (.of (fun n _ _=>natI_nat _) rfl) fun y k=>?_
  subst e k;refine Tot.chk (cw ⟨rfl,by rw[Xe]; exact jw _⟩) (Tot.chk (cw (by rw[Xe]; simp; omega)) ?_);refine Tot.cond (fun h=>by cases h) fun _=>?_
  unfold uM;refine Tot.bnd (P:=fun x=>x=nodes.length) (.of (fun n _ _=>natI_nat _) rfl) fun x e=>?_
  subst e;refine Tot.chk (cw (by rw[Xe]; exact jw _)) (Tot.chk (cw (by rw[Xe]; simp; omega)) (.one ?_));rw[List.take_of_length_le (jw _),List.drop_of_length_le (jw _),List.append_nil]
 refine Tot.bnd c fun x e=>?_;subst e;refine Tot.bnd (Ct a) fun y k=>?_;subst k;exact .one (.inr ⟨rfl,a⟩)
theorem aS {g:Graph} (l:GG g) {d:Edge} (u:SzE d) (h:∀ x∈g.edges,x.id<d.id):Tot M1 (fun n=>nZ n g d) (fun r=>r.2≠0\/(r=(⟨g.nodes,g.edges++[d]⟩,0)/\GG ⟨g.nodes,g.edges++[d]⟩)):=by
 obtain⟨nodes,edges⟩:=g;have v:=l.lenE;have hf:=SU l h;have hm:=NC u;have m:=DZ l;obtain⟨i,p,q,t,ks,vs⟩:=d
 dsimp only at v hf m
 unfold nZ
 dsimp only
 refine Tot.bnd hm fun b w=>Tot.cond (fun _=>.one (.inl (by decide))) fun o=>Tot.bnd (m p) fun x a=>Tot.bnd (Tot.gs fun _=>m q) fun y e=>Tot.cond (fun _=>.one (.inl (by decide))) fun c=>Tot.bnd hf fun r z=>?_
 subst z
 dsimp only
 refine Tot.cond (fun h=>by cases h) fun _=>?_
 unfold mD;rw[XQ];refine Tot.cond (fun _=>.one (.inl (by decide))) fun A=>?_;have h4:edges.length<4096:=by
  have:=of_decide_eq_false (show decide (((edges.length:Nat):Int)≥4096)=false from A);omega
 have f:x=true:=by
  cases x with
  | true=>rfl
  | false=>cases c
 rw[f]at e c;have s:y=true:=by
  cases y with
  | true=>rfl
  | false=>cases c
 have j:=l.addE (d:=⟨i,p,q,t,ks,vs⟩) h h4 (by rw[← w]; simpa using o) u (by rw[← a,f]) (by rw[← e rfl,s]);have k:Tot M1 (fun n=>uG n edges (edges.length:Int) false ⟨i,p,q,t,ks,vs⟩) (fun r=>r=edges++[⟨i,p,q,t,ks,vs⟩]):=by
  unfold uG
  dsimp only
  refine Tot.bnd (P:=fun x=>x=edges.length) (.of (fun n _ _=>natI_nat _) rfl) fun x a=>Tot.bnd (P:=fun x=>x=edges.length) (.of (fun n _ _=>natI_nat _) rfl) fun y e=>?_
  subst a e;refine Tot.chk (cw ⟨rfl,by rw[XQ]; exact jw _⟩) (Tot.chk (cw (by rw[XQ]; simp; omega)) ?_);refine Tot.cond (fun h=>by cases h) fun _=>?_
  unfold uL;refine Tot.bnd (P:=fun x=>x=edges.length) (.of (fun n _ _=>natI_nat _) rfl) fun x a=>?_
  subst a;refine Tot.chk (cw (by rw[XQ]; exact jw _)) (Tot.chk (cw (by rw[XQ]; simp; omega)) (.one ?_));rw[List.take_of_length_le (jw _),List.drop_of_length_le (jw _),List.append_nil]
 refine Tot.bnd k fun x a=>?_;subst a;refine Tot.bnd (Ct j) fun y e=>?_;subst e;exact .one (.inr ⟨rfl,j⟩)
end W
end
section
open Go Ax Go.Proofs
namespace W
theorem eD (d:Node):d.labels.length<=pW d/\d.keys.length<=pW d/\vo d.vals<pW d:=Tg (n:=0) (by omega) d
theorem aC (d:Edge):d.type_.length<=pg d/\d.keys.length<=pg d/\vo d.vals<pg d:=Tb (n:=0) (by omega) d
theorem oZ {d:Node} (h:pW d<=1048576):SzN d/\∀ v∈d.vals,fQ v<=1048576:=by
 obtain⟨h1,h2,h3⟩:=eD d;have h4:=xz d.vals;have h5:∀ v∈d.vals,fQ v<=1048576:=fun v a=>by have:=um a; omega
 exact⟨⟨by omega,by omega,by omega,fun v a=>by have:=h5 v a; omega⟩,h5⟩
theorem oY {d:Edge} (h:pg d<=1048576):SzE d/\∀ v∈d.vals,fQ v<=1048576:=by
 obtain⟨h1,h2,h3⟩:=aC d;have h4:=xz d.vals;have h5:∀ v∈d.vals,fQ v<=1048576:=fun v a=>by have:=um a; omega
 exact⟨⟨by omega,by omega,fun v a=>by have:=h5 v a; omega⟩,h5⟩
theorem qdh {nodes:List Node} {edges:List Edge} (b:Cu ⟨nodes,edges⟩<=1048576):nodes.length<=1048576/\edges.length<=1048576/\(∀ d∈nodes,pW d<=1048576)/\∀ d∈edges,pg d<=1048576:=by
 obtain⟨h1,h2⟩:=qgc (g:=⟨nodes,edges⟩);simp only at h1 h2;exact⟨by omega,by omega,fun d a=>by have:=Ns (g:=⟨nodes,edges⟩) a; omega,fun d a=>by have:=Hi (g:=⟨nodes,edges⟩) a; omega⟩
theorem aM {nodes:List Node} {edges:List Edge} (p:Cu ⟨nodes,edges⟩<=1048576):Tot M1 (fun n=>nT n ⟨nodes,edges⟩) (fun b=>b=true->nodes.length<=4096/\edges.length<=4096/\(∀ d∈nodes,PK d=true)/\∀ d∈edges,PJ d=true):=by
 obtain⟨D,a2,a3,a4⟩:=qdh p;unfold nT
 dsimp only
 refine Tot.loop (fun m st=>∃ j:Nat,st=((j:Nat):Int)/\j+m=nodes.length/\∀ d∈nodes.take j,PK d=true) ?_ ⟨0,rfl,by omega,fun d h=>by simp at h⟩ (by unfold M1; omega:nodes.length<M1)
 rintro m _ ⟨j,rfl,hm,s⟩;unfold tr;rw[Xe];refine qI.cond (fun g=>?_) fun g=>.tot ?_
 ·have k:j<nodes.length:=by have:=kod g; omega
  refine qI.bnd (Tot.idx (zE k) (P:=fun x=>x=nodes[j]) rfl) fun x t=>?_
  obtain⟨a,c,e,f⟩:=x
  dsimp only
  rw[t];have q:=oZ (a3 _ (List.getElem_mem k));refine qI.bnd (iH q.1 q.2) fun b p=>?_;refine qI.bnd (Tot.gs (P:=fun _=>True) fun _=>Tot.idx (zE k) trivial) fun x _=>?_
  obtain⟨E,w2,F,G⟩:=x
  dsimp only
  refine qI.bnd (Tot.gs (P:=fun _=>True) fun u=>?_) fun x _=>?_
  ·simp only[ji,kde]at u
   obtain⟨i,rfl⟩:∃ i,j=i+1:=⟨j - 1,by omega⟩;rw[VE (by omega)];exact Tot.idx (zE (show i<nodes.length by omega)) trivial
  obtain⟨w,y,z,A⟩:=x
  dsimp only
  refine qI.cond (fun _=>.one fun h=>by cases h) fun v=>?_
  rw[zM (by omega)];have l:b=true:=by cases b with
   | true=>rfl
   | false=>cases v
  refine .next ⟨m - 1,by omega,j+1,rfl,by omega,fun d g=>?_⟩;rw[zK k]at g;rcases jy.1 g with g|g
  ·exact s d g
  rw[jz.1 g]; exact p l
 rw[mX (by have:=of_decide_eq_false g; omega)]at s;refine Tot.loop (fun m st=>∃ j:Nat,st=((j:Nat):Int)/\j+m=edges.length/\∀ d∈edges.take j,PJ d=true) ?_ ⟨0,rfl,by omega,fun d h=>by simp at h⟩ (by unfold M1; omega:edges.length<M1)
 rintro m _ ⟨j,rfl,hm,o⟩;unfold tt;rw[XQ,Xe];refine qI.cond (fun g=>?_) fun g=>.one fun he=>?_
 ·have k:j<edges.length:=by have:=kod g; omega
  refine qI.bnd (Tot.idx (zE k) (P:=fun x=>x=edges[j]) rfl) fun x t=>?_
  obtain⟨a,c,e,f,H,I⟩:=x
  dsimp only
  rw[t];have q:=oY (a4 _ (List.getElem_mem k));refine qI.bnd (iG q.1 q.2) fun b p=>?_;refine qI.bnd (Tot.gs (P:=fun _=>True) fun u=>?_) fun x _=>?_
  ·simp only[ji,kde]at u
   obtain⟨i,rfl⟩:∃ i,j=i+1:=⟨j - 1,by omega⟩;rw[VE (by omega)];exact Tot.idx (zE (show i<edges.length by omega)) trivial
  obtain⟨w,y,z,A,J,K⟩:=x
  dsimp only
  have r:∀ id,Tot M1 (fun n=>cC n ⟨nodes,edges⟩ id) (fun _=>True):=fun id=>((Vy (by omega) _ _).up (by decide)).imp fun _ _=>trivial
  refine qI.bnd (P:=fun _=>True) ((Tot.gs fun _=>r _).imp fun _ _=>trivial) fun B _=>qI.bnd (P:=fun _=>True) ((Tot.gs fun _=>r _).imp fun _ _=>trivial) fun C _=>?_
  refine qI.cond (fun _=>.one fun h=>by cases h) fun v=>?_
  rw[zM (by omega)];have l:b=true:=by cases b with
   | true=>rfl
   | false=>cases v
  refine .next ⟨m - 1,by omega,j+1,rfl,by omega,fun d g=>?_⟩;rw[zK k]at g;rcases jy.1 g with g|g
  ·exact o d g
  rw[jz.1 g]; exact p l
 rw[mX (by have:=of_decide_eq_false g; omega)]at o;cases h1:decide (((nodes.length:Nat):Int)<=4096)with
 | false=>rw[h1]at he; cases he
 | true=>
  rw[h1]at he;have h1:=kod h1;have h2:=kod (show decide (((edges.length:Nat):Int)<=4096)=true from he);exact⟨by omega,by omega,s,o⟩
theorem aL {g:Graph} (c:Cu g<=1048576):Tot M1 (fun n=>nT n g) (fun b=>b=true->GG g/\(∀ d∈g.nodes,d.keys.length=d.vals.length/\∀ v∈d.vals,VF v)/\∀ d∈g.edges,d.keys.length=d.vals.length/\∀ v∈d.vals,VF v):=by
 obtain⟨nodes,edges⟩:=g;obtain⟨l,a2,a3,a4⟩:=qdh c;refine(((Tj c).up (show _<=M1 by decide)).both (aM c) (by decide)).imp fun b ⟨h1,h2⟩ a=>?_;obtain⟨i,j,k,f⟩:=h1 a;obtain⟨d1,d2,d3,d4⟩:=h2 a;exact⟨⟨i,j,d1,d2,d3,d4,fun d h=>(oZ (a3 d h)).1,fun d h=>(oY (a4 d h)).1,fun e he=>(f e he).2.2⟩,k,fun e he=>⟨(f e he).1,(f e he).2.1⟩⟩
structure qcm (g:Graph) (nn ne:Int):Prop where
 gg:GG g
 n1:1<=nn
 n2:nn<=4611686018427387904
 e1:1<=ne
 e2:ne<=4611686018427387904
 bn:∀ d∈g.nodes,d.id<nn
 be:∀ d∈g.edges,d.id<ne
theorem eR {g:Graph} (z:Cu g<=1048576) (u:fZ):Tot M1 (fun n=>ZN n ⟨g,u⟩) (fun b=>b=true->qcm g u.node u.edge/\(∀ d∈g.nodes,d.keys.length=d.vals.length/\∀ v∈d.vals,VF v)/\∀ d∈g.edges,d.keys.length=d.vals.length/\∀ v∈d.vals,VF v):=by
 obtain⟨nodes,edges⟩:=g;obtain⟨a,c⟩:=u;obtain⟨C,a2,a3,a4⟩:=qdh z;unfold ZN
 dsimp only
 refine Tot.bnd (Tot.gs fun _=>aL z) fun b q=>?_
 refine Tot.cond (fun _=>.one fun h=>by cases h) fun o=>?_
 have r:(1<=a/\a<=4611686018427387904/\1<=c/\c<=4611686018427387904)/\b=true/\(GG ⟨nodes,edges⟩/\(∀ d∈nodes,d.keys.length=d.vals.length/\∀ v∈d.vals,VF v)/\∀ d∈edges,d.keys.length=d.vals.length/\∀ v∈d.vals,VF v):=by
  cases c1:decide (a<(1:Int))with
  | true=>rw[c1]at o; cases o
  | false=>
   cases c2:decide (a>(4611686018427387904:Int))with
   | true=>rw[c1,c2]at o; cases o
   | false=>
    cases c3:decide (c<(1:Int))with
    | true=>rw[c1,c2,c3]at o; cases o
    | false=>
     cases c4:decide (c>(4611686018427387904:Int))with
     | true=>rw[c1,c2,c3,c4]at o; cases o
     | false=>
      rw[c1,c2,c3,c4]at q o;have c1:=of_decide_eq_false c1;have c2:=of_decide_eq_false c2;have c3:=of_decide_eq_false c3;have c4:=of_decide_eq_false c4;have s:b=true:=by
       cases b with
       | true=>rfl
       | false=>cases o
      exact⟨⟨by omega,by omega,by omega,by omega⟩,s,q rfl s⟩
 obtain⟨⟨n1,n2,e1,e2⟩,_,gg,A,B⟩:=r;refine Tot.loop (fun m st=>∃ j:Nat,st=((j:Nat):Int)/\j+m=nodes.length/\∀ d∈nodes.take j,d.id<a) ?_ ⟨0,rfl,by omega,fun d h=>by simp at h⟩ (by unfold M1; omega:nodes.length<M1)
 rintro m _ ⟨j,rfl,hm,w⟩;unfold ZO;rw[Xe];refine qI.cond (fun l=>?_) fun l=>.tot ?_
 ·have t:j<nodes.length:=by have:=kod l; omega
  refine qI.bnd (Tot.idx (zE t) (P:=fun x=>x=nodes[j]) rfl) fun x y=>?_
  obtain⟨e,f,i,k⟩:=x;refine qI.cond (fun _=>.one fun h=>by cases h) fun o=>?_
  rw[zM (by omega)];refine .next ⟨m - 1,by omega,j+1,rfl,by omega,fun d l=>?_⟩;rw[zK t]at l;rcases jy.1 l with l|l
  ·exact w d l
  rw[jz.1 l,← y];have:=of_decide_eq_false o;show e<a;omega
 rw[mX (by have:=of_decide_eq_false l; omega)]at w;refine Tot.loop (fun m st=>∃ j:Nat,st=((j:Nat):Int)/\j+m=edges.length/\∀ d∈edges.take j,d.id<c) ?_ ⟨0,rfl,by omega,fun d h=>by simp at h⟩ (by unfold M1; omega:edges.length<M1)
 rintro m _ ⟨j,rfl,hm,p⟩;unfold ZP;rw[XQ];refine qI.cond (fun l=>?_) fun l=>.one fun _=>?_
 ·have t:j<edges.length:=by have:=kod l; omega
  refine qI.bnd (Tot.idx (zE t) (P:=fun x=>x=edges[j]) rfl) fun x y=>?_
  obtain⟨e,f,i,k,D,E⟩:=x;refine qI.cond (fun _=>.one fun h=>by cases h) fun o=>?_
  rw[zM (by omega)];refine .next ⟨m - 1,by omega,j+1,rfl,by omega,fun d l=>?_⟩;rw[zK t]at l;rcases jy.1 l with l|l
  ·exact p d l
  rw[jz.1 l,← y];have:=of_decide_eq_false o;show e<c;omega
 rw[mX (by have:=of_decide_eq_false l; omega)]at p;exact⟨⟨gg,n1,n2,e1,e2,w,p⟩,A,B⟩
theorem PI {g:Graph} (k:GG g):Tot M1 (fun n=>mC n g) (fun r=>r=0):=by
 obtain⟨nodes,edges⟩:=g;have l1:=k.lenN;have l2:=k.lenE
 dsimp only at l1 l2
 unfold mC
 dsimp only
 rw[Xe,XQ];refine Tot.cond (fun h=>?_) fun _=>?_
 ·rw[kdf (show ¬ ((nodes.length:Nat):Int)>4096 by omega),kdf (show ¬ ((edges.length:Nat):Int)>4096 by omega)]at h
  cases h
 refine Tot.loop (fun m st=>∃ j:Nat,st=((j:Nat):Int)/\j+m=nodes.length) ?_ ⟨0,rfl,by omega⟩ (by unfold M1; omega:nodes.length<M1);rintro m _ ⟨j,rfl,hm⟩;unfold pH;rw[Xe];refine qI.cond (fun u=>?_) fun u=>.tot ?_
 ·have q:j<nodes.length:=by have:=kod u; omega
  have d:nodes[j]∈(Graph.mk nodes edges).nodes:=List.getElem_mem q;refine qI.bnd (Tot.idx (zE q) (P:=fun x=>x=nodes[j]) rfl) fun x t=>?_
  obtain⟨a,c,e,f⟩:=x
  dsimp only
  rw[t];refine qI.bnd (ND (k.sN _ d)) fun b v=>?_;rw[k.gN _ d]at v;subst v;refine qI.bnd (Tot.gs (P:=fun x=>x.id<a) fun s=>?_) fun x l=>?_
  ·simp only[ji,kde]at s
   obtain⟨i,rfl⟩:∃ i,j=i+1:=⟨j - 1,by omega⟩;rw[VE (by omega)];refine Tot.idx (zE (show i<nodes.length by omega)) ?_;have:=k.upN.lt (i:=i) (j:=i+1) (by omega) (zE (show i<nodes.length by omega)) (zE q);rw[← t]at this;exact this
  obtain⟨w,B,C,D⟩:=x
  dsimp only
  refine qI.cond (fun y=>?_) fun y=>?_
  ·cases z:decide (((j:Nat):Int)>0)with
   | false=>rw[z]at y; cases y
   | true=>
    rw[z]at y l;have h1:=l rfl;have h2:=kod (show decide (w≥a)=true from y);have h1:w<a:=h1;omega
  rw[zM (by omega)];exact .next ⟨m - 1,by omega,j+1,rfl,by omega⟩
 refine Tot.loop (fun m st=>∃ j:Nat,st=((j:Nat):Int)/\j+m=edges.length) ?_ ⟨0,rfl,by omega⟩ (by unfold M1; omega:edges.length<M1);rintro m _ ⟨j,rfl,hm⟩;unfold pJ;rw[XQ];refine qI.cond (fun u=>?_) fun u=>.one rfl;have q:j<edges.length:=by have:=kod u; omega
 have d:edges[j]∈(Graph.mk nodes edges).edges:=List.getElem_mem q;have he:=k.ends _ d;refine qI.bnd (Tot.idx (zE q) (P:=fun x=>x=edges[j]) rfl) fun x t=>?_
 obtain⟨a,c,e,f,E,F⟩:=x
 dsimp only
 rw[t];refine qI.bnd (NC (k.sE _ d)) fun b v=>?_;rw[k.gE _ d]at v;subst v;rw[← t]at he;refine qI.bnd (Tot.gs (P:=fun x=>x.id<a) fun s=>?_) fun x l=>?_
 ·simp only[ji,kde]at s
  obtain⟨i,rfl⟩:∃ i,j=i+1:=⟨j - 1,by omega⟩;rw[VE (by omega)];refine Tot.idx (zE (show i<edges.length by omega)) ?_;have:=k.upE.lt (i:=i) (j:=i+1) (by omega) (zE (show i<edges.length by omega)) (zE q);rw[← t]at this;exact this
 obtain⟨w,B,C,D,G,H⟩:=x
 dsimp only
 have A:(bif(!true)then true else(bif(decide (((j:Nat):Int)>0))then(decide (w≥a))else false))=false:=by
  cases z:decide (((j:Nat):Int)>0)with
  | false=>rfl
  | true=>
   rw[z]at l;have h1:w<a:=l rfl;exact kdf (by omega)
 rw[A];refine qI.bnd (Tot.gs fun _=>DZ k c) fun I o=>?_
 rw[he.1]at o;have o:=o rfl;subst o;refine qI.bnd (Tot.gs fun _=>DZ k e) fun z2 p=>?_
 rw[he.2]at p;have p:=p rfl;subst p;refine qI.cond (fun h=>by cases h) fun _=>?_
 rw[zM (by omega)];exact .next ⟨m - 1,by omega,j+1,rfl,by omega⟩
theorem Ps {g:Graph} {nn ne:Int} (h:qcm g nn ne):Tot M1 (fun n=>dd n ⟨g,⟨nn,ne⟩⟩) (fun r=>r=0):=by
 obtain⟨nodes,edges⟩:=g;obtain⟨gg,n1,n2,e1,e2,bn,be⟩:=h;have l1:=gg.lenN;have l2:=gg.lenE
 dsimp only at l1 l2 bn be
 unfold dd
 dsimp only
 rw[kdt (show nn≥1 by omega),kdt n2,kdt (show ne≥1 by omega),kdt e2,Xe,XQ];refine Tot.bnd (Tot.gs fun _=>PI gg) fun x a=>?_
 have a:=a rfl;subst a;refine Tot.cond (fun h=>by cases h) fun _=>?_
 refine Tot.bnd (Tot.gs (P:=fun x=>x.id<nn) fun b=>?_) fun x a=>?_
 ·have b:=kod b
  obtain⟨i,c⟩:∃ i,nodes.length=i+1:=⟨nodes.length - 1,by omega⟩;rw[c,VE (by omega)];exact Tot.idx (zE (show i<nodes.length by omega)) (bn _ (List.getElem_mem _))
 obtain⟨j,k,l,m⟩:=x
 dsimp only at a ⊢
 have d:(bif(decide (((nodes.length:Nat):Int)>0))then(decide (j≥nn))else false)=false:=by
  cases e:decide (((nodes.length:Nat):Int)>0)with
  | false=>rfl
  | true=>
   have:=a e;exact kdf (by omega)
 rw[d];refine Tot.bnd (Tot.gs (P:=fun x=>x.id<ne) fun b=>?_) fun x a=>?_
 ·have b:=kod (show decide (((edges.length:Nat):Int)>0)=true from b)
  obtain⟨i,c⟩:∃ i,edges.length=i+1:=⟨edges.length - 1,by omega⟩;rw[c,VE (by omega)];exact Tot.idx (zE (show i<edges.length by omega)) (be _ (List.getElem_mem _))
 obtain⟨v1,v2,v3,v4,v5,v6⟩:=x
 dsimp only at a ⊢
 have f:(bif(decide (((edges.length:Nat):Int)>0))then(decide (v1≥ne))else false)=false:=by
  cases e:decide (((edges.length:Nat):Int)>0)with
  | false=>rfl
  | true=>
   rw[e]at a;have:=a rfl;exact kdf (by omega)
 rw[f];refine Tot.cond (fun h=>by cases h) fun _=>.one rfl
end W
end
section
open Go Ax Go.Proofs
namespace W
theorem VF.cp {v:Val} (h:VF v):Tot M1 (fun n=>zG n v) (fun r=>r=v):=.of (fun n a b=>Cm n b v (by have:=h.big; unfold M1 at a; omega)) rfl
theorem SJ {env:Env} {g:Graph} {par:Val} (hp:PlOk ⟨env,g,par⟩) {x:qf} (e:EvOk x) (f:Qg x<=1048576):Tot M1 (fun n=>np n x env g par) VR:=by
 have h:=((aF hp 1048576 (jw _)).1 x e f).up (show _<=M1 by decide);obtain⟨names,vals⟩:=env;obtain⟨nodes,edges⟩:=g;obtain⟨j,k,l,m,o,p⟩:=par;obtain⟨e1,e2,⟨q,s,t,u,v,w⟩,y,i⟩:=x;unfold np
 dsimp only
 refine Tot.bnd h fun r d=>?_;obtain⟨⟨A,B,C,D,E,F⟩,c⟩:=r
 dsimp only
 refine Tot.cond (fun b=>.one fun a=>?_) fun b=>?_
 ·have a:c=0:=a
  subst a;cases b
 ·have a:c=0:=by simpa using b
  subst a;refine Tot.bnd (d rfl).cp fun z hz=>?_;subst hz;exact .one fun _=>d rfl
theorem aZ (n:Nat) (a b:List UInt8):xC n a b=some (Op.bytesLess a b):=by
 unfold xC xd;simp
theorem qba {ks:List (List UInt8)} (q:ks.length<=1048576) (k:List UInt8):Tot M1 (fun n=>qg n ks k) (fun r=>∃ j:Nat,r.1=(j:Int)/\j<=ks.length/\(r.2=true->j<ks.length)):=by
 unfold qg;rw[zb];refine Tot.loop (fun m st=>∃ i j:Nat,st=((i:Int),(j:Int))/\i+m=j/\j<=ks.length) ?_ ⟨0,ks.length,rfl,by omega,jw _⟩ (by unfold M1; omega:ks.length<M1);rintro m _ ⟨i,j,rfl,hm,d⟩;unfold qT
 dsimp only
 rw[zb];refine qI.cond (fun c=>?_) fun c=>.tot ?_
 ·have a:i<j:=by have:=kod c; omega
  rw[qbj (show i+j<=1152921504606846976 by omega)];refine qI.bnd (Tot.idx (zE (show(i+j) / 2<ks.length by omega)) (P:=fun _=>True) trivial) fun x _=>?_
  refine qI.bnd (P:=fun _=>True) (.of (fun n _ _=>aZ n x k) trivial) fun b _=>qI.cond (fun _=>?_) fun _=>?_
  ·rw[zM (by omega)]
   exact .next ⟨j - ((i+j) / 2+1),by omega,(i+j) / 2+1,j,rfl,by omega,d⟩
  exact .next ⟨(i+j) / 2 - i,by omega,i,(i+j) / 2,rfl,by omega,by omega⟩
 have a:i=j:=by have:=of_decide_eq_false c; omega
 subst a;have e:∀ g:Bool,(g=true->i<ks.length)->Tot M1 (fun _=>qz g (idx ks (i:Int))) (fun _=>True):=fun g o=>(Tot.gs (P:=fun _=>True) fun h=>Tot.idx (zE (o h)) trivial).imp fun _ _=>trivial
 have f:∀(g:Bool) (s:List UInt8),Tot M1 (fun n=>qz g (vh n s)) (fun _=>True):=fun g s=>(Tot.gs (P:=fun _=>True) fun _=>.of (fun n _ _=>rfl) trivial).imp fun _ _=>trivial
 refine Tot.bnd (e _ fun h=>by have:=kod h; omega) fun t _=>Tot.bnd (e _ fun h=>?_) fun u _=>Tot.bnd (f _ _) fun v _=>Tot.bnd (f _ _) fun p _=>.one ⟨i,rfl,d,fun h=>?_⟩
 ·simp only[ji,kde]at h; omega
 cases l:decide ((i:Int)<((ks.length:Nat):Int))with
 | false=>
  have h:(bif decide ((i:Int)<((ks.length:Nat):Int))then _ else false)=true:=h;rw[l]at h;cases h
 | true=>have:=kod l; omega
theorem Hb:∀{vs:List Val},(∀ v∈vs,VF v)->Tot M1 (fun n=>DU n vs) (fun r=>r=vs)
 | [],_=>.one rfl
 | v::vs,h=>by
  refine Tot.bnd (h v (by simp)).cp fun u hu=>Tot.bnd (Hb fun x b=>h x (by simp[b])) fun us a=>.one ?_
  rw[hu,a]
structure EK (k:Nat) (m:Made):Prop where
 len:m.keys.length=m.vals.length
 le:m.keys.length<=k
 vf:∀ v∈m.vals,VF v
theorem ic {A:Type} {l:List A} {j:Nat} {x:A} (h:x∈Uy l j):x∈l:=by
 rcases jy.1 h with h|h
 ·exact List.mem_of_mem_take h
 exact List.mem_of_mem_drop h
theorem ie {A:Type} {l:List A} {j:Nat} {x y:A} (h:x∈Gt l j y):x∈l\/x=y:=by
 rcases jy.1 h with h|h
 ·rcases jy.1 h with h|h
  ·exact .inl (List.mem_of_mem_take h)
  exact .inr (jz.1 h)
 exact .inl (List.mem_of_mem_drop h)
theorem TR {k:Nat} (t:k<=1048575) {ks:List (List UInt8)} {vs:List Val} (h:EK k ⟨ks,vs⟩) (key:List UInt8) {v:Val} (d:VF v):Tot M1 (fun n=>bT n ks vs key v) (fun r=>EK (k+1) ⟨r.1,r.2⟩):=by
 obtain⟨h1,h2,h3⟩:=h
 dsimp only at h1 h2 h3
 have g:=d.cp;obtain⟨m,w,ii,st,l,q⟩:=v;unfold bT;refine Tot.chk (by rw[h1]; exact Nat.beq_refl _) (Tot.chk (Nat.ble_eq_true_of_le (by omega)) (Tot.bnd (Hb h3) fun us e=>Tot.bnd (qba (by omega) key) fun x o=>?_))
 subst e;obtain⟨j,p,b,f⟩:=o;rw[p];refine Tot.bnd (P:=fun y=>y=j) (.of (fun n _ _=>natI_nat j) rfl) fun y s=>?_
 subst s
 dsimp only
 refine Tot.cond (fun i=>?_) fun i=>?_
 ·have a:=f i
  refine Tot.chk (Nat.ble_eq_true_of_le a) (Tot.cond (fun _=>.one ⟨?_,?_,fun v d=>h3 v (ic d)⟩) fun _=>Tot.bnd g fun u hu=>.one ⟨?_,?_,fun v c=>?_⟩)
  ·show(Uy ks y).length=(Uy us y).length
   rw[xi a,xi (by omega),h1]
  ·show(Uy ks y).length<=k+1
   rw[xi a]; omega
  ·show(Gt (Uy ks y) y key).length=(Gt (Uy us y) y u).length
   rw[gZ (by rw[xi a]; omega),gZ (by rw[xi (by omega)]; omega),xi a,xi (by omega),h1]
  ·show(Gt (Uy ks y) y key).length<=k+1
   rw[gZ (by rw[xi a]; omega),xi a]; omega
  rcases ie c with h|h
  ·exact h3 v (ic h)
  rw[h,hu]; exact d
 refine Tot.chk (Nat.ble_eq_true_of_le b) (Tot.cond (fun _=>.one ⟨h1,by show ks.length<=k+1; omega,h3⟩) fun _=>Tot.bnd g fun u hu=>.one ⟨?_,?_,fun v c=>?_⟩)
 ·show(Gt ks y key).length=(Gt us y u).length
  rw[gZ b,gZ (by omega),h1]
 ·show(Gt ks y key).length<=k+1
  rw[gZ b]; omega
 rcases ie c with h|h
 ·exact h3 v h
 rw[h,hu]; exact d
theorem PZ {env:Env} {g:Graph} {par:Val} (hp:PlOk ⟨env,g,par⟩) {keys:List (List UInt8)} {l:List qf} (T:keys.length=l.length) (E:∀ x∈l,EvOk x/\Qg x<=1048576) (N:l.length<=1048575) (nn ne:Int) :
  Tot M1 (fun n=>uq n keys l g.nodes g.edges nn ne env.names env.vals par.1 par.2 par.3 par.4 par.5 par.6) (fun r=>r.2=0->EK l.length r.1):=by
 have s:=fun(x:qf) (o:x∈l)=>SJ hp (E x o).1 (E x o).2;obtain⟨names,vals⟩:=env;obtain⟨nodes,edges⟩:=g;obtain⟨U,V,X,Y,Z,p6⟩:=par;unfold uq
 dsimp only
 refine Tot.loop (fun m st=>∃(j:Nat),st.1=(j:Int)/\j+m=l.length/\EK j ⟨st.2.1,st.2.2⟩) ?_ ⟨0,rfl,by omega,⟨rfl,Nat.zero_le _,fun v h=>by cases h⟩⟩ (by unfold M1; omega:l.length<M1)
 rintro m ⟨O,d,e⟩ ⟨j,f,hm,a⟩
 dsimp only at f a
 subst f;unfold cG
 dsimp only
 rw[xm];refine qI.cond (fun t=>?_) fun t=>.one fun _=>?_
 ·have p:j<l.length:=by have:=kod t; omega
  refine qI.bnd (Tot.idx (zE p) (P:=fun x=>x=l[j]) rfl) fun x o=>?_
  obtain⟨e1,e2,⟨e3,e4,e5,e6,e7,e8⟩,e9,Q⟩:=x
  dsimp only
  rw[o];refine qI.bnd (s _ (List.getElem_mem p)) fun r F=>?_;obtain⟨⟨G,H,I,J,K,L⟩,c⟩:=r
  dsimp only
  have u:Tot M1 (fun n=>qz (c==0) (zB n ⟨G,H,I,J,K,L⟩)) (fun _=>True):=(Tot.gs (P:=fun _=>True) fun h=>by
   have R:=F (eq_of_beq h);exact((DC 4295475200 (jw _) _ R.big).up (show _<=M1 by decide)).imp fun _ _=>trivial).imp fun _ _=>trivial
  refine qI.bnd u fun b _=>?_;have i:∀ q:Int,(q=0->c=0)->qI M1 (fun n S=>ua n keys (j:Int) d e G H I J K L S q) (fun w=>∃ M,M<m/\∃ y:Nat,w.1=(y:Int)/\y+M=l.length/\EK y ⟨w.2.1,w.2.2⟩) (fun r=>r.2=0->EK l.length r.1):=by
   intro q A;unfold ua;refine qI.cond (fun B=>.one fun C=>?_) fun B=>?_
   ·have C:q=0:=C
    subst C;cases B
   ·have D:c=0:=A (by simpa using B)
    refine qI.bnd (Tot.idx (zE (show j<keys.length by omega)) (P:=fun _=>True) trivial) fun key _=>?_
    refine qI.bnd (TR (k:=j) (by omega) a key (F D)) fun z hz=>?_;obtain⟨z1,z2⟩:=z
    dsimp only
    rw[zM (by omega)];exact .next ⟨m - 1,by omega,j+1,rfl,by omega,hz⟩
  refine qI.cond (fun _=>i 3 fun h=>by cases h) fun _=>i c id
 have p:j=l.length:=by have:=of_decide_eq_false t; omega
 subst p;exact a
end W
end
section
open Go Ax Go.Proofs
namespace W
theorem qI.loop {R S T:Type} {N:Nat} {Q:R->Prop} {f:S->Prop} {B:Nat->(S->Option R)->(T->Option R)->T->Option R} (I:Nat->T->Prop)
  (h:∀ m t,I m t->qI N (fun n (a:T ⊕ S->Option R)=>B n (fun s=>a (.inr s)) (fun t=>a (.inl t)) t) (fun o=>match o with|.inl t'=>∃ d,d<m/\I d t'|.inr s=>f s) Q) {m0:Nat} {t0:T} (p:I m0 t0) (u:m0<N) :
  qI N (fun n a=>qy (B n a) n t0) f Q:=by
 have key:∀(M m:Nat),m<=M->∀ t,I m t->(∃ s,f s/\∀ n a k,N<=n->n<=1099511627776->m<k->qy (B n a) k t=a s)\/∃ r,Q r/\∀ n a k,N<=n->n<=1099511627776->m<k->qy (B n a) k t=some r:=by
  intro M
  induction M with
  | zero=>
   intro m hm t i;rcases h m t i with ⟨o,e,b⟩|⟨r,qr,b⟩
   ·cases o with
    | inl t'=>obtain⟨d,j,_⟩:=e; omega
    | inr s=>
     refine .inl ⟨s,e,fun n a k h1 h2 h3=>?_⟩;obtain⟨k,rfl⟩:=jj (by omega:k≠0);exact b n (Sum.elim (qy (B n a) k) a) h1 h2
   refine .inr ⟨r,qr,fun n a k h1 h2 h3=>?_⟩;obtain⟨k,rfl⟩:=jj (by omega:k≠0);exact b n (Sum.elim (qy (B n a) k) a) h1 h2
  | succ M ih=>
   intro m hm t i;rcases h m t i with ⟨o,e,b⟩|⟨r,qr,b⟩
   ·cases o with
    | inl t'=>
     obtain⟨d,j,q⟩:=e;rcases ih d (by omega) t' q with ⟨s,l,c⟩|⟨r,qr,c⟩
     ·refine .inl ⟨s,l,fun n a k h1 h2 h3=>?_⟩
      obtain⟨k,rfl⟩:=jj (by omega:k≠0);exact(b n (Sum.elim (qy (B n a) k) a) h1 h2).trans (c n a k h1 h2 (by omega))
     refine .inr ⟨r,qr,fun n a k h1 h2 h3=>?_⟩;obtain⟨k,rfl⟩:=jj (by omega:k≠0);exact(b n (Sum.elim (qy (B n a) k) a) h1 h2).trans (c n a k h1 h2 (by omega))
    | inr s=>
     refine .inl ⟨s,e,fun n a k h1 h2 h3=>?_⟩;obtain⟨k,rfl⟩:=jj (by omega:k≠0);exact b n (Sum.elim (qy (B n a) k) a) h1 h2
   refine .inr ⟨r,qr,fun n a k h1 h2 h3=>?_⟩;obtain⟨k,rfl⟩:=jj (by omega:k≠0);exact b n (Sum.elim (qy (B n a) k) a) h1 h2
 rcases key m0 m0 (jw _) t0 p with ⟨s,l,b⟩|⟨r,qr,b⟩
 ·exact .inl ⟨s,l,fun n a h1 h2=>b n a n h1 h2 (by omega)⟩
 exact .inr ⟨r,qr,fun n a h1 h2=>b n a n h1 h2 (by omega)⟩
theorem PY (l:List (List UInt8)) (x:List UInt8) (e:l.length<=2097152):Tot 34359738368 (fun n=>zg n l x) (fun r=>(x ∉ l/\r = -1)\/∃ j:Nat,r=((j:Nat):Int)/\l[j]? =some x/\x ∉ l.take j):=by
 unfold zg;refine Tot.loop (fun m st=>∃ j:Nat,st=((j:Nat):Int)/\j+m=l.length/\x ∉ l.take j) ?_ ⟨0,rfl,by omega,by simp⟩ (by omega:l.length<34359738368);rintro m _ ⟨j,rfl,hm,a⟩;unfold xL;rw[zb];refine qI.cond (fun b=>?_) fun b=>.one ?_
 ·have c:j<l.length:=by have:=kod b; omega
  refine qI.bnd (Tot.idx (zE c) (P:=fun y=>y=l[j]) rfl) fun y d=>?_
  subst d;refine qI.cond (fun he=>.one ?_) fun he=>?_
  ·exact .inr ⟨j,rfl,by rw[zE c,← eq_of_beq he],a⟩
  rw[zM (by omega)];refine .next ⟨m - 1,by omega,j+1,rfl,by omega,?_⟩;rw[zK c];intro h;rcases jy.1 h with h|h
  ·exact a h
  have:=jz.1 h;rw[← this]at he;simp at he
 have:j=l.length:=by have:=of_decide_eq_false b; omega
 subst this;rw[List.take_length]at a;exact .inl ⟨a,rfl⟩
structure qel (d:ql):Prop where
 kl:d.keys.length=d.vals.length
 ex:∀ x∈d.vals,EvOk x/\Qg x<=1048576
 le:d.vals.length<=1048575
 lb:d.labels.length<=1048576
structure qek (d:qp):Prop where
 kl:d.keys.length=d.vals.length
 ex:∀ x∈d.vals,EvOk x/\Qg x<=1048576
 le:d.vals.length<=1048575
structure lK (p:zL):Prop where
 len:p.nodes.length=p.edges.length+1
 nd:∀ d∈p.nodes,qel d
 ed:∀ d∈p.edges,qek d
 le:p.nodes.length<=1048576
theorem EK.up {k k':Nat} {m:Made} (h:EK k m) (a:k<=k'):EK k' m:=⟨h.len,Nat.le_trans h.le a,h.vf⟩
def qcy (p:zL) (row:List Made):Prop:=row.length=2 * p.nodes.length - 1/\∀ m∈row,EK 1048575 m
def RX (l:List zL) (rows:List (List Made)):Prop:=rows.length=l.length/\∀(i:Nat) (p:zL) (row:List Made),l[i]? =some p->rows[i]? =some row->qcy p row
theorem eN (l:List zL):(zL.rows l).length=l.length:=by simp[zL.rows]
theorem NH (l:List ql):(ql.rows l).length=l.length:=by simp[ql.rows]
theorem qds (l:List Made):(Made.rows l).length=l.length:=by simp[Made.rows]
theorem qd8 (l:List (List Made)):(pj pX l).length=l.length:=by simp[pj]
section
variable {env:Env} {g:Graph} {par:Val} (hp:PlOk ⟨env,g,par⟩) (nn ne:Int)
include hp
theorem qaj {l:List zL} (hl:l.length<=1048576) (hpa:∀ p∈l,lK p) :
  Tot M1 (fun n=>fV n l g.nodes g.edges nn ne env.names env.vals par.1 par.2 par.3 par.4 par.5 par.6) (fun r=>r.2=0->RX l r.1):=by
 have G:=fun(keys:List (List UInt8)) (vs:List qf) (h1:keys.length=vs.length) (h2:∀ x∈vs,EvOk x/\Qg x<=1048576) (h3:vs.length<=1048575)=>(PZ hp h1 h2 h3 nn ne).imp fun r (M:r.2=0->EK vs.length r.1) (A:r.2=0)=>(M A).up h3;obtain⟨names,vals⟩:=env;obtain⟨nodes,edges⟩:=g;obtain⟨p1,p2,p3,p4,p5,p6⟩:=par;unfold fV
 dsimp only at G ⊢
 refine Tot.loop (fun m st=>∃ j:Nat,st.2=(j:Int)/\j+m=l.length/\st.1.length=j/\∀(i:Nat) (p:zL) (row:List Made),l[i]? =some p->st.1[i]? =some row->qcy p row) ?_ ⟨0,rfl,by omega,rfl,fun i p row _ h=>by simp at h⟩ (by unfold M1; omega:l.length<M1)
 rintro m ⟨q,x15⟩ ⟨j,N,hm,hlen,hI⟩
 dsimp only at N hlen hI
 subst N;unfold bD
 dsimp only
 rw[eN];refine qI.cond (fun H=>?_) fun H=>.one fun _=>?_
 ·have O:j<l.length:=by have:=kod H; omega
  refine qI.bnd (Tot.idx (zE O) (P:=fun x=>x=l[j]) rfl) fun x Q=>?_
  have R:=hpa _ (List.getElem_mem O);have hlj:l[j]? =some x:=by rw[Q]; exact zE O
  rw[← Q]at R;clear Q;obtain⟨a,b⟩:=x;obtain⟨hpl,S,T,U⟩:=R
  dsimp only at hpl S T U
  dsimp only
  refine qI.loop (fun m st=>∃ k:Nat,st.2=(k:Int)/\k+m=a.length/\st.1.length=2 * k - 1/\∀ y∈st.1,EK 1048575 y) ?_ (m0:=a.length) ⟨0,rfl,by omega,rfl,fun y h=>by cases h⟩ (by unfold M1; omega)
  rintro m2 ⟨c,x19⟩ ⟨k,B,hm2,F,E⟩
  dsimp only at B F E
  subst B;unfold bE
  dsimp only
  rw[NH];refine qI.cond (fun H=>?_) fun H=>?_
  ·have Z:k<a.length:=by have:=kod H; omega
   refine qI.bnd (Tot.idx (zE Z) (P:=fun x=>x=a[k]) rfl) fun x Q=>?_
   have V:=S _ (List.getElem_mem Z);rw[← Q]at V;obtain⟨x20,x21,d,e⟩:=x;obtain⟨n1,n2,n3,n4⟩:=V
   dsimp only at n1 n2 n3 n4
   dsimp only
   have X:∀(QS:List Made×Int ⊕ List (List Made)×Int->Prop),(∀ t':List Made×Int,(∃ m',m'<m2/\∃ k:Nat,t'.2=(k:Int)/\k+m'=a.length/\t'.1.length=2 * k - 1/\∀ y∈t'.1,EK 1048575 y)->QS (.inl t'))->∀ row:List Made,row.length=2 * k->(∀ y∈row,EK 1048575 y) ->
     qI M1 (fun n (nx:List Made×Int ⊕ List (List Made)×Int->Option (List (List Made)×Int))=>gl n d e nodes edges nn ne names vals p1 p2 p3 p4 p5 p6 (fun t=>nx (.inl t)) (k:Int) row) QS (fun r=>r.2=0->RX l r.1):=by
    intro QS hQS row hrl hrm;unfold gl;refine qI.bnd (G d e n1 n2 n3) fun r M=>?_;obtain⟨⟨s,u⟩,f⟩:=r
    dsimp only
    refine qI.cond (fun I=>.one fun A=>?_) fun I=>?_
    ·have A:f=0:=A
     subst A;cases I
    ·have A:f=0:=by simpa using I
     refine qI.chk (cw (by rw[qds]; simp; omega)) ?_;rw[zM (by omega)];exact .inl ⟨.inl (row++[Made.mk s u],((k+1:Nat):Int)),hQS _ ⟨m2 - 1,by omega,k+1,rfl,by omega,by simp; omega,fun y C=>by
      rcases jy.1 C with C|C
      ·exact hrm y C
      rw[jz.1 C]; exact M A⟩,fun _ _ _ _=>rfl⟩
   refine qI.cond (fun J=>?_) fun J=>?_
   ·have B:0<k:=by have:=kod J; omega
    obtain⟨k',rfl⟩:∃ k',k=k'+1:=⟨k - 1,by omega⟩;rw[VE (by omega)];have K:k'<b.length:=by omega
    refine qI.bnd (Tot.idx (zE K) (P:=fun x=>x=b[k']) rfl) fun x hx1=>?_
    obtain⟨y1,y2,y3,y4,y5⟩:=x
    dsimp only
    refine qI.bnd (Tot.idx (zE K) (P:=fun x=>x=b[k']) rfl) fun x L=>?_
    have Y:=T _ (List.getElem_mem K);rw[← hx1]at Y L;obtain⟨z1,z2,z3,z4,z5⟩:=x;simp only[qp.mk.injEq]at L;obtain⟨rfl,rfl,rfl,rfl,rfl⟩:=L;obtain⟨e1,e2,e3⟩:=Y
    dsimp only at e1 e2 e3
    dsimp only
    refine qI.bnd (G _ _ e1 e2 e3) fun r M=>?_;obtain⟨⟨v,w⟩,o⟩:=r
    dsimp only
    refine qI.cond (fun I=>.one fun A=>?_) fun I=>?_
    ·have A:o=0:=A
     subst A;cases I
    ·have A:o=0:=by simpa using I
     refine qI.chk (cw (by rw[qds]; simp; omega)) ?_;exact X _ (fun _ h=>h) (c++[Made.mk v w]) (by simp; omega) fun y C=>by
      rcases jy.1 C with C|C
      ·exact E y C
      rw[jz.1 C]; exact M A
   have B:k=0:=by have:=of_decide_eq_false J; omega
   subst B;exact X _ (fun _ h=>h) _ (by omega) E
  have Z:k=a.length:=by have:=of_decide_eq_false H; omega
  subst Z;refine qI.chk (cw (by rw[qd8]; simp; omega)) ?_;rw[zM (by omega)];refine .inl ⟨.inr (q++[c],((j+1:Nat):Int)),⟨m - 1,by omega,j+1,rfl,by omega,by simp; omega,fun i p row D z=>?_⟩,fun _ _ _ _=>rfl⟩
  dsimp only at z
  rw[List.getElem?_append]at z;split at z
  ·exact hI i p row D z
  rename_i hge;obtain rfl:i=j:=by
   have:=(jG.1 z).1;simp at this;omega
  rw[hlj]at D;have D:=Option.some.inj D;subst D;have:row=c:=by rw[hlen,Nat.sub_self]at z; simpa using z.symm
  subst this;exact⟨F,E⟩
 have O:j=l.length:=by have:=of_decide_eq_false H; omega
 subst O;exact⟨hlen,hI⟩
end
end W
end
section
open Go Ax Go.Proofs
namespace W
def Grw (g0:Graph) (nn0 ne0:Int) (nodes:List Node) (edges:List Edge) (nn ne:Int) (names:List (List UInt8)) (vals:List Val):Prop:=
 qcm ⟨nodes,edges⟩ nn ne/\∃(a:List Node) (E':List Edge),nodes=g0.nodes++a/\nn=nn0+(a.length:Int)/\edges=g0.edges++E'/\ne=ne0+(E'.length:Int)/\names.length=vals.length/\names.length<=1048576+a.length+E'.length
theorem Grw.lens {g0:Graph} {nn0 ne0:Int} {nodes:List Node} {edges:List Edge} {nn ne:Int} {names:List (List UInt8)} {vals:List Val} (h:Grw g0 nn0 ne0 nodes edges nn ne names vals):names.length=vals.length/\names.length<=1056768:=by
 obtain⟨st,a,E',rfl,_,rfl,_,h1,h2⟩:=h;have l1:=st.gg.lenN;have l2:=st.gg.lenE;simp only[jb]at l1 l2;exact⟨h1,by omega⟩
theorem EU (x:List UInt8) (nodes:List Node) (edges:List Edge) (nn ne:Int) {names:List (List UInt8)} (vals:List Val) (c:names.length<=2097152) (p1:Int) (p2:Bool) (p3:Int) (p4:List UInt8) (p5:List Val) (p6:List (List UInt8)) :
  Tot M1 (fun n=>vt n x nodes edges nn ne names vals p1 p2 p3 p4 p5 p6) (fun _=>True):=by
 unfold vt;rw[qn];refine Tot.bnd ((PY names x c).up (show _<=M1 by decide)) fun r f=>Tot.cond (fun _=>.one trivial) fun a=>?_
 have d:∃ j:Nat,r=(j:Int)/\j<vals.length:=by
  cases b:(x==([]:List UInt8))with
  | true=>rw[b]at a; cases a
  | false=>
   rw[b]at a;cases h1:decide (r<(0:Int))with
   | true=>rw[h1]at a; cases a
   | false=>
    rw[h1]at a;have h1:=of_decide_eq_false h1;have h2:=of_decide_eq_false (show decide (r≥((vals.length:Nat):Int))=false from a);exact⟨r.toNat,by omega,by omega⟩
 obtain⟨j,rfl,e⟩:=d;refine Tot.bnd (Tot.idx (zE e) (P:=fun _=>True) trivial) fun v _=>?_
 obtain⟨v1,v2,v3,v4,v5,v6⟩:=v;exact .one trivial
theorem MN (x:List UInt8) (v:Val) (nodes:List Node) (edges:List Edge) (nn ne:Int) {names:List (List UInt8)} {vals:List Val} (he:names.length=vals.length) (a:names.length<=2097152) (p1:Int) (p2:Bool) (p3:Int) (p4:List UInt8) (p5:List Val) (p6:List (List UInt8)) :
  Tot M1 (fun n=>uU n x v nodes edges nn ne names vals p1 p2 p3 p4 p5 p6) (fun r=>r.1.length=r.2.length/\r.1.length<=names.length+1):=by
 obtain⟨v1,v2,v3,v4,v5,v6⟩:=v;unfold uU
 dsimp only
 refine Tot.bnd (EU x nodes edges nn ne vals a p1 p2 p3 p4 p5 p6) fun r _=>?_;obtain⟨⟨b,d,e,f,g,i⟩,c⟩:=r
 dsimp only
 refine Tot.cond (fun _=>Tot.chk (cw (by rw[zb]; simp; omega)) (Tot.chk (cw (by rw[qn]; simp; omega)) (.one ⟨by simp[he],by simp⟩))) fun _=>.one ⟨he,Nat.le_succ _⟩
theorem qaz {n:Nat} {l r:List (List UInt8)} (h:BO n l=some r):r.length<=l.length:=by
 have:=oF h;rw[← this];exact Nat.le_trans (BU _) (by rw[cX]; exact jw _)
theorem qeh {x:Int} (h1:1<=x) (h2:x<4611686018427387904):kwr .i64 (x+1)=x+1:=by rw[IntKind.wrap_i64]; omega
section
variable {g0:Graph} {nn0 ne0:Int} {nodes:List Node} {edges:List Edge} {nn ne:Int} {names:List (List UInt8)} {vals:List Val} (h:Grw g0 nn0 ne0 nodes edges nn ne names vals) (p1:Int) (p2:Bool) (p3:Int) (p4:List UInt8) (p5:List Val) (p6:List (List UInt8))
include h
theorem eE {d:Node} (e:d.id=nn) (f:nn<4611686018427387904) {a:List (List UInt8)} {b:List Val} (g:GG ⟨nodes++[d],edges⟩) (i:a.length=b.length) (j:a.length<=names.length+1):Grw g0 nn0 ne0 (nodes++[d]) edges (nn+1) ne a b:=by
 obtain⟨st,k,E',e1,e2,l,m,n,o⟩:=h;refine⟨⟨g,by have:=st.n1; omega,by omega,st.e1,st.e2,fun x c=>?_,st.be⟩,k++[d],E',by rw[e1,js],by rw[e2]; simp; omega,l,m,i,by simp; omega⟩;rcases jy.1 c with c|c
 ·have:=st.bn x c; omega
 rw[jz.1 c,e]; omega
theorem aD {d:Edge} (e:d.id=ne) (f:ne<4611686018427387904) {a:List (List UInt8)} {b:List Val} (g:GG ⟨nodes,edges++[d]⟩) (i:a.length=b.length) (j:a.length<=names.length+1):Grw g0 nn0 ne0 nodes (edges++[d]) nn (ne+1) a b:=by
 obtain⟨st,k,E',e1,e2,l,m,n,o⟩:=h;refine⟨⟨g,st.n1,st.n2,by have:=st.e1; omega,by omega,st.bn,fun x c=>?_⟩,k,E'++[d],e1,e2,by rw[l,js],by rw[m]; simp; omega,i,by simp; omega⟩;rcases jy.1 c with c|c
 ·have:=st.be x c; omega
 rw[jz.1 c,e]; omega
theorem iq {d:ql} (b:d.labels.length<=1048576) {m:Made} (hm:EK 1048575 m) :
  Tot M1 (fun n=>uV n d m nodes edges nn ne names vals p1 p2 p3 p4 p5 p6) (fun r=>r.2.1≠0\/Grw g0 nn0 ne0 r.2.2.1 r.2.2.2.1 r.2.2.2.2.1 ne r.2.2.2.2.2.1 r.2.2.2.2.2.2):=by
 obtain⟨o,t⟩:=h.lens;have st:=h.1;obtain⟨f,e,G,H⟩:=d;obtain⟨g,i⟩:=m;obtain⟨m1,m2,m3⟩:=hm
 dsimp only at b m1 m2 m3
 unfold uV
 dsimp only
 refine Tot.bnd (EU f nodes edges nn ne vals (by omega) p1 p2 p3 p4 p5 p6) fun r _=>?_;obtain⟨⟨I,J,u,K,L,M⟩,c⟩:=r
 dsimp only
 refine Tot.cond (fun _=>?_) fun _=>?_
 ·refine Tot.bnd ((Th st.gg u).imp (Q':=fun _=>True) fun _ _=>trivial) fun z _=>?_
  obtain⟨⟨w,z2,z3,z4⟩,z5⟩:=z
  dsimp only
  exact Tot.cond (fun _=>.one (.inl (show(23:Int)≠0 by decide))) fun _=>.one (.inr h)
 refine Tot.cond (fun _=>.one (.inl (show(8:Int)≠0 by decide))) fun k=>?_;have k:=of_decide_eq_false k;refine Tot.chk (cw (by rw[zb]; omega)) ?_;refine Tot.bnd (P:=fun _=>True) (.of (fun n _ _=>show FW n e=some () by unfold FW; rw[Nat.ble_eq_true_of_le b]; rfl) trivial) fun _ _=>?_
 obtain⟨p,l⟩:∃ p,∀ n,BO n e=some p:=by
  unfold BO;cases Nat.ble e.length 1 with
  | true=>exact⟨_,fun _=>rfl⟩
  | false=>exact⟨_,fun _=>rfl⟩
 have A:=qaz (l 0);refine Tot.bnd (P:=fun x=>x=p) (.of (fun n _ _=>l n) rfl) fun x B=>?_
 subst B;have q:SzN ⟨nn,x,g,i⟩:=⟨by show x.length<=_; omega,by show g.length<=_; omega,by show i.length<=_; omega,fun v C=>(m3 v C).big⟩;refine Tot.bnd (qbv st.gg q fun y D=>st.bn y D) fun r a=>?_
 obtain⟨⟨N,O⟩,j⟩:=r
 dsimp only
 refine Tot.cond (fun s=>.one (.inl ?_)) fun s=>?_
 ·show j≠0
  simpa using s
 have E:j=0:=by simpa using s
 rcases a with a|⟨a,F⟩
 ·exact absurd E a
 simp only[Prod.mk.injEq,Graph.mk.injEq]at a;obtain⟨⟨rfl,rfl⟩,_⟩:=a;rw[qeh st.n1 (by omega)];refine Tot.bnd (MN f _ _ _ _ _ o (by omega) p1 p2 p3 p4 p5 p6) fun z hz=>?_;obtain⟨w,z2⟩:=z;exact .one (.inr (eE h rfl (by omega) F hz.1 hz.2))
theorem SL {d:qp} (a b:Int) {m:Made} (hm:EK 1048575 m) :
  Tot M1 (fun n=>fm n d a b m nodes edges nn ne names vals p1 p2 p3 p4 p5 p6) (fun r=>r.1≠0\/Grw g0 nn0 ne0 r.2.1 r.2.2.1 nn r.2.2.2.1 r.2.2.2.2.1 r.2.2.2.2.2):=by
 obtain⟨l,s⟩:=h.lens;have st:=h.1;obtain⟨f,g,A,B,C⟩:=d;obtain⟨c,e⟩:=m;obtain⟨m1,m2,m3⟩:=hm
 dsimp only at m1 m2 m3
 have q:∀ a b:Int,Tot M1 (fun n=>uy n ne nodes edges names vals g c e f nn p1 p2 p3 p4 p5 p6 (a,b)) (fun r=>r.1≠0\/Grw g0 nn0 ne0 r.2.1 r.2.2.1 nn r.2.2.2.1 r.2.2.2.2.1 r.2.2.2.2.2):=by
  intro a b;unfold uy
  dsimp only
  refine Tot.cond (fun _=>.one (.inl (show(8:Int)≠0 by decide))) fun k=>?_;have k:=of_decide_eq_false k;have o:SzE ⟨ne,a,b,g,c,e⟩:=⟨by show c.length<=_; omega,by show e.length<=_; omega,fun v t=>(m3 v t).big⟩;refine Tot.bnd (aS st.gg o fun y u=>st.be y u) fun r j=>?_
  obtain⟨⟨D,E⟩,i⟩:=r
  dsimp only
  refine Tot.cond (fun p=>.one (.inl ?_)) fun p=>?_
  ·show i≠0
   simpa using p
  have w:i=0:=by simpa using p
  rcases j with j|⟨j,x⟩
  ·exact absurd w j
  simp only[Prod.mk.injEq,Graph.mk.injEq]at j;obtain⟨⟨rfl,rfl⟩,_⟩:=j;rw[qeh st.e1 (by omega)];refine Tot.bnd (MN f _ _ _ _ _ l (by omega) p1 p2 p3 p4 p5 p6) fun z hz=>?_;obtain⟨F,z2⟩:=z;exact .one (.inr (aD h rfl (by omega) x hz.1 hz.2))
 unfold fm
 dsimp only
 exact Tot.cond (fun _=>q b a) fun _=>q a b
end
end W
end
section
open Go Ax Go.Proofs
namespace W
theorem Tp {rows:List (List Made)} {l:List zL} (h:RX l rows) {i k:Nat} {p:zL} (hp:l[i]? =some p) (c:k<2 * p.nodes.length - 1):∃ row m,rows[i]? =some row/\row[k]? =some m/\EK 1048575 m:=by
 obtain⟨h1,h2⟩:=h;have d:=(jG.1 hp).1;obtain⟨row,b⟩:∃ row,rows[i]? =some row:=⟨_,jf (by omega)⟩;obtain⟨h3,h4⟩:=h2 i p row hp b;have a:k<row.length:=by omega
 exact⟨row,row[k],b,jf a,h4 _ (List.getElem_mem a)⟩
theorem qei {k:Nat} (h:k<=1048576):kwr .i64 ((2:Int) * (k:Int))=((2 * k:Nat):Int):=by rw[IntKind.wrap_i64]; omega
section
variable {g0:Graph} {nn0 ne0:Int} {nodes:List Node} {edges:List Edge} {names:List (List UInt8)} {vals:List Val} (h:Grw g0 nn0 ne0 nodes edges nn0 ne0 names vals) {par:Val} (hp:PlOk ⟨⟨names,vals⟩,⟨nodes,edges⟩,par⟩)
include h hp
theorem PC {l:List zL} (hl:l.length<=1048576) (Y:∀ p∈l,lK p) :
  Tot M1 (fun n=>vO n l nodes edges nn0 ne0 names vals par.1 par.2 par.3 par.4 par.5 par.6) (fun r=>r.1≠0\/Grw g0 nn0 ne0 r.2.1 r.2.2.1 r.2.2.2.1 r.2.2.2.2.1 r.2.2.2.2.2.1 r.2.2.2.2.2.2):=by
 have Q:=qaj hp nn0 ne0 hl Y;obtain⟨p1,p2,p3,p4,p5,p6⟩:=par;unfold vO
 dsimp only at Q ⊢
 refine Tot.bnd Q fun r X=>?_;obtain⟨x14,v⟩:=r
 dsimp only at X ⊢
 refine Tot.cond (fun Z=>.one (.inl (show v≠0 by simpa using Z))) fun Z=>?_;have hrows:=X (by simpa using Z);refine Tot.loop (fun m st=>∃ j:Nat,st.1=(j:Int)/\j+m=l.length/\Grw g0 nn0 ne0 st.2.1 st.2.2.1 st.2.2.2.1 st.2.2.2.2.1 st.2.2.2.2.2.1 st.2.2.2.2.2.2) ?_ ⟨0,rfl,by omega,h⟩ (by unfold M1; omega:l.length<M1);rintro m ⟨x16,x17,x18,x19,x20,x21,x22⟩ ⟨j,hj0,hm,hG⟩
 dsimp only at hj0 hG
 subst hj0;unfold gx
 dsimp only
 rw[eN];refine qI.cond (fun hd=>?_) fun hd=>.one (.inr hG);have hj:j<l.length:=by have:=kod hd; omega
 refine qI.bnd (Tot.idx (zE hj) (P:=fun x=>x=l[j]) rfl) fun x hx=>?_
 have hpo:=Y _ (List.getElem_mem hj);have hlj:l[j]? =some x:=by rw[hx]; exact zE hj
 rw[← hx]at hpo;clear hx;obtain⟨g,w⟩:=x;obtain⟨hpl,hpn,hpe,hple⟩:=hpo
 dsimp only at hpl hpn hpe hple
 dsimp only
 refine qI.loop (fun m st=>∃ k:Nat,st.2.1=(k:Int)/\k+m=g.length/\Grw g0 nn0 ne0 st.2.2.1 st.2.2.2.1 st.2.2.2.2.1 st.2.2.2.2.2.1 st.2.2.2.2.2.2.1 st.2.2.2.2.2.2.2) ?_ (m0:=g.length) ⟨0,rfl,by omega,hG⟩ (by unfold M1; omega);rintro m2 ⟨z,x26,A,B,C,D,E,F⟩ ⟨k,S,hm2,T⟩
 dsimp only at S T
 subst S;unfold gy
 dsimp only
 rw[NH];refine qI.cond (fun hd=>?_) fun hd=>?_
 ·have hk:k<g.length:=by have:=kod hd; omega
  refine qI.bnd (Tot.idx (zE hk) (P:=fun x=>x=g[k]) rfl) fun x hx=>?_
  have hno:=hpn _ (List.getElem_mem hk);rw[← hx]at hno;obtain⟨G,H,I,J⟩:=x;obtain⟨row,md,hrow,hmd,hmo⟩:=Tp hrows hlj (k:=2 * k) (by show 2 * k<2 * g.length - 1; omega)
  dsimp only
  refine qI.bnd (Tot.idx hrow (P:=fun x=>x=row) rfl) fun x hx1=>?_
  subst hx1;rw[qei (by omega)];refine qI.bnd (Tot.idx hmd (P:=fun x=>x=md) rfl) fun y hy=>?_
  subst hy;obtain⟨x38,x39⟩:=y
  dsimp only
  refine qI.bnd (iq T p1 p2 p3 p4 p5 p6 (d:=⟨G,H,I,J⟩) hno.lb hmo) fun r X=>?_;obtain⟨o,u,x42,x43,s,x45,x46⟩:=r
  dsimp only at X ⊢
  have hk9:∀(QS:_->Prop),(∀ R:Int×Int×List Node×List Edge×Int×Int×List (List UInt8)×List Val,(∃ m',m'<m2/\∃ k:Nat,R.2.1=(k:Int)/\k+m'=g.length/\Grw g0 nn0 ne0 R.2.2.1 R.2.2.2.1 R.2.2.2.2.1 R.2.2.2.2.2.1 R.2.2.2.2.2.2.1 R.2.2.2.2.2.2.2)->QS (.inl R)) ->
    ∀(c:Int) (a:List Node) (b:List Edge) (e:Int) (f:List (List UInt8)) (q:List Val),(c≠0\/Grw g0 nn0 ne0 a b s e f q) ->
    qI M1 (fun n (nx:(Int×Int×List Node×List Edge×Int×Int×List (List UInt8)×List Val) ⊕ (Int×List Node×List Edge×Int×Int×List (List UInt8)×List Val)->Option (Int×(List Node)×(List Edge)×Int×Int×(List (List UInt8))×(List Val)))=>xR n s (fun t=>nx (.inl t)) o (k:Int) (c,a,b,e,f,q)) QS
     (fun r=>r.1≠0\/Grw g0 nn0 ne0 r.2.1 r.2.2.1 r.2.2.2.1 r.2.2.2.2.1 r.2.2.2.2.2.1 r.2.2.2.2.2.2):=by
   intro QS hQS c a b e f q Z;unfold xR
   dsimp only
   refine qI.cond (fun h=>.one (.inl (show c≠0 by simpa using h))) fun h=>?_;have hg:=Z.resolve_left (fun h'=>h' (by simpa using h))
   rw[zM (by omega)];exact .inl ⟨.inl (o,((k+1:Nat):Int),a,b,s,e,f,q),hQS _ ⟨m2 - 1,by omega,k+1,rfl,by omega,hg⟩,fun _ _ _ _=>rfl⟩
  refine qI.cond (fun i=>?_) fun _=>hk9 _ (fun _ h=>h) _ _ _ _ _ _ X
  have U:u=0/\0<k:=by
   cases e:(u==(0:Int))with
   | false=>rw[e]at i; cases i
   | true=>
    rw[e]at i;have:=kod (show decide (((k:Nat):Int)>0)=true from i);exact⟨eq_of_beq e,by omega⟩
  obtain⟨U,S⟩:=U;have hg3:=X.resolve_left fun h'=>h' U
  obtain⟨k',rfl⟩:∃ k',k=k'+1:=⟨k - 1,by omega⟩;have hke:k'<w.length:=by omega
  obtain⟨row2,md2,V,hmd2,hmo2⟩:=Tp hrows hlj (k:=2 * k'+1) (by show 2 * k'+1<2 * g.length - 1; omega);rw[VE (by omega)];refine qI.bnd (Tot.idx (zE hke) (P:=fun _=>True) trivial) fun x _=>?_
  obtain⟨K,L,M,N,O⟩:=x
  dsimp only
  refine qI.bnd (Tot.idx V (P:=fun x=>x=row2) rfl) fun x hx2=>?_
  subst hx2;have ew:kwr .i64 (((2 * (k'+1):Nat):Int) - 1)=((2 * k'+1:Nat):Int):=by rw[IntKind.wrap_i64]; omega
  rw[ew];refine qI.bnd (Tot.idx hmd2 (P:=fun x=>x=md2) rfl) fun y hy=>?_
  subst hy;obtain⟨x59,x60⟩:=y
  dsimp only
  refine qI.bnd (SL hg3 p1 p2 p3 p4 p5 p6 (d:=⟨K,L,M,N,O⟩) z o hmo2) fun r hr2=>?_;obtain⟨x61,x62,x63,x64,x65,x66⟩:=r
  dsimp only at hr2 ⊢
  exact hk9 _ (fun _ h=>h) _ _ _ _ _ _ hr2
 rw[zM (by omega)];exact .inl ⟨.inr (((j+1:Nat):Int),A,B,C,D,E,F),⟨m - 1,by omega,j+1,rfl,by omega,T⟩,fun _ _ _ _=>rfl⟩
theorem Pq {l:List zL} (e:l.length<=1048576) (b:∀ p∈l,lK p) :
  Tot M1 (fun n=>gV n l ⟨names,vals⟩ ⟨⟨nodes,edges⟩,⟨nn0,ne0⟩⟩ par) (fun r=>(r.2.2≠0/\r.1=⟨[],[]⟩/\r.2.1=⟨⟨[],[]⟩,⟨0,0⟩⟩)\/(r.2.2=0/\Grw g0 nn0 ne0 r.2.1.g.nodes r.2.1.g.edges r.2.1.next.node r.2.1.next.edge r.1.names r.1.vals)):=by
 have c:=PC h hp e b;obtain⟨f,i⟩:=h.lens;obtain⟨v,w,x,z,A,B⟩:=par;unfold gV
 dsimp only at c ⊢
 refine Tot.bnd (Ct h.1.gg) fun y j=>?_;subst j
 dsimp only
 refine Tot.chk (cw (by rw[zb]; omega)) (Tot.chk (cw (by rw[qn]; omega)) (Tot.bnd c fun r d=>?_));obtain⟨a,k,m,o,q,s,t⟩:=r
 dsimp only at d ⊢
 refine Tot.cond (fun he=>.one (.inl ⟨show a≠0 by simpa using he,rfl,rfl⟩)) fun he=>.one (.inr ⟨rfl,d.resolve_left fun u=>u (by simpa using he)⟩)
end
end W
end
section
open Go Ax Go.Proofs
namespace W
def xN (l:List zL):qE:=qE.mk (4:Int) l ([]:List qf) (qf.mk (0:Int) ([]:List UInt8) (Val.mk (0:Int) false (0:Int) ([]:List UInt8) ([]:List Val) ([]:List (List UInt8))) ([]:List (List UInt8)) ([]:List qf)) ([]:List UInt8) ([]:List gO) false ([]:List xf) ([]:List qf) ([]:List qf) ([]:List qD) ([]:List (List UInt8)) false
theorem qdy (n:Nat) (l:List zL):VP n (xN l)=some (xN l):=rfl
theorem oE (l:List qp):(qp.rows l).length=l.length:=by simp[qp.rows]
theorem Mq {x:qf} (h:Qg x<=1048576):Tot M1 (fun n=>vX n x) (fun b=>b=true->EvOk x):=by
 have a:=(aB 1048576 (jw _) x 32 h).up (show _<=M1 by decide);obtain⟨e,f,⟨g,i,j,k,l,m⟩,o,c⟩:=x;unfold vX
 dsimp only
 exact Tot.bnd a fun b d=>.one d
theorem Ui {keys:List (List UInt8)} {vals:List qf} (r:keys.length<=1048576) (s:pd vals<=1048576):Tot M1 (fun n=>cg n keys vals) (fun b=>b=true->keys.length=vals.length/\∀ x∈vals,EvOk x):=by
 have l:=fA vals;unfold cg;rw[zb,xm];refine Tot.cond (fun _=>.one fun h=>by cases h) fun he=>?_
 have he:keys.length=vals.length:=by
  have:((keys.length:Nat):Int)=((vals.length:Nat):Int):=by simpa using he
  omega
 refine Tot.loop (fun m st=>∃ j:Nat,st=((j:Nat):Int)/\j+m=keys.length/\∀ x∈vals.take j,EvOk x) ?_ ⟨0,rfl,by omega,fun x h=>by simp at h⟩ (by unfold M1; omega:keys.length<M1)
 rintro m _ ⟨j,rfl,hm,i⟩;unfold ni;rw[zb];refine qI.cond (fun e=>?_) fun e=>.one fun _=>⟨he,?_⟩
 ·have o:j<keys.length:=by have:=kod e; omega
  have d:j<vals.length:=by omega
  have t:=mT (List.getElem_mem d);refine qI.bnd (Tot.idx (zE o) (P:=fun _=>True) trivial) fun u _=>?_
  refine qI.bnd (P:=fun _=>True) (.of (fun n _ _=>rfl) trivial) fun c _=>?_
  refine qI.bnd (Tot.gs (P:=fun x=>x=vals[j]) fun _=>Tot.idx (zE d) rfl) fun x a=>?_
  obtain⟨e1,e2,⟨v,w,y,z,A,B⟩,C,p⟩:=x
  dsimp only
  refine qI.bnd (P:=fun b=>(!(!c))=true->b=true->EvOk vals[j]) (Tot.gs (P:=fun b=>b=true->EvOk vals[j]) fun q=>?_) fun b f=>?_
  ·rw[a q]; exact Mq (by omega)
  refine qI.cond (fun _=>.one fun h=>by cases h) fun k=>?_
  rw[zM (by omega)];have h5:c=true:=by cases c with
   | true=>rfl
   | false=>cases k
  subst h5;have g:b=true:=by cases b with
   | true=>rfl
   | false=>cases k
  refine .next ⟨m - 1,by omega,j+1,rfl,by omega,fun x a=>?_⟩;rw[zK d]at a;rcases jy.1 a with a|a
  ·exact i x a
  rw[jz.1 a]; exact f rfl g
 rwa [mX (by have:=of_decide_eq_false e; omega)]at i
theorem qg4 {d:ql} (b:Qk d<=1048576) (h:d.keys.length=d.vals.length/\∀ x∈d.vals,EvOk x):qel d:=by
 unfold Qk at b;have h1:=fA d.vals;have h2:=vm d.labels;exact⟨h.1,fun x a=>⟨h.2 x a,by have:=mT a; omega⟩,by omega,by omega⟩
theorem qg2 {d:qp} (b:Qh d<=1048576) (h:d.keys.length=d.vals.length/\∀ x∈d.vals,EvOk x):qek d:=by
 unfold Qh at b;have h1:=fA d.vals;exact⟨h.1,fun x a=>⟨h.2 x a,by have:=mT a; omega⟩,by omega⟩
theorem Nr (g:Bool) {s:List UInt8} (h:s.length<=1048576):Tot M1 (fun n=>qz g (vr n s)) (fun _=>True):=(Tot.gs (P:=fun _=>True) fun _=>.of (fun n a b=>tL (by unfold M1 at a; omega) (by unfold M1 at a; omega) b) trivial).imp fun _ _=>trivial
theorem Mr {p:zL} (S:CY p<=1048576):Tot M1 (fun n=>mm n p) (fun b=>b=true->lK p):=by
 obtain⟨f,i⟩:=p;unfold CY at S
 dsimp only at S
 have T:=cY Qk HF f;have U:=cY Qh He i;have V:∀ d∈f,Qk d<=1048576:=fun d l=>by have:=dw Qk l; omega
 have he:∀ d∈i,Qh d<=1048576:=fun d l=>by have:=dw Qh l; omega
 unfold mm
 dsimp only
 rw[NH,oE];refine Tot.cond (fun _=>.one fun h=>by cases h) fun hlen=>?_
 have hlen:f.length=i.length+1:=by
  rw[zM (by omega)]at hlen;have:((f.length:Nat):Int)=((i.length+1:Nat):Int):=by simpa using hlen
  omega
 refine Tot.loop (fun m st=>∃ j:Nat,st=((j:Nat):Int)/\j+m=f.length/\∀ d∈f.take j,qel d) ?_ ⟨0,rfl,by omega,fun x h=>by simp at h⟩ (by unfold M1; omega:f.length<M1)
 rintro m _ ⟨j,rfl,hm,N⟩;unfold po;rw[NH];refine qI.cond (fun l=>?_) fun l=>.tot ?_
 ·have J:j<f.length:=by have:=kod l; omega
  have g:=V _ (List.getElem_mem J);refine qI.bnd (Tot.idx (zE J) (P:=fun x=>x=f[j]) rfl) fun x M=>?_
  have r:=zK J;rw[← M]at g r;clear M;obtain⟨t,o,B,F⟩:=x;have s:=g;unfold Qk at s
  dsimp only at s ⊢
  have h2:=vm o;have h3:=vm B;refine qI.loop (fun m st=>∃ k:Nat,st=((k:Nat):Int)/\k+m=o.length) ?_ (m0:=o.length) ⟨0,rfl,by omega⟩ (by unfold M1; omega);rintro m2 _ ⟨k,rfl,X⟩;unfold pq;rw[zb];refine qI.cond (fun l=>?_) fun l=>?_
  ·have Y:k<o.length:=by have:=kod l; omega
   refine qI.bnd (Tot.idx (zE Y) (P:=fun _=>True) trivial) fun x9 _=>?_
   refine qI.bnd (P:=fun _=>True) (.of (fun n _ _=>rfl) trivial) fun Z _=>?_
   refine qI.cond (fun _=>.one fun h=>by cases h) fun _=>?_
   rw[zM (by omega)];exact .inl ⟨.inl ((k+1:Nat):Int),⟨m2 - 1,by omega,k+1,rfl,by omega⟩,fun _ _ _ _=>rfl⟩
  refine qI.bnd (Nr _ (by omega)) fun u _=>?_;refine qI.bnd (Tot.gs fun _=>Ui (by omega) (by omega)) fun v G=>?_
  refine qI.cond (fun _=>.one fun h=>by cases h) fun H=>?_
  rw[zM (by omega)];have O:(bif(!(t==([]:List UInt8)))then(!u)else false)=false:=by
   cases e:(bif(!(t==([]:List UInt8)))then(!u)else false)with
   | false=>rfl
   | true=>rw[e]at H; cases H
  rw[O]at H G;have Q:v=true:=by cases v with
   | true=>rfl
   | false=>cases H
  have K:qel ⟨t,o,B,F⟩:=qg4 g (G rfl Q);refine .inl ⟨.inr ((j+1:Nat):Int),⟨m - 1,by omega,j+1,rfl,by omega,fun d a=>?_⟩,fun _ _ _ _=>rfl⟩
  rw[r]at a;rcases jy.1 a with a|a
  ·exact N d a
  rw[jz.1 a]; exact K
 rw[mX (by have:=of_decide_eq_false l; omega)]at N;refine Tot.loop (fun m st=>∃ j:Nat,st=((j:Nat):Int)/\j+m=i.length/\∀ d∈i.take j,qek d) ?_ ⟨0,rfl,by omega,fun x h=>by simp at h⟩ (by unfold M1; omega:i.length<M1)
 rintro m _ ⟨j,rfl,hm,L⟩;unfold pr;rw[oE];refine qI.cond (fun l=>?_) fun l=>.one fun _=>?_
 ·have J:j<i.length:=by have:=kod l; omega
  have g:=he _ (List.getElem_mem J);refine qI.bnd (Tot.idx (zE J) (P:=fun x=>x=i[j]) rfl) fun x M=>?_
  have r:=zK J;rw[← M]at g r;clear M;obtain⟨w,y,q,z,C⟩:=x;have s:=g;unfold Qh at s
  dsimp only at s ⊢
  have h3:=vm z;refine qI.bnd (Nr _ (by omega)) fun D _=>?_;refine qI.bnd (P:=fun _=>True) ((Tot.gs (P:=fun _=>True) fun _=>.of (fun n _ _=>rfl) trivial).imp fun _ _=>trivial) fun E _=>?_
  refine qI.bnd (Tot.gs fun _=>Ui (by omega) (by omega)) fun A I=>?_
  refine qI.cond (fun _=>.one fun h=>by cases h) fun H=>?_
  rw[zM (by omega)];generalize (bif(bif(bif(bif(!(w==([]:List UInt8)))then(!D)else false)then true else(bif(!(y==([]:List UInt8)))then(!E)else false))then true else(decide (q<(0:Int))))then true else(decide (q>(2:Int))))=c at H I;have O:c=false:=by
   cases c with
   | false=>rfl
   | true=>cases H
  subst O;have R:A=true:=by cases A with
   | true=>rfl
   | false=>cases H
  have K:qek ⟨w,y,q,z,C⟩:=qg2 g (I rfl R);refine .next ⟨m - 1,by omega,j+1,rfl,by omega,fun d a=>?_⟩;rw[r]at a;rcases jy.1 a with a|a
  ·exact L d a
  rw[jz.1 a]; exact K
 rw[mX (by have:=of_decide_eq_false l; omega)]at L;exact⟨hlen,N,L,by show f.length<=1048576; omega⟩
theorem qby {l:List zL} (e:Hw l<=1048576):Tot M1 (fun n=>gD n (xN l) (xN l)) (fun b=>b=true):=by
 unfold Hw at e;have u:=cY CY (fun p=>by unfold CY; omega) l
 have e1:∀ n,M1<=n->zH n [] []=some true:=fun n h=>by
  obtain⟨m,rfl⟩:∃ m,n=m+11:=⟨n - 11,by unfold M1 at h; omega⟩;rfl
 have e2:∀ n,M1<=n->xc n ⟨0,[],⟨0,false,0,[],[],[]⟩,[],[]⟩ ⟨0,[],⟨0,false,0,[],[],[]⟩,[],[]⟩=some true:=fun n h=>by
  obtain⟨m,rfl⟩:∃ m,n=m+11:=⟨n - 11,by unfold M1 at h; omega⟩;rfl
 have e3:∀ n,M1<=n->zR n [] []=some true:=fun n h=>by
  obtain⟨m,rfl⟩:∃ m,n=m+11:=⟨n - 11,by unfold M1 at h; omega⟩;rfl
 have d:Tot M1 (fun n=>qy (fJ n l l [] [] [] [] [] []) n (0:Int)) (fun b=>b=true):=by
  refine Tot.loop (fun m st=>∃ j:Nat,st=((j:Nat):Int)/\j+m=l.length) ?_ ⟨0,rfl,by omega⟩ (by unfold M1; omega:l.length<M1);rintro m _ ⟨j,rfl,hm⟩;unfold fJ;rw[eN];refine qI.cond (fun k=>?_) fun k=>.tot (.of (fun n h _=>?_) rfl)
  ·have f:j<l.length:=by have:=kod k; omega
   have o:=dw CY (List.getElem_mem f);refine qI.bnd (Tot.idx (zE f) (P:=fun x=>x=l[j]) rfl) fun x s=>?_
   obtain⟨v,w⟩:=x
   dsimp only
   refine qI.bnd (Tot.idx (zE f) (P:=fun x=>x=l[j]) rfl) fun x g=>?_
   obtain⟨y,z2⟩:=x
   dsimp only
   rw[s,g];refine qI.bnd (P:=fun b=>b=true) (.of (fun n a b=>?_) rfl) fun b e=>?_
   ·obtain⟨c,h1,h2⟩:=MA (n:=n) b (p:=l[j]) (q:=l[j]) (by unfold M1 at a; omega)
    rw[h1,h2.2 rfl]
   subst e;refine qI.cond (fun h=>by cases h) fun _=>?_
   rw[zM (by omega)];exact .next ⟨m - 1,by omega,j+1,rfl,by omega⟩
  obtain⟨m,rfl⟩:∃ m,n=m+11:=⟨n - 11,by unfold M1 at h; omega⟩;rfl
 obtain⟨r,t,i⟩:=d;subst t;refine .of (fun n a b=>?_) rfl;have h1:=i n a b;show gD n (xN l) (xN l)=some true;unfold xN gD
 dsimp only
 simp only[bne_self_eq_false,qV,e1 n a,e2 n a,e3 n a,fP,vn,jo,jp,kbs];exact h1
end W
end
section
open Go Ax Go.Proofs
namespace W
theorem HD {l:List zL} (g:Hw l<=1048576):Tot M1 (fun n=>cA n (xN l)) (fun b=>b=true->∀ p∈l,lK p):=by
 have i:=qby g;unfold Hw at g;have s:=cY CY (fun p=>by unfold CY; omega) l
 unfold cA
 dsimp only[xN]at i ⊢
 refine Tot.bnd (P:=fun r=>r=xN l) (.of (fun n _ _=>qdy n l) rfl) fun r a=>?_
 subst a
 dsimp only[xN]
 refine Tot.bnd i fun r a=>?_;subst a;refine Tot.cond (fun h=>by cases h) fun _=>?_
 refine Tot.loop (fun m st=>∃ j:Nat,st=((j:Nat):Int)/\j+m=l.length/\∀ p∈l.take j,lK p) ?_ ⟨0,rfl,by omega,fun x h=>by simp at h⟩ (by unfold M1; omega:l.length<M1)
 rintro m _ ⟨j,rfl,hm,c⟩;unfold mq;rw[eN];refine qI.cond (fun d=>?_) fun d=>?_
 ·have e:j<l.length:=by have:=kod d; omega
  have k:=dw CY (List.getElem_mem e);refine qI.bnd (Tot.idx (zE e) (P:=fun x=>x=l[j]) rfl) fun x o=>?_
  obtain⟨t,u⟩:=x
  dsimp only
  rw[o];refine qI.bnd (Mr (by omega)) fun b f=>qI.cond (fun _=>.one fun h=>by cases h) fun q=>?_
  rw[zM (by omega)];refine .next ⟨m - 1,by omega,j+1,rfl,by omega,fun p hp=>?_⟩;rw[zK e]at hp;rcases jy.1 hp with hp|hp
  ·exact c p hp
  rw[jz.1 hp]; exact f (by simpa using q)
 rw[mX (by have:=of_decide_eq_false d; omega)]at c;refine qI.cond (fun h=>by cases h) fun _=>qI.cond (fun h=>by cases h) fun _=>qI.cond (fun h=>by cases h) fun _=>?_
 unfold cu;refine qI.cond (fun h=>by cases h) fun _=>qI.cond (fun _=>.one fun _=>c) fun h=>by cases h
theorem Rg {l:List zL} (h:Hw l<=1048576):Tot M1 (fun n=>tZ n ⟨[xN l]⟩) (fun b=>b=true->∀ p∈l,lK p):=by
 unfold tZ
 dsimp only
 refine Tot.loop (fun m st=>(st=(0:Int)/\m=1)\/(st=(1:Int)/\m=0/\∀ p∈l,lK p)) ?_ (.inl ⟨rfl,rfl⟩) (by decide);rintro m _ (⟨rfl,rfl⟩|⟨rfl,rfl,e⟩)
 ·unfold tj
  refine qI.cond (fun _=>?_) fun h=>by cases h
  refine qI.bnd (P:=fun r=>r=xN l) (.of (fun n _ _=>rfl) rfl) fun r a=>?_
  subst a;have c:=HD h
  dsimp only[xN]at c ⊢
  refine qI.bnd c fun b f=>?_;refine qI.bnd (P:=fun r=>(!(!b))=true->r=xN l) (Tot.gs (P:=fun r=>r=xN l) fun _=>.of (fun n _ _=>rfl) rfl) fun r _=>?_
  obtain⟨w0,A,w2,⟨B,C,⟨D,E,F,G,H,g⟩,i,j⟩,k,o,q,t,u,v,w,x,y⟩:=r
  dsimp only
  refine qI.cond (fun _=>.one fun h=>by cases h) fun z=>?_
  have d:b=true:=by cases b with
   | true=>rfl
   | false=>cases z
  exact qI.next (s:=(kwr .i64 ((0:Int)+(1:Int)))) ⟨0,by omega,.inr ⟨by decide,rfl,f d⟩⟩
 unfold tj;refine qI.cond (fun h=>by cases h) fun _=>?_
 refine qI.bnd (P:=fun r=>r=xN l) (.of (fun n _ _=>rfl) rfl) fun r a=>?_
 subst a
 dsimp only[xN]
 refine qI.bnd (P:=fun r=>r=xN l) (.of (fun n _ _=>rfl) rfl) fun r a=>?_
 subst a
 dsimp only[xN]
 refine qI.bnd (P:=fun _=>True) (.of (fun n _ _=>rfl) trivial) fun r _=>.one fun _=>e
theorem Fs {s:List UInt8}:∀{l:List (List UInt8)},s∈l->s.length<=rA l
 | x::l,h=>by
  have e:rA (x::l)=1+x.length+rA l:=by simp[rA]
  rcases List.mem_cons.1 h with rfl|h
  ·omega
  have:=Fs h; omega
abbrev L1:Nat:=1099511627776
def Np (a:Given):Nat:=rA a.v.names+vo a.v.vals+Cu a.s.g+fQ a.params
theorem aW {l:List zL} (d:Hw l<=1048576):Tot L1 (fun n=>ng n ⟨[xN l]⟩) (fun _=>True):=by
 obtain⟨r,c⟩:=TT (n:=L1) (jw _) (cl:=[xN l]) (by
  have e:MS [xN l]<=Hw l+1000:=by
   simp only[MS,xN,Lr,List.map_cons,List.map_nil,List.sum_cons,List.sum_nil,pd,Qg,fQ,vo,rA,isz,List.length_nil]
   first|omega|(simp; omega)
  unfold L1; omega)
 exact⟨r,trivial,fun n a b=>by
  have:n=L1:=Nat.le_antisymm b a;subst this; exact c⟩
theorem qdp {l:List zL} {a:Given} (A:Hw l+Np a<=1048576):Tot L1 (fun n=>cy n a (xN l)) (fun b=>b=true->qcm a.s.g a.s.next.node a.s.next.edge/\PlOk ⟨a.v,a.s.g,a.params⟩/\∀ p∈l,lK p):=by
 obtain⟨⟨i,j⟩,⟨⟨e,f⟩,⟨q,t⟩⟩,pv⟩:=a;have A:Hw l+(rA i+vo j+Cu ⟨e,f⟩+fQ pv)<=1048576:=A;have B:=(Rg (l:=l) (by omega)).up (show M1<=L1 by decide);have C:=aW (l:=l) (by omega);obtain⟨u,w,x,k,m,o⟩:=pv;obtain⟨G,a2,a3,a4⟩:=qdh (nodes:=e) (edges:=f) (by omega);have M:=vm i;unfold cy
 dsimp only[xN]at B C ⊢
 refine Tot.bnd (Tot.gs fun _=>(eR (g:=⟨e,f⟩) (by omega) ⟨q,t⟩).up (show M1<=L1 by decide)) fun N h1=>?_;refine Tot.bnd (Tot.gs fun _=>(aY G a2).up (show 34359738368<=L1 by decide)) fun O h2=>?_;refine Tot.bnd (Tot.gs fun _=>(Rf (names:=i) (vals:=j) (by omega)).up (show 34359738368<=L1 by decide)) fun P h3=>?_;refine Tot.bnd (Tot.gs fun _=>(Ep (v:=⟨u,w,x,k,m,o⟩) (by omega)).up (show 34359738368<=L1 by decide)) fun Q h4=>?_;refine Tot.cond (fun _=>.one fun h=>by cases h) fun z=>?_
 have D:qcm ⟨e,f⟩ q t/\PlOk ⟨⟨i,j⟩,⟨e,f⟩,⟨u,w,x,k,m,o⟩⟩:=by
  generalize (bif decide (((Node.rows e).length:Int)>100)then true else decide (((Edge.rows f).length:Int)>100))=c at h1 h2 h3 h4 z;cases c with
  | true=>cases z
  | false=>
   cases N with
   | false=>cases z
   | true=>
    cases O with
    | false=>cases z
    | true=>
     cases P with
     | false=>cases z
     | true=>
      cases Q with
      | false=>cases z
      | true=>
       obtain⟨st,H,I⟩:=h1 rfl rfl;obtain⟨J,R⟩:=h2 rfl rfl;obtain⟨e1,e2⟩:=h3 rfl rfl;obtain⟨S,T⟩:=h4 rfl rfl;refine⟨st,⟨e1,by show i.length<=1048576; omega,e2,⟨st.gg.upN,st.gg.upE,G,a2,fun d y=>?_,fun d y=>?_⟩,S,T⟩⟩
       ·have E:=a3 d y
        have U:pW d=1+rA d.labels+rA d.keys+vo d.vals:=rfl;refine⟨E,(J d y).1,(J d y).2,(H d y).1,fun s r=>?_,fun s r=>?_,(H d y).2⟩
        ·have:=Fs r; omega
        have:=Fs r; omega
       have E:=a4 d y;have U:pg d=1+d.type_.length+rA d.keys+vo d.vals:=rfl;refine⟨E,⟨by simp,R d y,(I d y).1,fun s h=>by simp at h,fun s r=>?_,(I d y).2⟩,by omega⟩
       have:=Fs r; omega
 refine Tot.bnd C fun K _=>Tot.bnd (Tot.gs fun _=>B) fun V F=>.one fun A=>?_
 have L:(!K)=true/\V=true:=by
  cases K with
  | true=>cases A
  | false=>exact⟨rfl,by simpa using A⟩
 exact⟨D.1,D.2,F L.1 L.2⟩
end W
end
section
open Go Ax
namespace W
set_option maxRecDepth 1000000 in
theorem ow (m:Nat):bC (m+1000)=some true:=by kernel_rfl
end W
end
section
open Go Ax Go.Proofs
namespace W
theorem CX:Tot L1 (fun n=>bC n) (fun b=>b=true):=.of (fun n a _=>by
 obtain⟨m,rfl⟩:∃ m,n=m+1000:=⟨n - 1000,by unfold L1 at a; omega⟩;exact ow m) rfl
theorem Tk {g:Graph} (e:Cu g<=1048576):Tot L1 (fun n=>rE n g g) (fun b=>b=true):=.of (fun n a h2=>by
 obtain⟨nodes,edges⟩:=g;obtain⟨f,a2,a3,a4⟩:=qdh e;obtain⟨r,e1,e2⟩:=eO h2 (g:=⟨nodes,edges⟩) (h:=⟨nodes,edges⟩) (by unfold L1 at a; simp only; omega) (by unfold L1 at a; simp only; omega) (fun d c=>by have:=a3 d c; unfold L1 at a; omega) (fun d c=>by have:=a4 d c; unfold L1 at a; omega)
 obtain rfl:=e2.2 rfl;exact e1) rfl
theorem TU {l:List zL} {a:Given} (t:Hw l+Np a<=1048576):Tot L1 (fun n=>gC n l a) (fun b=>b=true):=by
 have hm:=qdp t;obtain⟨⟨f,o⟩,⟨⟨d,e⟩,⟨i,j⟩⟩,pv⟩:=a;have t:Hw l+(rA f+vo o+Cu ⟨d,e⟩+fQ pv)<=1048576:=t;have v:=Tk (g:=⟨d,e⟩) (by omega);have w:l.length<=1048576:=by
  have:=cY CY (fun p=>by unfold CY; omega) l
  unfold Hw at t;omega
 have G:=vm f;have z:(qcm ⟨d,e⟩ i j/\PlOk ⟨⟨f,o⟩,⟨d,e⟩,pv⟩/\∀ p∈l,lK p)->_:=fun h=>(Pq (g0:=⟨d,e⟩) (nn0:=i) (ne0:=j) (nodes:=d) (edges:=e) (names:=f) (vals:=o) ⟨h.1,[],[],by simp,by simp,by simp,by simp,h.2.1.len,by show f.length<=_; omega⟩ h.2.1 w h.2.2).up (show M1<=L1 by decide);obtain⟨S,T,H,I,J,K⟩:=pv;unfold gC
 dsimp only[xN]at hm ⊢
 refine Tot.bnd hm fun L A=>Tot.cond (fun _=>Tot.bnd CX fun b t=>.one t) fun B=>?_
 have u:=A (by simpa using B);have C:=u.1
 try dsimp only at C
 refine Tot.bnd (z u) fun r F=>?_;obtain⟨⟨M,N⟩,⟨⟨k,m⟩,⟨q,s⟩⟩,O⟩:=r
 dsimp only at F ⊢
 rcases F with ⟨h1,h2,h3⟩|⟨h1,Q⟩
 ·simp only[Env.mk.injEq,State.mk.injEq,Graph.mk.injEq,fZ.mk.injEq]at h2 h3
  obtain⟨rfl,rfl⟩:=h2;obtain⟨⟨rfl,rfl⟩,rfl,rfl⟩:=h3;refine Tot.cond (fun _=>?_) fun h=>absurd (by simpa using h) h1
  refine Tot.bnd (Tot.gs fun _=>CX) fun b t=>.one ?_
  have:=t rfl;subst this;rfl
 subst h1;obtain⟨st,R,E',e1,e2,D,U,V,X⟩:=Q
 dsimp only at e1 D
 refine Tot.cond (fun h=>by cases h) fun _=>?_
 refine Tot.bnd ((Ps st).up (show M1<=L1 by decide)) fun c B=>?_;subst B;have d1:decide (q<i)=false:=kdf (by omega);have d2:decide (s<j)=false:=kdf (by omega);rw[d1,d2];refine Tot.cond (fun h=>by cases h) fun _=>?_
 rw[Xe,Xe,XQ,XQ];have l1:k.length=d.length+R.length:=by rw[e1,jb]
 have l2:m.length=e.length+E'.length:=by rw[D,jb]
 have q1:((k.length:Nat):Int) - ((d.length:Nat):Int)=q - i:=by omega
 have q2:((m.length:Nat):Int) - ((e.length:Nat):Int)=s - j:=by omega
 rw[q1,q2,bne_self_eq_false,bne_self_eq_false];refine Tot.cond (fun h=>by cases h) fun _=>?_
 refine Tot.bnd (P:=fun x=>x=d.length) (.of (fun n _ _=>natI_nat _) rfl) fun y E=>?_
 subst E;refine Tot.chk (cw (by omega)) ?_;refine Tot.bnd (P:=fun x=>x=e.length) (.of (fun n _ _=>natI_nat _) rfl) fun y E=>?_
 subst E;refine Tot.chk (cw (by omega)) ?_;have t1:k.take d.length=d:=by rw[e1]; exact List.take_left' rfl
 have t2:m.take e.length=e:=by rw[D]; exact List.take_left' rfl
 rw[t1,t2];refine Tot.bnd v fun b t=>?_;subst t;refine Tot.bnd (Tot.gs fun _=>CX) fun b t=>.one ?_
 have:=t rfl;subst this;rfl
end W
end
