/- A part of the proof: the plain law. -/
import Derived.Test.YtlnipohgljbfiaaGreatRows
import Derived.Test.YtlnipohgljbfiaaGreatShelf
import Derived.Deep.DeepHandedRow
import Derived.ChangeMaps5
import Derived.LaidLaws
import Derived.OpenShut
import Derived.Test.YtlnipohgljbfiaaGreatC
import Derived.Test.YtlnipohgljbfiaaGreatN
import Derived.Test.YtlnipohgljbfiaaGreatP
set_option linter.unusedVariables false
set_option linter.unusedSimpArgs false
set_option linter.unnecessarySimpa false
set_option linter.deprecated false
set_option linter.unusedSectionVars false
set_option linter.constructorNameAsVariable false
open Go.IntKind renaming wrap->kwr,bits->kbt
open List renaming length_cons->ja,length_append->jb,length_nil->jc,getElem?_eq_getElem->jf,mem_cons->jg,map_cons->jl,length_map->jm,drop_eq_getElem_cons->jo,length_take->ju,all_cons->jw,sum_cons->jB,map_nil->jO,map_map->jX,map_append->ka
open Bool renaming and_eq_true->jj,not_false->jp,not_true->jq
open Option renaming getD_some->jW
section
open Go Ax
namespace W
theorem Ts {n:Nat} (c:n<=137438953472) {d:qy} (h:42+bW d<n) {es:List qy} {k:Nat} (i:es[k]? =some d) (m:k<137438953472) (j:Int->Option Bool) :
  ∃ b,vr n d=some b/\gR n es j (k:Int)=(bif b then j ((k+1:Nat):Int)else some false)/\(b=true->d.keys.length=d.vals.length/\∀ x∈d.vals,WfE x):=by
 obtain⟨var,a,dir,keys,vals⟩:=d;unfold bW at h;simp only at h ⊢;have o:=xi keys;obtain⟨b,h1,h2,h3⟩:=an c (keys:=keys) (vals:=vals) (by omega) (by omega);have e:=gY (s:=var) (n:=n) (by omega) c;have f:=fl (s:=var) (n:=n) (by omega) (by omega) c;have g:=qL i;have e0:decide (dir≥0)=!decide (dir<0):=by rw[Bool.eq_iff_iff]; simp
 have e2:decide (dir<=2)=!decide (dir>2):=by rw[Bool.eq_iff_iff]; simp
 simp only[vr,gR,uL,qx g,kct,qf i,qc,zD,zU,e,f,h1,h2,e0,e2];rw[qU (by omega)];refine⟨((bif var==[]then true else xl var)&&(bif a==[]then true else Xp a)&&!decide (dir<0)&&!decide (dir>2))&&b,?_,?_,?_⟩
 ·cases var==[]<;>cases xl var<;>cases a==[]<;>cases Xp a<;>cases decide (dir<0)<;>cases decide (dir>2)<;>rfl
 ·cases var==[]<;>cases xl var<;>cases a==[]<;>cases Xp a<;>cases decide (dir<0)<;>cases decide (dir>2)<;>cases b<;>rfl
 intro l;simp only[jj]at l;exact h3 l.2
theorem qgp {n:Nat} (u:n<=137438953472) {nodes:List qt} {edges:List qy} (hlen:nodes.length=edges.length+1) (nb:qt->Bool) (o:qy->Bool)
  (h1:∀ d∈nodes,vO n d=some (nb d)) (h2:∀ d∈edges,vr n d=some (o d)) (v:nodes.length<137438953472) :
  ∀ m k:Nat,k<=nodes.length->nodes.length - k<m->qo (vn n nodes edges) m (k:Int)=some ((nodes.drop k).all nb&&(edges.drop (k - 1)).all o):=by
 intro m
 induction m with
 | zero=>intro k _ h; omega
 | succ m ih=>
  intro k w hm;rw[qO];by_cases he:k=nodes.length
  ·subst he
   simp only[vn,zJ,qm,kcf];rw[List.drop_length,hlen,Nat.add_sub_cancel,List.drop_length];rfl
  have j:k<nodes.length:=by omega
  have p:=jf j;have ih2:=ih (k+1) (by omega) (by omega);rw[jo j];generalize nodes[k]=d at p;have q:=h1 d (qw p);obtain⟨d1,d2,d3,d4⟩:=d;simp only[vn,zJ,qx j,kct,qf p,qc,q,jw];rw[qU (by omega)];cases nb ⟨d1,d2,d3,d4⟩with
  | false=>rfl
  | true=>
   cases k with
   | zero=>
    refine Eq.trans (b:=qo (vn n nodes edges) m ((0+1:Nat):Int)) rfl ?_;rw[ih2];simp
   | succ k=>
    have l:k<edges.length:=by omega
    have r:=jf l;rw[Nat.add_sub_cancel,jo l];generalize edges[k]=e at r;have s:=h2 e (qw r);obtain⟨a,c,f,g,i⟩:=e;have t:decide ((((k+1:Nat):Int))>0)=true:=kdt (by omega);simp only[t,jq,jp,Bool.and_true,zg,qh2 (show k+1<=1152921504606846976 by omega),qf r,qc,s,kct,kcf,jw];cases o ⟨a,c,f,g,i⟩with
    | false=>simp
    | true=>
     refine Eq.trans (b:=qo (vn n nodes edges) m ((k+1+1:Nat):Int)) rfl ?_;rw[ih2];simp
theorem TR {n:Nat} (i:n<=137438953472) {p:zx} (h:42+dA p<n):∃ b,cu n p=some b/\pk n p=some b/\(b=true->WfP p):=by
 obtain⟨nodes,edges⟩:=p;have q:∀ d∈nodes,42+fK d<n:=fun d hm=>by have:=zd fK hm; unfold dA at h; simp only at h; omega
 have t:∀ d∈edges,42+bW d<n:=fun d hm=>by have:=zd bW hm; unfold dA at h; simp only at h; omega
 have v:=zc fK VH nodes;have w:=zc bW Nh edges;unfold dA at h;simp only at h;simp only[cu,pk,zJ,uL];rw[qU (by omega)];by_cases hlen:nodes.length=edges.length+1
 ·have:(((nodes.length:Nat):Int) != ((edges.length+1:Nat):Int))=false:=by rw[hlen]; simp
  rw[this,kcf,kcf];have a1:∀ d∈nodes,vO n d=some ((vO n d).getD false):=fun d hm=>by
   obtain⟨b,j,_⟩:=LM i (q d hm) (fun _=>none) 0
   rw[j]; rfl
  have a2:∀ d∈edges,vr n d=some ((vr n d).getD false):=fun d hm=>by
   obtain⟨b,j,_⟩:=Ts i (t d hm) (es:=[d]) (k:=0) rfl (by omega) (fun _=>none)
   rw[j]; rfl
  have e1:=qgp i hlen _ _ a1 a2 (by omega) n 0 (by omega) (by omega);have fold:∀ {A:Type} (g:A->Bool) (l:List A) (r:Bool),orE (vu (fun s=>if g s then none else some false) l) (some r)=some (l.all g&&r):=by
   intro A g l r
   induction l with
   | nil=>rfl
   | cons a l ih=>
    simp only[vu,jw];cases g a with
    | true=>simpa using ih
    | false=>rfl
  have e2:=zY (B:=gR n edges) (fun k=>((k:Nat):Int)) (l:=edges) (fun d=>if(vr n d).getD false then none else some false) (rest:=some true)
   (fun k x o m=>by
    have u:=qL m;obtain⟨b,c,f,_⟩:=Ts i (t x (qw m)) m (by omega) o;rw[f,c];cases b<;>rfl)
   (fun o=>by simp only[gR,uL,qm,kcf]) (n:=n) (by omega)
  rw[fold]at e2;have e3:=zY (B:=cg n nodes edges) (fun k=>((k:Nat):Int)) (l:=nodes) (fun d=>if(vO n d).getD false then none else some false) (rest:=some (edges.all (fun d=>(vr n d).getD false)&&true))
   (fun k x o m=>by
    have u:=qL m;obtain⟨b,c,f,_⟩:=LM i (q x (qw m)) o (k:Int);rw[qU (by omega)]at f;obtain⟨x1,x2,y,z⟩:=x;simp only[cg,zJ,qx u,kct,qf m,qc];rw[f,c];cases b<;>rfl)
   (fun o=>by
    simp only[cg,zJ,qm,kcf];exact e2) (n:=n) (by omega)
  rw[fold]at e3;refine⟨_,e1,e3.trans ?_,?_⟩
  ·simp
  intro j;simp only[List.drop_zero,Nat.zero_sub,jj,List.all_eq_true]at j;refine⟨hlen,fun d hm=>?_,fun d hm=>?_,fun d hm=>?_⟩
  ·obtain⟨b,c,_,e⟩:=LM i (q d hm) (fun _=>none) 0
   have:=j.1 d hm;rw[c]at this;exact(e this).2
  ·obtain⟨b,c,_,e⟩:=Ts i (t d hm) (es:=[d]) (k:=0) rfl (by omega) (fun _=>none)
   have:=j.2 d hm;rw[c]at this;exact(e this).2
  obtain⟨b,c,_,e⟩:=LM i (q d hm) (fun _=>none) 0
  have:=j.1 d hm;rw[c]at this;exact(e this).1
 have:(((nodes.length:Nat):Int) != ((edges.length+1:Nat):Int))=true:=Qk.2 hlen;rw[this];exact⟨false,rfl,rfl,fun h=>by cases h⟩
end W
end
section
open Go Ax
namespace W
theorem qi0 {n:Nat} (m:n<=137438953472) {x:qe} (l:dC x<n):∃ b,cT n x=some b/\ZF n x=some b/\(b=true->(dB x).1=0):=by
 obtain⟨op,name,⟨a1,a2,a3,a4,a5,f⟩,names,args⟩:=x;have j:tm ⟨a1,a2,a3,a4,a5,f⟩<n:=by simp only[dC]at l; omega
 obtain⟨s1,c,g⟩:=(Fy n (by omega)).1 ⟨a1,a2,a3,a4,a5,f⟩ De j;obtain⟨s2,d,i⟩:=(DC n (by omega)).1 ⟨a1,a2,a3,a4,a5,f⟩ De j;have e:s2=s1:=by
  rw[Bool.eq_iff_iff,i,g]
 subst e;unfold De at c d;simp only[cT,ZF,c,d];have key:(bnd (qD (bif op==0 then name==[]else false) (some s2)) fun a=>some (bif(bif(bif(bif op==0 then name==[]else false)then a else false)then((((qi names).length:Nat):Int)==0)else false)then((((qe.rows args).length:Nat):Int)==0)else false))=some ((op==0)&&(name==[])&&s2&&((((qi names).length:Nat):Int)==0)&&((((qe.rows args).length:Nat):Int)==0)):=by
  generalize ((((qi names).length:Nat):Int)==0)=L1;generalize ((((qe.rows args).length:Nat):Int)==0)=L2;cases op==0<;>cases name==[]<;>cases s2<;>cases L1<;>cases L2<;>rfl
 refine⟨_,key,key,?_⟩;intro h;cases k:(op==0)with
 | true=>exact beq_iff_eq.1 k
 | false=>rw[k]at h; cases h
theorem qb3 {n:Nat} {name:List UInt8} {val:Val} {names:List (List UInt8)} {args:List qe} {d:Int}:zT n ⟨0,name,val,names,args⟩ d≠some true:=by
 obtain⟨a1,a2,a3,a4,a5,a⟩:=val;intro h;cases n with
 | zero=>cases h
 | succ n=>
  simp only[zT,rS]at h;rw[show zu n ⟨0,name,⟨a1,a2,a3,a4,a5,a⟩,names,args⟩=some (0,false)from rfl]at h;cases h
theorem Nb {n:Nat} (i:n<=137438953472) {s:qj} (h:42+s.var_.length+s.key.length+s.label.length+dC s.e<n) (f:Bool) :
  ∃ b,gN n ⟨s,f⟩=some b/\sT n s f=some b/\(b=true->(f=true/\s.key≠[]->WfE s.e/\(dB s.e).1≠0)/\(¬ (f=true/\s.key≠[])->(dB s.e).1=0)):=by
 obtain⟨var,key,label,e⟩:=s;simp only at h ⊢;obtain⟨b,p,q,t⟩:=qi0 i (x:=e) (by omega);obtain⟨r,u,v,w⟩:=Fm i (x:=e) (by omega);have r4:r=true->(dB e).1≠0:=by
  intro y z;obtain⟨op,name,val,names,args⟩:=e;have:op=0:=z;subst this y;exact qb3 u
 have j:=gY (s:=var) (n:=n) (by omega) i;have k:=fl (s:=var) (n:=n) (by omega) (by omega) i;obtain⟨op,name,⟨a1,a2,a3,a4,a5,A⟩,names,args⟩:=e;simp only[gN,sT,j,k,qc,zU];cases xl var with
 | false=>exact⟨false,rfl,rfl,fun h=>by cases h⟩
 | true=>
  simp only[jq,kcf];cases key with
  | nil=>
   have hw:decide (kwr .i64 (((([]:List UInt8).length:Nat):Int)+((label.length:Nat):Int))>64)=decide (((label.length:Nat):Int)>64):=by
    rw[jc,UW (by omega) (by omega)];simp
   rw[hw];have m:Xp label=(!(label==[])&&!decide (((label.length:Nat):Int)>64)):=by
    unfold Xp;have:decide (((label.length:Nat):Int)<=64)=!decide (((label.length:Nat):Int)>64):=by rw[Bool.eq_iff_iff]; simp
    rw[this];cases label==[]<;>rfl
   rw[m,p,q];refine⟨(!(label==[])&&!decide (((label.length:Nat):Int)>64))&&b,?_,?_,?_⟩
   ·cases label==[]<;>cases decide (((label.length:Nat):Int)>64)<;>cases f<;>rfl
   ·cases label==[]<;>cases decide (((label.length:Nat):Int)>64)<;>rfl
   intro d;simp only[jj]at d;exact⟨fun h=>absurd rfl h.2,fun _=>t d.2⟩
  | cons c key=>
   have o:((c::key)==([]:List UInt8))=false:=rfl;rw[o];cases label with
   | cons a l=>
    have:((a::l)==([]:List UInt8))=false:=rfl;rw[this];refine⟨false,rfl,?_,fun h=>by cases h⟩
    rfl
   | nil=>
    have hw:decide (kwr .i64 ((((c::key).length:Nat):Int)+((([]:List UInt8).length:Nat):Int))>64)=decide ((((c::key).length:Nat):Int)>64):=by
     rw[jc,UW (by omega) (by omega)];simp
    rw[hw];have m:Xp (c::key)=!decide ((((c::key).length:Nat):Int)>64):=by
     unfold Xp;have:decide ((((c::key).length:Nat):Int)<=64)=!decide ((((c::key).length:Nat):Int)>64):=by rw[Bool.eq_iff_iff]; simp
     rw[this];rfl
    rw[m,p,q,u,v];generalize decide ((((c::key).length:Nat):Int)>64)=g;refine⟨!g&&(bif f then r else b),?_,?_,?_⟩
    ·cases g<;>cases f<;>rfl
    ·cases g<;>cases f<;>rfl
    intro d;simp only[jj]at d;cases f with
    | true=>exact⟨fun _=>⟨w d.2,r4 d.2⟩,fun h=>absurd ⟨rfl,by simp⟩ h⟩
    | false=>exact⟨fun h=>(by cases h.1),fun _=>t d.2⟩
end W
end
section
open Go Ax
namespace W
theorem qdo {x1 c:Int} {x2 d:List UInt8} {v w:Val} {k f:List (List UInt8)} {g h:List qe} {S N L:Option Bool} {s a b:Bool} (l:S=some s) (m:s=true↔v=w) (n:N=some a) (o:a=true↔k=f) (p:L=some b) (q:b=true↔g=h) :
  ∃ r,(bnd (qD (bif(x1==c)then(x2==d)else false) S) fun e=>
   bnd (qD (bif(bif(x1==c)then(x2==d)else false)then e else false) N) fun i=>
   bnd (qD (bif(bif(bif(x1==c)then(x2==d)else false)then e else false)then i else false) L) fun j=>
   some (bif(bif(bif(bif(x1==c)then(x2==d)else false)then e else false)then i else false)then j else false))=some r /\
  (r=true↔qe.mk x1 x2 v k g=qe.mk c d w f h):=by
 subst n p l;have e1:(x1==c)=true↔x1=c:=beq_iff_eq;have e2:(x2==d)=true↔x2=d:=beq_iff_eq;rw[qe.mk.injEq,← e1,← e2,← m,← q,← o];cases(x1==c)<;>cases(x2==d)<;>cases s<;>cases a<;>cases b<;>exact⟨_,rfl,by simp⟩
theorem ZA:∀ n:Nat,n<=137438953472->(∀ v w,dC v<n->∃ b,vp n v w=some b/\(b=true↔v=w))/\(∀ l l',uF l<n->∃ b,xm n l l'=some b/\(b=true↔l=l')):=by
 intro n
 induction n with
 | zero=>intro _; exact⟨fun _ _ h=>by omega,fun _ _ h=>by omega⟩
 | succ n ih=>
  intro X;obtain⟨I,J⟩:=ih (by omega);refine⟨fun v w S=>?_,fun l l' Y=>?_⟩
  ·obtain⟨C,D,⟨d,f,g,i,j,m⟩,o,c⟩:=v
   obtain⟨E,F,⟨q,t,u,x,z,A⟩,B,p⟩:=w;have H:uF c<n/\o.length<n/\tm ⟨d,f,g,i,j,m⟩<n:=by
    have:=xi o;simp only[dC]at S;have Z:=xY c;omega
   obtain⟨s,K,L⟩:=(DC n (by omega)).1 ⟨d,f,g,i,j,m⟩ ⟨q,t,u,x,z,A⟩ H.2.2;obtain⟨a,M,N⟩:=xt (y:=B) H.2.1 (by omega);obtain⟨b,O,P⟩:=J c p H.1;simp only[vp,tp];exact qdo K L M N O P
  have hlen:=xY l;simp only[xm,sh];by_cases G:l.length=l'.length
  ·have:((((qe.rows l).length:Nat):Int) != (((qe.rows l').length:Nat):Int))=false:=by simp[G]
   rw[this,kcf];refine Cz G (fun k a b T Q H=>?_) (fun T=>by simp only[cz,qu,qm,kcf]) (by omega)
   have U:=qL Q;obtain⟨r,V,R⟩:=I a b (by have:=gH (qw Q); omega);refine⟨r,R,?_⟩;obtain⟨C,D,⟨d,f,g,i,j,m⟩,o,c⟩:=a;obtain⟨E,F,⟨q,t,u,x,z,A⟩,B,p⟩:=b;simp only[cz,qu,qx U,kct,qf Q,qf H,qc,V];rw[qU (by omega)];cases r<;>rfl
  ·have:((((qe.rows l).length:Nat):Int) != (((qe.rows l').length:Nat):Int))=true:=by rw[qu,qu]; exact Qk.2 G
   rw[this];exact⟨false,rfl,by simp; intro e; exact G (congrArg _ e)⟩
theorem qi7 {n:Nat} (d:n<=137438953472) {l:List qe} (h:40+uF l<n) (lim:Int) :
  nC n l lim=some (l.all (fun x=>(zT n x 32).getD false)&&decide (((l.length:Nat):Int)<=lim)):=by
 have hlen:=xY l;have fold:∀ {A:Type} (g:A->Bool) (l:List A) (r:Bool),orE (vu (fun s=>if g s then none else some false) l) (some r)=some (l.all g&&r):=by
  intro A g l r
  induction l with
  | nil=>rfl
  | cons a l ih=>
   simp only[vu,jw];cases g a with
   | true=>simpa using ih
   | false=>rfl
 have e:=zY (B:=mB n l lim) (fun k=>((k:Nat):Int)) (l:=l) (fun x=>if(zT n x 32).getD false then none else some false) (rest:=some (decide (((l.length:Nat):Int)<=lim)))
  (fun k x f c=>by
   have i:=qL c;obtain⟨b,h1,h2,_⟩:=Fm d (x:=x) (by have:=gH (qw c); omega);rw[h1];obtain⟨x1,x2,⟨m,o,p,q,t,u⟩,v,j⟩:=x;simp only[mB,qu,qx i,kct,qf c,qc,h2];rw[qU (by omega)];cases b<;>rfl)
  (fun f=>by simp only[mB,qu,qm,kcf]) (n:=n) (by omega)
 rw[fold]at e;exact e
end W
end
section
open Go Ax
namespace W
theorem Ni {A:Type} {B:(Int->Option Bool)->Int->Option Bool} {l l':List A} {e:Bool} (hlen:l.length=l'.length)
  (step:∀ (k:Nat) x y c,l[k]? =some x->l'[k]? =some y->∃ b,(b=true↔x=y)/\B c (k:Int)=bif b then c ((k+1:Nat):Int)else some false)
  (a:∀ c,B c (l.length:Int)=some e) {n:Nat} (g:l.length<n):∃ b,qo B n 0=some b/\(b=true↔l=l'/\e=true):=by
 have main:∀ m k:Nat,k<=l.length->l.length - k<m->∃ b,qo B m (k:Int)=some b/\(b=true↔l.drop k=l'.drop k/\e=true):=by
  intro m
  induction m with
  | zero=>intro k _ h; omega
  | succ m ih=>
   intro k i hm;rw[qO];by_cases he:k=l.length
   ·subst he
    exact⟨e,a _,by rw[List.drop_length,hlen,List.drop_length]; simp⟩
   have h1:k<l.length:=by omega
   have h2:k<l'.length:=by omega
   obtain⟨b,d,f⟩:=step k _ _ (qo B m) (jf h1) (jf h2);rw[f,jo h1,jo h2,List.cons.injEq,← d];cases b with
   | false=>exact⟨false,rfl,by simp⟩
   | true=>
    obtain⟨b,h3,h4⟩:=ih (k+1) (by omega) (by omega);exact⟨b,h3,by simpa using h4⟩
 obtain⟨b,h1,h2⟩:=main n 0 (by omega) (by omega);exact⟨b,h1,by simpa using h2⟩
theorem qaa {n:Nat} (o:n<=137438953472) {p q:zx} (h:dA p<n):∃ b,rU n p q=some b/\(b=true↔p=q):=by
 obtain⟨c,d⟩:=p;obtain⟨f,g⟩:=q;have K:=zc fK VH c;have L:=zc bW Nh d;unfold dA at h;simp only at h;simp only[rU,zJ,uL,zx.mk.injEq];by_cases h1:c.length=f.length
 ·by_cases h2:d.length=g.length
  ·have e1:(((c.length:Nat):Int) != ((f.length:Nat):Int))=false:=by rw[h1]; simp
   have e2:(((d.length:Nat):Int) != ((g.length:Nat):Int))=false:=by rw[h2]; simp
   rw[e1,e2];obtain⟨e,t,u⟩:=Cz (B:=fz n d g) h2 (fun k a b v j w=>by
    have z:=qL j;have hm:=zd bW (qw j);obtain⟨a1,a2,a3,a4,a5⟩:=a;obtain⟨i,l,m,A,M⟩:=b;have C:bW ⟨a1,a2,a3,a4,a5⟩=1+a1.length+a2.length+sS a4+uF a5:=rfl;rw[C]at hm;have D:=xi a4;obtain⟨r,E,F⟩:=xt (n:=n) (x:=a4) (y:=A) (by omega) o;obtain⟨s,G,H⟩:=(ZA n o).2 a5 M (by omega);simp only[fz,uL,qx z,kct,qf j,qf w,qc,E,G];rw[qU (by omega)];have e1:(a1==i)=true↔a1=i:=beq_iff_eq;have e2:(a2==l)=true↔a2=l:=beq_iff_eq;have e3:(a3==m)=true↔a3=m:=beq_iff_eq;rw[qy.mk.injEq,← e1,← e2,← e3,← F,← H,bne];refine⟨(a1==i)&&(a2==l)&&(a3==m)&&r&&s,by simp[and_assoc],?_⟩;cases a1==i<;>cases a2==l<;>cases a3==m<;>cases r<;>cases s<;>rfl) (fun v=>by simp only[fz,uL,qm,kcf]) (n:=n) (by omega)
   rw[← u];refine Ni h1 (fun k a b v j w=>?_) (fun v=>?_) (by omega)
   ·have z:=qL j
    have hm:=zd fK (qw j);obtain⟨a1,a2,a3,a4⟩:=a;obtain⟨i,l,m,A⟩:=b;have C:fK ⟨a1,a2,a3,a4⟩=1+a1.length+sS a2+sS a3+uF a4:=rfl;rw[C]at hm;have D:=xi a2;have I:=xi a3;obtain⟨r,E,F⟩:=xt (n:=n) (x:=a2) (y:=l) (by omega) o;obtain⟨s,G,H⟩:=xt (n:=n) (x:=a3) (y:=m) (by omega) o;obtain⟨J,N,O⟩:=(ZA n o).2 a4 A (by omega);simp only[dH,zJ,qx z,kct,qf j,qf w,qc,E,G,N];rw[qU (by omega)];have e1:(a1==i)=true↔a1=i:=beq_iff_eq;rw[qt.mk.injEq,← e1,← F,← H,← O];refine⟨(a1==i)&&r&&s&&J,by simp[and_assoc],?_⟩;cases a1==i<;>cases r<;>cases s<;>cases J<;>rfl
   ·simp only[dH,zJ,qm,kcf]
    exact t
  have e2:(((d.length:Nat):Int) != ((g.length:Nat):Int))=true:=Qk.2 h2;rw[e2];refine⟨false,?_,?_⟩
  ·cases(((c.length:Nat):Int) != ((f.length:Nat):Int))<;>rfl
  constructor
  ·intro h; cases h
  intro h; exact absurd (congrArg _ h.2) h2
 have e1:(((c.length:Nat):Int) != ((f.length:Nat):Int))=true:=Qk.2 h1;rw[e1];refine⟨false,rfl,?_⟩
 constructor
 ·intro h; cases h
 intro h; exact absurd (congrArg _ h.1) h1
end W
end
section
open Go Ax
namespace W
theorem qke {n:Nat} (x:n<=137438953472) {l l':List qj} (y:l.length<n) (hlen:l.length=l'.length) (z:∀ s∈l,dC s.e<n):∃ b,qo (vT n l l') n (0:Int)=some b/\(b=true↔l=l'):=by
 refine Cz hlen (fun k a b A p w=>?_) (fun A=>by simp only[vT,qj.rows,jm,qm,kcf]) y
 have B:=qL p;have hm:=z a (qw p);obtain⟨a1,a2,a3,⟨x1,x2,⟨F,G,H,I,J,K⟩,L,C⟩⟩:=a;obtain⟨h,i,o,⟨c,f,⟨g,j,m,q,t,u⟩,v,d⟩⟩:=b;obtain⟨r,D,E⟩:=(ZA n x).1 _ ⟨c,f,⟨g,j,m,q,t,u⟩,v,d⟩ hm;simp only[vT,qj.rows,jm,qx B,kct,qf p,qf w,qc,D];rw[qU (by omega)];have e1:(a1==h)=true↔a1=h:=beq_iff_eq;have e2:(a2==i)=true↔a2=i:=beq_iff_eq;have e3:(a3==o)=true↔a3=o:=beq_iff_eq;rw[qj.mk.injEq,← e1,← e2,← e3,← E];refine⟨(a1==h)&&(a2==i)&&(a3==o)&&r,by simp[and_assoc],?_⟩;cases a1==h<;>cases a2==i<;>cases a3==o<;>cases r<;>rfl
theorem qhf {n:Nat} (w:n<=137438953472) {l l':List qS} {s p:List qj} (x:l.length<n) (hlen:l.length=l'.length) (y:∀ s∈l,dC s.e<n) {e:Bool} (he:qo (vT n s p) n (0:Int)=some e) :
  ∃ b,qo (vS n l l' s p) n (0:Int)=some b/\(b=true↔l=l'/\e=true):=by
 refine Ni hlen (fun k a b z i o=>?_) (fun z=>by simp only[vS,qS.rows,jm,qm,kcf,he]) x
 have A:=qL i;have hm:=y a (qw i);obtain⟨⟨x1,x2,⟨E,F,G,H,I,J⟩,K,B⟩,a1⟩:=a;obtain⟨⟨c,f,⟨g,j,m,q,t,u⟩,v,d⟩,h⟩:=b;obtain⟨r,C,D⟩:=(ZA n w).1 _ ⟨c,f,⟨g,j,m,q,t,u⟩,v,d⟩ hm;simp only[vS,qS.rows,jm,qx A,kct,qf i,qf o,qc];rw[qU (by omega)];have e1:(a1==h)=true↔a1=h:=beq_iff_eq;rw[qS.mk.injEq,← e1,← D];refine⟨(a1==h)&&r,by simp[and_comm],?_⟩;cases a1==h with
 | false=>rfl
 | true=>
  simp only[jq,jp,zg,qc,C];cases r<;>rfl
theorem qhe {n:Nat} (x:n<=137438953472) {l l':List xM} {o o':List qS} {s w:List qj} (y:l.length<n) (hlen:l.length=l'.length) (z:∀ s∈l,dC s.e<n) {e:Bool} (he:qo (vS n o o' s w) n (0:Int)=some e) :
  ∃ b,qo (vR n l l' o o' s w) n (0:Int)=some b/\(b=true↔l=l'/\e=true):=by
 refine Ni hlen (fun k a b A i p=>?_) (fun A=>by simp only[vR,xM.rows,jm,qm,kcf,he]) y
 have B:=qL i;have hm:=z a (qw i);obtain⟨⟨x1,x2,⟨F,G,H,I,J,K⟩,L,C⟩,a1⟩:=a;obtain⟨⟨c,f,⟨g,j,m,q,t,u⟩,v,d⟩,h⟩:=b;obtain⟨r,D,E⟩:=(ZA n x).1 _ ⟨c,f,⟨g,j,m,q,t,u⟩,v,d⟩ hm;simp only[vR,xM.rows,jm,qx B,kct,qf i,qf p,qc];rw[qU (by omega)];have e1:(a1==h)=true↔a1=h:=beq_iff_eq;rw[xM.mk.injEq,← e1,← E];refine⟨(a1==h)&&r,by simp[and_comm],?_⟩;cases a1==h with
 | false=>rfl
 | true=>
  simp only[jq,jp,zg,qc,D];cases r<;>rfl
theorem qhg {n:Nat} (h:n<=137438953472) {l l':List zx} {i f:List xM} {o o':List qS} {s g:List qj} (j:l.length<n) (hlen:l.length=l'.length) (m:∀ p∈l,dA p<n) {e:Bool} (he:qo (vR n i f o o' s g) n (0:Int)=some e) :
  ∃ b,qo (uV n l l' i f o o' s g) n (0:Int)=some b/\(b=true↔l=l'/\e=true):=by
 refine Ni hlen (fun k a b t c d=>?_) (fun t=>by simp only[uV,zL,qm,kcf,he]) j
 have u:=qL c;have hm:=m a (qw c);obtain⟨r,v,w⟩:=qaa h (q:=b) hm;obtain⟨x1,x2⟩:=a;obtain⟨y1,y2⟩:=b;simp only[uV,zL,qx u,kct,qf c,qf d,qc,v];rw[qU (by omega)];refine⟨r,w,?_⟩;cases r<;>rfl
end W
end
section
open Go Ax
namespace W
theorem qnn {A P V I D O T U s1 s2 c e h:Bool} {L:Option Bool} :
 (bnd (qD (!(bif A then true else P)) (some s1)) fun a=>
 bnd (qD (!(bif(bif A then true else P)then true else(!a))) (some s2)) fun b=>
 bnd (qD (!(bif(bif(bif(bif(bif(bif(bif A then true else P)then true else(!a))then true else(!b))then true else V)then true else I)then true else D)then true else O)) (some c)) fun d=>
 bnd (qD (!(bif(bif(bif(bif(bif(bif(bif(bif A then true else P)then true else(!a))then true else(!b))then true else V)then true else I)then true else D)then true else O)then true else(!d))) (some e)) fun f=>
 bnd (qD (!(bif(bif(bif(bif(bif(bif(bif(bif(bif(bif A then true else P)then true else(!a))then true else(!b))then true else V)then true else I)then true else D)then true else O)then true else(!d))then true else(!f))then true else T)) (some h)) fun g=>
 bif(bif(bif(bif(bif(bif(bif(bif(bif(bif(bif(bif(bif A then true else P)then true else(!a))then true else(!b))then true else V)then true else I)then true else D)then true else O)then true else(!d))then true else(!f))then true else T)then true else(!g))then true else U)then(
 some false)
 else(
 L))=bif A||P||!s1||!s2||V||I||D||O||!c||!e||T||!h||U then some false else L:=by
 cases A; rotate_left; · rfl
 cases P; rotate_left; · rfl
 cases s1; · rfl
 cases s2; · rfl
 cases V; rotate_left; · rfl
 cases I; rotate_left; · rfl
 cases D; rotate_left; · rfl
 cases O; rotate_left; · rfl
 cases c; · rfl
 cases e; · rfl
 cases T; rotate_left; · rfl
 cases h; · rfl
 cases U; rotate_left; · rfl
 rfl
theorem TX {n:Nat} (r:n<=137438953472) {c c':qd} (h1:∀ p∈c.paths,dA p<n) (A:c.paths.length<n) (h2:uF c.where_<n) (h3:dC c.e<n) (h4:∀ i∈c.items,dC i.e<n) (D:c.items.length<n)
  (h5:∀ i∈c.order,dC i.e<n) (I:c.order.length<n) (h6:uF c.skip<n) (h7:uF c.limit<n) (h8:∀ i∈c.sets,dC i.e<n) (L:c.sets.length<n) (h9:c.vars.length<n):∃ b,gS n c c'=some b/\(b=true↔c=c'):=by
 obtain⟨m,v,B,⟨x4,x5,⟨x6,x7,x8,x9,x10,x11⟩,x12,x13⟩,d,q,f,s,t,u,w,z,g⟩:=c;obtain⟨o,N,S,⟨W,X,⟨Y,Z,y8,y9,C,E⟩,F,G⟩,j,H,k,J,K,M,Q,R,l⟩:=c';simp only at h1 A h2 h3 h4 D h5 I h6 h7 h8 L h9;obtain⟨s1,p1,q1⟩:=(ZA n r).2 B S h2;obtain⟨s2,p2,q2⟩:=(ZA n r).1 _ ⟨W,X,⟨Y,Z,y8,y9,C,E⟩,F,G⟩ h3;obtain⟨s3,p3,q3⟩:=(ZA n r).2 t K h6;obtain⟨s4,p4,q4⟩:=(ZA n r).2 u M h7;obtain⟨s5,p5,q5⟩:=xt (n:=n) (x:=z) (y:=R) h9 r;simp only[gS,p1,p2,p3,p4,p5];rw[qnn];have eA:(m != o)=false↔m=o:=by simp
 have eV:(!(d==j))=false↔d=j:=by simp
 have eD:(!(f==k))=false↔f=k:=by simp
 have eU:(!(g==l))=false↔g=l:=by simp
 have ln:∀ {a b:Nat},(((a:Nat):Int) != ((b:Nat):Int))=false↔a=b:=by
  intro a b; simp[Int.natCast_inj]
 simp only[zL,xM.rows,qS.rows,qj.rows,jm];cases O:((m != o)||(((v.length:Nat):Int) != ((N.length:Nat):Int))||!s1||!s2||(!(d==j))||(((q.length:Nat):Int) != ((H.length:Nat):Int))||(!(f==k))||(((s.length:Nat):Int) != ((J.length:Nat):Int))||!s3||!s4||(((w.length:Nat):Int) != ((Q.length:Nat):Int))||!s5||(!(g==l)))with
 | true=>
  refine⟨false,rfl,?_⟩
  constructor
  ·intro h; cases h
  intro h;rw[qd.mk.injEq]at h;obtain⟨a1,a2,a3,a4,a5,a6,a7,a8,a9,P,T,U,V⟩:=h;rw[q1.2 a3,q2.2 a4,q3.2 a9,q4.2 P,q5.2 U,eA.2 a1,eV.2 a5,eD.2 a7,eU.2 V,ln.2 (congrArg _ a2),ln.2 (congrArg _ a6),ln.2 (congrArg _ a8),ln.2 (congrArg _ T)]at O;cases O
 | false=>
  simp only[Bool.or_eq_false_iff,Bool.not_eq_false']at O;obtain⟨⟨⟨⟨⟨⟨⟨⟨⟨⟨⟨⟨g1,g2⟩,g3⟩,g4⟩,g5⟩,g6⟩,g7⟩,g8⟩,g9⟩,g10⟩,g11⟩,g12⟩,g13⟩:=O;obtain⟨b1,m1,w1⟩:=qke r L (ln.1 g11) h8;obtain⟨b2,m2,w2⟩:=qhf r I (ln.1 g8) h5 m1;obtain⟨b3,m3,w3⟩:=qhe r D (ln.1 g6) h4 m2;obtain⟨b4,m4,w4⟩:=qhg r A (ln.1 g2) h1 m3;refine⟨b4,m4,?_⟩;rw[w4,w3,w2,w1,qd.mk.injEq];have z1:=eA.1 g1;have z3:=q1.1 g3;have z4:=q2.1 g4;have z9:=q3.1 g9;have z10:=q4.1 g10;have z12:=q5.1 g12;have z5:d=j:=by simpa using g5
  have z7:f=k:=by simpa using g7
  have z13:g=l:=by simpa using g13
  constructor
  ·rintro⟨r1,r2,r3,r4⟩
   exact⟨z1,r1,z3,z4,z5,r2,z7,r3,z9,z10,r4,z12,z13⟩
  rintro⟨_,r1,_,_,_,r2,_,r3,_,_,r4,_,_⟩;exact⟨r1,r2,r3,r4⟩
end W
end
section
open Go Ax
namespace W
def qjx (c:qd):qd:=(ZU 0 c).getD default
theorem qpg (n:Nat) (c:qd):ZU n c=some (qjx c):=by
 obtain⟨a,x2,q,⟨r,s,⟨t,u,v,w,b,d⟩,e,f⟩,g,h,i,j,k,l,m,o,p⟩:=c;simp only[qjx,ZU,uH,sU,sV,sW];cases a==1; rotate_left; · rfl
 cases a==2; rotate_left; · rfl
 cases a==3; rotate_left; · rfl
 cases a==9; rotate_left; · rfl
 cases a==4; rotate_left; · rfl
 cases a==5; rotate_left; · rfl
 cases a==6; rotate_left; · rfl
 cases a==7; rotate_left; · rfl
 cases a==8; rotate_left; · rfl
 rfl
end W
end
section
open Go Ax
namespace W
theorem XW (l:List zr):(zr.rows l).length=l.length:=by simp[zr.rows]
theorem GN {A:Type} {B:(List zr×Int->Option (List zr))->List zr×Int->Option (List zr)} {l:List A} (f:A->zr)
  (step:∀ (k:Nat) x b acc,l[k]? =some x->B b (acc,(k:Int))=chk (decide ((zr.rows (acc++[f x])).length * 16<=140737488355328)) (b (acc++[f x],((k+1:Nat):Int))))
  (a:∀ b acc,B b (acc,(l.length:Int))=some acc) {n:Nat} (d:l.length<n) (g:l.length<=137438953472):qo B n ([],(0:Int))=some (l.map f):=by
 have main:∀ m k:Nat,k<=l.length->l.length - k<m->qo B m ((l.take k).map f,(k:Int))=some (l.map f):=by
  intro m
  induction m with
  | zero=>intro k _ h; omega
  | succ m ih=>
   intro k i hm;rw[qO];by_cases he:k=l.length
   ·subst he
    rw[a,List.take_length]
   have h1:k<l.length:=by omega
   have c:=jf h1;rw[step k _ _ _ c];have e:(l.take k).map f++[f l[k]]=(l.take (k+1)).map f:=by
    rw[List.take_succ,c,ka]; rfl
   rw[e,zz (by rw[XW,jm,ju]; omega)];exact ih (k+1) (by omega) (by omega)
 have:=main n 0 (by omega) (by omega);simpa using this
theorem qfi {n:Nat} (d:n<=137438953472) {l:List zx} (h:l.length<n):xA n l=some (l.map .path):=by
 refine GN (B:=zl n l) (l:=l) .path (fun k x b acc a=>?_) (fun b acc=>by simp only[zl,zL,qm,kcf]) h (by omega)
 have c:=qL a;obtain⟨x1,x2⟩:=x;simp only[zl,re,zL,qx c,kct,qf a,qc];rw[qU (by omega)]
end W
end
section
open Go Ax
namespace W
theorem qfj {n:Nat} (e:n<=137438953472) {l:List qe} (h:l.length<n):xu n l=some (l.map .expr):=by
 refine GN (B:=zh n l) (l:=l) .expr (fun k x b acc a=>?_) (fun b acc=>by simp only[zh,qu,qm,kcf]) h (by omega)
 have c:=qL a;obtain⟨x1,x2,⟨f,g,i,j,m,o⟩,p,d⟩:=x;simp only[zh,rh,qu,qx c,kct,qf a,qc];rw[qU (by omega)]
theorem qfm {n:Nat} (e:n<=137438953472) {l:List qe} (h:l.length<n):xw n l=some (l.map .expr):=by
 refine GN (B:=zi n l) (l:=l) .expr (fun k x b acc a=>?_) (fun b acc=>by simp only[zi,qu,qm,kcf]) h (by omega)
 have c:=qL a;obtain⟨x1,x2,⟨f,g,i,j,m,o⟩,p,d⟩:=x;simp only[zi,rm,qu,qx c,kct,qf a,qc];rw[qU (by omega)]
theorem qfn {n:Nat} (e:n<=137438953472) {l:List qe} (h:l.length<n):xy n l=some (l.map .expr):=by
 refine GN (B:=zj n l) (l:=l) .expr (fun k x b acc a=>?_) (fun b acc=>by simp only[zj,qu,qm,kcf]) h (by omega)
 have c:=qL a;obtain⟨x1,x2,⟨f,g,i,j,m,o⟩,p,d⟩:=x;simp only[zj,rn,qu,qx c,kct,qf a,qc];rw[qU (by omega)]
theorem qfk {n:Nat} (f:n<=137438953472) {l:List xM} (h:l.length<n):xz n l=some (l.map .item):=by
 refine GN (B:=zk n l) (l:=l) .item (fun k x b acc a=>?_) (fun b acc=>by simp only[zk,xM.rows,jm,qm,kcf]) h (by omega)
 have c:=qL a;obtain⟨⟨x1,x2,⟨g,i,j,m,o,p⟩,q,d⟩,e⟩:=x;simp only[zk,ri,xM.rows,jm,qx c,kct,qf a,qc];rw[qU (by omega)]
theorem qfl {n:Nat} (f:n<=137438953472) {l:List qS} (h:l.length<n):xB n l=some (l.map .sorted):=by
 refine GN (B:=zm n l) (l:=l) .sorted (fun k x b acc a=>?_) (fun b acc=>by simp only[zm,qS.rows,jm,qm,kcf]) h (by omega)
 have c:=qL a;obtain⟨⟨x1,x2,⟨g,i,j,m,o,p⟩,q,d⟩,e⟩:=x;simp only[zm,rj,qS.rows,jm,qx c,kct,qf a,qc];rw[qU (by omega)]
theorem qfo {n:Nat} (d:n<=137438953472) {l:List (List UInt8)} (h:l.length<n):xO n l=some (l.map .name):=by
 refine GN (B:=zw n l) (l:=l) .name (fun k x b acc a=>?_) (fun b acc=>by simp only[zw,qn,qm,kcf]) h (by omega)
 have c:=qL a;simp only[zw,rq,qn,qx c,kct,qf a,qc];rw[qU (by omega)]
theorem qfp {n:Nat} (K:n<=137438953472) {l:List qj} (h:l.length<n) (a:Int) (v:List zx) (w:List qe) (y:Int) (z:List UInt8) (A:Int) (C:Bool) (D:Int) (b:List UInt8) (c:List Val) (d:List (List UInt8)) (e:List (List UInt8)) (f:List qe) (g:List UInt8) (i:List xM) (j:Bool) (m:List qS) (o:List qe) (p:List qe) (q:List qj) (t:List (List UInt8)) (u:Bool) :
  xf n l ⟨a,v,w,⟨y,z,⟨A,C,D,b,c,d⟩,e,f⟩,g,i,j,m,o,p,q,t,u⟩=some (l.map fun s=>.change ⟨s,a==6⟩):=by
 refine GN (B:=za n l a v w y z A C D b c d e f g i j m o p q t u) (l:=l) (fun s=>.change ⟨s,a==6⟩) (fun k x E acc r=>?_) (fun E acc=>by simp only[za,qj.rows,jm,qm,kcf]) h (by omega)
 have F:=qL r;obtain⟨y1,y2,L,⟨M,N,⟨O,P,Q,R,G,H⟩,I,J⟩⟩:=x;simp only[za,ry,qj.rows,jm,qx F,kct,qf r,qc];rw[qU (by omega)]
end W
end
section
open Go Ax
namespace W
def Rz:qe:=⟨0,[],De,[],[]⟩
theorem qel {n:Nat} (j:n<=137438953472) {x:qe} (h:dC x<n):∃ b,cT n x=some b/\(b=true↔x=Rz):=by
 obtain⟨op,name,⟨a1,a2,a3,a4,a5,g⟩,names,args⟩:=x;have i:tm ⟨a1,a2,a3,a4,a5,g⟩<n:=by simp only[dC]at h; omega
 obtain⟨s2,c,e⟩:=(Fy n (by omega)).1 ⟨a1,a2,a3,a4,a5,g⟩ De i;have a:=c;unfold De at a;simp only[cT,a,qn,qu];have key:(bnd (qD (bif op==0 then name==[]else false) (some s2)) fun d=>some (bif(bif(bif(bif op==0 then name==[]else false)then d else false)then(((names.length:Nat):Int)==0)else false)then(((args.length:Nat):Int)==0)else false))=some ((op==0)&&(name==[])&&s2&&(((names.length:Nat):Int)==0)&&(((args.length:Nat):Int)==0)):=by
  generalize (((names.length:Nat):Int)==0)=L1;generalize (((args.length:Nat):Int)==0)=L2;cases op==0<;>cases name==[]<;>cases s2<;>cases L1<;>cases L2<;>rfl
 refine⟨_,key,?_⟩;simp only[jj,beq_iff_eq,e,Rz,qe.mk.injEq,Int.natCast_eq_zero,List.length_eq_zero_iff]
 constructor
 ·rintro⟨⟨⟨⟨h1,h2⟩,h3⟩,h4⟩,f⟩; exact⟨h1,h2,h3,h4,f⟩
 rintro⟨h1,h2,h3,h4,f⟩; exact⟨⟨⟨⟨h1,h2⟩,h3⟩,h4⟩,f⟩
theorem qm2 {a b:Nat}:(((a:Nat):Int)==((b:Nat):Int))=decide (a=b):=by
 rw[Bool.eq_iff_iff]; simp[Int.natCast_inj]
theorem qiy {n:Nat} (a:n<=137438953472) {c c':qd} (h:dC c.e<n) :
  ∃ b,xX n c c'=some b/\(b=true↔c.paths.length=c'.paths.length/\c.where_.length=c'.where_.length/\((dB c'.e).1≠0\/c.e=Rz)/\c.var_=c'.var_/\c.items.length=c'.items.length/\c.unique=c'.unique /\
   c.order.length=c'.order.length/\c.skip.length=c'.skip.length/\c.limit.length=c'.limit.length/\c.sets.length=c'.sets.length/\c.vars.length=c'.vars.length/\c.detach=c'.detach):=by
 obtain⟨x1,x2,U,⟨V,X,⟨Y,Z,x8,x9,f,g⟩,i,j⟩,k,l,m,o,p,q,r,t,u⟩:=c;obtain⟨y1,y2,y3,⟨y4,y5,⟨y6,y7,y8,y9,v,w⟩,x,y⟩,z,E,N,O,P,Q,R,S,T⟩:=c';obtain⟨s,h1,h2⟩:=qel a h;simp only at h1 h2;simp only[xX,h1,← h2,dB,zL,qu,qn,xM.rows,qS.rows,qj.rows,jm,qm2];have key:∀ A B C D F G H I J K L M:Bool,(bnd (qD ((bif A then B else false)&&!C) (some s)) fun d=>some (bif(bif(bif(bif(bif(bif(bif(bif(bif(bif(bif A then B else false)then(bif C then true else d)else false)then D else false)then F else false)then G else false)then H else false)then I else false)then J else false)then K else false)then L else false)then M else false))
   = some (A&&B&&(C||s)&&D&&F&&G&&H&&I&&J&&K&&L&&M):=by
  intro A B C D F G H I J K L M;cases A; · rfl
  cases B; · rfl
  cases C<;>cases s<;>cases D<;>cases F<;>cases G<;>cases H<;>first|rfl|(cases I<;>cases J<;>cases K<;>cases L<;>cases M<;>rfl)
 refine⟨_,key _ _ _ _ _ _ _ _ _ _ _ _,?_⟩;simp only[jj,Bool.or_eq_true,kde,beq_iff_eq,bne_iff_ne,and_assoc]
end W
end
section
open Go Ax
namespace W
def td (k:Int):qd:=⟨k,[],[],Rz,[],[],false,[],[],[],[],[],false⟩
def RR (c:qd):qd:=
 if c.kind=1 then{ td c.kind with paths:=c.paths,where_:=c.where_ }
 else if c.kind=2 then{ td c.kind with e:=c.e,var_:=c.var_ }
 else if c.kind=3 then{ td c.kind with where_:=c.where_,items:=c.items,unique:=c.unique,order:=c.order,skip:=c.skip,limit:=c.limit }
 else if c.kind=9 then{ td c.kind with items:=c.items,unique:=c.unique,order:=c.order,skip:=c.skip,limit:=c.limit }
 else if c.kind=4\/c.kind=5 then{ td c.kind with paths:=c.paths }
 else if c.kind=6\/c.kind=7 then{ td c.kind with sets:=c.sets }
 else if c.kind=8 then{ td c.kind with vars:=c.vars,detach:=c.detach }
 else td c.kind
theorem qne (c:qd):qjx c=RR c:=by
 obtain⟨a,x2,u,⟨v,w,⟨x,y,z,A,h,i⟩,j,k⟩,l,m,n,o,p,q,r,s,t⟩:=c;by_cases h1:a=1; · subst h1; rfl
 by_cases h2:a=2; · subst h2; rfl
 by_cases h3:a=3; · subst h3; rfl
 by_cases b:a=9; · subst b; rfl
 by_cases h4:a=4; · subst h4; rfl
 by_cases d:a=5; · subst d; rfl
 by_cases e:a=6; · subst e; rfl
 by_cases f:a=7; · subst f; rfl
 by_cases g:a=8; · subst g; rfl
 simp only[RR,if_neg h1,if_neg h2,if_neg h3,if_neg b,h4,d,e,f,if_neg g,or_self,if_false];simp only[qjx,ZU,uH,sU,sV,sW,kbf.2 h1,kbf.2 h2,kbf.2 h3,kbf.2 b,kbf.2 h4,kbf.2 d,kbf.2 e,kbf.2 f,kbf.2 g,kcf];rfl
theorem qef {n:Nat} (o:n<=137438953472) {c:qd} (h:dC c.e<n):∃ b,xX n c (RR c)=some b/\(b=true->RR c=c)/\(RR c=c->b=true\/(c.kind=2/\(dB c.e).1=0)):=by
 obtain⟨b,h1,h2⟩:=qiy o (c':=RR c) h;refine⟨b,h1,?_⟩;rw[h2];clear h1 h2;obtain⟨a,x2,z,d,p,q,r,s,t,u,v,w,x⟩:=c;have nl:∀ {A:Type} (l:List A),l.length=([]:List A).length↔l=[]:=fun l=>by simp
 have f:(dB Rz).1=0:=rfl;unfold RR;by_cases h1:a=1
 ·subst h1
  simp only[td,nl,f,qd.mk.injEq,ne_eq,show((1:Int)=1)=True by decide,show((1:Int)=2)=False by decide,show((1:Int)=3)=False by decide,show((1:Int)=9)=False by decide,show((1:Int)=4)=False by decide,show((1:Int)=5)=False by decide,show((1:Int)=6)=False by decide,show((1:Int)=7)=False by decide,show((1:Int)=8)=False by decide,if_true,if_false,or_true,true_or,or_self,or_false,false_or,not_true]
  constructor
  ·intro h; simp_all
  intro h
  left; simp_all
 by_cases h2:a=2
 ·subst h2
  simp only[td,nl,f,qd.mk.injEq,ne_eq,show((2:Int)=1)=False by decide,show((2:Int)=2)=True by decide,show((2:Int)=3)=False by decide,show((2:Int)=9)=False by decide,show((2:Int)=4)=False by decide,show((2:Int)=5)=False by decide,show((2:Int)=6)=False by decide,show((2:Int)=7)=False by decide,show((2:Int)=8)=False by decide,if_true,if_false,or_true,true_or,or_self,or_false,false_or,not_true]
  constructor
  ·intro h; simp_all
  intro h;by_cases y:(dB d).1=0
  ·right; exact⟨trivial,y⟩
  left; simp_all
 by_cases h3:a=3
 ·subst h3
  simp only[td,nl,f,qd.mk.injEq,ne_eq,show((3:Int)=1)=False by decide,show((3:Int)=2)=False by decide,show((3:Int)=3)=True by decide,show((3:Int)=9)=False by decide,show((3:Int)=4)=False by decide,show((3:Int)=5)=False by decide,show((3:Int)=6)=False by decide,show((3:Int)=7)=False by decide,show((3:Int)=8)=False by decide,if_true,if_false,or_true,true_or,or_self,or_false,false_or,not_true]
  constructor
  ·intro h; simp_all
  intro h
  left; simp_all
 by_cases g:a=9
 ·subst g
  simp only[td,nl,f,qd.mk.injEq,ne_eq,show((9:Int)=1)=False by decide,show((9:Int)=2)=False by decide,show((9:Int)=3)=False by decide,show((9:Int)=9)=True by decide,show((9:Int)=4)=False by decide,show((9:Int)=5)=False by decide,show((9:Int)=6)=False by decide,show((9:Int)=7)=False by decide,show((9:Int)=8)=False by decide,if_true,if_false,or_true,true_or,or_self,or_false,false_or,not_true]
  constructor
  ·intro h; simp_all
  intro h
  left; simp_all
 by_cases h4:a=4
 ·subst h4
  simp only[td,nl,f,qd.mk.injEq,ne_eq,show((4:Int)=1)=False by decide,show((4:Int)=2)=False by decide,show((4:Int)=3)=False by decide,show((4:Int)=9)=False by decide,show((4:Int)=4)=True by decide,show((4:Int)=5)=False by decide,show((4:Int)=6)=False by decide,show((4:Int)=7)=False by decide,show((4:Int)=8)=False by decide,if_true,if_false,or_true,true_or,or_self,or_false,false_or,not_true]
  constructor
  ·intro h; simp_all
  intro h
  left; simp_all
 by_cases i:a=5
 ·subst i
  simp only[td,nl,f,qd.mk.injEq,ne_eq,show((5:Int)=1)=False by decide,show((5:Int)=2)=False by decide,show((5:Int)=3)=False by decide,show((5:Int)=9)=False by decide,show((5:Int)=4)=False by decide,show((5:Int)=5)=True by decide,show((5:Int)=6)=False by decide,show((5:Int)=7)=False by decide,show((5:Int)=8)=False by decide,if_true,if_false,or_true,true_or,or_self,or_false,false_or,not_true]
  constructor
  ·intro h; simp_all
  intro h
  left; simp_all
 by_cases j:a=6
 ·subst j
  simp only[td,nl,f,qd.mk.injEq,ne_eq,show((6:Int)=1)=False by decide,show((6:Int)=2)=False by decide,show((6:Int)=3)=False by decide,show((6:Int)=9)=False by decide,show((6:Int)=4)=False by decide,show((6:Int)=5)=False by decide,show((6:Int)=6)=True by decide,show((6:Int)=7)=False by decide,show((6:Int)=8)=False by decide,if_true,if_false,or_true,true_or,or_self,or_false,false_or,not_true]
  constructor
  ·intro h; simp_all
  intro h
  left; simp_all
 by_cases k:a=7
 ·subst k
  simp only[td,nl,f,qd.mk.injEq,ne_eq,show((7:Int)=1)=False by decide,show((7:Int)=2)=False by decide,show((7:Int)=3)=False by decide,show((7:Int)=9)=False by decide,show((7:Int)=4)=False by decide,show((7:Int)=5)=False by decide,show((7:Int)=6)=False by decide,show((7:Int)=7)=True by decide,show((7:Int)=8)=False by decide,if_true,if_false,or_true,true_or,or_self,or_false,false_or,not_true]
  constructor
  ·intro h; simp_all
  intro h
  left; simp_all
 by_cases m:a=8
 ·subst m
  simp only[td,nl,f,qd.mk.injEq,ne_eq,show((8:Int)=1)=False by decide,show((8:Int)=2)=False by decide,show((8:Int)=3)=False by decide,show((8:Int)=9)=False by decide,show((8:Int)=4)=False by decide,show((8:Int)=5)=False by decide,show((8:Int)=6)=False by decide,show((8:Int)=7)=False by decide,show((8:Int)=8)=True by decide,if_true,if_false,or_true,true_or,or_self,or_false,false_or,not_true]
  constructor
  ·intro h; simp_all
  intro h
  left; simp_all
 simp only[td,nl,f,qd.mk.injEq,ne_eq,if_neg h1,if_neg h2,if_neg h3,if_neg g,h4,i,j,k,if_neg m,or_self,if_false,not_true,false_or]
 constructor
 ·intro h; simp_all
 intro h; left; simp_all
end W
end
section
open Go Ax
namespace W
abbrev PG:=List zr×Int×Int
def g3 (g:qR):PG:=(g.parts,g.least,g.most)
def Uz (c:qd):List PG:=
 if c.kind=1 then[(c.paths.map .path,1,1048576),(c.where_.map .expr,0,1)]
 else if c.kind=2 then[([.expr c.e],1,1),([.name c.var_],1,1)]
 else if c.kind=3 then[(c.items.map .item,1,1048576),(c.order.map .sorted,0,1048576),(c.skip.map .expr,0,1),(c.limit.map .expr,0,1),(c.where_.map .expr,0,1)]
 else if c.kind=9 then[(c.items.map .item,1,1048576),(c.order.map .sorted,0,1048576),(c.skip.map .expr,0,1),(c.limit.map .expr,0,1)]
 else if c.kind=4 then[(c.paths.map .path,1,1048576)]
 else if c.kind=5 then[(c.paths.map .path,1,1)]
 else if c.kind=6\/c.kind=7 then[(c.sets.map (fun s=>.change ⟨s,c.kind==6⟩),1,1048576)]
 else if c.kind=8 then[(c.vars.map .name,1,1048576)]
 else[]
def LH (c:qd):Prop:=c.kind=5/\∃ p,c.paths=[p]/\p.edges≠[]
def MB (c:qd) (o:Option (List qR×Bool)):Prop:=
 (LH c/\o=some ([],false))\/(¬ LH c/\∃ a b,o=some (a,b)/\a.map g3=Uz c/\(b=true->RR c=c)/\(RR c=c->b=true\/(c.kind=2/\(dB c.e).1=0)))
section
variable {n:Nat} (hn:n<=137438953472) {x1:Int} {x2:List zx} {x3:List qe} {x4:Int} {x5:List UInt8} {x6:Int} {x7:Bool} {x8:Int} {x9:List UInt8} {x10:List Val} {x11:List (List UInt8)} {x12:List (List UInt8)} {x13:List qe} {x14:List UInt8} {x15:List xM} {x16:Bool} {x17:List qS} {x18:List qe} {x19:List qe} {x20:List qj} {x21:List (List UInt8)} {x22:Bool}
include hn
theorem lx (h:dC ⟨x4,x5,⟨x6,x7,x8,x9,x10,x11⟩,x12,x13⟩<n) {w:List UInt8} (hw:w.length<=9) :
  MB ⟨x1,x2,x3,⟨x4,x5,⟨x6,x7,x8,x9,x10,x11⟩,x12,x13⟩,x14,x15,x16,x17,x18,x19,x20,x21,x22⟩
   (fF n x1 x2 x3 x4 x5 x6 x7 x8 x9 x10 x11 x12 x13 x14 x15 x16 x17 x18 x19 x20 x21 x22 (x2.map .path) (x3.map .expr) (x15.map .item) (x17.map .sorted) (x18.map .expr) (x19.map .expr) (x20.map fun s=>.change ⟨s,x1==6⟩) (x21.map .name) w):=by
 obtain⟨b,d,h1,h2⟩:=qef hn (c:=⟨x1,x2,x3,⟨x4,x5,⟨x6,x7,x8,x9,x10,x11⟩,x12,x13⟩,x14,x15,x16,x17,x18,x19,x20,x21,x22⟩) h;have hm:(100:Int)<=xr:=by unfold xr; decide
 unfold fF;by_cases k1:x1=1
 ·subst k1
  rw[kbs,kct];rw[show RR _=_ from rfl]at d;exact .inr ⟨fun h=>absurd (show((1:Int)=5)from h.1) (by decide),_,b,Eq.trans (congrArg (fun o=>bnd o _) d) rfl,rfl,h1,h2⟩
 rw[kbf.2 k1,kcf];by_cases k2:x1=2
 ·subst k2
  rw[kbs,kct];exact .inr ⟨fun h=>absurd (show((2:Int)=5)from h.1) (by decide),_,b,Eq.trans (congrArg (fun o=>bnd o _) d) rfl,rfl,h1,h2⟩
 rw[kbf.2 k2,kcf];by_cases k3:x1=3
 ·subst k3
  rw[kbs,kct];unfold fG;generalize xr=M at hm ⊢;rw[kct,zH (kdt (by simp only[ja,jc]; omega)),zH (by simp[qR.rows]),kbs,kct,zH (kdt (by simp only[ja,jc]; omega)),zH (by simp[qR.rows])];simp only[List.cons_append,List.nil_append,List.getElem?_cons_zero,qc,List.set_cons_zero];rw[zH (by simp[qR.rows])];unfold fH;exact .inr ⟨fun h=>absurd (show((3:Int)=5)from h.1) (by decide),_,b,Eq.trans (congrArg (fun o=>bnd o _) d) rfl,rfl,h1,h2⟩
 rw[kbf.2 k3,kcf];unfold fG;by_cases k9:x1=9
 ·subst k9
  generalize xr=M at hm ⊢;rw[kbs,kct,zH (kdt (by simp only[ja,jc]; omega)),zH (by simp[qR.rows]),show((9:Int)==3)=false from rfl,kcf];unfold fH;exact .inr ⟨fun h=>absurd (show((9:Int)=5)from h.1) (by decide),_,b,Eq.trans (congrArg (fun o=>bnd o _) d) rfl,rfl,h1,h2⟩
 rw[kbf.2 k9,kcf];by_cases k4:x1=4
 ·subst k4
  rw[kbs,kct];exact .inr ⟨fun h=>absurd (show((4:Int)=5)from h.1) (by decide),_,b,Eq.trans (congrArg (fun o=>bnd o _) d) rfl,rfl,h1,h2⟩
 rw[kbf.2 k4,kcf];by_cases k5:x1=5
 ·subst k5
  rw[kbs,kct];have good:∀ f:¬ LH ⟨5,x2,x3,⟨x4,x5,⟨x6,x7,x8,x9,x10,x11⟩,x12,x13⟩,x14,x15,x16,x17,x18,x19,x20,x21,x22⟩,MB ⟨5,x2,x3,⟨x4,x5,⟨x6,x7,x8,x9,x10,x11⟩,x12,x13⟩,x14,x15,x16,x17,x18,x19,x20,x21,x22⟩ (bnd (xX n ⟨5,x2,x3,⟨x4,x5,⟨x6,x7,x8,x9,x10,x11⟩,x12,x13⟩,x14,x15,x16,x17,x18,x19,x20,x21,x22⟩ (RR ⟨5,x2,x3,⟨x4,x5,⟨x6,x7,x8,x9,x10,x11⟩,x12,x13⟩,x14,x15,x16,x17,x18,x19,x20,x21,x22⟩)) fun a=>
    some ([qR.mk ([77,69,82,71,69,32]:List UInt8) (x2.map .path) (1:Int) (1:Int)],a)):=fun f=>
   .inr ⟨f,_,b,Eq.trans (congrArg (fun o=>bnd o _) d) rfl,rfl,h1,h2⟩
  match x2 with
  | []=>exact good (by rintro⟨_,p,hp,_⟩; cases hp)
  | [⟨nodes,[]⟩]=>exact good (by rintro⟨_,p,hp,he⟩; cases hp; exact he rfl)
  | [⟨nodes,e::es⟩]=>
   refine .inl ⟨⟨rfl,_,rfl,by simp⟩,?_⟩;have e2:decide ((((qy.rows (e::es)).length:Nat):Int)>0)=true:=kdt (by rw[uL]; simp only[ja]; omega);have e1:((((zx.rows [⟨nodes,e::es⟩]).length:Nat):Int)==(1:Int))=true:=rfl;rw[e1,zg,nq,qc];simp only[e2,kct]
  | p::q::l=>
   have e1:((((zx.rows (p::q::l)).length:Nat):Int)==(1:Int))=false:=by rw[zL]; simp only[ja]; rw[kbf]; omega
   rw[e1,fU,qc];exact good (by rintro⟨_,p,hp,_⟩; cases hp)
 rw[kbf.2 k5,kcf];unfold bg cU cV;by_cases k6:x1=6
 ·subst k6
  rw[kbs,kct,kct,show((6:Int)==7)=false from rfl,kcf];exact .inr ⟨fun h=>absurd (show((6:Int)=5)from h.1) (by decide),_,b,Eq.trans (congrArg (fun o=>bnd o _) d) rfl,rfl,h1,h2⟩
 rw[kbf.2 k6,kcf];by_cases k7:x1=7
 ·subst k7
  rw[kbs,kct,kct];exact .inr ⟨fun h=>absurd (show((7:Int)=5)from h.1) (by decide),_,b,Eq.trans (congrArg (fun o=>bnd o _) d) rfl,rfl,h1,h2⟩
 rw[kbf.2 k7,kcf];by_cases k8:x1=8
 ·subst k8
  rw[kbs,kct];cases x22 with
  | true=>
   rw[kct];exact .inr ⟨fun h=>absurd (show((8:Int)=5)from h.1) (by decide),_,b,Eq.trans (congrArg (fun o=>bnd o _) d) rfl,rfl,h1,h2⟩
  | false=>
   rw[kcf];exact .inr ⟨fun h=>absurd (show((8:Int)=5)from h.1) (by decide),_,b,Eq.trans (congrArg (fun o=>bnd o _) d) rfl,rfl,h1,h2⟩
 rw[kbf.2 k8,kcf];have eo:RR ⟨x1,x2,x3,⟨x4,x5,⟨x6,x7,x8,x9,x10,x11⟩,x12,x13⟩,x14,x15,x16,x17,x18,x19,x20,x21,x22⟩=td x1:=by
  unfold RR;simp only[k1,k2,k3,k9,k4,k5,k6,k7,k8,if_false,or_self]
 refine .inr ⟨fun h=>absurd h.1 k5,[],b,Eq.trans (congrArg (fun o=>bnd o fun x=>some (([]:List qR),x)) (show _=some b from ?_)) rfl,?_,h1,h2⟩
 ·rw[← d,eo]; rfl
 unfold Uz;simp only[k1,k2,k3,k9,k4,k5,k6,k7,k8,if_false,or_self];rfl
end
theorem qfq {n:Nat} (hn:n<=137438953472) {c:qd} (h:vh c<n):MB c (mW n c):=by
 have hp:=zc dA (fun p=>by unfold dA; omega) c.paths
 have a:=zc ZI (fun p=>by unfold ZI; omega) c.items
 have b:=zc fY (fun p=>by unfold fY; omega) c.order
 have d:=zc fW (fun p=>by unfold fW; omega) c.sets
 have e:=xi c.vars;have h3:=xY c.where_;have h4:=xY c.skip;have f:=xY c.limit;unfold vh Un at h;obtain⟨x1,x2,x3,⟨x4,x5,⟨x6,x7,x8,x9,x10,x11⟩,x12,x13⟩,x14,x15,x16,x17,x18,x19,x20,x21,x22⟩:=c;simp only at h hp a b d e h3 h4 f;unfold mW;simp only[qfi hn (l:=x2) (by omega),qfj hn (l:=x3) (by omega),qfk hn (l:=x15) (by omega),qfl hn (l:=x17) (by omega),qfm hn (l:=x18) (by omega),qfn hn (l:=x19) (by omega),qfo hn (l:=x21) (by omega),qfp hn (l:=x20) (by omega),qc];cases x16 with
 | true=>exact lx hn (by omega) (by decide)
 | false=>exact lx hn (by omega) (by decide)
end W
end
section
open Go Ax
namespace W
def Uo (n:Nat) (x:qe):Bool:=(zT n x 32).getD false
def EL (n:Nat) (p:zx):Bool:=(cu n p).getD false
def TM (n:Nat) (f:Bool) (s:qj):Bool:=(gN n ⟨s,f⟩).getD false
def oR (n:Nat):zr->Bool
 | .path p=>EL n p
 | .expr x=>Uo n x
 | .item i=>xl i.as_&&Uo n i.e
 | .sorted s=>Uo n s.e
 | .name s=>xl s
 | .change c=>TM n c.set_ c.setItem
def Lx:zr->Nat
 | .path p=>dA p
 | .expr x=>dC x
 | .item i=>ZI i
 | .sorted s=>fY s
 | .name s=>1+s.length
 | .change c=>fW c.setItem
theorem Tt {n:Nat} (a:n<=137438953472) {x:qe} (h:40+dC x<n):gX n x=some (Uo n x):=by
 obtain⟨b,h1,_,_⟩:=Fm a h;unfold Uo;rw[h1];obtain⟨x1,x2,⟨d,e,f,g,i,j⟩,k,c⟩:=x;simp only[gX,h1,qc,jW]
theorem qjy {n:Nat} (g:n<=137438953472) {p:zr} (h:42+Lx p<n):tc n p=some (oR n p):=by
 cases p with
 | path p=>
  obtain⟨b,h1,_,_⟩:=TR g (p:=p) h;simp only[tc,oR,EL,h1,jW]
 | expr x=>exact Tt g (by simp only[Lx]at h; omega)
 | item i=>
  simp only[Lx,ZI]at h;have h1:=Tt g (x:=i.e) (by omega);have h2:=gY (s:=i.as_) (n:=n) (by omega) g;obtain⟨⟨d,o,⟨q,t,u,v,w,y⟩,z,j⟩,a⟩:=i;simp only at h1 h2;simp only[tc,sy,h1,h2,qc,oR];cases xl a<;>rfl
 | sorted s=>
  simp only[Lx,fY]at h;have h1:=Tt g (x:=s.e) (by omega);obtain⟨⟨d,o,⟨q,t,u,v,w,y⟩,z,j⟩,a⟩:=s;simp only at h1;simp only[tc,nn,h1,qc,oR]
 | name s=>
  simp only[Lx]at h;have h2:=gY (s:=s) (n:=n) (by omega) g;simp only[tc,sz,h2,qc,oR]
 | change c=>
  obtain⟨s,f⟩:=c;simp only[Lx,fW]at h;obtain⟨b,h1,_,_⟩:=Nb g (s:=s) (by omega) f;simp only[tc,oR,TM,h1,jW]
theorem XV {A:Type} (g:A->Bool) (r:Option Bool):∀ l:List A,orE (vu (fun s=>if g s then none else some false) l) r=bif l.all g then r else some false
 | []=>rfl
 | a::l=>by
  simp only[vu,jw];cases g a with
  | true=>simpa using XV g r l
  | false=>rfl
@[simp] theorem Uk (l:List qR):(qR.rows l).length=l.length:=by simp[qR.rows]
theorem qdd {n:Nat} (c:n<=137438953472) {l:List zr} (hp:∀ p∈l,42+Lx p<n) (d:l.length<n) (a:Int->Option Bool) {k:Nat} (h:k<n) :
  qo (gW n l a (k:Int)) n (0:Int)=bif l.all (oR n)then a ((k+1:Nat):Int)else some false:=by
 have e:=zY (B:=gW n l a (k:Int)) (fun k=>((k:Nat):Int)) (l:=l) (fun p=>if oR n p then none else some false) (rest:=a ((k+1:Nat):Int))
  (fun j x f b=>by
   have g:=qL b;simp only[gW,XW,qx g,kct,qf b,qc,qjy c (hp x (qw b))];rw[qU (by omega)];cases oR n x<;>rfl)
  (fun f=>by
   simp only[gW,XW,qm,kcf];rw[qU (by omega)]) (n:=n) d
 refine Eq.trans e ?_;rw[XV]
def gOk (n:Nat) (g:PG):Bool:=!(bif decide (((g.1.length:Nat):Int)<g.2.1)then true else decide (((g.1.length:Nat):Int)>g.2.2))&&g.1.all (oR n)
theorem od {n:Nat} (h:n<=137438953472) {c:List qR} (i:∀ g∈c,g.parts.length<n/\∀ p∈g.parts,42+Lx p<n) (m:c.length<n) (b:Int->Option Bool) {k:Nat} (q:k<n) :
  qo (gV n c b (k:Int)) n (0:Int)=bif(c.map g3).all (gOk n)then b ((k+1:Nat):Int)else some false:=by
 have core:∀ (t a:Bool) (X:Option Bool),(bif t then some false else bif a then X else some false)=orE (if(!t&&a)then none else some false) X:=by
  intro t a X;cases t<;>cases a<;>rfl
 have e:=zY (B:=gV n c b (k:Int)) (fun k=>((k:Nat):Int)) (l:=c) (fun g=>if gOk n (g3 g)then none else some false) (rest:=b ((k+1:Nat):Int))
  (fun j x f d=>by
   have o:=qL d;obtain⟨h1,h2⟩:=i x (qw d);obtain⟨w,parts,least,most⟩:=x;simp only at h1 h2;have e3:=qdd h h2 h1 f (k:=j) (by omega);simp only[gV,Uk,XW,qx o,kct,qf d,qc,e3];exact core _ _ _)
  (fun f=>by
   simp only[gV,Uk,qm,kcf];rw[qU (by omega)]) (n:=n) m
 refine Eq.trans e ?_;rw[XV,List.all_map];rfl
theorem qae {c:qd} {m:Nat} (h:vh c<=m):∀ g∈Uz c,g.1.length<=m/\∀ p∈g.1,Lx p<=m:=by
 have hp:=zc dA (fun p=>by unfold dA; omega) c.paths
 have q:=zc ZI (fun p=>by unfold ZI; omega) c.items
 have r:=zc fY (fun p=>by unfold fY; omega) c.order
 have t:=zc fW (fun p=>by unfold fW; omega) c.sets
 have u:=xi c.vars;have h3:=xY c.where_;have h4:=xY c.skip;have v:=xY c.limit;have mp:∀ p∈c.paths,dA p<=m:=fun p hm=>by have:=zd dA hm; unfold vh Un at h; omega
 have mi:∀ p∈c.items,ZI p<=m:=fun p hm=>by have:=zd ZI hm; unfold vh at h; omega
 have mo:∀ p∈c.order,fY p<=m:=fun p hm=>by have:=zd fY hm; unfold vh at h; omega
 have ms:∀ p∈c.sets,fW p<=m:=fun p hm=>by have:=zd fW hm; unfold vh at h; omega
 have mv:∀ p∈c.vars,1+p.length<=m:=fun p hm=>by have:=zd (fun k:List UInt8=>1+k.length) hm; unfold vh sS at h; omega
 have mw:∀ p∈c.where_,dC p<=m:=fun p hm=>by have:=gH hm; unfold vh at h; omega
 have mk:∀ p∈c.skip,dC p<=m:=fun p hm=>by have:=gH hm; unfold vh at h; omega
 have ml:∀ p∈c.limit,dC p<=m:=fun p hm=>by have:=gH hm; unfold vh at h; omega
 have me:dC c.e<=m:=by unfold vh at h; omega
 have mr:1+c.var_.length<=m:=by unfold vh at h; omega
 have j:1<=m:=by unfold vh at h; omega
 unfold vh Un at h;have am:∀ {A:Type} (l:List A) (f:A->zr) (n:l.length<=m) (o:∀ a∈l,Lx (f a)<=m) (least most:Int),(l.map f,least,most).1.length<=m/\∀ p∈(l.map f,least,most).1,Lx p<=m:=by
  intro A l f n o least most;refine⟨by simpa using n,fun p hp=>?_⟩;obtain⟨a,i,rfl⟩:=List.mem_map.1 hp;exact o a i
 have gp:=fun a b=>am c.paths .path (by omega) mp a b
 have gw:=fun a b=>am c.where_ .expr (by omega) mw a b
 have gk:=fun a b=>am c.skip .expr (by omega) mk a b
 have gl:=fun a b=>am c.limit .expr (by omega) ml a b
 have gi:=fun a b=>am c.items .item (by omega) mi a b
 have go:=fun a b=>am c.order .sorted (by omega) mo a b
 have gv:=fun a b=>am c.vars .name (by omega) mv a b
 have gs:=fun a b=>am c.sets (fun s=>.change ⟨s,c.kind==6⟩) (by omega) ms a b
 have g1:=fun a b=>am [c.e] .expr (by simpa using j) (fun a i=>by simp at i; subst i; exact me) a b
 have g2:=fun a b=>am [c.var_] .name (by simpa using j) (fun a i=>by simp at i; subst i; exact mr) a b
 intro g d;unfold Uz at d
 repeat' split at d
 all_goals
  simp only[jg,List.not_mem_nil,or_false]at d
 ·rcases d with rfl|rfl
  ·exact gp _ _
  exact gw _ _
 ·rcases d with rfl|rfl
  ·exact g1 _ _
  exact g2 _ _
 ·rcases d with rfl|rfl|rfl|rfl|rfl
  ·exact gi _ _
  ·exact go _ _
  ·exact gk _ _
  ·exact gl _ _
  exact gw _ _
 ·rcases d with rfl|rfl|rfl|rfl
  ·exact gi _ _
  ·exact go _ _
  ·exact gk _ _
  exact gl _ _
 ·subst d; exact gp _ _
 ·subst d; exact gp _ _
 ·subst d; exact gs _ _
 subst d; exact gv _ _
end W
end
section
open Go Ax
namespace W
theorem Nk {n:Nat} (a:n<=137438953472) {l:List qe} (h:40+uF l<n) (m:Int):nC n l m=some (l.all (Uo n)&&decide (((l.length:Nat):Int)<=m)):=qi7 a h m
theorem TV {n:Nat} (a:n<=137438953472) {x:qe} (h:40+dC x<n):uk n x=some (Uo n x):=by
 obtain⟨b,h1,h2,_⟩:=Fm a h;unfold Uo;rw[h1,h2]; rfl
theorem qj3 {n:Nat} (a:n<=137438953472) {p:zx} (h:42+dA p<n):pk n p=some (EL n p):=by
 obtain⟨b,h1,h2,_⟩:=TR a h;unfold EL;rw[h1,h2]; rfl
theorem qnj {n:Nat} (a:n<=137438953472) {s:qj} (h:42+fW s<n) (f:Bool):sT n s f=some (TM n f s):=by
 unfold fW at h;obtain⟨b,h1,h2,_⟩:=Nb a (s:=s) (by omega) f;unfold TM;rw[h1,h2]; rfl
def exS (n:Nat) (l:List qe):Bool:=l.all (Uo n)&&decide (((l.length:Nat):Int)<=1)
def oZ (n:Nat) (c:qd):Bool:=c.items.all (fun i=>xl i.as_&&Uo n i.e)&&(c.order.all (fun s=>Uo n s.e)&&(decide (((c.items.length:Nat):Int)>0)&&(exS n c.skip&&exS n c.limit)))
theorem qkd {n:Nat} (m:n<=137438953472) {c:qd} (h:42+vh c<n):Vo n c=some (oZ n c):=by
 have I:=zc ZI (fun p=>by unfold ZI; omega) c.items
 have J:=zc fY (fun p=>by unfold fY; omega) c.order
 have mi:∀ p∈c.items,42+ZI p<n:=fun p hm=>by have:=zd ZI hm; unfold vh at h; omega
 have mo:∀ p∈c.order,42+fY p<n:=fun p hm=>by have:=zd fY hm; unfold vh at h; omega
 have e1:=Nk m (l:=c.skip) (by unfold vh at h; omega) 1;have e2:=Nk m (l:=c.limit) (by unfold vh at h; omega) 1;have a1:c.items.length<n:=by unfold vh at h; omega
 have a2:c.order.length<n:=by unfold vh at h; omega
 clear h;unfold oZ exS;obtain⟨x1,x2,U,⟨V,X,⟨Y,Z,x8,x9,K,L⟩,M,N⟩,O,g,P,t,j,o,Q,R,S⟩:=c;simp only at I J mi mo e1 e2 a1 a2 ⊢;have l2:=zY (B:=pq n t g j o) (fun k=>((k:Nat):Int)) (l:=t) (fun s=>if Uo n s.e then none else some false)
  (rest:=some (decide (((g.length:Nat):Int)>0)&&((j.all (Uo n)&&decide (((j.length:Nat):Int)<=1))&&(o.all (Uo n)&&decide (((o.length:Nat):Int)<=1)))))
  (fun k x r f=>by
   have H:=qL f;have h1:=TV m (x:=x.e) (by have:=mo x (qw f); unfold fY at this; omega);obtain⟨⟨v,y,⟨z,A,C,D,E,F⟩,G,w⟩,u⟩:=x;simp only at h1;simp only[pq,qS.rows,jm,qx H,kct,qf f,qc,h1];rw[qU (by omega)];cases Uo n _<;>rfl)
  (fun r=>by
   simp only[pq,qS.rows,xM.rows,jm,qm,kcf,e1,e2];generalize decide (((g.length:Nat):Int)>0)=d;generalize (j.all (Uo n)&&decide (((j.length:Nat):Int)<=1))=p;generalize (o.all (Uo n)&&decide (((o.length:Nat):Int)<=1))=q;cases d<;>cases p<;>cases q<;>rfl) (n:=n) a2
 rw[XV]at l2;have l1:=zY (B:=po n g t j o) (fun k=>((k:Nat):Int)) (l:=g) (fun i=>if(xl i.as_&&Uo n i.e)then none else some false) (rest:=_)
  (fun k x r f=>by
   have H:=qL f;have T:=mi x (qw f);unfold ZI at T;have h1:=TV m (x:=x.e) (by omega);have h2:=fl (s:=x.as_) (n:=n) (by omega) (by omega) m;obtain⟨⟨v,y,⟨z,A,C,D,E,F⟩,G,w⟩,u⟩:=x;simp only at h1 h2;simp only[po,xM.rows,jm,qx H,kct,qf f,qc,h1,h2];rw[qU (by omega)];cases xl u with
   | false=>rfl
   | true=>
    simp only[jq,jp,zg,qc,h1,kcf];cases Uo n _<;>rfl)
  (fun r=>by
   simp only[po,xM.rows,jm,qm,kcf];exact l2) (n:=n) a1
 rw[XV]at l1;unfold Vo;refine Eq.trans l1 ?_;generalize g.all _=a;generalize t.all _=b;cases a<;>cases b<;>rfl
def Ds (n:Nat) (c:qd):Bool:=
 if c.kind=1 then decide (((c.paths.length:Nat):Int)>0)&&exS n c.where_
 else if c.kind=2 then Uo n c.e&&xl c.var_
 else if c.kind=3\/c.kind=9 then oZ n c&&exS n c.where_
 else if c.kind=4 then decide (((c.paths.length:Nat):Int)>0)
 else if c.kind=5 then(match c.paths with|[p]=>(((p.edges.length:Nat):Int)==0)|_=>false)
 else if c.kind=6\/c.kind=7 then c.sets.all (TM n (c.kind==6))&&decide (((c.sets.length:Nat):Int)>0)
 else if c.kind=8 then c.vars.all xl&&decide (((c.vars.length:Nat):Int)>0)
 else false
theorem lU {n:Nat} (m:n<=137438953472) {c:qd} (h:42+vh c<n):∃ s,(s=true↔RR c=c)/\gy n c=some (s&&(c.paths.all (EL n)&&Ds n c)):=by
 have hp:=zc dA (fun p=>by unfold dA; omega) c.paths
 have hs:=zc fW (fun p=>by unfold fW; omega) c.sets
 have hi:=zc ZI (fun p=>by unfold ZI; omega) c.items
 have ho:=zc fY (fun p=>by unfold fY; omega) c.order
 have hv:=xi c.vars;have mp:∀ p∈c.paths,42+dA p<n:=fun p hm=>by have:=zd dA hm; unfold vh Un at h; omega
 have mi:∀ p∈c.items,dC p.e<n:=fun p hm=>by have:=zd ZI hm; have e:ZI p=1+p.as_.length+dC p.e:=rfl; unfold vh at h; omega
 have mo:∀ p∈c.order,dC p.e<n:=fun p hm=>by have:=zd fY hm; have e:fY p=1+dC p.e:=rfl; unfold vh at h; omega
 have ms:∀ p∈c.sets,42+fW p<n:=fun p hm=>by have:=zd fW hm; unfold vh at h; omega
 have ms':∀ p∈c.sets,dC p.e<n:=fun p hm=>by have:=ms p hm; unfold fW at this; omega
 have mv:∀ p∈c.vars,42+p.length<n:=fun p hm=>by have:=zd (fun k:List UInt8=>1+k.length) hm; unfold vh sS at h; omega
 have r:=qkd m h;have e1:=Nk m (l:=c.where_) (by unfold vh at h; omega) 1;have e2:=TV m (x:=c.e) (by unfold vh at h; omega);have e3:=fl (s:=c.var_) (n:=n) (by unfold vh at h; omega) (by omega) m;have h40:40<n:=by omega
 unfold vh Un at h;have b1:([]:List qe).length=0:=rfl;have eb:dC Rz=5:=rfl;obtain⟨s,hs1,hs2⟩:∃ b,gS n (RR c) c=some b/\(b=true↔RR c=c):=by
  have z1:∀ {A:Type} {P:A->Prop},∀ a∈([]:List A),P a:=fun a ha=>by cases ha
  have z2:uF []<n:=by show 1<n; omega
  unfold RR
  repeat' split
  all_goals
   refine TX m ?_ ?_ ?_ ?_ ?_ ?_ ?_ ?_ ?_ ?_ ?_ ?_ ?_<;>simp only[td]<;>first|exact z1|exact z2|exact mi|exact mo|exact ms'|(intro p hm; have:=mp p hm; omega)|(simp only[jc,eb]; omega)|omega
 refine⟨s,hs2,?_⟩;have ho:=qpg n c;rw[qne]at ho;have l1:gy n c=(bif !s then some false else bif c.paths.all (EL n)then some (Ds n c)else some false):=by
  clear hs2;obtain⟨g,t,I,⟨J,K,⟨M,N,O,Q,u,v⟩,w,y⟩,z,C,D,E,F,G,j,o,H⟩:=c;simp only at hp hs hi ho hv mp ms mv e1 e2 e3 h;have eta:∀ (d:qd) {R:Type} (f:qd->Option R),(match d with|⟨S,T,U,⟨V,W,⟨X,Y,Z,a0,a1,a2⟩,a3,a4⟩,a5,a6,a7,a8,a9,b0,b2,b3,b4⟩=>f ⟨S,T,U,⟨V,W,⟨X,Y,Z,a0,a1,a2⟩,a3,a4⟩,a5,a6,a7,a8,a9,b0,b2,b3,b4⟩)=f d:=by
   intro d R f;obtain⟨g,t,I,⟨J,K,⟨M,N,O,Q,u,v⟩,w,y⟩,z,C,D,E,F,G,j,o,H⟩:=d;rfl
  unfold gy;simp only[ho,qc];refine Eq.trans (eta _ (fun d=>bnd (gS n d _) fun b5=>bif(!b5)then some false else qo (um n t g I J K M N O Q u v w y z C D E F G j o H) n (0:Int))) ?_
  simp only[hs1,qc];congr 1;have L:=zY (B:=um n t g I J K M N O Q u v w y z C D E F G j o H) (fun k=>((k:Nat):Int)) (l:=t) (fun p=>if EL n p then none else some false)
   (rest:=some (Ds n ⟨g,t,I,⟨J,K,⟨M,N,O,Q,u,v⟩,w,y⟩,z,C,D,E,F,G,j,o,H⟩))
   (fun k x nx i=>by
    have hk:=qL i;have h1:=qj3 m (mp x (qw i));obtain⟨y1,y2⟩:=x;simp only[um,zL,qx hk,kct,qf i,qc,h1];rw[qU (by omega)];cases EL n _<;>rfl)
   (fun nx=>by
    have A:∀ (d p:Bool),(bnd (qD d (some p)) fun b6=>some (bif d then b6 else false))=some (d&&p):=by intro d p; cases d<;>cases p<;>rfl
    have l3:=zY (B:=uo n j g) (fun k=>((k:Nat):Int)) (l:=j) (fun s=>if TM n (g==6) s then none else some false) (rest:=some (decide (((j.length:Nat):Int)>0)))
     (fun k x nx i=>by
      have hk:=qL i;have h1:=qnj m (ms x (qw i)) (g==6);obtain⟨z1,z2,z3,⟨y1,y2,⟨y3,y4,y5,y6,y7,y8⟩,y9,y10⟩⟩:=x;simp only[uo,qj.rows,jm,qx hk,kct,qf i,qc,h1];rw[qU (by omega)];cases TM n _ _<;>rfl)
     (fun nx=>by simp only[uo,qj.rows,jm,qm,kcf]) (n:=n) (by omega)
    rw[XV]at l3;have l3':qo (uo n j g) n (0:Int)=some (j.all (TM n (g==6))&&decide (((j.length:Nat):Int)>0)):=by
     refine Eq.trans l3 ?_;cases j.all (TM n (g==6))<;>rfl
    have l4:=zY (B:=uq n o) (fun k=>((k:Nat):Int)) (l:=o) (fun s=>if xl s then none else some false) (rest:=some (decide (((o.length:Nat):Int)>0)))
     (fun k x nx i=>by
      have hk:=qL i;have h1:=fl (s:=x) (n:=n) (by have:=mv x (qw i); omega) (by omega) m;simp only[uq,qn,qx hk,kct,qf i,qc,h1];rw[qU (by omega)];cases xl x<;>rfl)
     (fun nx=>by simp only[uq,qn,qm,kcf]) (n:=n) (by omega)
    rw[XV]at l4;have l4':qo (uq n o) n (0:Int)=some (o.all xl&&decide (((o.length:Nat):Int)>0)):=by
     refine Eq.trans l4 ?_;cases o.all xl<;>rfl
    simp only[um,cB,cC,zL,qm,kcf,e1,e2,e3,r,qc,l3',l4'];unfold Ds exS;simp only;by_cases k1:g=1
    ·subst k1; exact A _ _
    by_cases k2:g=2
    ·subst k2; exact A _ _
    by_cases k3:g=3
    ·subst k3; exact A _ _
    by_cases k9:g=9
    ·subst k9; exact A _ _
    by_cases k4:g=4
    ·subst k4; rfl
    by_cases k5:g=5
    ·subst k5
     match t with
     | []=>rfl
     | [p]=>obtain⟨p1,p2⟩:=p; show some ((((qy.rows p2).length:Nat):Int)==0)=some (((p2.length:Nat):Int)==0); rw[uL]
     | p::q::l=>
      have e1:((((p::q::l).length:Nat):Int)==(1:Int))=false:=by simp only[ja]; rw[kbf]; omega
      rw[e1]; rfl
    by_cases k6:g=6
    ·subst k6; rfl
    by_cases k7:g=7
    ·subst k7; rfl
    by_cases k8:g=8
    ·subst k8; rfl
    simp only[kbf.2 k1,kbf.2 k2,kbf.2 k3,kbf.2 k9,kbf.2 k4,kbf.2 k5,kbf.2 k6,kbf.2 k7,kbf.2 k8,kcf,k1,k2,k3,k9,k4,k5,k6,k7,k8,if_false,or_self]) (n:=n) (by omega)
  rw[XV]at L;exact L
 rw[l1];cases s<;>cases c.paths.all (EL n)<;>rfl
end W
end
section
open Go Ax
namespace W
theorem Uj {n:Nat} {A:Type} (f:A->zr) {l:List A} (h:l.length<=1048576):gOk n (l.map f,1,1048576)=(decide (((l.length:Nat):Int)>0)&&l.all (fun x=>oR n (f x))):=by
 unfold gOk;simp only[jm,List.all_map];rw[kdf (p:=((l.length:Nat):Int)>1048576) (by omega)];have:decide (((l.length:Nat):Int)<1)=!decide (((l.length:Nat):Int)>0):=by
  rw[Bool.eq_iff_iff]; simp only[kde,Bool.not_eq_true',decide_eq_false_iff_not]; omega
 rw[this];cases decide (((l.length:Nat):Int)>0)<;>rfl
theorem qff {n:Nat} {A:Type} (f:A->zr) {l:List A} (h:l.length<=1048576):gOk n (l.map f,0,1048576)=l.all (fun x=>oR n (f x)):=by
 unfold gOk;simp only[jm,List.all_map];rw[kdf (p:=((l.length:Nat):Int)>1048576) (by omega),kdf (p:=((l.length:Nat):Int)<0) (by omega)];rfl
theorem EB {n:Nat} {A:Type} (f:A->zr) {l:List A}:gOk n (l.map f,0,1)=(l.all (fun x=>oR n (f x))&&decide (((l.length:Nat):Int)<=1)):=by
 unfold gOk;simp only[jm,List.all_map];rw[kdf (p:=((l.length:Nat):Int)<0) (by omega)];have:decide (((l.length:Nat):Int)>1)=!decide (((l.length:Nat):Int)<=1):=by
  rw[Bool.eq_iff_iff]; simp only[kde,Bool.not_eq_true',decide_eq_false_iff_not]; omega
 rw[this];show(!(!decide (((l.length:Nat):Int)<=1))&&_)=_;rw[Bool.not_not,Bool.and_comm];rfl
theorem EC {n:Nat} (p:zr):gOk n ([p],1,1)=oR n p:=by
 show(true&&(oR n p&&true))=_;simp
theorem fj {A:Type} (x:A) (l:List A):((((x::l).length:Nat):Int)==0)=false:=by
 rw[kbf]; simp only[ja]; omega
theorem qha {n:Nat} {x:qe} (h:(dB x).1=0):Uo n x=false:=by
 obtain⟨op,name,val,names,args⟩:=x;have:op=0:=h;subst this;have:=qb3 (n:=n) (name:=name) (val:=val) (names:=names) (args:=args) (d:=32);unfold Uo;cases a:zT n ⟨0,name,val,names,args⟩ 32 with
 | none=>rfl
 | some b=>
  cases b with
  | false=>rfl
  | true=>exact absurd a this
structure LenOk (c:qd):Prop where
 paths:c.paths.length<=1048576
 items:c.items.length<=1048576
 order:c.order.length<=1048576
 sets:c.sets.length<=1048576
 vars:c.vars.length<=1048576
theorem qbi {c:qd} (a:vh c<=1048576):LenOk c:=by
 have hp:=zc dA (fun p=>by unfold dA; omega) c.paths
 have b:=zc ZI (fun p=>by unfold ZI; omega) c.items
 have d:=zc fY (fun p=>by unfold fY; omega) c.order
 have e:=zc fW (fun p=>by unfold fW; omega) c.sets
 have f:=xi c.vars;unfold vh Un at a;exact⟨by omega,by omega,by omega,by omega,by omega⟩
theorem qho {n:Nat} {c:qd} (F:LenOk c) (A:RR c=c) (G:¬ LH c) {ok:Bool} (r:ok=true\/(c.kind=2/\(dB c.e).1=0)) :
  (ok&&!((((Uz c).length:Nat):Int)==0)&&(Uz c).all (gOk n))=(c.paths.all (EL n)&&Ds n c):=by
 obtain⟨hp,H,I,J,K⟩:=F;obtain⟨B,j,o,z,y,k,C,t,u,v,m,w,D⟩:=c;simp only at hp H I J K r;by_cases k1:B=1
 ·subst k1
  have r:ok=true:=by rcases r with h|h; exact h; exact absurd h.1 (by decide)
  subst r;have e:(Uz ⟨1,j,o,z,y,k,C,t,u,v,m,w,D⟩)=[(j.map .path,1,1048576),(o.map .expr,0,1)]:=rfl;rw[e,fj,jw,jw,List.all_nil,Uj .path (by omega),EB];show(true&&(_&&j.all (EL n)&&(o.all (Uo n)&&decide (((o.length:Nat):Int)<=1)&&true)))=(j.all (EL n)&&(_&&(o.all (Uo n)&&_)));generalize j.all (EL n)=a;generalize o.all (Uo n)=b;generalize decide (((j.length:Nat):Int)>0)=d;generalize decide (((o.length:Nat):Int)<=1)=f;cases a<;>cases b<;>cases d<;>cases f<;>rfl
 by_cases k2:B=2
 ·subst k2
  have x:j=[]:=(congrArg qd.paths A).symm;subst x;have e:(Uz ⟨2,[],o,z,y,k,C,t,u,v,m,w,D⟩)=[([.expr z],1,1),([.name y],1,1)]:=rfl;rw[e,fj,jw,jw,List.all_nil,EC,EC];show(ok&&true&&(Uo n z&&(xl y&&true)))=(true&&(Uo n z&&xl y));rcases r with h|h
  ·subst h
   cases Uo n z<;>cases xl y<;>rfl
  ·rw[qha h.2]
   cases ok<;>rfl
 by_cases k3:B=3
 ·subst k3
  have r:ok=true:=by rcases r with h|h; exact h; exact absurd h.1 (by decide)
  subst r;have x:j=[]:=(congrArg qd.paths A).symm;subst x;have e:(Uz ⟨3,[],o,z,y,k,C,t,u,v,m,w,D⟩)=[(k.map .item,1,1048576),(t.map .sorted,0,1048576),(u.map .expr,0,1),(v.map .expr,0,1),(o.map .expr,0,1)]:=rfl;rw[e,fj,jw,jw,jw,jw,jw,List.all_nil,Uj .item (by omega),qff .sorted (by omega),EB,EB,EB];show(true&&true&&((_&&k.all (fun i=>xl i.as_&&Uo n i.e))&&(t.all (fun s=>Uo n s.e)&&(exS n u&&(exS n v&&(exS n o&&true))))))=(true&&((k.all (fun i=>xl i.as_&&Uo n i.e)&&(t.all (fun s=>Uo n s.e)&&(_&&(exS n u&&exS n v))))&&exS n o))
  generalize k.all _=a;generalize t.all _=b;generalize decide (((k.length:Nat):Int)>0)=d;generalize exS n u=f;generalize exS n v=g;generalize exS n o=h;cases a<;>cases b<;>cases d<;>cases f<;>cases g<;>cases h<;>rfl
 by_cases k9:B=9
 ·subst k9
  have r:ok=true:=by rcases r with h|h; exact h; exact absurd h.1 (by decide)
  subst r;have x:j=[]:=(congrArg qd.paths A).symm;subst x;have E:o=[]:=(congrArg qd.where_ A).symm;subst E;have e:(Uz ⟨9,[],[],z,y,k,C,t,u,v,m,w,D⟩)=[(k.map .item,1,1048576),(t.map .sorted,0,1048576),(u.map .expr,0,1),(v.map .expr,0,1)]:=rfl;rw[e,fj,jw,jw,jw,jw,List.all_nil,Uj .item (by omega),qff .sorted (by omega),EB,EB];show(true&&true&&((_&&k.all (fun i=>xl i.as_&&Uo n i.e))&&(t.all (fun s=>Uo n s.e)&&(exS n u&&(exS n v&&true)))))=(true&&((k.all (fun i=>xl i.as_&&Uo n i.e)&&(t.all (fun s=>Uo n s.e)&&(_&&(exS n u&&exS n v))))&&true))
  generalize k.all _=a;generalize t.all _=b;generalize decide (((k.length:Nat):Int)>0)=d;generalize exS n u=f;generalize exS n v=g;cases a<;>cases b<;>cases d<;>cases f<;>cases g<;>rfl
 by_cases k4:B=4
 ·subst k4
  have r:ok=true:=by rcases r with h|h; exact h; exact absurd h.1 (by decide)
  subst r;have e:(Uz ⟨4,j,o,z,y,k,C,t,u,v,m,w,D⟩)=[(j.map .path,1,1048576)]:=rfl;rw[e,fj,jw,List.all_nil,Uj .path (by omega)];show(true&&true&&((_&&j.all (EL n))&&true))=(j.all (EL n)&&decide (((j.length:Nat):Int)>0));generalize j.all (EL n)=a;generalize decide (((j.length:Nat):Int)>0)=d;cases a<;>cases d<;>rfl
 by_cases k5:B=5
 ·subst k5
  have r:ok=true:=by rcases r with h|h; exact h; exact absurd h.1 (by decide)
  subst r;have e:(Uz ⟨5,j,o,z,y,k,C,t,u,v,m,w,D⟩)=[(j.map .path,1,1)]:=rfl;rw[e,fj,jw,List.all_nil]
  match j with
  | []=>rfl
  | [⟨nodes,[]⟩]=>
   rw[show List.map zr.path [⟨nodes,[]⟩]=[.path ⟨nodes,[]⟩]from rfl,EC];show(true&&true&&(EL n ⟨nodes,[]⟩&&true))=((EL n ⟨nodes,[]⟩&&true)&&true);cases EL n ⟨nodes,[]⟩<;>rfl
  | [⟨nodes,e::es⟩]=>exact absurd ⟨rfl,_,rfl,by simp⟩ G
  | p::q::l=>
   have:gOk n (List.map zr.path (p::q::l),1,1)=false:=by
    unfold gOk;simp only[jm,ja];rw[kdt (p:=((l.length+1+1:Nat):Int)>1) (by omega),Bool.cond_eq_ite];simp
   rw[this];show _=((p::q::l).all (EL n)&&false);cases(p::q::l).all (EL n)<;>rfl
 by_cases k6:B=6
 ·subst k6
  have r:ok=true:=by rcases r with h|h; exact h; exact absurd h.1 (by decide)
  subst r;have x:j=[]:=(congrArg qd.paths A).symm;subst x;have e:(Uz ⟨6,[],o,z,y,k,C,t,u,v,m,w,D⟩)=[(m.map (fun s=>.change ⟨s,true⟩),1,1048576)]:=rfl;rw[e,fj,jw,List.all_nil,Uj _ (by omega)];show(true&&true&&((_&&m.all (TM n true))&&true))=(true&&(m.all (TM n true)&&_));generalize m.all (TM n true)=a;generalize decide (((m.length:Nat):Int)>0)=d;cases a<;>cases d<;>rfl
 by_cases k7:B=7
 ·subst k7
  have r:ok=true:=by rcases r with h|h; exact h; exact absurd h.1 (by decide)
  subst r;have x:j=[]:=(congrArg qd.paths A).symm;subst x;have e:(Uz ⟨7,[],o,z,y,k,C,t,u,v,m,w,D⟩)=[(m.map (fun s=>.change ⟨s,false⟩),1,1048576)]:=rfl;rw[e,fj,jw,List.all_nil,Uj _ (by omega)];show(true&&true&&((_&&m.all (TM n false))&&true))=(true&&(m.all (TM n false)&&_));generalize m.all (TM n false)=a;generalize decide (((m.length:Nat):Int)>0)=d;cases a<;>cases d<;>rfl
 by_cases k8:B=8
 ·subst k8
  have r:ok=true:=by rcases r with h|h; exact h; exact absurd h.1 (by decide)
  subst r;have x:j=[]:=(congrArg qd.paths A).symm;subst x;have e:(Uz ⟨8,[],o,z,y,k,C,t,u,v,m,w,D⟩)=[(w.map .name,1,1048576)]:=rfl;rw[e,fj,jw,List.all_nil,Uj .name (by omega)];show(true&&true&&((_&&w.all xl)&&true))=(true&&(w.all xl&&_));generalize w.all xl=a;generalize decide (((w.length:Nat):Int)>0)=d;cases a<;>cases d<;>rfl
 have e:(Uz ⟨B,j,o,z,y,k,C,t,u,v,m,w,D⟩)=[]:=by
  unfold Uz;simp only[k1,k2,k3,k9,k4,k5,k6,k7,k8,if_false,or_self]
 have e2:Ds n ⟨B,j,o,z,y,k,C,t,u,v,m,w,D⟩=false:=by
  unfold Ds;simp only[k1,k2,k3,k9,k4,k5,k6,k7,k8,if_false,or_self]
 rw[e,e2];cases ok<;>cases j.all (EL n)<;>rfl
end W
end
section
open Go Ax
namespace W
theorem qp1 {n:Nat} (H:n<=137438953472) {c:qd} (h:42+vh c<n) (E:RR c=c) (hp:c.paths.all (EL n)=true) (hm:Ds n c=true):WfC c:=by
 have mp:∀ p∈c.paths,42+dA p<n:=fun p hm=>by have:=zd dA hm; unfold vh Un at h; omega
 have mi:∀ p∈c.items,40+dC p.e<n:=fun p hm=>by have:=zd ZI hm; have e:ZI p=1+p.as_.length+dC p.e:=rfl; unfold vh at h; omega
 have mo:∀ p∈c.order,40+dC p.e<n:=fun p hm=>by have:=zd fY hm; have e:fY p=1+dC p.e:=rfl; unfold vh at h; omega
 have ms:∀ p∈c.sets,41+fW p<n:=fun p hm=>by have:=zd fW hm; unfold vh at h; omega
 have mw:∀ p∈c.where_,40+dC p<n:=fun p hm=>by have:=gH hm; unfold vh at h; omega
 have mk:∀ p∈c.skip,40+dC p<n:=fun p hm=>by have:=gH hm; unfold vh at h; omega
 have ml:∀ p∈c.limit,40+dC p<n:=fun p hm=>by have:=gH hm; unfold vh at h; omega
 have me:40+dC c.e<n:=by unfold vh at h; omega
 have wE:∀ {x:qe},40+dC x<n->Uo n x=true->WfE x:=by
  intro x G D;obtain⟨b,h1,_,h3⟩:=Fm H G;unfold Uo at D;rw[h1]at D;exact h3 D
 have wL:∀ {l:List qe},(∀ p∈l,40+dC p<n)->exS n l=true->∀ x∈l,WfE x:=by
  intro l J D x G;unfold exS at D;rw[jj,List.all_eq_true]at D;exact wE (J x G) (D.1 x G)
 have wP:∀ p∈c.paths,WfP p:=by
  intro p hm;obtain⟨b,h1,_,h3⟩:=TR H (mp p hm);have:=List.all_eq_true.1 hp p hm;unfold EL at this;rw[h1]at this;exact h3 this
 have wS:∀ {f:Bool} {ck:Int},(f=true↔ck=6)->c.sets.all (TM n f)=true->∀ s∈c.sets,WfSet ck s:=by
  intro f ck K D s F;have L:=ms s F;unfold fW at L;obtain⟨b,h1,_,h3⟩:=Nb H (s:=s) (by omega) f;have:=List.all_eq_true.1 D s F;unfold TM at this;rw[h1]at this;obtain⟨a1,a2⟩:=h3 this;rw[K]at a1 a2;exact⟨a1,a2⟩
 have wR:oZ n c=true->(∀ x∈c.where_,WfE x)->WfRows c:=by
  intro D hw;unfold oZ at D;simp only[jj]at D;obtain⟨h1,h2,h3,h4,M⟩:=D;refine⟨fun i I=>?_,fun s F=>?_,wL mk h4,wL ml M,hw⟩
  ·have:=List.all_eq_true.1 h1 i I
   rw[jj]at this;refine⟨wE (mi i I) this.2,fun e=>?_⟩;rw[e]at this;exact absurd this.1 (by decide)
  exact wE (mo s F) (List.all_eq_true.1 h2 s F)
 clear h mp;obtain⟨g,m,d,o,k,t,u,v,y,z,j,B,C⟩:=c;simp only at mi mo ms mw mk ml me wP wS wR hp;have nil:∀ {A:Type} {P:A->Prop},∀ a∈([]:List A),P a:=fun a N=>by cases N
 by_cases k1:g=1
 ·subst k1
  have r:(decide (((m.length:Nat):Int)>0)&&exS n d)=true:=hm;rw[jj]at r;exact⟨wP,wL mw r.2,fun h=>absurd (show(1:Int)=2 from h) (by decide),fun h=>absurd (show(1:Int)=5 from h) (by decide),fun h=>absurd (show(1:Int)=6\/(1:Int)=7 from h) (by decide),fun h=>absurd (show(1:Int)=3\/(1:Int)=9 from h) (by decide),by simp⟩
 by_cases k2:g=2
 ·subst k2
  have hw:([]:List qe)=d:=congrArg qd.where_ E;subst hw;have r:(Uo n o&&xl k)=true:=hm;rw[jj]at r;exact⟨wP,nil,fun _=>⟨wE me r.1,fun e=>by have e:k=[]:=e; rw[e]at r; exact absurd r.2 (by decide)⟩,fun h=>absurd (show(2:Int)=5 from h) (by decide),fun h=>absurd (show(2:Int)=6\/(2:Int)=7 from h) (by decide),fun h=>absurd (show(2:Int)=3\/(2:Int)=9 from h) (by decide),by simp⟩
 by_cases k3:g=3
 ·subst k3
  have r:(oZ n ⟨3,m,d,o,k,t,u,v,y,z,j,B,C⟩&&exS n d)=true:=hm;rw[jj]at r;have w:=wL mw r.2;exact⟨wP,w,fun h=>absurd (show(3:Int)=2 from h) (by decide),fun h=>absurd (show(3:Int)=5 from h) (by decide),fun h=>absurd (show(3:Int)=6\/(3:Int)=7 from h) (by decide),fun _=>wR r.1 w,by simp⟩
 by_cases k9:g=9
 ·subst k9
  have r:(oZ n ⟨9,m,d,o,k,t,u,v,y,z,j,B,C⟩&&exS n d)=true:=hm;rw[jj]at r;have w:=wL mw r.2;exact⟨wP,w,fun h=>absurd (show(9:Int)=2 from h) (by decide),fun h=>absurd (show(9:Int)=5 from h) (by decide),fun h=>absurd (show(9:Int)=6\/(9:Int)=7 from h) (by decide),fun _=>wR r.1 w,by simp⟩
 by_cases k4:g=4
 ·subst k4
  have hw:([]:List qe)=d:=congrArg qd.where_ E;subst hw;exact⟨wP,nil,fun h=>absurd (show(4:Int)=2 from h) (by decide),fun h=>absurd (show(4:Int)=5 from h) (by decide),fun h=>absurd (show(4:Int)=6\/(4:Int)=7 from h) (by decide),fun h=>absurd (show(4:Int)=3\/(4:Int)=9 from h) (by decide),by simp⟩
 by_cases k5:g=5
 ·subst k5
  have hw:([]:List qe)=d:=congrArg qd.where_ E;subst hw;refine⟨wP,nil,fun h=>absurd (show(5:Int)=2 from h) (by decide),fun _=>?_,fun h=>absurd (show(5:Int)=6\/(5:Int)=7 from h) (by decide),fun h=>absurd (show(5:Int)=3\/(5:Int)=9 from h) (by decide),by simp⟩
  match m with
  | []=>exact absurd (show false=true from hm) (by decide)
  | [p]=>exact⟨p,rfl⟩
  | p::q::l=>exact absurd (show false=true from hm) (by decide)
 by_cases k6:g=6
 ·subst k6
  have hw:([]:List qe)=d:=congrArg qd.where_ E;subst hw;have r:(j.all (TM n true)&&decide (((j.length:Nat):Int)>0))=true:=hm;rw[jj]at r;exact⟨wP,nil,fun h=>absurd (show(6:Int)=2 from h) (by decide),fun h=>absurd (show(6:Int)=5 from h) (by decide),fun _=>wS (by simp) r.1,fun h=>absurd (show(6:Int)=3\/(6:Int)=9 from h) (by decide),by simp⟩
 by_cases k7:g=7
 ·subst k7
  have hw:([]:List qe)=d:=congrArg qd.where_ E;subst hw;have r:(j.all (TM n false)&&decide (((j.length:Nat):Int)>0))=true:=hm;rw[jj]at r;exact⟨wP,nil,fun h=>absurd (show(7:Int)=2 from h) (by decide),fun h=>absurd (show(7:Int)=5 from h) (by decide),fun _=>wS (by simp) r.1,fun h=>absurd (show(7:Int)=3\/(7:Int)=9 from h) (by decide),by simp⟩
 by_cases k8:g=8
 ·subst k8
  have hw:([]:List qe)=d:=congrArg qd.where_ E;subst hw;exact⟨wP,nil,fun h=>absurd (show(8:Int)=2 from h) (by decide),fun h=>absurd (show(8:Int)=5 from h) (by decide),fun h=>absurd (show(8:Int)=6\/(8:Int)=7 from h) (by decide),fun h=>absurd (show(8:Int)=3\/(8:Int)=9 from h) (by decide),by simp⟩
 have e2:Ds n ⟨g,m,d,o,k,t,u,v,y,z,j,B,C⟩=false:=by
  unfold Ds;simp only[k1,k2,k3,k9,k4,k5,k6,k7,k8,if_false,or_self]
 rw[e2]at hm;cases hm
def qm7 (n:Nat) (c:qd):Bool:=(gy n c).getD false
theorem Ex {n:Nat} (k:n<=137438953472) {c:qd} (h:42+vh c<n) (t:LenOk c) :
  gy n c=some (qm7 n c)/\(qm7 n c=true->WfC c/\RR c=c/\c.paths.all (EL n)=true/\Ds n c=true)/\∃ d ok,mW n c=some (d,ok)/\d.length<=5/\(∀ g∈d,g.parts.length<n/\∀ p∈g.parts,42+Lx p<n) /\
   (ok&&!(((d.length:Nat):Int)==0)&&(d.map g3).all (gOk n))=qm7 n c:=by
 obtain⟨s,j,he⟩:=lU k h;have b:qm7 n c=(s&&(c.paths.all (EL n)&&Ds n c)):=by unfold qm7; rw[he]; rfl
 refine⟨by rw[he,b],fun a=>?_,?_⟩
 ·rw[b]at a
  simp only[jj]at a;exact⟨qp1 k h (j.1 a.1) a.2.1 a.2.2,j.1 a.1,a.2.1,a.2.2⟩
 rcases qfq k (c:=c) (by omega)with ⟨⟨l,p,hp,m⟩,o⟩|⟨a,d,ok,o,f,h1,h2⟩
 ·refine⟨[],false,o,by simp,(fun g q=>by cases q),?_⟩
  have:Ds n c=false:=by
   unfold Ds;rw[l,hp];have:(((p.edges.length:Nat):Int)==0)=false:=by
    rw[kbf];intro e;have:p.edges.length=0:=by omega
    exact m (List.length_eq_zero_iff.1 this)
   exact this
  rw[b,this];cases s<;>cases c.paths.all (EL n)<;>rfl
 ·have hlen:d.length=(Uz c).length:=by rw[← f,jm]
  refine⟨d,ok,o,?_,fun g q=>?_,?_⟩
  ·rw[hlen]
   unfold Uz
   repeat' split
   all_goals simp
  ·have:=qae (Nat.le_refl (vh c)) (g3 g) (by rw[← f]; exact List.mem_map.2 ⟨g,q,rfl⟩)
   simp only[g3]at this;exact⟨by omega,fun p hp=>by have:=this.2 p hp; omega⟩
  rw[b,f,hlen];cases i:s with
  | false=>
   have:ok=false:=by
    cases ok with
    | false=>rfl
    | true=>have:=j.2 (h1 rfl); rw[i]at this; cases this
   rw[this]; rfl
  | true=>
   have r:=j.1 i;rw[qho t r a (h2 r)];rfl
end W
end
section
open Go Ax
namespace W
def wr (k:Int):Bool:=bif decide (k≥4)then decide (k<=8)else false
theorem qdh (n:Nat) (k:Int):QG n k=some (wr k):=by
 unfold QG wr;congr 1;by_cases h4:k=4; · subst h4; rfl
 by_cases a:k=5; · subst a; rfl
 by_cases b:k=6; · subst b; rfl
 by_cases d:k=7; · subst d; rfl
 by_cases e:k=8; · subst e; rfl
 rw[kbf.2 h4,kbf.2 a,kbf.2 b,kbf.2 d,kbf.2 e];by_cases h:k≥4
 ·rw[kdt h,kdf (by omega)]; rfl
 rw[kdf h]; rfl
def qf8 (cl:List qd):Bool:=match cl.getLast? with|some c=>(c.kind==9)||wr c.kind|none=>false
def qmp (cl:List qd):Bool:=(decide (0<cl.length)&&decide (cl.length<=64))&&qf8 cl
def Xk (n:Nat):List qd->Bool
 | []=>true
 | c::l=>(qm7 n c&&!((c.kind==9)&&!l.isEmpty))&&Xk n l
def Bv (n:Nat) (cl:List qd):Bool:=qmp cl&&Xk n cl
theorem qm8 {n:Nat} {cl:List qd} (h:Bv n cl=true):0<cl.length/\cl.length<=64:=by
 unfold Bv qmp at h;simp only[jj,kde]at h;exact h.1.1
theorem oY:∀ (ok e a nine lt r:Bool),(bif bif bif !ok then true else e then true else bif nine then lt else false then some false else bif a then some r else some false)=some (((ok&&!e&&a)&&!(nine&&lt))&&r):=by
 intro ok e a nine lt r;cases ok<;>cases e<;>cases a<;>cases nine<;>cases lt<;>cases r<;>rfl
theorem qe2 {cl:List qd} {k:Nat}:decide ((((k+1:Nat):Int))<((cl.length:Nat):Int))=!(cl.drop (k+1)).isEmpty:=by
 rw[Bool.eq_iff_iff,kde,Bool.not_eq_true',List.isEmpty_eq_false_iff,ne_eq,List.drop_eq_nil_iff];omega
section
variable {n:Nat} (hn:n<=137438953472) {cl:List qd} (h:42+xq cl<n) (hM:∀ c∈cl,LenOk c)
include hn h hM
theorem qdm:∀ m k:Nat,k<=cl.length->cl.length - k<m->qo (uI n cl) m (k:Int)=some (Xk n (cl.drop k)):=by
 have hlen:=zc vh sD cl;unfold xq at h;intro m
 induction m with
 | zero=>intro k _ h; omega
 | succ m ih=>
  intro k B hm;rw[qO];by_cases he:k=cl.length
  ·subst he
   rw[List.drop_length];simp only[uI,zA,qm,kcf];rfl
  have b:k<cl.length:=by omega
  have e:=jf b;rw[jo b];generalize cl[k]=x at e;have C:=zd vh (qw e);obtain⟨_,_,D,ok,g,i,f,a⟩:=Ex hn (c:=x) (by omega) (hM _ (qw e));have d:=od hn f (by omega) (qo (uI n cl) m) (k:=k) (by omega);rw[ih (k+1) (by omega) (by omega)]at d;have j:=qe2 (cl:=cl) (k:=k);unfold Xk;rw[← a];clear a;obtain⟨x1,x2,E,⟨F,G,⟨H,I,J,K,l,o⟩,p,q⟩,r,s,t,u,v,w,y,z,A⟩:=x;simp only[uI,zA,qx b,kct,qf e,qc,g,Uk,d];rw[qU (by omega),j];exact oY _ _ _ _ _ _
theorem qm9 (e:Int->Option Bool):nB n cl e ((cl.length:Nat):Int)=some (qmp cl):=by
 have hlen:=zc vh sD cl;unfold xq at h;simp only[nB,zA,qm,kcf,qdh];by_cases a:cl=[]
 ·subst a; rfl
 obtain⟨l,c,rfl⟩:∃ l c,cl=l++[c]:=⟨cl.dropLast,cl.getLast a,(List.dropLast_concat_getLast a).symm⟩;have e1:kwr .i64 ((((l++[c]).length:Nat):Int) - 1)=((l.length:Nat):Int):=by
  rw[UW (by omega) (by omega)]; simp
 have e2:(l++[c])[l.length]? =some c:=by simp
 have e3:qf8 (l++[c])=((c.kind==9)||wr c.kind):=by unfold qf8; simp
 rw[e1,qf e2];unfold qmp;rw[e3];have e4:decide ((((l++[c]).length:Nat):Int)>0)=true:=kdt (by simp only[jb,ja,jc]; omega);have e5:decide (0<(l++[c]).length)=true:=kdt (by simp);have e6:decide ((((l++[c]).length:Nat):Int)<=64)=decide ((l++[c]).length<=64):=by
  rw[Bool.eq_iff_iff]; simp only[kde]; omega
 rw[e4,e5,e6,kct];generalize decide ((l++[c]).length<=64)=d;clear e1 e2 e3 e4 e5 e6 h hM hlen a;obtain⟨b,x2,v,⟨w,x,⟨y,z,A,B,f,g⟩,i,j⟩,k,m,o,p,q,r,s,t,u⟩:=c;cases d with
 | false=>rfl
 | true=>
  simp only[zg,qc,Bool.true_and];cases C:(b==9)with
  | true=>rfl
  | false=>
   simp only[jp,zg,qc];rfl
theorem qjm:∀ m k:Nat,k<=cl.length->cl.length - k<m->qo (nB n cl) m (k:Int)=bif Xk n (cl.drop k)then some (qmp cl)else some false:=by
 have hlen:=zc vh sD cl;have d:=qm9 hn h hM;unfold xq at h;intro m
 induction m with
 | zero=>intro k _ h; omega
 | succ m ih=>
  intro k z hm;rw[qO];by_cases he:k=cl.length
  ·subst he
   rw[List.drop_length,d];rfl
  have a:k<cl.length:=by omega
  have f:=jf a;rw[jo a];generalize cl[k]=x at f;have A:=zd vh (qw f);obtain⟨e,_⟩:=Ex hn (c:=x) (by omega) (hM _ (qw f));have g:=qe2 (cl:=cl) (k:=k);have ih':=ih (k+1) (by omega) (by omega);unfold Xk;obtain⟨b,x2,B,⟨C,D,⟨E,F,G,H,i,j⟩,l,o⟩,p,q,r,s,t,u,v,w,y⟩:=x;simp only[nB,zA,qx a,kct,qf f,qc,e];rw[qU (by omega),g,ih'];cases qm7 n _ with
  | false=>rfl
  | true=>
   simp only[jq,jp,zg,qc,kcf];cases(b==9)<;>cases(cl.drop (k+1)).isEmpty<;>rfl
theorem qgi:QF n ⟨cl⟩=some (Bv n cl):=by
 have hlen:=zc vh sD cl;have e:=qjm hn h hM n 0 (by omega) (by unfold xq at h; omega);unfold QF Bv;refine Eq.trans e ?_;rw[List.drop_zero];cases Xk n cl<;>cases qmp cl<;>rfl
theorem az:pZ n ⟨cl⟩=some (Bv n cl):=by
 have hlen:=zc vh sD cl;have e:=qdm hn h hM n 0 (by omega) (by unfold xq at h; omega);rw[List.drop_zero]at e;unfold pZ Bv;unfold xq at h;simp only[zA,Qu];by_cases a:cl=[]
 ·subst a; rfl
 obtain⟨l,c,rfl⟩:∃ l c,cl=l++[c]:=⟨cl.dropLast,cl.getLast a,(List.dropLast_concat_getLast a).symm⟩;have e1:kwr .i64 ((((l++[c]).length:Nat):Int) - 1)=((l.length:Nat):Int):=by
  rw[UW (by omega) (by omega)]; simp
 have e2:(l++[c])[l.length]? =some c:=by simp
 have e3:qf8 (l++[c])=((c.kind==9)||wr c.kind):=by unfold qf8; simp
 rw[e1,qf e2];unfold qmp;rw[e3];have e4:decide ((((l++[c]).length:Nat):Int)<1)=false:=kdf (by simp only[jb,ja,jc]; omega);have e5:decide (0<(l++[c]).length)=true:=kdt (by simp);have e6:decide ((((l++[c]).length:Nat):Int)>64)=!decide ((l++[c]).length<=64):=by
  rw[Bool.eq_iff_iff]; simp only[kde,Bool.not_eq_true',decide_eq_false_iff_not]; omega
 rw[e4,e5,e6,kcf];have e':qo (uI n (l++[c])) n 0=some (Xk n (l++[c])):=e;rw[e'];generalize Xk n (l++[c])=g;generalize decide ((l++[c]).length<=64)=d;clear e1 e2 e3 e4 e5 e6 h hM hlen a e e';obtain⟨b,x2,w,⟨x,y,⟨z,A,B,C,f,i⟩,j,k⟩,m,o,p,q,r,s,t,u,v⟩:=c;cases d with
 | false=>rfl
 | true=>
  simp only[jq,jp,zg,qc,Bool.true_and];unfold wr;cases(bif decide (b≥4)then decide (b<=8)else false)with
  | true=>cases(b==9)<;>cases g<;>rfl
  | false=>
   simp only[jp,zg,qc];unfold bne;cases(b==9)<;>cases g<;>rfl
theorem TN:Bv n cl=true->∀ c∈cl,WfC c:=by
 unfold xq at h;intro hm;unfold Bv at hm;rw[jj]at hm;have key:∀ l:List qd,(∀ c∈l,c∈cl)->Xk n l=true->∀ c∈l,WfC c:=by
  intro l
  induction l with
  | nil=>intro _ _ c b; cases b
  | cons a l ih=>
   intro d e c b;simp only[Xk,jj]at e;have f:=zd vh (d a (by simp));rcases jg.1 b with rfl|b
   ·exact((Ex hn (c:=c) (by omega) (hM _ (d c (by simp)))).2.1 e.1.1).1
   exact ih (fun c b=>d c (by simp[b])) e.2 c b
 exact key cl (fun c b=>b) hm.2
end
end W
end
section
open Go Ax
namespace W
theorem QC {R:Type} {B:(Int×Int->Option R)->Int×Int->Option R} {len:Nat} (K:Int->Option R) (c:∀ k:Nat,k<len->∀ (acc:Int) (b:Int×Int->Option R),B b (acc,(k:Int))=K acc\/∃ a,B b (acc,(k:Int))=b (a,((k+1:Nat):Int)))
  (he:∀ (acc:Int) (b:Int×Int->Option R),B b (acc,(len:Int))=K acc) {n:Nat} (d:len<n) (acc:Int):∃ a,qo B n (acc,(0:Int))=K a:=by
 have key:∀ (m k:Nat) (acc:Int),k<=len->len - k<m->∃ a,qo B m (acc,(k:Int))=K a:=by
  intro m
  induction m with
  | zero=>intro k _ _ h; omega
  | succ m ih=>
   intro k acc e hm;rw[qO];by_cases h:k=len
   ·subst h; exact⟨_,he _ _⟩
   rcases c k (by omega) acc (qo B m)with h|⟨a,h⟩
   ·exact⟨_,h⟩
   rw[h]; exact ih (k+1) a (by omega) (by omega)
 exact key n 0 acc (by omega) (by omega)
theorem qgx:∀ n:Nat,n<=137438953472->∀ v:Val,tm v<n->∃ r,nw n v=some r:=by
 intro n
 induction n with
 | zero=>intro _ v h; omega
 | succ n ih=>
  intro i v e;obtain⟨x1,x2,j,l,b,m⟩:=v;have o:=vD b;simp only[tm]at e;simp only[nw,Xs];obtain⟨a,h⟩:=QC (B:=mm n b (nw n)) (len:=b.length) some
   (fun k d acc f=>by
    have c:=jf d;generalize b[k]=y at c;obtain⟨r,g⟩:=ih (by omega) y (by have:=vM (qw c); omega);obtain⟨y1,y2,p,q,s,t⟩:=y
    right
    simp only[mm,ze,qx d,kct,qf c,qc,g];rw[qU (by omega)];exact⟨_,rfl⟩)
   (fun acc f=>by simp only[mm,ze,qm,kcf]) (n:=n) (by omega) 1
  exact⟨_,h⟩
theorem GZ:∀ n:Nat,n<=137438953472->∀ x:qe,dC x<n->∀ m:Int,∃ r,gT n x m=some r:=by
 intro n
 induction n with
 | zero=>intro _ v h; omega
 | succ n ih=>
  intro u x j m;obtain⟨x1,x2,⟨c,d,e,f,g,i⟩,w,b⟩:=x;have z:=xY b;simp only[dC]at j;obtain⟨p,hp⟩:=qgx n (by omega) ⟨c,d,e,f,g,i⟩ (by omega);simp only[gT,Xu,hp,qc];obtain⟨a,h⟩:=QC (B:=mD n b m (gT n)) (len:=b.length) some
   (fun k l acc q=>by
    have j:=jf l;generalize b[k]=y at j;simp only[mD,qu,qx l,kct];by_cases o:acc<m
    ·obtain⟨r,s⟩:=ih (by omega) y (by have:=gH (qw j); omega) (kwr .i64 (m - acc))
     obtain⟨y1,y2,⟨A,C,D,E,F,G⟩,H,t⟩:=y
     right
     simp only[kdt o,kct,qf j,qc,s];rw[qU (by omega)];exact⟨_,rfl⟩
    left; rw[kdf o]; rfl)
   (fun acc q=>by simp only[mD,qu,qm,kcf]) (n:=n) (by omega) _
  exact⟨_,h⟩
theorem Zc {n:Nat} (d:n<=137438953472) {l:List qe} (h:uF l<n) (m:Int):∃ r,gu n l m=some r:=by
 have i:=xY l;unfold gu;exact QC (B:=fA n l m) (len:=l.length) some
  (fun k b acc e=>by
   have a:=jf b;generalize l[k]=y at a;simp only[fA,qu,qx b,kct];by_cases c:acc<m
   ·obtain⟨r,f⟩:=GZ n d y (by have:=gH (qw a); omega) (kwr .i64 (m - acc))
    obtain⟨y1,y2,⟨j,o,p,q,s,t⟩,u,g⟩:=y
    right
    simp only[kdt c,kct,qf a,qc,f];rw[qU (by omega)];exact⟨_,rfl⟩
   left; rw[kdf c]; rfl)
  (fun acc e=>by simp only[fA,qu,qm,kcf]) (n:=n) (by omega) 0
theorem Nz {n:Nat} (L:n<=137438953472) {cl:List qd} (h:xq cl<n):∃ r,sH n ⟨cl⟩=some r:=by
 have hlen:=zc vh sD cl;unfold xq at h;unfold sH;obtain⟨a,e⟩:=QC (B:=my n cl) (len:=cl.length) (fun acc=>some (decide (acc≥3000)))
  (fun k T acc H=>by
   have R:=jf T;generalize cl[k]=c at R;have K:vh c<n:=by have:=zd vh (qw R); omega
   simp only[my,zA,qx T,kct];by_cases x:acc<3000
   ·right
    have hp:=zc dA (fun p=>by unfold dA; omega) c.paths
    have M:=zc ZI (fun p=>by unfold ZI; omega) c.items
    have V:=zc fY (fun p=>by unfold fY; omega) c.order
    have X:=zc fW (fun p=>by unfold fW; omega) c.sets
    have mp:∀ p∈c.paths,dA p<n:=fun p hm=>by have:=zd dA hm; unfold vh Un at K; omega
    have mi:∀ p∈c.items,dC p.e<n:=fun p hm=>by have:=zd ZI hm; have e:ZI p=1+p.as_.length+dC p.e:=rfl; unfold vh at K; omega
    have mo:∀ p∈c.order,dC p.e<n:=fun p hm=>by have:=zd fY hm; have e:fY p=1+dC p.e:=rfl; unfold vh at K; omega
    have ms:∀ p∈c.sets,dC p.e<n:=fun p hm=>by have:=zd fW hm; have e:fW p=1+p.var_.length+p.key.length+p.label.length+dC p.e:=rfl; unfold vh at K; omega
    obtain⟨r1,h1⟩:=GZ n L c.e (by unfold vh at K; omega) 3000;obtain⟨r2,h2⟩:=Zc L (l:=c.where_) (by unfold vh at K; omega) 3000;obtain⟨r3,h3⟩:=Zc L (l:=c.skip) (by unfold vh at K; omega) 3000;obtain⟨r4,h4⟩:=Zc L (l:=c.limit) (by unfold vh at K; omega) 3000;unfold vh Un at K;obtain⟨x1,q,x6,⟨x7,x8,⟨x9,Y,Z,x12,x13,x14⟩,x15,x16⟩,x17,o,x19,g,x21,x22,f,x24,x25⟩:=c;simp only at hp M V X mp mi mo ms h1 h2 h3 h4 K;simp only[kdt x,kct,qf R,qc,h1,h2,h3,h4];have L7:∀ acc:Int,∃ m,qo (fq n f H (k:Int)) n (acc,(0:Int))=H (m,((k+1:Nat):Int)):=fun acc=>QC (B:=fq n f H (k:Int)) (len:=f.length) (fun acc=>H (acc,((k+1:Nat):Int)))
     (fun j J acc v=>by
      have G:=jf J;generalize f[j]=y at G;simp only[fq,qj.rows,jm,qx J,kct];by_cases x:acc<3000
      ·obtain⟨r,I⟩:=GZ n L y.e (ms y (qw G)) 3000
       obtain⟨U,z2,z3,⟨s,u,⟨w,z,A,C,D,E⟩,F,t⟩⟩:=y;simp only at I
       right
       simp only[kdt x,kct,qf G,qc,I];rw[qU (k:=j) (by omega)];exact⟨_,rfl⟩
      left; rw[kdf x,kcf,qU (by omega)])
     (fun acc v=>by
      simp only[fq,qj.rows,jm,qm,kcf];rw[qU (by omega)]) (n:=n) (by omega) acc
    have L6:∀ acc:Int,∃ m,qo (fp n g f H (k:Int)) n (acc,(0:Int))=H (m,((k+1:Nat):Int)):=fun acc=>by
     obtain⟨a,P⟩:=QC (B:=fp n g f H (k:Int)) (len:=g.length) (fun acc=>qo (fq n f H (k:Int)) n (acc,(0:Int)))
      (fun j J acc v=>by
       have G:=jf J;generalize g[j]=y at G;simp only[fp,qS.rows,jm,qx J,kct];by_cases x:acc<3000
       ·obtain⟨r,I⟩:=GZ n L y.e (mo y (qw G)) 3000
        obtain⟨⟨s,u,⟨w,z,A,C,D,E⟩,F,t⟩,U⟩:=y;simp only at I
        right
        simp only[kdt x,kct,qf G,qc,I];rw[qU (k:=j) (by omega)];exact⟨_,rfl⟩
       left; rw[kdf x,kcf])
      (fun acc v=>by simp only[fp,qS.rows,jm,qm,kcf]) (n:=n) (by omega) acc
     rw[P]; exact L7 a
    have L5:∀ acc:Int,∃ m,qo (fo n o g f H (k:Int)) n (acc,(0:Int))=H (m,((k+1:Nat):Int)):=fun acc=>by
     obtain⟨a,P⟩:=QC (B:=fo n o g f H (k:Int)) (len:=o.length) (fun acc=>qo (fp n g f H (k:Int)) n (acc,(0:Int)))
      (fun j J acc v=>by
       have G:=jf J;generalize o[j]=y at G;simp only[fo,xM.rows,jm,qx J,kct];by_cases x:acc<3000
       ·obtain⟨r,I⟩:=GZ n L y.e (mi y (qw G)) 3000
        obtain⟨⟨s,u,⟨w,z,A,C,D,E⟩,F,t⟩,U⟩:=y;simp only at I
        right
        simp only[kdt x,kct,qf G,qc,I];rw[qU (k:=j) (by omega)];exact⟨_,rfl⟩
       left; rw[kdf x,kcf])
      (fun acc v=>by simp only[fo,xM.rows,jm,qm,kcf]) (n:=n) (by omega) acc
     rw[P]; exact L6 a
    have L2:∀ acc:Int,∃ m,qo (dm n q o g f H (k:Int)) n (acc,(0:Int))=H (m,((k+1:Nat):Int)):=fun acc=>by
     obtain⟨a,P⟩:=QC (B:=dm n q o g f H (k:Int)) (len:=q.length) (fun acc=>qo (fo n o g f H (k:Int)) n (acc,(0:Int)))
      (fun j J acc v=>by
       have G:=jf J;generalize q[j]=p at G;have Q:=mp p (qw G);simp only[dm,zL,qx J,kct];by_cases x:acc<3000
       ·right
        rw[kdt x,kct];obtain⟨nodes,edges⟩:=p;unfold dA at Q;simp only at Q;have hn1:=zc fK (fun p=>by unfold fK; omega) nodes
        have hn2:=zc bW (fun p=>by unfold bW; omega) edges
        obtain⟨b,S⟩:=QC (B:=mz n q (j:Int) v) (len:=nodes.length) (fun acc=>qo (dn n q (j:Int) v) n (acc,(0:Int)))
         (fun i M acc N=>by
          have hz:=jf M;generalize nodes[i]=d at hz;have O:fK d<n:=by have:=zd fK (qw hz); omega
          simp only[mz,qf G,qc,zJ,qx M,kct];by_cases x:acc<3000
          ·obtain⟨r,I⟩:=Zc L (l:=d.vals) (by unfold fK at O; omega) 3000
           obtain⟨d1,d2,d3,d4⟩:=d;simp only at I
           right
           simp only[kdt x,kct,qf hz,qc,I];rw[qU (k:=i) (by omega)];exact⟨_,rfl⟩
          left; rw[kdf x,kcf])
         (fun acc N=>by simp only[mz,qf G,qc,zJ,qm,kcf]) (n:=n) (by omega) acc
        rw[S];exact QC (B:=dn n q (j:Int) v) (len:=edges.length) (fun acc=>v (acc,((j+1:Nat):Int)))
         (fun i M acc N=>by
          have hz:=jf M;generalize edges[i]=d at hz;have O:bW d<n:=by have:=zd bW (qw hz); omega
          simp only[dn,qf G,qc,uL,qx M,kct];by_cases x:acc<3000
          ·obtain⟨r,I⟩:=Zc L (l:=d.vals) (by unfold bW at O; omega) 3000
           obtain⟨d1,d2,d3,d4,d5⟩:=d;simp only at I
           right
           simp only[kdt x,kct,qf hz,qc,I];rw[qU (k:=i) (by omega)];exact⟨_,rfl⟩
          left; rw[kdf x,kcf,qU (by omega)])
         (fun acc N=>by
          simp only[dn,qf G,qc,uL,qm,kcf];rw[qU (by omega)]) (n:=n) (by omega) b
       left; rw[kdf x,kcf])
      (fun acc v=>by simp only[dm,zL,qm,kcf]) (n:=n) (by omega) acc
     rw[P]; exact L5 a
    exact L2 _
   left; rw[kdf x]; rfl)
  (fun acc H=>by simp only[my,zA,qm,kcf]) (n:=n) (by omega) 0
 exact⟨_,e⟩
end W
end
section
open Go Ax
namespace W
theorem Xn {n:Nat} {x:List (List UInt8)} (h:x.length<n) (hn:n<=137438953472):qY n x x=some true:=by
 obtain⟨b,h1,h2⟩:=xt (y:=x) h hn;rw[h1,h2.2 rfl]
theorem qa3:∀ (l:List qd) (t v:Env),EnvOk t->(∀ c∈l,WfC c)->uT sN t l=.inr v->EnvOk v/\v.length<=t.length+2 * (l.map vh).sum
 | [],t,v,ht,_,e=>by cases e; exact⟨ht,by omega⟩
 | c::l,t,v,ht,hw,e=>by
  simp only[uT,sN]at e;by_cases a:(gm t c).1=0
  ·rw[if_neg (by simpa using a)]at e
   have h1:=RC ht (hw c (by simp)) a;have h2:=qa3 l _ v h1.1 (fun c b=>hw c (by simp[b])) e
   simp only[jl,jB];exact⟨h2.1,by omega⟩
  rw[if_pos a]at e; cases e
theorem qkk (cl:List qd) (m:Nat):((cl.take m).map vh).sum<=(cl.map vh).sum:=by
 have a:cl.take m++cl.drop m=cl:=List.take_append_drop m cl;have:((cl.take m++cl.drop m).map vh).sum=((cl.take m).map vh).sum+((cl.drop m).map vh).sum:=by rw[ka,List.sum_append]
 rw[a]at this;omega
theorem qgn {may:Bool} {cl:List qd} (hw:may=true->∀ c∈cl,WfC c) (at_:Int):(uM may cl at_).1.length<=2 * xq cl/\(uM may cl at_).2.1.length<=2 * xq cl:=by
 unfold uM xq;split
 ·simp
 rename_i b;simp only[not_or,Bool.not_eq_false]at b;have f:=qkk cl at_.toNat;cases d:uT sN [] (cl.take at_.toNat)with
 | inl e=>simp
 | inr v=>
  have:=(qa3 _ _ v Rp (fun c a=>hw b.1 c (List.mem_of_mem_take a)) d).2
  simp only[jm,jc]at this ⊢;omega
section
variable {n:Nat} (hn:n<=137438953472) {cl:List qd} (h:8 * xq cl+400<n) (hM:∀ c∈cl,LenOk c)
include hn h hM
theorem RQ (at_:Int):bQ n ⟨cl⟩ at_=some (uM (Bv n cl) cl at_)/\sI n ⟨cl⟩ at_=some (uM (Bv n cl) cl at_):=
 ⟨HR hn (az hn (by omega) hM) (TN hn (by omega) hM) (by omega) at_,PC hn (qgi hn (by omega) hM) (TN hn (by omega) hM) (by omega) at_⟩
def QU (may:Bool) (cl:List qd):List (List UInt8)×Int:=
 let r:=uM may cl cl.length
 if r.2.2=0/\(∃ c,cl.getLast? =some c/\c.kind=9)then(r.1,0)else([],r.2.2)
omit hn h hM in
theorem qcx {may:Bool} (hl:may=true->cl≠[]) (hsz:cl.length<=137438953472):(bnd (some (uM may cl cl.length)) fun⟨g,D,d⟩=>
  bnd (qD (!(d != (0:Int))) (idx cl (kwr .i64 (((cl.length:Nat):Int) - (1:Int))))) fun⟨i,E,F,⟨G,H,⟨j,k,o,p,q,s⟩,u,w⟩,y,z,A,B,C,x23,x24,x25,x26⟩=>
  bif(bif(d != (0:Int))then true else(i != (9:Int)))then(some (([]:List (List UInt8)),d))else(some (g,(0:Int))))=some (QU may cl):=by
 unfold QU;cases hr:uM may cl cl.length with
 | mk a be=>
  obtain⟨b,e⟩:=be;simp only[qc];by_cases he:e=0
  ·subst he
   have hc:cl≠[]:=by
    intro h0;apply hl _ h0;cases may with
    | true=>rfl
    | false=>
     unfold uM at hr;rw[if_pos (.inl rfl)]at hr;cases hr
   obtain⟨l,c,rfl⟩:∃ l c,cl=l++[c]:=⟨cl.dropLast,cl.getLast hc,(List.dropLast_concat_getLast hc).symm⟩;have e1:kwr .i64 ((((l++[c]).length:Nat):Int) - 1)=((l.length:Nat):Int):=by
    rw[UW (by omega) (by omega)]; simp
   have e2:(l++[c])[l.length]? =some c:=by simp
   have e3:(l++[c]).getLast? =some c:=by simp
   rw[e1,show(!((0:Int) != 0))=true from rfl,zg,qf e2,qc,e3];clear hr e1 e2 e3 hl hsz hc;obtain⟨f,g,D,⟨d,i,⟨E,F,G,H,j,k⟩,o,p⟩,q,s,u,w,y,z,A,B,C⟩:=c;by_cases h9:f=9
   ·subst h9
    rw[if_pos ⟨rfl,_,rfl,rfl⟩];rfl
   rw[if_neg (by rintro⟨_,c,hc,hk⟩; cases hc; exact h9 hk)];show(bif(bif((0:Int) != 0)then true else(f != 9))then _ else _)=_;rw[show(f != 9)=true from by simpa using h9];rfl
  rw[if_neg (by rintro⟨h0,_⟩; exact he h0)];have:(e != 0)=true:=by simpa using he
  rw[this];rfl
theorem qcw:tB n ⟨cl⟩=some (QU (Bv n cl) cl)/\ZV n ⟨cl⟩=some (QU (Bv n cl) cl):=by
 have hlen:=zc vh sD cl;have b:Bv n cl=true->cl≠[]:=fun hm d=>by have:=(qm8 hm).1; rw[d]at this; simp at this
 have a:=qcx b (by unfold xq at h; omega);obtain⟨e,f⟩:=RQ hn h hM cl.length;refine⟨?_,?_⟩
 ·unfold tB
  simp only[zA,e];exact a
 unfold ZV;simp only[zA,f];exact a
end
end W
end
section
open Go Ax
namespace W
theorem qku (m:Nat):gP (m+400)=some true:=by kernel_rfl
theorem ic {n:Nat} (h:400<=n):gP n=some true:=by
 obtain⟨m,rfl⟩:=Nat.exists_eq_add_of_le h;rw[Nat.add_comm]; exact qku m
def rL (l:List zx):Nat:=(l.map fun p=>p.nodes.length).sum
theorem Hy (l:List (Option qy×qt)):(de l).length=l.length:=by simp[de]
def DB:List zx->List (List UInt8)
 | []=>[]
 | p::l=>de (cb p)++DB l
theorem Tx {S:Type} (params:Val) (add:List (List UInt8)->S->S) (d:∀ a b s,add (a++b) s=add b (add a s)) (e:∀ s,add [] s=s):∀ (l:List zx) (b:List (List UInt8)) (m:S),
  l.foldl (fun(t:List (List UInt8)×S) p=>(t.1++de (cb p),add (dd params t.1 (cb p)) t.2)) (b,m)=(b++DB l,add (df params b l) m)
 | [],b,m=>by simp[DB,df,e]
 | p::l,b,m=>by
  rw[List.foldl_cons,Tx params add d e l];simp only[DB,df,d,List.append_assoc]
theorem Dz (params:Val):∀ (l:List zx) (b:List (List UInt8)),(∀ p∈l,p.nodes.length=p.edges.length+1)->(df params b l).length<=2 * rL l
 | [],_,_=>by simp[df]
 | p::l,b,h=>by
  have h1:=GP params (cb p) b;have h2:=Dz params l (b++de (cb p)) fun p hp=>h p (by simp[hp])
  have h3:(cb p).length=p.nodes.length:=by simp[cb,h p (by simp)]
  simp only[df,jb,rL,jl,jB]at h2 ⊢;omega
section
variable {n:Nat} (hn:n<=137438953472) (h400:400<n) {params:Val} (hp:PGood n params)
include hn h400 hp
theorem qc8 {l:List zx} (o:∀ p∈l,POk n p) {b:List (List UInt8)} (A:b.length+rL l+2<n) (z:l.length<n) (m:List (List UInt8×Int)) :
  pL n l params m b=some (Ck (df params b l) m):=by
 have g:=hp;obtain⟨q,r,u,v,w,x⟩:=params;have e:=xZ (R:=List (List UInt8×Int)) (B:=uA n l q r u v w x) (fun k (t:List (List UInt8)×List (List UInt8×Int))=>(t.1,((k:Nat):Int),t.2)) (fun k t=>t.1.length=b.length+rL (l.take k)) (l:=l)
  (fun t p=>.inr (t.1++de (cb p),Ck (dd (.mk q r u v w x) t.1 (cb p)) t.2)) (rest:=fun t=>some t.2)
  (fun k p t y d i=>by
   have j:=qL d;have f:=o p (qw d);have C:rL (l.take k)+p.nodes.length<=rL l:=QB (fun p=>p.nodes.length) d
   have:=TL hn h400 g f (b:=t.1) (by omega) (by omega) y (k:Int) t.2;obtain⟨D,E⟩:=p;simp only[uA,zL,qx j,ql,qf d,qG,tJ];refine Eq.trans this ?_;rw[qU (by omega)])
  (fun k p t F d i e=>by
   cases e;have f:=o p (qw d);have h3:(cb p).length=p.nodes.length:=by simp[cb,f.len]
   have:=tN (fun p:zx=>p.nodes.length) d
   simp only[jb,Hy,rL,this]at i ⊢;omega)
  (fun t y i=>by simp only[uA,zL,qm,kcf]) (n:=n) (by omega) (t0:=(b,m)) (by simp[rL])
 rw[sQ,Tx _ Ck (fun a b s=>fT a b s) (fun _=>rfl)]at e
 exact e
theorem qg6 {l:List zx} (x:∀ p∈l,POk n p) {b:List (List UInt8)} (D:b.length+rL l+2<n) (z:l.length<n) {L:List (List UInt8)} (A:Up L) (C:L.length+2 * rL l+5<n) :
  ZZ n L l b params=some (Xg (df params b l) L):=by
 have v:=hp;obtain⟨j,m,o,q,r,u⟩:=params;have e:=xZ (R:=List (List UInt8)) (B:=mO n l j m o q r u) (fun k (t:List (List UInt8)×List (List UInt8))=>(t.2,t.1,((k:Nat):Int))) (fun k t=>t.1.length=b.length+rL (l.take k)/\Up t.2/\t.2.length<=L.length+2 * rL (l.take k)) (l:=l)
  (fun t p=>.inr (t.1++de (cb p),Xg (dd (.mk j m o q r u) t.1 (cb p)) t.2)) (rest:=fun t=>some t.2)
  (fun k p t y d f=>by
   obtain⟨f,hu,i⟩:=f;have w:=qL d;have g:=x p (qw d);have E:rL (l.take k)+p.nodes.length<=rL l:=QB (fun p=>p.nodes.length) d
   have:=av hn h400 v d g (b:=t.1) (by omega) (by omega) y hu (by omega);simp only[mO,zL,qx w,ql,tJ];refine Eq.trans this ?_;rw[qU (by omega)])
  (fun k p t F d f e=>by
   cases e;obtain⟨f,hu,i⟩:=f;have g:=x p (qw d);have h3:(cb p).length=p.nodes.length:=by simp[cb,g.len]
   have:=tN (fun p:zx=>p.nodes.length) d
   have h4:=GP (.mk j m o q r u) (cb p) t.1;have G:=tG (dd (.mk j m o q r u) t.1 (cb p)) t.2;refine⟨?_,Zf _ _ hu,?_⟩
   ·simp only[jb,Hy,rL,this]at f ⊢
    omega
   simp only[rL,this]at i ⊢;omega)
  (fun t y f=>by simp only[mO,zL,qm,kcf]) (n:=n) (by omega) (t0:=(b,L)) ⟨by simp[rL],A,by simp[rL]⟩
 rw[sQ,Tx _ Xg (fun a b s=>dw a b s) (fun _=>rfl)]at e
 unfold ZZ
 dsimp only
 rw[zz (by rw[qn]; omega)];exact e
end
theorem qpi {n:Nat} {p:zx} (hw:WfP p) (q:dA p<=1073741824) (r:401+dA p<=n):POk n p:=by
 have b:∀ d∈p.nodes,fK d+1<=dA p:=fun d hm=>by have:=zd fK hm; unfold dA; omega
 have f:∀ d∈p.edges,bW d+1<=dA p:=fun d hm=>by have:=zd bW hm; unfold dA; omega
 refine⟨hw.len,fun d hm=>?_,fun e hm=>?_⟩
 ·have h1:=b d hm
  unfold fK at h1;have h2:=xY d.vals;refine⟨hw.ks d hm,fun x a g=>?_,fun l i=>?_,fun k j=>?_,by omega⟩
  ·have h3:=gH a
   have h4:=hw.nodes d hm x a;obtain⟨o,s,v,t,gs⟩:=x;cases h4 with
   | mk _ _ _ h4=>
    have m:=h4 g;simp only[dC]at h3;exact⟨qpe m.2,by show tm v<=_; omega,by show 401+tm v<=_; omega⟩
  ·have:1+l.length<=sS d.labels:=zd (fun k=>1+k.length) i
   omega
  have:1+k.length<=sS d.keys:=zd (fun k=>1+k.length) j
  omega
 have h1:=f e hm;unfold bW at h1;omega
def cw (params:Val) (names:List (List UInt8)) (c:qd):List (List UInt8):=
 if c.kind=1\/c.kind=5 then df params names c.paths else if c.kind=8 then[[88]]else[]
def sE (params:Val) (nm:Nat->List (List UInt8)):Nat->List qd->List (List UInt8)
 | _,[]=>[]
 | k,c::l=>cw params (nm k) c++sE params nm (k+1) l
theorem EA {S:Type} (params:Val) (nm:Nat->List (List UInt8)) (add:List (List UInt8)->S->S) (d:∀ a b s,add (a++b) s=add b (add a s)) (e:∀ s,add [] s=s):∀ (l:List qd) (k:Nat) (m:S),
  l.foldl (fun(t:Nat×S) c=>(t.1+1,add (cw params (nm t.1) c) t.2)) (k,m)=(k+l.length,add (sE params nm k l) m)
 | [],k,m=>by simp[sE,e]
 | c::l,k,m=>by
  rw[List.foldl_cons,EA params nm add d e l];simp only[sE,d,ja];rw[show k+1+l.length=k+(l.length+1) by omega]
theorem qgo (l:List zx):rL l<=(l.map dA).sum:=by
 induction l with
 | nil=>simp[rL]
 | cons p l ih=>
  have h1:=zc fK (fun d=>by unfold fK; omega) p.nodes
  have h2:dA p=1+(p.nodes.map fK).sum+(p.edges.map bW).sum:=rfl;simp only[rL,jl,jB]at ih ⊢;omega
theorem Fi (c:qd):rL c.paths<=vh c/\c.paths.length<=vh c/\(c.paths.map dA).sum<=vh c:=by
 have h1:=qgo c.paths;have h2:=zc dA (fun p=>by unfold dA; omega) c.paths
 have h3:(c.paths.map dA).sum<=vh c:=by unfold vh Un; omega
 exact⟨by omega,by omega,h3⟩
theorem Cy (params:Val) (names:List (List UInt8)) {c:qd} (hw:∀ p∈c.paths,WfP p):(cw params names c).length<=2 * vh c:=by
 have h1:=Fi c;have h2:=sD c;unfold cw;split
 ·have:=Dz params c.paths names fun p hp=>(hw p hp).len
  omega
 split<;>simp only[ja,jc]<;>omega
theorem qjq {may:Bool} {cl:List qd} (h:(uM may cl (cl.length:Int)).2.2=0):may=true/\∀ k:Nat,k<=cl.length->(uM may cl (k:Int)).2.2=0:=by
 unfold uM at h;have key:∀ (l:List qd) (t v:Env) (k:Nat),uT sN t l=.inr v->∃ v',uT sN t (l.take k)=.inr v':=by
  intro l
  induction l with
  | nil=>intro t v k h; exact⟨v,by simpa using h⟩
  | cons c l ih=>
   intro t v k h;cases k with
   | zero=>exact⟨t,rfl⟩
   | succ k=>
    simp only[uT,List.take_succ_cons]at h ⊢;cases a:sN t c with
    | inl r=>rw[a]at h; cases h
    | inr t'=>rw[a]at h; exact ih t' v k h
 split at h
 ·cases h
 rename_i a;simp only[not_or,Bool.not_eq_false]at a;refine⟨a.1,fun k g=>?_⟩;have e1:cl.take ((cl.length:Int)).toNat=cl:=by rw[Int.toNat_natCast,List.take_length]
 rw[e1]at h;cases b:uT sN [] cl with
 | inl e=>
  rw[b]at h;simp only at h;have d:∀ (l:List qd) (t:Env) (e:Int),uT sN t l=.inl e->e≠0:=by
   intro l
   induction l with
   | nil=>intro t e h; cases h
   | cons c l ih=>
    intro t e h;simp only[uT]at h;cases a:sN t c with
    | inl r=>
     rw[a]at h;cases h;unfold sN at a;split at a
     ·cases a; assumption
     cases a
    | inr t'=>rw[a]at h; exact ih t' e h
  exact absurd h (d _ _ _ b)
 | inr v=>
  obtain⟨v',f⟩:=key cl [] v k b;unfold uM;rw[if_neg (by simp[a.1]; omega),Int.toNat_natCast,f]
def UL (params:Val) (may:Bool) (cl:List qd):List (List UInt8)×Int:=
 if(QU may cl).2=0 then(Xg (sE params (fun k=>(uM may cl (k:Int)).1) 0 cl) [],0)else([],(QU may cl).2)
section
variable {n:Nat} (hn:n<=137438953472) {params:Val} (hp:PGood n params) {cl:List qd} (h:8 * xq cl+1000<n) (hsz:xq cl<=1073741824) (hM:∀ c∈cl,LenOk c)
include hn hp h hsz hM
theorem NM:(UL params (Bv n cl) cl).1.length<=2 * xq cl:=by
 unfold UL;split
 ·rename_i a
  have hm:Bv n cl=true:=by
   cases hm:Bv n cl with
   | true=>rfl
   | false=>
    rw[hm]at a;unfold QU uM at a;simp at a
  have hw:=TN hn (by omega) hM hm;have key:∀ (l:List qd) (k:Nat),(∀ c∈l,WfC c)->(sE params (fun k=>(uM (Bv n cl) cl (k:Int)).1) k l).length<=2 * xq l:=by
   intro l
   induction l with
   | nil=>intro k _; simp[sE]
   | cons c l ih=>
    intro k hw;have h1:=ih (k+1) fun c a=>hw c (by simp[a])
    have h2:=Cy params (uM (Bv n cl) cl (k:Int)).1 (hw c (by simp)).paths;simp only[sE,jb,xq,jl,jB]at h1 h2 ⊢;omega
  have h1:=key cl 0 hw;have h2:=tG (sE params (fun k=>(uM (Bv n cl) cl (k:Int)).1) 0 cl) [];simp only[jc]at h2;simp only;omega
 simp
theorem ET:fh n ⟨cl⟩ params=some (UL params (Bv n cl) cl)/\Qa n ⟨cl⟩ params=some (UL params (Bv n cl) cl):=by
 have hlen:=zc vh sD cl;have hcs:(cl.map vh).sum=xq cl:=rfl;obtain⟨c1,c2⟩:=qcw hn (cl:=cl) (by omega) hM;have nb:=fun k:Nat=>RQ hn (cl:=cl) (by omega) hM (k:Int)
 have hRl:=NM hn hp h hsz hM;have hp':=hp;obtain⟨S,T,U,V,X,Y⟩:=params;unfold UL at hRl ⊢;by_cases O:(QU (Bv n cl) cl).2=0
 ·rw[if_pos O]at hRl ⊢
  have hck:(uM (Bv n cl) cl (cl.length:Int)).2.2=0:=by
   unfold QU at O;simp only at O;split at O
   ·rename_i hh; exact hh.1
   exact O
  obtain⟨hm,hnm⟩:=qjq hck;have hw:=TN hn (by omega) hM hm;have nl:=fun k:Int=>qgn (may:=Bv n cl) (cl:=cl) (fun _=>hw) k
  generalize hN:Bv n cl=may at *;have hpo:∀ c∈cl,∀ p∈c.paths,POk n p:=fun c hc p hpp=>by
   have h1:=zd vh hc;have h2:=(Fi c).2.2;have h3:=zd dA hpp;exact qpi ((hw c hc).paths p hpp) (by omega) (by omega)
  constructor
  ·have e:=xZ (R:=List (List UInt8)×Int) (B:=cn n cl S T U V X Y) (fun k (t:Nat×List (List UInt8×Int))=>(((k:Nat):Int),t.2)) (fun k t=>t.1=k/\k<=cl.length) (l:=cl)
    (fun t c=>.inr (t.1+1,Ck (cw (.mk S T U V X Y) (uM may cl (t.1:Int)).1 c) t.2)) (rest:=fun t=>bnd (cq n t.2) fun x=>some (x,(0:Int)))
    (fun k c t nx L Z=>by
     obtain⟨t1,t2⟩:=t;obtain⟨rfl,Q⟩:=Z;have hkl:=qL L;have hcb:=zd vh (qw L);have hcn:=Fi c;have hnn:=nl ((t1:Nat):Int);have herr:=hnm t1 Q;have hnb:=(nb t1).1;have r:=fun m=>qc8 hn (by omega) hp' (l:=c.paths) (hpo c (qw L)) (b:=(uM may cl ((t1:Nat):Int)).1) (by omega) (by omega) m
     obtain⟨d,f,F,⟨G,H,⟨I,J,K,M,g,i⟩,j,o⟩,q,u,v,w,y,z,A,D,E⟩:=c;simp only at r hcn;unfold cw;simp only[cn,zA,qx hkl,ql,qf L,qG,hnb,tJ];generalize uM may cl ((t1:Nat):Int)=N at *;obtain⟨nm,ks,er⟩:=N;simp only at herr r hnn;subst herr;have k9:∀ b:Bool,(b=true↔(d=1\/d=5))->cm n nm f S T U V X Y t2 nx ((t1:Nat):Int) d b=nx (((t1+1:Nat):Int),Ck (if d=1\/d=5 then df (.mk S T U V X Y) nm f else if d=8 then[[88]]else[]) t2):=fun b hb=>by
      unfold cm ch;cases b with
      | true=>
       rw[kct,zz (by rw[qn]; omega),r,qc,qU (by omega),if_pos (hb.1 rfl)]
      | false=>
       have:¬ (d=1\/d=5):=fun hh=>by have:=hb.2 hh; cases this
       rw[kcf,if_neg this];by_cases h8:d=8
       ·subst h8
        rw[BEq.rfl,kct,qU (by omega),if_pos rfl];rfl
       rw[kbf.2 h8,kcf,qU (by omega),if_neg h8];rfl
     simp only[bne_self_eq_false,qk];by_cases h1:d=1
     ·rw[beq_iff_eq.2 h1,kct,k9 _ (by simp[h1])]
     rw[kbf.2 h1,kcf,k9 _ (by simp[h1])])
    (fun k c t t' L Z e=>by
     cases e;have:=qL L;exact⟨by rw[Z.1],by omega⟩)
    (fun t nx Z=>by simp only[cn,zA,qm,qk]) (n:=n) (by omega) (t0:=((0:Nat),([]:List (List UInt8×Int)))) ⟨rfl,Nat.zero_le _⟩
   rw[sQ,EA (.mk S T U V X Y) (fun k=>(uM may cl (k:Int)).1) Ck (fun a b s=>fT a b s) (fun _=>rfl)]at e
   simp only[tJ]at e;rw[(MarkR.nil.adds).list_eq (by simp only at hRl; omega),qc]at e;unfold fh
   dsimp only
   rw[c1,qc];generalize QU may cl=C at O;obtain⟨C1,C2⟩:=C;simp only at O;subst O;exact e
  have e:=xZ (R:=List (List UInt8)×Int) (B:=mN n cl S T U V X Y) (fun k (t:Nat×List (List UInt8))=>(t.2,((k:Nat):Int))) (fun k t=>t.1=k/\k<=cl.length/\Up t.2/\t.2.length<=2 * ((cl.take k).map vh).sum) (l:=cl)
   (fun t c=>.inr (t.1+1,Xg (cw (.mk S T U V X Y) (uM may cl (t.1:Int)).1 c) t.2)) (rest:=fun t=>some (t.2,(0:Int)))
   (fun k c t nx L Z=>by
    obtain⟨t1,t2⟩:=t;obtain⟨rfl,Q,hu,hul⟩:=Z;simp only at L Q hu hul;have hkl:=qL L;have hcb:=zd vh (qw L);have hcn:=Fi c;have htk:=QB vh L;have hnn:=nl ((t1:Nat):Int);have hnb:=(nb t1).2;have r:=qg6 hn (by omega) hp' (l:=c.paths) (hpo c (qw L)) (b:=(uM may cl ((t1:Nat):Int)).1) (by omega) (by omega) hu (by omega);obtain⟨d,f,F,⟨G,H,⟨I,J,K,M,g,i⟩,j,o⟩,q,u,v,w,y,z,A,D,E⟩:=c;simp only at r hcn;unfold cw;simp only[mN,zA,qx hkl,ql,qf L,qG,hnb,tJ];generalize uM may cl ((t1:Nat):Int)=N at *;obtain⟨nm,ks,er⟩:=N;simp only at r hnn;by_cases P:d=1\/d=5
    ·have e1:(bif(d==(1:Int))then true else(d==(5:Int)))=true:=by rcases P with rfl|rfl<;>rfl
     have e8:(d==8)=false:=by rcases P with rfl|rfl<;>rfl
     rw[e1,kct,r,qc,if_pos P];unfold mM mL;rw[e8,kcf,qU (by omega)]
    have e1:(bif(d==(1:Int))then true else(d==(5:Int)))=false:=by
     rw[not_or]at P;rw[kbf.2 P.1,kbf.2 P.2]; rfl
    rw[e1,kcf,if_neg P];unfold mM mL uY;by_cases h8:d=8
    ·rw[beq_iff_eq.2 h8,kct,Du hn hu (by omega),qc,qc,qU (by omega),if_pos h8]
     rfl
    rw[kbf.2 h8,kcf,qU (by omega),if_neg h8];rfl)
   (fun k c t t' L Z e=>by
    cases e;have:=qL L;have h1:=Cy (.mk S T U V X Y) (uM may cl (t.1:Int)).1 (hw c (qw L)).paths;have h2:=tG (cw (.mk S T U V X Y) (uM may cl (t.1:Int)).1 c) t.2;have h3:=tN vh L;obtain⟨hi1,hi2,hi3,hi4⟩:=Z;refine⟨by rw[hi1],by omega,Zf _ _ hi3,?_⟩;rw[h3];simp only;omega)
   (fun t nx Z=>by simp only[mN,zA,qm,qk]) (n:=n) (by omega) (t0:=((0:Nat),([]:List (List UInt8)))) ⟨rfl,Nat.zero_le _,.nil,by simp⟩
  rw[sQ,EA (.mk S T U V X Y) (fun k=>(uM may cl (k:Int)).1) Xg (fun a b s=>dw a b s) (fun _=>rfl)]at e
  unfold Qa
  dsimp only
  rw[c2,qc];generalize QU may cl=C at O;obtain⟨C1,C2⟩:=C;simp only at O;subst O;exact e
 rw[if_neg O]
 constructor
 ·unfold fh
  dsimp only
  rw[c1,qc];generalize QU (Bv n cl) cl=C at O;obtain⟨C1,C2⟩:=C;have:(C2 != 0)=true:=by simpa using O
  simp only[this,ql]
 unfold Qa
 dsimp only
 rw[c2,qc];generalize QU (Bv n cl) cl=C at O;obtain⟨C1,C2⟩:=C;have:(C2 != 0)=true:=by simpa using O
 simp only[this,ql]
end
end W
end
section
open Go Go.Proofs Ax
namespace W
open Go.Proofs.YtlnipohgljbfiaaGreat
theorem gJ:∀ l:List qe,uF l=(l.map fun x=>dC x+1).sum+1
 | []=>rfl
 | x::l=>by simp only[uF,jl,jB]; rw[gJ l]; omega
theorem gL:∀ l:List Val,br l=(l.map fun x=>tm x+1).sum+1
 | []=>rfl
 | x::l=>by simp only[br,jl,jB]; rw[gL l]; omega
def qqe:bu->Nat
 | ⟨cl⟩=>xq cl
variable {Hd:Type} {enc:TypeId×Value->Hd} {w:World}
theorem DD {H:PH}:∀ {a:List PV} {b:List PV} {x y:List Value},zS H a x->zS H b y->zS H (a++b) (x++y)
 | [],_,x,_,h,h'=>by
  have:x=[]:=by simpa[zS]using h
  subst this; exact h'
 | p::a,_,x,_,h,h'=>by
  simp only[zS]at h;obtain⟨v,vs,rfl,h1,h2⟩:=h;simp only[List.cons_append,zS];exact⟨_,_,rfl,h1,DD h2 h'⟩
theorem sP {H:PH} {a b:List PV} {cs:List Value} {o z:Nat} (h:zS H a ((cs.drop o).take z)/\∀ u∈(cs.drop o).take z,u.oneCell'=true) (c:zS H b (cs.drop (o+z))/\∀ u∈cs.drop (o+z),u.oneCell'=true) :
  zS H (a++b) (cs.drop o)/\∀ u∈cs.drop o,u.oneCell'=true:=by
 have e:cs.drop o=(cs.drop o).take z++cs.drop (o+z):=by rw[← List.drop_drop,List.take_append_drop]
 refine⟨by rw[e]; exact DD h.1 c.1,fun u hu=>?_⟩;rw[e]at hu;rcases List.mem_append.1 hu with hu|hu
 ·exact h.2 u hu
 exact c.2 u hu
theorem eX {H:PH} {cs:List Value} {z:Nat} (h:cs.length=z):zS H [] (cs.drop z)/\∀ u∈cs.drop z,u.oneCell'=true:=by
 have:cs.drop z=[]:=List.drop_eq_nil_of_le (by omega);rw[this];exact⟨rfl,fun u hu=>by cases hu⟩
theorem DI {α:Type} {a:α->Nat}:∀ (l:List α) (elems:List (DataW Hd)),l.length=elems.length->(∀ (i:Nat) (d:DataW Hd) (v:α),elems[i]? =some d->l[i]? =some v->a v<=Rows.uptoBulk d)->(l.map a).sum<=Rows.uptoBulkAll elems
 | [],_,_,_=>Nat.zero_le _
 | v::l,[],h,_=>by simp at h
 | v::l,d::elems,h,hh=>by
  have:=DI l elems (by simpa using h) fun i d v b c=>hh (i+1) d v (by simpa using b) (by simpa using c)
  have:=hh 0 d v rfl rfl;simp only[jl,jB,Rows.uptoBulkAll]; omega
theorem dg {α:Type} [Inhabited α] {P:Program} {t e:TypeId} {z n:Nat} {row:α->List PV} {f:α->Nat} {rws:List α->List (List PV)} (g:P.underlying t=some (.slice e)) (hz:P.cellsOf e=z) (c:1<=z)
  (a:∀ v,(row v).length=z) (i:∀ l,rws l=l.map row) (d:∀ m,m<n->xF enc P w e m row f Rows.uptoBulk):xF enc P w t n (fun l:List α=>[PV.sl (rws l)]) (fun l=>(l.map f).sum+1) Rows.uptoBulk:=by
 intro cs x h;obtain⟨l,v,rfl,o,r,b⟩:=RV g hz c a d h;refine⟨l,?_,by simpa using o,?_⟩
 ·simp only[zS]
  exact⟨_,_,rfl,by rw[i]; exact r,rfl⟩
 rcases b with ⟨e,rfl⟩|⟨j,rest,e,k,p⟩
 ·rw[e]; simp[Rows.uptoBulk]
 rw[e];have:=DI l j k p;simp only[Rows.uptoBulk]; omega
theorem rd3 (n:Nat):xF (α:=Int) enc Tryz.prog w 3 n (fun i=>[PV.int .i64 i]) (isz) Rows.uptoBulk:=by
 intro cs x h;obtain⟨k,e,rfl,hw⟩:=DataW.trod_int Tryz.underlying3 h;cases e;exact⟨k,by simp[zS,zn],by simp[Value.oneCell'],by simp only[Rows.uptoBulk]; exact Nat.le_of_eq (qa9 (by simpa[Lit.wf]using hw))⟩
theorem rd4 (n:Nat):xF (α:=Bool) enc Tryz.prog w 4 n (fun b=>[PV.bool b]) (fun _=>1) Rows.uptoBulk:=by
 intro cs x h;obtain⟨k,e,rfl⟩:=DataW.trod_bool Tryz.underlying4 h;cases e;exact⟨k,by simp[zS,zn],by simp[Value.oneCell'],by simp[Rows.uptoBulk]⟩
theorem rd2 (n:Nat):xF (α:=Int) enc Tryz.prog w 2 n (fun i=>[PV.int .i64 i]) (isz) Rows.uptoBulk:=by
 intro cs x h;obtain⟨k,e,rfl,hw⟩:=DataW.trod_int Tryz.underlying2 h;cases e;exact⟨k,by simp[zS,zn],by simp[Value.oneCell'],by simp only[Rows.uptoBulk]; exact Nat.le_of_eq (qa9 (by simpa[Lit.wf]using hw))⟩
theorem rd9 (n:Nat):xF (α:=List UInt8) enc Tryz.prog w 9 n (fun s=>[PV.str s]) (fun s=>1+s.length) Rows.uptoBulk:=by
 intro cs x h;obtain⟨s,e,rfl,_⟩:=DataW.trod_string Tryz.underlying9 h;cases e;exact⟨s.data.toList,by simp[zS,zn],by simp[Value.oneCell'],by simp[Rows.uptoBulk]; omega⟩
theorem qg7 (n:Nat):xF (α:=List (List UInt8)) enc Tryz.prog w 26 n (fun l=>[PV.sl (qi l)]) (fun l=>(l.map (fun s=>1+s.length)).sum+1) Rows.uptoBulk:=
 dg (α:=List UInt8) (z:=1) (rws:=qi) Tryz.underlying26 (by kernel_rfl) (by decide) (fun _=>rfl) (fun _=>rfl) (fun m hm=>rd9 m)
theorem qqd (n:Nat):xF (α:=Val) enc Tryz.prog w 28 n (Val.cells) (fun x=>tm x+1) Rows.uptoBulk:=by
 induction n using Nat.strongRecOn with
 | ind n ih=>
 intro cs x h;obtain⟨xs,m,rfl,rfl,b,i,a⟩:=DataW.trod_struct Tryz.underlying28 h;rw[show Tryz.prog.cellsOf 28=6 by kernel_rfl]at b;have c:xs.length=6:=i;obtain⟨d,y1,y2,e,f,g,rfl⟩:∃ d y1 y2 e f g,xs=[d,y1,y2,e,f,g]:=by
  match xs,c with
  | [d,y1,y2,e,f,g],_=>exact⟨d,y1,y2,e,f,g,rfl⟩
 have f0:=a 0 _ rfl;change DataW.trod enc Tryz.prog w 0 _ true m 3 ((cs.drop 0).take (Tryz.prog.cellsOf 3))=some d at f0;rw[show Tryz.prog.cellsOf 3=1 by kernel_rfl]at f0;obtain⟨v0,r0,o0,k⟩:=rd3 m _ _ f0;have f1:=a 1 _ rfl;change DataW.trod enc Tryz.prog w 0 _ true m 4 ((cs.drop 1).take (Tryz.prog.cellsOf 4))=some y1 at f1;rw[show Tryz.prog.cellsOf 4=1 by kernel_rfl]at f1;obtain⟨v1,l,o1,o⟩:=rd4 m _ _ f1;have f2:=a 2 _ rfl;change DataW.trod enc Tryz.prog w 0 _ true m 2 ((cs.drop 2).take (Tryz.prog.cellsOf 2))=some y2 at f2;rw[show Tryz.prog.cellsOf 2=1 by kernel_rfl]at f2;obtain⟨v2,p,o2,q⟩:=rd2 m _ _ f2;have f3:=a 3 _ rfl;change DataW.trod enc Tryz.prog w 0 _ true m 9 ((cs.drop 3).take (Tryz.prog.cellsOf 9))=some e at f3;rw[show Tryz.prog.cellsOf 9=1 by kernel_rfl]at f3;obtain⟨v3,r,s,t⟩:=rd9 m _ _ f3;have f4:=a 4 _ rfl;change DataW.trod enc Tryz.prog w 0 _ true m 25 ((cs.drop 4).take (Tryz.prog.cellsOf 25))=some f at f4;rw[show Tryz.prog.cellsOf 25=1 by kernel_rfl]at f4;obtain⟨v4,u,v,y⟩:=(dg (α:=Val) (z:=6) (rws:=Val.rows) Tryz.underlying25 (by kernel_rfl) (by decide) (XJ) (rows_eq) (fun j A=>ih j (Nat.lt_trans A (Nat.lt_succ_self _)))) _ _ f4
 have f5:=a 5 _ rfl;change DataW.trod enc Tryz.prog w 0 _ true m 26 ((cs.drop 5).take (Tryz.prog.cellsOf 26))=some g at f5;rw[show Tryz.prog.cellsOf 26=1 by kernel_rfl]at f5;obtain⟨v5,B,C,D⟩:=qg7 m _ _ f5;have key:=sP ⟨r0,o0⟩ (sP ⟨l,o1⟩ (sP ⟨p,o2⟩ (sP ⟨r,s⟩ (sP ⟨u,v⟩ (sP ⟨B,C⟩ (eX b))))));rw[List.drop_zero]at key;refine⟨⟨v0,v1,v2,v3,v4,v5⟩,?_,key.2,?_⟩
 ·have key:=key.1
  exact key
 simp only[tm,Rows.uptoBulk,Rows.uptoBulkAll,jl,jO,gJ,gL,sS,Un,xq];simp only[]at k o q t y D;omega
theorem qpo (n:Nat):xF (α:=qe) enc Tryz.prog w 49 n (qe.cells) (fun x=>dC x+1) Rows.uptoBulk:=by
 induction n using Nat.strongRecOn with
 | ind n ih=>
 intro cs x h;obtain⟨xs,m,rfl,rfl,a,g,b⟩:=DataW.trod_struct Tryz.underlying49 h;rw[show Tryz.prog.cellsOf 49=10 by kernel_rfl]at a;have c:xs.length=5:=g;obtain⟨d,y1,y2,e,f,rfl⟩:∃ d y1 y2 e f,xs=[d,y1,y2,e,f]:=by
  match xs,c with
  | [d,y1,y2,e,f],_=>exact⟨d,y1,y2,e,f,rfl⟩
 have f0:=b 0 _ rfl;change DataW.trod enc Tryz.prog w 0 _ true m 3 ((cs.drop 0).take (Tryz.prog.cellsOf 3))=some d at f0;rw[show Tryz.prog.cellsOf 3=1 by kernel_rfl]at f0;obtain⟨v0,r0,o0,s⟩:=rd3 m _ _ f0;have f1:=b 1 _ rfl;change DataW.trod enc Tryz.prog w 0 _ true m 9 ((cs.drop 1).take (Tryz.prog.cellsOf 9))=some y1 at f1;rw[show Tryz.prog.cellsOf 9=1 by kernel_rfl]at f1;obtain⟨v1,t,o1,u⟩:=rd9 m _ _ f1;have f2:=b 2 _ rfl;change DataW.trod enc Tryz.prog w 0 _ true m 28 ((cs.drop 2).take (Tryz.prog.cellsOf 28))=some y2 at f2;rw[show Tryz.prog.cellsOf 28=6 by kernel_rfl]at f2;obtain⟨v2,v,o2,i⟩:=qqd m _ _ f2;have f3:=b 3 _ rfl;change DataW.trod enc Tryz.prog w 0 _ true m 26 ((cs.drop 8).take (Tryz.prog.cellsOf 26))=some e at f3;rw[show Tryz.prog.cellsOf 26=1 by kernel_rfl]at f3;obtain⟨v3,y,A,B⟩:=qg7 m _ _ f3;have f4:=b 4 _ rfl;change DataW.trod enc Tryz.prog w 0 _ true m 47 ((cs.drop 9).take (Tryz.prog.cellsOf 47))=some f at f4;rw[show Tryz.prog.cellsOf 47=1 by kernel_rfl]at f4;obtain⟨v4,C,D,E⟩:=(dg (α:=qe) (z:=10) (rws:=qe.rows) Tryz.underlying47 (by kernel_rfl) (by decide) (qe.width) (qe.rows_eq) (fun j F=>ih j (Nat.lt_trans F (Nat.lt_succ_self _)))) _ _ f4
 have bb2:=i;have key:=sP ⟨r0,o0⟩ (sP ⟨t,o1⟩ (sP ⟨v,o2⟩ (sP ⟨y,A⟩ (sP ⟨C,D⟩ (eX a)))));rw[List.drop_zero]at key;refine⟨⟨v0,v1,v2,v3,v4⟩,?_,key.2,?_⟩
 ·have key:=key.1
  obtain⟨k,l,o,p,q,r⟩:=v2;exact key
 simp only[dC,Rows.uptoBulk,Rows.uptoBulkAll,jl,jO,gJ,gL,sS,Un,xq];simp only[]at s u i B E;omega
theorem qpn (n:Nat):xF (α:=List (qe)) enc Tryz.prog w 47 n (fun l=>[PV.sl (qe.rows l)]) (fun l=>(l.map (fun x=>dC x+1)).sum+1) Rows.uptoBulk:=
 dg (α:=qe) (z:=10) (rws:=qe.rows) Tryz.underlying47 (by kernel_rfl) (by decide) (qe.width) (qe.rows_eq) (fun m hm=>qpo m)
theorem qr6 (n:Nat):xF (α:=qt) enc Tryz.prog w 62 n (qt.cells) (fK) Rows.uptoBulk:=by
 intro cs x h;obtain⟨xs,m,rfl,rfl,a,f,e⟩:=DataW.trod_struct Tryz.underlying62 h;rw[show Tryz.prog.cellsOf 62=4 by kernel_rfl]at a;have b:xs.length=4:=f;obtain⟨c,y1,y2,d,rfl⟩:∃ c y1 y2 d,xs=[c,y1,y2,d]:=by
  match xs,b with
  | [c,y1,y2,d],_=>exact⟨c,y1,y2,d,rfl⟩
 have f0:=e 0 _ rfl;change DataW.trod enc Tryz.prog w 0 _ true m 9 ((cs.drop 0).take (Tryz.prog.cellsOf 9))=some c at f0;rw[show Tryz.prog.cellsOf 9=1 by kernel_rfl]at f0;obtain⟨v0,r0,o0,g⟩:=rd9 m _ _ f0;have f1:=e 1 _ rfl;change DataW.trod enc Tryz.prog w 0 _ true m 26 ((cs.drop 1).take (Tryz.prog.cellsOf 26))=some y1 at f1;rw[show Tryz.prog.cellsOf 26=1 by kernel_rfl]at f1;obtain⟨v1,i,o1,j⟩:=qg7 m _ _ f1;have f2:=e 2 _ rfl;change DataW.trod enc Tryz.prog w 0 _ true m 26 ((cs.drop 2).take (Tryz.prog.cellsOf 26))=some y2 at f2;rw[show Tryz.prog.cellsOf 26=1 by kernel_rfl]at f2;obtain⟨v2,k,o2,l⟩:=qg7 m _ _ f2;have f3:=e 3 _ rfl;change DataW.trod enc Tryz.prog w 0 _ true m 47 ((cs.drop 3).take (Tryz.prog.cellsOf 47))=some d at f3;rw[show Tryz.prog.cellsOf 47=1 by kernel_rfl]at f3;obtain⟨v3,o,p,q⟩:=qpn m _ _ f3;have key:=sP ⟨r0,o0⟩ (sP ⟨i,o1⟩ (sP ⟨k,o2⟩ (sP ⟨o,p⟩ (eX a))));rw[List.drop_zero]at key;refine⟨⟨v0,v1,v2,v3⟩,?_,key.2,?_⟩
 ·have key:=key.1
  exact key
 simp only[fK,Rows.uptoBulk,Rows.uptoBulkAll,jl,jO,gJ,gL,sS,Un,xq];simp only[]at g j l q;omega
theorem qr7 (n:Nat):xF (α:=qy) enc Tryz.prog w 64 n (qy.cells) (bW) Rows.uptoBulk:=by
 intro cs x h;obtain⟨xs,m,rfl,rfl,a,g,b⟩:=DataW.trod_struct Tryz.underlying64 h;rw[show Tryz.prog.cellsOf 64=5 by kernel_rfl]at a;have c:xs.length=5:=g;obtain⟨d,y1,y2,e,f,rfl⟩:∃ d y1 y2 e f,xs=[d,y1,y2,e,f]:=by
  match xs,c with
  | [d,y1,y2,e,f],_=>exact⟨d,y1,y2,e,f,rfl⟩
 have f0:=b 0 _ rfl;change DataW.trod enc Tryz.prog w 0 _ true m 9 ((cs.drop 0).take (Tryz.prog.cellsOf 9))=some d at f0;rw[show Tryz.prog.cellsOf 9=1 by kernel_rfl]at f0;obtain⟨v0,r0,o0,i⟩:=rd9 m _ _ f0;have f1:=b 1 _ rfl;change DataW.trod enc Tryz.prog w 0 _ true m 9 ((cs.drop 1).take (Tryz.prog.cellsOf 9))=some y1 at f1;rw[show Tryz.prog.cellsOf 9=1 by kernel_rfl]at f1;obtain⟨v1,j,o1,k⟩:=rd9 m _ _ f1;have f2:=b 2 _ rfl;change DataW.trod enc Tryz.prog w 0 _ true m 3 ((cs.drop 2).take (Tryz.prog.cellsOf 3))=some y2 at f2;rw[show Tryz.prog.cellsOf 3=1 by kernel_rfl]at f2;obtain⟨v2,l,o2,o⟩:=rd3 m _ _ f2;have f3:=b 3 _ rfl;change DataW.trod enc Tryz.prog w 0 _ true m 26 ((cs.drop 3).take (Tryz.prog.cellsOf 26))=some e at f3;rw[show Tryz.prog.cellsOf 26=1 by kernel_rfl]at f3;obtain⟨v3,p,q,r⟩:=qg7 m _ _ f3;have f4:=b 4 _ rfl;change DataW.trod enc Tryz.prog w 0 _ true m 47 ((cs.drop 4).take (Tryz.prog.cellsOf 47))=some f at f4;rw[show Tryz.prog.cellsOf 47=1 by kernel_rfl]at f4;obtain⟨v4,s,t,u⟩:=qpn m _ _ f4;have key:=sP ⟨r0,o0⟩ (sP ⟨j,o1⟩ (sP ⟨l,o2⟩ (sP ⟨p,q⟩ (sP ⟨s,t⟩ (eX a)))));rw[List.drop_zero]at key;refine⟨⟨v0,v1,v2,v3,v4⟩,?_,key.2,?_⟩
 ·have key:=key.1
  exact key
 simp only[bW,Rows.uptoBulk,Rows.uptoBulkAll,jl,jO,gJ,gL,sS,Un,xq];simp only[]at i k o r u;omega
theorem qr3 (n:Nat):xF (α:=List (qt)) enc Tryz.prog w 57 n (fun l=>[PV.sl (qt.rows l)]) (fun l=>(l.map (fK)).sum+1) Rows.uptoBulk:=
 dg (α:=qt) (z:=4) (rws:=qt.rows) Tryz.underlying57 (by kernel_rfl) (by decide) (gO.hz) (fun _=>rfl) (fun m hm=>qr6 m)
theorem qr4 (n:Nat):xF (α:=List (qy)) enc Tryz.prog w 58 n (fun l=>[PV.sl (qy.rows l)]) (fun l=>(l.map (bW)).sum+1) Rows.uptoBulk:=
 dg (α:=qy) (z:=5) (rws:=qy.rows) Tryz.underlying58 (by kernel_rfl) (by decide) (cZ.hz) (fun _=>rfl) (fun m hm=>qr7 m)
theorem qr5 (n:Nat):xF (α:=zx) enc Tryz.prog w 60 n (zx.cells) (dA) Rows.uptoBulk:=by
 intro cs x h;obtain⟨xs,m,rfl,rfl,a,d,e⟩:=DataW.trod_struct Tryz.underlying60 h;rw[show Tryz.prog.cellsOf 60=2 by kernel_rfl]at a;have b:xs.length=2:=d;obtain⟨c,y1,rfl⟩:∃ c y1,xs=[c,y1]:=by
  match xs,b with
  | [c,y1],_=>exact⟨c,y1,rfl⟩
 have f0:=e 0 _ rfl;change DataW.trod enc Tryz.prog w 0 _ true m 57 ((cs.drop 0).take (Tryz.prog.cellsOf 57))=some c at f0;rw[show Tryz.prog.cellsOf 57=1 by kernel_rfl]at f0;obtain⟨v0,r0,o0,f⟩:=qr3 m _ _ f0;have f1:=e 1 _ rfl;change DataW.trod enc Tryz.prog w 0 _ true m 58 ((cs.drop 1).take (Tryz.prog.cellsOf 58))=some y1 at f1;rw[show Tryz.prog.cellsOf 58=1 by kernel_rfl]at f1;obtain⟨v1,g,o1,i⟩:=qr4 m _ _ f1;have key:=sP ⟨r0,o0⟩ (sP ⟨g,o1⟩ (eX a));rw[List.drop_zero]at key;refine⟨⟨v0,v1⟩,?_,key.2,?_⟩
 ·have key:=key.1
  exact key
 simp only[dA,Rows.uptoBulk,Rows.uptoBulkAll,jl,jO,gJ,gL,sS,Un,xq];simp only[]at f i;omega
theorem qr8 (n:Nat):xF (α:=xM) enc Tryz.prog w 66 n (xM.cells) (ZI) Rows.uptoBulk:=by
 intro cs x h;obtain⟨xs,m,rfl,rfl,a,k,l⟩:=DataW.trod_struct Tryz.underlying66 h;rw[show Tryz.prog.cellsOf 66=11 by kernel_rfl]at a;have b:xs.length=2:=k;obtain⟨c,y1,rfl⟩:∃ c y1,xs=[c,y1]:=by
  match xs,b with
  | [c,y1],_=>exact⟨c,y1,rfl⟩
 have f0:=l 0 _ rfl;change DataW.trod enc Tryz.prog w 0 _ true m 49 ((cs.drop 0).take (Tryz.prog.cellsOf 49))=some c at f0;rw[show Tryz.prog.cellsOf 49=10 by kernel_rfl]at f0;obtain⟨v0,r0,o0,o⟩:=qpo m _ _ f0;have f1:=l 1 _ rfl;change DataW.trod enc Tryz.prog w 0 _ true m 9 ((cs.drop 10).take (Tryz.prog.cellsOf 9))=some y1 at f1;rw[show Tryz.prog.cellsOf 9=1 by kernel_rfl]at f1;obtain⟨v1,t,o1,u⟩:=rd9 m _ _ f1;have bb0:=o;have key:=sP ⟨r0,o0⟩ (sP ⟨t,o1⟩ (eX a));rw[List.drop_zero]at key;refine⟨⟨v0,v1⟩,?_,key.2,?_⟩
 ·have key:=key.1
  obtain⟨p,q,⟨d,e,f,g,i,j⟩,r,s⟩:=v0;exact key
 simp only[ZI,Rows.uptoBulk,Rows.uptoBulkAll,jl,jO,gJ,gL,sS,Un,xq];simp only[]at o u;omega
theorem qr9 (n:Nat):xF (α:=qS) enc Tryz.prog w 68 n (qS.cells) (fY) Rows.uptoBulk:=by
 intro cs x h;obtain⟨xs,m,rfl,rfl,a,k,l⟩:=DataW.trod_struct Tryz.underlying68 h;rw[show Tryz.prog.cellsOf 68=11 by kernel_rfl]at a;have b:xs.length=2:=k;obtain⟨c,y1,rfl⟩:∃ c y1,xs=[c,y1]:=by
  match xs,b with
  | [c,y1],_=>exact⟨c,y1,rfl⟩
 have f0:=l 0 _ rfl;change DataW.trod enc Tryz.prog w 0 _ true m 49 ((cs.drop 0).take (Tryz.prog.cellsOf 49))=some c at f0;rw[show Tryz.prog.cellsOf 49=10 by kernel_rfl]at f0;obtain⟨v0,r0,o0,o⟩:=qpo m _ _ f0;have f1:=l 1 _ rfl;change DataW.trod enc Tryz.prog w 0 _ true m 4 ((cs.drop 10).take (Tryz.prog.cellsOf 4))=some y1 at f1;rw[show Tryz.prog.cellsOf 4=1 by kernel_rfl]at f1;obtain⟨v1,t,o1,u⟩:=rd4 m _ _ f1;have bb0:=o;have key:=sP ⟨r0,o0⟩ (sP ⟨t,o1⟩ (eX a));rw[List.drop_zero]at key;refine⟨⟨v0,v1⟩,?_,key.2,?_⟩
 ·have key:=key.1
  obtain⟨p,q,⟨d,e,f,g,i,j⟩,r,s⟩:=v0;exact key
 simp only[fY,Rows.uptoBulk,Rows.uptoBulkAll,jl,jO,gJ,gL,sS,Un,xq];simp only[]at o u;omega
theorem qsa (n:Nat):xF (α:=qj) enc Tryz.prog w 70 n (qj.cells) (fW) Rows.uptoBulk:=by
 intro cs x h;obtain⟨xs,m,rfl,rfl,a,o,e⟩:=DataW.trod_struct Tryz.underlying70 h;rw[show Tryz.prog.cellsOf 70=13 by kernel_rfl]at a;have b:xs.length=4:=o;obtain⟨c,y1,y2,d,rfl⟩:∃ c y1 y2 d,xs=[c,y1,y2,d]:=by
  match xs,b with
  | [c,y1,y2,d],_=>exact⟨c,y1,y2,d,rfl⟩
 have f0:=e 0 _ rfl;change DataW.trod enc Tryz.prog w 0 _ true m 9 ((cs.drop 0).take (Tryz.prog.cellsOf 9))=some c at f0;rw[show Tryz.prog.cellsOf 9=1 by kernel_rfl]at f0;obtain⟨v0,r0,o0,u⟩:=rd9 m _ _ f0;have f1:=e 1 _ rfl;change DataW.trod enc Tryz.prog w 0 _ true m 9 ((cs.drop 1).take (Tryz.prog.cellsOf 9))=some y1 at f1;rw[show Tryz.prog.cellsOf 9=1 by kernel_rfl]at f1;obtain⟨v1,v,o1,y⟩:=rd9 m _ _ f1;have f2:=e 2 _ rfl;change DataW.trod enc Tryz.prog w 0 _ true m 9 ((cs.drop 2).take (Tryz.prog.cellsOf 9))=some y2 at f2;rw[show Tryz.prog.cellsOf 9=1 by kernel_rfl]at f2;obtain⟨v2,z,o2,A⟩:=rd9 m _ _ f2;have f3:=e 3 _ rfl;change DataW.trod enc Tryz.prog w 0 _ true m 49 ((cs.drop 3).take (Tryz.prog.cellsOf 49))=some d at f3;rw[show Tryz.prog.cellsOf 49=10 by kernel_rfl]at f3;obtain⟨v3,B,C,p⟩:=qpo m _ _ f3;have bb3:=p;have key:=sP ⟨r0,o0⟩ (sP ⟨v,o1⟩ (sP ⟨z,o2⟩ (sP ⟨B,C⟩ (eX a))));rw[List.drop_zero]at key;refine⟨⟨v0,v1,v2,v3⟩,?_,key.2,?_⟩
 ·have key:=key.1
  obtain⟨q,r,⟨f,g,i,j,k,l⟩,s,t⟩:=v3;exact key
 simp only[fW,Rows.uptoBulk,Rows.uptoBulkAll,jl,jO,gJ,gL,sS,Un,xq];simp only[]at u y A p;omega
theorem qry (n:Nat):xF (α:=List (zx)) enc Tryz.prog w 46 n (fun l=>[PV.sl (zx.rows l)]) (fun l=>(l.map (dA)).sum+1) Rows.uptoBulk:=
 dg (α:=zx) (z:=2) (rws:=zx.rows) Tryz.underlying46 (by kernel_rfl) (by decide) (pb.hz) (fun _=>rfl) (fun m hm=>qr5 m)
theorem qrz (n:Nat):xF (α:=List (xM)) enc Tryz.prog w 50 n (fun l=>[PV.sl (xM.rows l)]) (fun l=>(l.map (ZI)).sum+1) Rows.uptoBulk:=
 dg (α:=xM) (z:=11) (rws:=xM.rows) Tryz.underlying50 (by kernel_rfl) (by decide) (VE.hz) (fun _=>rfl) (fun m hm=>qr8 m)
theorem qr0 (n:Nat):xF (α:=List (qS)) enc Tryz.prog w 51 n (fun l=>[PV.sl (qS.rows l)]) (fun l=>(l.map (fY)).sum+1) Rows.uptoBulk:=
 dg (α:=qS) (z:=11) (rws:=qS.rows) Tryz.underlying51 (by kernel_rfl) (by decide) (Za.hz) (fun _=>rfl) (fun m hm=>qr9 m)
theorem qr1 (n:Nat):xF (α:=List (qj)) enc Tryz.prog w 52 n (fun l=>[PV.sl (qj.rows l)]) (fun l=>(l.map (fW)).sum+1) Rows.uptoBulk:=
 dg (α:=qj) (z:=13) (rws:=qj.rows) Tryz.underlying52 (by kernel_rfl) (by decide) (nr.hz) (fun _=>rfl) (fun m hm=>qsa m)
theorem qr2 (n:Nat):xF (α:=qd) enc Tryz.prog w 54 n (qd.cells) (vh) Rows.uptoBulk:=by
 intro cs x h;obtain⟨xs,m,rfl,rfl,e,z,a⟩:=DataW.trod_struct Tryz.underlying54 h;rw[show Tryz.prog.cellsOf 54=22 by kernel_rfl]at e;have f:xs.length=13:=z;obtain⟨g,y1,y2,i,j,k,l,o,p,q,b,c,d,rfl⟩:∃ g y1 y2 i j k l o p q b c d,xs=[g,y1,y2,i,j,k,l,o,p,q,b,c,d]:=by
  match xs,f with
  | [g,y1,y2,i,j,k,l,o,p,q,b,c,d],_=>exact⟨g,y1,y2,i,j,k,l,o,p,q,b,c,d,rfl⟩
 have f0:=a 0 _ rfl;change DataW.trod enc Tryz.prog w 0 _ true m 3 ((cs.drop 0).take (Tryz.prog.cellsOf 3))=some g at f0;rw[show Tryz.prog.cellsOf 3=1 by kernel_rfl]at f0;obtain⟨v0,r0,o0,R⟩:=rd3 m _ _ f0;have f1:=a 1 _ rfl;change DataW.trod enc Tryz.prog w 0 _ true m 46 ((cs.drop 1).take (Tryz.prog.cellsOf 46))=some y1 at f1;rw[show Tryz.prog.cellsOf 46=1 by kernel_rfl]at f1;obtain⟨v1,S,o1,T⟩:=qry m _ _ f1;have f2:=a 2 _ rfl;change DataW.trod enc Tryz.prog w 0 _ true m 47 ((cs.drop 2).take (Tryz.prog.cellsOf 47))=some y2 at f2;rw[show Tryz.prog.cellsOf 47=1 by kernel_rfl]at f2;obtain⟨v2,U,o2,V⟩:=qpn m _ _ f2;have f3:=a 3 _ rfl;change DataW.trod enc Tryz.prog w 0 _ true m 49 ((cs.drop 3).take (Tryz.prog.cellsOf 49))=some i at f3;rw[show Tryz.prog.cellsOf 49=10 by kernel_rfl]at f3;obtain⟨v3,X,Y,M⟩:=qpo m _ _ f3;have f4:=a 4 _ rfl;change DataW.trod enc Tryz.prog w 0 _ true m 9 ((cs.drop 13).take (Tryz.prog.cellsOf 9))=some j at f4;rw[show Tryz.prog.cellsOf 9=1 by kernel_rfl]at f4;obtain⟨v4,Z,o4,b4⟩:=rd9 m _ _ f4;have f5:=a 5 _ rfl;change DataW.trod enc Tryz.prog w 0 _ true m 50 ((cs.drop 14).take (Tryz.prog.cellsOf 50))=some k at f5;rw[show Tryz.prog.cellsOf 50=1 by kernel_rfl]at f5;obtain⟨v5,r5,o5,b5⟩:=qrz m _ _ f5;have f6:=a 6 _ rfl;change DataW.trod enc Tryz.prog w 0 _ true m 4 ((cs.drop 15).take (Tryz.prog.cellsOf 4))=some l at f6;rw[show Tryz.prog.cellsOf 4=1 by kernel_rfl]at f6;obtain⟨v6,r6,o6,b6⟩:=rd4 m _ _ f6;have f7:=a 7 _ rfl;change DataW.trod enc Tryz.prog w 0 _ true m 51 ((cs.drop 16).take (Tryz.prog.cellsOf 51))=some o at f7;rw[show Tryz.prog.cellsOf 51=1 by kernel_rfl]at f7;obtain⟨v7,r7,o7,b7⟩:=qr0 m _ _ f7;have f8:=a 8 _ rfl;change DataW.trod enc Tryz.prog w 0 _ true m 47 ((cs.drop 17).take (Tryz.prog.cellsOf 47))=some p at f8;rw[show Tryz.prog.cellsOf 47=1 by kernel_rfl]at f8;obtain⟨v8,r8,o8,b8⟩:=qpn m _ _ f8;have f9:=a 9 _ rfl;change DataW.trod enc Tryz.prog w 0 _ true m 47 ((cs.drop 18).take (Tryz.prog.cellsOf 47))=some q at f9;rw[show Tryz.prog.cellsOf 47=1 by kernel_rfl]at f9;obtain⟨v9,r9,o9,b9⟩:=qpn m _ _ f9;have f10:=a 10 _ rfl;change DataW.trod enc Tryz.prog w 0 _ true m 52 ((cs.drop 19).take (Tryz.prog.cellsOf 52))=some b at f10;rw[show Tryz.prog.cellsOf 52=1 by kernel_rfl]at f10;obtain⟨A,B,C,D⟩:=qr1 m _ _ f10;have f11:=a 11 _ rfl;change DataW.trod enc Tryz.prog w 0 _ true m 26 ((cs.drop 20).take (Tryz.prog.cellsOf 26))=some c at f11;rw[show Tryz.prog.cellsOf 26=1 by kernel_rfl]at f11;obtain⟨E,F,G,H⟩:=qg7 m _ _ f11;have f12:=a 12 _ rfl;change DataW.trod enc Tryz.prog w 0 _ true m 4 ((cs.drop 21).take (Tryz.prog.cellsOf 4))=some d at f12;rw[show Tryz.prog.cellsOf 4=1 by kernel_rfl]at f12;obtain⟨I,J,K,L⟩:=rd4 m _ _ f12;have bb3:=M;have key:=sP ⟨r0,o0⟩ (sP ⟨S,o1⟩ (sP ⟨U,o2⟩ (sP ⟨X,Y⟩ (sP ⟨Z,o4⟩ (sP ⟨r5,o5⟩ (sP ⟨r6,o6⟩ (sP ⟨r7,o7⟩ (sP ⟨r8,o8⟩ (sP ⟨r9,o9⟩ (sP ⟨B,C⟩ (sP ⟨F,G⟩ (sP ⟨J,K⟩ (eX e)))))))))))));rw[List.drop_zero]at key;refine⟨⟨v0,v1,v2,v3,v4,v5,v6,v7,v8,v9,A,E,I⟩,?_,key.2,?_⟩
 ·have key:=key.1
  obtain⟨N,O,⟨r,s,t,u,v,y⟩,P,Q⟩:=v3;exact key
 simp only[vh,Rows.uptoBulk,Rows.uptoBulkAll,jl,jO,gJ,gL,sS,Un,xq];simp only[]at R T V M b4 b5 b6 b7 b8 b9 D H L;omega
theorem qrt (n:Nat):xF (α:=List (qd)) enc Tryz.prog w 22 n (fun l=>[PV.sl (qd.rows l)]) (fun l=>(l.map (vh)).sum+1) Rows.uptoBulk:=
 dg (α:=qd) (z:=22) (rws:=qd.rows) Tryz.underlying22 (by kernel_rfl) (by decide) (xN.hz) (fun _=>rfl) (fun m hm=>qr2 m)
theorem qru (n:Nat):xF (α:=bu) enc Tryz.prog w 24 n (bu.cells) (qqe) Rows.uptoBulk:=by
 intro cs x h;obtain⟨xs,m,rfl,rfl,a,d,e⟩:=DataW.trod_struct Tryz.underlying24 h;rw[show Tryz.prog.cellsOf 24=1 by kernel_rfl]at a;have b:xs.length=1:=d;obtain⟨c,rfl⟩:∃ c,xs=[c]:=by
  match xs,b with
  | [c],_=>exact⟨c,rfl⟩
 have f0:=e 0 _ rfl;change DataW.trod enc Tryz.prog w 0 _ true m 22 ((cs.drop 0).take (Tryz.prog.cellsOf 22))=some c at f0;rw[show Tryz.prog.cellsOf 22=1 by kernel_rfl]at f0;obtain⟨v0,r0,o0,f⟩:=qrt m _ _ f0;have key:=sP ⟨r0,o0⟩ (eX a);rw[List.drop_zero]at key;refine⟨⟨v0⟩,?_,key.2,?_⟩
 ·have key:=key.1
  exact key
 simp only[qqe,Rows.uptoBulk,Rows.uptoBulkAll,jl,jO,gJ,gL,sS,Un,xq];simp only[]at f;omega
end W
end
section
namespace W
open Go Go.Proofs Ax Go.RowKit Go.ChangeShapes Go.WideShapes Go.ChangeAt
open Go.Proofs.YtlnipohgljbfiaaGreat Go.ChangeMaps
theorem own:ownKnob Tryz.prog.godebug=none:=by kernel_rfl
theorem TG:laidOutB Tryz.prog=true:=by kernel_rfl
theorem root {W:World} (h:W.ShapedOpen Tryz.prog):∃ m,W.cell? ⟨0,0,none⟩=some (.int .i64 m):=Tryz.laysM144.s1_3 W h
section
variable {Hd:Type} {enc:TypeId×Value->Hd} {W:World}
set_option maxRecDepth 100000 in
theorem RW {v0:Value} {d0:DataW Hd} {p:List MemPlace} {b:Nat} (a:Value.okWide Tryz.prog W .any b 24 v0) (h:DataW.Trod enc Tryz.prog W 0 (fun _=>true) true 24 v0 d0 p) :
  ∃ s:bu,zn (Dn W) (.agg (Cn.cells s)) v0/\qqe s<=Rows.uptoBulk d0:=by
 obtain⟨cs,rfl,_⟩:=okWide_struct Tryz.underlying24 a;obtain⟨fuel,h⟩:=h;obtain⟨v,r,_,c⟩:=qru fuel _ _ h;refine⟨v,?_,c⟩;simp only[zn];exact⟨cs.toList,by simp,r⟩
end
noncomputable def CD (os:Os):World:=World.holding Tryz.prog os ⟨#[],#[],[]⟩
abbrev VM:Value:=.agg #[.slice none 0 0]
abbrev DM (H:Type):DataW H:=.agg [.nil]
end W
end
section
namespace W
open Go Go.Proofs Go.RowKit Go.ChangeShapes Go.WideShapes Go.ChangeAt
open Go.Proofs.YtlnipohgljbfiaaGreat Go.ChangeMaps
theorem qqn {a b:Bool} (c:a=true) (d:b=true):(a&&b)=true:=by rw[c,d]; rfl
set_option maxHeartbeats 4000000 in
theorem qpa:joinedFacts Tryz.pinned.checked.prog 5 Tryz.f5 (Rows.OpenSpec.upto Rows.marksRenamedSpec).bare Rows.marksRenamedUptoRow=true:=by
 unfold joinedFacts
 repeat' with_reducible refine qqn ?_ ?_
 all_goals (as_aux_lemma=>kernel_rfl)
end W
end
section
open Go Ax
namespace W
def nm (s:List UInt8):List UInt8:=if s=[]then[]else s++[95,55]
theorem qbp {s:List UInt8}:nm s=[]↔s=[]:=by
 unfold nm;split
 ·rename_i h; simp[h]
 rename_i h; simp[h]
theorem ql5 {a b:List UInt8}:nm a=nm b↔a=b:=by
 constructor
 ·intro h
  by_cases c:a=[]
  ·subst c
   have:nm b=[]:=by rw[← h]; rfl
   exact(qbp.1 this).symm
  by_cases d:b=[]
  ·subst d
   have:nm a=[]:=by rw[h]; rfl
   exact absurd (qbp.1 this) c
  unfold nm at h;rw[if_neg c,if_neg d]at h;exact List.append_cancel_right h
 rintro rfl; rfl
mutual
def Cm:qe->qe
 | .mk op name val names args=>.mk op (if op=2 then nm name else name) val names (QA args)
def QA:List qe->List qe
 | []=>[]
 | x::l=>Cm x::QA l
end
theorem oX:∀ l:List qe,QA l=l.map Cm
 | []=>rfl
 | x::l=>by simp only[QA,jl]; rw[oX l]
theorem qj6 (l:List qe):(QA l).length=l.length:=by rw[oX,jm]
def RX (v:Env):Env:=v.map fun x=>(nm x.1,x.2)
structure RenOk (f:Env->Env):Prop where
 kind:∀ v s,zE (f v) (nm s)=zE v s
 wth:∀ v s k,nu (f v) (nm s) k=f (nu v s k)
theorem qbl (s:List UInt8):∀ v:Env,Xq (nm s) (RX v)=Xq s v
 | []=>rfl
 | (s',k)::v=>by
  have:(nm s==nm s')=(s==s'):=by rw[Bool.eq_iff_iff]; simp[ql5]
  simp only[RX,jl,Xq,this];rw[← qbl s v];rfl
theorem EU:RenOk RX:=by
 have a:∀ v s,zE (RX v) (nm s)=zE v s:=fun v s=>by unfold zE va; rw[qbl]
 refine⟨a,fun v s k=>?_⟩;unfold nu;rw[a];simp only[qbp];by_cases h:s=[]\/zE v s≠0
 ·rw[if_pos h,if_pos h]
 rw[if_neg h,if_neg h];simp[RX]
section
variable {f:Env->Env} (hf:RenOk f)
include hf
mutual
theorem Dh (v:Env):∀ x:qe,nY (f v) (Cm x)=nY v x
 | .mk op name val names args=>by
  have ha:=fun k=>XG v args k
  have hb:=qen v args;have hl:=qj6 args;by_cases h2:op=2
  ·subst h2
   simp only[Cm,nY,if_true,hf.kind]
  simp only[Cm,nY,if_neg h2,hl,ha,hb]
theorem XG (v:Env):∀ (l:List qe) (k:Int),bk (f v) k (QA l)=bk v k l
 | [],_=>rfl
 | x::l,k=>by simp only[QA,bk,Dh v x,XG v l k]
theorem qen (v:Env):∀ l:List qe,eL (f v) (QA l)=eL v l
 | []=>rfl
 | [_]=>rfl
 | x::y::l=>by simp only[QA,eL,Dh v x,Dh v y]
end
theorem Tm (v:Env) (x:qe) (k:Int):bk (f v) k [Cm x]=bk v k [x]:=XG hf v [x] k
theorem RS (v:Env) (keys:List (List UInt8)) (vals:List qe):tg (f v) keys (QA vals)=tg v keys vals:=by
 unfold tg;rw[XG hf]
end
def ej (d:qt):qt:=⟨nm d.var_,d.labels,d.keys,QA d.vals⟩
def ek (d:qy):qy:=⟨nm d.var_,d.type_,d.dir,d.keys,QA d.vals⟩
def el (p:zx):zx:=⟨p.nodes.map ej,p.edges.map ek⟩
def rr (f:Env->Env) (r:Int×Env):Int×Env:=(r.1,f r.2)
theorem VA {A d R R' T c:Type} (a:R->R') (b:T->c) (g:A->d) {F:T->A->R ⊕ T} {F':c->d->R' ⊕ c} (h:∀ t x,F' (b t) (g x)=Sum.map a b (F t x)) :
  ∀ (l:List A) (t:T),uT F' (b t) (l.map g)=Sum.map a b (uT F t l)
 | [],t=>rfl
 | x::l,t=>by
  simp only[jl,uT,h];cases F t x with
  | inl r=>rfl
  | inr t'=>exact VA a b g h l t'
theorem Vz {A a R:Type} (g:A->a) {F:A->Option R} {F':a->Option R} (h:∀ x,F' (g x)=F x):∀ l:List A,vu F' (l.map g)=vu F l
 | []=>rfl
 | x::l=>by
  simp only[jl,vu,h];rw[Vz g h l]
theorem aI (p:zx):cb (el p)=(cb p).map (fun x=>(x.1.map ek,ej x.2)):=by
 unfold cb el;have:(none::(p.edges.map ek).map some)=(none::p.edges.map some).map (Option.map ek):=by simp
 simp only;rw[this,List.zip_map];rfl
section
variable {f:Env->Env} (hf:RenOk f)
include hf
theorem qe3 (vy:Bool) (a v:Env) (d:qy):Uh vy (f a) (f v) (ek d)=Sum.map (rr f) f (Uh vy a v d):=by
 simp only[Uh,ek,hf.kind,RS hf,hf.wth,apply_ite (Sum.map (rr f) f),Sum.map_inl,Sum.map_inr,rr]
theorem aa (vy:Bool) (a v:Env) (d:qt):Cl vy (f a) (f v) (ej d)=Sum.map (rr f) f (Cl vy a v d):=by
 simp only[Cl,ej,hf.kind,RS hf,hf.wth,apply_ite (Sum.map (rr f) f),Sum.map_inl,Sum.map_inr,rr]
theorem qhq (vy:Bool) (a v:Env) (x:Option qy×qt):tS vy (f a) (f v) (x.1.map ek,ej x.2)=Sum.map (rr f) f (tS vy a v x):=by
 obtain⟨b,d⟩:=x;cases b with
 | none=>exact aa hf vy a v d
 | some e=>
  simp only[Option.map_some,tS,qe3 hf];cases Uh vy a v e with
  | inl r=>rfl
  | inr w=>exact aa hf vy a w d
theorem qgy (vy:Bool) (a v:Env) (p:zx):Zz vy (f a) (f v) (el p)=Sum.map (rr f) f (Zz vy a v p):=by
 unfold Zz;rw[aI];exact VA (rr f) f (fun x:Option qy×qt=>(x.1.map ek,ej x.2)) (fun t x=>qhq hf vy a t x) _ v
theorem qde (vy:Bool) (a v:Env) (l:List zx):tK vy (f a) (f v) (l.map el)=Sum.map (rr f) f (tK vy a v l):=
 VA (rr f) f el (fun t x=>qgy hf vy a t x) l v
theorem qfs (v:Env) (x:qe):US (f v) (Cm x)=US v x:=by
 obtain⟨op,name,val,names,args⟩:=x;have h:=Dh hf v (.mk op name val names args);unfold US;rw[h];by_cases a:op=14
 ·subst a
  simp only[Cm,dB,XG hf,show((14:Int)=2)=False by decide,if_false];rfl
 have e1:(dB (.mk op name val names args)).1≠14:=a;have e2:(dB (Cm (.mk op name val names args))).1≠14:=a;rw[if_pos e1,if_pos e2]
end
def qj5 (i:xM):xM:=⟨Cm i.e,nm i.as_⟩
def qj7 (s:qS):qS:=⟨Cm s.e,s.down⟩
def qea (s:qj):qj:=⟨nm s.var_,s.key,s.label,Cm s.e⟩
def VL (c:qd):qd:=⟨c.kind,c.paths.map el,QA c.where_,Cm c.e,nm c.var_,c.items.map qj5,c.unique,c.order.map qj7,QA c.skip,QA c.limit,c.sets.map qea,c.vars.map nm,c.detach⟩
section
variable {f:Env->Env} (hf:RenOk f)
include hf
theorem lD (ck:Int) (v m:Env) (it:xM):xC ck (f v) (RX m) (qj5 it)=Sum.map id RX (xC ck v m it):=by
 simp only[xC,qj5,qfs hf,EU.kind,EU.wth,apply_ite (Sum.map (id:Int->Int) RX),Sum.map_inl,Sum.map_inr,id]
theorem qhb (v:Env) (c:qd):GU (f v) (VL c)=rr RX (GU v c):=by
 have h1:=VA (id:Int->Int) RX qj5 (fun m x=>lD hf c.kind v m x) c.items []
 have h2:=fun m=>Vz (F:=dc m) (F':=dc (RX m)) qj7 (fun s=>by unfold dc qj7; rw[Tm EU]) c.order
 have h3:=fun l=>XG EU [] l 3
 have h4:=fun m l=>XG EU m l 3
 have e0:RX []=[]:=rfl;rw[e0]at h1 h3;unfold GU;simp only[VL];rw[h1];cases uT (xC c.kind v) [] c.items with
 | inl e=>rfl
 | inr m=>
  simp only[Sum.map_inr,h2];cases vu (dc m) c.order with
  | some e=>rfl
  | none=>
   simp only[h3,h4];split
   ·rfl
   split
   ·rfl
   rfl
theorem qhj (ck:Int) (v:Env) (l:List qj):aE ck (f v) (l.map qea)=aE ck v l:=by
 unfold aE;rw[Vz (F:=qeb ck v) qea (fun s=>by simp only[qeb,qea,hf.kind,Tm hf])]
theorem qe1 (v:Env) (l:List (List UInt8)):lu (f v) (l.map nm)=lu v l:=by
 unfold lu;rw[Vz (F:=Ls v) nm (fun s=>by simp only[Ls,hf.kind])]
omit hf in
theorem lv (l:List zx):Dk (l.map el)=nm (Dk l):=by
 match l with
 | []=>rfl
 | ⟨[],_⟩::_=>rfl
 | ⟨d::_,_⟩::_=>rfl
omit hf in
theorem qjw (o:Out):eg (Sum.map (rr f) f o)=rr f (eg o):=by cases o<;>rfl
theorem eO (v:Env) (c:qd):gm (f v) (VL c)=rr f (gm v c)\/gm (f v) (VL c)=rr RX (gm v c):=by
 unfold gm;have e1:(VL c).kind=c.kind:=rfl;have e2:(VL c).paths=c.paths.map el:=rfl;have e3:(VL c).where_=QA c.where_:=rfl;have e4:(VL c).e=Cm c.e:=rfl;have e5:(VL c).var_=nm c.var_:=rfl;have e6:(VL c).sets=c.sets.map qea:=rfl;have e7:(VL c).vars=c.vars.map nm:=rfl;simp only[e1,e2,e3,e4,e5,e6,e7,qde hf,lv,hf.kind,hf.wth,qhj hf,qe1 hf,Tm hf,qjw,qhb hf];by_cases h1:c.kind=1
 ·left
  simp only[if_pos h1];cases tK false v v c.paths with
  | inl r=>rfl
  | inr m=>simp only[Sum.map_inr,XG hf]; rfl
 by_cases h2:c.kind=2
 ·left
  simp only[if_neg h1,if_pos h2];split
  ·rfl
  split
  ·rfl
  rfl
 by_cases h4:c.kind=4
 ·left; simp only[if_neg h1,if_neg h2,if_pos h4]
 by_cases a:c.kind=5
 ·left
  simp only[if_neg h1,if_neg h2,if_neg h4,if_pos a];split
  ·rfl
  rfl
 by_cases b:c.kind=6\/c.kind=7
 ·left; simp only[if_neg h1,if_neg h2,if_neg h4,if_neg a,if_pos b]; rfl
 by_cases d:c.kind=8
 ·left; simp only[if_neg h1,if_neg h2,if_neg h4,if_neg a,if_neg b,if_pos d]; rfl
 right; simp only[if_neg h1,if_neg h2,if_neg h4,if_neg a,if_neg b,if_neg d]
end
def qb7 (r:Int×Env):Int ⊕ Env:=if r.1≠0 then .inl r.1 else .inr r.2
theorem qa1 (v:Env) (c:qd):sN v c=qb7 (gm v c):=rfl
theorem qhp (f:Env->Env) (r:Int×Env):qb7 (rr f r)=Sum.map id f (qb7 r):=by
 obtain⟨e,w⟩:=r;by_cases h:e=0<;>simp[qb7,rr,h]
theorem qez (v:Env) (c:qd):sN (RX v) (VL c)=Sum.map id RX (sN v c):=by
 have h:gm (RX v) (VL c)=rr RX (gm v c):=by rcases eO EU v c with h|h<;>exact h
 rw[qa1,qa1,h,qhp]
theorem RP (may:Bool) (cl:List qd) (at_:Int):uM may (cl.map VL) at_=((uM may cl at_).1.map nm,(uM may cl at_).2):=by
 unfold uM;rw[jm,← List.map_take];split
 ·rfl
 have:=VA (id:Int->Int) RX VL (fun t x=>qez t x) (cl.take at_.toNat) []
 have e0:RX []=[]:=rfl;rw[e0]at this;rw[this];cases uT sN [] (cl.take at_.toNat)with
 | inl e=>rfl
 | inr v=>simp[RX,jX,Function.comp_def]
theorem NF (s:List UInt8):(nm s).length<=s.length+2:=by unfold nm; split<;>simp
mutual
theorem Dg:∀ x:qe,dC (Cm x)<=3 * dC x
 | .mk op name val names args=>by
  have:=Xh args;have:=NF name;simp only[Cm,dC];split<;>omega
theorem Xh:∀ l:List qe,uF (QA l)<=3 * uF l
 | []=>by simp[QA,uF]
 | x::l=>by
  have:=Dg x;have:=Xh l;simp only[QA,uF]; omega
end
theorem UA {A:Type} {m:A->Nat} {g:A->A} (h:∀ x,m (g x)<=3 * m x):∀ l:List A,((l.map g).map m).sum<=3 * (l.map m).sum
 | []=>by simp
 | x::l=>by
  have:=UA h l;have:=h x;simp only[jl,jB]; omega
theorem qjr:∀ l:List (List UInt8),sS (l.map nm)<=3 * sS l:=by
 intro l;exact UA (m:=fun k:List UInt8=>1+k.length) (g:=nm) (fun x=>by have:=NF x; omega) l
theorem qi2 (c:qd):vh (VL c)<=3 * vh c:=by
 have h1:=UA (m:=dA) (g:=el) (fun p=>by
  have a:=UA (m:=fK) (g:=ej) (fun d=>by
   have:=NF d.var_; have:=Xh d.vals;simp only[fK,ej]; omega) p.nodes
  have b:=UA (m:=bW) (g:=ek) (fun d=>by
   have:=NF d.var_; have:=Xh d.vals;simp only[bW,ek]; omega) p.edges
  simp only[dA,el]; omega) c.paths
 have h2:=UA (m:=ZI) (g:=qj5) (fun i=>by have:=NF i.as_; have:=Dg i.e; simp only[ZI,qj5]; omega) c.items
 have h3:=UA (m:=fY) (g:=qj7) (fun i=>by have:=Dg i.e; simp only[fY,qj7]; omega) c.order
 have h4:=UA (m:=fW) (g:=qea) (fun i=>by have:=NF i.var_; have:=Dg i.e; simp only[fW,qea]; omega) c.sets
 have j:=qjr c.vars;have k:=Xh c.where_;have l:=Xh c.skip;have n:=Xh c.limit;have o:=Dg c.e;have h:=NF c.var_;simp only[vh,VL,Un];omega
theorem qcy (l:List qd):xq (l.map VL)<=3 * xq l:=UA (m:=vh) (g:=VL) qi2 l
end W
end
section
open Go Ax
namespace W
theorem qjl {A C S R:Type} {B:(S->Option R)->S->Option R} (mk:Nat->List C->S) {l:List A} (f:A->C) (K:List C->Option R)
  (step:∀ (k:Nat) (x:A) (b:S->Option R) (acc:List C),l[k]? =some x->acc.length=k->B b (mk k acc)=b (mk (k+1) (acc++[f x])))
  (a:∀ b acc,B b (mk l.length acc)=K acc) {n:Nat} (d:l.length<n):qo B n (mk 0 [])=K (l.map f):=by
 have main:∀ m k:Nat,k<=l.length->l.length - k<m->qo B m (mk k ((l.take k).map f))=K (l.map f):=by
  intro m
  induction m with
  | zero=>intro k _ h; omega
  | succ m ih=>
   intro k g hm;rw[qO];by_cases he:k=l.length
   ·subst he
    rw[a,List.take_length]
   have h1:k<l.length:=by omega
   have c:=jf h1;rw[step k _ _ _ c (by rw[jm,ju]; omega)];have e:(l.take k).map f++[f l[k]]=(l.take (k+1)).map f:=by
    rw[List.take_succ,c,ka]; rfl
   rw[e];exact ih (k+1) (by omega) (by omega)
 have:=main n 0 (by omega) (by omega);simpa using this
def oO:List UInt8:=[95,55]
theorem Bw {n:Nat} {s:List UInt8} (h:s.length<=137438953472):dJ n s oO=some (nm s):=by
 unfold dJ nm oO;by_cases a:s=[]
 ·subst a; rfl
 rw[kbf.2 a,kcf,if_neg a,zH (kdt (by unfold xr; simp only[ja,jc]; omega))]
theorem Uw:∀ n:Nat,n<=137438953472->(∀ x,dC x<n->zZ n x oO=some (Cm x))/\(∀ l,uF l<n->zM n l oO=some (QA l)):=by
 intro n
 induction n with
 | zero=>intro _; exact⟨fun _ h=>by omega,fun _ h=>by omega⟩
 | succ n ih=>
  intro m;obtain⟨e,f⟩:=ih (by omega);refine⟨fun x d=>?_,fun l o=>?_⟩
  ·obtain⟨a,c,⟨p,q,r,t,u,v⟩,w,b⟩:=x
   simp only[dC]at d;simp only[zZ,pd,fN,Bw (s:=c) (n:=n) (by omega),f b (by omega),qc,Cm];by_cases h2:a=2
   ·subst h2; rfl
   rw[kbf.2 h2,kcf,if_neg h2]
  have hlen:=xY l;simp only[zM,nf];rw[oX];exact qjl (B:=ux n l (zZ n) oO) (fun k acc=>(acc,(k:Int))) (l:=l) Cm some
   (fun k x i acc d y=>by
    have g:=qL d;have he:=e x (by have:=gH (qw d); omega);obtain⟨y1,y2,⟨z,A,C,D,E,F⟩,G,j⟩:=x;simp only[Cm]at he;simp only[ux,qu,qx g,kct,qf d,qc,he,Cm];rw[zH (kdt (by rw[jb]; simp only[ja,jc]; omega)),qU (by omega)])
   (fun i acc=>by simp only[ux,qu,qm,kcf]) (n:=n) (by omega)
theorem qdk {n:Nat} (f:n<=137438953472) {p:zx} (h:dA p<n):ma n p oO=some (el p):=by
 obtain⟨nodes,edges⟩:=p;unfold dA at h;simp only at h;have h1:=zc fK (fun p=>by unfold fK; omega) nodes
 have h2:=zc bW (fun p=>by unfold bW; omega) edges
 unfold ma;simp only;refine Eq.trans (qjl (B:=uW n nodes oO edges) (fun k acc=>((k:Int),acc)) (l:=nodes) ej (fun acc=>some ⟨acc,edges.map ek⟩)
  (fun k x e acc b g=>by
   have c:=qL b;have d:fK x<n:=by have:=zd fK (qw b); omega
   obtain⟨d1,d2,d3,d4⟩:=x;unfold fK at d;simp only at d;simp only[uW,zJ,qx c,kct,qf b,qc,Bw (s:=d1) (n:=n) (by omega),(Uw n f).2 d4 (by omega),ej];rw[zH (kdt (by rw[jb]; simp only[ja,jc]; omega)),qU (by omega)])
  (fun e acc=>by
   simp only[uW,zJ,qm,kcf];exact qjl (B:=uX n edges oO acc) (fun k acc=>((k:Int),acc)) (l:=edges) ek (fun a=>some ⟨acc,a⟩)
    (fun k x e a b g=>by
     have c:=qL b;have d:bW x<n:=by have:=zd bW (qw b); omega
     obtain⟨d1,d2,d3,d4,d5⟩:=x;unfold bW at d;simp only at d;simp only[uX,uL,qx c,kct,qf b,qc,Bw (s:=d1) (n:=n) (by omega),(Uw n f).2 d5 (by omega),ek];rw[zH (kdt (by rw[jb]; simp only[ja,jc]; omega)),qU (by omega)])
    (fun e a=>by simp only[uX,uL,qm,kcf]) (n:=n) (by omega)) (n:=n) (by omega)) ?_
 rfl
theorem qg9 {n:Nat} (S:n<=137438953472) {cl:List qd} (h:xq cl<n):sX n ⟨cl⟩ oO=some ⟨cl.map VL⟩:=by
 have hlen:=zc vh sD cl;unfold xq at h;unfold sX;simp only;exact qjl (B:=dK n cl oO) (fun k acc=>((k:Int),acc)) (l:=cl) VL (fun acc=>some ⟨acc⟩)
  (fun k c R acc hx hk=>by
   have hkl:=qL hx;have K:vh c<n:=by have:=zd vh (qw hx); omega
   have hp:=zc dA (fun p=>by unfold dA; omega) c.paths
   have hi:=zc ZI (fun p=>by unfold ZI; omega) c.items
   have ho:=zc fY (fun p=>by unfold fY; omega) c.order
   have hs:=zc fW (fun p=>by unfold fW; omega) c.sets
   have hv:=xi c.vars;have mp:∀ p∈c.paths,dA p<n:=fun p hm=>by have:=zd dA hm; unfold vh Un at K; omega
   have mi:∀ p∈c.items,ZI p<n:=fun p hm=>by have:=zd ZI hm; unfold vh at K; omega
   have mo:∀ p∈c.order,fY p<n:=fun p hm=>by have:=zd fY hm; unfold vh at K; omega
   have ms:∀ p∈c.sets,fW p<n:=fun p hm=>by have:=zd fW hm; unfold vh at K; omega
   have mv:∀ p∈c.vars,p.length<n:=fun p hm=>by have:=zd (fun k:List UInt8=>1+k.length) hm; unfold vh sS at K; omega
   have e1:=(Uw n S).2 c.where_ (by unfold vh at K; omega);have e2:=(Uw n S).2 c.skip (by unfold vh at K; omega);have e3:=(Uw n S).2 c.limit (by unfold vh at K; omega);have e4:=(Uw n S).1 c.e (by unfold vh at K; omega);have e5:=Bw (s:=c.var_) (n:=n) (by unfold vh at K; omega);unfold vh Un at K;obtain⟨F,L,G,⟨a,b,⟨d,g,i,m,o,q⟩,t,u⟩,v,J,w,I,y,z,H,D,E⟩:=c;simp only at hp hi ho hs hv mp mi mo ms mv e1 e2 e3 e4 e5 K;simp only[Cm]at e4;simp only[dK,zA,qx hkl,kct,qf hx,qc,VL,Cm];refine Eq.trans (qjl (B:=dL n L oO G a b d g i m o q t u v J I y z H D acc F w E R (k:Int)) (fun k acc=>((k:Int),acc)) (l:=L) el
    (fun a2=>R (((k+1:Nat):Int),acc++[⟨F,a2,QA G,⟨a,if a=2 then nm b else b,⟨d,g,i,m,o,q⟩,t,QA u⟩,nm v,J.map qj5,w,I.map qj7,QA y,QA z,H.map qea,D.map nm,E⟩]))
    (fun j x nx2 a2 f hj=>by
     have r:=qL f;have Z:=qdk S (mp x (qw f));obtain⟨p1,p2⟩:=x;simp only[el]at Z;simp only[dL,zL,qx r,kct,qf f,qc,Z,el];rw[zH (kdt (by rw[jb]; simp only[ja,jc]; omega)),qU (k:=j) (by omega)])
    (fun nx2 a2=>by
     simp only[dL,zL,qm,kcf,e1,e4,e5,qc];exact qjl (B:=dM n J oO I y z H D acc F a2 (QA G) a (if a=2 then nm b else b) d g i m o q t (QA u) (nm v) w E R (k:Int)) (fun k acc=>((k:Int),acc)) (l:=J) qj5
      (fun a3=>R (((k+1:Nat):Int),acc++[⟨F,a2,QA G,⟨a,if a=2 then nm b else b,⟨d,g,i,m,o,q⟩,t,QA u⟩,nm v,a3,w,I.map qj7,QA y,QA z,H.map qea,D.map nm,E⟩]))
      (fun j x nx3 a3 f hj=>by
       have r:=qL f;have C:=mi x (qw f);unfold ZI at C;have he:=(Uw n S).1 x.e (by omega);have A:=Bw (s:=x.as_) (n:=n) (by omega);obtain⟨⟨M,O,⟨P,Q,T,U,V,W⟩,X,N⟩,Y⟩:=x;simp only[Cm]at he A;simp only[dM,xM.rows,jm,qx r,kct,qf f,qc,he,A,qj5,Cm];rw[zH (kdt (by rw[jb]; simp only[ja,jc]; omega)),qU (k:=j) (by omega)])
      (fun nx3 a3=>by
       simp only[dM,xM.rows,jm,qm,kcf];exact qjl (B:=dN n I oO y z H D acc F a2 (QA G) a (if a=2 then nm b else b) d g i m o q t (QA u) (nm v) a3 w E R (k:Int)) (fun k acc=>((k:Int),acc)) (l:=I) qj7
        (fun a4=>R (((k+1:Nat):Int),acc++[⟨F,a2,QA G,⟨a,if a=2 then nm b else b,⟨d,g,i,m,o,q⟩,t,QA u⟩,nm v,a3,w,a4,QA y,QA z,H.map qea,D.map nm,E⟩]))
        (fun j x nx4 a4 f hj=>by
         have r:=qL f;have C:=mo x (qw f);unfold fY at C;have he:=(Uw n S).1 x.e (by omega);obtain⟨⟨M,O,⟨P,Q,T,U,V,W⟩,X,N⟩,Y⟩:=x;simp only[Cm]at he;simp only[dN,qS.rows,jm,qx r,kct,qf f,qc,he,qj7,Cm];rw[zH (kdt (by rw[jb]; simp only[ja,jc]; omega)),qU (k:=j) (by omega)])
        (fun nx4 a4=>by
         simp only[dN,qS.rows,jm,qm,kcf,e2,e3,qc];exact qjl (B:=dO n H oO D acc F a2 (QA G) a (if a=2 then nm b else b) d g i m o q t (QA u) (nm v) a3 w a4 (QA y) (QA z) E R (k:Int)) (fun k acc=>((k:Int),acc)) (l:=H) qea
          (fun a5=>R (((k+1:Nat):Int),acc++[⟨F,a2,QA G,⟨a,if a=2 then nm b else b,⟨d,g,i,m,o,q⟩,t,QA u⟩,nm v,a3,w,a4,QA y,QA z,a5,D.map nm,E⟩]))
          (fun j x nx5 a5 f hj=>by
           have r:=qL f;have C:=ms x (qw f);unfold fW at C;have he:=(Uw n S).1 x.e (by omega);have A:=Bw (s:=x.var_) (n:=n) (by omega);obtain⟨z1,z2,z3,⟨M,O,⟨P,Q,T,U,V,W⟩,X,N⟩⟩:=x;simp only[Cm]at he A;simp only[dO,qj.rows,jm,qx r,kct,qf f,qc,he,A,qea,Cm];rw[zH (kdt (by rw[jb]; simp only[ja,jc]; omega)),qU (k:=j) (by omega)])
          (fun nx5 a5=>by
           simp only[dO,qj.rows,jm,qm,kcf];exact qjl (B:=dP n D oO acc F a2 (QA G) a (if a=2 then nm b else b) d g i m o q t (QA u) (nm v) a3 w a4 (QA y) (QA z) a5 E R (k:Int)) (fun k acc=>((k:Int),acc)) (l:=D) nm
            (fun a6=>R (((k+1:Nat):Int),acc++[⟨F,a2,QA G,⟨a,if a=2 then nm b else b,⟨d,g,i,m,o,q⟩,t,QA u⟩,nm v,a3,w,a4,QA y,QA z,a5,a6,E⟩]))
            (fun j x nx6 a6 f hj=>by
             have r:=qL f;have C:=mv x (qw f);have A:=Bw (s:=x) (n:=n) (by omega);simp only[dP,qn,qx r,kct,qf f,qc,A];rw[zH (kdt (by rw[jb]; simp only[ja,jc]; omega)),qU (k:=j) (by omega)])
            (fun nx6 a6=>by
             simp only[dP,qn,zA,qm,kcf];rw[zH (kdt (by rw[jb]; simp only[ja,jc]; omega)),qU (k:=k) (by omega)]) (n:=n) (by omega)) (n:=n) (by omega)) (n:=n) (by omega)) (n:=n) (by omega)) (n:=n) (by omega)) ?_
   rfl)
  (fun R acc=>by simp only[dK,zA,qm,kcf]) (n:=n) (by omega)
end W
end
section
open Go Ax
namespace W
theorem qgd {c:qd} (h:LenOk c):LenOk (VL c):=by
 obtain⟨h1,h2,h3,h4,a⟩:=h;exact⟨by simpa[VL]using h1,by simpa[VL]using h2,by simpa[VL]using h3,by simpa[VL]using h4,by simpa[VL]using a⟩
section
variable {P:List UInt8->Prop}
end
theorem qcv (may:Bool) (cl:List qd):QU may (cl.map VL)=((QU may cl).1.map nm,(QU may cl).2):=by
 unfold QU;simp only;rw[jm,RP];have:(∃ c,(cl.map VL).getLast? =some c/\c.kind=9)↔∃ c,cl.getLast? =some c/\c.kind=9:=by
  rw[List.getLast?_map];cases cl.getLast? with
  | none=>simp
  | some c=>simp[VL]
 simp only[this];split<;>rfl
section
variable {n:Nat} (hn:n<=137438953472) {cl:List qd} (h:32 * xq cl+2000<n) (hM:∀ c∈cl,LenOk c)
include hn h hM
end
end W
end
section
open Go Ax
namespace W
theorem qc0 (params:Val) (x:qe):QV params (Cm x)=QV params x:=by
 obtain⟨o,s,v,b,gs⟩:=x;by_cases h1:o=1
 ·subst h1; rfl
 by_cases h3:o=3
 ·subst h3; rfl
 have e:∀ y:qe,opX y=o->QV params y=none:=fun y a=>by
  unfold QV;rw[a,if_neg h1,if_neg h3]
 rw[e _ rfl,e _ (by simp[Cm,opX])]
theorem qin:∀ (ks:List (List UInt8)) (vs:List qe),ks.zip (QA vs)=(ks.zip vs).map fun e=>(e.1,Cm e.2)
 | [],_=>by simp
 | _::_,[]=>rfl
 | k::ks,v::vs=>by simp only[QA,List.zip_cons_cons,jl,qin ks vs]
theorem lZ (params:Val) (d:qt):Zy params (ej d)=Zy params d:=by
 obtain⟨v,labs,ks,vs⟩:=d;unfold Zy ej;cases labs with
 | nil=>rfl
 | cons l labs=>
  simp only;rw[qin,Vz (fun e:List UInt8×qe=>(e.1,Cm e.2)) (F:=fun e=>(QV params e.2).map (Zo l e.1)) (F':=fun e=>(QV params e.2).map (Zo l e.1)) (fun e=>by simp only[qc0])]
theorem lp (b:List (List UInt8)) (v:List UInt8):(b.map nm).contains (nm v)=b.contains v:=by
 rw[Bool.eq_iff_iff];simp only[List.contains_iff_mem,List.mem_map]
 constructor
 ·rintro⟨x,a,e⟩
  rw[ql5]at e;subst e; exact a
 intro h; exact⟨v,h,rfl⟩
theorem aH (params:Val) (b:List (List UInt8)) (x:Option qy×qt):sG params (b.map nm) (x.1.map ek,ej x.2)=sG params b x:=by
 obtain⟨e,d⟩:=x;unfold sG;congr 1
 ·cases e<;>rfl
 unfold XU;simp only[lZ];have h1:(ej d).var_=nm d.var_:=rfl;rw[h1,lp];simp only[qbp]
theorem Hx (params:Val):∀ (l:List (Option qy×qt)) (b:List (List UInt8)),dd params (b.map nm) (l.map fun x=>(x.1.map ek,ej x.2))=dd params b l
 | [],_=>rfl
 | x::l,b=>by
  have:=Hx params l (b++[x.2.var_]);rw[ka]at this;simp only[jl,dd,aH];rw[← this];rfl
theorem ai (l:List (Option qy×qt)):de (l.map fun x=>(x.1.map ek,ej x.2))=(de l).map nm:=by
 simp only[de,jX];rfl
theorem DA (params:Val):∀ (l:List zx) (b:List (List UInt8)),df params (b.map nm) (l.map el)=df params b l
 | [],_=>rfl
 | p::l,b=>by
  have:=DA params l (b++de (cb p));rw[ka]at this;simp only[jl,df,aI,Hx,ai,this]
theorem Rk (params:Val) (b:List (List UInt8)) (c:qd):cw params (b.map nm) (VL c)=cw params b c:=by
 unfold cw;rw[show(VL c).kind=c.kind from rfl,show(VL c).paths=c.paths.map el from rfl,DA]
theorem HC (params:Val) (f g:Nat->List (List UInt8)) (h:∀ k,f k=(g k).map nm):∀ (l:List qd) (k:Nat),sE params f k (l.map VL)=sE params g k l
 | [],_=>rfl
 | c::l,k=>by simp only[jl,sE,h k,Rk,HC params f g h l (k+1)]
theorem qdj (params:Val) (may:Bool) (cl:List qd):UL params may (cl.map VL)=UL params may cl:=by
 unfold UL;rw[qcv,HC params _ (fun k=>(uM may cl (k:Int)).1) (fun k=>by rw[RP])]
def oP:Val:=.mk 5 false 0 [] [] []
theorem qgq {n:Nat} (a:n<=137438953472) (h:500<n):PGood n oP:=by
 have d:tm oP=3:=rfl;have b:Hj []:=fun i x y h=>by simp at h
 refine⟨fun key=>aO a (by show tm oP<n; omega) rfl b key,fun key=>qg3 a (by show tm oP<n; omega) rfl b key,fun key c=>?_⟩
 have:qd7 oP key=Hl:=by
  show qa7 5 [] [] key=Hl;unfold qa7;rw[if_neg (fun h=>by simp at h)]
 rw[this]at c;cases c
theorem oH {n:Nat} (a:n<=137438953472) {cl:List qd} (h:24 * xq cl+2000<n) (o:3 * xq cl<=1073741824) (f:∀ c∈cl,LenOk c) :
  nh n ⟨cl⟩=some true:=by
 obtain⟨L,p⟩:=Nz a (cl:=cl) (by omega);have hm:=qgi a (cl:=cl) (by omega) f;have hw:=ic (n:=n) (by omega);have g:=qg9 a (cl:=cl) (by omega);have t:=qcy cl;have b:∀ c∈cl.map VL,LenOk c:=fun c q=>by
  obtain⟨d,s,rfl⟩:=List.mem_map.1 q;exact qgd (f d s)
 have i:=qgi a (cl:=cl.map VL) (by omega) b;have hp:=qgq a (by omega);have r1:=(ET a hp (cl:=cl) (by omega) (by omega) f).1;have r2:=(ET a hp (cl:=cl.map VL) (by omega) (by omega) b).1;have m:=NM a hp (cl:=cl) (by omega) (by omega) f;unfold oP at r1 r2;have e:sX n ⟨cl⟩ [95,55]=some ⟨cl.map VL⟩:=g;unfold nh
 dsimp only
 rw[p,qc,hm];cases L with
 | true=>simp only[jq,fU,qG,ql,hw]
 | false=>
  simp only[jp,zg,qG,qk];cases j:Bv n cl with
  | false=>simp only[jp,ql,hw,qG]
  | true=>
   simp only[jq,qk];rw[e,qc]
   dsimp only
   rw[i,qc];cases k:Bv n (cl.map VL)with
   | false=>simp only[jp,ql,hw,qG]
   | true=>
    rw[k,qdj]at r2;rw[j]at r1 m;have l:=Xn (n:=n) (x:=(UL (Val.mk 5 false 0 [] [] []) true cl).1) (by unfold oP at m; omega) a;simp only[jq,qk];rw[r1,qc,r2,qc];generalize UL (Val.mk 5 false 0 [] [] []) true cl=r at l;obtain⟨u,v⟩:=r;simp only at l ⊢;rw[l,qc];simp only[BEq.rfl,ql,zg,hw,qG]
end W
end
