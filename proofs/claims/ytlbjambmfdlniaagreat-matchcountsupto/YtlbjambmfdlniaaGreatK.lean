/- A part of the proof: the plain law. -/
import Derived.Test.YtlbjambmfdlniaaGreatRows
import Derived.Shelf.Vars
import Derived.Deep.DeepHandedRow
import Derived.ChangeMaps5
import Derived.LaidLaws
import Derived.OpenShut
import Derived.Test.YtlbjambmfdlniaaGreatB
import Derived.Test.YtlbjambmfdlniaaGreatC
import Derived.Test.YtlbjambmfdlniaaGreatD
import Derived.Test.YtlbjambmfdlniaaGreatE
import Derived.Test.YtlbjambmfdlniaaGreatF
import Derived.Test.YtlbjambmfdlniaaGreatI
import Derived.Test.YtlbjambmfdlniaaGreatJ
set_option linter.unusedVariables false
set_option linter.unusedSimpArgs false
set_option linter.unnecessarySimpa false
set_option linter.deprecated false
set_option linter.unusedSectionVars false
set_option linter.constructorNameAsVariable false
open Go.IntKind renaming wrap->kwr,bits->kbt
open List renaming length_cons->ja,length_nil->jc,getElem?_eq_getElem->jf,mem_cons->jg,map_cons->jk,length_map->jl,length_take->js,sum_cons->jA,getElem?_eq_some_iff->jG,map_nil->jN,map_map->jU
open Bool renaming and_eq_true->ji
open Nat renaming exists_eq_succ_of_ne_zero->jj,le_refl->jv,zero_le->jR
section
open Go Ax
namespace W
open Go Ax
section
variable {A R S T:Type}
@[simp] theorem XR (a:A) (k:A->Option R):bnd (some a) k=k a:=rfl
@[simp] theorem Pk (k:Option R):chk true k=k:=rfl
theorem MI {b:Bool} {k:Option R} (h:b=true):chk b k=k:=by subst h; rfl
theorem QP {p:Prop} [Decidable p] {k:Option R} (h:p):chk (decide p) k=k:=MI (kdt h)
@[simp] theorem BH [Inhabited A] (o:Option A):qG true o=o:=rfl
@[simp] theorem Nn [Inhabited A] (o:Option A):qG false o=some default:=rfl
theorem vY (B:(S->Option R)->S->Option R) (n:Nat) (s:S):qU B (n+1) s=B (qU B n) s:=rfl
theorem QT {l:List A} {i:Nat} {x:A} (h:l[i]? =some x):idx l (i:Int)=some x:=by
 unfold idx;rw[if_pos (Int.natCast_nonneg i)];simpa using h
@[simp] theorem Md (x:A) (l:List A):idx (x::l) (0:Int)=some x:=rfl
@[simp] theorem PZ (x y:A) (l:List A):idx (x::y::l) (1:Int)=some y:=rfl
@[simp] theorem natI_nat (n:Nat):Xe (n:Int)=some n:=by
 unfold Xe;rw[if_pos (Int.natCast_nonneg n)];simp
theorem sH {k:Nat} (h:k<=1152921504606846976):kwr .i64 ((k:Int)+1)=((k+1:Nat):Int):=by
 rw[LG _ (by omega) (by omega)]; omega
theorem LF {i:Int} (a:-1152921504606846976<=i) (b:i<=1152921504606846976):kwr .i64 i=i:=LG _ (by omega) (by omega)
theorem Vj {B:(S->Option R)->S->Option R} (st:Nat->S) (m:Nat) {r:Option R} (b:∀ k,k<m->∀ a,B a (st k)=a (st (k+1))) (he:∀ a,B a (st m)=r) {n:Nat} (hn:m<n):qU B n (st 0)=r:=by
 have key:∀ (d k n:Nat),k+d=m->d<n->qU B n (st k)=r:=by
  intro d
  induction d with
  | zero=>
   intro k n c hn;obtain⟨n,rfl⟩:=jj (by omega:n≠0);have:k=m:=by omega
   subst this;exact he _
  | succ d ih=>
   intro k n c hn;obtain⟨n,rfl⟩:=jj (by omega:n≠0);rw[vY,b k (by omega)];exact ih (k+1) n (by omega) (by omega)
 exact key m 0 n (by omega) hn
def Sz (o k:Option R):Option R:=match o with|some r=>some r|none=>k
def Ry (o:R ⊕ T) (k:T->Option R):Option R:=match o with|.inl r=>some r|.inr t=>k t
@[simp] theorem PN (r:R) (k:Option R):Sz (some r) k=some r:=rfl
@[simp] theorem PM (k:Option R):Sz none k=k:=rfl
@[simp] theorem Rz (r:R) (k:T->Option R):Ry (.inl r) k=some r:=rfl
@[simp] theorem RA (t:T) (k:T->Option R):Ry (.inr t) k=k t:=rfl
end
theorem DR {A:Type} {l:List A} {k:Nat} {x:A} (h:l[k]? =some x):k<l.length:=(jG.1 h).1
theorem MU {A:Type} {l:List A} {k:Nat} {x:A} (h:l[k]? =some x):x∈l:=List.mem_of_getElem? h
@[simp] theorem Qh (l:List (List UInt8)):(qy l).length=l.length:=by simp[qy]
@[simp] theorem Np (k:IntKind) (l:List Int):(HM k l).length=l.length:=by simp[HM]
@[simp] theorem Hk (l:List UInt8):(zu l).length=l.length:=by simp[zu]
@[simp] theorem uH (l:List Val):(Val.rows l).length=l.length:=by rw[rows_eq]; simp
theorem DE {k m:Nat} (h:k<m):decide ((k:Int)<(m:Int))=true:=kdt (by omega)
theorem GS {m:Nat}:decide ((m:Int)<(m:Int))=false:=kdf (by omega)
open Go Ax
def Sr (i:Int):Nat:=if -9223372036854775808<=i/\i<=9223372036854775807 then 1 else 1099511627776
theorem MN {i:Int} (h:IntKind.i64.min<=i/\i<=IntKind.i64.max):Sr i=1:=by
 have a:IntKind.i64.min = -9223372036854775808:=by decide
 have b:IntKind.i64.max=9223372036854775807:=by decide
 unfold Sr;rw[if_pos]; omega
theorem Pv {i:Int} (h:Sr i<1099511627776):-9223372036854775808<=i/\i<=9223372036854775807:=by
 unfold Sr at h;split at h
 ·assumption
 omega
mutual
def Fv:Val->Nat
 | .mk _ _ i s l ks=>1+Sr i+s.length+nD l+(ks.map fun k=>1+k.length).sum
def nD:List Val->Nat
 | []=>1
 | v::l=>1+Fv v+nD l
end
def CE (l:List (List UInt8)):Nat:=(l.map fun k=>1+k.length).sum
theorem mu (l:List (List UInt8)):l.length<=CE l:=by
 induction l with
 | nil=>simp[CE]
 | cons x l ih=>simp only[CE,jk,jA,ja]at ih ⊢; omega
@[simp] theorem MK (l:List qb):(qb.rows l).length=l.length:=by rw[qb.rows_eq]; simp
open Go Ax
open Go Ax
open Go Ax
open Go Ax
open Go Ax
theorem ME {k:Nat} (h:k+1<=1152921504606846976):kwr .i64 (((k+1:Nat):Int) - 1)=((k:Nat):Int):=by
 rw[LF (by omega) (by omega)]; omega
theorem dk:∀ l:List Val,l.length<nD l
 | []=>by simp[nD]
 | x::l=>by have:=dk l; simp only[nD,ja]; omega
theorem nX:∀ {l:List Val} {x:Val},x∈l->Fv x+2<=nD l
 | y::l,x,h=>by
  simp only[nD];rcases jg.1 h with rfl|h
  ·have:=dk l; omega
  have:=nX h; omega
open Go Ax
open Go Ax
open Go Ax
open Go Ax
theorem Ft {A:Type} (f:A->Nat):∀ {l:List A} {x:A},x∈l->f x<=(l.map f).sum
 | y::l,x,h=>by
  rcases jg.1 h with rfl|h
  ·simp
  have:=Ft f h; simp; omega
theorem Dm {A:Type} (f:A->Nat) (a:∀ x,1<=f x):∀ l:List A,l.length<=(l.map f).sum
 | []=>by simp
 | x::l=>by have:=Dm f a l; have:=a x; simp; omega
open Go Ax
open Go Ax
open Go Ax
open Go Ax
open Go Ax
open Go Ax
open Go Ax
open Go Ax
open Go Ax
open Go Ax
open Go Ax
theorem NP (z:Int) (a:0<=z) (b:z<18446744073709551616):kwr .u64 z=z:=by
 show z % (2 ^ 64:Int)=z;omega
open Go Ax
open Go Ax
theorem Sj (r k:Nat):Int.fdiv (r:Int) ((k:Nat):Int)=((r / k:Nat):Int):=by
 rw[Int.fdiv_eq_ediv_of_nonneg _ (by omega)]; rfl
open Go Ax
open Go Ax
theorem xp {A R:Type} (a:A) (k:A->Option R):bnd (some a) k=k a:=by
 generalize h:some a=o;cases h;rfl
theorem dU {A:Type} (a b:A):(bif true then a else b)=a:=by
 generalize h:true=o;cases h;rfl
theorem xZ {A:Type} (a b:A):(bif false then a else b)=b:=by
 generalize h:false=o;cases h;rfl
open Go Ax
theorem Ls {A:Type} {l:List A} {i:Nat} {x:A} (h:l[i]? =some x):l.take i++[x]=l.take (i+1):=by rw[List.take_succ,h]; rfl
open Go Ax
theorem Hl {a b c:List UInt8} (h:a<b) (d:b<c):a<c:=List.lt_trans h d
def MF (ks:List (List UInt8)):Prop:=∀ (i:Nat) (x y:List UInt8),ks[i]? =some x->ks[i+1]? =some y->x<y
theorem MF.lt {ks:List (List UInt8)} (h:MF ks):∀ (d i:Nat) (x y:List UInt8),ks[i]? =some x->ks[i+d+1]? =some y->x<y
 | 0,i,x,y,hx,hy=>h i x y hx hy
 | d+1,i,x,y,hx,hy=>by
  have a:=DR hy;obtain⟨z,hz⟩:∃ z,ks[i+d+1]? =some z:=⟨_,jf (by omega)⟩;exact Hl (h.lt d i x z hx hz) (h _ z y hz (by rw[← hy]; congr 1))
open Go Ax Go.RowKit
set_option maxRecDepth 10000
theorem Mv {A:Type} {l:List A} {i:Nat} {x:A} (h:l[i]? =some x):l.set i x=l:=by
 obtain⟨a,e⟩:=jG.1 h;subst e;exact List.set_getElem_self a
theorem Nh:∀ n:Nat,n<=1099511627776->∀ v:Val,Fv v<n->xi n v=some v:=by
 intro n
 induction n with
 | zero=>intro _ _ h; omega
 | succ n ih=>
  intro hn v hv;obtain⟨e,f,g,j,a,b⟩:=v;have q:nD a<n/\b.length<n:=by
   have:=mu b;simp only[CE]at this;simp only[Fv]at hv;omega
  have r:=dk a;have c:∀ k:Nat,(Val.rows (List.replicate k (Val.mk (0:Int) false (0:Int) ([]:List UInt8) ([]:List Val) ([]:List (List UInt8))))).length=k:=fun k=>by simp
  have loop:∀ (m i:Nat),i<=a.length->a.length - i<m->qU (vA n a.length (xi n) b e f g j) m ((i:Int),a)=some (Val.mk e f g j a b):=by
   intro m
   induction m with
   | zero=>intro i _ h; omega
   | succ m ihm=>
    intro i s hm;rw[vY];generalize qU (vA n a.length (xi n) b e f g j) m=nx at ihm ⊢;unfold vA;simp only[c];by_cases d:i<a.length
    ·obtain⟨x,o⟩:∃ x,a[i]? =some x:=⟨_,jf d⟩
     have p:=ih (by omega) x (by have:=nX (List.mem_of_getElem? o); omega);obtain⟨t,a2,a3,a4,a5,u⟩:=x;rw[kdt (show(i:Int)<(a.length:Int) by omega)];simp only[kct,W.natI_nat,XR,kdt d,Pk,o,p];rw[sH (by omega),Mv o];exact ihm (i+1) (by omega) (by omega)
    rw[kdf (show ¬ (i:Int)<(a.length:Int) by omega)];simp only[kcf];rw[QP (by simp[qy]; omega)]
  simp only[xi,dF,uH,W.natI_nat,XR,List.length_replicate,decide_true,Pk];rw[QP (by omega)];exact loop n 0 (jR _) (by omega)
theorem Nf {R:Type} {B:(Int×Int->Option R)->Int×Int->Option R} (P:Nat->Bool) (len:Nat) (hmono:∀ a b,a<=b->b<len->P b=true->P a=true)
  (k:∀ i j:Nat,i<j->j<=len->∀ c,B c ((i:Int),(j:Int))=bif P ((i+j) / 2)then c ((((i+j) / 2+1:Nat):Int),(j:Int))else c ((i:Int),(((i+j) / 2:Nat):Int)))
  {rest:Nat->Option R} (he:∀ i:Nat,i<=len->∀ c,B c ((i:Int),(i:Int))=rest i) {n:Nat} (hn:len<n) :
  ∃ i:Nat,i<=len/\(∀ a,a<i->P a=true)/\(∀ a,i<=a->a<len->P a=false)/\qU B n ((0:Int),(len:Int))=rest i:=by
 have key:∀ (m i j:Nat),i<=j->j<=len->j - i<m->(∀ a,a<i->P a=true)->(∀ a,j<=a->a<len->P a=false) ->
   ∃ q:Nat,q<=len/\(∀ a,a<q->P a=true)/\(∀ a,q<=a->a<len->P a=false)/\qU B m ((i:Int),(j:Int))=rest q:=by
  intro m
  induction m with
  | zero=>intro i j _ _ h; omega
  | succ m ih=>
   intro i j o d hm f g;rw[vY];by_cases h:i=j
   ·subst h
    exact⟨i,d,f,g,he i d _⟩
   rw[k i j (by omega) d];cases hp:P ((i+j) / 2)with
   | true=>
    exact ih _ _ (by omega) d (by omega) (fun a ha=>hmono a _ (by omega) (by omega) hp) g
   | false=>
    refine ih _ _ (by omega) (by omega) (by omega) f fun a ha e=>?_;cases p:P a with
    | false=>rfl
    | true=>rw[hmono _ a ha e p]at hp; cases hp
 exact key n 0 len (jR _) (jv _) (by omega) (fun a h=>by omega) fun a h r=>by omega
theorem Rm (z:Int) (a:0<=z) (b:z<18446744073709551616):kwr .u64 z=z:=NP z a b
theorem RE {i j:Nat} (h:i+j<=1152921504606846976):kwr .i64 (Int.fdiv (kwr .u64 (kwr .i64 ((i:Int)+(j:Int)))) (2 ^ (min (Int.toNat (1:Int)) IntKind.u64.bits)))=(((i+j) / 2:Nat):Int):=by
 rw[LF (i:=(i:Int)+(j:Int)) (by omega) (by omega),Rm _ (by omega) (by omega)];have e:((i:Int)+(j:Int))=((i+j:Nat):Int):=by omega
 have:=Sj (i+j) 2;rw[e,show((2:Int) ^ (min (Int.toNat (1:Int)) IntKind.u64.bits))=((2:Nat):Int)from rfl,this,LF (by omega) (by omega)]
open Go Ax
open Go Ax
open Go Ax
open Go Ax
open Go Ax
@[simp] theorem NZ (l:List Node):(Node.rows l).length=l.length:=by simp[Node.rows]
def sw (d:Node):Nat:=1+CE d.labels+CE d.keys+nD d.vals
def sU (e:Edge):Nat:=1+e.type_.length+CE e.keys+nD e.vals
def Fz (g:Graph):Nat:=(g.nodes.map sw).sum+(g.edges.map sU).sum
def Sc {A:Type} (key:A->Int) (l:List A):Prop:=l.Pairwise fun a b=>key a<key b
def cE {A:Type} (key:A->Int) (l:List A) (id:Int):Option A:=l.find? fun d=>key d==id
section
variable {A:Type} {key:A->Int} {l:List A} {id:Int}
theorem Sc.lt (h:Sc key l) {i j:Nat} {x y:A} (a:i<j) (b:l[i]? =some x) (c:l[j]? =some y):key x<key y:=by
 obtain⟨d,e⟩:=jG.1 b;obtain⟨f,e2⟩:=jG.1 c;have:=List.pairwise_iff_getElem.1 h i j d f a;rw[e,e2]at this;exact this
theorem Ea {d:A} (h:cE key l id=some d):d∈l/\key d=id:=
 ⟨List.mem_of_find?_eq_some h,by simpa using List.find?_some h⟩
theorem NI (h:Sc key l) {i:Nat} {d:A} (b:l[i]? =some d) (g:key d=id):cE key l id=some d:=by
 cases f:cE key l id with
 | none=>exact absurd g (by simpa using List.find?_eq_none.1 f d (MU b))
 | some e=>
  obtain⟨hm,he⟩:=Ea f;obtain⟨j,c⟩:=List.getElem?_of_mem hm;rcases Nat.lt_trichotomy i j with a|a|a
  ·have:=h.lt a b c; omega
  ·subst a; rw[b]at c; exact c.symm
  have:=h.lt a c b; omega
theorem Lp (h:∀ (i:Nat) (d:A),l[i]? =some d->key d≠id):cE key l id=none:=
 List.find?_eq_none.2 fun d a=>by
  obtain⟨i,b⟩:=List.getElem?_of_mem a;simpa using h i d b
theorem PW (o:Sc key l) {B:(Int×Int->Option (Int×Bool))->Int×Int->Option (Int×Bool)}
  (w:∀ (i j:Nat) (x:A) e,i<j->j<=l.length->l[(i+j) / 2]? =some x->B e ((i:Int),(j:Int))=bif decide (key x<id)then e ((((i+j) / 2+1:Nat):Int),(j:Int))else e ((i:Int),(((i+j) / 2:Nat):Int)))
  (he:∀ (i:Nat) e,i<=l.length->B e ((i:Int),(i:Int))=some ((i:Int),match l[i]? with|some x=>decide (key x=id)|none=>false)) {n:Nat} (hn:l.length<n) :
  ∃ i:Nat,qU B n ((0:Int),((l.length:Nat):Int))=some ((i:Int),(cE key l id).isSome)/\∀ d,cE key l id=some d->l[i]? =some d:=by
 obtain⟨q,G,p,v,z⟩:=Nf (B:=B) (fun a=>match l[a]? with|some x=>decide (key x<id)|none=>false) l.length
  (fun a c r C hp=>by
   obtain⟨x,b⟩:∃ x,l[c]? =some x:=⟨_,jf C⟩;obtain⟨y,g⟩:∃ y,l[a]? =some y:=⟨_,jf (by omega)⟩;simp only[b,kde]at hp;simp only[g,kde];rcases Nat.lt_or_eq_of_le r with h|rfl
   ·have:=o.lt h g b; omega
   rw[b]at g; cases g; exact hp)
  (fun i j s k e=>by
   obtain⟨x,b⟩:∃ x,l[(i+j) / 2]? =some x:=⟨_,jf (by omega)⟩;rw[w i j x e s k b,b])
  (rest:=fun i=>some ((i:Int),match l[i]? with|some x=>decide (key x=id)|none=>false)) (fun i f e=>he i e f) hn
 refine⟨q,?_,fun d D=>?_⟩
 ·rw[z]
  congr 2;cases m:l[q]? with
  | none=>
   rw[Lp fun i d f=>?_]
   ·rfl
   have E:=DR f;have:=p i (by have:=List.getElem?_eq_none_iff.1 m; omega);simp only[f,kde]at this;omega
  | some x=>
   by_cases b:key x=id
   ·rw[NI o m b]; simp[b]
   have t:=DR m;have u:=v q (jv _) t;simp only[m,decide_eq_false_iff_not]at u;rw[Lp fun i d f=>?_]
   ·simp[b]
   rcases Nat.lt_trichotomy i q with h|h|h
   ·have:=p i h
    simp only[f,kde]at this;omega
   ·subst h; rw[m]at f; cases f; exact b
   have:=o.lt h m f; omega
 obtain⟨hm,H⟩:=Ea D;obtain⟨j,k⟩:=List.getElem?_of_mem hm;have F:=DR k;have:j=q:=by
  rcases Nat.lt_trichotomy j q with h|h|h
  ·have:=p j h
   simp only[k,kde]at this;omega
  ·exact h
  obtain⟨y,g⟩:∃ y,l[q]? =some y:=⟨_,jf (by omega)⟩;have u:=v q (jv _) (by omega);simp only[g,decide_eq_false_iff_not]at u;have:=o.lt h g k;omega
 subst this;exact k
end
theorem El (n:Nat) (x y:Int):xH n x y=some (if x<y then -1 else if y<x then 1 else 0):=by
 unfold xH vw;simp only[bne_self_eq_false,xp,xZ];by_cases h:x<y
 ·rw[if_pos h,kdt h,kct]
 rw[if_neg h,kdf h,kcf];by_cases a:y<x
 ·rw[if_pos a,kdt (show x>y from a),kct]
 rw[if_neg a,kdf (show ¬ x>y from a),kcf]
theorem Pn (x y:Int):decide ((if x<y then(-1:Int)else if y<x then 1 else 0)<0)=decide (x<y):=by
 rw[decide_eq_decide];split
 ·omega
 split<;>omega
theorem Pm (x y:Int):((if x<y then(-1:Int)else if y<x then 1 else 0)==0)=decide (x=y):=by
 rw[Bool.eq_iff_iff,beq_iff_eq,decide_eq_true_iff];split
 ·omega
 split<;>omega
section
variable {n:Nat} (hn:n<=1099511627776)
include hn
theorem Ch {ks:List (List UInt8)} {vs:List Val} (h:nD vs<n) (f:ks.length<=n):vW n ks vs=some (ks,vs):=by
 have g:=dk vs;unfold vW;rw[uH,natI_nat,XR,QP (by omega)];refine Vj (B:=zY n vs ks) (fun i=>(vs.take i,((i:Nat):Int))) vs.length (fun i b c=>?_) (fun c=>?_) (by omega)
 ·obtain⟨x,a⟩:∃ x,vs[i]? =some x:=⟨_,jf b⟩
  have d:=Nh n hn x (by have:=nX (MU a); omega);have e:=Ls a;obtain⟨j,a2,a3,a4,a5,k⟩:=x;simp only[zY,uH,DE b,kct,QT a,xp,d];rw[e,QP (by rw[js]; omega),sH (by omega)]
 show zY n vs ks c (vs.take vs.length,((vs.length:Nat):Int))=_;rw[List.take_length];unfold zY;simp only[uH,GS,kcf];rw[QP (by rw[Qh]; omega)]
theorem Ps (d:Node):d.labels.length<=sw d/\d.keys.length<=sw d/\nD d.vals<sw d:=by
 have a:=mu d.labels;have b:=mu d.keys;unfold sw;omega
theorem Pq (d:Edge):d.type_.length<=sU d/\d.keys.length<=sU d/\nD d.vals<sU d:=by
 have a:=mu d.keys;unfold sU;omega
theorem BC {d:Node} (h:sw d<n):vO n d=some d:=by
 obtain⟨b,c,e⟩:=Ps hn d;have a:=Ch hn (ks:=d.keys) (vs:=d.vals) (by omega) (by omega);obtain⟨i,l,ks,vs⟩:=d;simp only at b a;unfold vO;simp only;rw[QP (by rw[Qh]; omega),a,XR]
theorem BB {d:Edge} (h:sU d<n):xO n d=some d:=by
 obtain⟨e,f,g⟩:=Pq hn d;have c:=Ch hn (ks:=d.keys) (vs:=d.vals) (by omega) (by omega);obtain⟨i,a,b,t,ks,vs⟩:=d;simp only at c;unfold xO;simp only;rw[c,XR]
end
open Go Ax
theorem DJ {g:Graph} {d:Node} (h:d∈g.nodes):sw d<=Fz g:=by
 have:=Ft sw h; unfold Fz; omega
theorem Cl {g:Graph} {d:Edge} (h:d∈g.edges):sU d<=Fz g:=by
 have:=Ft sU h; unfold Fz; omega
theorem Pr {g:Graph}:g.nodes.length<=Fz g/\g.edges.length<=Fz g:=by
 have a:=Dm sw (fun d=>by unfold sw; omega) g.nodes
 have b:=Dm sU (fun d=>by unfold sU; omega) g.edges
 unfold Fz;omega
open Go Ax
theorem Eg (v:Val):2<=Fv v:=by
 obtain⟨k,b,i,s,l,ks⟩:=v;have:=dk l;simp only[Fv]; omega
end W
end
section
open Go Go.Proofs Ax
namespace W
open Go.Proofs.YtlbjambmfdlniaaGreat
theorem sG:∀ l:List Val,nD l=(l.map fun x=>Fv x+1).sum+1
 | []=>rfl
 | x::l=>by simp only[nD,jk,jA]; rw[sG l]; omega
def LJ (e:Edge):Nat:=Sr e.id+Sr e.from_+Sr e.to+e.type_.length+CE e.keys+nD e.vals
def Sp (g:Graph):Nat:=(g.nodes.map sw).sum+(g.edges.map LJ).sum
variable {Hd:Type} {enc:TypeId×Value->Hd} {w:World}
theorem DW {c:Nat} {H:PH c}:∀ {a:List PV} {b:List PV} {x y:List Value},qJ H a x->qJ H b y->qJ H (a++b) (x++y)
 | [],_,x,_,h,h'=>by
  have:x=[]:=by simpa[qJ]using h
  subst this; exact h'
 | p::a,_,x,_,h,h'=>by
  simp only[qJ]at h;obtain⟨v,vs,rfl,d,e⟩:=h;simp only[List.cons_append,qJ];exact⟨_,_,rfl,d,DW e h'⟩
theorem Fy {d:Nat} {H:PH d} {a b:List PV} {cs:List Value} {o z:Nat} (h:qJ H a ((cs.drop o).take z)/\∀ u∈(cs.drop o).take z,u.oneCell'=true) (c:qJ H b (cs.drop (o+z))/\∀ u∈cs.drop (o+z),u.oneCell'=true) :
  qJ H (a++b) (cs.drop o)/\∀ u∈cs.drop o,u.oneCell'=true:=by
 have e:cs.drop o=(cs.drop o).take z++cs.drop (o+z):=by rw[← List.drop_drop,List.take_append_drop]
 refine⟨by rw[e]; exact DW h.1 c.1,fun u hu=>?_⟩;rw[e]at hu;rcases List.mem_append.1 hu with hu|hu
 ·exact h.2 u hu
 exact c.2 u hu
theorem PJ {a:Nat} {H:PH a} {cs:List Value} {z:Nat} (h:cs.length=z):qJ H [] (cs.drop z)/\∀ u∈cs.drop z,u.oneCell'=true:=by
 have:cs.drop z=[]:=List.drop_eq_nil_of_le (by omega);rw[this];exact⟨rfl,fun u hu=>by cases hu⟩
theorem Ec {α:Type} {a:α->Nat}:∀ (l:List α) (elems:List (DataW Hd)),l.length=elems.length->(∀ (i:Nat) (d:DataW Hd) (v:α),elems[i]? =some d->l[i]? =some v->a v<=Rows.uptoBulk d)->(l.map a).sum<=Rows.uptoBulkAll elems
 | [],_,_,_=>jR _
 | v::l,[],h,_=>by simp at h
 | v::l,d::elems,h,hh=>by
  have:=Ec l elems (by simpa using h) fun i d v b hv=>hh (i+1) d v (by simpa using b) (by simpa using hv)
  have:=hh 0 d v rfl rfl;simp only[jk,jA,Rows.uptoBulkAll]; omega
theorem Qe {α:Type} [Inhabited α] {P:Program} {t e:TypeId} {z n:Nat} {row:α->List PV} {f:α->Nat} {rws:List α->List (List PV)} (g:P.underlying t=some (.slice e)) (hz:P.cellsOf e=z) (c:1<=z)
  (a:∀ v,(row v).length=z) (i:∀ l,rws l=l.map row) (d:∀ m,m<n->gP enc P w e m row f Rows.uptoBulk):gP enc P w t n (fun l:List α=>[PV.sl (rws l)]) (fun l=>(l.map f).sum+1) Rows.uptoBulk:=by
 intro cs x h;obtain⟨l,v,rfl,o,r,b⟩:=EE g hz c a d h;refine⟨l,?_,by simpa using o,?_⟩
 ·simp only[qJ]
  exact⟨_,_,rfl,by rw[i]; exact r,rfl⟩
 rcases b with ⟨e,rfl⟩|⟨j,rest,e,k,p⟩
 ·rw[e]; simp[Rows.uptoBulk]
 rw[e];have:=Ec l j k p;simp only[Rows.uptoBulk]; omega
theorem SB (n:Nat):gP (α:=Int) enc Tryz.prog w 3 n (fun i=>[PV.int .i64 i]) (Sr) Rows.uptoBulk:=by
 intro cs x h;obtain⟨k,e,rfl,hw⟩:=DataW.trod_int Tryz.underlying3 h;cases e;exact⟨k,by simp[qJ,qp],by simp[Value.oneCell'],by simp only[Rows.uptoBulk]; exact Nat.le_of_eq (MN (by simpa[Lit.wf]using hw))⟩
theorem SC (n:Nat):gP (α:=Bool) enc Tryz.prog w 4 n (fun b=>[PV.bool b]) (fun _=>1) Rows.uptoBulk:=by
 intro cs x h;obtain⟨k,e,rfl⟩:=DataW.trod_bool Tryz.underlying4 h;cases e;exact⟨k,by simp[qJ,qp],by simp[Value.oneCell'],by simp[Rows.uptoBulk]⟩
theorem SA (n:Nat):gP (α:=Int) enc Tryz.prog w 2 n (fun i=>[PV.int .i64 i]) (Sr) Rows.uptoBulk:=by
 intro cs x h;obtain⟨k,e,rfl,hw⟩:=DataW.trod_int Tryz.underlying2 h;cases e;exact⟨k,by simp[qJ,qp],by simp[Value.oneCell'],by simp only[Rows.uptoBulk]; exact Nat.le_of_eq (MN (by simpa[Lit.wf]using hw))⟩
theorem SD (n:Nat):gP (α:=List UInt8) enc Tryz.prog w 9 n (fun s=>[PV.str s]) (fun s=>1+s.length) Rows.uptoBulk:=by
 intro cs x h;obtain⟨s,e,rfl,_⟩:=DataW.trod_string Tryz.underlying9 h;cases e;exact⟨s.data.toList,by simp[qJ,qp],by simp[Value.oneCell'],by simp[Rows.uptoBulk]; omega⟩
theorem PQ (n:Nat):gP (α:=List (List UInt8)) enc Tryz.prog w 23 n (fun l=>[PV.sl (qy l)]) (fun l=>(l.map (fun s=>1+s.length)).sum+1) Rows.uptoBulk:=
 Qe (α:=List UInt8) (z:=1) (rws:=qy) Tryz.underlying23 (by kernel_rfl) (by decide) (fun _=>rfl) (fun _=>rfl) (fun m hm=>SD m)
theorem RJ (n:Nat):gP (α:=Val) enc Tryz.prog w 32 n (Val.cells) (fun x=>Fv x+1) Rows.uptoBulk:=by
 induction n using Nat.strongRecOn with
 | ind n ih=>
 intro cs x h;obtain⟨xs,m,rfl,rfl,b,l,a⟩:=DataW.trod_struct Tryz.underlying32 h;rw[show Tryz.prog.cellsOf 32=6 by kernel_rfl]at b;have c:xs.length=6:=l;obtain⟨d,e,f,g,i,k,rfl⟩:∃ d e f g i k,xs=[d,e,f,g,i,k]:=by
  match xs,c with
  | [d,e,f,g,i,k],_=>exact⟨d,e,f,g,i,k,rfl⟩
 have f0:=a 0 _ rfl;change DataW.trod enc Tryz.prog w 0 _ true m 3 ((cs.drop 0).take (Tryz.prog.cellsOf 3))=some d at f0;rw[show Tryz.prog.cellsOf 3=1 by kernel_rfl]at f0;obtain⟨v0,r0,o,p⟩:=SB m _ _ f0;have f1:=a 1 _ rfl;change DataW.trod enc Tryz.prog w 0 _ true m 4 ((cs.drop 1).take (Tryz.prog.cellsOf 4))=some e at f1;rw[show Tryz.prog.cellsOf 4=1 by kernel_rfl]at f1;obtain⟨v1,q,r,s⟩:=SC m _ _ f1;have f2:=a 2 _ rfl;change DataW.trod enc Tryz.prog w 0 _ true m 2 ((cs.drop 2).take (Tryz.prog.cellsOf 2))=some f at f2;rw[show Tryz.prog.cellsOf 2=1 by kernel_rfl]at f2;obtain⟨v2,t,u,v⟩:=SA m _ _ f2;have f3:=a 3 _ rfl;change DataW.trod enc Tryz.prog w 0 _ true m 9 ((cs.drop 3).take (Tryz.prog.cellsOf 9))=some g at f3;rw[show Tryz.prog.cellsOf 9=1 by kernel_rfl]at f3;obtain⟨v3,y,A,B⟩:=SD m _ _ f3;have f4:=a 4 _ rfl;change DataW.trod enc Tryz.prog w 0 _ true m 24 ((cs.drop 4).take (Tryz.prog.cellsOf 24))=some i at f4;rw[show Tryz.prog.cellsOf 24=1 by kernel_rfl]at f4;obtain⟨v4,C,D,E⟩:=(Qe (α:=Val) (z:=6) (rws:=Val.rows) Tryz.underlying24 (by kernel_rfl) (by decide) (mo) (rows_eq) (fun j F=>ih j (Nat.lt_trans F (Nat.lt_succ_self _)))) _ _ f4
 have f5:=a 5 _ rfl;change DataW.trod enc Tryz.prog w 0 _ true m 23 ((cs.drop 5).take (Tryz.prog.cellsOf 23))=some k at f5;rw[show Tryz.prog.cellsOf 23=1 by kernel_rfl]at f5;obtain⟨v5,G,H,I⟩:=PQ m _ _ f5;have key:=Fy ⟨r0,o⟩ (Fy ⟨q,r⟩ (Fy ⟨t,u⟩ (Fy ⟨y,A⟩ (Fy ⟨C,D⟩ (Fy ⟨G,H⟩ (PJ b))))));rw[List.drop_zero]at key;refine⟨⟨v0,v1,v2,v3,v4,v5⟩,?_,key.2,?_⟩
 ·have key:=key.1
  exact key
 simp only[Fv,Rows.uptoBulk,Rows.uptoBulkAll,jk,jN,sG,CE]
 try simp only[]at p s v B E I
 omega
theorem RC (n:Nat):gP (α:=List (Val)) enc Tryz.prog w 24 n (fun l=>[PV.sl (Val.rows l)]) (fun l=>(l.map (fun x=>Fv x+1)).sum+1) Rows.uptoBulk:=
 Qe (α:=Val) (z:=6) (rws:=Val.rows) Tryz.underlying24 (by kernel_rfl) (by decide) (mo) (rows_eq) (fun m hm=>RJ m)
theorem RM (n:Nat):gP (α:=Node) enc Tryz.prog w 96 n (Node.cells) (sw) Rows.uptoBulk:=by
 intro cs x h;obtain⟨xs,m,rfl,rfl,a,i,g⟩:=DataW.trod_struct Tryz.underlying96 h;rw[show Tryz.prog.cellsOf 96=4 by kernel_rfl]at a;have b:xs.length=4:=i;obtain⟨c,d,e,f,rfl⟩:∃ c d e f,xs=[c,d,e,f]:=by
  match xs,b with
  | [c,d,e,f],_=>exact⟨c,d,e,f,rfl⟩
 have f0:=g 0 _ rfl;change DataW.trod enc Tryz.prog w 0 _ true m 2 ((cs.drop 0).take (Tryz.prog.cellsOf 2))=some c at f0;rw[show Tryz.prog.cellsOf 2=1 by kernel_rfl]at f0;obtain⟨v0,r0,j,k⟩:=SA m _ _ f0;have f1:=g 1 _ rfl;change DataW.trod enc Tryz.prog w 0 _ true m 23 ((cs.drop 1).take (Tryz.prog.cellsOf 23))=some d at f1;rw[show Tryz.prog.cellsOf 23=1 by kernel_rfl]at f1;obtain⟨v1,l,o,p⟩:=PQ m _ _ f1;have f2:=g 2 _ rfl;change DataW.trod enc Tryz.prog w 0 _ true m 23 ((cs.drop 2).take (Tryz.prog.cellsOf 23))=some e at f2;rw[show Tryz.prog.cellsOf 23=1 by kernel_rfl]at f2;obtain⟨v2,q,r,s⟩:=PQ m _ _ f2;have f3:=g 3 _ rfl;change DataW.trod enc Tryz.prog w 0 _ true m 24 ((cs.drop 3).take (Tryz.prog.cellsOf 24))=some f at f3;rw[show Tryz.prog.cellsOf 24=1 by kernel_rfl]at f3;obtain⟨v3,t,u,v⟩:=RC m _ _ f3;have key:=Fy ⟨r0,j⟩ (Fy ⟨l,o⟩ (Fy ⟨q,r⟩ (Fy ⟨t,u⟩ (PJ a))));rw[List.drop_zero]at key;refine⟨⟨v0,v1,v2,v3⟩,?_,key.2,?_⟩
 ·have key:=key.1
  exact key
 simp only[sw,Rows.uptoBulk,Rows.uptoBulkAll,jk,jN,sG,CE]
 try simp only[]at k p s v
 omega
theorem RL (n:Nat):gP (α:=Edge) enc Tryz.prog w 56 n (Edge.cells) (LJ) Rows.uptoBulk:=by
 intro cs x h;obtain⟨xs,m,rfl,rfl,b,k,a⟩:=DataW.trod_struct Tryz.underlying56 h;rw[show Tryz.prog.cellsOf 56=6 by kernel_rfl]at b;have c:xs.length=6:=k;obtain⟨d,e,f,g,i,j,rfl⟩:∃ d e f g i j,xs=[d,e,f,g,i,j]:=by
  match xs,c with
  | [d,e,f,g,i,j],_=>exact⟨d,e,f,g,i,j,rfl⟩
 have f0:=a 0 _ rfl;change DataW.trod enc Tryz.prog w 0 _ true m 2 ((cs.drop 0).take (Tryz.prog.cellsOf 2))=some d at f0;rw[show Tryz.prog.cellsOf 2=1 by kernel_rfl]at f0;obtain⟨v0,r0,l,o⟩:=SA m _ _ f0;have f1:=a 1 _ rfl;change DataW.trod enc Tryz.prog w 0 _ true m 2 ((cs.drop 1).take (Tryz.prog.cellsOf 2))=some e at f1;rw[show Tryz.prog.cellsOf 2=1 by kernel_rfl]at f1;obtain⟨v1,p,q,r⟩:=SA m _ _ f1;have f2:=a 2 _ rfl;change DataW.trod enc Tryz.prog w 0 _ true m 2 ((cs.drop 2).take (Tryz.prog.cellsOf 2))=some f at f2;rw[show Tryz.prog.cellsOf 2=1 by kernel_rfl]at f2;obtain⟨v2,s,t,u⟩:=SA m _ _ f2;have f3:=a 3 _ rfl;change DataW.trod enc Tryz.prog w 0 _ true m 9 ((cs.drop 3).take (Tryz.prog.cellsOf 9))=some g at f3;rw[show Tryz.prog.cellsOf 9=1 by kernel_rfl]at f3;obtain⟨v3,v,y,z⟩:=SD m _ _ f3;have f4:=a 4 _ rfl;change DataW.trod enc Tryz.prog w 0 _ true m 23 ((cs.drop 4).take (Tryz.prog.cellsOf 23))=some i at f4;rw[show Tryz.prog.cellsOf 23=1 by kernel_rfl]at f4;obtain⟨v4,A,B,C⟩:=PQ m _ _ f4;have f5:=a 5 _ rfl;change DataW.trod enc Tryz.prog w 0 _ true m 24 ((cs.drop 5).take (Tryz.prog.cellsOf 24))=some j at f5;rw[show Tryz.prog.cellsOf 24=1 by kernel_rfl]at f5;obtain⟨v5,D,E,F⟩:=RC m _ _ f5;have key:=Fy ⟨r0,l⟩ (Fy ⟨p,q⟩ (Fy ⟨s,t⟩ (Fy ⟨v,y⟩ (Fy ⟨A,B⟩ (Fy ⟨D,E⟩ (PJ b))))));rw[List.drop_zero]at key;refine⟨⟨v0,v1,v2,v3,v4,v5⟩,?_,key.2,?_⟩
 ·have key:=key.1
  exact key
 simp only[LJ,Rows.uptoBulk,Rows.uptoBulkAll,jk,jN,sG,CE]
 try simp only[]at o r u z C F
 omega
theorem RG (n:Nat):gP (α:=List (Node)) enc Tryz.prog w 27 n (fun l=>[PV.sl (Node.rows l)]) (fun l=>(l.map (sw)).sum+1) Rows.uptoBulk:=
 Qe (α:=Node) (z:=4) (rws:=Node.rows) Tryz.underlying27 (by kernel_rfl) (by decide) (bU.hz) (fun _=>rfl) (fun m hm=>RM m)
theorem RH (n:Nat):gP (α:=List (Edge)) enc Tryz.prog w 28 n (fun l=>[PV.sl (Edge.rows l)]) (fun l=>(l.map (LJ)).sum+1) Rows.uptoBulk:=
 Qe (α:=Edge) (z:=6) (rws:=Edge.rows) Tryz.underlying28 (by kernel_rfl) (by decide) (nQ.hz) (fun _=>rfl) (fun m hm=>RL m)
theorem RI (n:Nat):gP (α:=Graph) enc Tryz.prog w 30 n (Graph.cells) (Sp) Rows.uptoBulk:=by
 intro cs x h;obtain⟨xs,m,rfl,rfl,a,e,f⟩:=DataW.trod_struct Tryz.underlying30 h;rw[show Tryz.prog.cellsOf 30=2 by kernel_rfl]at a;have b:xs.length=2:=e;obtain⟨c,d,rfl⟩:∃ c d,xs=[c,d]:=by
  match xs,b with
  | [c,d],_=>exact⟨c,d,rfl⟩
 have f0:=f 0 _ rfl;change DataW.trod enc Tryz.prog w 0 _ true m 27 ((cs.drop 0).take (Tryz.prog.cellsOf 27))=some c at f0;rw[show Tryz.prog.cellsOf 27=1 by kernel_rfl]at f0;obtain⟨v0,r0,g,i⟩:=RG m _ _ f0;have f1:=f 1 _ rfl;change DataW.trod enc Tryz.prog w 0 _ true m 28 ((cs.drop 1).take (Tryz.prog.cellsOf 28))=some d at f1;rw[show Tryz.prog.cellsOf 28=1 by kernel_rfl]at f1;obtain⟨v1,j,k,l⟩:=RH m _ _ f1;have key:=Fy ⟨r0,g⟩ (Fy ⟨j,k⟩ (PJ a));rw[List.drop_zero]at key;refine⟨⟨v0,v1⟩,?_,key.2,?_⟩
 ·have key:=key.1
  exact key
 simp only[Sp,Rows.uptoBulk,Rows.uptoBulkAll,jk,jN,sG,CE]
 try simp only[]at i l
 omega
end W
end
section
namespace W
open Go Go.Proofs Ax Go.RowKit Go.ChangeShapes Go.WideShapes Go.ChangeAt
open Go.Proofs.YtlbjambmfdlniaaGreat Go.ChangeMaps
theorem own : ownKnob Tryz.prog.godebug = none := by kernel_rfl
theorem Nv : laidOutB Tryz.prog = true := by kernel_rfl
theorem root {W : World} (h : W.ShapedOpen Tryz.prog) : ∃ m, W.cell? ⟨0, 0, none⟩ = some (.int .i64 m) :=
  cell_of_shapedOpen_int (zero := #[.int .i64 0]) (t := 3) h (kod (by kernel_rfl)) (by kernel_rfl) rfl (by kernel_rfl) (by kernel_rfl) Tryz.underlying3
section
variable {Hd : Type} {enc : TypeId × Value -> Hd} {W : World}
set_option maxRecDepth 100000 in
theorem Dh {v0 : Value} {d0 : DataW Hd} {p : List MemPlace} {b : Nat} (hval : Value.okWide Tryz.prog W .any b 30 v0) (h : DataW.Trod enc Tryz.prog W 0 (fun _ => true) true 30 v0 d0 p) :
    ∃ s : Graph, qp (tX W) (.agg (df.cells s)) v0 /\ Sp s <= Rows.uptoBulk d0 := by
  obtain ⟨cs, rfl, _⟩ := okWide_struct Tryz.underlying30 hval
  obtain ⟨fuel, h⟩ := h
  obtain ⟨v, r, _, hb⟩ := RI fuel _ _ h
  refine ⟨v, ?_, hb⟩
  simp only [qp]
  exact ⟨cs.toList, by simp, r⟩
end
noncomputable def LC (os : Os) : World := World.holding Tryz.prog os ⟨#[], #[], []⟩
abbrev VG : Value := .agg #[.slice none 0 0, .slice none 0 0]
abbrev DG (H : Type) : DataW H := .agg [.nil, .nil]
end W
end
section
namespace W
open Go Go.Proofs Go.RowKit Go.ChangeShapes Go.WideShapes Go.ChangeAt
open Go.Proofs.YtlbjambmfdlniaaGreat Go.ChangeMaps
theorem PU {a b:Bool} (ha:a=true) (c:b=true):(a&&b)=true:=by rw[ha,c]; rfl
set_option maxHeartbeats 4000000 in
theorem Po:joinedFacts Tryz.pinned.checked.prog 6 Tryz.f6 (Rows.OpenSpec.upto Rows.matchCountsSpec).bare Rows.matchCountsUptoRow=true:=by
 unfold joinedFacts
 repeat' with_reducible refine PU ?_ ?_
 all_goals (as_aux_lemma=>kernel_rfl)
end W
end
section
open Go Ax
namespace W
def Sb {R:Type} (N:Nat) (F:Nat->Option R) (Q:R->Prop):Prop:=∃ r,Q r/\∀ n,N<=n->n<=1099511627776->F n=some r
def uI {R S:Type} (N:Nat) (F:Nat->(S->Option R)->Option R) (QS:S->Prop) (Q:R->Prop):Prop:=
 (∃ s,QS s/\∀ n a,N<=n->n<=1099511627776->F n a=a s)\/∃ r,Q r/\∀ n a,N<=n->n<=1099511627776->F n a=some r
section
variable {R A S:Type} {N:Nat} {Q:R->Prop} {P:A->Prop} {QS:S->Prop}
theorem Sb.one {r:R} (h:Q r):Sb N (fun _=>some r) Q:=⟨r,h,fun _ _ _=>rfl⟩
theorem Sb.of {F:Nat->Option R} {r:R} (e:∀ n,N<=n->n<=1099511627776->F n=some r) (h:Q r):Sb N F Q:=⟨r,h,e⟩
theorem Sb.bnd {F:Nat->Option A} {K:Nat->A->Option R} (h:Sb N F P) (k:∀ a,P a->Sb N (fun n=>K n a) Q):Sb N (fun n=>Ax.bnd (F n) (K n)) Q:=by
 obtain⟨a,d,ha⟩:=h;obtain⟨r,qr,e⟩:=k a d;exact⟨r,qr,fun n b c=>by show Ax.bnd (F n) (K n)=_; rw[ha n b c]; exact e n b c⟩
theorem Sb.chk {b:Bool} {K:Nat->Option R} (h:b=true) (k:Sb N K Q):Sb N (fun n=>Ax.chk b (K n)) Q:=by subst h; exact k
theorem Sb.cond {b:Bool} {K L:Nat->Option R} (h:b=true->Sb N K Q) (k:b=false->Sb N L Q):Sb N (fun n=>bif b then K n else L n) Q:=by
 cases b with
 | true=>exact h rfl
 | false=>exact k rfl
theorem Sb.gs [Inhabited A] {g:Bool} {F:Nat->Option A} (h:g=true->Sb N F P):Sb N (fun n=>qG g (F n)) (fun a=>g=true->P a):=by
 cases g with
 | true=>
  obtain⟨a,b,ha⟩:=h rfl;exact⟨a,fun _=>b,ha⟩
 | false=>exact⟨default,fun h=>absurd h Bool.false_ne_true,fun _ _ _=>rfl⟩
theorem Sb.mono {M:Nat} {F:Nat->Option R} {a:R->Prop} (h:Sb N F Q) (b:N<=M) (c:∀ r,Q r->a r):Sb M F a:=by
 obtain⟨r,qr,d⟩:=h;exact⟨r,c r qr,fun n e f=>d n (Nat.le_trans b e) f⟩
theorem Sb.up {M:Nat} {F:Nat->Option R} (h:Sb N F Q) (a:N<=M):Sb M F Q:=h.mono a fun _ q=>q
theorem Sb.imp {F:Nat->Option R} {a:R->Prop} (h:Sb N F Q) (b:∀ r,Q r->a r):Sb N F a:=h.mono (jv _) b
theorem Sb.idx {l:List A} {i:Nat} {x:A} (h:l[i]? =some x) (p:P x):Sb N (fun _=>Ax.idx l (i:Int)) P:=
 ⟨x,p,fun _ _ _=>by unfold Ax.idx; rw[if_pos (Int.natCast_nonneg i)]; simpa using h⟩
theorem Sb.val {F:Nat->Option R} (h:Sb N F Q) (b:N<=1099511627776) (d:R):Q ((F N).getD d)/\∀ n,N<=n->n<=1099511627776->F n=some ((F N).getD d):=by
 obtain⟨r,qr,a⟩:=h;have e:F N=some r:=a N (jv _) b;rw[e];exact⟨qr,a⟩
theorem Sb.succ {F G:Nat->Option R} (e:∀ n,F (n+1)=G n) (h:Sb N G Q):Sb (N+1) F Q:=by
 obtain⟨r,qr,a⟩:=h;refine⟨r,qr,fun n b c=>?_⟩;obtain⟨m,rfl⟩:=jj (by omega:n≠0);rw[e];exact a m (by omega) (by omega)
theorem uI.next {s:S} (h:QS s):uI N (fun _ (a:S->Option R)=>a s) QS Q:=.inl ⟨s,h,fun _ _ _ _=>rfl⟩
theorem uI.one {r:R} (h:Q r):uI N (fun _ (_:S->Option R)=>some r) QS Q:=.inr ⟨r,h,fun _ _ _ _=>rfl⟩
theorem uI.tot {F:Nat->Option R} (h:Sb N F Q):uI N (fun n (_:S->Option R)=>F n) QS Q:=by
 obtain⟨r,qr,a⟩:=h;exact .inr ⟨r,qr,fun n _ b c=>a n b c⟩
theorem uI.bnd {F:Nat->Option A} {K:Nat->(S->Option R)->A->Option R} (h:Sb N F P) (k:∀ a,P a->uI N (fun n b=>K n b a) QS Q):uI N (fun n b=>Ax.bnd (F n) (K n b)) QS Q:=by
 obtain⟨a,f,ha⟩:=h;rcases k a f with ⟨r,qr,e⟩|⟨r,qr,e⟩
 ·exact .inl ⟨r,qr,fun n b c d=>by show Ax.bnd (F n) (K n b)=_; rw[ha n c d]; exact e n b c d⟩
 exact .inr ⟨r,qr,fun n b c d=>by show Ax.bnd (F n) (K n b)=_; rw[ha n c d]; exact e n b c d⟩
theorem uI.chk {b:Bool} {K:Nat->(S->Option R)->Option R} (h:b=true) (k:uI N K QS Q):uI N (fun n a=>Ax.chk b (K n a)) QS Q:=by subst h; exact k
theorem uI.cond {b:Bool} {K L:Nat->(S->Option R)->Option R} (h:b=true->uI N K QS Q) (k:b=false->uI N L QS Q):uI N (fun n a=>bif b then K n a else L n a) QS Q:=by
 cases b with
 | true=>exact h rfl
 | false=>exact k rfl
theorem Sb.loop {B:Nat->(S->Option R)->S->Option R} (I:Nat->S->Prop) (h:∀ m s,I m s->uI N (fun n l=>B n l s) (fun e=>∃ d,d<m/\I d e) Q) {m0:Nat} {f:S} (o:I m0 f) (t:m0<N) :
  Sb N (fun n=>qU (B n) n f) Q:=by
 have key:∀ (M m:Nat),m<=M->∀ s,I m s->∃ r,Q r/\∀ n k,N<=n->n<=1099511627776->m<k->qU (B n) k s=some r:=by
  intro M
  induction M with
  | zero=>
   intro m hm s g;rcases h m s g with ⟨e,⟨d,i,_⟩,_⟩|⟨r,qr,c⟩
   ·omega
   refine⟨r,qr,fun n k a b j=>?_⟩;obtain⟨k,rfl⟩:=jj (by omega:k≠0);exact c n _ a b
  | succ M ih=>
   intro m hm s g;rcases h m s g with ⟨e,⟨d,i,p⟩,c⟩|⟨r,qr,c⟩
   ·obtain⟨r,qr,q⟩:=ih d (by omega) e p
    refine⟨r,qr,fun n k a b j=>?_⟩;obtain⟨k,rfl⟩:=jj (by omega:k≠0);exact(c n _ a b).trans (q n k a b (by omega))
   refine⟨r,qr,fun n k a b j=>?_⟩;obtain⟨k,rfl⟩:=jj (by omega:k≠0);exact c n _ a b
 obtain⟨r,qr,c⟩:=key m0 m0 (jv _) f o;exact⟨r,qr,fun n a b=>c n n a b (by omega)⟩
end
end W
end
section
open Go Ax Go.Proofs
namespace W
theorem nz {A:Type} {l:List A} {k:Nat} (h:k<l.length):l[k]? =some l[k]:=jf h
theorem sF {A:Type} {l:List A} {k:Nat} (h:k<l.length):l.take (k+1)=l.take k++[l[k]]:=by
 rw[List.take_add_one,nz h]; rfl
theorem ED {v:Val} (a:Fv v<=1048576):Sb 34359738368 (fun n=>vG n v) (fun _=>True):=by
 have:∀ (N:Nat) (v:Val),Fv v<=N->N<=1048576->Sb (34359738368 - 1048576+N) (fun n=>vG n v) (fun _=>True):=by
  intro N
  induction N with
  | zero=>intro v h; have:=Eg v; omega
  | succ N ih=>
   intro v hv o;refine Sb.succ (N:=34359738368 - 1048576+N) (G:=fun n=>cW n (vG n) v) (fun n=>rfl) ?_
   obtain⟨k,b,i,s,l,ks⟩:=v;have a:Fv (.mk k b i s l ks)=1+Sr i+s.length+nD l+(ks.map fun k=>1+k.length).sum:=by simp only[Fv]
   have d:=dk l;unfold cW
   dsimp only
   refine Sb.cond (fun _=>.one trivial) fun _=>?_;refine Sb.loop (fun m st=>∃ j:Nat,st=((j:Nat):Int)/\j+m=l.length) ?_ ⟨0,rfl,by omega⟩ (by omega:l.length<34359738368 - 1048576+N);rintro m _ ⟨j,rfl,hm⟩;unfold cI;rw[uH];refine uI.cond (fun e=>?_) fun _=>.one trivial;have c:j<l.length:=by have:=kod e; omega
   have f:=nX (List.getElem_mem c);refine uI.bnd (Sb.idx (nz c) (P:=fun x=>x=l[j]) rfl) fun x g=>?_
   obtain⟨p,q,r,t,u,w⟩:=x
   dsimp only
   rw[g];refine uI.bnd (ih l[j] (by omega) (by omega)) fun b _=>uI.cond (fun _=>.one trivial) fun _=>?_
   rw[sH (by omega)];exact .next ⟨m - 1,by omega,j+1,rfl,by omega⟩
 exact(this 1048576 v a (by decide)).up (by decide)
theorem Ml {v:Val} (f:Fv v<=1048576):Sb 34359738368 (fun n=>cY n v) (fun _=>True):=by
 have:∀ (N:Nat) (v:Val) (d c:Int),Fv v<=N->N<=1048576->Sb (34359738368 - 1048576+N) (fun n=>cZ n v d c) (fun _=>True):=by
  intro N
  induction N with
  | zero=>intro v _ _ h; have:=Eg v; omega
  | succ N ih=>
   intro v d c hv u;refine Sb.succ (N:=34359738368 - 1048576+N) (G:=fun n=>nF n (cZ n) v d c) (fun n=>rfl) ?_
   obtain⟨k,b,i,s,l,ks⟩:=v;have f:Fv (.mk k b i s l ks)=1+Sr i+s.length+nD l+CE ks:=by simp only[Fv,CE]
   have g:=dk l;have o:=mu ks;have hrest:∀ c:Int,Sb (34359738368 - 1048576+N) (fun n=>gT n l (cZ n) d c ()) (fun _=>True):=fun c=>by
    unfold gT;refine Sb.loop (fun m st=>∃ (j:Nat) (c:Int),st=(c,((j:Nat):Int))/\j+m=l.length) ?_ ⟨0,_,rfl,by omega⟩ (by omega:l.length<34359738368 - 1048576+N);rintro m _ ⟨j,c,rfl,hm⟩;unfold bW
    dsimp only
    rw[uH];refine uI.cond (fun e=>?_) fun _=>.one trivial;have a:j<l.length:=by have:=kod e; omega
    have p:=nX (List.getElem_mem a);refine uI.bnd (Sb.idx (nz a) (P:=fun x=>x=l[j]) rfl) fun x q=>?_
    obtain⟨w,A,B,C,D,E⟩:=x
    dsimp only
    rw[q];refine uI.bnd (ih l[j] _ _ (by omega) (by omega)) fun r _=>?_;obtain⟨F,H⟩:=r;refine uI.cond (fun _=>.one trivial) fun _=>?_;rw[sH (by omega)];exact .next ⟨m - 1,by omega,j+1,_,rfl,by omega⟩
   unfold nF
   dsimp only
   refine Sb.bnd (P:=fun _=>True) ((Sb.gs (P:=fun _=>True) fun _=>?_).imp fun _ _=>trivial) fun x _=>?_
   ·unfold bY
    dsimp only
    refine Sb.cond (fun _=>.one trivial) fun _=>Sb.cond (fun _=>.one trivial) fun _=>Sb.cond (fun _=>.one trivial) fun _=>Sb.cond (fun _=>.one trivial) fun _=>.one trivial
   refine Sb.cond (fun _=>.one trivial) fun _=>Sb.cond (fun _=>.one trivial) fun _=>Sb.cond (fun _=>Sb.cond (fun _=>.one trivial) fun _=>?_) fun _=>hrest c
   refine Sb.loop (fun m st=>∃ j:Nat,st=((j:Nat):Int)/\j+m=ks.length) ?_ ⟨0,rfl,by omega⟩ (by omega:ks.length<34359738368 - 1048576+N);rintro m _ ⟨j,rfl,hm⟩;unfold bX;rw[Qh];refine uI.cond (fun e=>?_) fun _=>.tot (hrest c);have a:j<ks.length:=by have:=kod e; omega
   refine uI.bnd (Sb.idx (nz a) (P:=fun _=>True) trivial) fun x _=>?_
   refine uI.bnd (P:=fun _=>True) ((Sb.gs (P:=fun _=>True) fun _=>Sb.idx (nz a) trivial).imp fun _ _=>trivial) fun y _=>?_
   refine uI.bnd (P:=fun _=>True) ((Sb.gs (P:=fun _=>True) fun _=>Sb.idx (nz a) trivial).imp fun _ _=>trivial) fun y _=>?_
   refine uI.bnd (P:=fun _=>True) ((Sb.gs (P:=fun _=>True) fun t=>?_).imp fun _ _=>trivial) fun z _=>?_
   ·simp only[ji,kde]at t
    obtain⟨i,rfl⟩:∃ i,j=i+1:=⟨j - 1,by omega⟩;rw[ME (by omega)];exact Sb.idx (nz (show i<ks.length by omega)) trivial
   refine uI.cond (fun _=>.one trivial) fun _=>?_;rw[sH (by omega)];exact .next ⟨m - 1,by omega,j+1,rfl,by omega⟩
 obtain⟨k,b,i,s,l,ks⟩:=v;unfold cY
 dsimp only
 exact Sb.bnd ((this 1048576 _ 32 0 f (by decide)).up (by decide)) fun r _=>.one trivial
theorem Vy {l:List (List UInt8)} (e:l.length<=1048576):Sb 34359738368 (fun n=>gY n l) (fun _=>True):=by
 unfold gY;refine Sb.loop (fun m st=>∃ j:Nat,st=((j:Nat):Int)/\j+m=l.length) ?_ ⟨0,rfl,by omega⟩ (by omega:l.length<34359738368);rintro m _ ⟨j,rfl,hm⟩;unfold fF;rw[Qh];refine uI.cond (fun c=>?_) fun _=>.one trivial;have a:j<l.length:=by have:=kod c; omega
 refine uI.bnd (Sb.idx (nz a) (P:=fun _=>True) trivial) fun x _=>uI.bnd (P:=fun _=>True) (.of (fun n _ _=>rfl) trivial) fun b _=>?_
 refine uI.bnd (P:=fun _=>True) ((Sb.gs (P:=fun _=>True) fun _=>Sb.idx (nz a) trivial).imp fun _ _=>trivial) fun y _=>?_
 refine uI.bnd (P:=fun _=>True) ((Sb.gs (P:=fun _=>True) fun d=>?_).imp fun _ _=>trivial) fun z _=>?_
 ·simp only[ji,kde]at d
  obtain⟨i,rfl⟩:∃ i,j=i+1:=⟨j - 1,by omega⟩;rw[ME (by omega)];exact Sb.idx (nz (show i<l.length by omega)) trivial
 refine uI.cond (fun _=>.one trivial) fun _=>?_;rw[sH (by omega)];exact .next ⟨m - 1,by omega,j+1,rfl,by omega⟩
theorem CK {v:Val} (a:Fv v<=1048576):Sb 34359738368 (fun n=>gl n v) (fun _=>True):=by
 have c:=Ml a;have d:=ED a;obtain⟨k,b,i,s,l,ks⟩:=v;unfold gl
 dsimp only
 exact Sb.bnd (P:=fun _=>True) ((Sb.gs fun _=>c).imp fun _ _=>trivial) fun x e=>Sb.bnd (P:=fun _=>True) ((Sb.gs fun _=>d).imp fun _ _=>trivial) fun y _=>.one trivial
theorem UT {ks:List (List UInt8)} {vs:List Val} (d:ks.length<=1048576) (i:nD vs<=1048576):Sb 34359738368 (fun n=>cn n ks vs) (fun _=>True):=by
 have e:=dk vs;unfold cn;refine Sb.loop (fun m st=>∃ j:Nat,st=((j:Nat):Int)/\j+m=vs.length) ?_ ⟨0,rfl,by omega⟩ (by omega:vs.length<34359738368);rintro m _ ⟨j,rfl,hm⟩;unfold cP;rw[uH,Qh];refine uI.cond (fun a=>?_) fun a=>?_
 ·have c:j<vs.length:=by have:=kod a; omega
  have f:=nX (List.getElem_mem c);refine uI.bnd (Sb.idx (nz c) (P:=fun x=>x=vs[j]) rfl) fun x g=>?_
  obtain⟨k,l,o,p,q,r⟩:=x
  dsimp only
  rw[g];refine uI.bnd (CK (by omega)) fun b s=>uI.cond (fun _=>.one trivial) fun h=>?_
  rw[sH (by omega)];exact .next ⟨m - 1,by omega,j+1,rfl,by omega⟩
 exact uI.bnd (P:=fun _=>True) ((Sb.gs fun _=>Vy d).imp fun _ _=>trivial) fun x _=>.one trivial
theorem Lh {d:Node} (a:sw d<=1048576):Sb 34359738368 (fun n=>fD n d) (fun _=>True):=by
 obtain⟨id,labels,keys,vals⟩:=d;have a:1+CE labels+CE keys+nD vals<=1048576:=a;have b:=mu labels;have c:=mu keys;unfold fD
 dsimp only
 refine Sb.bnd (P:=fun _=>True) ((Sb.gs fun _=>Vy (by omega)).imp fun _ _=>trivial) fun x _=>Sb.bnd (P:=fun _=>True) ((Sb.gs fun _=>UT (ks:=keys) (vs:=vals) (by omega) (by omega)).imp fun _ _=>trivial) fun y e=>.one trivial
theorem Hv {d:Edge} (a:sU d<=1048576):Sb 34359738368 (fun n=>fC n d) (fun _=>True):=by
 obtain⟨id,fr,to,ty,keys,vals⟩:=d;have a:1+ty.length+CE keys+nD vals<=1048576:=a;have b:=mu keys;unfold fC
 dsimp only
 refine Sb.bnd (P:=fun _=>True) ((Sb.gs (P:=fun _=>True) fun _=>.of (fun n _ _=>rfl) trivial).imp fun _ _=>trivial) fun x _=>Sb.bnd (P:=fun _=>True) ((Sb.gs fun _=>UT (ks:=keys) (vs:=vals) (by omega) (by omega)).imp fun _ _=>trivial) fun y c=>.one trivial
theorem Lq {A:Type} {key:A->Int} {l:List A} {x:A} {id:Int} (h:cE key l id=none) (a:(key x==id)=false):cE key (l++[x]) id=none:=by
 unfold cE at *;rw[List.find?_append,h];simp[List.find?,a]
theorem NJ {A:Type} {key:A->Int} {l:List A} {x:A} {id:Int} (h:x∈l) (a:(key x==id)=true):(cE key l id).isSome=true:=by
 unfold cE;rw[List.find?_isSome];exact⟨x,h,a⟩
theorem Vn {l:List Node} (e:l.length<=1048576) (es:List Edge) (id:Int):Sb 34359738368 (fun n=>gX n ⟨l,es⟩ id) (fun r=>(cE Node.id l id=none/\r = -1)\/((cE Node.id l id).isSome=true/\0<=r)):=by
 unfold gX
 dsimp only
 refine Sb.loop (fun m st=>∃ j:Nat,st=((j:Nat):Int)/\j+m=l.length/\cE Node.id (l.take j) id=none) ?_ ⟨0,rfl,by omega,rfl⟩ (by omega:l.length<34359738368);rintro m _ ⟨j,rfl,hm,a⟩;unfold fE;rw[show(Node.rows l).length=l.length by simp[Node.rows]];refine uI.cond (fun b=>?_) fun b=>.one (.inl ⟨?_,rfl⟩)
 ·have c:j<l.length:=by have:=kod b; omega
  refine uI.bnd (Sb.idx (nz c) (P:=fun x=>x=l[j]) rfl) fun x d=>?_
  obtain⟨f,g,h,i⟩:=x;refine uI.cond (fun he=>.one (.inr ⟨NJ (List.getElem_mem c) (by rw[← d]; exact he),Int.natCast_nonneg _⟩)) fun he=>?_;rw[sH (by omega)];refine .next ⟨m - 1,by omega,j+1,rfl,by omega,?_⟩;rw[sF c];exact Lq a (by rw[← d]; exact he)
 have:l.take j=l:=List.take_of_length_le (by have:=of_decide_eq_false b; omega);rw[this]at a;exact a
theorem Mz {A:Type} {key:A->Int} {l:List A} {k:Nat} (f:k<l.length) (h:Sc key (l.take k)) (c:∀ m:0<k,key l[k - 1]<key l[k]):Sc key (l.take (k+1)):=by
 rw[sF f];refine List.pairwise_append.2 ⟨h,List.pairwise_singleton _ _,fun a ha b g=>?_⟩;rw[List.mem_singleton.1 g];obtain⟨i,d,rfl⟩:=List.mem_iff_getElem.1 ha;have j:i<k:=by have:=List.length_take_le k l; rw[js]at d; omega
 rw[List.getElem_take];have c:=c (by omega);by_cases e:i=k - 1
 ·subst e; exact c
 have hp:=List.pairwise_iff_getElem.1 h i (k - 1) d (by rw[js]; omega) (by omega);rw[List.getElem_take,List.getElem_take]at hp;omega
theorem Nj {b:Bool} {p q:Int} {A B:Option Node} (a:(bif(bif b then true else decide (p<0))then true else decide (q<0))=false)
  (d:(!b)=true->(A=none/\p = -1)\/(A.isSome=true/\0<=p)) (c:(!(bif b then true else decide (p<0)))=true->(B=none/\q = -1)\/(B.isSome=true/\0<=q)):A.isSome=true/\B.isSome=true:=by
 cases b with
 | true=>cases a
 | false=>
  rw[xZ]at a c;rcases d rfl with ⟨_,h⟩|⟨e,hp⟩
  ·subst h; cases a
  rw[kdf (by omega:¬ p<0)]at a c;rw[xZ]at a;rcases c rfl with ⟨_,h⟩|⟨f,_⟩
  ·subst h; cases a
  exact⟨e,f⟩
theorem HH {nodes:List Node} {edges:List Edge} (I:Fz ⟨nodes,edges⟩<=1048576):Sb 34359738368 (fun n=>bG n ⟨nodes,edges⟩) (fun b=>b=true->Sc Node.id nodes/\(nodes.length<=4096/\edges.length<=4096)/\∀ d∈edges,(cE Node.id nodes d.from_).isSome=true/\(cE Node.id nodes d.to).isSome=true):=by
 obtain⟨q,r⟩:=Pr (g:=⟨nodes,edges⟩);have q:nodes.length<=Fz ⟨nodes,edges⟩:=q;have r:edges.length<=Fz ⟨nodes,edges⟩:=r;have w:∀ d∈nodes,sw d<=Fz ⟨nodes,edges⟩:=fun d c=>DJ (g:=⟨nodes,edges⟩) c
 have y:∀ d∈edges,sU d<=Fz ⟨nodes,edges⟩:=fun d c=>Cl (g:=⟨nodes,edges⟩) c
 unfold bG
 dsimp only
 refine Sb.loop (fun m st=>∃ j:Nat,st=((j:Nat):Int)/\j+m=nodes.length/\Sc Node.id (nodes.take j)) ?_ ⟨0,rfl,by omega,.nil⟩ (by omega:nodes.length<34359738368);rintro m _ ⟨j,rfl,hm,z⟩;unfold mi;rw[show(Node.rows nodes).length=nodes.length by simp[Node.rows]];refine uI.cond (fun c=>?_) fun c=>.tot ?_
 ·have k:j<nodes.length:=by have:=kod c; omega
  have f:=List.getElem_mem k;refine uI.bnd (Sb.idx (nz k) (P:=fun x=>x=nodes[j]) rfl) fun x v=>?_
  obtain⟨K,L,M,N⟩:=x
  dsimp only
  rw[v];refine uI.bnd (Lh (by have:=w _ f; omega)) fun b I=>?_;refine uI.bnd (Sb.gs (P:=fun x=>x=nodes[j]) fun _=>Sb.idx (nz k) rfl) fun x s=>?_
  obtain⟨O,Y,Z,w4⟩:=x
  dsimp only
  refine uI.bnd (Sb.gs (P:=fun x=>∀ A:0<j,x=nodes[j - 1]) fun B=>?_) fun x l=>?_
  ·simp only[ji,kde]at B
   obtain⟨i,rfl⟩:∃ i,j=i+1:=⟨j - 1,by omega⟩;rw[ME (by omega)];exact Sb.idx (nz (show i<nodes.length by omega)) fun _=>rfl
  obtain⟨J,Q,R,S⟩:=x
  dsimp only
  refine uI.cond (fun _=>.one fun h=>by cases h) fun p=>?_
  rw[sH (by omega)];have o:b=true:=by cases b with
   | true=>rfl
   | false=>cases p
  subst o;refine .next ⟨m - 1,by omega,j+1,rfl,by omega,Mz k z fun A=>?_⟩;have C:decide (((j:Nat):Int)>0)=true:=kdt (by omega);rw[C]at p s l;have e1:=s rfl;have e2:=l rfl A;rw[← e1,← e2];have:=of_decide_eq_false p;show J<O;omega
 have D:j=nodes.length:=by have:=of_decide_eq_false c; omega
 subst D;rw[List.take_length]at z;refine Sb.loop (fun m st=>∃ j:Nat,st=((j:Nat):Int)/\j+m=edges.length/\∀ (i:Nat) (h:i<edges.length),i<j->(cE Node.id nodes edges[i].from_).isSome=true/\(cE Node.id nodes edges[i].to).isSome=true) ?_ ⟨0,rfl,by omega,fun i h t=>by omega⟩ (by omega:edges.length<34359738368)
 rintro m _ ⟨j,rfl,hm,u⟩;unfold mj;rw[show(Edge.rows edges).length=edges.length by simp[Edge.rows]];refine uI.cond (fun c=>?_) fun c=>.one fun a=>?_
 ·have k:j<edges.length:=by have:=kod c; omega
  have f:=List.getElem_mem k;refine uI.bnd (Sb.idx (nz k) (P:=fun x=>x=edges[j]) rfl) fun x v=>?_
  obtain⟨K,L,M,N,y5,y6⟩:=x
  dsimp only
  rw[v];refine uI.bnd (Hv (by have:=y _ f; omega)) fun b I=>?_;refine uI.bnd (Sb.gs (P:=fun x=>∀ A:0<j,x=edges[j - 1]) fun B=>?_) fun x l=>?_
  ·simp only[ji,kde]at B
   obtain⟨i,rfl⟩:∃ i,j=i+1:=⟨j - 1,by omega⟩;rw[ME (by omega)];exact Sb.idx (nz (show i<edges.length by omega)) fun _=>rfl
  obtain⟨J,Q,R,S,u5,u6⟩:=x
  dsimp only
  refine uI.bnd (Sb.gs fun _=>Vn (by omega) _ _) fun T E=>uI.bnd (Sb.gs fun _=>Vn (by omega) _ _) fun U F=>?_
  refine uI.cond (fun _=>.one fun h=>by cases h) fun p=>?_
  rw[sH (by omega)];have o:b=true:=by cases b with
   | true=>rfl
   | false=>cases p
  subst o;refine .next ⟨m - 1,by omega,j+1,rfl,by omega,fun i t V=>?_⟩;by_cases e:i<j
  ·exact u i t e
  obtain rfl:i=j:=by omega
  rw[← v];exact Nj p E F
 have G:j=edges.length:=by have:=of_decide_eq_false c; omega
 subst G;have X:nodes.length<=4096/\edges.length<=4096:=by
  have e1:(Node.rows nodes).length=nodes.length:=by simp[Node.rows]
  have e2:(Edge.rows edges).length=edges.length:=by simp[Edge.rows]
  rw[e1]at a;cases H:decide ((((nodes.length:Nat):Int))<=(4096:Int))with
  | false=>rw[H]at a; cases a
  | true=>
   rw[H]at a;have a1:=kod H;have a2:=kod a;omega
 exact⟨z,X,fun d c=>by
  obtain⟨i,t,rfl⟩:=List.mem_iff_getElem.1 c;exact u i t t⟩
theorem Mi {nodes:List Node} {edges:List Edge} (f:nodes.length<=1048576) (g:edges.length<=1048576):Sb 34359738368 (fun n=>cm n ⟨nodes,edges⟩) (fun _=>True):=by
 unfold cm
 dsimp only
 refine Sb.loop (fun m st=>∃ j:Nat,st=((j:Nat):Int)/\j+m=nodes.length) ?_ ⟨0,rfl,by omega⟩ (by omega:nodes.length<34359738368);rintro m _ ⟨j,rfl,hm⟩;unfold dJ;rw[show(Node.rows nodes).length=nodes.length by simp[Node.rows]];refine uI.cond (fun a=>?_) fun a=>.tot ?_
 ·have b:j<nodes.length:=by have:=kod a; omega
  refine uI.bnd (Sb.idx (nz b) (P:=fun _=>True) trivial) fun x c=>?_
  refine uI.bnd (P:=fun _=>True) ((Sb.gs (P:=fun _=>True) fun _=>Sb.idx (nz b) trivial).imp fun _ _=>trivial) fun x d=>?_
  refine uI.cond (fun _=>.one trivial) fun e=>?_;rw[sH (by omega)];exact .next ⟨m - 1,by omega,j+1,rfl,by omega⟩
 refine Sb.loop (fun m st=>∃ j:Nat,st=((j:Nat):Int)/\j+m=edges.length) ?_ ⟨0,rfl,by omega⟩ (by omega:edges.length<34359738368);rintro m _ ⟨j,rfl,hm⟩;unfold dK;rw[show(Edge.rows edges).length=edges.length by simp[Edge.rows]];refine uI.cond (fun a=>?_) fun a=>.one trivial;have b:j<edges.length:=by have:=kod a; omega
 refine uI.bnd (Sb.idx (nz b) (P:=fun _=>True) trivial) fun x c=>?_
 refine uI.cond (fun _=>.one trivial) fun e=>?_;rw[sH (by omega)];exact .next ⟨m - 1,by omega,j+1,rfl,by omega⟩
end W
end
section
open Go Ax
namespace W
theorem MD (m:Nat):fZ (m+400)=some true:=by kernel_rfl
def EC:List zj:=[⟨[⟨[],[],[],[]⟩],[]⟩]
def nA (d:Int):List zj:=[⟨[⟨[],[],[],[]⟩,⟨[],[],[],[]⟩],[⟨[],[],d,[],[]⟩]⟩]
theorem ND (m:Nat):zQ (m+400) [40,41]=some EC:=by kernel_rfl
theorem NF (m:Nat):zQ (m+400) [40,41,45,45,62,40,41]=some (nA 0):=by kernel_rfl
theorem NG (m:Nat):zQ (m+400) [40,41,45,45,40,41]=some (nA 2):=by kernel_rfl
end W
end
section
open Go Ax Go.Proofs
namespace W
theorem NC (l:List Node):(Node.rows l).length=l.length:=by simp[Node.rows]
theorem Hz (l:List Edge):(Edge.rows l).length=l.length:=by simp[Edge.rows]
def W0:fV:=⟨[],[],[],[]⟩
def D0 (dir:Int):RX:=⟨W0,[],dir,W0⟩
def p5:Val:=⟨5,false,0,[],[],[]⟩
def Ut (dir id:Int) (e:Edge):Bool:=if dir=0 then e.from_==id else(e.from_==id||e.to==id)
theorem XY {A:Type} (p:A->Bool) {l:List A} {j:Nat} (h:j<l.length):(l.take (j+1)).filter p=(l.take j).filter p++(if p l[j]then[l[j]]else[]):=by
 rw[sF h,List.filter_append];congr 1;by_cases hp:p l[j]=true<;>simp[hp]
theorem QR {A:Type} (p:A->Bool) (l:List A) (j:Nat):((l.take j).filter p).length<=l.length:=by
 have h1:=List.length_filter_le p (l.take j);have h2:=List.length_take_le' j l;omega
theorem Em {d:Edge} (h:sU d<=1048576):Sb 34359738368 (fun n=>xO n d) (fun r=>r=d):=.of (fun n h1 h2=>BB h2 (by omega)) rfl
theorem Ei {g:Graph} (l:Fz g<=1048576) (id:Int) {dir:Int} (b:dir=0\/dir=2):Sb 34359738368 (fun n=>zF n g id dir []) (fun r=>r=g.edges.filter (Ut dir id)):=by
 obtain⟨nodes,edges⟩:=g;have a2:edges.length<=1048576:=Nat.le_trans (Pr (g:=⟨nodes,edges⟩)).2 l;have a4:∀ d∈edges,sU d<=1048576:=fun d c=>Nat.le_trans (Cl (g:=⟨nodes,edges⟩) c) l
 unfold zF
 dsimp only
 refine Sb.loop (fun m st=>∃ j:Nat,st=((edges.take j).filter (Ut dir id),((j:Nat):Int))/\j+m=edges.length) ?_ ⟨0,rfl,by omega⟩ (by omega:edges.length<34359738368);rintro m _ ⟨j,rfl,hm⟩;unfold uO
 dsimp only
 rw[Hz];refine uI.cond (fun c=>?_) fun c=>.one ?_
 ·have h:j<edges.length:=by have:=kod c; omega
  have e:=XY (Ut dir id) h;have t:=QR (Ut dir id) edges (j+1);refine uI.bnd (Sb.idx (nz h) (P:=fun x=>x=edges[j]) rfl) fun x i=>?_
  rw[← i]at e;obtain⟨p,a,f,o,q,s⟩:=x
  dsimp only
  have e1:(bif(bif(bif(dir != (1:Int))then(a==id)else false)then true else(bif(dir != (0:Int))then(f==id)else false))then(bif(([]:List UInt8)==([]:List UInt8))then true else(o==([]:List UInt8)))else false)=Ut dir id ⟨p,a,f,o,q,s⟩:=by
   rcases b with rfl|rfl
   ·show(bif(bif(a==id)then true else false)then true else false)=(a==id)
    cases(a==id)<;>rfl
   ·show(bif(bif(a==id)then true else(f==id))then true else false)=(a==id||f==id)
    cases(a==id)<;>cases(f==id)<;>rfl
  rw[e1];refine uI.cond (fun k=>?_) fun k=>?_
  ·rw[i]
   refine uI.bnd (Em (a4 _ (List.getElem_mem h))) fun z hz=>?_;rw[k,if_pos rfl,i]at e;obtain⟨u,z2,z3,z4,z5,v⟩:=z
   dsimp only
   rw[hz,← e];refine uI.chk (kdt (by rw[Hz]; omega)) ?_;unfold xB;rw[sH (by omega)];exact .next ⟨m - 1,by omega,j+1,rfl,by omega⟩
  rw[k,if_neg (by simp),List.append_nil]at e;rw[← e];unfold xB;rw[sH (by omega)];exact .next ⟨m - 1,by omega,j+1,rfl,by omega⟩
 rw[List.take_of_length_le (by have:=of_decide_eq_false c; omega)]
theorem Sb.at{R:Type} {N n:Nat} {F:Nat->Option R} {r:R} (h:Sb N F (fun x=>x=r)) (h1:N<=n) (h2:n<=1099511627776):F n=some r:=by
 obtain⟨b,e,a⟩:=h;subst e;exact a n h1 h2
theorem Rk {n:Nat} (u:n<=1099511627776) {l:List Node} (hu:Sc Node.id l) (o:l.length<n) (id:Int) :
  ∃ i:Nat,zc n l id=some ((i:Int),(cE Node.id l id).isSome)/\∀ d,cE Node.id l id=some d->l[i]? =some d:=by
 have c1:∀ d:Node,zo n d id ()=some (if d.id<id then -1 else if id<d.id then 1 else 0):=fun d=>by
  obtain⟨i,a,b,c⟩:=d;simp only[zo,cS,xp,El]
 obtain⟨q,p,r⟩:=PW hu (id:=id) (B:=qj n l id)
  (fun i j x s k v f=>by
   have m:=c1 x;obtain⟨t,a,b,c⟩:=x;simp only[qj,DE k,dU,RE (show i+j<=1152921504606846976 by omega),QT f,xp,m,Pn];rw[sH (by omega)])
  (fun i s w=>by
   simp only[qj,GS,xZ,NC];by_cases h:i=l.length
   ·subst h
    rw[GS,List.getElem?_eq_none (jv _)];rfl
   have e:i<l.length:=by omega
   obtain⟨x,f⟩:∃ x,l[i]? =some x:=⟨_,jf e⟩;have m:=c1 x;rw[f];obtain⟨t,a,b,c⟩:=x;simp only[DE e,BH,QT f,xp,m,Pm,dU])
  o
 refine⟨q,?_,r⟩;unfold zc qo;simp only[NC];rw[p,XR]
theorem NB {n:Nat} (h1:34359738368<=n) (h2:n<=1099511627776) {g:Graph} (a:Fz g<=1048576) (hu:Sc Node.id g.nodes) (id:Int):(uz n g id).isSome=true:=by
 obtain⟨nodes,edges⟩:=g;have a1:nodes.length<=1048576:=Nat.le_trans (Pr (g:=⟨nodes,edges⟩)).1 a;have a3:∀ d∈nodes,sw d<=1048576:=fun d c=>Nat.le_trans (DJ (g:=⟨nodes,edges⟩) c) a
 obtain⟨i,e,e2⟩:=Rk h2 (l:=nodes) hu (by omega) id;unfold uz
 dsimp only
 rw[e,xp]
 dsimp only
 cases f:cE Node.id nodes id with
 | none=>rfl
 | some d=>
  have b:=e2 d f;have h:=BC h2 (d:=d) (by have:=a3 d (List.mem_of_getElem? b); omega);rw[QT b];obtain⟨j,k,m,o⟩:=d;simp only[Option.isSome_some,Bool.not_true,xZ,xp,h]
theorem Qn (m:Nat) (nd:Node):zB (m+1) W0 nd=some true:=by obtain⟨_,_,_,_⟩:=nd; rfl
theorem EJ (m:Nat) (ks:List (List UInt8)) (vs:List Val):zD (m+1) W0 ks vs=some true:=rfl
theorem Er (m:Nat):Ep (m+1) [] []=true:=rfl
theorem Mw (m:Nat) (g:Graph):xz (m+20) EC ⟨[],[]⟩ g p5=some ([⟨W0,[]⟩],0):=by obtain⟨_,_⟩:=g; rfl
theorem Mx (m:Nat) (g:Graph):xz (m+20) (nA 0) ⟨[],[]⟩ g p5=some ([⟨W0,[D0 0]⟩],0):=by obtain⟨_,_⟩:=g; rfl
theorem My (m:Nat) (g:Graph):xz (m+20) (nA 2) ⟨[],[]⟩ g p5=some ([⟨W0,[D0 2]⟩],0):=by obtain⟨_,_⟩:=g; rfl
theorem Pc {A:Type} (l:List A):(l.map fun _=>1).sum=l.length:=by
 induction l with
 | nil=>rfl
 | cons a l ih=>simp only[jk,jA,ja,ih]; omega
theorem GZ {β:Type} {f:β->List bS->Bool×List bS} (c:β->Nat) (a:∀ x fd,fd.length+c x<=4096->(f x fd).1=true/\(f x fd).2.length=fd.length+c x):∀ (l:List β) (fd:List bS),fd.length+(l.map c).sum<=4096->(Sq f l fd).1=true/\(Sq f l fd).2.length=fd.length+(l.map c).sum
 | [],fd,_=>⟨rfl,rfl⟩
 | x::l,fd,h=>by
  simp only[jk,jA]at h ⊢;obtain⟨h1,h2⟩:=a x fd (by omega);simp only[Sq,if_pos h1];obtain⟨b,d⟩:=GZ c a l (f x fd).2 (by omega);exact⟨b,by omega⟩
theorem Cb (n:Nat) (g:Graph) (us:List Int) (fd:List bS) (h:fd.length+1<=4096):(rQ n g [] us [] [] fd).1=true/\(rQ n g [] us [] [] fd).2.length=fd.length+1:=by
 simp only[rQ];rw[if_neg (by omega)];exact⟨rfl,by simp⟩
structure RR (g:Graph):Prop where
 big:Fz g<=1048576
 up:Sc Node.id g.nodes
 ln:g.nodes.length<=4096/\g.edges.length<=4096
 ends:∀ d∈g.edges,(cE Node.id g.nodes d.from_).isSome=true/\(cE Node.id g.nodes d.to).isSome=true
 wf:∀ d∈g.edges,(Lit.int .i64 d.id).wf=true
section
variable {n:Nat} {g:Graph} (h1:34359738368<=n) (h2:n<=1099511627776) (hg:RR g)
include h1
theorem LB (nd:Node):Bb n W0 nd=true:=by
 obtain⟨m,rfl⟩:∃ m,n=m+1:=⟨n - 1,by omega⟩;unfold Bb;rw[Qn];rfl
theorem DL (l:List Node):Qp n W0 l=l.map Node.id:=by
 unfold Qp;rw[List.filter_eq_self.2 fun a _=>LB h1 a]
theorem Mt (e:Edge):DV n W0 e=true:=by
 obtain⟨m,rfl⟩:∃ m,n=m+1:=⟨n - 1,by omega⟩;rfl
theorem DK (at_:Int) (dir:Int) (l:List Edge):(sY n g at_ (D0 dir) [] l).length=l.length:=by
 unfold sY;rw[jl,List.filter_eq_self.2];intro e _;simp[bP,D0,Mt h1,LB h1]
theorem Mq:Sy n [] []=true:=by
 obtain⟨m,rfl⟩:∃ m,n=m+1:=⟨n - 1,by omega⟩;unfold Sy;rw[Er];rfl
theorem NA (hg:RR g):∃ r,xo n EC ⟨[],[]⟩ g p5=some (r,0)/\r.length=g.nodes.length:=by
 have a:=GZ (f:=fun(id:Int)=>nY n g (rQ n g []) [] id [] (uF [] W0.name) (uR [] W0.name (fX id))) (fun _=>1) (fun x fd h=>Cb n g [] fd h) (Qp n W0 g.nodes) [] (by
  rw[Pc,DL h1,jl];have:=hg.ln.1;simp only[jc];omega)
 have c:xz n EC ⟨[],[]⟩ g p5=some ([⟨W0,[]⟩],0):=by
  obtain⟨m,rfl⟩:∃ m,n=m+20:=⟨n - 20,by omega⟩;exact Mw m g
 have d:(decide (g.nodes.length<1000000000)&&Dy n g [⟨W0,[]⟩] [] [] [])=true:=by
  have:=hg.ln.1;rw[ji];refine⟨kdt (by omega),?_⟩;simp only[Dy,ji,List.all_eq_true];refine⟨fun nd _=>?_,Mq h1,fun id _=>?_⟩
  ·obtain⟨m,rfl⟩:∃ m,n=m+1:=⟨n - 1,by omega⟩
   rw[Qn];rfl
  rfl
 have b:rQ n g [⟨W0,[]⟩] [] [] [] []=Sq (fun(id:Int)=>nY n g (rQ n g []) [] id [] (uF [] W0.name) (uR [] W0.name (fX id))) (Qp n W0 g.nodes) []:=rfl;refine⟨(rQ n g [⟨W0,[]⟩] [] [] [] []).2.map bS.env,?_,?_⟩
 ·unfold xo
  simp only[c,if_true,d];rw[b,if_pos a.1]
 rw[jl,b,a.2,Pc,DL h1,jl];simp
include h2
theorem Le (hg:RR g) {dir:Int} (a:dir=0\/dir=2) (b:(g.nodes.map fun nd=>(g.edges.filter (Ut dir nd.id)).length).sum<=4096):∃ r,xo n (nA dir) ⟨[],[]⟩ g p5=some (r,0)/\r.length=(g.nodes.map fun nd=>(g.edges.filter (Ut dir nd.id)).length).sum:=by
 have c:∀ id,zF n g id dir []=some (g.edges.filter (Ut dir id)):=fun id=>(Ei hg.big id a).at h1 h2;have i:∀ (id:Int) (fd:List bS),fd.length+(g.edges.filter (Ut dir id)).length<=4096->(nY n g (rQ n g []) [D0 dir] id [] (uF [] W0.name) (uR [] W0.name (fX id)) fd).1=true/\(nY n g (rQ n g []) [D0 dir] id [] (uF [] W0.name) (uR [] W0.name (fX id)) fd).2.length=fd.length+(g.edges.filter (Ut dir id)).length:=fun id fd j=>by
  have d:=GZ (f:=fun(e:Int×Int)=>nY n g (rQ n g []) [] e.2 [e.1] [] []) (fun _=>1) (fun x fd h=>Cb n g [x.1] fd h) (sY n g id (D0 dir) [] (g.edges.filter (Ut dir id))) fd (by
   rw[Pc,DK h1];exact j)
  have e:nY n g (rQ n g []) [D0 dir] id [] (uF [] W0.name) (uR [] W0.name (fX id)) fd=Sq (fun(e:Int×Int)=>nY n g (rQ n g []) [] e.2 [e.1] [] []) (sY n g id (D0 dir) [] (g.edges.filter (Ut dir id))) fd:=by
   show Sq _ (sY n g id (D0 dir) [] ((zF n g id dir []).getD [])) fd=_;rw[c id];rfl
  rw[e];refine⟨d.1,?_⟩;rw[d.2,Pc,DK h1]
 have d:=GZ (f:=fun(id:Int)=>nY n g (rQ n g []) [D0 dir] id [] (uF [] W0.name) (uR [] W0.name (fX id))) (fun id=>(g.edges.filter (Ut dir id)).length) i (Qp n W0 g.nodes) [] (by
  rw[DL h1,jU];simpa[Function.comp_def]using b)
 have l:xz n (nA dir) ⟨[],[]⟩ g p5=some ([⟨W0,[D0 dir]⟩],0):=by
  obtain⟨m,rfl⟩:∃ m,n=m+20:=⟨n - 20,by omega⟩;rcases a with rfl|rfl
  ·exact Mx m g
  exact My m g
 have o:(decide (g.nodes.length<1000000000)&&Dy n g [⟨W0,[D0 dir]⟩] [] [] [])=true:=by
  have:=hg.ln.1;have q:=hg.ln.2;rw[ji];refine⟨kdt (by omega),?_⟩;simp only[Dy,ji,List.all_eq_true];refine⟨fun nd _=>?_,Mq h1,fun id _=>?_⟩
  ·obtain⟨m,rfl⟩:∃ m,n=m+1:=⟨n - 1,by omega⟩
   rw[Qn];rfl
  simp only[VE];rw[show zF n g id (D0 dir).dir (D0 dir).of=some (g.edges.filter (Ut dir id))from c id];have j:=List.length_filter_le (Ut dir id) g.edges;simp only[ji,List.all_eq_true,kde];refine⟨by omega,by simp,fun e he=>?_,Mq h1,Mq h1,fun x _=>⟨by show(0:Nat)<1000000000; omega,fun v hv=>by have p:v∈([]:List Val):=hv; cases p⟩⟩
  have hm:=(List.mem_filter.1 he).1;unfold Sx;rw[hg.wf e hm,NB h1 h2 hg.big hg.up];obtain⟨m,rfl⟩:∃ m,n=m+1:=⟨n - 1,by omega⟩;show(true&&(true&&((zD (m+1) W0 e.keys e.vals).isSome&&(zB (m+1) W0 _).isSome)))=true;rw[EJ,Qn];rfl
 have k:rQ n g [⟨W0,[D0 dir]⟩] [] [] [] []=Sq (fun(id:Int)=>nY n g (rQ n g []) [D0 dir] id [] (uF [] W0.name) (uR [] W0.name (fX id))) (Qp n W0 g.nodes) []:=rfl;refine⟨(rQ n g [⟨W0,[D0 dir]⟩] [] [] [] []).2.map bS.env,?_,?_⟩
 ·unfold xo
  simp only[l,if_true,o];rw[k,if_pos d.1]
 rw[jl,k,d.2,DL h1,jU];simp[Function.comp_def]
end
end W
end
section
open Go Ax Go.Proofs
namespace W
theorem Dl {A:Type} (f g:A->Nat) (l:List A):(l.map fun a=>f a+g a).sum=(l.map f).sum+(l.map g).sum:=by
 induction l with
 | nil=>rfl
 | cons a l ih=>simp only[jk,jA,ih]; omega
theorem UJ {A:Type} (q:A->Bool) (l:List A):(l.filter q).length=(l.map fun a=>if q a=true then 1 else 0).sum:=by
 induction l with
 | nil=>rfl
 | cons a l ih=>
  simp only[jk,jA,List.filter_cons];split
  ·simp only[ja,ih]; omega
  simp only[ih]; omega
theorem Zd {A B:Type} (p:A->B->Bool) (l:List A):∀ m:List B,(l.map fun a=>(m.filter (p a)).length).sum=(m.map fun b=>(l.filter fun a=>p a b).length).sum
 | []=>by
  simp only[List.filter_nil,jc,jN,List.sum_nil]
  induction l with
  | nil=>rfl
  | cons a l ih=>simp only[jk,jA,ih]; rfl
 | b::m=>by
  have ih:=Zd p l m;have e:(l.map fun a=>((b::m).filter (p a)).length)=l.map fun a=>(if p a b=true then 1 else 0)+(m.filter (p a)).length:=by
   refine List.map_congr_left fun a _=>?_;rw[List.filter_cons];split
   ·simp only[ja]; omega
   omega
  rw[e,Dl,ih,jk,jA,UJ]
theorem Xg {id:Int}:∀ {l:List Node},Sc Node.id l->(cE Node.id l id).isSome=true->(l.filter fun d=>d.id==id).length=1
 | [],_,h=>by cases h
 | x::l,hu,h=>by
  obtain⟨h1,h2⟩:=List.pairwise_cons.1 hu;by_cases a:x.id=id
  ·have e:(x.id==id)=true:=by simp[a]
   rw[List.filter_cons,if_pos e,List.filter_eq_nil_iff.2 fun d b=>by
    have:=h1 d b;simp;omega]
   rfl
  have e:¬ (x.id==id)=true:=by simp[a]
  rw[List.filter_cons,if_neg e];refine Xg h2 ?_;unfold cE at h ⊢;rw[List.find?_cons]at h;split at h
  ·rename_i c; exact absurd c e
  exact h
theorem CU {a b:Int} (c:a≠b):∀ l:List Node,(l.filter fun d=>a==d.id||b==d.id).length=(l.filter fun d=>d.id==a).length+(l.filter fun d=>d.id==b).length
 | []=>rfl
 | x::l=>by
  have ih:=CU c l;simp only[List.filter_cons];by_cases h1:x.id=a
  ·have h2:¬ x.id=b:=fun e=>c (h1.symm.trans e)
   have e1:(a==x.id||b==x.id)=true:=by simp[h1]
   have e2:(x.id==a)=true:=by simp[h1]
   have e3:¬ (x.id==b)=true:=by simp[h2]
   rw[if_pos e1,if_pos e2,if_neg e3,ja,ja,ih];omega
  by_cases h2:x.id=b
  ·have e1:(a==x.id||b==x.id)=true:=by simp[h2]
   have e2:¬ (x.id==a)=true:=by simp[h1]
   have e3:(x.id==b)=true:=by simp[h2]
   rw[if_pos e1,if_neg e2,if_pos e3,ja,ja,ih];omega
  have e1:¬ (a==x.id||b==x.id)=true:=by
   simp only[Bool.or_eq_true,beq_iff_eq];rintro(h|h)
   ·exact h1 h.symm
   exact h2 h.symm
  have e2:¬ (x.id==a)=true:=by simp[h1]
  have e3:¬ (x.id==b)=true:=by simp[h2]
  rw[if_neg e1,if_neg e2,if_neg e3,ih]
def Sv (e:Edge):Bool:=e.from_==e.to
theorem CT {A:Type} {f g:A->Nat} {l:List A} (h:∀ a∈l,f a=g a):(l.map f).sum=(l.map g).sum:=by rw[List.map_congr_left h]
theorem Hs {g:Graph} (a:RR g):(g.nodes.map fun nd=>(g.edges.filter (Ut 0 nd.id)).length).sum=g.edges.length:=by
 rw[show(g.nodes.map fun nd=>(g.edges.filter (Ut 0 nd.id)).length).sum=_ from Zd (fun(nd:Node) e=>Ut 0 nd.id e) g.nodes g.edges,CT (g:=fun _=>1),Pc]
 intro e he;rw[← Xg a.up (a.ends e he).1];congr 1;refine List.filter_congr fun d _=>?_;show(e.from_==d.id)=(d.id==e.from_);rw[Bool.eq_iff_iff,beq_iff_eq,beq_iff_eq];exact eq_comm
theorem Ht {g:Graph} (a:RR g):(g.nodes.map fun nd=>(g.edges.filter (Ut 2 nd.id)).length).sum+(g.edges.filter Sv).length=2 * g.edges.length:=by
 rw[show(g.nodes.map fun nd=>(g.edges.filter (Ut 2 nd.id)).length).sum=_ from Zd (fun(nd:Node) e=>Ut 2 nd.id e) g.nodes g.edges,UJ,← Dl,CT (g:=fun _=>1+1),Dl,Pc]
 ·omega
 intro e he;have h1:=Xg a.up (a.ends e he).1;have h2:=Xg a.up (a.ends e he).2;by_cases b:e.from_=e.to
 ·rw[if_pos (by unfold Sv; simp[b])]
  congr 1;rw[← h1];congr 1;refine List.filter_congr fun d _=>?_;show(e.from_==d.id||e.to==d.id)=(d.id==e.from_);rw[← b,Bool.or_self,Bool.eq_iff_iff,beq_iff_eq,beq_iff_eq];exact eq_comm
 rw[if_neg (by unfold Sv; simp[b])];have:=CU b g.nodes;rw[h1,h2]at this;exact this
section
variable {n:Nat} (h1:34359738368<=n) (h2:n<=1099511627776)
include h1
abbrev SE:ZV:=⟨[qt.mk (1:Int) (nA 2) ([]:List qb) (qb.mk (0:Int) ([]:List UInt8) (Val.mk (0:Int) false (0:Int) ([]:List UInt8) ([]:List Val) ([]:List (List UInt8))) ([]:List (List UInt8)) ([]:List qb)) ([]:List UInt8) ([]:List zx) false ([]:List za) ([]:List qb) ([]:List qb) ([]:List qm) ([]:List (List UInt8)) false]⟩
theorem Nw:bp n SE=some false:=by
 obtain⟨m,rfl⟩:∃ m,n=m+60:=⟨n - 60,by omega⟩
 kernel_rfl
theorem Lf:uL n ⟨[⟨[],[],[],[]⟩,⟨[],[],[],[]⟩],[⟨[],[],2,[],[]⟩]⟩=some true:=by
 obtain⟨m,rfl⟩:∃ m,n=m+60:=⟨n - 60,by omega⟩
 kernel_rfl
theorem Mm:db n ⟨[],[]⟩=some true:=by
 obtain⟨m,rfl⟩:∃ m,n=m+60:=⟨n - 60,by omega⟩
 kernel_rfl
theorem Mn:vu n p5=some true:=by
 obtain⟨m,rfl⟩:∃ m,n=m+60:=⟨n - 60,by omega⟩
 kernel_rfl
theorem No (g:Graph):∃ b,cq n (nA 2) g=some b:=by
 obtain⟨m,rfl⟩:∃ m,n=m+60:=⟨n - 60,by omega⟩;obtain⟨c,a⟩:=g;unfold cq
 dsimp only
 rw[vY];generalize hnx:qU (cQ (m+60) (nA 2) c a) (m+59)=nx;show ∃ b,(bif decide (kwr .i64 (1 * kwr .i64 (((Node.rows c).length:Nat)+1))>20000)then some true else qU (gm (m+60) (nA 2) 0 a nx) (m+60) (kwr .i64 (1 * kwr .i64 (((Node.rows c).length:Nat)+1)),0))=some b;generalize kwr .i64 (1 * kwr .i64 (((Node.rows c).length:Nat)+1))=z;cases decide (z>20000)with
 | true=>exact⟨true,rfl⟩
 | false=>
  rw[xZ,vY];generalize hny:qU (gm (m+60) (nA 2) 0 a nx) (m+59)=ny;show ∃ b,(bif decide (kwr .i64 (z * kwr .i64 (((Edge.rows a).length:Nat)+1))>20000)then some true else ny (kwr .i64 (z * kwr .i64 (((Edge.rows a).length:Nat)+1)),1))=some b;generalize kwr .i64 (z * kwr .i64 (((Edge.rows a).length:Nat)+1))=y;cases decide (y>20000)with
  | true=>exact⟨true,rfl⟩
  | false=>
   rw[xZ,← hny,vY];show ∃ b,nx (y,1)=some b;rw[← hnx,vY];exact⟨false,rfl⟩
include h2
theorem Rg {g:Graph} (i:Fz g<=1048576):∃ b,bh n (nA 2) ⟨⟨[],[]⟩,g,p5⟩=some b/\(b=true->Sc Node.id g.nodes/\(g.nodes.length<=4096/\g.edges.length<=4096)/\∀ d∈g.edges,(cE Node.id g.nodes d.from_).isSome=true/\(cE Node.id g.nodes d.to).isSome=true):=by
 obtain⟨a,c⟩:=g;obtain⟨p,a2⟩:=Pr (g:=⟨a,c⟩);obtain⟨r,q,j⟩:=HH i;have j:bG n ⟨a,c⟩=some r:=j n h1 h2;obtain⟨k,_,e2⟩:=Mi (nodes:=a) (edges:=c) (Nat.le_trans p i) (Nat.le_trans a2 i);have e2:cm n ⟨a,c⟩=some k:=e2 n h1 h2;obtain⟨o,s⟩:=No h1 ⟨a,c⟩;have eL:=Nw h1;have tail:qU (cX n (nA 2) [] [] 5 false 0 [] [] []) n (0:Int)=some true:=by
  have em:=Lf h1;have en:=Mm h1;have ep:=Mn h1;obtain⟨m,rfl⟩:∃ m,n=m+60:=⟨n - 60,by omega⟩;rw[vY];show(bnd (uL (m+60) ⟨[⟨[],[],[],[]⟩,⟨[],[],[],[]⟩],[⟨[],[],2,[],[]⟩]⟩) fun l=>bif(!l)then some false else qU (cX (m+60) (nA 2) [] [] 5 false 0 [] [] []) (m+59) (1:Int))=some true
  rw[em,xp,vY];show(bnd (db (m+60) ⟨[],[]⟩) fun f=>bnd (qG f (vu (m+60) p5)) fun e=>some (bif f then e else false))=some true
  rw[en,xp];show(bnd (vu (m+60) p5) fun e=>some (bif true then e else false))=some true
  rw[ep];rfl
 refine⟨bif r then(bif k then !o else false)else false,?_,fun h=>q (by cases r with|true=>rfl|false=>cases h)⟩
 show bh n (nA 2) ⟨⟨[],[]⟩,⟨a,c⟩,⟨5,false,0,[],[],[]⟩⟩=_;unfold bh
 dsimp only
 rw[show bp n _=some false from eL,xp];show(bnd (bG n ⟨a,c⟩) _)=_;rw[j,xp];cases r with
 | false=>rfl
 | true=>
  show(bnd (cm n ⟨a,c⟩) _)=_;rw[e2,xp];cases k with
  | false=>rfl
  | true=>
   show(bnd (cq n (nA 2) ⟨a,c⟩) _)=_;rw[s,xp];cases o with
   | true=>rfl
   | false=>
    rw[tail];rfl
theorem BE {l:List zj} {g:Graph} {r:List Env} (h:xo n l ⟨[],[]⟩ g p5=some (r,0)):xA n l ⟨⟨[],[]⟩,g,p5⟩=some (r,0):=by
 obtain⟨a,b⟩:=g;show xA n l ⟨⟨[],[]⟩,⟨a,b⟩,⟨5,false,0,[],[],[]⟩⟩=_;unfold xA
 dsimp only
 rw[show xo n l ⟨[],[]⟩ ⟨a,b⟩ ⟨5,false,0,[],[],[]⟩=some (r,0)from h,xp]
theorem Ez {g:Graph} (i:Fz g<=1048576) (j:∀ d∈g.edges,(Lit.int .i64 d.id).wf=true):uJ n g=some true:=by
 have hw:fZ n=some true:=by
  obtain⟨m,rfl⟩:∃ m,n=m+400:=⟨n - 400,by omega⟩;exact MD m
 have pa:zQ n [40,41]=some EC:=by
  obtain⟨m,rfl⟩:∃ m,n=m+400:=⟨n - 400,by omega⟩;exact ND m
 have pb:zQ n [40,41,45,45,62,40,41]=some (nA 0):=by
  obtain⟨m,rfl⟩:∃ m,n=m+400:=⟨n - 400,by omega⟩;exact NF m
 have pc:zQ n [40,41,45,45,40,41]=some (nA 2):=by
  obtain⟨m,rfl⟩:∃ m,n=m+400:=⟨n - 400,by omega⟩;exact NG m
 obtain⟨b,E,o⟩:=Rg h1 h2 i;obtain⟨c,a⟩:=g;unfold uJ
 dsimp only
 rw[pc,xp,show bh n (nA 2) ⟨⟨[],[]⟩,⟨c,a⟩,⟨5,false,0,[],[],[]⟩⟩=some b from E,xp,Hz];have y:=(Pr (g:=⟨c,a⟩)).2;have y:a.length<=1048576:=Nat.le_trans y i;have w2:kwr .i64 (2 * ((a.length:Nat):Int))=((2 * a.length:Nat):Int):=by
  rw[LF (by omega) (by omega)];omega
 rw[w2];cases z:(bif(!b)then true else decide (((2 * a.length:Nat):Int)>4096))with
 | true=>
  rw[dU,hw];rfl
 | false=>
  rw[xZ];have e:b=true:=by cases b with
   | true=>rfl
   | false=>cases z
  subst e;have p:2 * a.length<=4096:=by
   have:=of_decide_eq_false z;omega
  obtain⟨F,G,H⟩:=o rfl;have f:RR ⟨c,a⟩:=⟨i,F,G,H,j⟩;have c1:=Hs f;have c2:=Ht f;obtain⟨q,I,r⟩:=NA h1 f;obtain⟨s,t,lb⟩:=Le h1 h2 f (dir:=0) (.inl rfl) (by rw[c1]; show a.length<=4096; omega);obtain⟨rc,J,lc⟩:=Le h1 h2 f (dir:=2) (.inr rfl) (by
   have:(2:Nat) * (Graph.mk c a).edges.length<=4096:=p;omega)
  rw[pa,xp,show xA n EC ⟨⟨[],[]⟩,⟨c,a⟩,⟨5,false,0,[],[],[]⟩⟩=some (q,0)from BE h1 h2 I,xp]
  dsimp only
  rw[pb,xp,show xA n (nA 0) ⟨⟨[],[]⟩,⟨c,a⟩,⟨5,false,0,[],[],[]⟩⟩=some (s,0)from BE h1 h2 t,xp]
  dsimp only
  rw[xp,show xA n (nA 2) ⟨⟨[],[]⟩,⟨c,a⟩,⟨5,false,0,[],[],[]⟩⟩=some (rc,0)from BE h1 h2 J,xp]
  dsimp only
  have r:q.length=c.length:=r;have lb:s.length=a.length:=lb.trans c1;have lc:rc.length+(a.filter Sv).length=2 * a.length:=by rw[lc]; exact c2
  have K:∀ l:List Env,(Env.rows l).length=l.length:=fun l=>by simp[Env.rows]
  refine Vj (B:=zS n a 0 0 0 q c s rc) (fun k=>(((((a.take k).filter Sv).length:Nat):Int),((k:Nat):Int))) a.length (fun k u L=>?_) (fun L=>?_) (by omega)
  ·have A:=jf u
   have C:=XY Sv u;generalize a[k]=x at A C;obtain⟨M,v,w,N,O,P⟩:=x;have h:=QR Sv a k;simp only[zS,Hz,DE u,dU,QT A,xp,xn];rw[sH (k:=k) (by omega),C];cases D:(v==w)with
   | true=>
    rw[dU,sH (by omega),if_pos (show Sv ⟨M,v,w,N,O,P⟩=true from D),List.length_append];rfl
   | false=>
    rw[xZ,if_neg (by show ¬ (v==w)=true; rw[D]; simp),List.append_nil]
  have h:=QR Sv a a.length;simp only[zS,Hz,GS,xZ,K,NC,r,lb,List.take_length,w2];have e3:kwr .i64 (((2 * a.length:Nat):Int) - (((a.filter Sv).length:Nat):Int))=((rc.length:Nat):Int):=by
   rw[List.take_length]at h;rw[LF (by omega) (by omega)];omega
  rw[e3];simp only[kbs,dU,BH,hw,xp]
end
end W
end
