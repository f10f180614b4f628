/- A part of the proof: the plain law. -/
import Derived.Test.YtmblnmgpmdapnaaGreatRows
import Derived.Test.YtmblnmgpmdapnaaGreatShelf
import Derived.Deep.DeepHandedRow
import Derived.ChangeMaps5
import Derived.LaidLaws
import Derived.OpenShut
import Derived.Test.YtmblnmgpmdapnaaGreatC
import Derived.Test.YtmblnmgpmdapnaaGreatL
set_option linter.unusedVariables false
set_option linter.unusedSimpArgs false
set_option linter.unnecessarySimpa false
set_option linter.deprecated false
set_option linter.unusedSectionVars false
set_option linter.constructorNameAsVariable false
open Go.IntKind renaming wrap->kwr,bits->kbt
open List renaming length_cons->ja,length_append->jb,length_nil->jc,getElem?_cons_zero->jd,getElem?_cons_succ->je,getElem?_eq_getElem->jf,map_cons->jl,length_map->jm,drop_eq_getElem_cons->jo,append_assoc->jt,length_take->ju,nil_append->jv,mem_append->jz,mem_singleton->jA,sum_cons->jB,getElem?_drop->jE,take_left->jK,length_drop->jN,map_nil->jO,any_cons->jY,any_append->ka,map_append->ke
open Bool renaming and_eq_true->jj,not_false->jp,not_true->jq,or_eq_true->jP,true_eq_false->jR,or_eq_false_iff->kc
open Nat renaming exists_eq_succ_of_ne_zero->jk,le_refl->jx,zero_le->jT
open BitVec renaming ofInt->js
open UInt8 renaming toNat_inj->jU
open Int renaming toNat_natCast->jV
open Option renaming getD_some->jW
section
open Go Ax
namespace W
theorem zk6:∀ (l:List qab) (t v:Env),EnvOk t->(∀ c∈l,WfC c)->qfs qq6 t l=.inr v->EnvOk v/\v.length<=t.length+2 * (l.map qda).sum
 | [],t,v,ht,_,e=>by cases e; exact⟨ht,by omega⟩
 | c::l,t,v,ht,hw,e=>by
  simp only[qfs,qq6]at e;by_cases h0:(qgh t c).1=0
  ·rw[if_neg (by simpa using h0)]at e
   have h1:=zcv ht (hw c (by simp)) h0;have h2:=zk6 l _ v h1.1 (fun c hc=>hw c (by simp[hc])) e
   simp only[jl,jB];exact⟨h2.1,by omega⟩
  rw[if_pos h0]at e; cases e
theorem zte (cl:List qab) (m:Nat):((cl.take m).map qda).sum<=(cl.map qda).sum:=by
 have h0:cl.take m++cl.drop m=cl:=List.take_append_drop m cl;have:((cl.take m++cl.drop m).map qda).sum=((cl.take m).map qda).sum+((cl.drop m).map qda).sum:=by rw[ke,List.sum_append]
 rw[h0]at this;omega
theorem zhz {may:Bool} {cl:List qab} (hw:may=true->∀ c∈cl,WfC c) (at_:Int):(qhx may cl at_).1.length<=2 * qca cl/\(qhx may cl at_).2.1.length<=2 * qca cl:=by
 unfold qhx qca;split
 ·simp
 rename_i hc;simp only[not_or,Bool.not_eq_false]at hc;have ht:=zte cl at_.toNat;cases hf:qfs qq6 [] (cl.take at_.toNat)with
 | inl e=>simp
 | inr v=>
  have:=(zk6 _ _ v zck (fun c hc'=>hw hc.1 c (List.mem_of_mem_take hc')) hf).2
  simp only[jm,jc]at this ⊢;omega
section
variable {n:Nat} (hn:n<=1073741824) {cl:List qab} (h:8 * qca cl+400<n) (hM:∀ c∈cl,LenOk c)
include hn h hM
theorem q5z (at_:Int):qi8 n ⟨cl⟩ at_=some (qhx (q4v n cl) cl at_)/\qie n ⟨cl⟩ at_=some (qhx (q4v n cl) cl at_):=
 ⟨q60 hn (zid hn (by omega) hM) (zag hn (by omega) hM) (by omega) at_,zbg hn (zpy hn (by omega) hM) (zag hn (by omega) hM) (by omega) at_⟩
def qsp (may:Bool) (cl:List qab):List (List UInt8)×Int:=
 let r:=qhx may cl cl.length
 if r.2.2=0/\(∃ c,cl.getLast? =some c/\c.kind=9)then(r.1,0)else([],r.2.2)
omit hn h hM in
theorem zl8 {may:Bool} (hl:may=true->cl≠[]) (hsz:cl.length<=1073741824):(bnd (some (qhx may cl cl.length)) fun⟨g,C,d⟩=>
  bnd (qaw (!(d != (0:Int))) (idx cl (kwr .i64 (((cl.length:Nat):Int) - (1:Int))))) fun⟨i,D,E,⟨F,G,⟨j,k,o,p,q,s⟩,u,w⟩,x,y,z,A,B,x23,x24,x25,x26⟩=>
  bif(bif(d != (0:Int))then true else(i != (9:Int)))then(some (([]:List (List UInt8)),d))else(some (g,(0:Int))))=some (qsp may cl):=by
 unfold qsp;cases hr:qhx may cl cl.length with
 | mk a be=>
  obtain⟨b,e⟩:=be;simp only[qad];by_cases he:e=0
  ·subst he
   have hc:cl≠[]:=by
    intro h0;apply hl _ h0;cases may with
    | true=>rfl
    | false=>
     unfold qhx at hr;rw[if_pos (.inl rfl)]at hr;cases hr
   obtain⟨l,c,rfl⟩:∃ l c,cl=l++[c]:=⟨cl.dropLast,cl.getLast hc,(List.dropLast_concat_getLast hc).symm⟩;have e1:kwr .i64 ((((l++[c]).length:Nat):Int) - 1)=((l.length:Nat):Int):=by
    rw[qw3 (by omega) (by omega)]; simp
   have e2:(l++[c])[l.length]? =some c:=by simp
   have e3:(l++[c]).getLast? =some c:=by simp
   rw[e1,show(!((0:Int) != 0))=true from rfl,qc3,qaj e2,qad,e3];clear hr e1 e2 e3 hl hsz hc;obtain⟨f,g,C,⟨d,i,⟨D,E,F,G,j,k⟩,o,p⟩,q,s,u,w,x,y,z,A,B⟩:=c;by_cases h9:f=9
   ·subst h9
    rw[if_pos ⟨rfl,_,rfl,rfl⟩];rfl
   rw[if_neg (by rintro⟨_,c,hc,hk⟩; cases hc; exact h9 hk)];show(bif(bif((0:Int) != 0)then true else(f != 9))then _ else _)=_;rw[show(f != 9)=true from by simpa using h9];rfl
  rw[if_neg (by rintro⟨h0,_⟩; exact he h0)];have:(e != 0)=true:=by simpa using he
  rw[this];rfl
theorem zl7:qqy n ⟨cl⟩=some (qsp (q4v n cl) cl)/\quk n ⟨cl⟩=some (qsp (q4v n cl) cl):=by
 have hlen:=qbi qda qj9 cl;have hl:q4v n cl=true->cl≠[]:=fun hm h0=>by have:=(zvf hm).1; rw[h0]at this; simp at this
 have hc:=zl8 hl (by unfold qca at h; omega);obtain⟨n1,n2⟩:=q5z hn h hM cl.length;refine⟨?_,?_⟩
 ·unfold qqy
  simp only[qbx,n1];exact hc
 unfold quk;simp only[qbx,n2];exact hc
end
end W
end
section
open Go Ax
namespace W
def qyw (c:qab):Int:=
 if c.kind=1\/c.kind=2 then 1
 else if c.kind≠3/\c.kind≠9 then 3
 else if c.unique=true\/c.order≠[]\/c.skip≠[]\/c.limit≠[]then 2
 else if(c.items.any fun i=>match i.e with|.mk op _ _ _ _=>op==14)=true then 2 else 1
theorem q0j {A:Type} (p:A->Bool) {R:Type} (r:R):∀ l:List A,qe4 (fun x=>bif p x then some r else none) l=(bif l.any p then some r else none)
 | []=>rfl
 | x::l=>by
  simp only[qe4,jY];cases p x with
  | true=>rfl
  | false=>simpa using q0j p r l
theorem qq9 (l:List qbn):(qbn.rows l).length=l.length:=by simp[qbn.rows]
theorem q4m (l:List qat):(qat.rows l).length=l.length:=by simp[qat.rows]
theorem q30 (l:List qaa):(qaa.rows l).length=l.length:=by rw[qaa.rows_eq]; simp
def zkw (i:qbn):Bool:=match i.e with|.mk op _ _ _ _=>op==14
theorem zd5 {n:Nat} (hn:n<=1073741824) {c:qab} (h:c.items.length<n):qwq n c=some (qyw c):=by
 obtain⟨b,x2,x3,⟨x4,x5,⟨x6,x7,x8,x9,x10,x11⟩,x12,x13⟩,x14,f,d,g,j,m,x20,x21,x22⟩:=c;simp only at h;unfold qwq qyw;simp only[qq9,q4m,q30];by_cases h1:b=1\/b=2
 ·have:(bif b==(1:Int)then true else b==2)=true:=by rcases h1 with rfl|rfl<;>rfl
  rw[this,kct,if_pos h1]
 have h2:(bif b==(1:Int)then true else b==2)=false:=by
  simp only[not_or]at h1;rw[kbf.2 h1.1,kbf.2 h1.2]; rfl
 rw[h2,kcf,if_neg h1];by_cases h3:b≠3/\b≠9
 ·have:(bif b != (3:Int)then b != 9 else false)=true:=by
   rw[bne_iff_ne.2 h3.1,bne_iff_ne.2 h3.2]; rfl
  rw[this,kct,if_pos h3]
 have h4:(bif b != (3:Int)then b != 9 else false)=false:=by
  by_cases h5:b=3
  ·subst h5; rfl
  by_cases h6:b=9
  ·subst h6; rfl
  exact absurd ⟨h5,h6⟩ h3
 rw[h4,kcf,if_neg h3];have hz:∀ {A:Type} (l:List A),decide (((l.length:Nat):Int)>0)=!decide (l=[]):=by
  intro A l;cases l with
  | nil=>rfl
  | cons a l=>rw[kdt (by simp only[ja]; omega),kdf (by simp)]; rfl
 simp only[hz];by_cases h5:d=true\/g≠[]\/j≠[]\/m≠[]
 ·have:(bif bif bif d then true else !decide (g=[])then true else !decide (j=[])then true else !decide (m=[]))=true:=by
   rcases h5 with rfl|h5|h5|h5
   ·rfl
   ·rw[kdf h5]; cases d<;>rfl
   ·rw[kdf h5]; cases d<;>cases decide (g=[])<;>rfl
   rw[kdf h5]; cases d<;>cases decide (g=[])<;>cases decide (j=[])<;>rfl
  rw[this,kct,if_pos h5]
 simp only[not_or,Bool.not_eq_true,ne_eq,Decidable.not_not]at h5;obtain⟨rfl,rfl,rfl,rfl⟩:=h5;rw[if_neg (by simp)];refine(qc4 (B:=qnw n f) (fun k=>((k:Nat):Int)) (l:=f) (fun i=>bif zkw i then some (2:Int)else none) (rest:=some 1) (fun k x nx hx=>?_) (fun nx=>by simp only[qnw,qq9,qar,kcf]) (n:=n) h).trans ?_
 ·have hk:=qbl hx
  obtain⟨⟨o,y2,⟨y3,y4,y5,y6,y7,y8⟩,y9,y10⟩,y11⟩:=x;simp only[qnw,qq9,qa5 hk,kct,qaj hx,qad,zkw];rw[qb7 (by omega)];cases o==14<;>rfl
 ·rw[q0j]
  show _=some (if(f.any zkw)=true then(2:Int)else 1);cases f.any zkw<;>rfl
theorem q8x {n:Nat} (hn:n<=1073741824) {c:qab} (h:c.items.length<n) (hs:c.order.length+c.skip.length+c.limit.length<=1073741824):qsg n c=some (qyw c - 1):=by
 obtain⟨g,x2,x3,⟨x4,x5,⟨x6,x7,x8,x9,x10,x11⟩,x12,x13⟩,x14,f,s,j,o,q,x20,x21,x22⟩:=c;simp only at h hs;have hidx:qbc n f=some (f.any zkw):=by
  unfold qbc qb9;have key:∃ r:Int,qam (qax n f) n (0:Int)=some r/\decide (r≥0)=f.any zkw:=by
   have main:∀ m k:Nat,k<=f.length->f.length - k<m->∃ r:Int,qam (qax n f) m (k:Int)=some r/\decide (r≥0)=(f.drop k).any zkw:=by
    intro m
    induction m with
    | zero=>intro k _ h; omega
    | succ m ih=>
     intro k hk hm;rw[qa1];by_cases he:k=f.length
     ·subst he
      refine⟨-1,by simp only[qax,qq9,qar,kcf],?_⟩;rw[List.drop_length]; rfl
     have h1:k<f.length:=by omega
     have hx:=jf h1;rw[jo h1];generalize f[k]=x at hx ⊢;obtain⟨r,hr1,hr2⟩:=ih (k+1) (by omega) (by omega);obtain⟨⟨t,y2,⟨y3,y4,y5,y6,y7,y8⟩,y9,y10⟩,y11⟩:=x;simp only[qax,qqx,qq9,qa5 h1,kct,qaj hx,qad,jY,zkw];rw[qb7 (by omega)];cases t==14 with
     | true=>exact⟨k,rfl,by simp⟩
     | false=>exact⟨r,hr1,by simpa using hr2⟩
   obtain⟨r,h1,h2⟩:=main n 0 (by omega) (by omega);exact⟨r,h1,by simpa using h2⟩
  obtain⟨r,h1,h2⟩:=key;rw[h1,qad,h2]
 have hsum:decide (kwr .i64 (kwr .i64 (((j.length:Nat):Int)+((o.length:Nat):Int))+((q.length:Nat):Int))>0)=!(decide (j=[])&&decide (o=[])&&decide (q=[])):=by
  rw[qw3 (i:=((j.length:Nat):Int)+((o.length:Nat):Int)) (by omega) (by omega),qw3 (by omega) (by omega)];cases j with
  | cons a l=>rw[kdt (by simp only[ja]; omega),kdf (by simp)]; rfl
  | nil=>
   cases o with
   | cons a l=>rw[kdt (by simp only[ja]; omega),kdf (p:=a::l=[]) (by simp)]; rfl
   | nil=>
    cases q with
    | cons a l=>rw[kdt (by simp only[ja]; omega),kdf (p:=a::l=[]) (by simp)]; rfl
    | nil=>rfl
 unfold qsg qyw;simp only[qm6,hidx,qad,q4m,q30,hsum,qlo,qm5];by_cases h3:g=3\/g=9
 ·have e1:¬ (g=1\/g=2):=by omega
  have e2:¬ (g≠3/\g≠9):=by omega
  rw[if_neg e1,if_neg e2];have hcase:(bif bif bif f.any zkw then true else s then true else !(decide (j=[])&&decide (o=[])&&decide (q=[]))then some (1:Int)else some 0) =
    some ((if s=true\/j≠[]\/o≠[]\/q≠[]then 2 else if(f.any fun i=>match i.e with|.mk op _ _ _ _=>op==14)=true then 2 else 1) - 1):=by
   show _=some ((if s=true\/j≠[]\/o≠[]\/q≠[]then 2 else if(f.any zkw)=true then 2 else 1) - 1);cases f.any zkw<;>cases s<;>by_cases a:j=[]<;>by_cases b:o=[]<;>by_cases d:q=[]<;>simp[a,b,d]
  rcases h3 with rfl|rfl
  ·exact hcase
  exact hcase
 simp only[not_or]at h3;rw[kbf.2 h3.1,kbf.2 h3.2];simp only[kcf];by_cases h1:g=1
 ·subst h1; rfl
 by_cases h2:g=2
 ·subst h2; rfl
 rw[kbf.2 h1,kbf.2 h2,if_neg (by omega),if_pos ⟨h3.1,h3.2⟩];rfl
end W
end
section
open Go Ax
namespace W
def q1p (p:qa9):List (List UInt8):=p.nodes.map qae.var_
def zaf (b:List (List UInt8)) (d:qae):Bool:=!decide (d.labels=[])&&!decide (d.keys=[])&&!(!(d.var_==[])&&b.any (· == d.var_))
def q56 (b:List (List UInt8)) (at_ i:Int) (p:qa9):List qdj:=
 match p.nodes with
 | []=>[]
 | d::_=>bif zaf b d then[⟨at_,i,d.labels.headD [],d.keys.headD []⟩]else[]
def qs5 (at_:Int):List (List UInt8)->Nat->List qa9->List qdj
 | _,_,[]=>[]
 | b,i,p::ps=>q56 b at_ (i:Int) p++qs5 at_ (b++q1p p) (i+1) ps
theorem zii (b:List (List UInt8)) (at_ i:Int) (p:qa9):(q56 b at_ i p).length<=1:=by
 unfold q56;split
 ·simp
 cases zaf b _<;>simp
theorem zij (at_:Int):∀ (ps:List qa9) (b:List (List UInt8)) (i:Nat),(qs5 at_ b i ps).length<=ps.length
 | [],_,_=>by simp[qs5]
 | p::ps,b,i=>by
  have h1:=zii b at_ (i:Int) p;have h2:=zij at_ ps (b++q1p p) (i+1);simp only[qs5,jb,ja];omega
theorem q0w {n:Nat} (hn:n<=1073741824) {l:List (List UInt8)} {v:List UInt8} (h:l.length<n):qdq n l v=some (l.any (· == v)):=by
 unfold qdq qfh;have main:∀ m k:Nat,k<=l.length->l.length - k<m->∃ r:Int,qam (qcl n l v) m (k:Int)=some r/\decide (r≥0)=(l.drop k).any (· == v):=by
  intro m
  induction m with
  | zero=>intro k _ h; omega
  | succ m ih=>
   intro k hk hm;rw[qa1];by_cases he:k=l.length
   ·subst he
    refine⟨-1,by simp only[qcl,qay,qar,kcf],?_⟩;rw[List.drop_length]; rfl
   have h1:k<l.length:=by omega
   have hx:=jf h1;rw[jo h1];generalize l[k]=x at hx ⊢;obtain⟨r,hr1,hr2⟩:=ih (k+1) (by omega) (by omega);simp only[qcl,qay,qa5 h1,kct,qaj hx,qad,jY];rw[qb7 (by omega)];by_cases hv:v=x
   ·subst hv
    exact⟨k,by simp,by simp⟩
   rw[kbf.2 hv,kbf.2 (fun e=>hv e.symm)]
   exact⟨r,hr1,by simpa using hr2⟩
 obtain⟨r,h1,h2⟩:=main n 0 (by omega) (by omega);have h1:qam (qcl n l v) n (0:Int)=some r:=h1;rw[h1,qad,h2];simp
theorem zhb {A C R:Type} (g:A->C):∀ (l:List A) (b:List C),qfs (R:=R) (fun t d=>.inr (t++[g d])) b l=.inr (b++l.map g)
 | [],b=>by simp[qfs]
 | x::l,b=>by
  simp only[qfs];rw[zhb g l (b++[g x])];simp
theorem zo1 {A:Type} [Inhabited A] (g:Bool) (a:A):qaw g (some a)=some (if g=true then a else default):=by cases g<;>rfl
theorem zu5 {A:Type} (l:List A):decide (((l.length:Nat):Int)>0)=!decide (l=[]):=by
 cases l with
 | nil=>rfl
 | cons a l=>rw[kdt (by simp only[ja]; omega),kdf (by simp)]; rfl
theorem zsi {A:Type} (l:List A):((((l.length:Nat):Int))==0)=decide (l=[]):=by
 cases l with
 | nil=>rfl
 | cons a l=>rw[kdf (by simp)]; rw[kbf]; simp only[ja]; omega
@[simp] theorem qej (l:List qdj):(qdj.rows l).length=l.length:=by simp[qdj.rows]
@[simp] theorem qdn (l:List qao):(qao.rows l).length=l.length:=by simp[qao.rows]
theorem zmy {n:Nat} (hn:n<=1073741824) {ps:List qa9} (at_:Int) (hw:∀ p∈ps,p.nodes≠[]) (hp:ps.length<n) (hb:∀ p∈ps,p.nodes.length<n):∀ (suf:List qa9) (k m:Nat) (acc:List qdj) (b:List (List UInt8)),
  (∀ j,suf[j]? =ps[k+j]?)->k+suf.length=ps.length->suf.length<m->acc.length<=k->b.length+(suf.map fun p=>p.nodes.length).sum<n ->
  qam (qeg n ps at_) m (acc,b,(k:Int))=some (acc++qs5 at_ b k suf):=by
 intro suf
 induction suf with
 | nil=>
  intro k m acc b hs hk hm ha hB;obtain⟨m,rfl⟩:=jk (by omega:m≠0);have:k=ps.length:=by simpa using hk
  subst this;rw[qa1];simp only[qeg,qcp,qar,kcf,qs5,List.append_nil]
 | cons p suf ih=>
  intro k m acc b hs hk hm ha hB;obtain⟨m,rfl⟩:=jk (by omega:m≠0);have hx:ps[k]? =some p:=by have:=hs 0; simpa using this.symm
  have hkl:=qbl hx;have hpm:=qbf hx;have hne:=hw p hpm;have hpn:=hb p hpm;simp only[jl,jB]at hB;rw[qa1];obtain⟨nodes,edges⟩:=p;simp only at hne hpn hB;have hk3:∀ acc',qkt n nodes (qam (qeg n ps at_) m) (k:Int) b acc'=qam (qeg n ps at_) m (acc',b++nodes.map qae.var_,((k+1:Nat):Int)):=by
   intro acc';unfold qkt;refine(qni (B:=qku n nodes (qam (qeg n ps at_) m) acc' (k:Int)) (fun j t=>(t,(j:Int))) (fun j t=>t.length=b.length+j) (l:=nodes) (R:=List qdj) (fun t d=>.inr (t++[d.var_])) (rest:=fun t=>qam (qeg n ps at_) m (acc',t,((k+1:Nat):Int)))
    (fun j d t nx hd ht=>?_) (fun j d t t' hd ht e=>?_) (fun t nx ht=>?_) hpn (t0:=b) (by simp)).trans ?_
   ·have hj:=qbl hd
    obtain⟨y1,y2,y3,y4⟩:=d;simp only[qku,qc7,qa5 hj,kct,qaj hd,qad,qay];rw[qa0 (kdt (by rw[jb]; simp only[ja,jc]; omega)),qb7 (by omega)];rfl
   ·cases e; simp[ht]; omega
   ·simp only[qku,qc7,qar,kcf]
    rw[qb7 (by omega)]
   rw[zhb qae.var_ nodes b]; rfl
  have hstep:∀ acc',acc'.length<=k+1->qam (qeg n ps at_) m (acc',b++nodes.map qae.var_,((k+1:Nat):Int))=some (acc'++qs5 at_ (b++nodes.map qae.var_) (k+1) suf):=fun acc' ha'=>
   ih (k+1) m acc' _ (fun j=>by have:=hs (j+1); rw[show k+1+j=k+(j+1) by omega]; simpa using this) (by simp at hk; omega) (by simp at hm; omega) ha' (by rw[jb,jm]; omega)
  cases nodes with
  | nil=>exact absurd rfl hne
  | cons d ds=>
   have hi0:idx (d::ds) (0:Int)=some d:=qaj (i:=0) rfl;simp only[qeg,qcp,qa5 hkl,kct,qaj hx,qad,hi0,qay,zu5];obtain⟨v,ls,ks,xs⟩:=d;rw[q0w hn (by simp only[ja]at hB; omega),zo1,qad];simp only[qs5,q56,zaf,q1p];cases ls with
   | nil=>
    simp only[decide_true,jq,kcf,Bool.false_and,jv];rw[hk3,hstep acc (by omega)]
   | cons a ls=>
    cases ks with
    | nil=>
     simp only[decide_true,jq,kcf,Bool.false_and,Bool.and_false,jv];have:decide ((a::ls)=[])=false:=by simp
     rw[this];simp only[jp,kct,kcf];rw[hk3,hstep acc (by omega)]
    | cons c ks=>
     have e1:decide ((a::ls)=[])=false:=by simp
     have e2:decide ((c::ks)=[])=false:=by simp
     have ia:idx (a::ls) (0:Int)=some a:=qaj (i:=0) rfl;have ic:idx (c::ks) (0:Int)=some c:=qaj (i:=0) rfl;rw[e1,e2];simp only[jp,kct,Bool.true_and,ia,ic,qad,List.headD_cons];cases hv:(v==[])with
     | true=>
      simp only[jq,Bool.false_and,jp,kcf,kct];rw[qa0 (kdt (by rw[qej,jb]; simp only[ja,jc]; omega)),hk3,hstep _ (by simp; omega),jt]
     | false=>
      simp only[jp,Bool.true_and,kct,if_true];cases b.any (· == v)with
      | true=>
       simp only[jq,kcf,jv];rw[hk3,hstep acc (by omega)]
      | false=>
       simp only[jp,kct];rw[qa0 (kdt (by rw[qej,jb]; simp only[ja,jc]; omega)),hk3,hstep _ (by simp; omega),jt]
theorem q8z {n:Nat} (hn:n<=1073741824) {c:qab} (at_:Int) {names:List (List UInt8)} (hw:c.kind=1->∀ p∈c.paths,p.nodes≠[]) (hp:c.paths.length<n) (hb:∀ p∈c.paths,p.nodes.length<n)
  (hB:names.length+(c.paths.map fun p=>p.nodes.length).sum<n):qm7 n c at_ names=some (if c.kind=1 then qs5 at_ names 0 c.paths else[]):=by
 obtain⟨e,f,x3,⟨x4,x5,⟨x6,x7,x8,x9,x10,x11⟩,x12,x13⟩,x14,x15,x16,x17,x18,x19,x20,x21,x22⟩:=c;unfold qm7;simp only at hw hp hb hB ⊢;by_cases h1:e=1
 ·subst h1
  rw[if_pos rfl,show((1:Int) != 1)=false from rfl,kcf,qay,qa0 (kdt (by omega))];have:=zmy hn at_ (hw rfl) hp hb f 0 n [] names (by simp) (by simp) hp (by simp) hB;simpa using this
 rw[if_neg h1,show(e != 1)=true from bne_iff_ne.2 h1,kct]
end W
end
section
open Go Ax
namespace W
def zgz (names:List (List UInt8)) (l:List qa9) (v:List UInt8):Bool:=names.any (· == v)||l.any fun p=>p.nodes.any fun d=>d.var_==v
theorem znz (names:List (List UInt8)) (l:List qa9) (v:List UInt8):(names++l.flatMap q1p).any (· == v)=zgz names l v:=by
 unfold zgz;rw[ka,List.any_flatMap];congr 2;funext p;simp[q1p,List.any_map,Function.comp_def]
theorem qz5 {R:Type} (b:Bool) (r:R) (o:Option R):orE (bif b then some r else none) o=bif b then some r else o:=by cases b<;>rfl
theorem zbl {n:Nat} (hn:n<=1073741824) {c:qab} {k:Nat} (hk:k<=c.paths.length) (hp:c.paths.length<n) (hb:∀ p∈c.paths,p.nodes.length<n) {names:List (List UInt8)} (hl:names.length<n) (v:List UInt8) :
  qum n c (k:Int) names v=some (zgz names (c.paths.take k) v):=by
 obtain⟨x1,a,x3,⟨x4,x5,⟨x6,x7,x8,x9,x10,x11⟩,x12,x13⟩,x14,x15,x16,x17,x18,x19,x20,x21,x22⟩:=c;simp only at hk hp hb;unfold qum;have inner:∀ (i:Nat) (p:qa9) (nx2:Int->Option Bool),a[i]? =some p->qam (qjz n a (i:Int) v nx2) n (0:Int)=bif(p.nodes.any fun d=>d.var_==v)then some true else nx2 ((i+1:Nat):Int):=by
  intro i p nx2 hi;have hpn:=hb p (qbf hi);have hil:=qbl hi;refine(qc4 (B:=qjz n a (i:Int) v nx2) (fun j=>((j:Nat):Int)) (l:=p.nodes) (fun d=>bif d.var_==v then some true else none) (rest:=nx2 ((i+1:Nat):Int)) (fun j d nx hd=>?_) (fun nx=>?_) (n:=n) hpn).trans ?_
  ·have hj:=qbl hd
   obtain⟨nodes,edges⟩:=p;obtain⟨y1,y2,y3,y4⟩:=d;simp only[qjz,qaj hi,qad,qc7];simp only at hj hd hpn;rw[qa5 hj,kct,qaj hd,qad,qb7 (by omega),qz5]
  ·obtain⟨nodes,edges⟩:=p
   simp only[qjz,qaj hi,qad,qc7,qar,kcf];rw[qb7 (by omega)]
  rw[q0j,qz5]
 have mid:qam (qjy n (k:Int) a v) n (0:Int)=some ((a.take k).any fun p=>p.nodes.any fun d=>d.var_==v):=by
  have hlen:(a.take k).length=k:=by rw[ju]; omega
  refine(qc4 (B:=qjy n (k:Int) a v) (fun j=>((j:Nat):Int)) (l:=a.take k) (fun p=>bif(p.nodes.any fun d=>d.var_==v)then some true else none) (rest:=some false) (fun j p nx hj=>?_) (fun nx=>?_) (n:=n) (by omega)).trans ?_
  ·have hjk:=qbl hj
   rw[hlen]at hjk;have hj2:a[j]? =some p:=by rw[List.getElem?_take,if_pos hjk]at hj; exact hj
   simp only[qjy,qa5 hjk,kct];rw[inner j p nx hj2,qz5]
  ·rw[hlen]
   simp only[qjy,qar,kcf]
  rw[q0j,qz5];cases(a.take k).any fun p=>p.nodes.any fun d=>d.var_==v<;>rfl
 refine(qc4 (B:=ql6 n names v (k:Int) a) (fun j=>((j:Nat):Int)) (l:=names) (fun x=>bif x==v then some true else none) (rest:=some ((a.take k).any fun p=>p.nodes.any fun d=>d.var_==v)) (fun j x nx hj=>?_) (fun nx=>?_) (n:=n) hl).trans ?_
 ·have hjl:=qbl hj
  simp only[ql6,qay,qa5 hjl,kct,qaj hj,qad];rw[qb7 (by omega),qz5]
 ·simp only[ql6,qay,qar,kcf]
  exact mid
 rw[q0j,qz5];unfold zgz;cases names.any (· == v)<;>rfl
theorem zbj {n:Nat} (hn:n<=1073741824) {cl:List qab} {i:Nat} {c:qab} (hc:cl[i]? =some c) {nm:List (List UInt8)×List Int×Int} (hN:qie n ⟨cl⟩ (i:Int)=some nm)
  (hw:c.kind=1->∀ p∈c.paths,p.nodes≠[]) (hp:c.paths.length<n) (hb:∀ p∈c.paths,p.nodes.length<n) (hB:nm.1.length<n) :
  qpu n ⟨cl⟩ (i:Int)=some (if c.kind=1 then qs5 (i:Int) nm.1 0 c.paths else[]):=by
 obtain⟨names,ks,e⟩:=nm;obtain⟨g,f,F,⟨G,H,⟨I,J,K,L,q,s⟩,t,u⟩,w,x,y,z,A,B,C,D,E⟩:=c;unfold qpu;simp only[qaj hc,qad,hN];simp only at hw hp hb hB;have hbd:=fun(k:Nat) (hk:k<=f.length) (v:List UInt8)=>zbl hn (c:=⟨g,f,F,⟨G,H,⟨I,J,K,L,q,s⟩,t,u⟩,w,x,y,z,A,B,C,D,E⟩) hk hp hb hB v;by_cases h1:g=1
 ·subst h1
  rw[if_pos rfl];have main:∀ (suf:List qa9) (k m:Nat) (acc:List qdj),(∀ j,suf[j]? =f[k+j]?)->k+suf.length=f.length->suf.length<m->acc.length<=k ->
    qam (qhu n f 1 F G H I J K L q s t u w x y z A B C D E names (i:Int)) m (acc,(k:Int))=some (acc++qs5 (i:Int) (names++(f.take k).flatMap q1p) k suf):=by
   intro suf
   induction suf with
   | nil=>
    intro k m acc hs hk hm ha;obtain⟨m,rfl⟩:=jk (by omega:m≠0);have:k=f.length:=by simpa using hk
    subst this;rw[qa1];simp only[qhu,qcp,qar,kcf,qs5,List.append_nil]
   | cons p suf ih=>
    intro k m acc hs hk hm ha;obtain⟨m,rfl⟩:=jk (by omega:m≠0);have hx:f[k]? =some p:=by have:=hs 0; simpa using this.symm
    have hkl:=qbl hx;have hne:=hw rfl p (qbf hx);have htake:names++(f.take (k+1)).flatMap q1p=(names++(f.take k).flatMap q1p)++q1p p:=by
     rw[List.take_succ,hx]; simp
    have hstep:∀ acc',acc'.length<=k+1->qam (qhu n f 1 F G H I J K L q s t u w x y z A B C D E names (i:Int)) m (acc',((k+1:Nat):Int))=some (acc'++qs5 (i:Int) ((names++(f.take k).flatMap q1p)++q1p p) (k+1) suf):=fun acc' ha'=>by
     rw[← htake];exact ih (k+1) m acc' (fun j=>by have:=hs (j+1); rw[show k+1+j=k+(j+1) by omega]; simpa using this) (by simp at hk; omega) (by simp at hm; omega) ha'
    rw[qa1];obtain⟨nodes,edges⟩:=p;cases nodes with
    | nil=>exact absurd rfl hne
    | cons d ds=>
     have hi0:idx (d::ds) (0:Int)=some d:=qaj (i:=0) rfl;simp only[qhu,qcp,qa5 hkl,kct,qaj hx,qad,hi0,qay,zsi,qo1,kbs];rw[hbd k (by omega) d.var_,zo1,qad,qb7 (by omega)];simp only[qs5,q56,zaf,znz];obtain⟨v,ls,ks,xs⟩:=d;cases ls with
     | nil=>
      simp only[decide_true,jq,kcf,kct,Bool.false_and,jv];rw[hstep acc (by omega)]
     | cons a ls=>
      have e1:decide ((a::ls)=[])=false:=by simp
      cases ks with
      | nil=>
       rw[e1];simp only[decide_true,jq,jp,kcf,kct,Bool.false_and,Bool.and_false,jv];rw[hstep acc (by omega)]
      | cons c ks=>
       have e2:decide ((c::ks)=[])=false:=by simp
       have ia:idx (a::ls) (0:Int)=some a:=qaj (i:=0) rfl;have ic:idx (c::ks) (0:Int)=some c:=qaj (i:=0) rfl;rw[e1,e2];simp only[jp,kct,kcf,Bool.true_and,ia,ic,qad,List.headD_cons];cases hv:(v==[])with
       | true=>
        simp only[jq,Bool.false_and,jp,kcf,kct];rw[qa0 (kdt (by rw[qej,jb]; simp only[ja,jc]; omega)),hstep _ (by simp; omega),jt]
       | false=>
        simp only[jp,Bool.true_and,kct,if_true];cases zgz names (f.take k) v with
        | true=>
         simp only[jq,kct,kcf,jv];rw[hstep acc (by omega)]
        | false=>
         simp only[jp,kct,kcf];rw[qa0 (kdt (by rw[qej,jb]; simp only[ja,jc]; omega)),hstep _ (by simp; omega),jt]
  have:=main f 0 n [] (by simp) (by simp) hp (by simp);simpa using this
 rw[if_neg h1];obtain⟨m,rfl⟩:=jk (by omega:n≠0);rw[qa1];simp only[qhu,qcp];have:(bif decide ((0:Int)<((f.length:Nat):Int))then g==(1:Int)else false)=false:=by
  rw[kbf.2 h1]; cases decide ((0:Int)<((f.length:Nat):Int))<;>rfl
 rw[this,kcf]
end W
end
section
open Go Ax
namespace W
def znk (out:List qao):List qdj:=match out.getLast? with|some s=>s.seeks|none=>[]
def zm1 (out:List qao) (k i:Int) (sk:List qdj):List qao:=
 match out.getLast? with
 | some s=>bif(k==1)&&(s.kind==1)then out.dropLast++[⟨s.kind,s.from_,i,s.seeks++sk⟩]else out++[⟨k,i,i,sk⟩]
 | none=>[⟨k,i,i,sk⟩]
theorem qx9 (k i:Int) (sk:List qdj):zm1 [] k i sk=[⟨k,i,i,sk⟩]:=rfl
theorem quz (l:List qao) (s:qao) (k i:Int) (sk:List qdj):zm1 (l++[s]) k i sk=bif(k==1)&&(s.kind==1)then l++[⟨s.kind,s.from_,i,s.seeks++sk⟩]else(l++[s])++[⟨k,i,i,sk⟩]:=by
 unfold zm1;rw[List.getLast?_concat];simp only[List.dropLast_concat]
theorem qlr (l:List qao) (s:qao):znk (l++[s])=s.seeks:=by unfold znk; rw[List.getLast?_concat]
theorem qp1 (out:List qao):out=[]\/∃ l s,out=l++[s]:=by
 by_cases h:out=[]
 ·exact .inl h
 exact .inr ⟨out.dropLast,out.getLast h,(List.dropLast_concat_getLast h).symm⟩
theorem qtn {A:Type} (l:List A) (s:A):(l++[s])[l.length]? =some s:=by simp
theorem q8b {A:Type} (l:List A) (s t:A):(l++[s]).set l.length t=l++[t]:=by
 induction l with
 | nil=>rfl
 | cons a l ih=>simp[ih]
theorem zaj {l:List qao} {s:qao} (h:l.length<=1073741824):qwb (kwr .i64 ((((l++[s]).length:Nat):Int) - 1))=some l.length:=by
 rw[qw3 (by omega) (by simp only[jb,ja,jc]; omega)];rw[show(((l++[s]).length:Nat):Int) - 1=((l.length:Nat):Int)from by simp];exact qkb _
theorem q5s (c:qab):qyw c=1\/qyw c=2\/qyw c=3:=by
 unfold qyw;split
 ·exact .inl rfl
 split
 ·exact .inr (.inr rfl)
 split
 ·exact .inr (.inl rfl)
 split
 ·exact .inr (.inl rfl)
 exact .inl rfl
def skS (may:Bool) (cl:List qab) (i:Nat) (c:qab):List qdj:=if c.kind=1 then qs5 (i:Int) (qhx may cl (i:Int)).1 0 c.paths else[]
def qor (may:Bool) (cl:List qab):List qao->Nat->List qab->List qao
 | out,_,[]=>out
 | out,i,c::cs=>qor may cl (zm1 out (qyw c) (i:Int) (skS may cl i c)) (i+1) cs
theorem zkl (may:Bool) (cl:List qab) (i:Nat) (c:qab):(skS may cl i c).length<=qda c:=by
 have h1:=qbi qiq q78 c.paths;have h2:c.paths.length<=qda c:=by unfold qda qwa; omega
 unfold skS;split
 ·have:=zij (i:Int) c.paths (qhx may cl (i:Int)).1 0; omega
 simp
theorem q7z (c:qab):c.items.length<=qda c/\c.order.length+c.skip.length+c.limit.length<=qda c/\c.paths.length<=qda c/\(c.paths.map fun p=>p.nodes.length).sum<=qda c/\∀ p∈c.paths,p.nodes.length<=qda c:=by
 have h1:=qbi qiq q78 c.paths;have h2:=qbi qta (fun p=>by unfold qta; omega) c.items
 have h3:=qbi qia (fun p=>by unfold qia; omega) c.order
 have h4:=qd3 c.skip;have h5:=qd3 c.limit;have hnd:∀ p:qa9,p.nodes.length<=qiq p:=fun p=>by
  have:=qbi qgu (fun d=>by unfold qgu; omega) p.nodes
  unfold qiq; omega
 have h6:(c.paths.map fun p=>p.nodes.length).sum<=(c.paths.map qiq).sum:=by
  induction c.paths with
  | nil=>simp
  | cons p l ih=>have:=hnd p; simp only[jl,jB]; omega
 refine⟨by unfold qda; omega,by unfold qda; omega,by unfold qda qwa; omega,by unfold qda qwa; omega,fun p hp=>?_⟩;have:=hnd p;have:=qbt qiq hp;unfold qda qwa; omega
section
variable {n:Nat} (hn:n<=1073741824) {cl:List qab} {may:Bool}
include hn
theorem zvl {x1:Int} {x2:List qa9} {x3:List qaa} {x4:Int} {x5:List UInt8} {x6:Int} {x7:Bool} {x8:Int} {x9:List UInt8} {x10:List Val} {x11:List (List UInt8)} {x12:List (List UInt8)} {x13:List qaa} {x14:List UInt8} {x15:List qbn} {x16:Bool} {x17:List qat} {x18 x19:List qaa} {x20:List qaf} {x21:List (List UInt8)} {x22:Bool}
  (at_:Nat) {names:List (List UInt8)} {sk:List qdj} (hs:qm7 n ⟨x1,x2,x3,⟨x4,x5,⟨x6,x7,x8,x9,x10,x11⟩,x12,x13⟩,x14,x15,x16,x17,x18,x19,x20,x21,x22⟩ (at_:Int) names=some sk) (hat:at_<1073741824) (l:List qao) (s:qao) (hl:l.length<1073741824) (tl:List qdj) (ht:tl.length=s.seeks.length) (hz:s.seeks.length+sk.length<2147483648)
  (nx:List qdj×List qao×Int->Option (List qao×Int)) :
  qj1 n x1 x2 x3 x4 x5 x6 x7 x8 x9 x10 x11 x12 x13 x14 x15 x16 x17 x18 x19 x20 x21 x22 (at_:Int) names nx (l++[s],tl) =
   nx (s.seeks++sk,l++[⟨s.kind,s.from_,s.to,s.seeks++sk⟩],((at_+1:Nat):Int)):=by
 obtain⟨s1,s2,s3,s4⟩:=s;simp only at ht hz;have h1:decide (l.length<(l++[(⟨s1,s2,s3,s4⟩:qao)]).length)=true:=kdt (by simp);have h2:decide (l.length+1=(l++[(⟨s1,s2,s3,s4⟩:qao)]).length)=true:=kdt (by simp);unfold qj1;simp only[qdn,qej];rw[zaj (by omega),qad,qa0 h1,qtn,qad,qa0 h2,qa0 (kdt ht),hs,qad,qa0 (kdt (by simp only[jb]; omega)),qa0 h2,qad,q8b,qb7 (by omega)]
omit hn in
theorem ztn (c:qab):kwr .i64 (1+(qyw c - 1))=qyw c:=by
 rcases q5s c with h|h|h<;>rw[h]<;>rfl
omit hn in
theorem zwj {l:List qao} {s:qao} (h:l.length<1073741824):decide ((l++[s]).length * 48<=140737488355328)=true:=kdt (by rw[jb]; simp only[ja,jc]; omega)
omit hn in
theorem zk9 {A:Type} [Inhabited A] (a:A) (f:A->Option (List qao×Int)):bnd (qaw true (some a)) f=f a:=rfl
theorem zqd (hN:∀ i,i<cl.length->∃ nm:List (List UInt8)×List Int,qi8 n ⟨cl⟩ (i:Int)=some (qhx may cl (i:Int))/\qhx may cl (i:Int)=(nm.1,nm.2,0)/\nm.1.length<=2 * qca cl) (hw:∀ c∈cl,c.kind=1->∀ p∈c.paths,p.nodes≠[]) (h:8 * qca cl+8<n) :
  ∀ (suf:List qab) (k m:Nat) (out:List qao),(∀ j,suf[j]? =cl[k+j]?)->k+suf.length=cl.length->suf.length<m->out.length<=k->(znk out).length+(suf.map qda).sum<=qca cl ->
   qam (qhv n cl) m (znk out,out,(k:Int))=some (qor may cl out k suf,0):=by
 intro suf;have hlen:=qbi qda qj9 cl;have hcb:(cl.map qda).sum=qca cl:=rfl
 induction suf with
 | nil=>
  intro k m out hs hk hm ho hz;obtain⟨m,rfl⟩:=jk (by omega:m≠0);have:k=cl.length:=by simpa using hk
  subst this;rw[qa1];simp only[qhv,qbx,qar,kcf,qor]
 | cons c suf ih=>
  intro k m out hs hk hm ho hz;obtain⟨m,rfl⟩:=jk (by omega:m≠0);have hx:cl[k]? =some c:=by have:=hs 0; simpa using this.symm
  have hkl:=qbl hx;have hcm:=qbf hx;have hcz:qda c<=qca cl:=by rw[← hcb]; exact qbt qda hcm
  obtain⟨z1,z2,z3,z4,z5⟩:=q7z c;simp only[jl,jB]at hz;obtain⟨⟨ns,ks⟩,hn1,hn2,hn3⟩:=hN k hkl;simp only at hn2 hn3;have hsk0:=zkl may cl k c;have hseek:qm7 n c (k:Int) ns=some (skS may cl k c):=by
   rw[q8z hn (k:Int) (hw c hcm) (by omega) (fun p hp=>by have:=z5 p hp; omega) (by omega)]
   unfold skS;rw[hn2]
  have hneed:=q8x hn (c:=c) (by omega) (by omega);have hnext:∀ out',out'.length<=k+1->(znk out').length+(suf.map qda).sum<=qca cl->qam (qhv n cl) m (znk out',out',((k+1:Nat):Int))=some (qor may cl out' (k+1) suf,0):=fun out' ho' hz'=>
   ih (k+1) m out' (fun j=>by have:=hs (j+1); rw[show k+1+j=k+(j+1) by omega]; simpa using this) (by simp at hk; omega) (by simp at hm; omega) ho' hz'
  have hfin:∀ (l:List qao) (s:qao) (tl:List qdj) (nx:List qdj×List qao×Int->Option (List qao×Int)),True:=fun _ _ _ _=>trivial
  rw[qa1];have hpl:qor may cl out k (c::suf)=qor may cl (zm1 out (qyw c) (k:Int) (skS may cl k c)) (k+1) suf:=rfl;rw[hpl];have hk3:=fun(l:List qao) (s:qao) (hl:l.length<1073741824) (tl:List qdj) (ht:tl.length=s.seeks.length) (hz:s.seeks.length+(skS may cl k c).length<2147483648) nx=>
   (fun{x1 x2 x3 x4 x5 x6 x7 x8 x9 x10 x11 x12 x13 x14 x15 x16 x17 x18 x19 x20 x21 x22} hs=>zvl (n:=n) hn (x1:=x1) (x2:=x2) (x3:=x3) (x4:=x4) (x5:=x5) (x6:=x6) (x7:=x7) (x8:=x8) (x9:=x9) (x10:=x10) (x11:=x11) (x12:=x12) (x13:=x13) (x14:=x14) (x15:=x15) (x16:=x16) (x17:=x17) (x18:=x18) (x19:=x19) (x20:=x20) (x21:=x21) (x22:=x22) k (names:=ns) (sk:=skS may cl k c) hs (by omega) l s hl tl ht hz nx)
  have hwk:=ztn c;have hrng:=q5s c;generalize hK:qyw c=K at *;generalize hS:skS may cl k c=S at *;clear hK hS;obtain⟨x1,x2,x3,⟨x4,x5,⟨x6,x7,x8,x9,x10,x11⟩,x12,x13⟩,x14,x15,x16,x17,x18,x19,x20,x21,x22⟩:=c;simp only[qhv,qbx,qa5 hkl,kct,qaj hx,qad,hn1,hn2,qdn,hneed,hwk];rw[show((0:Int) != 0)=false from rfl,kcf];have hpush:chk (decide ((out++[(⟨K,(k:Int),(k:Int),[]⟩:qao)]).length * 48<=140737488355328)) (qj1 n x1 x2 x3 x4 x5 x6 x7 x8 x9 x10 x11 x12 x13 x14 x15 x16 x17 x18 x19 x20 x21 x22 (k:Int) ns (qam (qhv n cl) m) (out++[⟨K,(k:Int),(k:Int),[]⟩],[]))=some (qor may cl (out++[⟨K,(k:Int),(k:Int),S⟩]) (k+1) suf,0):=by
   rw[qa0 (zwj (by omega)),hk3 out ⟨K,(k:Int),(k:Int),[]⟩ (by omega) [] rfl (by simp; omega) _ hseek];simp only[jv];have:=hnext (out++[⟨K,(k:Int),(k:Int),S⟩]) (by rw[jb]; simp only[ja,jc]; omega) (by rw[qlr]; simp only; omega);rw[qlr]at this;exact this
  rcases qp1 out with rfl|⟨l,s,rfl⟩
  ·rw[qx9]
   have hg:(bif(K - 1==(0:Int))then decide ((((([]:List qao).length):Nat):Int)>(0:Int))else false)=false:=by cases(K - 1==(0:Int))<;>rfl
   rw[hg];simp only[qaw,kcf,qad];exact hpush
  rw[quz];rw[qlr]at hz;have hll:(l++[s]).length=l.length+1:=by simp
  have hpos:decide ((((l++[s]).length:Nat):Int)>0)=true:=kdt (by rw[hll]; omega);rw[hpos];by_cases hk1:K=1
  ·subst hk1
   rw[show((1:Int) - 1==0)=true from rfl,kct,zaj (by omega),zk9];rw[qa0 (by rw[kct]; exact kdt (by rw[hll]; omega)),qtn,zk9];simp only[kct];rw[show((1:Int)==1)=true from rfl,Bool.true_and];cases hsk:(s.kind==1)with
   | true=>
    obtain⟨s1,s2,s3,s4⟩:=s;simp only at hsk hz;simp only[hsk,kct,qad];rw[qa0 (kdt (by rw[hll]; omega)),qtn];simp only[qad,q8b,qlr];rw[hk3 l ⟨s1,s2,(k:Int),s4⟩ (by omega) s4 rfl (by simp only; omega) _ hseek];have:=hnext (l++[⟨s1,s2,(k:Int),s4++S⟩]) (by rw[jb]; simp only[ja,jc]; omega) (by rw[qlr]; simp only[jb]; omega);rw[qlr]at this;exact this
   | false=>
    obtain⟨s1,s2,s3,s4⟩:=s;simp only at hsk;simp only[hsk,kcf];exact hpush
  have hg:(K - 1==(0:Int))=false:=by rw[kbf]; omega
  rw[hg];simp only[qaw,kcf,qad];rw[show((K==1)=false)from by rw[kbf]; exact hk1];simp only[Bool.false_and,kcf];exact hpush
end
end W
end
section
open Go Ax
namespace W
section
variable {n:Nat} (hn:n<=1073741824) {cl:List qab} {may:Bool}
include hn
theorem zwv (at_:Nat) {sk:List qdj} (hs:qpu n ⟨cl⟩ (at_:Int)=some sk) (hat:at_<1073741824) (l:List qao) (s:qao) (hl:l.length<1073741824) (tl:List qdj) (ht:tl.length=s.seeks.length) (hz:s.seeks.length+sk.length<2147483648)
  (nx:List qdj×List qao×Int->Option (List qao×Int)) :
  qk9 n cl (at_:Int) nx (((l.length+1:Nat):Int),l++[s],tl)=nx (s.seeks++sk,l++[⟨s.kind,s.from_,(at_:Int),s.seeks++sk⟩],((at_+1:Nat):Int)):=by
 obtain⟨s1,s2,s3,s4⟩:=s;simp only at ht hz;have hn1:qwb (kwr .i64 (((l.length+1:Nat):Int) - 1))=some l.length:=by
  rw[qw3 (by omega) (by omega),show((l.length+1:Nat):Int) - 1=((l.length:Nat):Int)from by simp];exact qkb _
 have h1:∀ s:qao,decide (l.length<(l++[s]).length)=true:=fun s=>kdt (by simp)
 have h2:∀ s:qao,decide (l.length+1=(l++[s]).length)=true:=fun s=>kdt (by simp)
 unfold qk9;simp only[qdn,qej];rw[hn1,qad,qa0 (h1 _),qtn,qad,hs,qad,qad,qa0 (h1 _)];simp only[q8b];rw[qtn,qad,qa0 (h2 _),qa0 (kdt ht),qa0 (kdt (by simp only[jb]; omega)),qad,qa0 (h1 _),qa0 (h2 _),qtn,qb7 (by omega)];simp only[qad,q8b]
theorem zsy (hN:∀ i,i<cl.length->∃ nm:List (List UInt8)×List Int,qie n ⟨cl⟩ (i:Int)=some (qhx may cl (i:Int))/\qhx may cl (i:Int)=(nm.1,nm.2,0)/\nm.1.length<=2 * qca cl) (hw:∀ c∈cl,c.kind=1->∀ p∈c.paths,p.nodes≠[]) (h:8 * qca cl+8<n) :
  ∀ (suf:List qab) (k m:Nat) (out:List qao),(∀ j,suf[j]? =cl[k+j]?)->k+suf.length=cl.length->suf.length<m->out.length<=k->(znk out).length+(suf.map qda).sum<=qca cl ->
   qam (qi7 n cl) m (znk out,out,(k:Int))=some (qor may cl out k suf,0):=by
 intro suf;have hlen:=qbi qda qj9 cl;have hcb:(cl.map qda).sum=qca cl:=rfl
 induction suf with
 | nil=>
  intro k m out hs hk hm ho hz;obtain⟨m,rfl⟩:=jk (by omega:m≠0);have:k=cl.length:=by simpa using hk
  subst this;rw[qa1];simp only[qi7,qbx,qar,kcf,qor]
 | cons c suf ih=>
  intro k m out hs hk hm ho hz;obtain⟨m,rfl⟩:=jk (by omega:m≠0);have hx:cl[k]? =some c:=by have:=hs 0; simpa using this.symm
  have hkl:=qbl hx;have hcm:=qbf hx;have hcz:qda c<=qca cl:=by rw[← hcb]; exact qbt qda hcm
  obtain⟨z1,z2,z3,z4,z5⟩:=q7z c;simp only[jl,jB]at hz;obtain⟨⟨ns,ks⟩,hn1,hn2,hn3⟩:=hN k hkl;simp only at hn2 hn3;have hsk0:=zkl may cl k c;have hseek:qpu n ⟨cl⟩ (k:Int)=some (skS may cl k c):=by
   rw[zbj hn hx hn1 (hw c hcm) (by omega) (fun p hp=>by have:=z5 p hp; omega) (by rw[hn2]; simp only; omega)]
   rfl
  have hkind:=zd5 hn (c:=c) (by omega);have hnext:∀ out',out'.length<=k+1->(znk out').length+(suf.map qda).sum<=qca cl->qam (qi7 n cl) m (znk out',out',((k+1:Nat):Int))=some (qor may cl out' (k+1) suf,0):=fun out' ho' hz'=>
   ih (k+1) m out' (fun j=>by have:=hs (j+1); rw[show k+1+j=k+(j+1) by omega]; simpa using this) (by simp at hk; omega) (by simp at hm; omega) ho' hz'
  rw[qa1];have hpl:qor may cl out k (c::suf)=qor may cl (zm1 out (qyw c) (k:Int) (skS may cl k c)) (k+1) suf:=rfl;rw[hpl];have hk3:=fun(l:List qao) (s:qao) (hl:l.length<1073741824) (tl:List qdj) (ht:tl.length=s.seeks.length) (hz:s.seeks.length+(skS may cl k c).length<2147483648) nx=>zwv (n:=n) hn k (cl:=cl) (sk:=skS may cl k c) hseek (by omega) l s hl tl ht hz nx;generalize hK:qyw c=K at *;generalize hS:skS may cl k c=S at *;clear hK hS;obtain⟨x1,x2,x3,⟨x4,x5,⟨x6,x7,x8,x9,x10,x11⟩,x12,x13⟩,x14,x15,x16,x17,x18,x19,x20,x21,x22⟩:=c;simp only[qi7,qbx,qa5 hkl,kct,qaj hx,qad,qdn,hkind];have hpush:chk (decide ((out++[(⟨K,(k:Int),(0:Int),[]⟩:qao)]).length * 48<=140737488355328)) (qk9 n cl (k:Int) (qam (qi7 n cl) m) (kwr .i64 (((out.length:Nat):Int)+1),out++[⟨K,(k:Int),(0:Int),[]⟩],[]))=some (qor may cl (out++[⟨K,(k:Int),(k:Int),S⟩]) (k+1) suf,0):=by
   rw[qa0 (zwj (by omega)),qb7 (by omega),hk3 out ⟨K,(k:Int),(0:Int),[]⟩ (by omega) [] rfl (by simp; omega) _];simp only[jv];have:=hnext (out++[⟨K,(k:Int),(k:Int),S⟩]) (by rw[jb]; simp only[ja,jc]; omega) (by rw[qlr]; simp only; omega);rw[qlr]at this;exact this
  rcases qp1 out with rfl|⟨l,s,rfl⟩
  ·rw[qx9]
   have hg:(bif(K != (1:Int))then true else((((([]:List qao).length):Nat):Int)==(0:Int)))=true:=by cases(K != (1:Int))<;>rfl
   rw[hg];simp only[jq,qaw,kcf,kct,qad];exact hpush
  rw[quz];rw[qlr]at hz;have hll:(l++[s]).length=l.length+1:=by simp
  have hpos:((((l++[s]).length:Nat):Int)==0)=false:=by rw[kbf,hll]; omega
  rw[hpos];by_cases hk1:K=1
  ·subst hk1
   rw[show((1:Int) != 1)=false from rfl,kcf,jp,zaj (by omega),zk9];rw[qa0 (by rw[kct]; exact kdt (by rw[hll]; omega)),qtn,zk9];simp only[kcf];rw[show((1:Int)==1)=true from rfl,Bool.true_and];cases hsk:(s.kind==1)with
   | true=>
    obtain⟨s1,s2,s3,s4⟩:=s;simp only at hsk hz;have hsk':(s1 != 1)=false:=by unfold bne; rw[hsk]; rfl
    simp only[hsk',kcf,kct];rw[hll,qlr,hk3 l ⟨s1,s2,s3,s4⟩ (by omega) s4 rfl (by simp only; omega) _];have:=hnext (l++[⟨s1,s2,(k:Int),s4++S⟩]) (by rw[jb]; simp only[ja,jc]; omega) (by rw[qlr]; simp only[jb]; omega);rw[qlr]at this;exact this
   | false=>
    obtain⟨s1,s2,s3,s4⟩:=s;simp only at hsk;have hsk':(s1 != 1)=true:=by unfold bne; rw[hsk]; rfl
    simp only[hsk',kct,kcf];exact hpush
  have hg:(K != (1:Int))=true:=by rw[bne_iff_ne]; omega
  rw[hg];simp only[jq,qaw,kcf,kct,qad];rw[show((K==1)=false)from by rw[kbf]; exact hk1];simp only[Bool.false_and,kcf];exact hpush
end
theorem zcz {A R T:Type} (F:T->A->R ⊕ T):∀ (l:List A) (t v:T),qfs F t l=.inr v->∀ i,∃ u,qfs F t (l.take i)=.inr u
 | [],t,v,h,i=>⟨t,by simp[qfs]⟩
 | a::l,t,v,h,0=>⟨t,rfl⟩
 | a::l,t,v,h,i+1=>by
  simp only[qfs,List.take_succ_cons]at h ⊢;cases hF:F t a with
  | inl r=>rw[hF]at h; cases h
  | inr t'=>rw[hF]at h; exact zcz F l t' v h i
theorem zai {may:Bool} {cl:List qab} (e:(qsp may cl).2=0):may=true/\∀ i,i<=cl.length->∃ nm:List (List UInt8)×List Int,qhx may cl (i:Int)=(nm.1,nm.2,0):=by
 have e2:(qhx may cl cl.length).2.2=0:=by
  unfold qsp at e;simp only at e;split at e
  ·rename_i h; exact h.1
  exact e
 unfold qhx at e2;by_cases hm:may=true
 ·subst hm
  refine⟨rfl,fun i hi=>?_⟩;rw[if_neg (by simp only[jR,false_or,not_or]; omega),jV,List.take_length]at e2;have hne:∀ (l:List qab) (t:Env) (e:Int),qfs qq6 t l=.inl e->e≠0:=by
   intro l
   induction l with
   | nil=>intro t e h; cases h
   | cons c l ih=>
    intro t e h;simp only[qfs]at h;cases hc:qq6 t c with
    | inl r=>
     rw[hc]at h;cases h;unfold qq6 at hc;split at hc
     ·rename_i h0; cases hc; exact h0
     cases hc
    | inr t'=>rw[hc]at h; exact ih t' e h
  cases hf:qfs qq6 [] cl with
  | inl r=>rw[hf]at e2; exact absurd e2 (hne cl [] r hf)
  | inr v=>
   obtain⟨u,hu⟩:=zcz qq6 cl [] v hf i;refine⟨(u.map (·.1),u.map (·.2)),?_⟩
   unfold qhx;rw[if_neg (by simp only[jR,false_or,not_or]; omega),jV,hu]
 simp only[Bool.not_eq_true]at hm;subst hm;rw[if_pos (.inl rfl)]at e2;exact absurd e2 (by decide)
def qux (may:Bool) (cl:List qab):List qao×Int:=if(qsp may cl).2=0 then(qor may cl [] 0 cl,0)else([],(qsp may cl).2)
section
variable {n:Nat} (hn:n<=1073741824) {cl:List qab} (h:8 * qca cl+400<n) (hM:∀ c∈cl,LenOk c)
include hn h hM
theorem qz7:qj0 n ⟨cl⟩=some (qux (q4v n cl) cl)/\qwr n ⟨cl⟩=some (qux (q4v n cl) cl):=by
 obtain⟨c1,c2⟩:=zl7 hn h hM;have hlen:=qbi qda qj9 cl;have hcb:(cl.map qda).sum=qca cl:=rfl;have hwf:=zag hn (by omega) hM;have hnl:=fun at_=>(zhz hwf at_).1;have hNB:=fun at_=>q5z hn h hM at_
 generalize hmay:q4v n cl=may at *;unfold qj0 qwr qux;simp only[c1,c2];cases hc:qsp may cl with
 | mk a e=>
  simp only[qad];by_cases he:e=0
  ·subst he
   rw[if_pos rfl,show((0:Int) != 0)=false from rfl];simp only[kcf];obtain⟨hm,hnm⟩:=zai (may:=may) (cl:=cl) (by rw[hc]);have hw:∀ c∈cl,c.kind=1->∀ p∈c.paths,p.nodes≠[]:=fun c hcm _ p hp e=>by
    have:=((hwf hm c hcm).paths p hp).len;rw[e]at this;simp at this
   refine⟨?_,?_⟩
   ·exact zqd hn (fun i hi=>by obtain⟨nm,h1⟩:=hnm i (by omega); refine⟨nm,(hNB i).1,h1,?_⟩; have:=hnl (i:Int); rw[h1]at this; exact this) hw (by omega) cl 0 n [] (by simp) (by simp) (by omega) (by simp) (by rw[hcb]; simp[znk])
   exact zsy hn (fun i hi=>by obtain⟨nm,h1⟩:=hnm i (by omega); refine⟨nm,(hNB i).2,h1,?_⟩; have:=hnl (i:Int); rw[h1]at this; exact this) hw (by omega) cl 0 n [] (by simp) (by simp) (by omega) (by simp) (by rw[hcb]; simp[znk])
  rw[if_neg he,show(e != 0)=true from bne_iff_ne.2 he];exact⟨rfl,rfl⟩
end
end W
end
section
open Go Ax
namespace W
def nm (s:List UInt8):List UInt8:=if s=[]then[]else s++[95,55]
structure RenOk (f:Env->Env):Prop where
 kind:∀ v s,qcr (f v) (nm s)=qcr v s
 wth:∀ v s k,qmr (f v) (nm s) k=f (qmr v s k)
section
variable {f:Env->Env} (hf:RenOk f)
include hf
end
def rr (f:Env->Env) (r:Int×Env):Int×Env:=(r.1,f r.2)
section
variable {f:Env->Env} (hf:RenOk f)
include hf
end
section
variable {f:Env->Env} (hf:RenOk f)
include hf
end
end W
end
section
open Go Ax
namespace W
end W
end
section
open Go Ax
namespace W
section
variable {P:List UInt8->Prop}
end
section
variable {n:Nat} (hn:n<=1073741824) {cl:List qab} (h:32 * qca cl+2000<n) (hM:∀ c∈cl,LenOk c)
include hn h hM
end
end W
end
section
open Go Ax
namespace W
theorem ztm (m:Nat):qes (m+400)=some true:=by kernel_rfl
theorem qyd {n:Nat} (h:400<=n):qes n=some true:=by
 obtain⟨m,rfl⟩:=Nat.exists_eq_add_of_le h;rw[Nat.add_comm]; exact ztm m
theorem zih {n:Nat} (hn:n<=1073741824) {a:List qao} (h:a.length<n) (hs:∀ s∈a,s.seeks.length<n):qtv n a a=some true:=by
 unfold qtv;simp only[qdn,bne_self_eq_false,kcf];refine qj4 (B:=qnx n a a) (fun k=>((k:Nat):Int)) a.length (r:=some true) (fun k hk nx=>?_) (fun nx=>by simp only[qnx,qdn,qar,kcf]) h
 have hx:=jf hk;have hs1:=hs _ (List.getElem_mem hk);generalize a[k]=s at hx hs1;obtain⟨s1,s2,s3,s4⟩:=s;simp only at hs1;simp only[qnx,qdn,qa5 hk,kct,qaj hx,qad,bne_self_eq_false,jp,qc3,kcf,qej];refine qj4 (B:=qny n a (k:Int) a nx) (fun j=>((j:Nat):Int)) s4.length (r:=nx ((k+1:Nat):Int)) (fun j hj nx2=>?_) (fun nx2=>?_) hs1
 ·have hy:=jf hj
  generalize s4[j]=y at hy;obtain⟨y1,y2,y3,y4⟩:=y;simp only[qny,qaj hx,qad,qej,qa5 hj,kct,qaj hy,kbs,jq,kcf];rw[qb7 (by omega)]
 simp only[qny,qaj hx,qad,qej,qar,kcf];rw[qb7 (by omega)]
theorem ztd (out:List qao) (k i:Int) (sk:List qdj):(zm1 out k i sk).length<=out.length+1:=by
 rcases qp1 out with rfl|⟨l,s,rfl⟩
 ·simp[qx9]
 rw[quz];cases(k==1)&&(s.kind==1)<;>simp
def q7v (l:List qao):Nat:=(l.map fun s=>s.seeks.length).sum
theorem zm2 (out:List qao) (k i:Int) (sk:List qdj):q7v (zm1 out k i sk)=q7v out+sk.length:=by
 rcases qp1 out with rfl|⟨l,s,rfl⟩
 ·simp[qx9,q7v]
 rw[quz];unfold q7v;cases(k==1)&&(s.kind==1)<;>simp<;>omega
theorem q51 (may:Bool) (cl:List qab):∀ (suf:List qab) (out:List qao) (i:Nat),(qor may cl out i suf).length<=out.length+suf.length/\q7v (qor may cl out i suf)<=q7v out+(suf.map qda).sum
 | [],out,i=>by simp[qor]
 | c::suf,out,i=>by
  obtain⟨h1,h2⟩:=q51 may cl suf (zm1 out (qyw c) (i:Int) (skS may cl i c)) (i+1);have h3:=ztd out (qyw c) (i:Int) (skS may cl i c);have h4:=zm2 out (qyw c) (i:Int) (skS may cl i c);have h5:=zkl may cl i c;simp only[qor,ja,jl,jB];exact⟨by omega,by omega⟩
theorem q0p (may:Bool) (cl:List qab):(qux may cl).1.length<=qca cl/\q7v (qux may cl).1<=qca cl/\∀ s∈(qux may cl).1,s.seeks.length<=qca cl:=by
 have hlen:=qbi qda qj9 cl;have hcb:(cl.map qda).sum=qca cl:=rfl;have key:(qux may cl).1.length<=qca cl/\q7v (qux may cl).1<=qca cl:=by
  unfold qux;split
  ·obtain⟨h1,h2⟩:=q51 may cl cl [] 0
   have h0:q7v []=0:=rfl;rw[h0]at h2;simp only[jc]at h1;show(qor may cl [] 0 cl).length<=qca cl/\q7v (qor may cl [] 0 cl)<=qca cl;exact⟨by omega,by omega⟩
  simp[q7v]
 refine⟨key.1,key.2,fun s hs=>?_⟩;have:=qbt (fun s:qao=>s.seeks.length) hs
 have h2:=key.2;unfold q7v at h2;exact Nat.le_trans this h2
section
variable {n:Nat} (hn:n<=1073741824) {cl:List qab} (h:32 * qca cl+2000<n) (hM:∀ c∈cl,LenOk c)
include hn h hM
end
end W
end
section
open Go Ax
namespace W
inductive Cov (cl:List qab):List qao->Nat->Prop where
 | nil:Cov cl [] 0
 | snoc {l:List qao} {s:qao} {a e:Nat} (h:Cov cl l a) (h1:s.from_=(a:Int)) (h2:s.to=(e:Int)) (h3:a<=e) (h4:s.kind≠1->e=a) (h5:∀ s',l.getLast? =some s'->¬ (s'.kind=1/\s.kind=1))
   (h6:∀ j,a<=j->j<=e->∃ c,cl[j]? =some c/\qyw c=s.kind):Cov cl (l++[s]) (e+1)
theorem Cov.last {cl:List qab} {out:List qao} {k:Nat} (h:Cov cl out k):(k:Int)=match out.getLast? with|none=>0|some s=>s.to+1:=by
 cases h with
 | nil=>rfl
 | snoc h h1 h2 h3 h4 h5 h6=>rw[List.getLast?_concat]; simp only; omega
theorem Cov.one {cl:List qab} {out:List qao} {a b:Nat} (h:Cov cl out a) (h':Cov cl out b):a=b:=by
 have h1:=h.last;have h2:=h'.last;rw[← h2]at h1;omega
theorem Cov.step {cl:List qab} {out:List qao} {k:Nat} (h:Cov cl out k) {c:qab} (hc:cl[k]? =some c) (sk:List qdj):Cov cl (zm1 out (qyw c) (k:Int) sk) (k+1):=by
 have hone:∀ j,k<=j->j<=k->∃ c',cl[j]? =some c'/\qyw c'=qyw c:=fun j h1 h2=>by
  obtain rfl:j=k:=by omega
  exact⟨c,hc,rfl⟩
 rcases qp1 out with rfl|⟨l,s,rfl⟩
 ·rw[qx9]
  exact Cov.snoc (l:=[]) (s:=⟨qyw c,(k:Int),(k:Int),sk⟩) h rfl rfl (jx _) (fun _=>rfl) (fun s' h=>by simp at h) hone
 rw[quz];cases hb:(qyw c==1)&&(s.kind==1)with
 | true=>
  simp only[jj,beq_iff_eq]at hb;obtain⟨hb1,hb2⟩:=hb;generalize ho:l++[s]=out at h;cases h with
  | nil=>exact absurd (congrArg List.length ho) (by simp)
  | snoc h0 h1 h2 h3 h4 h5 h6=>
   rename_i l' s' a e;have hl:l=l'/\s=s':=by
    have:=List.append_inj' ho rfl;exact⟨this.1,by simpa using this.2⟩
   obtain⟨rfl,rfl⟩:=hl;rw[kct];refine Cov.snoc (l:=l) (s:=⟨s.kind,s.from_,((e+1:Nat):Int),s.seeks++sk⟩) h0 h1 rfl (by omega) (fun hne=>absurd hb2 hne) h5 (fun j hj1 hj2=>?_)
   by_cases hj:j<=e
   ·exact h6 j hj1 hj
   obtain rfl:j=e+1:=by omega
   exact⟨c,hc,by rw[hb1,hb2]⟩
 | false=>
  rw[kcf];refine Cov.snoc (l:=l++[s]) (s:=⟨qyw c,(k:Int),(k:Int),sk⟩) h rfl rfl (jx _) (fun _=>rfl) (fun s' hs'=>?_) hone
  rw[List.getLast?_concat]at hs';cases hs';rintro⟨h1,h2⟩;simp only at h2;rw[h1,h2]at hb;cases hb
theorem Cov.fold {may:Bool} {cl:List qab}:∀ (suf:List qab) (k:Nat) (out:List qao),(∀ j,suf[j]? =cl[k+j]?)->Cov cl out k->Cov cl (qor may cl out k suf) (k+suf.length)
 | [],k,out,_,h=>h
 | c::suf,k,out,hs,h=>by
  have hc:cl[k]? =some c:=by have:=hs 0; simpa using this.symm
  have:=Cov.fold (may:=may) suf (k+1) _ (fun j=>by have:=hs (j+1); rw[show k+1+j=k+(j+1) by omega]; simpa using this) (h.step hc (skS may cl k c))
  simp only[qor,ja];rw[show k+(suf.length+1)=k+1+suf.length by omega];exact this
theorem zkz (may:Bool) (cl:List qab):Cov cl (qor may cl [] 0 cl) cl.length:=by
 have:=Cov.fold (may:=may) (cl:=cl) cl 0 [] (by simp) Cov.nil;simpa using this
theorem Cov.at{cl:List qab} {out:List qao} {k:Nat} (h:Cov cl out k):∀ (i:Nat) (s:qao),out[i]? =some s->∃ a e,Cov cl (out.take i) a/\s.from_=((a:Nat):Int)/\s.to=((e:Nat):Int)/\a<=e/\(s.kind≠1->e=a) /\
  (∀ s',(out.take i).getLast? =some s'->¬ (s'.kind=1/\s.kind=1))/\(∀ j,a<=j->j<=e->∃ c,cl[j]? =some c/\qyw c=s.kind)/\Cov cl (out.take (i+1)) (e+1):=by
 induction h with
 | nil=>intro i s hs; simp at hs
 | snoc h h1 h2 h3 h4 h5 h6 ih=>
  rename_i l s0 a e;intro i s hs;by_cases hi:i<l.length
  ·rw[List.getElem?_append_left hi]at hs
   have:=ih i s hs;rw[List.take_append_of_le_length (by omega),List.take_append_of_le_length (by omega)];exact this
  have hil:i=l.length:=by
   have:=(List.getElem?_eq_some_iff.1 hs).1;simp at this;omega
  subst hil;rw[qtn]at hs;cases hs;refine⟨a,e,?_,h1,h2,h3,h4,?_,h6,?_⟩
  ·rw[jK]; exact h
  ·rw[jK]; exact h5
  rw[List.take_of_length_le (by simp)];exact Cov.snoc h h1 h2 h3 h4 h5 h6
section
variable {n:Nat} (hn:n<=1073741824) {cl:List qab}
include hn
end
section
variable {n:Nat} (hn:n<=1073741824) {cl:List qab} (h:8 * qca cl+400<n) (hM:∀ c∈cl,LenOk c)
include hn h hM
end
end W
end
section
open Go Ax
namespace W
def XOk (may:Bool) (cl:List qab) (lo hi:Int) (x:qdj):Prop:=
 ∃ (ci pi:Nat) (c:qab) (d:qae) (ds:List qae) (es:List qag),x.clause=(ci:Int)/\lo<=(ci:Int)/\(ci:Int)<=hi/\cl[ci]? =some c/\c.kind=1/\c.paths[pi]? =some ⟨d::ds,es⟩/\x.path=(pi:Int) /\
  x.label∈d.labels/\x.key∈d.keys/\(d.var_=[]\/(qhx may cl (ci:Int)).1.any (· == d.var_)=false)
def zw9 (x y:qdj):Prop:=¬ (x.clause=y.clause/\x.path=y.path)
def zul (may:Bool) (cl:List qab) (s:qao):Prop:=(∀ x∈s.seeks,XOk may cl s.from_ s.to x)/\s.seeks.Pairwise zw9
theorem zdi (at_:Int):∀ (ps:List qa9) (b:List (List UInt8)) (i:Nat),(∀ x∈qs5 at_ b i ps,∃ (j:Nat) (d:qae) (ds:List qae) (es:List qag),ps[j]? =some ⟨d::ds,es⟩/\x.clause=at_/\x.path=((i+j:Nat):Int)/\x.label∈d.labels/\x.key∈d.keys/\(d.var_=[]\/b.any (· == d.var_)=false)) /\
  (qs5 at_ b i ps).Pairwise zw9
 | [],_,_=>by simp[qs5]
 | p::ps,b,i=>by
  obtain⟨h1,h2⟩:=zdi at_ ps (b++q1p p) (i+1);have hone:∀ x∈q56 b at_ (i:Int) p,∃ (d:qae) (ds:List qae) (es:List qag),p=⟨d::ds,es⟩/\x.clause=at_/\x.path=(i:Int)/\x.label∈d.labels/\x.key∈d.keys/\(d.var_=[]\/b.any (· == d.var_)=false):=by
   intro x hx;obtain⟨nodes,edges⟩:=p;unfold q56 at hx;cases nodes with
   | nil=>simp at hx
   | cons d ds=>
    simp only at hx;cases hb:zaf b d with
    | false=>rw[hb]at hx; simp at hx
    | true=>
     rw[hb]at hx;simp only[kct,jA]at hx;subst hx;unfold zaf at hb;simp only[jj,Bool.not_eq_true',decide_eq_false_iff_not,Bool.and_eq_false_iff,Bool.not_eq_false']at hb;obtain⟨⟨hl,hk⟩,hv⟩:=hb;refine⟨d,ds,edges,rfl,rfl,rfl,?_,?_,?_⟩
     ·cases hd:d.labels with
      | nil=>exact absurd hd hl
      | cons a l=>simp
     ·cases hd:d.keys with
      | nil=>exact absurd hd hk
      | cons a l=>simp
     ·rcases hv with hv|hv
      ·exact .inl (by simpa using hv)
      exact .inr hv
  simp only[qs5];refine⟨fun x hx=>?_,?_⟩
  ·rcases jz.1 hx with hx|hx
   ·obtain⟨d,ds,es,rfl,a1,a2,a3,a4,a5⟩:=hone x hx
    exact⟨0,d,ds,es,rfl,a1,by simpa using a2,a3,a4,a5⟩
   obtain⟨j,d,ds,es,a0,a1,a2,a3,a4,a5⟩:=h1 x hx;refine⟨j+1,d,ds,es,by simpa using a0,a1,by rw[a2]; congr 1; omega,a3,a4,?_⟩;rcases a5 with a5|a5
   ·exact .inl a5
   rw[ka,kc]at a5;exact .inr a5.1
  rw[List.pairwise_append];refine⟨?_,h2,fun x hx y hy=>?_⟩
  ·have hlen:=zii b at_ (i:Int) p
   generalize q56 b at_ (i:Int) p=l at hlen
   match l,hlen with
   | [],_=>exact List.Pairwise.nil
   | [a],_=>exact List.pairwise_singleton _ _
  ·obtain⟨_,_,_,_,_,a2,_⟩:=hone x hx
   obtain⟨j,_,_,_,_,_,b2,_⟩:=h1 y hy;rintro⟨_,e⟩;rw[a2,b2]at e;omega
theorem zlx {may:Bool} {cl:List qab} {k:Nat} {c:qab} (hc:cl[k]? =some c) {lo:Int} (hlo:lo<=(k:Int)):(∀ x∈skS may cl k c,XOk may cl lo (k:Int) x/\x.clause=(k:Int))/\(skS may cl k c).Pairwise zw9:=by
 unfold skS;split
 ·rename_i h1
  obtain⟨a1,a2⟩:=zdi (k:Int) c.paths (qhx may cl (k:Int)).1 0;refine⟨fun x hx=>?_,a2⟩;obtain⟨j,d,ds,es,b0,b1,b2,b3,b4,b5⟩:=a1 x hx;exact⟨⟨k,j,c,d,ds,es,b1,hlo,Int.le_refl _,hc,h1,b0,by rw[b2]; simp,b3,b4,b5⟩,b1⟩
 exact⟨fun x hx=>by simp at hx,List.Pairwise.nil⟩
theorem zvt {may:Bool} {cl:List qab} {out:List qao} {k:Nat} (h:Cov cl out k) (hs:∀ s∈out,zul may cl s) {c:qab} (hc:cl[k]? =some c):∀ s∈zm1 out (qyw c) (k:Int) (skS may cl k c),zul may cl s:=by
 have hnew:zul may cl ⟨qyw c,(k:Int),(k:Int),skS may cl k c⟩:=by
  obtain⟨a1,a2⟩:=zlx (may:=may) hc (lo:=(k:Int)) (Int.le_refl _);exact⟨fun x hx=>(a1 x hx).1,a2⟩
 rcases qp1 out with rfl|⟨l,s,rfl⟩
 ·rw[qx9]
  intro s hs';obtain rfl:=jA.1 hs';exact hnew
 rw[quz];have hlast:=h.last;rw[List.getLast?_concat]at hlast;simp only at hlast;obtain⟨a,e,c1,c2,c3,c4,_⟩:=h.at l.length s (qtn l s);cases(qyw c==1)&&(s.kind==1)with
 | true=>
  rw[kct];intro s' hs';rcases jz.1 hs' with hs'|hs'
  ·exact hs s' (by simp[hs'])
  obtain rfl:=jA.1 hs';obtain⟨b1,b2⟩:=hs s (by simp);obtain⟨d1,d2⟩:=zlx (may:=may) hc (lo:=s.from_) (by omega);refine⟨fun x hx=>?_,?_⟩
  ·simp only at hx ⊢
   rcases jz.1 hx with hx|hx
   ·obtain⟨ci,pi,c',d,ds,es,e1,e2,e3,e4⟩:=b1 x hx
    exact⟨ci,pi,c',d,ds,es,e1,e2,by omega,e4⟩
   exact(d1 x hx).1
  simp only;rw[List.pairwise_append];refine⟨b2,d2,fun x hx y hy=>?_⟩;obtain⟨ci,_,_,_,_,_,e1,e2,e3,_⟩:=b1 x hx;have e4:=(d1 y hy).2;rintro⟨e5,_⟩;omega
 | false=>
  rw[kcf];intro s' hs';rcases jz.1 hs' with hs'|hs'
  ·exact hs s' hs'
  obtain rfl:=jA.1 hs';exact hnew
theorem zqz {may:Bool} {cl:List qab}:∀ (suf:List qab) (k:Nat) (out:List qao),(∀ j,suf[j]? =cl[k+j]?)->Cov cl out k->(∀ s∈out,zul may cl s)->∀ s∈qor may cl out k suf,zul may cl s
 | [],k,out,_,_,hs=>hs
 | c::suf,k,out,hsuf,h,hs=>by
  have hc:cl[k]? =some c:=by have:=hsuf 0; simpa using this.symm
  exact zqz suf (k+1) _ (fun j=>by have:=hsuf (j+1); rw[show k+1+j=k+(j+1) by omega]; simpa using this) (h.step hc (skS may cl k c)) (zvt h hs hc)
theorem zra (may:Bool) (cl:List qab):∀ s∈qor may cl [] 0 cl,zul may cl s:=zqz (may:=may) (cl:=cl) cl 0 [] (by simp) Cov.nil (fun s hs=>by simp at hs)
section
variable {n:Nat} (hn:n<=1073741824) {cl:List qab} {may:Bool}
include hn
end
section
variable {n:Nat} (hn:n<=1073741824) {cl:List qab} (h:8 * qca cl+400<n) (hM:∀ c∈cl,LenOk c)
include hn h hM
end
end W
end
section
open Go Go.Proofs Ax
namespace W
open Go.Proofs.YtmblnmgpmdapnaaGreat
theorem qij:∀ l:List qaa,qfz l=(l.map fun x=>qka x+1).sum+1
 | []=>rfl
 | x::l=>by simp only[qfz,jl,jB]; rw[qij l]; omega
theorem qin:∀ l:List Val,q1q l=(l.map fun x=>zax x+1).sum+1
 | []=>rfl
 | x::l=>by simp only[q1q,jl,jB]; rw[qin l]; omega
def zxo:qip->Nat
 | ⟨cl⟩=>qca cl
variable {Hd:Type} {enc:TypeId×Value->Hd} {w:World}
theorem q4j {H:PH}:∀ {a:List PV} {b:List PV} {x y:List Value},qdi H a x->qdi H b y->qdi H (a++b) (x++y)
 | [],_,x,_,h,h'=>by
  have:x=[]:=by simpa[qdi]using h
  subst this; exact h'
 | p::a,_,x,_,h,h'=>by
  simp only[qdi]at h;obtain⟨v,vs,rfl,h1,h2⟩:=h;simp only[List.cons_append,qdi];exact⟨_,_,rfl,h1,q4j h2 h'⟩
theorem qsq {H:PH} {a b:List PV} {cs:List Value} {o z:Nat} (h:qdi H a ((cs.drop o).take z)/\∀ u∈(cs.drop o).take z,u.oneCell'=true) (h':qdi H b (cs.drop (o+z))/\∀ u∈cs.drop (o+z),u.oneCell'=true) :
  qdi H (a++b) (cs.drop o)/\∀ u∈cs.drop o,u.oneCell'=true:=by
 have e:cs.drop o=(cs.drop o).take z++cs.drop (o+z):=by rw[← List.drop_drop,List.take_append_drop]
 refine⟨by rw[e]; exact q4j h.1 h'.1,fun u hu=>?_⟩;rw[e]at hu;rcases jz.1 hu with hu|hu
 ·exact h.2 u hu
 exact h'.2 u hu
theorem zma {H:PH} {cs:List Value} {z:Nat} (h:cs.length=z):qdi H [] (cs.drop z)/\∀ u∈cs.drop z,u.oneCell'=true:=by
 have:cs.drop z=[]:=List.drop_eq_nil_of_le (by omega);rw[this];exact⟨rfl,fun u hu=>by cases hu⟩
theorem q4n {α:Type} {sz:α->Nat}:∀ (l:List α) (elems:List (DataW Hd)),l.length=elems.length->(∀ (i:Nat) (d:DataW Hd) (v:α),elems[i]? =some d->l[i]? =some v->sz v<=Rows.uptoBulk d)->(l.map sz).sum<=Rows.uptoBulkAll elems
 | [],_,_,_=>jT _
 | v::l,[],h,_=>by simp at h
 | v::l,d::elems,h,hh=>by
  have:=q4n l elems (by simpa using h) fun i d v hd hv=>hh (i+1) d v (by simpa using hd) (by simpa using hv)
  have:=hh 0 d v rfl rfl;simp only[jl,jB,Rows.uptoBulkAll]; omega
theorem qmo {α:Type} [Inhabited α] {P:Program} {t e:TypeId} {z n:Nat} {row:α->List PV} {sz:α->Nat} {rws:List α->List (List PV)} (ht:P.underlying t=some (.slice e)) (hz:P.cellsOf e=z) (hz1:1<=z)
  (hrow:∀ v,(row v).length=z) (hr:∀ l,rws l=l.map row) (hel:∀ m,m<n->qeq enc P w e m row sz Rows.uptoBulk):qeq enc P w t n (fun l:List α=>[PV.sl (rws l)]) (fun l=>(l.map sz).sum+1) Rows.uptoBulk:=by
 intro cs x h;obtain⟨l,v,rfl,o,r,b⟩:=zdf ht hz hz1 hrow hel h;refine⟨l,?_,by simpa using o,?_⟩
 ·simp only[qdi]
  exact⟨_,_,rfl,by rw[hr]; exact r,rfl⟩
 rcases b with ⟨e,rfl⟩|⟨el,rest,e,hl,hb⟩
 ·rw[e]; simp[Rows.uptoBulk]
 rw[e];have:=q4n l el hl hb;simp only[Rows.uptoBulk]; omega
theorem rd3 (n:Nat):qeq (α:=Int) enc Tryz.prog w 3 n (fun i=>[PV.int .i64 i]) (fun _=>1) Rows.uptoBulk:=by
 intro cs x h;obtain⟨k,e,rfl,_⟩:=DataW.trod_int Tryz.underlying3 h;cases e;exact⟨k,by simp[qdi,qco],by simp[Value.oneCell'],by simp[Rows.uptoBulk]⟩
theorem rd4 (n:Nat):qeq (α:=Bool) enc Tryz.prog w 4 n (fun b=>[PV.bool b]) (fun _=>1) Rows.uptoBulk:=by
 intro cs x h;obtain⟨k,e,rfl⟩:=DataW.trod_bool Tryz.underlying4 h;cases e;exact⟨k,by simp[qdi,qco],by simp[Value.oneCell'],by simp[Rows.uptoBulk]⟩
theorem rd2 (n:Nat):qeq (α:=Int) enc Tryz.prog w 2 n (fun i=>[PV.int .i64 i]) (fun _=>1) Rows.uptoBulk:=by
 intro cs x h;obtain⟨k,e,rfl,_⟩:=DataW.trod_int Tryz.underlying2 h;cases e;exact⟨k,by simp[qdi,qco],by simp[Value.oneCell'],by simp[Rows.uptoBulk]⟩
theorem rd9 (n:Nat):qeq (α:=List UInt8) enc Tryz.prog w 9 n (fun s=>[PV.str s]) (fun s=>1+s.length) Rows.uptoBulk:=by
 intro cs x h;obtain⟨s,e,rfl,_⟩:=DataW.trod_string Tryz.underlying9 h;cases e;exact⟨s.data.toList,by simp[qdi,qco],by simp[Value.oneCell'],by simp[Rows.uptoBulk]; omega⟩
theorem zv7 (n:Nat):qeq (α:=List (List UInt8)) enc Tryz.prog w 42 n (fun l=>[PV.sl (qak l)]) (fun l=>(l.map (fun s=>1+s.length)).sum+1) Rows.uptoBulk:=
 qmo (α:=List UInt8) (z:=1) (rws:=qak) Tryz.underlying42 (by kernel_rfl) (by decide) (fun _=>rfl) (fun _=>rfl) (fun m hm=>rd9 m)
theorem zyt (n:Nat):qeq (α:=Val) enc Tryz.prog w 44 n (Val.cells) (fun x=>zax x+1) Rows.uptoBulk:=by
 induction n using Nat.strongRecOn with
 | ind n ih=>
 intro cs x h;obtain⟨xs,m,rfl,rfl,hcl,hxl,hf⟩:=DataW.trod_struct Tryz.underlying44 h;rw[show Tryz.prog.cellsOf 44=6 by kernel_rfl]at hcl;have hxl':xs.length=6:=hxl;obtain⟨y0,y1,y2,y3,y4,y5,rfl⟩:∃ y0 y1 y2 y3 y4 y5,xs=[y0,y1,y2,y3,y4,y5]:=by
  match xs,hxl' with
  | [y0,y1,y2,y3,y4,y5],_=>exact⟨y0,y1,y2,y3,y4,y5,rfl⟩
 have f0:=hf 0 _ rfl;change DataW.trod enc Tryz.prog w 0 _ true m 3 ((cs.drop 0).take (Tryz.prog.cellsOf 3))=some y0 at f0;rw[show Tryz.prog.cellsOf 3=1 by kernel_rfl]at f0;obtain⟨v0,r0,o0,b0⟩:=rd3 m _ _ f0;have f1:=hf 1 _ rfl;change DataW.trod enc Tryz.prog w 0 _ true m 4 ((cs.drop 1).take (Tryz.prog.cellsOf 4))=some y1 at f1;rw[show Tryz.prog.cellsOf 4=1 by kernel_rfl]at f1;obtain⟨v1,r1,o1,b1⟩:=rd4 m _ _ f1;have f2:=hf 2 _ rfl;change DataW.trod enc Tryz.prog w 0 _ true m 2 ((cs.drop 2).take (Tryz.prog.cellsOf 2))=some y2 at f2;rw[show Tryz.prog.cellsOf 2=1 by kernel_rfl]at f2;obtain⟨v2,r2,o2,b2⟩:=rd2 m _ _ f2;have f3:=hf 3 _ rfl;change DataW.trod enc Tryz.prog w 0 _ true m 9 ((cs.drop 3).take (Tryz.prog.cellsOf 9))=some y3 at f3;rw[show Tryz.prog.cellsOf 9=1 by kernel_rfl]at f3;obtain⟨v3,r3,o3,b3⟩:=rd9 m _ _ f3;have f4:=hf 4 _ rfl;change DataW.trod enc Tryz.prog w 0 _ true m 41 ((cs.drop 4).take (Tryz.prog.cellsOf 41))=some y4 at f4;rw[show Tryz.prog.cellsOf 41=1 by kernel_rfl]at f4;obtain⟨v4,r4,o4,b4⟩:=(qmo (α:=Val) (z:=6) (rws:=Val.rows) Tryz.underlying41 (by kernel_rfl) (by decide) (q6f) (rows_eq) (fun j hj=>ih j (Nat.lt_trans hj (Nat.lt_succ_self _)))) _ _ f4
 have f5:=hf 5 _ rfl;change DataW.trod enc Tryz.prog w 0 _ true m 42 ((cs.drop 5).take (Tryz.prog.cellsOf 42))=some y5 at f5;rw[show Tryz.prog.cellsOf 42=1 by kernel_rfl]at f5;obtain⟨v5,r5,o5,b5⟩:=zv7 m _ _ f5;have key:=qsq ⟨r0,o0⟩ (qsq ⟨r1,o1⟩ (qsq ⟨r2,o2⟩ (qsq ⟨r3,o3⟩ (qsq ⟨r4,o4⟩ (qsq ⟨r5,o5⟩ (zma hcl))))));rw[List.drop_zero]at key;refine⟨⟨v0,v1,v2,v3,v4,v5⟩,?_,key.2,?_⟩
 ·have key:=key.1
  exact key
 simp only[zax,Rows.uptoBulk,Rows.uptoBulkAll,jl,jO,qij,qin,qwe,qwa,qca];simp only[]at b0 b1 b2 b3 b4 b5;omega
theorem zwx (n:Nat):qeq (α:=qaa) enc Tryz.prog w 46 n (qaa.cells) (fun x=>qka x+1) Rows.uptoBulk:=by
 induction n using Nat.strongRecOn with
 | ind n ih=>
 intro cs x h;obtain⟨xs,m,rfl,rfl,hcl,hxl,hf⟩:=DataW.trod_struct Tryz.underlying46 h;rw[show Tryz.prog.cellsOf 46=10 by kernel_rfl]at hcl;have hxl':xs.length=5:=hxl;obtain⟨y0,y1,y2,y3,y4,rfl⟩:∃ y0 y1 y2 y3 y4,xs=[y0,y1,y2,y3,y4]:=by
  match xs,hxl' with
  | [y0,y1,y2,y3,y4],_=>exact⟨y0,y1,y2,y3,y4,rfl⟩
 have f0:=hf 0 _ rfl;change DataW.trod enc Tryz.prog w 0 _ true m 3 ((cs.drop 0).take (Tryz.prog.cellsOf 3))=some y0 at f0;rw[show Tryz.prog.cellsOf 3=1 by kernel_rfl]at f0;obtain⟨v0,r0,o0,b0⟩:=rd3 m _ _ f0;have f1:=hf 1 _ rfl;change DataW.trod enc Tryz.prog w 0 _ true m 9 ((cs.drop 1).take (Tryz.prog.cellsOf 9))=some y1 at f1;rw[show Tryz.prog.cellsOf 9=1 by kernel_rfl]at f1;obtain⟨v1,r1,o1,b1⟩:=rd9 m _ _ f1;have f2:=hf 2 _ rfl;change DataW.trod enc Tryz.prog w 0 _ true m 44 ((cs.drop 2).take (Tryz.prog.cellsOf 44))=some y2 at f2;rw[show Tryz.prog.cellsOf 44=6 by kernel_rfl]at f2;obtain⟨v2,r2,o2,b2⟩:=zyt m _ _ f2;have f3:=hf 3 _ rfl;change DataW.trod enc Tryz.prog w 0 _ true m 42 ((cs.drop 8).take (Tryz.prog.cellsOf 42))=some y3 at f3;rw[show Tryz.prog.cellsOf 42=1 by kernel_rfl]at f3;obtain⟨v3,r3,o3,b3⟩:=zv7 m _ _ f3;have f4:=hf 4 _ rfl;change DataW.trod enc Tryz.prog w 0 _ true m 40 ((cs.drop 9).take (Tryz.prog.cellsOf 40))=some y4 at f4;rw[show Tryz.prog.cellsOf 40=1 by kernel_rfl]at f4;obtain⟨v4,r4,o4,b4⟩:=(qmo (α:=qaa) (z:=10) (rws:=qaa.rows) Tryz.underlying40 (by kernel_rfl) (by decide) (qaa.width) (qaa.rows_eq) (fun j hj=>ih j (Nat.lt_trans hj (Nat.lt_succ_self _)))) _ _ f4
 have bb2:=b2;have key:=qsq ⟨r0,o0⟩ (qsq ⟨r1,o1⟩ (qsq ⟨r2,o2⟩ (qsq ⟨r3,o3⟩ (qsq ⟨r4,o4⟩ (zma hcl)))));rw[List.drop_zero]at key;refine⟨⟨v0,v1,v2,v3,v4⟩,?_,key.2,?_⟩
 ·have key:=key.1
  obtain⟨v2z0,v2z1,v2z2,v2z3,v2z4,v2z5⟩:=v2;exact key
 simp only[qka,Rows.uptoBulk,Rows.uptoBulkAll,jl,jO,qij,qin,qwe,qwa,qca];simp only[]at b0 b1 b2 b3 b4;omega
theorem zww (n:Nat):qeq (α:=List (qaa)) enc Tryz.prog w 40 n (fun l=>[PV.sl (qaa.rows l)]) (fun l=>(l.map (fun x=>qka x+1)).sum+1) Rows.uptoBulk:=
 qmo (α:=qaa) (z:=10) (rws:=qaa.rows) Tryz.underlying40 (by kernel_rfl) (by decide) (qaa.width) (qaa.rows_eq) (fun m hm=>zwx m)
theorem zyz (n:Nat):qeq (α:=qae) enc Tryz.prog w 55 n (qae.cells) (qgu) Rows.uptoBulk:=by
 intro cs x h;obtain⟨xs,m,rfl,rfl,hcl,hxl,hf⟩:=DataW.trod_struct Tryz.underlying55 h;rw[show Tryz.prog.cellsOf 55=4 by kernel_rfl]at hcl;have hxl':xs.length=4:=hxl;obtain⟨y0,y1,y2,y3,rfl⟩:∃ y0 y1 y2 y3,xs=[y0,y1,y2,y3]:=by
  match xs,hxl' with
  | [y0,y1,y2,y3],_=>exact⟨y0,y1,y2,y3,rfl⟩
 have f0:=hf 0 _ rfl;change DataW.trod enc Tryz.prog w 0 _ true m 9 ((cs.drop 0).take (Tryz.prog.cellsOf 9))=some y0 at f0;rw[show Tryz.prog.cellsOf 9=1 by kernel_rfl]at f0;obtain⟨v0,r0,o0,b0⟩:=rd9 m _ _ f0;have f1:=hf 1 _ rfl;change DataW.trod enc Tryz.prog w 0 _ true m 42 ((cs.drop 1).take (Tryz.prog.cellsOf 42))=some y1 at f1;rw[show Tryz.prog.cellsOf 42=1 by kernel_rfl]at f1;obtain⟨v1,r1,o1,b1⟩:=zv7 m _ _ f1;have f2:=hf 2 _ rfl;change DataW.trod enc Tryz.prog w 0 _ true m 42 ((cs.drop 2).take (Tryz.prog.cellsOf 42))=some y2 at f2;rw[show Tryz.prog.cellsOf 42=1 by kernel_rfl]at f2;obtain⟨v2,r2,o2,b2⟩:=zv7 m _ _ f2;have f3:=hf 3 _ rfl;change DataW.trod enc Tryz.prog w 0 _ true m 40 ((cs.drop 3).take (Tryz.prog.cellsOf 40))=some y3 at f3;rw[show Tryz.prog.cellsOf 40=1 by kernel_rfl]at f3;obtain⟨v3,r3,o3,b3⟩:=zww m _ _ f3;have key:=qsq ⟨r0,o0⟩ (qsq ⟨r1,o1⟩ (qsq ⟨r2,o2⟩ (qsq ⟨r3,o3⟩ (zma hcl))));rw[List.drop_zero]at key;refine⟨⟨v0,v1,v2,v3⟩,?_,key.2,?_⟩
 ·have key:=key.1
  exact key
 simp only[qgu,Rows.uptoBulk,Rows.uptoBulkAll,jl,jO,qij,qin,qwe,qwa,qca];simp only[]at b0 b1 b2 b3;omega
theorem zy3 (n:Nat):qeq (α:=qag) enc Tryz.prog w 68 n (qag.cells) (qng) Rows.uptoBulk:=by
 intro cs x h;obtain⟨xs,m,rfl,rfl,hcl,hxl,hf⟩:=DataW.trod_struct Tryz.underlying68 h;rw[show Tryz.prog.cellsOf 68=5 by kernel_rfl]at hcl;have hxl':xs.length=5:=hxl;obtain⟨y0,y1,y2,y3,y4,rfl⟩:∃ y0 y1 y2 y3 y4,xs=[y0,y1,y2,y3,y4]:=by
  match xs,hxl' with
  | [y0,y1,y2,y3,y4],_=>exact⟨y0,y1,y2,y3,y4,rfl⟩
 have f0:=hf 0 _ rfl;change DataW.trod enc Tryz.prog w 0 _ true m 9 ((cs.drop 0).take (Tryz.prog.cellsOf 9))=some y0 at f0;rw[show Tryz.prog.cellsOf 9=1 by kernel_rfl]at f0;obtain⟨v0,r0,o0,b0⟩:=rd9 m _ _ f0;have f1:=hf 1 _ rfl;change DataW.trod enc Tryz.prog w 0 _ true m 9 ((cs.drop 1).take (Tryz.prog.cellsOf 9))=some y1 at f1;rw[show Tryz.prog.cellsOf 9=1 by kernel_rfl]at f1;obtain⟨v1,r1,o1,b1⟩:=rd9 m _ _ f1;have f2:=hf 2 _ rfl;change DataW.trod enc Tryz.prog w 0 _ true m 3 ((cs.drop 2).take (Tryz.prog.cellsOf 3))=some y2 at f2;rw[show Tryz.prog.cellsOf 3=1 by kernel_rfl]at f2;obtain⟨v2,r2,o2,b2⟩:=rd3 m _ _ f2;have f3:=hf 3 _ rfl;change DataW.trod enc Tryz.prog w 0 _ true m 42 ((cs.drop 3).take (Tryz.prog.cellsOf 42))=some y3 at f3;rw[show Tryz.prog.cellsOf 42=1 by kernel_rfl]at f3;obtain⟨v3,r3,o3,b3⟩:=zv7 m _ _ f3;have f4:=hf 4 _ rfl;change DataW.trod enc Tryz.prog w 0 _ true m 40 ((cs.drop 4).take (Tryz.prog.cellsOf 40))=some y4 at f4;rw[show Tryz.prog.cellsOf 40=1 by kernel_rfl]at f4;obtain⟨v4,r4,o4,b4⟩:=zww m _ _ f4;have key:=qsq ⟨r0,o0⟩ (qsq ⟨r1,o1⟩ (qsq ⟨r2,o2⟩ (qsq ⟨r3,o3⟩ (qsq ⟨r4,o4⟩ (zma hcl)))));rw[List.drop_zero]at key;refine⟨⟨v0,v1,v2,v3,v4⟩,?_,key.2,?_⟩
 ·have key:=key.1
  exact key
 simp only[qng,Rows.uptoBulk,Rows.uptoBulkAll,jl,jO,qij,qin,qwe,qwa,qca];simp only[]at b0 b1 b2 b3 b4;omega
theorem zy0 (n:Nat):qeq (α:=List (qae)) enc Tryz.prog w 56 n (fun l=>[PV.sl (qae.rows l)]) (fun l=>(l.map (qgu)).sum+1) Rows.uptoBulk:=
 qmo (α:=qae) (z:=4) (rws:=qae.rows) Tryz.underlying56 (by kernel_rfl) (by decide) (qd2.hz) (fun _=>rfl) (fun m hm=>zyz m)
theorem zy1 (n:Nat):qeq (α:=List (qag)) enc Tryz.prog w 57 n (fun l=>[PV.sl (qag.rows l)]) (fun l=>(l.map (qng)).sum+1) Rows.uptoBulk:=
 qmo (α:=qag) (z:=5) (rws:=qag.rows) Tryz.underlying57 (by kernel_rfl) (by decide) (qg1.hz) (fun _=>rfl) (fun m hm=>zy3 m)
theorem zy2 (n:Nat):qeq (α:=qa9) enc Tryz.prog w 59 n (qa9.cells) (qiq) Rows.uptoBulk:=by
 intro cs x h;obtain⟨xs,m,rfl,rfl,hcl,hxl,hf⟩:=DataW.trod_struct Tryz.underlying59 h;rw[show Tryz.prog.cellsOf 59=2 by kernel_rfl]at hcl;have hxl':xs.length=2:=hxl;obtain⟨y0,y1,rfl⟩:∃ y0 y1,xs=[y0,y1]:=by
  match xs,hxl' with
  | [y0,y1],_=>exact⟨y0,y1,rfl⟩
 have f0:=hf 0 _ rfl;change DataW.trod enc Tryz.prog w 0 _ true m 56 ((cs.drop 0).take (Tryz.prog.cellsOf 56))=some y0 at f0;rw[show Tryz.prog.cellsOf 56=1 by kernel_rfl]at f0;obtain⟨v0,r0,o0,b0⟩:=zy0 m _ _ f0;have f1:=hf 1 _ rfl;change DataW.trod enc Tryz.prog w 0 _ true m 57 ((cs.drop 1).take (Tryz.prog.cellsOf 57))=some y1 at f1;rw[show Tryz.prog.cellsOf 57=1 by kernel_rfl]at f1;obtain⟨v1,r1,o1,b1⟩:=zy1 m _ _ f1;have key:=qsq ⟨r0,o0⟩ (qsq ⟨r1,o1⟩ (zma hcl));rw[List.drop_zero]at key;refine⟨⟨v0,v1⟩,?_,key.2,?_⟩
 ·have key:=key.1
  exact key
 simp only[qiq,Rows.uptoBulk,Rows.uptoBulkAll,jl,jO,qij,qin,qwe,qwa,qca];simp only[]at b0 b1;omega
theorem zy4 (n:Nat):qeq (α:=qbn) enc Tryz.prog w 70 n (qbn.cells) (qta) Rows.uptoBulk:=by
 intro cs x h;obtain⟨xs,m,rfl,rfl,hcl,hxl,hf⟩:=DataW.trod_struct Tryz.underlying70 h;rw[show Tryz.prog.cellsOf 70=11 by kernel_rfl]at hcl;have hxl':xs.length=2:=hxl;obtain⟨y0,y1,rfl⟩:∃ y0 y1,xs=[y0,y1]:=by
  match xs,hxl' with
  | [y0,y1],_=>exact⟨y0,y1,rfl⟩
 have f0:=hf 0 _ rfl;change DataW.trod enc Tryz.prog w 0 _ true m 46 ((cs.drop 0).take (Tryz.prog.cellsOf 46))=some y0 at f0;rw[show Tryz.prog.cellsOf 46=10 by kernel_rfl]at f0;obtain⟨v0,r0,o0,b0⟩:=zwx m _ _ f0;have f1:=hf 1 _ rfl;change DataW.trod enc Tryz.prog w 0 _ true m 9 ((cs.drop 10).take (Tryz.prog.cellsOf 9))=some y1 at f1;rw[show Tryz.prog.cellsOf 9=1 by kernel_rfl]at f1;obtain⟨v1,r1,o1,b1⟩:=rd9 m _ _ f1;have bb0:=b0;have key:=qsq ⟨r0,o0⟩ (qsq ⟨r1,o1⟩ (zma hcl));rw[List.drop_zero]at key;refine⟨⟨v0,v1⟩,?_,key.2,?_⟩
 ·have key:=key.1
  obtain⟨v0z0,v0z1,⟨v0_2_0,v0_2_1,v0_2_2,v0_2_3,v0_2_4,v0_2_5⟩,v0z3,v0z4⟩:=v0;exact key
 simp only[qta,Rows.uptoBulk,Rows.uptoBulkAll,jl,jO,qij,qin,qwe,qwa,qca];simp only[]at b0 b1;omega
theorem zy5 (n:Nat):qeq (α:=qat) enc Tryz.prog w 72 n (qat.cells) (qia) Rows.uptoBulk:=by
 intro cs x h;obtain⟨xs,m,rfl,rfl,hcl,hxl,hf⟩:=DataW.trod_struct Tryz.underlying72 h;rw[show Tryz.prog.cellsOf 72=11 by kernel_rfl]at hcl;have hxl':xs.length=2:=hxl;obtain⟨y0,y1,rfl⟩:∃ y0 y1,xs=[y0,y1]:=by
  match xs,hxl' with
  | [y0,y1],_=>exact⟨y0,y1,rfl⟩
 have f0:=hf 0 _ rfl;change DataW.trod enc Tryz.prog w 0 _ true m 46 ((cs.drop 0).take (Tryz.prog.cellsOf 46))=some y0 at f0;rw[show Tryz.prog.cellsOf 46=10 by kernel_rfl]at f0;obtain⟨v0,r0,o0,b0⟩:=zwx m _ _ f0;have f1:=hf 1 _ rfl;change DataW.trod enc Tryz.prog w 0 _ true m 4 ((cs.drop 10).take (Tryz.prog.cellsOf 4))=some y1 at f1;rw[show Tryz.prog.cellsOf 4=1 by kernel_rfl]at f1;obtain⟨v1,r1,o1,b1⟩:=rd4 m _ _ f1;have bb0:=b0;have key:=qsq ⟨r0,o0⟩ (qsq ⟨r1,o1⟩ (zma hcl));rw[List.drop_zero]at key;refine⟨⟨v0,v1⟩,?_,key.2,?_⟩
 ·have key:=key.1
  obtain⟨v0z0,v0z1,⟨v0_2_0,v0_2_1,v0_2_2,v0_2_3,v0_2_4,v0_2_5⟩,v0z3,v0z4⟩:=v0;exact key
 simp only[qia,Rows.uptoBulk,Rows.uptoBulkAll,jl,jO,qij,qin,qwe,qwa,qca];simp only[]at b0 b1;omega
theorem zy6 (n:Nat):qeq (α:=qaf) enc Tryz.prog w 74 n (qaf.cells) (qim) Rows.uptoBulk:=by
 intro cs x h;obtain⟨xs,m,rfl,rfl,hcl,hxl,hf⟩:=DataW.trod_struct Tryz.underlying74 h;rw[show Tryz.prog.cellsOf 74=13 by kernel_rfl]at hcl;have hxl':xs.length=4:=hxl;obtain⟨y0,y1,y2,y3,rfl⟩:∃ y0 y1 y2 y3,xs=[y0,y1,y2,y3]:=by
  match xs,hxl' with
  | [y0,y1,y2,y3],_=>exact⟨y0,y1,y2,y3,rfl⟩
 have f0:=hf 0 _ rfl;change DataW.trod enc Tryz.prog w 0 _ true m 9 ((cs.drop 0).take (Tryz.prog.cellsOf 9))=some y0 at f0;rw[show Tryz.prog.cellsOf 9=1 by kernel_rfl]at f0;obtain⟨v0,r0,o0,b0⟩:=rd9 m _ _ f0;have f1:=hf 1 _ rfl;change DataW.trod enc Tryz.prog w 0 _ true m 9 ((cs.drop 1).take (Tryz.prog.cellsOf 9))=some y1 at f1;rw[show Tryz.prog.cellsOf 9=1 by kernel_rfl]at f1;obtain⟨v1,r1,o1,b1⟩:=rd9 m _ _ f1;have f2:=hf 2 _ rfl;change DataW.trod enc Tryz.prog w 0 _ true m 9 ((cs.drop 2).take (Tryz.prog.cellsOf 9))=some y2 at f2;rw[show Tryz.prog.cellsOf 9=1 by kernel_rfl]at f2;obtain⟨v2,r2,o2,b2⟩:=rd9 m _ _ f2;have f3:=hf 3 _ rfl;change DataW.trod enc Tryz.prog w 0 _ true m 46 ((cs.drop 3).take (Tryz.prog.cellsOf 46))=some y3 at f3;rw[show Tryz.prog.cellsOf 46=10 by kernel_rfl]at f3;obtain⟨v3,r3,o3,b3⟩:=zwx m _ _ f3;have bb3:=b3;have key:=qsq ⟨r0,o0⟩ (qsq ⟨r1,o1⟩ (qsq ⟨r2,o2⟩ (qsq ⟨r3,o3⟩ (zma hcl))));rw[List.drop_zero]at key;refine⟨⟨v0,v1,v2,v3⟩,?_,key.2,?_⟩
 ·have key:=key.1
  obtain⟨v3z0,v3z1,⟨v3_2_0,v3_2_1,v3_2_2,v3_2_3,v3_2_4,v3_2_5⟩,v3z3,v3z4⟩:=v3;exact key
 simp only[qim,Rows.uptoBulk,Rows.uptoBulkAll,jl,jO,qij,qin,qwe,qwa,qca];simp only[]at b0 b1 b2 b3;omega
theorem zys (n:Nat):qeq (α:=List (qa9)) enc Tryz.prog w 39 n (fun l=>[PV.sl (qa9.rows l)]) (fun l=>(l.map (qiq)).sum+1) Rows.uptoBulk:=
 qmo (α:=qa9) (z:=2) (rws:=qa9.rows) Tryz.underlying39 (by kernel_rfl) (by decide) (qlh.hz) (fun _=>rfl) (fun m hm=>zy2 m)
theorem zyu (n:Nat):qeq (α:=List (qbn)) enc Tryz.prog w 47 n (fun l=>[PV.sl (qbn.rows l)]) (fun l=>(l.map (qta)).sum+1) Rows.uptoBulk:=
 qmo (α:=qbn) (z:=11) (rws:=qbn.rows) Tryz.underlying47 (by kernel_rfl) (by decide) (qst.hz) (fun _=>rfl) (fun m hm=>zy4 m)
theorem zyv (n:Nat):qeq (α:=List (qat)) enc Tryz.prog w 48 n (fun l=>[PV.sl (qat.rows l)]) (fun l=>(l.map (qia)).sum+1) Rows.uptoBulk:=
 qmo (α:=qat) (z:=11) (rws:=qat.rows) Tryz.underlying48 (by kernel_rfl) (by decide) (qqf.hz) (fun _=>rfl) (fun m hm=>zy5 m)
theorem zyw (n:Nat):qeq (α:=List (qaf)) enc Tryz.prog w 49 n (fun l=>[PV.sl (qaf.rows l)]) (fun l=>(l.map (qim)).sum+1) Rows.uptoBulk:=
 qmo (α:=qaf) (z:=13) (rws:=qaf.rows) Tryz.underlying49 (by kernel_rfl) (by decide) (qjo.hz) (fun _=>rfl) (fun m hm=>zy6 m)
theorem zyx (n:Nat):qeq (α:=qab) enc Tryz.prog w 51 n (qab.cells) (qda) Rows.uptoBulk:=by
 intro cs x h;obtain⟨xs,m,rfl,rfl,hcl,hxl,hf⟩:=DataW.trod_struct Tryz.underlying51 h;rw[show Tryz.prog.cellsOf 51=22 by kernel_rfl]at hcl;have hxl':xs.length=13:=hxl;obtain⟨y0,y1,y2,y3,y4,y5,y6,y7,y8,y9,y10,y11,y12,rfl⟩:∃ y0 y1 y2 y3 y4 y5 y6 y7 y8 y9 y10 y11 y12,xs=[y0,y1,y2,y3,y4,y5,y6,y7,y8,y9,y10,y11,y12]:=by
  match xs,hxl' with
  | [y0,y1,y2,y3,y4,y5,y6,y7,y8,y9,y10,y11,y12],_=>exact⟨y0,y1,y2,y3,y4,y5,y6,y7,y8,y9,y10,y11,y12,rfl⟩
 have f0:=hf 0 _ rfl;change DataW.trod enc Tryz.prog w 0 _ true m 3 ((cs.drop 0).take (Tryz.prog.cellsOf 3))=some y0 at f0;rw[show Tryz.prog.cellsOf 3=1 by kernel_rfl]at f0;obtain⟨v0,r0,o0,b0⟩:=rd3 m _ _ f0;have f1:=hf 1 _ rfl;change DataW.trod enc Tryz.prog w 0 _ true m 39 ((cs.drop 1).take (Tryz.prog.cellsOf 39))=some y1 at f1;rw[show Tryz.prog.cellsOf 39=1 by kernel_rfl]at f1;obtain⟨v1,r1,o1,b1⟩:=zys m _ _ f1;have f2:=hf 2 _ rfl;change DataW.trod enc Tryz.prog w 0 _ true m 40 ((cs.drop 2).take (Tryz.prog.cellsOf 40))=some y2 at f2;rw[show Tryz.prog.cellsOf 40=1 by kernel_rfl]at f2;obtain⟨v2,r2,o2,b2⟩:=zww m _ _ f2;have f3:=hf 3 _ rfl;change DataW.trod enc Tryz.prog w 0 _ true m 46 ((cs.drop 3).take (Tryz.prog.cellsOf 46))=some y3 at f3;rw[show Tryz.prog.cellsOf 46=10 by kernel_rfl]at f3;obtain⟨v3,r3,o3,b3⟩:=zwx m _ _ f3;have f4:=hf 4 _ rfl;change DataW.trod enc Tryz.prog w 0 _ true m 9 ((cs.drop 13).take (Tryz.prog.cellsOf 9))=some y4 at f4;rw[show Tryz.prog.cellsOf 9=1 by kernel_rfl]at f4;obtain⟨v4,r4,o4,b4⟩:=rd9 m _ _ f4;have f5:=hf 5 _ rfl;change DataW.trod enc Tryz.prog w 0 _ true m 47 ((cs.drop 14).take (Tryz.prog.cellsOf 47))=some y5 at f5;rw[show Tryz.prog.cellsOf 47=1 by kernel_rfl]at f5;obtain⟨v5,r5,o5,b5⟩:=zyu m _ _ f5;have f6:=hf 6 _ rfl;change DataW.trod enc Tryz.prog w 0 _ true m 4 ((cs.drop 15).take (Tryz.prog.cellsOf 4))=some y6 at f6;rw[show Tryz.prog.cellsOf 4=1 by kernel_rfl]at f6;obtain⟨v6,r6,o6,b6⟩:=rd4 m _ _ f6;have f7:=hf 7 _ rfl;change DataW.trod enc Tryz.prog w 0 _ true m 48 ((cs.drop 16).take (Tryz.prog.cellsOf 48))=some y7 at f7;rw[show Tryz.prog.cellsOf 48=1 by kernel_rfl]at f7;obtain⟨v7,r7,o7,b7⟩:=zyv m _ _ f7;have f8:=hf 8 _ rfl;change DataW.trod enc Tryz.prog w 0 _ true m 40 ((cs.drop 17).take (Tryz.prog.cellsOf 40))=some y8 at f8;rw[show Tryz.prog.cellsOf 40=1 by kernel_rfl]at f8;obtain⟨v8,r8,o8,b8⟩:=zww m _ _ f8;have f9:=hf 9 _ rfl;change DataW.trod enc Tryz.prog w 0 _ true m 40 ((cs.drop 18).take (Tryz.prog.cellsOf 40))=some y9 at f9;rw[show Tryz.prog.cellsOf 40=1 by kernel_rfl]at f9;obtain⟨v9,r9,o9,b9⟩:=zww m _ _ f9;have f10:=hf 10 _ rfl;change DataW.trod enc Tryz.prog w 0 _ true m 49 ((cs.drop 19).take (Tryz.prog.cellsOf 49))=some y10 at f10;rw[show Tryz.prog.cellsOf 49=1 by kernel_rfl]at f10;obtain⟨v10,r10,o10,b10⟩:=zyw m _ _ f10;have f11:=hf 11 _ rfl;change DataW.trod enc Tryz.prog w 0 _ true m 42 ((cs.drop 20).take (Tryz.prog.cellsOf 42))=some y11 at f11;rw[show Tryz.prog.cellsOf 42=1 by kernel_rfl]at f11;obtain⟨v11,r11,o11,b11⟩:=zv7 m _ _ f11;have f12:=hf 12 _ rfl;change DataW.trod enc Tryz.prog w 0 _ true m 4 ((cs.drop 21).take (Tryz.prog.cellsOf 4))=some y12 at f12;rw[show Tryz.prog.cellsOf 4=1 by kernel_rfl]at f12;obtain⟨v12,r12,o12,b12⟩:=rd4 m _ _ f12;have bb3:=b3;have key:=qsq ⟨r0,o0⟩ (qsq ⟨r1,o1⟩ (qsq ⟨r2,o2⟩ (qsq ⟨r3,o3⟩ (qsq ⟨r4,o4⟩ (qsq ⟨r5,o5⟩ (qsq ⟨r6,o6⟩ (qsq ⟨r7,o7⟩ (qsq ⟨r8,o8⟩ (qsq ⟨r9,o9⟩ (qsq ⟨r10,o10⟩ (qsq ⟨r11,o11⟩ (qsq ⟨r12,o12⟩ (zma hcl)))))))))))));rw[List.drop_zero]at key;refine⟨⟨v0,v1,v2,v3,v4,v5,v6,v7,v8,v9,v10,v11,v12⟩,?_,key.2,?_⟩
 ·have key:=key.1
  obtain⟨v3z0,v3z1,⟨v3_2_0,v3_2_1,v3_2_2,v3_2_3,v3_2_4,v3_2_5⟩,v3z3,v3z4⟩:=v3;exact key
 simp only[qda,Rows.uptoBulk,Rows.uptoBulkAll,jl,jO,qij,qin,qwe,qwa,qca];simp only[]at b0 b1 b2 b3 b4 b5 b6 b7 b8 b9 b10 b11 b12;omega
theorem zyn (n:Nat):qeq (α:=List (qab)) enc Tryz.prog w 22 n (fun l=>[PV.sl (qab.rows l)]) (fun l=>(l.map (qda)).sum+1) Rows.uptoBulk:=
 qmo (α:=qab) (z:=22) (rws:=qab.rows) Tryz.underlying22 (by kernel_rfl) (by decide) (qcz.hz) (fun _=>rfl) (fun m hm=>zyx m)
theorem zyo (n:Nat):qeq (α:=qip) enc Tryz.prog w 24 n (qip.cells) (zxo) Rows.uptoBulk:=by
 intro cs x h;obtain⟨xs,m,rfl,rfl,hcl,hxl,hf⟩:=DataW.trod_struct Tryz.underlying24 h;rw[show Tryz.prog.cellsOf 24=1 by kernel_rfl]at hcl;have hxl':xs.length=1:=hxl;obtain⟨y0,rfl⟩:∃ y0,xs=[y0]:=by
  match xs,hxl' with
  | [y0],_=>exact⟨y0,rfl⟩
 have f0:=hf 0 _ rfl;change DataW.trod enc Tryz.prog w 0 _ true m 22 ((cs.drop 0).take (Tryz.prog.cellsOf 22))=some y0 at f0;rw[show Tryz.prog.cellsOf 22=1 by kernel_rfl]at f0;obtain⟨v0,r0,o0,b0⟩:=zyn m _ _ f0;have key:=qsq ⟨r0,o0⟩ (zma hcl);rw[List.drop_zero]at key;refine⟨⟨v0⟩,?_,key.2,?_⟩
 ·have key:=key.1
  exact key
 simp only[zxo,Rows.uptoBulk,Rows.uptoBulkAll,jl,jO,qij,qin,qwe,qwa,qca];simp only[]at b0;omega
end W
end
section
namespace W
open Go Go.Proofs Ax Go.RowKit Go.ChangeShapes Go.WideShapes Go.ChangeAt
open Go.Proofs.YtmblnmgpmdapnaaGreat Go.ChangeMaps
theorem own:ownKnob Tryz.prog.godebug=none:=by kernel_rfl
theorem q5t:laidOutB Tryz.prog=true:=by kernel_rfl
theorem root {W:World} (h:W.ShapedOpen Tryz.prog):∃ m,W.cell? ⟨0,0,none⟩=some (.int .i64 m):=Tryz.laysM144.s1_3 W h
section
variable {Hd:Type} {enc:TypeId×Value->Hd} {W:World}
set_option maxRecDepth 100000 in
theorem q0q {v0:Value} {d0:DataW Hd} {p:List MemPlace} {b:Nat} (hval:Value.okWide Tryz.prog W .any b 24 v0) (h:DataW.Trod enc Tryz.prog W 0 (fun _=>true) true 24 v0 d0 p) :
  ∃ s:qip,qco (q5o W) (.agg (qy0.cells s)) v0/\zxo s<=Rows.uptoBulk d0:=by
 obtain⟨cs,rfl,_⟩:=okWide_struct Tryz.underlying24 hval;obtain⟨fuel,h⟩:=h;obtain⟨v,r,_,hb⟩:=zyo fuel _ _ h;refine⟨v,?_,hb⟩;simp only[qco];exact⟨cs.toList,by simp,r⟩
end
noncomputable def qtb (os:Os):World:=World.holding Tryz.prog os ⟨#[],#[],[]⟩
abbrev VM:Value:=.agg #[.slice none 0 0]
abbrev DM (H:Type):DataW H:=.agg [.nil]
end W
end
section
open Go Ax
namespace W
def dgB (m:Nat):UInt8:=UInt8.ofNat (48+m)
def zk2 (m:Nat):List UInt8:=if h:m<10 then[dgB m]else zk2 (m / 10)++[dgB (m % 10)]
theorem qxr {m:Nat} (h:m<10):zk2 m=[dgB m]:=by rw[zk2,dif_pos h]
theorem q9y {m:Nat} (h:¬ m<10):zk2 m=zk2 (m / 10)++[dgB (m % 10)]:=by rw[zk2,dif_neg h]
theorem qvg:∀ (d m:Nat),m<10 ^ (d+1)->(zk2 m).length<=d+1/\1<=(zk2 m).length
 | 0,m,h=>by rw[qxr (by simpa using h)]; simp
 | d+1,m,h=>by
  by_cases hm:m<10
  ·rw[qxr hm]; simp
  rw[q9y hm,jb];have:=qvg d (m / 10) (by rw[Nat.div_lt_iff_lt_mul (by decide)]; rw[Nat.pow_succ]at h; exact h);simp only[ja,jc];omega
def q4w (i:Int):List UInt8:=if i<0 then 45::zk2 (-i).toNat else zk2 i.toNat
theorem zg6 {m:Nat} (h:m<10):(dgB m).toNat=48+m:=by
 unfold dgB;rw[UInt8.toNat_ofNat'];omega
theorem zuh {m:Nat} (h:m<10):u8I ((48+m:Nat):Int)=some (dgB m):=by
 rw[← zg6 h]; exact zf3 _
theorem p19:(10:Nat) ^ 19=10000000000000000000:=by decide
theorem q76 {i:Int} (h0:-9223372036854775808<=i) (h1:i<=9223372036854775807):(q4w i).length<=20:=by
 unfold q4w;split
 ·have:=(qvg 18 (-i).toNat (by rw[p19]; omega)).1
  simp only[ja]; omega
 have:=(qvg 18 i.toNat (by rw[p19]; omega)).1;omega
theorem zui (z:Int) (h0:0<=z) (h1:z<256):kwr .u8 z=z:=by
 show z % (2 ^ 8:Int)=z;omega
theorem zri (z:Int) (h0:0<=z) (h1:z<18446744073709551616):kwr .u64 z=z:=by
 show z % (2 ^ 64:Int)=z;omega
theorem zxa (z:Int) (h0:-9223372036854775808<=z) (h1:z<0):kwr .u64 (0 - kwr .u64 z) = -z:=by
 show(0 - z % (2 ^ 64:Int)) % (2 ^ 64:Int) = -z;omega
theorem qbs {a b:Nat} (h:a+b<=1073741824):decide (((a+b:Nat):Int)<=qhj)=true:=kdt (by unfold qhj; omega)
theorem zqh:∀ (d:Nat) (m:Nat) (f:Nat),d<=18->m<10 ^ (d+1)->m<=9223372036854775807->d+1<=f->qhy f (m:Int)=some (zk2 m):=by
 intro d
 induction d with
 | zero=>
  intro m f hd hm hi hf;obtain⟨f,rfl⟩:=jk (by omega:f≠0);have hm:m<10:=by simpa using hm
  simp only[qhy,qrh];rw[show(((m:Nat):Int) == -9223372036854775808)=false from by rw[kbf]; omega,kcf,kdf (by omega:¬ (m:Int)<0),kcf];rw[show Int.tmod (m:Int) 10=((m % 10:Nat):Int)from by rw[Int.ofNat_tmod]; rfl,Nat.mod_eq_of_lt hm,q59 _ (by omega) (by omega),zui _ (by omega) (by omega)];rw[show(48:Int)+(m:Int)=((48+m:Nat):Int)from by simp,zuh hm,qad,kdt (by omega:(m:Int)<10),kct,qxr hm]
 | succ d ih=>
  intro m f hd hm hi hf;obtain⟨f,rfl⟩:=jk (by omega:f≠0);have hr:m % 10<10:=Nat.mod_lt _ (by decide);simp only[qhy,qrh];rw[show(((m:Nat):Int) == -9223372036854775808)=false from by rw[kbf]; omega,kcf,kdf (by omega:¬ (m:Int)<0),kcf];rw[show Int.tmod (m:Int) 10=((m % 10:Nat):Int)from by rw[Int.ofNat_tmod]; rfl,q59 _ (by omega) (by omega),zui _ (by omega) (by omega)];rw[show(48:Int)+((m % 10:Nat):Int)=((48+m % 10:Nat):Int)from by simp,zuh hr,qad];by_cases hm10:m<10
  ·rw[kdt (by omega:(m:Int)<10),kct,Nat.mod_eq_of_lt hm10,qxr hm10]
  have hq:m / 10<10 ^ (d+1):=by rw[Nat.div_lt_iff_lt_mul (by decide)]; rw[Nat.pow_succ]at hm; exact hm
  rw[kdf (by omega:¬ (m:Int)<10),kcf,show Int.tdiv (m:Int) 10=((m / 10:Nat):Int)from by rw[Int.ofNat_tdiv]; rfl,q59 _ (by omega) (by omega),ih (m / 10) f (by omega) hq (by omega) (by omega),qad];have hl:=(qvg d (m / 10) hq).1;rw[qa0 (qbs (by simp only[ja,jc]; omega)),q9y hm10]
theorem q79 {f:Nat} (hf:400<=f) {i:Int} (h0:-9223372036854775808<=i) (h1:i<=9223372036854775807):qhy f i=some (q4w i):=by
 by_cases hneg:i<0
 ·by_cases hl:i = -9223372036854775808
  ·subst hl
   obtain⟨f,rfl⟩:=jk (by omega:f≠0);rw[show q4w (-9223372036854775808)=[45,57,50,50,51,51,55,50,48,51,54,56,53,52,55,55,53,56,48,56]from by
    unfold q4w;rw[if_pos (by decide)];have e:(-(-9223372036854775808:Int)).toNat=9223372036854775808:=by decide
    rw[e]
    iterate 18 rw[q9y (by decide)]
    rw[qxr (by decide)];rfl]
   rfl
  obtain⟨f,rfl⟩:=jk (by omega:f≠0);simp only[qhy,qrh];rw[show(i == -9223372036854775808)=false from by rw[kbf]; exact hl,kcf,kdt hneg,kct,q59 _ (by omega) (by omega)];rw[show(0:Int) - i=(((-i).toNat:Nat):Int)from by omega,zqh 18 (-i).toNat f (by omega) (by rw[p19]; omega) (by omega) (by omega),qad];have hlen:=(qvg 18 (-i).toNat (by rw[p19]; omega)).1;rw[qa0 (qbs (by simp only[ja,jc]; omega))];unfold q4w;rw[if_pos hneg];rfl
 rw[show i=((i.toNat:Nat):Int)from by omega,zqh 18 i.toNat f (by omega) (by rw[p19]; omega) (by omega) (by omega)];unfold q4w;rw[if_neg (by omega),jV]
theorem q8a {A:Type}:∀ (b:List A) (k:Nat) (x:A),k<b.length->(b.set k x).drop k=x::b.drop (k+1)
 | [],_,_,h=>by simp at h
 | a::b,0,x,_=>rfl
 | a::b,k+1,x,h=>by simpa using q8a b k x (by simpa using h)
theorem zud {n a:Nat} {b:List UInt8} (ha:a<20) (hb:b.length=20):qn2 n ((a:Int),b)=some (b.drop a):=by
 unfold qn2;simp only;rw[qkb,qad,qa0 (kdt ha),qa0 (kdt (by omega))];rw[List.take_of_length_le (by rw[jN]; omega)]
theorem zur {m:Nat} (h:m<10):([(48:UInt8),(49:UInt8),(50:UInt8),(51:UInt8),(52:UInt8),(53:UInt8),(54:UInt8),(55:UInt8),(56:UInt8),(57:UInt8)]:List UInt8)[m]? =some (dgB m):=by
 have:m=0\/m=1\/m=2\/m=3\/m=4\/m=5\/m=6\/m=7\/m=8\/m=9:=by omega
 rcases this with rfl|rfl|rfl|rfl|rfl|rfl|rfl|rfl|rfl|rfl<;>rfl
def ztb (i:Int):List UInt8:=if i<0 then[45]else[]
theorem zls (n:Nat) (i:Int):∀ (d m a f:Nat) (b:List UInt8),m<10 ^ (d+1)->d<=18->m<=9223372036854775808->(zk2 m).length+(ztb i).length<=a->a<=20->b.length=20->d+1<=f ->
  qam (qn3 n i) f ((a:Int),(m:Int),b)=some (ztb i++zk2 m++b.drop a):=by
 intro d;have hstep:∀ (m a:Nat) (b:List UInt8) (nx:Int×Int×List UInt8->Option (List UInt8)),m<=9223372036854775808->1<=a->a<=20->b.length=20->(m<10->1+(ztb i).length<=a) ->
   qn3 n i nx ((a:Int),(m:Int),b)=(if m<10 then some (ztb i++dgB (m % 10)::b.drop a)else nx (((a - 1:Nat):Int),((m / 10:Nat):Int),b.set (a - 1) (dgB (m % 10)))):=by
  intro m a b nx hm ha ha2 hb hs;have hr:m % 10<10:=Nat.mod_lt _ (by decide);simp only[qn3];rw[show Int.tmod (m:Int) 10=((m % 10:Nat):Int)from by rw[Int.ofNat_tmod]; rfl,qkb,qad,qa0 (kdt hr),zur hr,qad];rw[qw3 (by omega) (by omega),show(a:Int) - 1=((a - 1:Nat):Int)from by omega,qkb,qad,qa0 (kdt (by omega)),zf3,qad,qa0 (kdt (by omega))];have hbl:(b.set (a - 1) (dgB (m % 10))).length=20:=by rw[List.length_set]; exact hb
  have hd1:(b.set (a - 1) (dgB (m % 10))).drop (a - 1)=dgB (m % 10)::b.drop a:=by
   rw[q8a b (a - 1) _ (by omega),show a - 1+1=a from by omega]
  by_cases h10:m<10
  ·have hs:=hs h10
   rw[kdt (by omega:(m:Int)<10),kct,if_pos h10];unfold ztb at hs ⊢;by_cases hneg:i<0
   ·rw[kdt hneg,kct,if_pos hneg]
    rw[if_pos hneg]at hs;simp only[ja,jc]at hs;rw[qw3 (by omega) (by omega),show((a - 1:Nat):Int) - 1=((a - 2:Nat):Int)from by omega,qkb,qad,qa0 (kdt (by omega)),show u8I (45:Int)=some 45 from rfl,qad,qa0 (kdt (by omega))];rw[zud (by omega) (by rw[List.length_set]; exact hbl),q8a _ (a - 2) _ (by omega),show a - 2+1=a - 1 from by omega,hd1];rfl
   rw[kdf hneg,kcf,if_neg hneg,zud (by omega) hbl,hd1];rfl
  rw[kdf (by omega:¬ (m:Int)<10),kcf,if_neg h10,show Int.tdiv (m:Int) 10=((m / 10:Nat):Int)from by rw[Int.ofNat_tdiv]; rfl,zri _ (by omega) (by omega)]
 induction d with
 | zero=>
  intro m a f b hm hd hi ha ha2 hb hf;obtain⟨f,rfl⟩:=jk (by omega:f≠0);have hm:m<10:=by simpa using hm
  rw[qxr hm]at ha ⊢;simp only[ja,jc]at ha;rw[qa1,hstep m a b _ hi (by omega) ha2 hb (fun _=>by omega),if_pos hm,Nat.mod_eq_of_lt hm]
  simp
 | succ d ih=>
  intro m a f b hm hd hi ha ha2 hb hf;obtain⟨f,rfl⟩:=jk (by omega:f≠0);have h1:=(qvg (d+1) m hm).2;rw[qa1,hstep m a b _ hi (by omega) ha2 hb (fun h10=>by rw[qxr h10]at ha; simpa using ha)]
  by_cases h10:m<10
  ·rw[if_pos h10,qxr h10,Nat.mod_eq_of_lt h10]; simp
  have hq:m / 10<10 ^ (d+1):=by rw[Nat.div_lt_iff_lt_mul (by decide)]; rw[Nat.pow_succ]at hm; exact hm
  rw[q9y h10]at ha ⊢;simp only[jb,ja,jc]at ha;rw[if_neg h10,ih (m / 10) (a - 1) f _ hq (by omega) (by omega) (by omega) (by omega) (by rw[List.length_set]; exact hb) (by omega),q8a b (a - 1) _ (by omega),show a - 1+1=a from by omega];simp
theorem q77 {f:Nat} (hf:400<=f) {i:Int} (h0:-9223372036854775808<=i) (h1:i<=9223372036854775807):qp9 f i=some (q4w i):=by
 unfold qp9 q0h;have hl:(List.replicate 20 (0:UInt8)).length=20:=by simp
 have hdrop:(List.replicate 20 (0:UInt8)).drop 20=[]:=rfl;by_cases hneg:i<0
 ·rw[kdt hneg,kct,qad,zxa i h0 hneg,show -i=(((-i).toNat:Nat):Int)from by omega]
  have hlen:=(qvg 18 (-i).toNat (by rw[p19]; omega)).1;have:=zls f i 18 (-i).toNat 20 f (List.replicate 20 0) (by rw[p19]; omega) (by omega) (by omega) (by unfold ztb; rw[if_pos hneg]; simp only[ja,jc]; omega) (by omega) hl (by omega);rw[hdrop]at this;refine this.trans ?_;unfold ztb q4w;rw[if_pos hneg,if_pos hneg];simp
 rw[kdf hneg,kcf,qad,zri i (by omega) (by omega)];have hlen:=(qvg 18 i.toNat (by rw[p19]; omega)).1;have:=zls f i 18 i.toNat 20 f (List.replicate 20 0) (by rw[p19]; omega) (by omega) (by omega) (by unfold ztb; rw[if_neg hneg]; simp only[jc]; omega) (by omega) hl (by omega);rw[hdrop]at this;rw[show i=((i.toNat:Nat):Int)from by omega]at this ⊢;rw[jV]at this;refine this.trans ?_;unfold ztb q4w;rw[if_neg (by omega),if_neg (by omega),jV];simp
end W
end
section
open Go Ax
namespace W
def ctB (b:UInt8):Bool:=decide (128<=b.toNat/\b.toNat<192)
def qmj:List UInt8->Nat
 | []=>0
 | c::t=>
  if c.toNat<128 then 1
  else if c.toNat<194\/244<c.toNat then 0
  else match t with
   | []=>0
   | d::t2=>
    if ctB d=false then 0
    else if c.toNat<224 then 2
    else match t2 with
     | []=>0
     | e::t3=>
      if ctB e=false\/(c.toNat=224/\d.toNat<160)\/(c.toNat=237/\160<=d.toNat)then 0
      else if c.toNat<240 then 3
      else match t3 with
       | []=>0
       | f::_=>if ctB f=false\/(c.toNat=240/\d.toNat<144)\/(c.toNat=244/\144<=d.toNat)then 0 else 4
theorem qt1 (c:UInt8) (t:List UInt8):qmj (c::t)=if c.toNat<128 then 1
  else if c.toNat<194\/244<c.toNat then 0
  else match t with
   | []=>0
   | d::t2=>
    if ctB d=false then 0
    else if c.toNat<224 then 2
    else match t2 with
     | []=>0
     | e::t3=>
      if ctB e=false\/(c.toNat=224/\d.toNat<160)\/(c.toNat=237/\160<=d.toNat)then 0
      else if c.toNat<240 then 3
      else match t3 with
       | []=>0
       | f::_=>if ctB f=false\/(c.toNat=240/\d.toNat<144)\/(c.toNat=244/\144<=d.toNat)then 0 else 4:=rfl
def zjk (s:List UInt8):Nat×Nat:=
 let at' (k:Nat):Nat:=((s[k]?).getD 0).toNat
 let cont (k:Nat):Bool:=decide (k<s.length)&&at' k / 64==2
 let b0:=at' 0
 if b0<0x80 then(b0,1)
 else if b0 / 32==6&&cont 1 then
  let c:=(b0 % 32) * 64+at' 1 % 64
  if c≥0x80 then(c,2)else(Utf8.runeError,1)
 else if b0 / 16==14&&cont 1&&cont 2 then
  let c:=(b0 % 16) * 4096+(at' 1 % 64) * 64+at' 2 % 64
  if c≥0x800&&Utf8.valid c then(c,3)else(Utf8.runeError,1)
 else if b0 / 8==30&&cont 1&&cont 2&&cont 3 then
  let c:=(b0 % 8) * 262144+(at' 1 % 64) * 4096+(at' 2 % 64) * 64+at' 3 % 64
  if c≥0x10000&&Utf8.valid c then(c,4)else(Utf8.runeError,1)
 else(Utf8.runeError,1)
theorem ztu (l:List UInt8) (i:Nat):Utf8.decode ⟨l.toArray⟩ i=zjk (l.drop i):=by
 have h1:∀ k,((⟨l.toArray⟩:ByteArray).get! (i+k)).toNat=(((l.drop i)[k]?).getD 0).toNat:=fun k=>by
  have:(⟨l.toArray⟩:ByteArray).get! (i+k)=l.toArray[i+k]!:=rfl;rw[this,jE];congr 1;cases h:l[i+k]? with
  | none=>simp[getElem!_def,h]; rfl
  | some b=>simp[getElem!_def,h]
 have h2:∀ k,decide (i+k<(⟨l.toArray⟩:ByteArray).size)=decide (k<(l.drop i).length):=fun k=>by
  rw[ByteArray.size_mk_toArray,jN];exact decide_eq_decide.2 (by omega)
 unfold Utf8.decode zjk;simp only[h1,h2]
theorem ztg {r:Nat} (h:r<55296):Utf8.valid (r:Int)=true:=by
 unfold Utf8.valid;simp only[jP,jj,kde]
 left; omega
theorem zlz {r:Nat} (h1:57344<=r) (h2:r<=1114111):Utf8.valid (r:Int)=true:=by
 unfold Utf8.valid;simp only[jP,jj,kde]
 right; omega
theorem zf4 {r:Nat} (h:(55296<=r/\r<57344)\/1114111<r):Utf8.valid (r:Int)=false:=by
 unfold Utf8.valid;simp only[kc,Bool.and_eq_false_iff,decide_eq_false_iff_not];omega
theorem qpz {b:UInt8}:ctB b=true↔b.toNat / 64=2:=by
 unfold ctB;rw[kde];omega
theorem zuq {c:UInt8} {t:List UInt8} (h:c.toNat<128):zjk (c::t)=(c.toNat,1):=by
 unfold zjk;simp only[jd,jW];rw[if_pos h]
theorem zwl {c d:UInt8} {t:List UInt8} (h1:194<=c.toNat) (h2:c.toNat<224) (hd:ctB d=true):zjk (c::d::t)=((c.toNat % 32) * 64+d.toNat % 64,2):=by
 have hd:=qpz.1 hd;unfold zjk;simp only[jd,je,jW,ja];rw[if_neg (by omega),if_pos (by simp only[jj,beq_iff_eq,kde]; omega),if_pos (by omega)]
theorem zwm {c d e:UInt8} {t:List UInt8} (h1:224<=c.toNat) (h2:c.toNat<240) (hd:ctB d=true) (he:ctB e=true) (hx:¬ (c.toNat=224/\d.toNat<160)) (hy:¬ (c.toNat=237/\160<=d.toNat)) :
  zjk (c::d::e::t)=((c.toNat % 16) * 4096+(d.toNat % 64) * 64+e.toNat % 64,3):=by
 have hd:=qpz.1 hd;have he:=qpz.1 he;unfold zjk;simp only[jd,je,jW,ja];rw[if_neg (by omega),if_neg (by simp only[jj,beq_iff_eq,kde]; omega),if_pos (by simp only[jj,beq_iff_eq,kde]; omega)];rw[if_pos];rw[jj,kde];refine⟨by omega,?_⟩;by_cases hs:(c.toNat % 16) * 4096+(d.toNat % 64) * 64+e.toNat % 64<55296
 ·exact ztg hs
 exact zlz (by omega) (by omega)
theorem zwn {c d e f:UInt8} {t:List UInt8} (h1:240<=c.toNat) (h2:c.toNat<245) (hd:ctB d=true) (he:ctB e=true) (hf:ctB f=true) (hx:¬ (c.toNat=240/\d.toNat<144)) (hy:¬ (c.toNat=244/\144<=d.toNat)) :
  zjk (c::d::e::f::t)=((c.toNat % 8) * 262144+(d.toNat % 64) * 4096+(e.toNat % 64) * 64+f.toNat % 64,4):=by
 have hd:=qpz.1 hd;have he:=qpz.1 he;have hf:=qpz.1 hf;unfold zjk;simp only[jd,je,jW,ja];rw[if_neg (by omega),if_neg (by simp only[jj,beq_iff_eq,kde]; omega),if_neg (by simp only[jj,beq_iff_eq,kde]; omega),if_pos (by simp only[jj,beq_iff_eq,kde]; omega)];rw[if_pos];rw[jj,kde];exact⟨by omega,zlz (by omega) (by omega)⟩
theorem zwk {c:UInt8} {t:List UInt8} (hc:128<=c.toNat) (hs:qmj (c::t)=0):zjk (c::t)=(65533,1):=by
 have hlt:=c.toNat_lt;have he:Utf8.runeError=65533:=rfl;unfold zjk;simp only[jd,je,jW,ja,he];rw[if_neg (by omega)];rw[qt1,if_neg (by omega)]at hs;split
 ·
  rename_i h1;simp only[jj,beq_iff_eq,kde]at h1;split
  ·rename_i h2
   exfalso;cases t with
   | nil=>simp at h1
   | cons d t=>
    simp only[jd,jW]at h1 h2;rw[if_neg (by omega)]at hs;simp only[qpz.2 h1.2.2,jR,if_false]at hs;rw[if_pos (by omega)]at hs;cases hs
  ·rfl
 split
 ·rename_i h0 h1
  simp only[jj,beq_iff_eq,kde]at h1;split
  ·rename_i h2
   exfalso;rw[jj,kde]at h2;cases t with
   | nil=>simp at h1
   | cons d t=>
    cases t with
    | nil=>simp at h1
    | cons e t=>
     simp only[jd,je,jW]at h1 h2;rw[if_neg (by omega)]at hs;simp only[qpz.2 h1.1.2.2,qpz.2 h1.2.2,jR,if_false,false_or]at hs;rw[if_neg (by omega)]at hs;have hv:=h2.2;rw[if_neg (by
      rintro(⟨a,b⟩|⟨a,b⟩)
      ·omega
      rw[zf4 (by left; omega)]at hv; cases hv),if_pos (by omega)]at hs
     cases hs
  ·rfl
 split
 ·rename_i h00 h0 h1
  simp only[jj,beq_iff_eq,kde]at h1;split
  ·rename_i h2
   exfalso;rw[jj,kde]at h2;cases t with
   | nil=>simp at h1
   | cons d t=>
    cases t with
    | nil=>simp at h1
    | cons e t=>
     cases t with
     | nil=>simp at h1
     | cons f t=>
      simp only[jd,je,jW]at h1 h2;have hv:=h2.2;have h244:¬ 244<c.toNat:=fun h=>by
       rw[zf4 (by right; omega)]at hv; cases hv
      rw[if_neg (by omega)]at hs;simp only[qpz.2 h1.1.1.2.2,qpz.2 h1.1.2.2,qpz.2 h1.2.2,jR,if_false,false_or]at hs;rw[if_neg (by omega),if_neg (by omega),if_neg (by omega),if_neg (by
       rintro(⟨a,b⟩|⟨a,b⟩)
       ·omega
       rw[zf4 (by right; omega)]at hv; cases hv)]at hs
      cases hs
  ·rfl
 rfl
theorem zko (n:Nat) {l:List UInt8} {i:Nat} (h:l.length<=1073741824):qri n l (i:Int)=some (match l[i]? with|some b=>ctB b|none=>false):=by
 unfold qri;cases hi:l[i]? with
 | none=>
  have hl:l.length<=i:=List.getElem?_eq_none_iff.1 hi;rw[kdf (by omega:¬ (i:Int)<((l.length:Nat):Int))];rfl
 | some b=>
  have hl:=qbl hi;rw[qa5 hl];simp only[qaj hi,qc3,qad,kct];unfold ctB;by_cases h1:128<=b.toNat
  ·rw[kdt (by omega:(b.toNat:Int)≥128)]
   simp only[qc3,qad,kct];exact congrArg some (decide_eq_decide.2 (by omega))
  rw[kdf (by omega:¬ (b.toNat:Int)≥128)];simp only[qaw,kcf,qad];rw[kdf (by omega)]
theorem zvr (n:Nat) {l:List UInt8} {i:Nat} (h:l.length<=1073741824) (hi:i<=l.length):qts n l (i:Int)=some ((qmj (l.drop i):Nat):Int):=by
 unfold qts;by_cases he:i=l.length
 ·rw[kdt (by omega:(i:Int)≥((l.length:Nat):Int)),kct,List.drop_eq_nil_of_le (by omega)]
  rfl
 rw[kdf (by omega:¬ (i:Int)≥((l.length:Nat):Int)),kcf];have hx:=jf (show i<l.length by omega);have hd:l.drop i=l[i]::l.drop (i+1):=jo (by omega);generalize l[i]=c at hx hd;have t1:=zko n (i:=i+1) h;have t2:=zko n (i:=i+2) h;have t3:=zko n (i:=i+3) h;have g1:l[i+1]? =(l.drop (i+1))[0]?:=by rw[jE]
 have g2:l[i+2]? =(l.drop (i+1))[1]?:=by rw[jE]
 have g3:l[i+3]? =(l.drop (i+1))[2]?:=by rw[jE]
 rw[g1]at t1;rw[g2]at t2;rw[g3]at t3;rw[hd];have w1:kwr .i64 ((i:Int)+1)=((i+1:Nat):Int):=qb7 (by omega);have w2:kwr .i64 ((i:Int)+2)=((i+2:Nat):Int):=by rw[qw3 (by omega) (by omega)]; omega
 have w3:kwr .i64 ((i:Int)+3)=((i+3:Nat):Int):=by rw[qw3 (by omega) (by omega)]; omega
 simp only[qaj hx,qad,w1,w2,w3,t1,t2,t3];generalize hT:l.drop (i+1)=t at *;rw[qt1];by_cases h128:c.toNat<128
 ·rw[kdt (by omega:(c.toNat:Int)<128),kct,if_pos h128]; rfl
 rw[kdf (by omega:¬ (c.toNat:Int)<128),kcf,if_neg h128];by_cases h194:c.toNat<194\/244<c.toNat
 ·rw[if_pos h194]
  have:(bif decide ((c.toNat:Int)<194)then true else decide ((c.toNat:Int)>244))=true:=by
   rcases h194 with h|h
   ·rw[kdt (by omega:(c.toNat:Int)<194)]; rfl
   rw[kdt (by omega:(c.toNat:Int)>244)]; cases decide ((c.toNat:Int)<194)<;>rfl
  rw[this]; rfl
 rw[if_neg h194];have:(bif decide ((c.toNat:Int)<194)then true else decide ((c.toNat:Int)>244))=false:=by
  rw[kdf (by omega:¬ (c.toNat:Int)<194),kdf (by omega:¬ (c.toNat:Int)>244)]; rfl
 rw[this];simp only[jp,qc3,qad,kcf];cases t with
 | nil=>rfl
 | cons d t=>
  simp only[jd,je];cases hcd:ctB d with
  | false=>rfl
  | true=>
   simp only[jq,kcf,jR,if_false];have hd1:l[i+1]? =some d:=by rw[g1]; rfl
   by_cases h224:c.toNat<224
   ·rw[kdt (by omega:(c.toNat:Int)<224),kct,if_pos h224]; rfl
   rw[kdf (by omega:¬ (c.toNat:Int)<224),kcf,if_neg h224,qaj hd1,qad];cases t with
   | nil=>rfl
   | cons e t=>
    simp only[jd,je];have hb:∀ (x y:Bool) (p q r s:Prop) [Decidable p] [Decidable q] [Decidable r] [Decidable s],True:=fun _ _ _ _ _ _=>trivial
    have hq:(bif bif !ctB e then true else bif((c.toNat:Int)==224)then decide ((d.toNat:Int)<160)else false then true else bif((c.toNat:Int)==237)then decide ((d.toNat:Int)≥160)else false)=decide (ctB e=false\/(c.toNat=224/\d.toNat<160)\/(c.toNat=237/\160<=d.toNat)):=by
     cases ctB e with
     | false=>simp
     | true=>
      by_cases a:c.toNat=224
      ·have a2:((c.toNat:Int)==224)=true:=by rw[beq_iff_eq]; omega
       have a3:((c.toNat:Int)==237)=false:=by rw[kbf]; omega
       rw[a2,a3];simp only[jq,kcf,kct];by_cases b:d.toNat<160
       ·rw[kdt (by omega:(d.toNat:Int)<160),kdt (.inr (.inl ⟨a,b⟩))]; rfl
       rw[kdf (by omega:¬ (d.toNat:Int)<160),kdf (by rintro(h|⟨h,h'⟩|⟨h,h'⟩)<;>first|cases h; done|omega)]; rfl
      have a2:((c.toNat:Int)==224)=false:=by rw[kbf]; omega
      rw[a2];simp only[jq,kcf];by_cases b:c.toNat=237
      ·have b2:((c.toNat:Int)==237)=true:=by rw[beq_iff_eq]; omega
       rw[b2,kct];exact decide_eq_decide.2 ⟨fun h=>.inr (.inr ⟨b,by omega⟩),fun h=>by rcases h with h|⟨h,h'⟩|⟨h,h'⟩<;>first|cases h; done|omega⟩
      have b2:((c.toNat:Int)==237)=false:=by rw[kbf]; omega
      rw[b2,kcf,kdf (by rintro(h|⟨h,h'⟩|⟨h,h'⟩)<;>first|cases h; done|omega)]
    rw[hq];by_cases hz:ctB e=false\/(c.toNat=224/\d.toNat<160)\/(c.toNat=237/\160<=d.toNat)
    ·rw[kdt hz,kct,if_pos hz]; rfl
    rw[kdf hz,kcf,if_neg hz];by_cases h240:c.toNat<240
    ·rw[kdt (by omega:(c.toNat:Int)<240),kct,if_pos h240]; rfl
    rw[kdf (by omega:¬ (c.toNat:Int)<240),kcf,if_neg h240];cases t with
    | nil=>rfl
    | cons f t=>
     simp only[jd];have hq:(bif bif !ctB f then true else bif((c.toNat:Int)==240)then decide ((d.toNat:Int)<144)else false then true else bif((c.toNat:Int)==244)then decide ((d.toNat:Int)≥144)else false)=decide (ctB f=false\/(c.toNat=240/\d.toNat<144)\/(c.toNat=244/\144<=d.toNat)):=by
      cases ctB f with
      | false=>simp
      | true=>
       by_cases a:c.toNat=240
       ·have a2:((c.toNat:Int)==240)=true:=by rw[beq_iff_eq]; omega
        have a3:((c.toNat:Int)==244)=false:=by rw[kbf]; omega
        rw[a2,a3];simp only[jq,kcf,kct];by_cases b:d.toNat<144
        ·rw[kdt (by omega:(d.toNat:Int)<144),kdt (.inr (.inl ⟨a,b⟩))]; rfl
        rw[kdf (by omega:¬ (d.toNat:Int)<144),kdf (by rintro(h|⟨h,h'⟩|⟨h,h'⟩)<;>first|cases h; done|omega)]; rfl
       have a2:((c.toNat:Int)==240)=false:=by rw[kbf]; omega
       rw[a2];simp only[jq,kcf];by_cases b:c.toNat=244
       ·have b2:((c.toNat:Int)==244)=true:=by rw[beq_iff_eq]; omega
        rw[b2,kct];exact decide_eq_decide.2 ⟨fun h=>.inr (.inr ⟨b,by omega⟩),fun h=>by rcases h with h|⟨h,h'⟩|⟨h,h'⟩<;>first|cases h; done|omega⟩
       have b2:((c.toNat:Int)==244)=false:=by rw[kbf]; omega
       rw[b2,kcf,kdf (by rintro(h|⟨h,h'⟩|⟨h,h'⟩)<;>first|cases h; done|omega)]
     rw[hq];by_cases hz:ctB f=false\/(c.toNat=240/\d.toNat<144)\/(c.toNat=244/\144<=d.toNat)
     ·rw[kdt hz,kct,if_pos hz]; rfl
     rw[kdf hz,kcf,if_neg hz]; rfl
end W
end
section
open Go Ax
namespace W
def zuv (x:Nat):UInt8:=([48,49,50,51,52,53,54,55,56,57,97,98,99,100,101,102]:List UInt8).getD x 0
def zc1 (c:UInt8):List UInt8:=[zuv (c.toNat / 16),zuv (c.toNat % 16)]
def zdb:List UInt8->List UInt8
 | []=>[]
 | c::t=>
  if qmj (c::t)=0\/c.toNat=127 then 92::120::zc1 c
  else if c.toNat=39\/c.toNat=92 then[92,c]
  else if c.toNat=10 then[92,110]
  else if c.toNat=9 then[92,116]
  else if c.toNat=13 then[92,114]
  else if c.toNat<32 then 92::120::zc1 c
  else(c::t).take (qmj (c::t))
theorem qx5 (c:UInt8) (t:List UInt8):zdb (c::t)=if qmj (c::t)=0\/c.toNat=127 then 92::120::zc1 c
  else if c.toNat=39\/c.toNat=92 then[92,c]
  else if c.toNat=10 then[92,110]
  else if c.toNat=9 then[92,116]
  else if c.toNat=13 then[92,114]
  else if c.toNat<32 then 92::120::zc1 c
  else(c::t).take (qmj (c::t)):=rfl
def q8d (s:List UInt8):Nat:=if qmj s=0 then 1 else qmj s
def qrc:Nat->List UInt8->List UInt8
 | 0,_=>[]
 | _+1,[]=>[]
 | g+1,c::t=>zdb (c::t)++qrc g ((c::t).drop (q8d (c::t)))
theorem zde (g:Nat):qrc g []=[]:=by cases g<;>rfl
def q6n (s:List UInt8):List UInt8:=39::(qrc s.length s++[39])
theorem q8c (s:List UInt8):qmj s<=4/\qmj s<=s.length:=by
 cases s with
 | nil=>exact⟨by decide,by decide⟩
 | cons c t=>
  rw[qt1];split
  ·exact⟨by decide,by simp only[ja]; omega⟩
  split
  ·exact⟨by decide,by omega⟩
  cases t with
  | nil=>exact⟨jT _,jT _⟩
  | cons d t=>
   simp only;split
   ·exact⟨by decide,by omega⟩
   split
   ·exact⟨by decide,by simp only[ja]; omega⟩
   cases t with
   | nil=>exact⟨jT _,jT _⟩
   | cons e t=>
    simp only;split
    ·exact⟨by decide,by omega⟩
    split
    ·exact⟨by decide,by simp only[ja]; omega⟩
    cases t with
    | nil=>exact⟨jT _,jT _⟩
    | cons f t=>
     simp only;split
     ·exact⟨by decide,by omega⟩
     exact⟨by decide,by simp only[ja]; omega⟩
theorem q4l {c:UInt8} {t:List UInt8} (h:c.toNat<128):qmj (c::t)=1:=by rw[qt1,if_pos h]
theorem zrf {c:UInt8} {t:List UInt8}:1<=q8d (c::t)/\q8d (c::t)<=(c::t).length:=by
 have:=(q8c (c::t)).2;unfold q8d;split
 ·simp
 omega
theorem zmo (s:List UInt8):(zdb s).length<=4:=by
 cases s with
 | nil=>simp[zdb]
 | cons c t=>
  have:=(q8c (c::t)).1;have hh:(zc1 c).length=2:=rfl;rw[qx5]
  repeat' split
  all_goals simp only[ja,jc,ju,hh]
  all_goals omega
theorem zdd:∀ (g:Nat) (s:List UInt8),(qrc g s).length<=4 * g
 | 0,s=>by simp[qrc]
 | g+1,[]=>by simp[qrc]
 | g+1,c::t=>by
  have h1:=zmo (c::t);have h2:=zdd g ((c::t).drop (q8d (c::t)));simp only[qrc,jb];omega
theorem zjn:∀ m:Fin 256,qwj 0 ((m.val:Nat):Int)=some [zuv (m.val / 16),zuv (m.val % 16)] /\
  idx ([48,49,50,51,52,53,54,55,56,57,97,98,99,100,101,102]:List UInt8) (Int.fdiv ((m.val:Nat):Int) (2 ^ (min (Int.toNat (4:Int)) (kbt .u8))))=some (zuv (m.val / 16)) /\
  idx ([48,49,50,51,52,53,54,55,56,57,97,98,99,100,101,102]:List UInt8) (kwr .u8 (((js (kbt .u8) ((m.val:Nat):Int) &&& js (kbt .u8) (15:Int)).toNat:Nat):Int))=some (zuv (m.val % 16)):=by decide +kernel
theorem zt1 (n:Nat) (c:UInt8):qwj n ((c.toNat:Nat):Int)=some (zc1 c):=(zjn ⟨c.toNat,c.toNat_lt⟩).1
theorem zlt:(∀ x:Fin 32,u8I (kwr .u8 (((js (kbt .u8) (192:Int) ||| js (kbt .u8) ((x.val:Nat):Int)).toNat:Nat):Int))=some (UInt8.ofNat (192+x.val))) /\
  (∀ x:Fin 16,u8I (kwr .u8 (((js (kbt .u8) (224:Int) ||| js (kbt .u8) ((x.val:Nat):Int)).toNat:Nat):Int))=some (UInt8.ofNat (224+x.val))) /\
  (∀ x:Fin 8,u8I (kwr .u8 (((js (kbt .u8) (240:Int) ||| js (kbt .u8) ((x.val:Nat):Int)).toNat:Nat):Int))=some (UInt8.ofNat (240+x.val))) /\
  (∀ y:Fin 256,u8I (kwr .u8 (((js (kbt .u8) (128:Int) ||| js (kbt .u8) (kwr .u8 (((js (kbt .u8) ((y.val:Nat):Int) &&& js (kbt .u8) (63:Int)).toNat:Nat):Int))).toNat:Nat):Int))=some (UInt8.ofNat (128+y.val % 64))):=by decide +kernel
theorem zyk {x:Nat} (h:x<32):u8I (kwr .u8 (((js (kbt .u8) (192:Int) ||| js (kbt .u8) ((x:Nat):Int)).toNat:Nat):Int))=some (UInt8.ofNat (192+x)):=zlt.1 ⟨x,h⟩
theorem zyl {x:Nat} (h:x<16):u8I (kwr .u8 (((js (kbt .u8) (224:Int) ||| js (kbt .u8) ((x:Nat):Int)).toNat:Nat):Int))=some (UInt8.ofNat (224+x)):=zlt.2.1 ⟨x,h⟩
theorem zym {x:Nat} (h:x<8):u8I (kwr .u8 (((js (kbt .u8) (240:Int) ||| js (kbt .u8) ((x:Nat):Int)).toNat:Nat):Int))=some (UInt8.ofNat (240+x)):=zlt.2.2.1 ⟨x,h⟩
theorem zv5 {y:Nat} (h:y<256):u8I (kwr .u8 (((js (kbt .u8) (128:Int) ||| js (kbt .u8) (kwr .u8 (((js (kbt .u8) ((y:Nat):Int) &&& js (kbt .u8) (63:Int)).toNat:Nat):Int))).toNat:Nat):Int))=some (UInt8.ofNat (128+y % 64)):=zlt.2.2.2 ⟨y,h⟩
theorem fdn (r k:Nat):Int.fdiv (r:Int) ((k:Nat):Int)=((r / k:Nat):Int):=by
 rw[Int.fdiv_eq_ediv_of_nonneg _ (by omega)]; rfl
theorem fd6 (r:Nat):Int.fdiv (r:Int) (2 ^ (min (Int.toNat (6:Int)) (kbt .i32)))=((r / 64:Nat):Int):=fdn r 64
theorem zyb (r:Nat):Int.fdiv (r:Int) (2 ^ (min (Int.toNat (12:Int)) (kbt .i32)))=((r / 4096:Nat):Int):=fdn r 4096
theorem zyj (r:Nat):Int.fdiv (r:Int) (2 ^ (min (Int.toNat (18:Int)) (kbt .i32)))=((r / 262144:Nat):Int):=fdn r 262144
theorem u8w (r:Nat):kwr .u8 (r:Int)=((r % 256:Nat):Int):=by
 show(r:Int) % (2 ^ 8:Int)=_;omega
theorem zyf {r:Nat} (h:r<4294967296):kwr .u32 (r:Int)=(r:Int):=by
 show(r:Int) % (2 ^ 32:Int)=_;omega
theorem bOf {m:Nat} {c:UInt8} (h:m=c.toNat):UInt8.ofNat m=c:=by subst h; exact UInt8.ofNat_toNat
theorem zkp (l:List UInt8) (i k:Nat):(l.take (i+k)).drop i=(l.drop i).take k:=by
 rw[List.drop_take,Nat.add_sub_cancel_left]
section
variable {n:Nat} {l:List UInt8} (hl:8 * l.length+64<=1073741824)
include hl
theorem zsw:∀ (g i f:Nat) (acc:List UInt8),i<=l.length->l.length - i<=g->l.length - i<f->acc.length+4 * (l.length - i)<=4 * l.length+16 ->
  qam (qez n l) f (acc,(i:Int))=some (acc++(qrc g (l.drop i)++[39])):=by
 intro g
 induction g with
 | zero=>
  intro i f acc hi hg hf ha;obtain⟨f,rfl⟩:=jk (by omega:f≠0);have:i=l.length:=by omega
  subst this;rw[qa1];generalize qam (qez n l) f=nx;unfold qez
  dsimp only
  rw[qar,kcf];rw[qa0 (qbs (by simp only[ja,jc]; omega))];rfl
 | succ g ih=>
  intro i f acc hi hg hf ha;obtain⟨f,rfl⟩:=jk (by omega:f≠0);rw[qa1];by_cases he:i=l.length
  ·subst he
   rw[List.drop_length,zde];generalize qam (qez n l) f=nx;unfold qez
   dsimp only
   rw[qar,kcf];rw[qa0 (qbs (by simp only[ja,jc]; omega))];rfl
  have hlt:i<l.length:=by omega
  have hx:=jf hlt;have hd:l.drop i=l[i]::l.drop (i+1):=jo hlt;have hsg:=zvr n (l:=l) (i:=i) (by omega) hi;have hstp:=zrf (c:=l[i]) (t:=l.drop (i+1));have hsle:=q8c (l[i]::l.drop (i+1));have hnext:∀ (p:List UInt8) (j:Nat),p.length<=4->j=i+q8d (l[i]::l.drop (i+1))->qam (qez n l) f (acc++p,(j:Int))=some (acc++(p++qrc g ((l[i]::l.drop (i+1)).drop (q8d (l[i]::l.drop (i+1))))++[39])):=by
   intro p j hp hj;subst hj;have hlen:(l[i]::l.drop (i+1)).length=l.length - i:=by rw[← hd,jN]
   rw[ih (i+q8d (l[i]::l.drop (i+1))) f (acc++p) (by omega) (by omega) (by omega) (by rw[jb]; omega)];rw[← hd,List.drop_drop];simp
  rw[hd]at hsg;rw[hd,qrc];have hlen:(l[i]::l.drop (i+1)).length=l.length - i:=by rw[← hd,jN]
  have hsl:∀ k,(l.take (i+k)).drop i=(l[i]::l.drop (i+1)).take k:=fun k=>by rw[zkp,hd]
  generalize l[i]=c at *;generalize l.drop (i+1)=t at *;generalize qam (qez n l) f=nx at hnext ⊢;unfold qez
  dsimp only[qfi]
  rw[qa5 hlt,kct,hsg,qad,qaj hx,qad];rw[qx5];have hwk:∀ k:Nat,k<=4->kwr .i64 ((i:Int)+((k:Nat):Int))=((i+k:Nat):Int):=fun k hk=>by rw[qw3 (by omega) (by omega)]; omega
  have hhl:(zc1 c).length=2:=rfl;by_cases h0:qmj (c::t)=0\/c.toNat=127
  ·rw[if_pos h0]
   have hb:(bif((qmj (c::t):Nat):Int)==0 then true else((c.toNat:Nat):Int)==127)=true:=by
    rcases h0 with h|h
    ·rw[h]; rfl
    rw[h]; cases(((qmj (c::t):Nat):Int)==0)<;>rfl
   have hst:q8d (c::t)=1:=by
    unfold q8d;rcases h0 with h|h
    ·rw[if_pos h]
    rw[q4l (by omega)]; rfl
   rw[hb,kct,qa0 (qbs (by simp only[ja,jc]; omega)),zt1,qad,qa0 (qbs (by simp only[jb,ja,jc]; omega))];rw[show kwr .i64 ((i:Int)+1)=((i+1:Nat):Int)from hwk 1 (by omega)];rw[show(acc++[92,120])++zc1 c=acc++(92::120::zc1 c)from by simp,hnext _ (i+1) (by simp[hhl]) (by rw[hst])]
  rw[if_neg h0];simp only[not_or]at h0;obtain⟨h0,h127⟩:=h0;have hst:q8d (c::t)=qmj (c::t):=by unfold q8d; rw[if_neg h0]
  have hb:(bif((qmj (c::t):Nat):Int)==0 then true else((c.toNat:Nat):Int)==127)=false:=by
   rw[show(((qmj (c::t):Nat):Int)==0)=false from by rw[kbf]; omega,show(((c.toNat:Nat):Int)==127)=false from by rw[kbf]; omega]; rfl
  rw[hb,kcf];by_cases h39:c.toNat=39\/c.toNat=92
  ·rw[if_pos h39]
   have h1:qmj (c::t)=1:=q4l (by omega);have hb:(bif((c.toNat:Nat):Int)==39 then true else((c.toNat:Nat):Int)==92)=true:=by
    rcases h39 with h|h<;>rw[h]<;>rfl
   rw[hb,kct,qa0 (qbs (by simp only[ja,jc]; omega)),show kwr .i64 ((i:Int)+1)=((i+1:Nat):Int)from hwk 1 (by omega),qkb,qad,qkb,qad,qa0 (kdt ⟨by omega,by omega⟩),hsl 1];rw[show(c::t).take 1=[c]from rfl,qa0 (qbs (by simp only[jb,ja,jc]; omega)),hwk _ hsle.1];rw[show(acc++[92])++[c]=acc++[92,c]from by simp,hnext _ (i+qmj (c::t)) (by simp) (by rw[hst])]
  rw[if_neg h39];simp only[not_or]at h39;have hb:(bif((c.toNat:Nat):Int)==39 then true else((c.toNat:Nat):Int)==92)=false:=by
   rw[show(((c.toNat:Nat):Int)==39)=false from by rw[kbf]; omega,show(((c.toNat:Nat):Int)==92)=false from by rw[kbf]; omega]; rfl
  rw[hb,kcf];by_cases h10:c.toNat=10
  ·rw[if_pos h10,show(((c.toNat:Nat):Int)==10)=true from by rw[beq_iff_eq]; omega,kct,qa0 (qbs (by simp only[ja,jc]; omega)),hwk _ hsle.1,hnext _ (i+qmj (c::t)) (by simp) (by rw[hst])]
  rw[if_neg h10,show(((c.toNat:Nat):Int)==10)=false from by rw[kbf]; omega,kcf];by_cases h9:c.toNat=9
  ·rw[if_pos h9,show(((c.toNat:Nat):Int)==9)=true from by rw[beq_iff_eq]; omega,kct,qa0 (qbs (by simp only[ja,jc]; omega)),hwk _ hsle.1,hnext _ (i+qmj (c::t)) (by simp) (by rw[hst])]
  rw[if_neg h9,show(((c.toNat:Nat):Int)==9)=false from by rw[kbf]; omega,kcf];by_cases h13:c.toNat=13
  ·rw[if_pos h13,show(((c.toNat:Nat):Int)==13)=true from by rw[beq_iff_eq]; omega,kct,qa0 (qbs (by simp only[ja,jc]; omega)),hwk _ hsle.1,hnext _ (i+qmj (c::t)) (by simp) (by rw[hst])]
  rw[if_neg h13,show(((c.toNat:Nat):Int)==13)=false from by rw[kbf]; omega,kcf];by_cases h32:c.toNat<32
  ·rw[if_pos h32,kdt (by omega:((c.toNat:Nat):Int)<32),kct,qa0 (qbs (by simp only[ja,jc]; omega)),zt1,qad,qa0 (qbs (by simp only[jb,ja,jc]; omega)),hwk _ hsle.1]
   rw[show(acc++[92,120])++zc1 c=acc++(92::120::zc1 c)from by simp,hnext _ (i+qmj (c::t)) (by simp[hhl]) (by rw[hst])]
  rw[if_neg h32,kdf (by omega:¬ ((c.toNat:Nat):Int)<32),kcf,hwk _ hsle.1,qkb,qad,qkb,qad,qa0 (kdt ⟨by omega,by omega⟩),hsl,qa0 (qbs (by rw[ju]; omega))];rw[hnext _ (i+qmj (c::t)) (by rw[ju]; omega) (by rw[hst])]
theorem zqi (hn:l.length<n):qt5 n l=some (q6n l):=by
 unfold qt5 q6n;have:=zsw (n:=n) hl l.length 0 n [39] (by omega) (by omega) (by omega) (by simp only[ja,jc]; omega);exact this
end
end W
end
section
open Go Ax
namespace W
theorem zqe (n:Nat) (s p:List UInt8):qgg n s p=some (decide (p.length<=s.length)&&s.take p.length==p):=by
 unfold qgg qed;by_cases h:p.length<=s.length
 ·rw[kdt (by omega:((s.length:Nat):Int)≥((p.length:Nat):Int)),kdt h]
  simp only[qkb,qc3,qad,kct];rw[qa0 (kdt h)];rfl
 rw[kdf (by omega:¬ ((s.length:Nat):Int)≥((p.length:Nat):Int)),kdf h];rfl
theorem zk1 {c:UInt8} {t:List UInt8} {k:Nat} (hk:qmj (c::t)=k+2):∃ r:Nat,zjk (c::t)=(r,k+2)/\128<=r/\r<=1114111/\194<=c.toNat /\
  ((k=0/\r<=2047/\(c::t).take 2=[UInt8.ofNat (192+r / 64 % 256),UInt8.ofNat (128+r % 256 % 64)]) \/
   (k=1/\2048<=r/\r<=65535/\(r<55296\/57343<r)/\(c::t).take 3=[UInt8.ofNat (224+r / 4096 % 256),UInt8.ofNat (128+r / 64 % 256 % 64),UInt8.ofNat (128+r % 256 % 64)]/\(r=65533->(c::t).take 3=[239,191,189])) \/
   (k=2/\65536<=r/\(c::t).take 4=[UInt8.ofNat (240+r / 262144 % 256),UInt8.ofNat (128+r / 4096 % 256 % 64),UInt8.ofNat (128+r / 64 % 256 % 64),UInt8.ofNat (128+r % 256 % 64)])):=by
 rw[qt1]at hk;split at hk
 ·omega
 rename_i h128;split at hk
 ·omega
 rename_i h194;cases t with
 | nil=>cases hk
 | cons d t=>
  simp only at hk;split at hk
  ·omega
  rename_i hcd;simp only[Bool.not_eq_false]at hcd;have hd:=qpz.1 hcd;have hdl:=d.toNat_lt;split at hk
  ·rename_i h224
   obtain rfl:k=0:=by omega
   refine⟨_,zwl (by omega) h224 hcd,by omega,by omega,by omega,.inl ⟨rfl,by omega,?_⟩⟩;rw[bOf (c:=c) (by omega),bOf (c:=d) (by omega)];rfl
  rename_i h224;cases t with
  | nil=>cases hk
  | cons e t=>
   simp only at hk;split at hk
   ·omega
   rename_i hne;simp only[not_or,Bool.not_eq_false]at hne;obtain⟨hce,hx,hy⟩:=hne;have he:=qpz.1 hce;have hel:=e.toNat_lt;split at hk
   ·rename_i h240
    obtain rfl:k=1:=by omega
    refine⟨_,zwm (by omega) h240 hcd hce hx hy,by omega,by omega,by omega,.inr (.inl ⟨rfl,by omega,by omega,by omega,?_,fun h=>?_⟩)⟩
    ·rw[bOf (c:=c) (by omega),bOf (c:=d) (by omega),bOf (c:=e) (by omega)]
     rfl
    have e1:c=239:=jU.1 (by show c.toNat=239; omega);have e2:d=191:=jU.1 (by show d.toNat=191; omega);have e3:e=189:=jU.1 (by show e.toNat=189; omega);rw[e1,e2,e3];rfl
   rename_i h240;cases t with
   | nil=>cases hk
   | cons f t=>
    simp only at hk;split at hk
    ·omega
    rename_i hne;simp only[not_or,Bool.not_eq_false]at hne;obtain⟨hcf,hx2,hy2⟩:=hne;have hf:=qpz.1 hcf;have hfl:=f.toNat_lt;obtain rfl:k=2:=by omega
    refine⟨_,zwn (by omega) (by omega) hcd hce hcf hx2 hy2,by omega,by omega,by omega,.inr (.inr ⟨rfl,by omega,?_⟩)⟩;rw[bOf (c:=c) (by omega),bOf (c:=d) (by omega),bOf (c:=e) (by omega),bOf (c:=f) (by omega)];rfl
theorem ztc {t:List UInt8}:qmj ((239:UInt8)::191::189::t)=3:=rfl
theorem ztt {s:List UInt8} (h:s.length<=1073741824):decide ((qau s).length * 1<=140737488355328)=true:=kdt (by rw[zgy]; omega)
section
variable {n:Nat} {l:List UInt8} (hl:8 * l.length+64<=1073741824)
include hl
theorem zqy:∀ (g i f:Nat) (acc:List UInt8),i<=l.length->l.length - i<=g->l.length - i<f->acc.length+4 * (l.length - i)<=4 * l.length+16 ->
  qam (qfr n l) f (acc,i)=some (acc++(qrc g (l.drop i)++[39])):=by
 intro g;have hend:∀ (acc:List UInt8) (nx:List UInt8×Nat->Option (List UInt8)),acc.length<=4 * l.length+16->qfr n l nx (acc,l.length)=some (acc++[39]):=by
  intro acc nx ha;unfold qfr
  dsimp only
  rw[kdf (Nat.lt_irrefl _),kcf,qa0 (ztt (by rw[jb]; simp only[ja,jc]; omega))]
 induction g with
 | zero=>
  intro i f acc hi hg hf ha;obtain⟨f,rfl⟩:=jk (by omega:f≠0);have:i=l.length:=by omega
  subst this;rw[qa1,hend acc _ (by omega)];rfl
 | succ g ih=>
  intro i f acc hi hg hf ha;obtain⟨f,rfl⟩:=jk (by omega:f≠0);rw[qa1];by_cases he:i=l.length
  ·subst he
   rw[List.drop_length,zde,hend acc _ (by omega)];rfl
  have hlt:i<l.length:=by omega
  have hx:=jf hlt;have hd:l.drop i=l[i]::l.drop (i+1):=jo hlt;have hstp:=zrf (c:=l[i]) (t:=l.drop (i+1));have hsle:=q8c (l[i]::l.drop (i+1));have hlen:(l[i]::l.drop (i+1)).length=l.length - i:=by rw[← hd,jN]
  have hnext:∀ (p:List UInt8) (j:Nat),p.length<=4->j=i+q8d (l[i]::l.drop (i+1))->qam (qfr n l) f (acc++p,j)=some (acc++(p++qrc g ((l[i]::l.drop (i+1)).drop (q8d (l[i]::l.drop (i+1))))++[39])):=by
   intro p j hp hj;subst hj;rw[ih (i+q8d (l[i]::l.drop (i+1))) f (acc++p) (by omega) (by omega) (by omega) (by rw[jb]; omega)];rw[← hd,List.drop_drop];simp
  have hrA:qa7 l i=(zjk (l[i]::l.drop (i+1))).1:=by unfold qa7; rw[ztu,hd]
  have hrB:qdz l i=i+(zjk (l[i]::l.drop (i+1))).2:=by unfold qdz; rw[ztu,hd]
  have hpre:=zqe n (l.drop i) [239,191,189];rw[hd]at hpre ⊢;rw[qrc];generalize hcc:l[i]=c at *;generalize htt:l.drop (i+1)=t at *;generalize qam (qfr n l) f=nx at hnext ⊢;have hhl:(zc1 c).length=2:=rfl;have hcl:=c.toNat_lt;have hB:∀ p:List UInt8,p.length<=8->decide ((qau (acc++p)).length * 1<=140737488355328)=true:=fun p hp=>ztt (by rw[jb]; omega)
  have hx1:=(zjn ⟨c.toNat,hcl⟩).2.1;have hx2:=(zjn ⟨c.toNat,hcl⟩).2.2;simp only at hx1 hx2;have hcode:∀ j,j=i+q8d (c::t)->(chk (decide ((qau (acc++([92,120]:List UInt8))).length * 1<=140737488355328)) (
    bnd (idx ([48,49,50,51,52,53,54,55,56,57,97,98,99,100,101,102]:List UInt8) (Int.fdiv ((c.toNat:Nat):Int) (2 ^ (min (Int.toNat (4:Int)) (kbt .u8))))) fun a=>
    chk (decide ((qau ((acc++([92,120]:List UInt8))++[a])).length * 1<=140737488355328)) (
    bnd (idx ([48,49,50,51,52,53,54,55,56,57,97,98,99,100,101,102]:List UInt8) (kwr .u8 (((js (kbt .u8) ((c.toNat:Nat):Int) &&& js (kbt .u8) (15:Int)).toNat:Nat):Int))) fun m=>
    chk (decide ((qau (((acc++([92,120]:List UInt8))++[a])++[m])).length * 1<=140737488355328)) (
    nx ((((acc++([92,120]:List UInt8))++[a])++[m]),j)))))=some (acc++(92::120::zc1 c++qrc g ((c::t).drop (q8d (c::t)))++[39])):=by
   intro j hj;rw[qa0 (hB _ (by simp)),hx1,qad,jt,qa0 (hB _ (by simp)),hx2,qad,jt,qa0 (hB _ (by simp))];exact hnext (92::120::zc1 c) j (by simp[hhl]) hj
  unfold qfr
  dsimp only
  rw[kdt hlt,kct,kct,hrA,hrB,qx5];have hi0:idx l ((i:Nat):Int)=some c:=qaj hx;by_cases h0:qmj (c::t)=0
  ·
   have h128:128<=c.toNat:=Decidable.byContradiction fun h=>by rw[q4l (by omega)]at h0; cases h0
   have hnp:(decide ((([239,191,189]:List UInt8).length)<=(c::t).length)&&(c::t).take (([239,191,189]:List UInt8).length)==([239,191,189]:List UInt8))=false:=by
    cases hb:(decide ((([239,191,189]:List UInt8).length)<=(c::t).length)&&(c::t).take (([239,191,189]:List UInt8).length)==([239,191,189]:List UInt8))with
    | false=>rfl
    | true=>
     exfalso;simp only[jj,kde,beq_iff_eq]at hb;have e:=hb.2
     match t,hb.1 with
     | d::e'::t',_=>
      simp only[ja,jc,List.take_succ_cons,List.take_zero,List.cons.injEq,and_true]at e;obtain⟨rfl,rfl,rfl⟩:=e;rw[ztc]at h0;cases h0
   have hst:q8d (c::t)=1:=by unfold q8d; rw[if_pos h0]
   rw[if_pos (.inl h0),zwk h128 h0];simp only;rw[show(bif(((65533:Nat):Int)==92)then true else(((65533:Nat):Int)==39))=false from rfl,kcf,show(((65533:Nat):Int)==10)=false from rfl,kcf,show(((65533:Nat):Int)==9)=false from rfl,kcf,show(((65533:Nat):Int)==13)=false from rfl,kcf];rw[show((!(bif decide (((65533:Nat):Int)<32)then true else(((65533:Nat):Int)==127)))&&(((65533:Nat):Int)==65533))=true from rfl,qkb,qc3,qad,kct,qa0 (kdt hi),hd,hpre,hnp,qc3,qad];rw[show(bif(bif decide (((65533:Nat):Int)<32)then true else(((65533:Nat):Int)==127))then true else(bif(((65533:Nat):Int)==65533)then(!false)else false))=true from rfl,kct,hi0,qad];exact hcode _ (by rw[hst])
  by_cases h128:c.toNat<128
  ·have h1:qmj (c::t)=1:=q4l h128
   have hst:q8d (c::t)=1:=by unfold q8d; rw[if_neg h0,h1]
   have hu:kwr .u32 ((c.toNat:Nat):Int)=((c.toNat:Nat):Int):=zyf (by omega);have hu8:u8I (kwr .u8 ((c.toNat:Nat):Int))=some c:=by rw[u8w,Nat.mod_eq_of_lt hcl]; exact zf3 c
   rw[zuq h128];simp only;rw[hu];by_cases h39:c.toNat=39\/c.toNat=92
   ·rw[if_neg (by omega),if_pos h39]
    rw[show(bif(((c.toNat:Nat):Int)==92)then true else(((c.toNat:Nat):Int)==39))=true from by rcases h39 with h|h<;>rw[h]<;>rfl,kct,qa0 (hB _ (by simp)),kdt (by omega:((c.toNat:Nat):Int)<=127),kct,hu8,qad,jt,qa0 (hB _ (by simp))]
    exact hnext [92,c] _ (by simp) (by rw[hst])
   simp only[not_or]at h39;rw[show(bif(((c.toNat:Nat):Int)==92)then true else(((c.toNat:Nat):Int)==39))=false from by
    rw[show(((c.toNat:Nat):Int)==92)=false from by rw[kbf]; omega,show(((c.toNat:Nat):Int)==39)=false from by rw[kbf]; omega]; rfl,kcf]
   by_cases h10:c.toNat=10
   ·rw[if_neg (by omega),if_neg (by omega),if_pos h10,show(((c.toNat:Nat):Int)==10)=true from by rw[h10]; rfl,kct,qa0 (hB _ (by simp))]
    exact hnext [92,110] _ (by simp) (by rw[hst])
   rw[show(((c.toNat:Nat):Int)==10)=false from by rw[kbf]; omega,kcf];by_cases h9:c.toNat=9
   ·rw[if_neg (by omega),if_neg (by omega),if_neg h10,if_pos h9,show(((c.toNat:Nat):Int)==9)=true from by rw[h9]; rfl,kct,qa0 (hB _ (by simp))]
    exact hnext [92,116] _ (by simp) (by rw[hst])
   rw[show(((c.toNat:Nat):Int)==9)=false from by rw[kbf]; omega,kcf];by_cases h13:c.toNat=13
   ·rw[if_neg (by omega),if_neg (by omega),if_neg h10,if_neg h9,if_pos h13,show(((c.toNat:Nat):Int)==13)=true from by rw[h13]; rfl,kct,qa0 (hB _ (by simp))]
    exact hnext [92,114] _ (by simp) (by rw[hst])
   rw[show(((c.toNat:Nat):Int)==13)=false from by rw[kbf]; omega,kcf];have hff:(((c.toNat:Nat):Int)==65533)=false:=by rw[kbf]; omega
   rw[hff,Bool.and_false];simp only[qaw,kcf,qad];rw[qa0 (by rfl:true=true)];by_cases hlo:c.toNat<32\/c.toNat=127
   ·rw[show(bif(bif decide (((c.toNat:Nat):Int)<32)then true else(((c.toNat:Nat):Int)==127))then true else false)=true from by
     rcases hlo with h|h
     ·rw[kdt (by omega:((c.toNat:Nat):Int)<32)]; rfl
     rw[h]; rfl,kct,hi0,qad]
    have hpc:(if qmj (c::t)=0\/c.toNat=127 then 92::120::zc1 c
      else if c.toNat=39\/c.toNat=92 then[92,c]
      else if c.toNat=10 then[92,110]
      else if c.toNat=9 then[92,116]
      else if c.toNat=13 then[92,114]
      else if c.toNat<32 then 92::120::zc1 c
      else(c::t).take (qmj (c::t)))=92::120::zc1 c:=by
     by_cases h127:c.toNat=127
     ·rw[if_pos (.inr h127)]
     rw[if_neg (by omega),if_neg (by omega),if_neg h10,if_neg h9,if_neg h13,if_pos (by omega)]
    rw[hpc];exact hcode _ (by rw[hst])
   simp only[not_or]at hlo;rw[show(bif(bif decide (((c.toNat:Nat):Int)<32)then true else(((c.toNat:Nat):Int)==127))then true else false)=false from by
    rw[kdf (by omega:¬ ((c.toNat:Nat):Int)<32),show(((c.toNat:Nat):Int)==127)=false from by rw[kbf]; omega]; rfl,kcf]
   rw[kdt (by omega:((c.toNat:Nat):Int)<=127),kct,hu8,qad,qa0 (hB _ (by simp))];rw[if_neg (by omega),if_neg (by omega),if_neg h10,if_neg h9,if_neg h13,if_neg hlo.1,h1];exact hnext [c] _ (by simp) (by rw[hst])
  
  have h1:qmj (c::t)≠1:=fun h=>by
   rw[qt1,if_neg h128]at h;split at h
   ·cases h
   split at h
   ·cases h
   split at h
   ·cases h
   split at h
   ·cases h
   split at h
   ·cases h
   split at h
   ·cases h
   split at h
   ·cases h
   split at h
   ·cases h
   split at h<;>cases h
  obtain⟨k,hk⟩:∃ k,qmj (c::t)=k+2:=⟨qmj (c::t) - 2,by omega⟩;obtain⟨r,hr,hr128,hrm,hc194,hcase⟩:=zk1 hk;have hst:q8d (c::t)=k+2:=by unfold q8d; rw[if_neg h0,hk]
  have hu:kwr .u32 ((r:Nat):Int)=((r:Nat):Int):=zyf (by omega);rw[hr];simp only;rw[hu];rw[if_neg (by omega),if_neg (by omega),if_neg (by omega),if_neg (by omega),if_neg (by omega),if_neg (by omega),hk];rw[show(bif(((r:Nat):Int)==92)then true else(((r:Nat):Int)==39))=false from by
   rw[show(((r:Nat):Int)==92)=false from by rw[kbf]; omega,show(((r:Nat):Int)==39)=false from by rw[kbf]; omega]; rfl,kcf,show(((r:Nat):Int)==10)=false from by rw[kbf]; omega,kcf,show(((r:Nat):Int)==9)=false from by rw[kbf]; omega,kcf,show(((r:Nat):Int)==13)=false from by rw[kbf]; omega,kcf]
  have hlow:(bif decide (((r:Nat):Int)<32)then true else(((r:Nat):Int)==127))=false:=by
   rw[kdf (by omega:¬ ((r:Nat):Int)<32),show(((r:Nat):Int)==127)=false from by rw[kbf]; omega]; rfl
  rw[hlow];have hgo:∀ (K:Option (List UInt8)) (C:UInt8->Option (List UInt8)),(bnd (qaw ((!false)&&(((r:Nat):Int)==65533)) (qwb ((i:Nat):Int))) fun b=>
    chk (bif((!false)&&(((r:Nat):Int)==65533))then decide (b<=l.length)else true) (
    bnd (qaw ((!false)&&(((r:Nat):Int)==65533)) (qgg n (l.drop b) ([239,191,189]:List UInt8))) fun o=>
    bif(bif false then true else(bif(((r:Nat):Int)==65533)then(!o)else false))then(bnd (idx l ((i:Nat):Int)) C)else K))=K:=by
   intro K C;by_cases hff:r=65533
   ·have hp3:(decide ((([239,191,189]:List UInt8).length)<=(c::t).length)&&(c::t).take (([239,191,189]:List UInt8).length)==([239,191,189]:List UInt8))=true:=by
     rcases hcase with ⟨_,h,_⟩|⟨hk1,_,_,_,_,h⟩|⟨_,h,_⟩
     ·omega
     ·have h3:=h hff
      have hle:=hsle.2;rw[hk,hk1]at hle;simp only[jj,kde,beq_iff_eq];exact⟨hle,h3⟩
     omega
    subst hff;rw[show((!false)&&(((65533:Nat):Int)==65533))=true from rfl,qkb,qc3,qad,kct,qa0 (kdt hi),hd,hpre,hp3,qc3,qad];rfl
   have:(((r:Nat):Int)==65533)=false:=by rw[kbf]; omega
   rw[this];rfl
  rw[hgo];rw[kdf (by omega:¬ ((r:Nat):Int)<=127),kcf];rcases hcase with ⟨rfl,hr1,hb⟩|⟨rfl,hr1,hr2,hr3,hb,_⟩|⟨rfl,hr1,hb⟩
  ·rw[kdt (by omega:((r:Nat):Int)<=2047),kct,fd6,u8w (r / 64),zyk (by omega),qad,u8w r,zv5 (by omega),qad,qa0 (hB _ (by simp))]
   have:=hnext ((c::t).take 2) (i+(0+2)) (by rw[ju]; omega) (by rw[hst]);rw[hb]at this;rw[show(c::t).take (0+2)=[UInt8.ofNat (192+r / 64 % 256),UInt8.ofNat (128+r % 256 % 64)]from hb];exact this
  ·rw[kdf (by omega:¬ ((r:Nat):Int)<=2047),kcf]
   have hk6:qig n l i acc nx true=some (acc++((c::t).take (1+2)++qrc g ((c::t).drop (q8d (c::t)))++[39])):=by
    unfold qig;rw[kct,kdt hlt,kct,hrA,hrB,hr]
    dsimp only
    rw[zyb,u8w (r / 4096),zyl (by omega),qad,fd6,u8w (r / 64),zv5 (by omega),qad,u8w r,zv5 (by omega),qad,qa0 (hB _ (by simp))];have:=hnext ((c::t).take 3) (i+(1+2)) (by rw[ju]; omega) (by rw[hst]);rw[hb]at this;rw[show(c::t).take (1+2)=[UInt8.ofNat (224+r / 4096 % 256),UInt8.ofNat (128+r / 64 % 256 % 64),UInt8.ofNat (128+r % 256 % 64)]from hb];exact this
   by_cases hs:r<55296
   ·rw[kdt (by omega:((r:Nat):Int)<55296),kct]
    exact hk6
   rw[kdf (by omega:¬ ((r:Nat):Int)<55296),kcf,kdt (by omega:(57343:Int)<((r:Nat):Int)),kct,kdt (by omega:((r:Nat):Int)<=65535)];exact hk6
  rw[kdf (by omega:¬ ((r:Nat):Int)<=2047),kcf,kdf (by omega:¬ ((r:Nat):Int)<55296),kcf,kdt (by omega:(57343:Int)<((r:Nat):Int)),kct,kdf (by omega:¬ ((r:Nat):Int)<=65535)];unfold qig;rw[kcf,kdt hlt,kct,hrA,hrB,hr]
  dsimp only
  rw[hu,kdt (by omega:((r:Nat):Int)>65535),kct,kdt (by omega:((r:Nat):Int)<=1114111),kct];rw[zyj,u8w (r / 262144),zym (by omega),qad,zyb,u8w (r / 4096),zv5 (by omega),qad,fd6,u8w (r / 64),zv5 (by omega),qad,u8w r,zv5 (by omega),qad,qa0 (hB _ (by simp))];have:=hnext ((c::t).take 4) (i+(2+2)) (by rw[ju]; omega) (by rw[hst]);rw[hb]at this;rw[show(c::t).take (2+2)=[UInt8.ofNat (240+r / 262144 % 256),UInt8.ofNat (128+r / 4096 % 256 % 64),UInt8.ofNat (128+r / 64 % 256 % 64),UInt8.ofNat (128+r % 256 % 64)]from hb];exact this
theorem zmz (hn:l.length<n):qsj n l=some (q6n l):=by
 unfold qsj q6n;rw[qa0 (ztt (by simp))];have:=zqy (n:=n) hl l.length 0 n [39] (by omega) (by omega) (by omega) (by simp only[ja,jc]; omega);exact this
end
end W
end
section
open Go Ax
namespace W
def kyS (s:List UInt8):List UInt8:=bif qdg s then s else q6n s
theorem zmq (s:List UInt8):(q6n s).length<=4 * s.length+2:=by
 have:=zdd s.length s;unfold q6n;simp only[ja,jb,jc];omega
theorem zph (s:List UInt8):(kyS s).length<=4 * s.length+2:=by
 have:=zmq s;unfold kyS;cases qdg s
 ·exact this
 show s.length<=_; omega
theorem zio {n:Nat} (hn:n<=1073741824) {s:List UInt8} (hl:8 * s.length+64<=1073741824) (h:s.length<n):qrr n s=some (kyS s):=by
 unfold qrr kyS;rw[qha h hn,qad];cases qdg s with
 | true=>rfl
 | false=>rw[kcf,kcf,zmz hl h]; rfl
theorem zqj {n:Nat} (hn:n<=1073741824) (h28:28<n) {s:List UInt8} (hl:8 * s.length+64<=1073741824) (h:s.length<n):qwk n s=some (kyS s):=by
 unfold qwk kyS;rw[qhm h h28 hn,qad];cases qdg s with
 | true=>rfl
 | false=>rw[kcf,kcf,zqi hl h]; rfl
def q4t (k:Int):List UInt8:=if k=1 then[102,108,111,119]else if k=2 then[119,104,111,108,101]else[119,114,105,116,101]
def qyy (x:qdj):List UInt8:=[59,32,115,101,101,107,32]++q4w x.clause++[32]++q4w x.path++[32]++kyS x.label++[46]++kyS x.key
def zjm (s:qao):List UInt8:=q4t s.kind++[32]++q4w s.from_++(if s.to≠s.from_ then[32,116,111,32]++q4w s.to else[])
def q23 (s:qao):List UInt8:=zjm s++s.seeks.flatMap qyy++[10]
def zwo (i:Int):Prop:=-9223372036854775808<=i/\i<=9223372036854775807
def isz (i:Int):Nat:=if -9223372036854775808<=i/\i<=9223372036854775807 then 1 else 1099511627776
theorem q96 (i:Int):1<=isz i:=by unfold isz; split<;>omega
def q26 (x:qdj):Nat:=isz x.clause+isz x.path+(1+x.label.length)+(1+x.key.length)+1
def qw2 (s:qao):Nat:=isz s.kind+isz s.from_+isz s.to+((s.seeks.map q26).sum+1)+1
structure SeekIn (x:qdj):Prop where
 c:zwo x.clause
 p:zwo x.path
 l:x.label.length<=1048576
 k:x.key.length<=1048576
theorem zqv {x:qdj} (h:SeekIn x):(qyy x).length<=16 * q26 x:=by
 have h1:=q76 h.c.1 h.c.2;have h2:=q76 h.p.1 h.p.2;have h3:=zph x.label;have h4:=zph x.key;have h5:=q96 x.clause;have h6:=q96 x.path;unfold qyy q26;simp only[jb,ja,jc];omega
theorem zil:∀ (l:List qdj),(∀ x∈l,SeekIn x)->(l.flatMap qyy).length<=16 * (l.map q26).sum
 | [],_=>by simp
 | x::l,h=>by
  have h1:=zqv (h x (by simp));have h2:=zil l (fun y hy=>h y (by simp[hy]))
  simp only[List.flatMap_cons,jb,jl,jB];omega
structure StageIn (s:qao):Prop where
 f:zwo s.from_
 t:zwo s.to
 s:∀ x∈s.seeks,SeekIn x
theorem zav (k:Int):(q4t k).length<=5:=by unfold q4t; split<;>(try split)<;>decide
theorem zo2 {s:qao} (h:StageIn s):(zjm s).length<=50:=by
 have h1:=q76 h.f.1 h.f.2;have h2:=q76 h.t.1 h.t.2;have h3:=zav s.kind;unfold zjm;split<;>simp only[jb,ja,jc]<;>omega
theorem zpu {s:qao} (h:StageIn s):(q23 s).length<=16 * qw2 s:=by
 have h1:=zo2 h;have h2:=zil s.seeks h.s;have h3:=q96 s.kind;have h4:=q96 s.from_;have h5:=q96 s.to;unfold q23 qw2;simp only[jb,ja,jc];omega
theorem zae:∀ (l:List qao),(∀ x∈l,StageIn x)->(l.flatMap q23).length<=16 * (l.map qw2).sum
 | [],_=>by simp
 | x::l,h=>by
  have h1:=zpu (h x (by simp));have h2:=zae l (fun y hy=>h y (by simp[hy]))
  simp only[List.flatMap_cons,jb,jl,jB];omega
theorem q4c {A S R:Type} {B:(S->Option R)->S->Option R} (mk:Nat->List UInt8->S) {l:List A} (g:A->List UInt8) (K:List UInt8->Option R) (M:Nat)
  (step:∀ (k:Nat) (x:A) (nx:S->Option R) (t:List UInt8),l[k]? =some x->t.length+(g x).length<=M->B nx (mk k t)=nx (mk (k+1) (t++g x)))
  (hend:∀ (nx:S->Option R) (t:List UInt8),t.length<=M->B nx (mk l.length t)=K t) {n:Nat} (hn:l.length<n) (t0:List UInt8) (hM:t0.length+(l.flatMap g).length<=M):qam B n (mk 0 t0)=K (t0++l.flatMap g):=by
 have main:∀ (suf:List A) (k m:Nat) (t:List UInt8),(∀ j,suf[j]? =l[k+j]?)->k+suf.length=l.length->suf.length<m->t.length+(suf.flatMap g).length<=M->qam B m (mk k t)=K (t++suf.flatMap g):=by
  intro suf
  induction suf with
  | nil=>
   intro k m t hs hk hm hM;obtain⟨m,rfl⟩:=jk (by omega:m≠0);have:k=l.length:=by simpa using hk
   subst this;rw[qa1,hend _ t (by simpa using hM)];simp
  | cons x suf ih=>
   intro k m t hs hk hm hM;obtain⟨m,rfl⟩:=jk (by omega:m≠0);have hx:l[k]? =some x:=by have:=hs 0; simpa using this.symm
   simp only[List.flatMap_cons,jb]at hM;rw[qa1,step k x _ t hx (by omega),ih (k+1) m (t++g x) (fun j=>by have:=hs (j+1); rw[show k+1+j=k+(j+1) by omega]; simpa using this) (by simp at hk; omega) (by simp at hm; omega) (by rw[jb]; omega)]
   simp
 exact main l 0 n t0 (by simp) (by simp) hn hM
section
variable {n:Nat} (hn:n<=1073741824) (h400:400<=n) (h20:1048576<n)
include hn h400 h20
theorem zvk {l:List qdj} (hl:l.length<n) (hs:∀ x∈l,SeekIn x) (i:Nat) (hi:i<1073741824) (nx:Int×List UInt8->Option (List UInt8)) (t0:List UInt8) (hM:t0.length+(l.flatMap qyy).length+1<=536870912) :
  qam (qj2 n l nx (i:Int)) n ((0:Int),t0)=nx (((i+1:Nat):Int),t0++l.flatMap qyy++[10]):=by
 refine q4c (B:=qj2 n l nx (i:Int)) (fun k t=>((k:Int),t)) qyy (fun t=>nx (((i+1:Nat):Int),t++[10])) 536870911 (fun k x nx2 t hx ht=>?_) (fun nx2 t ht=>?_) hl t0 (by omega)
 ·have hk:=qbl hx
  obtain⟨hc,hp,hlb,hkb⟩:=hs x (qbf hx);have n1:=q77 h400 hc.1 hc.2;have n2:=q77 h400 hp.1 hp.2;have k1:=zio hn (s:=x.label) (by omega) (by omega);have k2:=zio hn (s:=x.key) (by omega) (by omega);obtain⟨a,b,c,d⟩:=x;unfold qyy at ht ⊢;simp only at ht n1 n2 k1 k2 ⊢;simp only[jb]at ht;generalize q4w a=N1 at *;generalize q4w b=N2 at *;generalize kyS c=K1 at *;generalize kyS d=K2 at *;unfold qj2
  dsimp only
  rw[qej,qa5 hk,kct,qaj hx,qad,n1,qad];simp only[ja,jc]at ht;rw[qa0 (qbs (by simp only[jb,ja,jc]; omega)),qa0 (qbs (by simp only[jb,ja,jc]; omega)),n2,qad,
   qa0 (qbs (by simp only[jb,ja,jc]; omega)),qa0 (qbs (by simp only[jb,ja,jc]; omega)),k1,qad,
   qa0 (qbs (by simp only[jb,ja,jc]; omega)),qa0 (qbs (by simp only[jb,ja,jc]; omega)),k2,qad,
   qa0 (qbs (by simp only[jb,ja,jc]; omega)),qa0 (ztt (by simp only[jb,ja,jc]; omega)),qb7 (by omega)]
 unfold qj2
 dsimp only
 rw[qej,qar,kcf,qa0 (ztt (by rw[jb]; simp only[ja,jc]; omega)),qb7 (by omega)]
theorem zvn {out:List qao} {s:qao} {i:Nat} (hi:out[i]? =some s) (hl:s.seeks.length<n) (hs:∀ x∈s.seeks,SeekIn x) (hi2:i<1073741824) (nx:List UInt8×Int->Option (List UInt8)) (t0:List UInt8) (hM:t0.length+(s.seeks.flatMap qyy).length+1<=536870912) :
  qam (qla n out (i:Int) nx) n (t0,(0:Int))=nx (t0++s.seeks.flatMap qyy++[10],((i+1:Nat):Int)):=by
 obtain⟨s1,s2,s3,l⟩:=s;simp only at hl hs hM ⊢;refine q4c (B:=qla n out (i:Int) nx) (fun k t=>(t,(k:Int))) qyy (fun t=>nx (t++[10],((i+1:Nat):Int))) 536870911 (fun k x nx2 t hx ht=>?_) (fun nx2 t ht=>?_) hl t0 (by omega)
 ·have hk:=qbl hx
  obtain⟨hc,hp,hlb,hkb⟩:=hs x (qbf hx);have n1:=q79 h400 hc.1 hc.2;have n2:=q79 h400 hp.1 hp.2;have k1:=zqj hn (by omega) (s:=x.label) (by omega) (by omega);have k2:=zqj hn (by omega) (s:=x.key) (by omega) (by omega);obtain⟨a,b,c,d⟩:=x;unfold qyy at ht ⊢;simp only at ht n1 n2 k1 k2 ⊢;simp only[jb]at ht;generalize q4w a=N1 at *;generalize q4w b=N2 at *;generalize kyS c=K1 at *;generalize kyS d=K2 at *;unfold qla
  dsimp only
  rw[qaj hi,qad]
  dsimp only
  rw[qej,qa5 hk,kct,qad]
  dsimp only
  rw[qaj hx,qad];simp only[ja,jc]at ht;rw[qa0 (qbs (by simp only[jb,ja,jc]; omega)),n1,qad,qa0 (qbs (by simp only[jb,ja,jc]; omega)),qa0 (qbs (by simp only[jb,ja,jc]; omega)),n2,qad,
   qa0 (qbs (by simp only[jb,ja,jc]; omega)),qa0 (qbs (by simp only[jb,ja,jc]; omega)),k1,qad,
   qa0 (qbs (by simp only[jb,ja,jc]; omega)),qa0 (qbs (by simp only[jb,ja,jc]; omega)),k2,qad,
   qa0 (qbs (by simp only[jb,ja,jc]; omega)),qb7 (by omega)]
  simp only[jt]
 unfold qla
 dsimp only
 rw[qaj hi,qad]
 dsimp only
 rw[qej,qar,kcf,qa0 (qbs (by simp only[ja,jc]; omega)),qb7 (by omega)]
theorem zh4 {l:List qao} (hl:l.length<n) (hs:∀ s∈l,StageIn s/\s.seeks.length<n) (hM:(l.flatMap q23).length<=268435456):qpw n l=some (l.flatMap q23):=by
 unfold qpw;have:=q4c (B:=qma n l) (fun k t=>((k:Int),t)) q23 (fun t=>some t) 268435456 (fun k s nx t hx ht=>by
  have hk:=qbl hx;obtain⟨⟨hf,ht2,hsk⟩,hsl⟩:=hs s (qbf hx);have n1:=q77 h400 hf.1 hf.2;have n2:=q77 h400 ht2.1 ht2.2;have hseek:=fun t0 hM=>zvk hn h400 h20 (l:=s.seeks) hsl hsk k (by omega) nx t0 hM
  obtain⟨s1,s2,s3,sk⟩:=s;unfold q23 zjm at ht ⊢;simp only at ht n1 n2 hseek ⊢;have hw:qun n s1=some (q4t s1):=by
   unfold qun q4t;by_cases h1:s1=1
   ·subst h1; rfl
   rw[kbf.2 h1,kcf,if_neg h1];by_cases h2:s1=2
   ·subst h2; rfl
   rw[kbf.2 h2,kcf,if_neg h2]
  have hwl:=zav s1;generalize q4t s1=W1 at *;generalize q4w s2=N1 at *;generalize q4w s3=N2 at *;generalize sk.flatMap qyy=SK at *;unfold qma
  dsimp only[qo2]
  rw[qdn,qa5 hk,kct,qaj hx,qad]
  dsimp only
  rw[hw,qad];simp only[jb,ja,jc]at ht;by_cases he:s3=s2
  ·have:(s3 != s2)=false:=by rw[he]; simp
   rw[if_neg (by simpa using he)]at ht ⊢;simp only[jc]at ht;rw[qa0 (qbs (by simp only[jb,ja,jc]; omega)),n1,qad,qa0 (qbs (by simp only[jb,ja,jc]; omega)),qa0 (ztt (by simp only[jb,ja,jc]; omega)),this,kcf];rw[hseek _ (by simp only[jb,ja,jc]; omega)];simp only[jt,List.append_nil]
  ·have:(s3 != s2)=true:=bne_iff_ne.2 he
   rw[if_pos (by simpa using he)]at ht ⊢;simp only[jb,ja,jc]at ht;rw[qa0 (qbs (by simp only[jb,ja,jc]; omega)),n1,qad,qa0 (qbs (by simp only[jb,ja,jc]; omega)),qa0 (ztt (by simp only[jb,ja,jc]; omega)),this,kct,n2,qad];rw[qa0 (qbs (by simp only[jb,ja,jc]; omega)),qa0 (ztt (by simp only[jb,ja,jc]; omega))];rw[hseek _ (by simp only[jb,ja,jc]; omega)];simp only[jt]) (fun nx t ht=>by
  unfold qma
  dsimp only
  rw[qdn,qar,kcf]) hl [] (by simpa using hM)
 simpa using this
theorem zlu {l:List qao} (hl:l.length<n) (hs:∀ s∈l,StageIn s/\s.seeks.length<n) (hM:(l.flatMap q23).length<=268435456):qtw n l=some (l.flatMap q23):=by
 unfold qtw;have:=q4c (B:=qn1 n l) (fun k t=>(t,(k:Int))) q23 (fun t=>some t) 268435456 (fun k s nx t hx ht=>by
  have hk:=qbl hx;obtain⟨⟨hf,ht2,hsk⟩,hsl⟩:=hs s (qbf hx);have n1:=q79 h400 hf.1 hf.2;have n2:=q79 h400 ht2.1 ht2.2;have hseek:=fun t0 hM=>zvn hn h400 h20 hx hsl hsk (by omega) nx t0 hM
  obtain⟨s1,s2,s3,sk⟩:=s;unfold q23 zjm at ht ⊢;simp only at ht n1 n2 hseek ⊢;have hwl:=zav s1;have hk8:qn0 n t l (k:Int) nx (q4t s1)=nx (t++(q4t s1++[32]++q4w s2++(if s3≠s2 then[32,116,111,32]++q4w s3 else[])++sk.flatMap qyy++[10]),((k+1:Nat):Int)):=by
   generalize q4t s1=W1 at *;generalize q4w s2=N1 at *;generalize q4w s3=N2 at *;generalize sk.flatMap qyy=SK at *;unfold qn0
   dsimp only[qqw]
   simp only[jb,ja,jc]at ht;by_cases he:s3=s2
   ·have:(s3 != s2)=false:=by rw[he]; simp
    rw[if_neg (by simpa using he)]at ht ⊢;simp only[jc]at ht;rw[qa0 (qbs (by omega)),qa0 (qbs (by simp only[jb,ja,jc]; omega)),qaj hx,qad]
    dsimp only
    rw[n1,qad,qa0 (qbs (by simp only[jb,ja,jc]; omega)),qad]
    dsimp only
    rw[qad]
    dsimp only
    rw[this,kcf,hseek _ (by simp only[jb,ja,jc]; omega)];simp only[jt,List.append_nil]
   have:(s3 != s2)=true:=bne_iff_ne.2 he;rw[if_pos (by simpa using he)]at ht ⊢;simp only[jb,ja,jc]at ht;rw[qa0 (qbs (by omega)),qa0 (qbs (by simp only[jb,ja,jc]; omega)),qaj hx,qad]
   dsimp only
   rw[n1,qad,qa0 (qbs (by simp only[jb,ja,jc]; omega)),qad]
   dsimp only
   rw[qad]
   dsimp only
   rw[this,kct,qa0 (qbs (by simp only[jb,ja,jc]; omega)),qad]
   dsimp only
   rw[n2,qad,qa0 (qbs (by simp only[jb,ja,jc]; omega)),hseek _ (by simp only[jb,ja,jc]; omega)];simp only[jt]
  have hk7:∀ w:List UInt8,(s1≠2->w=q4t s1)->qnz n l (k:Int) t nx w=nx (t++(q4t s1++[32]++q4w s2++(if s3≠s2 then[32,116,111,32]++q4w s3 else[])++sk.flatMap qyy++[10]),((k+1:Nat):Int)):=by
   intro w hw;unfold qnz
   dsimp only
   rw[qaj hx,qad]
   dsimp only
   by_cases h2:s1=2
   ·subst h2
    rw[show((2:Int)==2)=true from rfl,kct];exact hk8
   rw[kbf.2 h2,kcf,hw h2];exact hk8
  unfold qn1
  dsimp only
  rw[qdn,qa5 hk,kct,qaj hx,qad]
  dsimp only
  by_cases h1:s1=1
  ·subst h1
   rw[show((1:Int)==1)=true from rfl,kct];exact hk7 _ (fun _=>rfl)
  ·rw[kbf.2 h1,kcf]
   exact hk7 _ (fun h2=>by unfold q4t; rw[if_neg h1,if_neg h2])) (fun nx t ht=>by
  unfold qn1
  dsimp only
  rw[qdn,qar,kcf]) hl [] (by simpa using hM)
 simpa using this
end
end W
end
section
open Go Ax
namespace W
def skw (x:qdj):Nat:=5+x.label.length+x.key.length
def zf6 (l:List qao):Nat:=(l.map fun s=>(s.seeks.map skw).sum).sum
theorem zw7 (out:List qao) (k i:Int) (sk:List qdj):zf6 (zm1 out k i sk)=zf6 out+(sk.map skw).sum:=by
 rcases qp1 out with rfl|⟨l,s,rfl⟩
 ·simp[qx9,zf6]
 rw[quz];unfold zf6;cases(k==1)&&(s.kind==1)<;>simp<;>omega
theorem q73 {l:List (List UInt8)} {x:List UInt8} (h:x∈l):1+x.length<=qwe l:=by
 have:=qbt (fun k:List UInt8=>1+k.length) h
 exact this
theorem zvq (b:List (List UInt8)) (at_ i:Int) (p:qa9):((q56 b at_ i p).map skw).sum<=2 * qiq p:=by
 obtain⟨nodes,edges⟩:=p;unfold q56;cases nodes with
 | nil=>simp
 | cons d ds=>
  simp only;cases hb:zaf b d with
  | false=>simp
  | true=>
   unfold zaf at hb;simp only[jj,Bool.not_eq_true',decide_eq_false_iff_not]at hb;obtain⟨⟨h1,h2⟩,_⟩:=hb;have e1:1+(d.labels.headD []).length<=qwe d.labels:=by
    cases hd:d.labels with
    | nil=>exact absurd hd h1
    | cons a l=>exact q73 (by simp)
   have e2:1+(d.keys.headD []).length<=qwe d.keys:=by
    cases hd:d.keys with
    | nil=>exact absurd hd h2
    | cons a l=>exact q73 (by simp)
   have e3:qwe d.labels+qwe d.keys+1<=qgu d:=by unfold qgu; omega
   have e4:qgu d+1<=qiq ⟨d::ds,edges⟩:=by unfold qiq; simp only[jl,jB]; omega
   simp only[kct,jl,jO,jB,List.sum_nil,skw];omega
theorem zqw (at_:Int):∀ (ps:List qa9) (b:List (List UInt8)) (i:Nat),((qs5 at_ b i ps).map skw).sum<=2 * (ps.map qiq).sum
 | [],_,_=>by simp[qs5]
 | p::ps,b,i=>by
  have h1:=zvq b at_ (i:Int) p;have h2:=zqw at_ ps (b++q1p p) (i+1);simp only[qs5,ke,List.sum_append,jl,jB];omega
theorem zx2 (may:Bool) (cl:List qab) (i:Nat) (c:qab):((skS may cl i c).map skw).sum<=2 * qda c:=by
 have h2:(c.paths.map qiq).sum<=qda c:=by unfold qda qwa; omega
 unfold skS;split
 ·have:=zqw (i:Int) c.paths (qhx may cl (i:Int)).1 0; omega
 simp
theorem zqb (may:Bool) (cl:List qab):∀ (suf:List qab) (out:List qao) (i:Nat),zf6 (qor may cl out i suf)<=zf6 out+2 * (suf.map qda).sum
 | [],out,i=>by simp[qor]
 | c::suf,out,i=>by
  have h2:=zqb may cl suf (zm1 out (qyw c) (i:Int) (skS may cl i c)) (i+1);have h4:=zw7 out (qyw c) (i:Int) (skS may cl i c);have h5:=zx2 may cl i c;simp only[qor,jl,jB];omega
theorem zfg {a:Nat} (h:a<=1073741824):isz (a:Int)=1:=by
 unfold isz; rw[if_pos (by omega)]
theorem zse (k:Int) (h:k=1\/k=2\/k=3):isz k=1:=by rcases h with rfl|rfl|rfl<;>rfl
theorem zkj {s:qao} (h1:isz s.kind=1) (h2:isz s.from_=1) (h3:isz s.to=1) (h4:∀ x∈s.seeks,isz x.clause=1/\isz x.path=1):qw2 s=5+(s.seeks.map skw).sum:=by
 have key:∀ l:List qdj,(∀ x∈l,isz x.clause=1/\isz x.path=1)->(l.map q26).sum=(l.map skw).sum:=by
  intro l
  induction l with
  | nil=>intro _; rfl
  | cons x l ih=>
   intro h;obtain⟨a,b⟩:=h x (by simp);simp only[jl,jB];rw[ih (fun y hy=>h y (by simp[hy]))]
   unfold q26 skw;omega
 unfold qw2;rw[key s.seeks h4,h1,h2,h3];omega
theorem zmp {may:Bool} {cl:List qab} (hcl:qca cl<=1048576):(∀ s∈(qux may cl).1,StageIn s)/\(((qux may cl).1).flatMap q23).length<=268435456:=by
 have hlen:=qbi qda qj9 cl;have hcb:(cl.map qda).sum=qca cl:=rfl;unfold qux;split
 ·simp only
  have hc:=zkz may cl;have hk:=zra may cl;have hw:=zqb may cl cl [] 0;have hz:=(q51 may cl cl [] 0).1;generalize qor may cl [] 0 cl=out at hc hk hw hz;simp only[jc]at hz;have hw0:zf6 []=0:=rfl;have hst:∀ s∈out,qw2 s=5+(s.seeks.map skw).sum:=by
   intro s hs;obtain⟨i,hi⟩:=List.getElem?_of_mem hs;obtain⟨a,e,_,c1,c2,c3,_,_,c7,_⟩:=hc.at i s hi;obtain⟨c,hce,hke⟩:=c7 e c3 (jx _);have hel:=qbl hce;refine zkj (zse _ (by rw[← hke]; exact q5s c)) (by rw[c1]; exact zfg (by omega)) (by rw[c2]; exact zfg (by omega)) (fun x hx=>?_);obtain⟨ci,pi,c',d,ds,es,e1,e2,e3,e4,e5,e6,e7,_⟩:=(hk s hs).1 x hx;have h1:=qbl e4;have h2:=qbl e6;have h3:=(q7z c').2.2.1;have h4:=qbt qda (qbf e4);exact⟨by rw[e1]; exact zfg (by omega),by rw[e7]; exact zfg (by omega)⟩
  have hsum:∀ l:List qao,(∀ s∈l,qw2 s=5+(s.seeks.map skw).sum)->(l.map qw2).sum=5 * l.length+zf6 l:=by
   intro l
   induction l with
   | nil=>intro _; rfl
   | cons s l ih=>
    intro h;have h1:=h s (by simp);have h2:=ih (fun y hy=>h y (by simp[hy]))
    unfold zf6 at h2 ⊢;simp only[jl,jB,ja];omega
  have htot:=hsum out hst;have hall:∀ s∈out,StageIn s:=by
   intro s hs;have h1:=hst s hs;obtain⟨i,hi⟩:=List.getElem?_of_mem hs;obtain⟨a,e,_,c1,c2,c3,_,_,c7,_⟩:=hc.at i s hi;obtain⟨c,hce,_⟩:=c7 e c3 (jx _);have hel:=qbl hce;refine⟨⟨by omega,by omega⟩,⟨by omega,by omega⟩,fun x hx=>?_⟩;obtain⟨ci,pi,c',d,ds,es,e1,e2,e3,e4,e5,e6,e7,e8,e9,_⟩:=(hk s hs).1 x hx;have h1:=qbl e4;have h2:=qbl e6;have h3:=(q7z c').2.2.1;have h4:=qbt qda (qbf e4);have h5:=qbt qiq (qbf e6);have h6:(c'.paths.map qiq).sum<=qda c':=by unfold qda qwa; omega
   have h7:=q73 e8;have h8:=q73 e9;have h9:qwe d.labels+qwe d.keys+1<=qgu d:=by unfold qgu; omega
   have h10:qgu d+1<=qiq ⟨d::ds,es⟩:=by unfold qiq; simp only[jl,jB]; omega
   exact⟨⟨by omega,by omega⟩,⟨by omega,by omega⟩,by omega,by omega⟩
  refine⟨hall,?_⟩;have:=zae out hall;omega
 exact⟨fun s hs=>by simp at hs,by simp⟩
theorem zmh {n:Nat} (hn:n<=1073741824) {cl:List qab} (h:32 * qca cl+2000<n) (hM:∀ c∈cl,LenOk c) (hc:qca cl<=1048576) (h20:33554432<n):qo9 n ⟨cl⟩=some true:=by
 obtain⟨b,hb⟩:=q4b hn (cl:=cl) (by omega);obtain⟨c1,c2⟩:=qz7 hn (cl:=cl) (by omega) hM;obtain⟨s1,_,s3⟩:=q0p (q4v n cl) cl;obtain⟨z1,z2⟩:=zmp (may:=q4v n cl) hc;have hsame:=zih hn (a:=(qux (q4v n cl) cl).1) (by omega) (fun s hs=>by have:=s3 s hs; omega)
 have t1:=zh4 hn (by omega) (by omega) (l:=(qux (q4v n cl) cl).1) (by omega) (fun s hs=>⟨z1 s hs,by have:=s3 s hs; omega⟩) z2;have t2:=zlu hn (by omega) (by omega) (l:=(qux (q4v n cl) cl).1) (by omega) (fun s hs=>⟨z1 s hs,by have:=s3 s hs; omega⟩) z2;unfold qo9;simp only[hb,qad,qyd (n:=n) (by omega),c1,c2];cases b with
 | true=>rfl
 | false=>
  generalize qux (q4v n cl) cl=r at hsame t1 t2;obtain⟨a,e⟩:=r;simp only at hsame t1 t2;simp only[kcf,qad,hsame,kbs,kct,qc3,t1,t2]
end W
end
