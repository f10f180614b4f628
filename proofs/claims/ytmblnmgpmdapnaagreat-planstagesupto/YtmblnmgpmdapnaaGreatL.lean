/- A part of the proof: the plain law. -/
import Derived.Test.YtmblnmgpmdapnaaGreatC
import Derived.Test.YtmblnmgpmdapnaaGreatD
import Derived.Test.YtmblnmgpmdapnaaGreatE
import Derived.Test.YtmblnmgpmdapnaaGreatF
import Derived.Test.YtmblnmgpmdapnaaGreatG
import Derived.Test.YtmblnmgpmdapnaaGreatH
import Derived.Test.YtmblnmgpmdapnaaGreatI
import Derived.Test.YtmblnmgpmdapnaaGreatJ
import Derived.Test.YtmblnmgpmdapnaaGreatK
set_option linter.unusedVariables false
set_option linter.unusedSimpArgs false
set_option linter.unnecessarySimpa false
set_option linter.deprecated false
set_option linter.unusedSectionVars false
set_option linter.constructorNameAsVariable false
open Go.IntKind renaming wrap->kwr,bits->kbt
open List renaming length_cons->ja,length_append->jb,length_nil->jc,getElem?_eq_getElem->jf,mem_cons->jg,map_cons->jl,length_map->jm,drop_eq_getElem_cons->jo,nil_append->jv,all_cons->jw,mem_append->jz,sum_cons->jB,getElem?_take->jF,getElem?_eq_some_iff->jH,map_nil->jO,map_append->ke
open Bool renaming cond_eq_ite->ji,and_eq_true->jj,not_false->jp,not_true->jq
open Nat renaming exists_eq_succ_of_ne_zero->jk,zero_add->jy
open Option renaming getD_some->jW
section
open Go Ax
namespace W
section
variable {K V:Type} [BEq K] [LawfulBEq K]
theorem zfr (k s:K) (v:V):∀ m:List (K×V),qu3 s (qpp k v m)=if s==k then some v else qu3 s m
 | []=>by
  simp only[qpp,qu3];cases s==k<;>rfl
 | (k',v')::m=>by
  by_cases h:k=k'
  ·subst h
   simp only[qpp,kbs,kct,qu3];cases s==k<;>rfl
  ·have h':(k==k')=false:=kbf.2 h
   simp only[qpp,h',kcf,qu3,zfr k s v m];by_cases hs:s=k'
   ·subst hs
    have:(s==k)=false:=kbf.2 fun e=>h e.symm
    simp[this]
   have:(s==k')=false:=kbf.2 hs;simp[this]
theorem zll (k:K) (v:V):∀ m:List (K×V),(qpp k v m).length=if q75 m k then m.length else m.length+1
 | []=>rfl
 | (k',v')::m=>by
  by_cases h:k=k'
  ·subst h
   simp[qpp,q75,qu3]
  have h':(k==k')=false:=kbf.2 h;have:=zll k v m;simp only[qpp,q75,qu3,h',kcf,ja]at this ⊢;rw[this];by_cases hh:(qu3 k m).isSome=true<;>simp[hh]
theorem zsn (k s:K) (v:V) (m:List (K×V)):q75 (qpp k v m) s=(s==k||q75 m s):=by
 simp only[q75,zfr];cases s==k<;>rfl
theorem zp0 (k s:K) (v d:V) (m:List (K×V)):qec (qpp k v m) s d=if s==k then v else qec m s d:=by
 simp only[qec,zfr];cases s==k<;>rfl
theorem zlm (k:K) (v:V):∀ m:List (K×V),qu3 k m=none->qpp k v m=m++[(k,v)]
 | [],_=>rfl
 | (k',v')::m,h=>by
  by_cases hk:k=k'
  ·subst hk
   simp[qu3]at h
  have h':(k==k')=false:=kbf.2 hk;simp only[qu3,h',kcf]at h;simp only[qpp,h',kcf,zlm k v m h,List.cons_append]
end
def zr5:List (List UInt8)->List (List UInt8)->Bool
 | _,[]=>false
 | pre,x::l=>pre.contains x||zr5 (pre++[x]) l
def dup (l:List (List UInt8)):Bool:=zr5 [] l
def zv4 (m:List (List UInt8×Int)):List (List UInt8)->List (List UInt8×Int)
 | []=>m
 | x::l=>zv4 (qpp x (kwr .i64 (qec m x 0+1)) m) l
theorem zky:∀ (l pre:List (List UInt8)) (m:List (List UInt8×Int)),(∀ s,q75 m s=pre.contains s) ->
  (zv4 m l).length<=m.length+l.length/\((zv4 m l).length<m.length+l.length↔zr5 pre l=true)
 | [],pre,m,_=>by simp[zv4,zr5]
 | x::l,pre,m,h=>by
  have h':∀ s,q75 (qpp x (kwr .i64 (qec m x 0+1)) m) s=(pre++[x]).contains s:=fun s=>by
   rw[zsn,h s];simp only[List.contains_eq_mem,jz,List.mem_singleton];by_cases hs:s=x<;>simp[hs]
  have ih:=zky l (pre++[x]) _ h';simp only[zv4,zr5,zll,h x]at ih ⊢;cases hx:pre.contains x with
  | true=>
   simp only[hx,if_true]at ih;simp only[ja,Bool.true_or,iff_true];omega
  | false=>
   simp only[hx]at ih;simp only[ja,Bool.false_or]
   constructor
   ·have:=ih.1; simp at this; omega
   rw[← ih.2]; simp; omega
theorem qyi {n:Nat} {l:List (List UInt8)} (h:l.length<n) (hn:n<=1073741824):qn4 n l=some (dup l):=by
 unfold qn4;have e:=qni (B:=qiu n l) (fun k (m:List (List UInt8×Int))=>((k:Int),m)) (fun _ _=>True) (l:=l) (R:=Bool)
  (fun m x=>.inr (qpp x (kwr .i64 (qec m x 0+1)) m)) (rest:=fun m=>some (decide (m.length<l.length)))
  (fun k x m nx hx _=>by
   have hk:=qbl hx;simp only[qiu,qay,qa5 hk,kct,qaj hx,qad,zp6];rw[qb7 (by omega)])
  (fun _ _ _ _ _ _ _=>trivial)
  (fun m nx _=>by
   simp only[qiu,qay,qar,kcf];congr 1;by_cases hm:m.length<l.length
   ·rw[kdt hm,kdt (by omega)]
   rw[kdf hm,kdf (by omega)]) h (t0:=[]) trivial
 have key:∀ (l:List (List UInt8)) (m:List (List UInt8×Int)),qfs (R:=Bool) (fun m x=>.inr (qpp x (kwr .i64 (qec m x 0+1)) m)) m l=.inr (zv4 m l):=by
  intro l
  induction l with
  | nil=>intro m; rfl
  | cons x l ih=>intro m; exact ih _
 rw[key]at e;refine Eq.trans e ?_;have:=(zky l [] [] (fun s=>rfl)).2
 simp only[jc,jy]at this;refine congrArg some ?_;unfold dup;cases hd:zr5 [] l with
 | true=>exact kdt (this.2 hd)
 | false=>exact kdf (fun h=>by rw[this.1 h]at hd; cases hd)
theorem q1r {n:Nat} {l:List (List UInt8)} (h:l.length<n) (hn:n<=1073741824):qrl n l=some (dup l):=by
 unfold qrl;have inner:∀ (k:Nat) (x:List UInt8) (nx:Int->Option Bool),l[k]? =some x->qjv n l nx (k:Int)=(if(l.take k).contains x then some true else nx ((k+1:Nat):Int)):=by
  intro k x nx hx;have hk:=qbl hx;simp only[qjv,qay,qa5 hk,kct];have e:=qc4 (B:=ql2 n (k:Int) l nx) (fun j=>((j:Nat):Int)) (l:=l.take k) (fun y=>if y==x then some true else none) (rest:=nx ((k+1:Nat):Int))
   (fun j y nx2 hy=>by
    have hj:j<k:=by have:=qbl hy; simp at this; omega
    have hy':l[j]? =some y:=by rw[jF,if_pos hj]at hy; exact hy
    simp only[ql2,qa5 hj,kct,qaj hx,qaj hy',qad];rw[qb7 (by omega),BEq.comm];cases y==x<;>rfl)
   (fun nx2=>by
    have:(l.take k).length=k:=by simp; omega
    rw[this];simp only[ql2,qar,kcf];rw[qb7 (by omega)]) (n:=n) (by simp; omega)
  refine Eq.trans e ?_;have key:∀ p:List (List UInt8),qe4 (R:=Bool) (fun y=>if y==x then some true else none) p=if p.contains x then some true else none:=by
   intro p
   induction p with
   | nil=>rfl
   | cons y p ih=>
    simp only[qe4,List.contains_cons,ih];by_cases hy:y=x
    ·subst hy; simp
    have h1:(y==x)=false:=by simpa using hy
    have h2:(x==y)=false:=by simpa using fun e=>hy e.symm
    simp[h1,h2]
  rw[key];cases(l.take k).contains x<;>rfl
 have main:∀ (suf:List (List UInt8)) (k m:Nat),(∀ j,suf[j]? =l[k+j]?)->k+suf.length=l.length->suf.length<m->qam (qjv n l) m (k:Int)=some (zr5 (l.take k) suf):=by
  intro suf
  induction suf with
  | nil=>
   intro k m hs hk hm;obtain⟨m,rfl⟩:=jk (by omega:m≠0);have:k=l.length:=by simpa using hk
   subst this;rw[qa1];simp only[qjv,qay,qar,kcf,zr5]
  | cons x suf ih=>
   intro k m hs hk hm;obtain⟨m,rfl⟩:=jk (by omega:m≠0);have hx:l[k]? =some x:=by have:=hs 0; simpa using this.symm
   rw[qa1,inner k x _ hx];simp only[zr5];split
   ·rename_i hc; rw[hc,Bool.true_or]
   rename_i hc;have hc:(l.take k).contains x=false:=by simpa using hc
   rw[hc,Bool.false_or,ih (k+1) m (fun j=>by have:=hs (j+1); rw[show k+1+j=k+(j+1) by omega]; simpa using this) (by simp at hk; omega) (by simp at hm; omega)]
   have:l.take (k+1)=l.take k++[x]:=by rw[List.take_succ,hx]; rfl
   rw[this]
 have:=main l 0 n (fun j=>by simp) (by simp) h
 simpa[dup]using this
abbrev Env:=List (List UInt8×Int)
def qcr (v:Env) (s:List UInt8):Int:=qec v s 0
abbrev qf9 (v:Env):qa8:=⟨v.map (·.1),v.map (·.2)⟩
theorem qfb {n:Nat} {v:Env} (h:v.length<n) (hn:n<=1073741824) (s:List UInt8):qd6 n (qf9 v) s=some (qcr v s):=by
 unfold qd6;have e:=qc4 (B:=qh2 n (v.map (·.1)) s (v.map (·.2))) (fun j=>((j:Nat):Int)) (l:=v) (fun x=>if x.1==s then some x.2 else none) (rest:=some 0)
  (fun k x nx hx=>by
   have hk:=qbl hx;have h1:(v.map (·.1))[k]? =some x.1:=by simp[hx]
   have h2:(v.map (·.2))[k]? =some x.2:=by simp[hx]
   simp only[qh2,qay,jm,qa5 hk,kct,qaj h1,qaj h2,qad];rw[qb7 (by omega)];cases x.1==s<;>rfl)
  (fun nx=>by
   simp only[qh2,qay,jm,qar,kcf]) h
 refine Eq.trans e ?_;have key:∀ v:Env,qe4 (R:=Int) (fun x=>if x.1==s then some x.2 else none) v=qu3 s v:=by
  intro v
  induction v with
  | nil=>rfl
  | cons x v ih=>
   obtain⟨k,y⟩:=x;simp only[qe4,qu3,ih];rw[BEq.comm];cases s==k<;>rfl
 rw[key];unfold qcr qec;cases qu3 s v<;>rfl
end W
end
section
open Go Ax
namespace W
mutual
def zax:Val->Nat
 | .mk _ _ _ s l ks=>1+s.length+q1q l+(ks.map fun k=>1+k.length).sum
def q1q:List Val->Nat
 | []=>1
 | v::l=>1+zax v+q1q l
end
def qwe (l:List (List UInt8)):Nat:=(l.map fun k=>1+k.length).sum
theorem qee (l:List (List UInt8)):l.length<=qwe l:=by
 induction l with
 | nil=>simp[qwe]
 | cons x l ih=>simp only[qwe,jl,jB,ja]at ih ⊢; omega
mutual
def qka:qaa->Nat
 | .mk _ name val names args=>1+name.length+zax val+qwe names+qfz args
def qfz:List qaa->Nat
 | []=>1
 | x::l=>1+qka x+qfz l
end
theorem qd3:∀ l:List qaa,l.length<qfz l
 | []=>by simp[qfz]
 | x::l=>by have:=qd3 l; simp only[qfz,ja]; omega
theorem qhi:∀ {l:List qaa} {x:qaa},x∈l->qka x+2<=qfz l
 | y::l,x,h=>by
  simp only[qfz];rcases jg.1 h with rfl|h
  ·have:=qd3 l; omega
  have:=qhi h; omega
@[simp] theorem qas (l:List qaa):(qaa.rows l).length=l.length:=by rw[qaa.rows_eq]; simp
def qzx (name:List UInt8):qvs:=(qi9 0 name).getD default
theorem zn5 {A:Type} (c:Bool) (a b:A):(bif c then some a else some b)=some (bif c then a else b):=by cases c<;>rfl
theorem q61 (n:Nat) (name:List UInt8):qi9 n name=some (qzx name):=by
 simp only[qzx,qi9,qem,zn5,jW]
theorem zdw (n:Nat) (name:List UInt8):qwo n name=some ((qzx name).least,(qzx name).most,(qzx name).kind):=by
 by_cases h1:name=[115,105,122,101]; · subst h1; rfl
 by_cases h2:name=[97,98,115]; · subst h2; rfl
 by_cases h3:name=[104,101,97,100]; · subst h3; rfl
 by_cases h4:name=[108,97,115,116]; · subst h4; rfl
 by_cases h5:name=[116,101,120,116]; · subst h5; rfl
 by_cases h6:name=[99,111,97,108,101,115,99,101]; · subst h6; rfl
 by_cases h7:name=[107,101,121,115]; · subst h7; rfl
 by_cases h8:name=[108,97,98,101,108,115]; · subst h8; rfl
 by_cases h9:name=[116,121,112,101]; · subst h9; rfl
 by_cases h10:name=[114,97,110,103,101]; · subst h10; rfl
 simp only[qzx,qi9,qem,qwo,qi5,kbf.2 h1,kbf.2 h2,kbf.2 h3,kbf.2 h4,kbf.2 h5,kbf.2 h6,kbf.2 h7,kbf.2 h8,kbf.2 h9,kbf.2 h10,kcf,jW]
inductive WfE:qaa->Prop where
 | mk {op:Int} {name:List UInt8} {val:Val} {names:List (List UInt8)} {args:List qaa} (h1:op≠6->names=[]) (h2:op=10->args.length=2) (h3:∀ x∈args,WfE x):WfE (.mk op name val names args)
def eqs (name:List UInt8):Bool:=name==[61]||name==[60,62]
mutual
def qnh (v:Env):qaa->Int×Int
 | .mk op name _ names args=>
  if op=2 then(if qcr v name=0 then(0,2)else(qcr v name,0))
  else if op=14 then(0,2)
  else
   let e:=if op=13 then(if(args.length:Int)<(qzx name).least\/(args.length:Int)>(qzx name).most then 2 else qky v (qzx name).kind args)
    else if op=4\/op=11\/op=12 then qky v 0 args
    else if op=15 then qky v 1 args
    else if op=10 then(if eqs name then zje v args else qky v 3 args)
    else qky v 3 args
   let e:=if e=0/\op=6/\dup names then 2 else e
   if e≠0 then(0,e)else(3,0)
def qky (v:Env) (kind:Int):List qaa->Int
 | []=>0
 | x::l=>if(qnh v x).2≠0 then(qnh v x).2 else if kind≠0/\(qnh v x).1≠kind then 3 else qky v kind l
def zje (v:Env):List qaa->Int
 | x::y::_=>if(qnh v x).2≠0 then(qnh v x).2 else if(qnh v y).2≠0 then(qnh v y).2 else if(qnh v x).1≠(qnh v y).1 then 3 else 0
 | _=>0
end
end W
end
section
open Go Ax
namespace W
def zv3 (v:Env) (kind:Int) (x:qaa):Option Int:=
 if(qnh v x).2≠0 then some (qnh v x).2 else if kind≠0/\(qnh v x).1≠kind then some 3 else none
theorem znu (v:Env) (kind:Int):∀ l:List qaa,orE (qe4 (zv3 v kind) l) (some 0)=some (qky v kind l)
 | []=>rfl
 | x::l=>by
  have ih:=znu v kind l;simp only[qe4,zv3,qky];by_cases h1:(qnh v x).2=0
  ·by_cases h2:kind≠0/\(qnh v x).1≠kind
   ·rw[if_neg (by simpa using h1),if_pos h2,if_neg (by simpa using h1),if_pos h2]; rfl
   rw[if_neg (by simpa using h1),if_neg h2,if_neg (by simpa using h1),if_neg h2];exact ih
  rw[if_pos h1,if_pos h1]; rfl
theorem zau {op:Int} {name:List UInt8} {val:Val} {names:List (List UInt8)} {args:List qaa} (h:WfE (.mk op name val names args)):(op≠6->names=[])/\(op=10->args.length=2)/\∀ x∈args,WfE x:=by
 cases h with
 | mk h1 h2 h3=>exact⟨h1,h2,h3⟩
theorem gf {a b:Int} (h:¬a=b):(a==b)=false:=kbf.2 h
def qj6:qaa->Int×List UInt8×List qaa
 | .mk op name _ _ args=>(op,name,args)
theorem qmf (o:List (List UInt8)) (v:Env):∀ n:Nat,n<=1073741824 ->
  (∀ l kind,2 * qfz l<n->(∀ x∈l,WfE x)->qbj n l kind o v=some (qky v kind l)) /\
  (∀ x,2 * qka x+1<n->WfE x->qc2 n x o v=some (qnh v x)) /\
  (∀ x,2 * qka x<n->WfE x->(qj6 x).1=10->qdc n x o v=some (if eqs (qj6 x).2.1 then zje v (qj6 x).2.2 else qky v 3 (qj6 x).2.2)):=by
 intro n
 induction n with
 | zero=>intro _; exact⟨fun _ _ h=>by omega,fun _ h=>by omega,fun _ h=>by omega⟩
 | succ n ih=>
  intro hn;obtain⟨iha,ihe,ihb⟩:=ih (by omega);refine⟨?_,?_,?_⟩
  ·intro l kind hl hw
   have hlen:=qd3 l;simp only[qbj,qml];have e:=qc4 (B:=qfw n l (qc2 n) o v kind) (fun k=>((k:Nat):Int)) (l:=l) (zv3 v kind) (rest:=some 0)
    (fun k x nx hx=>by
     have hk:=qbl hx;have hm:=qhi (qbf hx);have hxx:=ihe x (by omega) (hw x (qbf hx));obtain⟨op,name,⟨a1,a2,a3,a4,a5,a6⟩,names,args⟩:=x;simp only[qfw,qas,qa5 hk,kct,qaj hx,qad,hxx,qhf,zv3];generalize qnh v _=r;obtain⟨kd,er⟩:=r;rw[qb7 (by omega)];by_cases h1:er=0
     ·subst h1
      by_cases h2:kind=0
      ·subst h2; simp[ji]
      by_cases h3:kd=kind
      ·subst h3; simp[ji]
      simp[h2,h3,ji]
     simp[h1,ji])
    (fun nx=>by simp only[qfw,qas,qar,kcf]) (n:=n) (by omega)
   exact Eq.trans e (znu v kind l)
  ·intro x hx hw
   obtain⟨op,name,⟨a1,a2,a3,a4,a5,a6⟩,names,args⟩:=x;obtain⟨w1,w2,w3⟩:=zau hw;have hb:2 * qfz args<n/\names.length<n:=by
    have:=qee names;have h0:=qd3 args;simp only[qka]at hx;omega
   have htw:=qyi hb.2 (by omega);have hall:=fun kind=>iha args kind hb.1 w3
   have k2:∀ e:Int,qdd n op names e=some (let e:=if e=0/\op=6/\dup names then 2 else e; if e≠0 then(0,e)else(3,0)):=by
    intro e;simp only[qdd,qgp,htw];by_cases h1:e=0
    ·subst h1
     by_cases h2:op=6
     ·subst h2
      cases dup names<;>simp
     ·simp[h2,gf h2,ji]
    simp[h1,gf h1,ji]
   have k4:qd0 n (qbj n) args o v op names (qdc n) name a1 a2 a3 a4 a5 a6=qd0 n (qbj n) args o v op names (qdc n) name a1 a2 a3 a4 a5 a6:=rfl;simp only[qc2,qk3,qd0,q61,qad,qas,hall,k2,qnh,qcr];by_cases h2:op=2
   ·subst h2
    by_cases hk:qec v name 0=0<;>simp[hk,ji]
   by_cases h14:op=14
   ·subst h14; simp[ji]
   by_cases h13:op=13
   ·subst h13
    by_cases hc:(args.length:Int)<(qzx name).least\/(args.length:Int)>(qzx name).most
    ·simp[hc,k2,ji]
    simp[hc,k2,ji]
   by_cases h10:op=10
   ·subst h10
    have:=ihb (.mk 10 name (.mk a1 a2 a3 a4 a5 a6) names args) (by omega) hw rfl;by_cases he:eqs name=true<;>simp[this,qj6,k2,he,ji]
   by_cases h4:op=4
   ·subst h4; simp[ji]
   by_cases h11:op=11
   ·subst h11; simp[ji]
   by_cases h12:op=12
   ·subst h12; simp[ji]
   by_cases h15:op=15
   ·subst h15; simp[ji]
   simp[h2,h14,h13,h10,h4,h11,h12,h15,ji]
  intro x hx hw hop;obtain⟨op,name,⟨a1,a2,a3,a4,a5,a6⟩,names,args⟩:=x;obtain⟨w1,w2,w3⟩:=zau hw;have hop:op=10:=hop;have hl:=w2 hop;subst hop;obtain⟨p,l1,rfl⟩:=List.exists_cons_of_length_pos (l:=args) (by omega);obtain⟨q,l2,rfl⟩:=List.exists_cons_of_length_pos (l:=l1) (by simp at hl; omega);have hl2:l2=[]:=by simpa using hl
  subst hl2;have hb:2 * qfz [p,q]<n:=by
   simp only[qka]at hx;omega
  have hp:=ihe p (by simp only[qfz]at hb; omega) (w3 p (by simp));have hq:=ihe q (by simp only[qfz]at hb; omega) (w3 q (by simp));have hall:=iha [p,q] 3 hb w3;obtain⟨op1,name1,⟨b1,b2,b3,b4,b5,b6⟩,names1,args1⟩:=p;obtain⟨op2,name2,⟨c1,c2,c3,c4,c5,c6⟩,names2,args2⟩:=q;simp only[qdc,qk2,qj6,hall,qr8,zjo,qad,hp,hq,zje,eqs];generalize qnh v (.mk op1 name1 (.mk b1 b2 b3 b4 b5 b6) names1 args1)=r at *;generalize qnh v (.mk op2 name2 (.mk c1 c2 c3 c4 c5 c6) names2 args2)=r2 at *;obtain⟨kd,er⟩:=r;obtain⟨kd2,er2⟩:=r2;cases(name==[61])<;>cases(name==[60,62])<;>simp[ji]<;>(by_cases h1:er=0<;>by_cases h2:er2=0<;>by_cases h3:kd=kd2<;>simp[h1,h2,h3])
end W
end
section
open Go Ax
namespace W
theorem zl4 (name:List UInt8):0<=(qzx name).kind:=by
 by_cases h1:name=[115,105,122,101]; · subst h1; decide
 by_cases h2:name=[97,98,115]; · subst h2; decide
 by_cases h3:name=[104,101,97,100]; · subst h3; decide
 by_cases h4:name=[108,97,115,116]; · subst h4; decide
 by_cases h5:name=[116,101,120,116]; · subst h5; decide
 by_cases h6:name=[99,111,97,108,101,115,99,101]; · subst h6; decide
 by_cases h7:name=[107,101,121,115]; · subst h7; decide
 by_cases h8:name=[108,97,98,101,108,115]; · subst h8; decide
 by_cases h9:name=[116,121,112,101]; · subst h9; decide
 by_cases h10:name=[114,97,110,103,101]; · subst h10; decide
 simp only[qzx,qi9,qem,kbf.2 h1,kbf.2 h2,kbf.2 h3,kbf.2 h4,kbf.2 h5,kbf.2 h6,kbf.2 h7,kbf.2 h8,kbf.2 h9,kbf.2 h10,kcf,jW]
 decide
theorem qr9 (v:Env):∀ n:Nat,n<=1073741824 ->
  (∀ l kind,0<=kind->v.length+2 * qfz l<n->(∀ x∈l,WfE x)->qgm n (qf9 v) l kind=some (qky v kind l)) /\
  (∀ x,v.length+2 * qka x+1<n->WfE x->∃ k,ql3 n (qf9 v) x=some (k,(qnh v x).2)/\((qnh v x).2=0->k=(qnh v x).1)):=by
 intro n
 induction n with
 | zero=>intro _; exact⟨fun _ _ _ h=>by omega,fun _ h=>by omega⟩
 | succ n ih=>
  intro hn;obtain⟨iha,ihe⟩:=ih (by omega);refine⟨?_,?_⟩
  ·intro l kind h0 hl hw
   have hlen:=qd3 l;simp only[qgm,q0f];have e:=qc4 (B:=qp8 n l (ql3 n) (v.map (·.1)) (v.map (·.2)) kind) (fun k=>((k:Nat):Int)) (l:=l) (zv3 v kind) (rest:=some 0)
    (fun k x nx hx=>by
     have hk:=qbl hx;have hm:=qhi (qbf hx);obtain⟨kd,hxx,hkd⟩:=ihe x (by omega) (hw x (qbf hx));obtain⟨op,name,⟨a1,a2,a3,a4,a5,a6⟩,names,args⟩:=x;simp only[qp8,qas,qa5 hk,kct,qaj hx,qad,hxx,zv3];generalize qnh v _=r at *;obtain⟨kd2,er⟩:=r;rw[qb7 (by omega)];by_cases h1:er=0
     ·subst h1
      obtain rfl:=hkd rfl;by_cases h2:kind=0
      ·subst h2; simp[ji]
      have h2':0<kind:=by omega
      by_cases h3:kd=kind
      ·subst h3; simp[ji]
      simp[h2,h2',h3,ji]
     simp[h1,ji])
    (fun nx=>by simp only[qp8,qas,qar,kcf]) (n:=n) (by omega)
   exact Eq.trans e (znu v kind l)
  intro x hx hw;obtain⟨op,name,⟨a1,a2,a3,a4,a5,a6⟩,names,args⟩:=x;obtain⟨w1,w2,w3⟩:=zau hw;have hb:v.length+2 * qfz args<n/\names.length<n:=by
   have:=qee names;have h0:=qd3 args;simp only[qka]at hx;omega
  have htw:=q1r hb.2 (by omega);have hkd:=qfb (n:=n) (v:=v) (by omega) (by omega) name;have hall:=fun kind h0=>iha args kind h0 hb.1 w3
  have h0:=hall 0 (by omega); have h1:=hall 1 (by omega); have h3:=hall 3 (by omega); have hc:=hall (qzx name).kind (zl4 name);simp only[ql3,qxb,qnu,qe1,zdw,qad,qas,h0,h1,h3,hc,hkd,htw,qnh];by_cases h2:op=2
  ·subst h2
   by_cases hk:qcr v name=0<;>simp[hk,ji]
  by_cases h14:op=14
  ·subst h14; simp[ji]
  by_cases h13:op=13
  ·subst h13
   by_cases hcc:(args.length:Int)<(qzx name).least\/(args.length:Int)>(qzx name).most
   ·simp[hcc,ji]
   by_cases hz:qky v (qzx name).kind args=0<;>simp[hcc,hz,ji]
  by_cases h10:op=10
  ·have hl:=w2 h10
   subst h10;obtain⟨p,l1,rfl⟩:=List.exists_cons_of_length_pos (l:=args) (by omega);obtain⟨q,l2,rfl⟩:=List.exists_cons_of_length_pos (l:=l1) (by simp at hl; omega);have hl2:l2=[]:=by simpa using hl
   subst hl2;obtain⟨kp,hp,hp'⟩:=ihe p (by simp only[qfz]at hb; omega) (w3 p (by simp));obtain⟨kq,hq,hq'⟩:=ihe q (by simp only[qfz]at hb; omega) (w3 q (by simp));obtain⟨op1,name1,⟨b1,b2,b3,b4,b5,b6⟩,names1,args1⟩:=p;obtain⟨op2,name2,⟨c1,c2,c3,c4,c5,c6⟩,names2,args2⟩:=q;rcases r1:qnh v (.mk op1 name1 (.mk b1 b2 b3 b4 b5 b6) names1 args1)with ⟨kd,er⟩;rcases r2:qnh v (.mk op2 name2 (.mk c1 c2 c3 c4 c5 c6) names2 args2)with ⟨kd2,er2⟩;rw[r1]at hp hp';rw[r2]at hq hq';simp only[qr8,zjo,qad,hp,hq,qky,zje,eqs,r1,r2];simp only at hp' hq';by_cases e1:er=0
   ·obtain rfl:=hp' e1
    by_cases e2:er2=0
    ·obtain rfl:=hq' e2
     by_cases e3:kp=kq<;>cases(name==[61])<;>cases(name==[60,62])<;>simp[e1,e2,e3,ji]<;>(by_cases e4:kp=3<;>by_cases e5:kq=3<;>simp_all)
    cases(name==[61])<;>cases(name==[60,62])<;>simp[e1,e2,ji]<;>(by_cases e4:kp=3<;>simp_all)
   ·cases(name==[61])<;>cases(name==[60,62])<;>simp[e1,ji]
  by_cases h6:op=6
  ·subst h6
   by_cases hz:qky v 3 args=0<;>cases hd:dup names<;>simp[hz,hd,qaw,ji]
  have hnm:=w1 h6;subst hnm;have hd:dup []=false:=rfl;by_cases h4:op=4
  ·subst h4; by_cases hz:qky v 0 args=0<;>simp[hz,ji]
  by_cases h11:op=11
  ·subst h11; by_cases hz:qky v 0 args=0<;>simp[hz,ji]
  by_cases h12:op=12
  ·subst h12; by_cases hz:qky v 0 args=0<;>simp[hz,ji]
  by_cases h15:op=15
  ·subst h15; by_cases hz:qky v 1 args=0<;>simp[hz,ji]
  by_cases hz:qky v 3 args=0<;>simp[h2,h14,h13,h10,h4,h11,h12,h15,h6,hz,hd,qaw,ji]
end W
end
section
open Go Ax
namespace W
structure EnvOk (v:Env):Prop where
 kinds:∀ e∈v,0<e.2
 names:∀ e∈v,e.1≠[]
 nodup:(v.map (·.1)).Nodup
abbrev qfa (v:Env):List (List UInt8):=v.map (·.1)
theorem q4f {s:List UInt8} {k:Int}:∀ {v:Env},qu3 s v=some k->(s,k)∈v
 | [],h=>by simp[qu3]at h
 | (s',k')::v,h=>by
  simp only[qu3]at h;by_cases hs:s=s'
  ·subst hs; simp at h; subst h; simp
  have:(s==s')=false:=kbf.2 hs;simp only[this,kcf]at h;exact List.mem_cons_of_mem _ (q4f h)
theorem zhv {s:List UInt8}:∀ {v:Env},qu3 s v=none->s ∉ v.map (·.1)
 | [],_=>by simp
 | (s',k')::v,h=>by
  simp only[qu3]at h;by_cases hs:s=s'
  ·subst hs; simp at h
  have:(s==s')=false:=kbf.2 hs;simp only[this,kcf]at h;simp only[jl,jg,not_or];exact⟨hs,zhv h⟩
theorem q22 {v:Env} (h:EnvOk v) (s:List UInt8):0<=qcr v s:=by
 unfold qcr qec;cases hm:qu3 s v with
 | none=>simp
 | some k=>have:=h.kinds _ (q4f hm); simp at this ⊢; omega
theorem zho {v:Env} (h:EnvOk v) {s:List UInt8} (hz:qcr v s=0):qu3 s v=none:=by
 unfold qcr qec at hz;cases hm:qu3 s v with
 | none=>rfl
 | some k=>rw[hm]at hz; have:=h.kinds _ (q4f hm); simp at this hz; omega
theorem q4a {v:Env} (h:EnvOk v):qcr v []=0:=by
 unfold qcr qec;cases hm:qu3 [] v with
 | none=>rfl
 | some k=>exact absurd rfl (h.names _ (q4f hm))
theorem zhx {s:List UInt8} {k:Int}:∀ {v:Env},qu3 s v=some k->qpp s k v=v
 | [],h=>by simp[qu3]at h
 | (s',k')::v,h=>by
  simp only[qu3]at h;by_cases hs:s=s'
  ·subst hs; simp at h; subst h; simp[qpp]
  have:(s==s')=false:=kbf.2 hs;simp only[this,kcf]at h;simp only[qpp,this,kcf,zhx h]
def qmr (v:Env) (s:List UInt8) (k:Int):Env:=if s=[]\/qcr v s≠0 then v else v++[(s,k)]
theorem q4s {v:Env} (h:EnvOk v) (s:List UInt8) {k:Int} (hk:0<k):EnvOk (qmr v s k):=by
 unfold qmr;split
 ·exact h
 rename_i hs;simp only[not_or,Decidable.not_not]at hs;refine⟨fun e he=>?_,fun e he=>?_,?_⟩
 ·rcases jz.1 he with he|he
  ·exact h.kinds e he
  simp at he; subst he; exact hk
 ·rcases jz.1 he with he|he
  ·exact h.names e he
  simp at he; subst he; exact hs.1
 rw[ke,List.nodup_append];refine⟨h.nodup,by simp,?_⟩;intro a ha b hb;simp at hb;subst hb;exact fun e=>zhv (zho h hs.2) (e ▸ ha)
theorem q0e (v:Env) (s:List UInt8) (k:Int):(qmr v s k).length<=v.length+1:=by
 unfold qmr;split<;>simp
theorem zck:EnvOk []:=⟨by simp,by simp,by simp⟩
theorem zkm {m b:Nat} (h:m<=1073741824) (hb:b<=1024):decide (m * b<=140737488355328)=true:=by
 refine kdt ?_;have:m * b<=1073741824 * 1024:=Nat.mul_le_mul h hb;omega
theorem qm8 {n:Nat} {v:Env} (h:EnvOk v) (hv:v.length<n) (hn:n<=1073741824) {s:List UInt8} (hs:s≠[]) {k:Int} (hk:qcr v s=0\/qcr v s=k) (hk0:k≠0) :
  qdb n s k (qfa v) v=some (qfa (qmr v s k),qmr v s k):=by
 unfold qdb;by_cases hz:qcr v s=0
 ·have hz':qec v s 0=0:=hz
  have hw:qmr v s k=v++[(s,k)]:=by unfold qmr; rw[if_neg (by simp[hs,hz])]
  rw[hw];simp only[hz',kbs,kct,qfc,zlm _ _ _ (zho h hz),ke,jl,jO];rw[qa0 (zkm (by simp; omega) (by omega))]
 have hz':(qec v s 0==0)=false:=kbf.2 hz;have hk':qcr v s=k:=hk.resolve_left hz;have hw:qmr v s k=v:=by unfold qmr; rw[if_pos (.inr hz)]
 rw[hw];have hm:qu3 s v=some k:=by
  unfold qcr qec at hk';cases hm:qu3 s v with
  | none=>rw[hm]at hk'; simp at hk'; exact absurd hk'.symm hk0
  | some k'=>rw[hm]at hk'; simp at hk'; rw[hk']
 simp only[hz',kcf,qfc,zhx hm]
theorem qti {n:Nat} {v:Env} (h:EnvOk v) (hv:v.length<n) (hn:n<=1073741824) (s:List UInt8) (k:Int):qht n (qf9 v) s k=some (qf9 (qmr v s k)):=by
 unfold qht;have hkd:=qfb hv hn s;have hnn:=q22 h s;simp only[hkd];by_cases hs:s=[]
 ·subst hs; simp[qmr]
 have hs':(s==[])=false:=kbf.2 hs;by_cases hz:qcr v s=0
 ·have hw:qmr v s k=v++[(s,k)]:=by unfold qmr; rw[if_neg (by simp[hs,hz])]
  rw[hw];simp only[hs',hz,jp,qc3,qad,kcf];rw[kdf (by omega)];simp only[kcf];rw[qa0 (zkm (by simp; omega) (by omega)),qa0 (zkm (by simp; omega) (by omega)),qa0 (zkm (by simp; omega) (by omega)),qa0 (zkm (by simp; omega) (by omega))];simp[qf9]
 have hw:qmr v s k=v:=by unfold qmr; rw[if_pos (.inr hz)]
 rw[hw];simp only[hs',jp,qc3,qad,kcf];rw[kdt (by omega)];rfl
def qqe (v:Env) (keys:List (List UInt8)) (vals:List qaa):Int:=
 if qky v 3 vals≠0 then qky v 3 vals else if dup keys then 2 else 0
theorem qyh {n:Nat} {o:List (List UInt8)} {v:Env} {keys:List (List UInt8)} {vals:List qaa} (h1:2 * qfz vals<n) (h2:keys.length<n) (hn:n<=1073741824) (hw:∀ x∈vals,WfE x) :
  qge n keys vals o v=some (qqe v keys vals):=by
 unfold qge;rw[(qmf o v n hn).1 vals 3 h1 hw,qyi h2 hn];unfold qqe;by_cases hz:qky v 3 vals=0<;>cases hd:dup keys<;>simp[hz,ji]
theorem q1t {n:Nat} {v:Env} {keys:List (List UInt8)} {vals:List qaa} (h1:v.length+2 * qfz vals<n) (h2:keys.length<n) (hn:n<=1073741824) (hw:∀ x∈vals,WfE x) :
  qrm n (qf9 v) keys vals=some (qqe v keys vals):=by
 unfold qrm;have hall:=(qr9 v n hn).1 vals 3 (by omega) h1 hw;simp only[qf9]at hall;simp only[hall,q1r h2 hn,qox];unfold qqe;by_cases hz:qky v 3 vals=0<;>cases hd:dup keys<;>simp[hz,qaw,ji]
end W
end
section
open Go Ax
namespace W
theorem q34 {A R T:Type} (I:Nat->T->Prop) {f:T->A->R ⊕ T}:∀ (l:List A) (k:Nat) (t t':T),(∀ j x t t',l[j]? =some x->I (k+j) t->f t x=.inr t'->I (k+j+1) t')->I k t->qfs f t l=.inr t'->I (k+l.length) t'
 | [],k,t,t',_,hi,h=>by simp only[qfs,Sum.inr.injEq]at h; subst h; exact hi
 | x::l,k,t,t',hs,hi,h=>by
  simp only[qfs]at h;cases hf:f t x with
  | inl r=>rw[hf]at h; cases h
  | inr t1=>
   rw[hf]at h;have h1:=hs 0 x t t1 rfl hi hf;have:=q34 I l (k+1) t1 t' (fun j y u u' hy hu hf'=>by
    have:=hs (j+1) y u u' (by simpa using hy) (by rw[show k+(j+1)=k+1+j by omega]; exact hu) hf';rw[show k+(j+1)+1=k+1+j+1 by omega]at this;exact this) h1 h
   rw[ja,show k+(l.length+1)=k+1+l.length by omega];exact this
theorem qbt {A:Type} (f:A->Nat):∀ {l:List A} {x:A},x∈l->f x<=(l.map f).sum
 | y::l,x,h=>by
  rcases jg.1 h with rfl|h
  ·simp
  have:=qbt f h; simp; omega
theorem qbi {A:Type} (f:A->Nat) (hf:∀ x,1<=f x):∀ l:List A,l.length<=(l.map f).sum
 | []=>by simp
 | x::l=>by have:=qbi f hf l; have:=hf x; simp; omega
theorem qyc {A:Type} (f:A->Nat):∀ {l:List A} {k:Nat} {x:A},l[k]? =some x->((l.take k).map f).sum+f x<=(l.map f).sum
 | [],_,_,h=>by simp at h
 | y::l,0,x,h=>by simp at h; subst h; simp
 | y::l,k+1,x,h=>by
  have:=qyc f (l:=l) (k:=k) (x:=x) (by simpa using h);simp only[List.take_succ_cons,jl,jB]; omega
theorem q4p {A:Type} (f:A->Nat) {l:List A} {k:Nat} {x:A} (h:l[k]? =some x):((l.take (k+1)).map f).sum=((l.take k).map f).sum+f x:=by
 rw[List.take_succ,h]; simp
def qgu (d:qae):Nat:=1+d.var_.length+qwe d.labels+qwe d.keys+qfz d.vals
def qng (d:qag):Nat:=1+d.var_.length+d.type_.length+qwe d.keys+qfz d.vals
def qiq (p:qa9):Nat:=1+(p.nodes.map qgu).sum+(p.edges.map qng).sum
structure WfP (p:qa9):Prop where
 len:p.nodes.length=p.edges.length+1
 nodes:∀ d∈p.nodes,∀ x∈d.vals,WfE x
 edges:∀ d∈p.edges,∀ x∈d.vals,WfE x
@[simp] theorem qc7 (l:List qae):(qae.rows l).length=l.length:=by simp[qae.rows]
@[simp] theorem qf4 (l:List qag):(qag.rows l).length=l.length:=by simp[qag.rows]
@[simp] theorem qcp (l:List qa9):(qa9.rows l).length=l.length:=by simp[qa9.rows]
abbrev Out:=(Int×Env) ⊕ Env
def qxs (made:Bool) (ahead v:Env) (d:qag):Out:=
 if qcr v d.var_≠0\/(made=true/\(d.type_=[]\/d.dir=2))then .inl (2,v)
 else if qqe ahead d.keys d.vals≠0 then .inl (qqe ahead d.keys d.vals,v)
 else .inr (qmr v d.var_ 2)
def q1o (made:Bool) (ahead v:Env) (d:qae):Out:=
 if qcr v d.var_≠0/\qcr v d.var_≠1 then .inl (3,v)
 else if qcr v d.var_=1/\made=true/\0<d.labels.length+d.keys.length then .inl (2,v)
 else if qqe ahead d.keys d.vals≠0 then .inl (qqe ahead d.keys d.vals,v)
 else .inr (qmr v d.var_ 1)
def qrf (made:Bool) (ahead v:Env):Option qag×qae->Out
 | (none,d)=>q1o made ahead v d
 | (some e,d)=>match qxs made ahead v e with
  | .inl r=>.inl r
  | .inr v'=>q1o made ahead v' d
def q27 (p:qa9):List (Option qag×qae):=(none::p.edges.map some).zip p.nodes
def qtp (made:Bool) (ahead v:Env) (p:qa9):Out:=qfs (qrf made ahead) v (q27 p)
def qrb (made:Bool) (ahead v:Env) (l:List qa9):Out:=qfs (qtp made ahead) v l
theorem zas {p:qa9} (h:WfP p):(q27 p).length=p.nodes.length:=by
 simp[q27,h.len]
theorem zar {p:qa9} {k:Nat} {eo:Option qag} {d:qae} (h:(q27 p)[k]? =some (eo,d)) :
  p.nodes[k]? =some d/\(k=0->eo=none)/\(∀ j,k=j+1->∃ e,eo=some e/\p.edges[j]? =some e):=by
 unfold q27 at h;rw[List.getElem?_zip_eq_some]at h;refine⟨h.2,fun e=>?_,fun j e=>?_⟩
 ·subst e; simpa using h.1.symm
 subst e;have h1:=h.1;simp only[List.getElem?_cons_succ,List.getElem?_map,Option.map_eq_some_iff]at h1;obtain⟨x,hx,rfl⟩:=h1;exact⟨x,rfl,hx⟩
theorem zk4 {made:Bool} {ahead v v':Env} {d:qag} (h:EnvOk v) (e:qxs made ahead v d=.inr v'):EnvOk v'/\v'.length<=v.length+1:=by
 unfold qxs at e;split at e
 ·cases e
 split at e
 ·cases e
 cases e; exact⟨q4s h _ (by decide),q0e _ _ _⟩
theorem zlq {made:Bool} {ahead v v':Env} {d:qae} (h:EnvOk v) (e:q1o made ahead v d=.inr v'):EnvOk v'/\v'.length<=v.length+1:=by
 unfold q1o at e;split at e
 ·cases e
 split at e
 ·cases e
 split at e
 ·cases e
 cases e; exact⟨q4s h _ (by decide),q0e _ _ _⟩
theorem zf1 {made:Bool} {ahead v v':Env} {x:Option qag×qae} (h:EnvOk v) (e:qrf made ahead v x=.inr v'):EnvOk v'/\v'.length<=v.length+2:=by
 obtain⟨eo,d⟩:=x;cases eo with
 | none=>have:=zlq h e; exact⟨this.1,by omega⟩
 | some ed=>
  simp only[qrf]at e;cases he:qxs made ahead v ed with
  | inl r=>rw[he]at e; cases e
  | inr v1=>
   rw[he]at e;have h1:=zk4 h he;have h2:=zlq h1.1 e;exact⟨h2.1,by omega⟩
theorem zsv {made:Bool} {ahead v v':Env} {p:qa9} (hp:WfP p) (h:EnvOk v) (e:qtp made ahead v p=.inr v'):EnvOk v'/\v'.length<=v.length+2 * qiq p:=by
 have:=q34 (fun k t=>EnvOk t/\t.length<=v.length+2 * k) (q27 p) 0 v v' (fun j x t t' _ hi hf=>by
  have:=zf1 hi.1 hf;exact⟨this.1,by omega⟩) ⟨h,by omega⟩ e
 rw[zas hp]at this;have hl:=qbi qgu (fun x=>by unfold qgu; omega) p.nodes
 unfold qiq;exact⟨this.1,by omega⟩
def zrw:Out->Int×List (List UInt8)×Env
 | .inl (e,v)=>(e,qfa v,v)
 | .inr v=>(0,qfa v,v)
theorem zoh {made:Bool} {ahead v:Env} {d:qag} {r:Int×Env} (e:qxs made ahead v d=.inl r):r.1≠0:=by
 unfold qxs at e;split at e
 ·cases e; simp
 split at e
 ·rename_i h; cases e; exact h
 cases e
theorem q83 {n:Nat} {v ahead:Env} (h:EnvOk v) (hn:n<=1073741824) {d:qag} (made:Bool) (h1:v.length+2 * qng d<n) (hw:∀ x∈d.vals,WfE x) :
  qjc n d made (qfa v) v (qfa ahead) ahead=some (zrw (qxs made ahead v d)):=by
 obtain⟨var,type,dir,keys,vals⟩:=d;unfold qng at h1;have:=qee keys;simp only at h1 hw;have hp:=qyh (n:=n) (o:=qfa ahead) (v:=ahead) (keys:=keys) (vals:=vals) (by omega) (by omega) hn hw;unfold qjc;simp only[hp,qad,qgo,qxs];by_cases hk:qcr v var=0
 ·have hk':qec v var 0=0:=hk
  simp only[hk',hk];have hb:var≠[]->qdb n var 2 (qfa v) v=some (qfa (qmr v var 2),qmr v var 2):=fun hv=>qm8 h (by omega) hn hv (.inl hk) (by decide)
  cases made<;>by_cases ht:type=[]<;>by_cases hd:dir=2<;>by_cases hz:qqe ahead keys vals=0<;>by_cases hv:var=[] <;>
   simp[ht,hd,hz,hv,ji,zrw,qmr]<;>(try (have:=hb hv; simp[qmr,hv,hk]at this; simp[this,hk]))
 have hk2:¬ qec v var 0=0:=hk;have hk':(qec v var 0 != 0)=true:=by simpa using hk2
 simp[hk',hk,zrw]
theorem zbq {n:Nat} {v:Env} (h:EnvOk v) (s:List UInt8):qkv n s (qfa v) v=some (decide (qcr v s≠0),if qcr v s≠0/\qcr v s≠1 then 3 else 0):=by
 unfold qkv;have hk:qcr v s=qec v s 0:=rfl;by_cases hs:s=[]
 ·subst hs
  simp[q4a h]
 rw[← hk];by_cases hz:qcr v s=0<;>by_cases h1:qcr v s=1<;>simp[hs,hz,h1,ji]
def goP (k:Nat) (nx:Int×List (List UInt8)×Env->Option (Int×List (List UInt8)×Env)) (o:Out):Option (Int×List (List UInt8)×Env):=
 zp5 (match o with|.inl (e,v)=>(.inl (e,qfa v,v):(Int×List (List UInt8)×Env) ⊕ Env)|.inr v=>.inr v) fun v=>nx (((k+1:Nat):Int),qfa v,v)
theorem q85 {n:Nat} {v ahead:Env} (h:EnvOk v) (hn:n<=1073741824) {d:qae} (made:Bool) (h1:v.length+2 * qgu d<n) (hw:∀ x∈d.vals,WfE x) {k:Nat} (hk:k<n) (nx:Int×List (List UInt8)×Env->Option (Int×List (List UInt8)×Env)) :
  qev n d.var_ made d.labels d.keys d.vals (qfa ahead) ahead nx (k:Int) (qfa v,v)=goP k nx (q1o made ahead v d):=by
 obtain⟨var,labels,keys,vals⟩:=d;unfold qgu at h1;have:=qee keys;have:=qee labels;simp only at h1 hw;have hp:=qyh (n:=n) (o:=qfa ahead) (v:=ahead) (keys:=keys) (vals:=vals) (by omega) (by omega) hn hw;have hsum:kwr .i64 ((labels.length:Int)+(keys.length:Int))=((labels.length+keys.length:Nat):Int):=by rw[qw3 (by omega) (by omega)]; omega
 have hlt:decide (((labels.length+keys.length:Nat):Int)>0)=decide (0<labels.length+keys.length):=by
  by_cases hh:0<labels.length+keys.length
  ·rw[kdt hh,kdt (by omega)]
  rw[kdf hh,kdf (by omega)]
 simp only[qev,zbq h,qad,qay,hsum,hlt,qf7,hp,qf8,qf6,q1o,goP];rw[qb7 (by omega)];have hb:var≠[]->qcr v var=0\/qcr v var=1->qdb n var 1 (qfa v) v=some (qfa (qmr v var 1),qmr v var 1):=fun hv hkk=>qm8 h (by omega) hn hv hkk (by decide)
 by_cases hz:qcr v var=0
 ·by_cases hv:var=[]
  ·subst hv
   by_cases hq:qqe ahead keys vals=0<;>simp[hz,hq,qmr,ji]
  have hb':=hb hv (.inl hz);by_cases hq:qqe ahead keys vals=0<;>simp[hz,hq,hv,hb',ji]
 by_cases ho:qcr v var=1
 ·have hv:var≠[]:=fun e=>by subst e; rw[q4a h]at ho; cases ho
  have hb':=hb hv (.inr ho);cases made<;>by_cases hq:qqe ahead keys vals=0<;>by_cases hl:0<labels.length+keys.length<;>simp[ho,hq,hv,hb',hl,ji]
 ·simp[hz,ho,ji]
end W
end
section
open Go Ax
namespace W
theorem zvv {p:qa9} (hp:WfP p) {k:Nat} {x:Option qag×qae} (h:(q27 p)[k]? =some x):x.2∈p.nodes/\∀ e,x.1=some e->e∈p.edges:=by
 obtain⟨eo,d⟩:=x;obtain⟨h1,h2,h3⟩:=zar h;refine⟨qbf h1,fun e he=>?_⟩;cases k with
 | zero=>have:=h2 rfl; rw[this]at he; cases he
 | succ j=>
  obtain⟨e',he',hm⟩:=h3 j rfl;simp only at he;rw[he']at he;cases he;exact qbf hm
theorem qwx (x:qae):1<=qgu x:=by unfold qgu; omega
theorem q90 (x:qag):1<=qng x:=by unfold qng; omega
theorem ztz (k:Nat) (nx:Int×List (List UInt8)×Env->Option (Int×List (List UInt8)×Env)) (o:Out) :
  goP k nx o=zp5 (match o with|.inl (e,v)=>(.inl (e,qfa v,v):(Int×List (List UInt8)×Env) ⊕ Env)|.inr v=>.inr v) fun v=>nx (((k+1:Nat):Int),qfa v,v):=rfl
def toP (o:Out):(Int×List (List UInt8)×Env) ⊕ Env:=match o with|.inl (e,v)=>.inl (e,qfa v,v)|.inr v=>.inr v
theorem qsr {A R R' T:Type} (g:R->R') (f:T->A->R ⊕ T) (f':T->A->R' ⊕ T) (h:∀ t x,f' t x=(match f t x with|.inl r=>.inl (g r)|.inr t=>.inr t)) :
  ∀ (l:List A) (t:T),qfs f' t l=(match qfs f t l with|.inl r=>.inl (g r)|.inr t=>.inr t)
 | [],t=>rfl
 | x::l,t=>by
  simp only[qfs,h];cases f t x with
  | inl r=>rfl
  | inr t'=>exact qsr g f f' h l t'
theorem q86 {n:Nat} {v ahead:Env} (h:EnvOk v) (hn:n<=1073741824) {p:qa9} (hp:WfP p) (made:Bool) (h1:v.length+2 * qiq p<n) :
  qje n p made (qfa v) v (qfa ahead) ahead=some (zrw (qtp made ahead v p)):=by
 obtain⟨nodes,edges⟩:=p;have hl:=zas hp;have hln:=qbi qgu qwx nodes;have hpb:nodes.length+1<=qiq ⟨nodes,edges⟩:=by unfold qiq; simp only; omega
 unfold qje;have e:=qni (B:=qff n nodes edges made (qfa ahead) ahead) (fun k (t:Env)=>((k:Int),qfa t,t)) (fun k t=>EnvOk t/\t.length<=v.length+2 * k) (l:=q27 ⟨nodes,edges⟩)
  (fun t x=>toP (qrf made ahead t x)) (rest:=fun t=>some (0,qfa t,t))
  (fun k x t nx hx hi=>by
   have hwf:=zvv hp hx;obtain⟨eo,d⟩:=x;obtain⟨g1,g2,g3⟩:=zar hx;simp only at g1 g2 g3;have hk:=qbl g1;have hd:=qbt qgu (qbf g1);have hpd:qgu d+1<=qiq ⟨nodes,edges⟩:=by unfold qiq; simp only; omega
   have hsd:=qyc qgu g1;have hst:=qbi qgu qwx (nodes.take k);have hkl:(nodes.take k).length=k:=by simp; omega
   have hkd:k+qgu d+1<=qiq ⟨nodes,edges⟩:=by unfold qiq; simp only; omega
   have hnode:=fun(v':Env) (hv:EnvOk v') (hvl:v'.length<=t.length+1)=>q85 (ahead:=ahead) hv hn made (d:=d) (by have:=hi.2; omega) (hp.nodes d (qbf g1)) (k:=k) (by omega) nx;have hd':d=⟨d.var_,d.labels,d.keys,d.vals⟩:=rfl;simp only[qff,qc7,qa5 hk,kct,qaj g1,qad];cases k with
   | zero=>
    have:=g2 rfl;subst this;rw[show decide (((0:Nat):Int)>0)=false from rfl,kcf];rw[hnode t hi.1 (by omega),ztz];unfold toP;rfl
   | succ j=>
    obtain⟨ed,rfl,he⟩:=g3 j rfl;have hed:=qbt qng (qbf he);have hse:=qyc qng he;have hset:=qbi qng q90 (edges.take j);have hjl:(edges.take j).length=j:=by have:=qbl he; simp; omega
    have hdn:j+1+j+qng ed+1<=qiq ⟨nodes,edges⟩:=by unfold qiq; simp only; omega
    rw[show decide (((j+1:Nat):Int)>0)=true from kdt (by omega),kct];have hw1:kwr .i64 (((j+1:Nat):Int) - 1)=((j:Nat):Int):=by rw[qw3 (by omega) (by omega)]; omega
    rw[hw1,qaj he,qad];have hedge:=q83 (ahead:=ahead) hi.1 hn made (d:=ed) (by have:=hi.2; omega) (hp.edges ed (qbf he));simp only[hedge,qad,qrf];cases hE:qxs made ahead t ed with
    | inl r=>
     obtain⟨er,v'⟩:=r;have hne:=zoh hE;simp only at hne;simp[zrw,toP,hne,ji]
    | inr v'=>
     have hv':=zk4 hi.1 hE;simp only[zrw,toP];rw[show((0:Int) != 0)=false from rfl,kcf];rw[hnode v' hv'.1 hv'.2,ztz])
  (fun k x t t' hx hi hf=>by
   have:qrf made ahead t x=.inr t':=by
    unfold toP at hf;cases hs:qrf made ahead t x with
    | inl r=>rw[hs]at hf; cases hf
    | inr u=>rw[hs]at hf; cases hf; rfl
   have:=zf1 hi.1 this;exact⟨this.1,by have:=hi.2; omega⟩)
  (fun t nx hi=>by
   rw[hl];simp only[qff,qc7,qar,kcf]) (n:=n) (by rw[hl]; show nodes.length<n; omega) (t0:=v) ⟨h,by simp⟩
 refine Eq.trans e ?_;rw[qsr (fun(r:Int×Env)=>(r.1,qfa r.2,r.2)) (qrf made ahead) _ (fun t x=>by unfold toP; cases qrf made ahead t x<;>rfl)]
 unfold qtp;cases qfs (qrf made ahead) v (q27 ⟨nodes,edges⟩)<;>rfl
theorem q81 {n:Nat} {v:Env} (h:EnvOk v) (hv:v.length<n) (hn:n<=1073741824):qja n (qfa v) v=some (qfa v,v):=by
 unfold qja;have hk:∀ (k:Nat) (x:List UInt8×Int),v[k]? =some x->qcr v x.1=x.2:=fun k x hx=>by
  have:∀ {v:Env},(v.map (·.1)).Nodup->x∈v->qu3 x.1 v=some x.2:=by
   clear hx;intro v
   induction v with
   | nil=>intro _ h; cases h
   | cons y v ih=>
    intro hd hm;simp only[jl,List.nodup_cons]at hd;rcases jg.1 hm with rfl|hm2
    ·obtain⟨xk,xv⟩:=x
     simp[qu3]
    have hne:x.1≠y.1:=fun e=>hd.1 (by rw[← e]; exact List.mem_map.2 ⟨x,hm2,rfl⟩)
    obtain⟨yk,yv⟩:=y;simp only[qu3,kbf.2 hne,kcf];exact ih hd.2 hm2
  unfold qcr qec;rw[this h.nodup (qbf hx)];rfl
 have htk:∀ (k:Nat) (x:List UInt8×Int),v[k]? =some x->EnvOk (v.take k)/\qcr (v.take k) x.1=0:=fun k x hx=>by
  have hs:(v.take k++v.drop k)=v:=List.take_append_drop k v;have hnd:=h.nodup;rw[← hs,ke,List.nodup_append]at hnd;refine⟨⟨fun e he=>h.kinds e (List.mem_of_mem_take he),fun e he=>h.names e (List.mem_of_mem_take he),hnd.1⟩,?_⟩
  unfold qcr qec;cases hm:qu3 x.1 (v.take k)with
  | none=>rfl
  | some y=>
   have h1:x.1∈(v.take k).map (·.1):=List.mem_map.2 ⟨_,q4f hm,rfl⟩
   have h2:x.1∈(v.drop k).map (·.1):=by
    refine List.mem_map.2 ⟨x,?_,rfl⟩;refine List.mem_of_getElem? (i:=0) ?_;rw[List.getElem?_drop];simpa using hx
   exact absurd rfl (hnd.2.2 _ h1 _ h2)
 have:=qj4 (B:=qfd n (qfa v) v) (fun k=>((k:Int),qfa (v.take k),v.take k)) v.length (r:=some (qfa v,v))
  (fun k hk' nx=>by
   obtain⟨x,hx⟩:∃ x,v[k]? =some x:=⟨v[k],jf hk'⟩;have h1:(qfa v)[k]? =some x.1:=by simp[hx]
   obtain⟨hok,hz⟩:=htk k x hx;have hx2:qec v x.1 0=x.2:=hk k x hx;have hpos:=h.kinds x (qbf hx);have hb:=qm8 hok (n:=n) (by simp; omega) hn (h.names x (qbf hx)) (k:=x.2) (.inl hz) (by omega);simp only[qfd,qay,jm,qa5 hk',kct,qaj h1,qad,hx2,hb];rw[qb7 (by omega)];have hw:qmr (v.take k) x.1 x.2=v.take (k+1):=by
    unfold qmr;rw[if_neg (by simp[h.names x (qbf hx),hz]),List.take_succ,hx];rfl
   rw[hw])
  (fun nx=>by simp only[qfd,qay,jm,qar,kcf,List.take_length]) hv
 simpa using this
end W
end
section
open Go Ax
namespace W
def qwa (l:List qa9):Nat:=1+(l.map qiq).sum
theorem q78 (p:qa9):1<=qiq p:=by unfold qiq; omega
theorem q50 {made:Bool} {ahead v:Env} {l:List qa9} (hp:∀ p∈l,WfP p) (h:EnvOk v) :
  ∀ (k:Nat) (x:qa9) (t t':Env),l[k]? =some x->(EnvOk t/\t.length<=v.length+2 * ((l.take k).map qiq).sum)->qtp made ahead t x=.inr t'->EnvOk t'/\t'.length<=v.length+2 * ((l.take (k+1)).map qiq).sum:=by
 intro k x t t' hx hi hf;have:=zsv (hp x (qbf hx)) hi.1 hf;rw[q4p qiq hx];exact⟨this.1,by omega⟩
theorem zap {made:Bool} {ahead v v':Env} {l:List qa9} (hp:∀ p∈l,WfP p) (h:EnvOk v) (e:qrb made ahead v l=.inr v'):EnvOk v'/\v'.length<=v.length+2 * qwa l:=by
 have:=q34 (fun k t=>EnvOk t/\t.length<=v.length+2 * ((l.take k).map qiq).sum) l 0 v v' (fun j x t t' hx hi hf=>by
  simp only[jy]at hi ⊢;exact q50 hp h j x t t' hx hi hf) ⟨h,by simp⟩ e
 simp only[jy,List.take_length]at this;unfold qwa;exact⟨this.1,by omega⟩
theorem q63 {n:Nat} {v:Env} (h:EnvOk v) (hn:n<=1073741824) {l:List qa9} (hp:∀ p∈l,WfP p) (made:Bool) (h1:v.length+2 * qwa l<n) :
  qe9 n l made (qfa v) v=some (zrw (qrb made v v l)):=by
 have hlen:=qbi qiq q78 l;unfold qe9;unfold qwa at h1;rw[q81 h (by omega) hn,qad];have e:=qni (B:=qew n l made (qfa v) v) (fun k (t:Env)=>((k:Int),qfa t,t)) (fun k t=>EnvOk t/\t.length<=v.length+2 * ((l.take k).map qiq).sum) (l:=l)
  (fun t x=>toP (qtp made v t x)) (rest:=fun t=>some (0,qfa t,t))
  (fun k x t nx hx hi=>by
   have hk:=qbl hx;have ht:=qyc qiq hx;have hpe:=q86 (ahead:=v) hi.1 hn (hp x (qbf hx)) made (by have:=hi.2; omega);obtain⟨nodes,edges⟩:=x;simp only[qew,qcp,qa5 hk,kct,qaj hx,qad,hpe];rw[qb7 (by omega)];cases hS:qtp made v t ⟨nodes,edges⟩with
   | inl r=>
    obtain⟨er,v'⟩:=r;have hne:er≠0:=by
     have:∀ (l:List (Option qag×qae)) (u:Env),qfs (qrf made v) u l=.inl (er,v')->er≠0:=by
      intro l
      induction l with
      | nil=>intro u h; cases h
      | cons y l ih=>
       intro u hu;simp only[qfs]at hu;cases hy:qrf made v u y with
       | inr u'=>rw[hy]at hu; exact ih u' hu
       | inl r=>
        rw[hy]at hu;cases hu;obtain⟨eo,d⟩:=y;have hnode:∀ w:Env,q1o made v w d=.inl (er,v')->er≠0:=by
         intro w hw;unfold q1o at hw;split at hw
         ·cases hw; simp
         split at hw
         ·cases hw; simp
         split at hw
         ·rename_i hz; cases hw; exact hz
         cases hw
        cases eo with
        | none=>exact hnode u hy
        | some ed=>
         simp only[qrf]at hy;cases hed:qxs made v u ed with
         | inl r=>rw[hed]at hy; cases hy; exact zoh hed
         | inr w=>rw[hed]at hy; exact hnode w hy
     exact this _ _ hS
    simp[zrw,toP,hne,ji]
   | inr v'=>simp[zrw,toP])
  (fun k x t t' hx hi hf=>by
   have:qtp made v t x=.inr t':=by
    unfold toP at hf;cases hs:qtp made v t x with
    | inl r=>rw[hs]at hf; cases hf
    | inr u=>rw[hs]at hf; cases hf; rfl
   exact q50 hp h k x t t' hx hi this)
  (fun t nx hi=>by simp only[qew,qcp,qar,kcf]) (n:=n) (by omega) (t0:=v) ⟨h,by simp⟩
 refine Eq.trans e ?_;rw[qsr (fun(r:Int×Env)=>(r.1,qfa r.2,r.2)) (qtp made v) _ (fun t x=>by unfold toP; cases qtp made v t x<;>rfl)]
 unfold qrb;cases qfs (qtp made v) v l<;>rfl
def toR (o:Out):(qa8×Int) ⊕ Env:=match o with|.inl (e,v)=>.inl (qf9 v,e)|.inr v=>.inr v
def zyd:Out->qa8×Int
 | .inl (e,v)=>(qf9 v,e)
 | .inr v=>(qf9 v,0)
theorem zd0 {n:Nat} {v ahead:Env} (h:EnvOk v) (hn:n<=1073741824) {l:List qa9} {i:Nat} {p:qa9} (hi:l[i]? =some p) {k:Nat} {d:qae} (hd:p.nodes[k]? =some d) (made:Bool)
  (h1:v.length+ahead.length+2 * qgu d<n) (hk:k<n) (hw:∀ x∈d.vals,WfE x) (nx:Int×List (List UInt8)×List Int->Option (qa8×Int)) :
  qkr n l (i:Int) (k:Int) made (ahead.map (·.1)) (ahead.map (·.2)) nx (v.map (·.1),v.map (·.2))=zp5 (toR (q1o made ahead v d)) fun v'=>nx (((k+1:Nat):Int),v'.map (·.1),v'.map (·.2)):=by
 obtain⟨nodes,edges⟩:=p;obtain⟨var,labels,keys,vals⟩:=d;unfold qgu at h1;have hnk:=qee keys;have hnl:=qee labels;simp only at h1 hw hd;have hp:=q1t (n:=n) (v:=ahead) (keys:=keys) (vals:=vals) (by omega) (by omega) hn hw;have hkd:=qfb (n:=n) (v:=v) (by omega) hn var;have hwith:=qti (n:=n) h (by omega) hn var 1;have hsum:kwr .i64 ((labels.length:Int)+(keys.length:Int))=((labels.length+keys.length:Nat):Int):=by rw[qw3 (by omega) (by omega)]; omega
 have hlt:decide (((labels.length+keys.length:Nat):Int)>0)=decide (0<labels.length+keys.length):=by
  by_cases hh:0<labels.length+keys.length
  ·rw[kdt hh,kdt (by omega)]
  rw[kdf hh,kdf (by omega)]
 have hnn:=q22 h var;have k15:qks n (v.map (·.1)) (v.map (·.2)) made labels keys (ahead.map (·.1)) (ahead.map (·.2)) vals var nx (k:Int) (qcr v var)=zp5 (toR (q1o made ahead v ⟨var,labels,keys,vals⟩)) fun v'=>nx (((k+1:Nat):Int),v'.map (·.1),v'.map (·.2)):=by
  simp only[qks,qay,hsum,hlt,hp,hwith,qad,q1o,qf9];rw[qb7 (by omega)];by_cases hz:qcr v var=0
  ·by_cases hq:qqe ahead keys vals=0<;>simp[hz,hq,toR,ji]
  by_cases ho:qcr v var=1
  ·cases made<;>by_cases hq:qqe ahead keys vals=0<;>by_cases hl:0<labels.length+keys.length<;>simp[ho,hq,hl,toR,ji]
  have:1<qcr v var:=by omega
  simp[hz,ho,this,toR,ji]
 simp only[qkr,qaj hi,qaj hd,qad,hkd];by_cases hv:var=[]
 ·subst hv
  rw[q4a h]at k15;simpa using k15
 have hv':(var==[])=false:=kbf.2 hv;simp only[hv',jp,kct];exact k15
end W
end
section
open Go Ax
namespace W
theorem zd4 {n:Nat} {v ahead:Env} (h:EnvOk v) (hn:n<=1073741824) {l:List qa9} {i:Nat} {p:qa9} (hi:l[i]? =some p) (hp:WfP p) {k:Nat} {x:Option qag×qae} (hx:(q27 p)[k]? =some x) (made:Bool)
  (h1:v.length+2+ahead.length+2 * qiq p<n) (nx1 nx:Int×List (List UInt8)×List Int->Option (qa8×Int)) :
  qjw n l (i:Int) made (ahead.map (·.1)) (ahead.map (·.2)) nx1 nx ((k:Int),v.map (·.1),v.map (·.2))=zp5 (toR (qrf made ahead v x)) fun v'=>nx (((k+1:Nat):Int),v'.map (·.1),v'.map (·.2)):=by
 obtain⟨eo,d⟩:=x;obtain⟨g1,g2,g3⟩:=zar hx;have hk:=qbl g1;have hd:=qbt qgu (qbf g1);have hln:=qbi qgu qwx p.nodes;have hpd:qgu d+1<=qiq p:=by unfold qiq; omega
 have hpn:p.nodes.length+1<=qiq p:=by unfold qiq; omega
 have hnode:=fun(v':Env) (hv:EnvOk v') (hvl:v'.length<=v.length+1)=>zd0 (n:=n) (ahead:=ahead) hv hn hi g1 made (by omega) (by omega) (hp.nodes d (qbf g1)) nx;obtain⟨nodes,edges⟩:=p;simp only at g1 g3 hk hpn;simp only[qjw,qaj hi,qad,qc7,qa5 hk,kct];cases k with
 | zero=>
  have:=g2 rfl;subst this;rw[show decide (((0:Nat):Int)>0)=false from rfl,kcf];rw[hnode v h (by omega)];rfl
 | succ j=>
  obtain⟨ed,rfl,he⟩:=g3 j rfl;have hed:=qbt qng (qbf he);have hpe:qng ed+1<=qiq ⟨nodes,edges⟩:=by unfold qiq; simp only; omega
  have hwe:=hp.edges ed (qbf he);rw[show decide (((j+1:Nat):Int)>0)=true from kdt (by omega),kct];have hw1:kwr .i64 (((j+1:Nat):Int) - 1)=((j:Nat):Int):=by rw[qw3 (by omega) (by omega)]; omega
  obtain⟨var,type,dir,keys,vals⟩:=ed;rw[hw1,qaj he,qad];unfold qng at hpe;have hnk:=qee keys;simp only at hpe hwe;have hprop:=q1t (n:=n) (v:=ahead) (keys:=keys) (vals:=vals) (by omega) (by omega) hn hwe;have hkd:=qfb (n:=n) (v:=v) (by omega) hn var;have hwith:=qti (n:=n) h (by omega) hn var 2;have hnn:=q22 h var;simp only[hprop,hkd,hwith,qad,qrf];have herr:qcr v var≠0\/(made=true/\(type=[]\/dir=2))->qxs made ahead v ⟨var,type,dir,keys,vals⟩=.inl (2,v):=fun hc=>by unfold qxs; rw[if_pos hc]
  by_cases hc:qcr v var≠0\/(made=true/\(type=[]\/dir=2))
  ·rw[herr hc]
   have hcond:(bif(bif !(var==[])then decide (qcr v var>0)else false)then true else bif made then(bif type==[]then true else dir==2)else false)=true:=by
    rcases hc with hc|⟨rfl,hc⟩
    ·have hv:var≠[]:=fun e=>by subst e; exact hc (q4a h)
     have:0<qcr v var:=by omega
     simp[hv,this]
    rcases hc with rfl|rfl
    ·simp[ji]
    simp[ji]
   have hg:(qaw (!(var==[])) (some (qcr v var)))=some (if var=[]then default else qcr v var):=by
    by_cases hv:var=[]
    ·subst hv; rfl
    rw[kbf.2 hv,if_neg hv]; rfl
   rw[hg,qad];have hcond':(bif(bif !(var==[])then decide ((if var=[]then default else qcr v var)>0)else false)then true else bif made then(bif type==[]then true else dir==2)else false)=true:=by
    by_cases hv:var=[]
    ·subst hv; simpa using hcond
    simpa[hv]using hcond
   rw[hcond',kct];rfl
  simp only[not_or,Decidable.not_not]at hc;have hE:qxs made ahead v ⟨var,type,dir,keys,vals⟩=if qqe ahead keys vals≠0 then .inl (qqe ahead keys vals,v)else .inr (qmr v var 2):=by
   unfold qxs;rw[if_neg (by simp only[not_or,Decidable.not_not]; exact hc)]
  rw[hE];have hg:(qaw (!(var==[])) (some (qcr v var)))=some (if var=[]then default else qcr v var):=by
   by_cases hv:var=[]
   ·subst hv; rfl
   rw[kbf.2 hv,if_neg hv]; rfl
  rw[hg,qad];have hcond':(bif(bif !(var==[])then decide ((if var=[]then default else qcr v var)>0)else false)then true else bif made then(bif type==[]then true else dir==2)else false)=false:=by
   have h2:made=true->¬(type=[]\/dir=2):=fun hm hx=>hc.2 ⟨hm,hx⟩
   cases made with
   | false=>by_cases hv:var=[]<;>simp[hv,hc.1]
   | true=>
    have:=h2 rfl;simp only[not_or]at this;by_cases hv:var=[]<;>simp[hv,hc.1,this.1,this.2,ji]
  rw[hcond',kcf];by_cases hq:qqe ahead keys vals=0
  ·simp only[hq]
   rw[show((0:Int) != 0)=false from rfl,kcf,if_neg (by simp)];have:=hnode (qmr v var 2) (q4s h var (by decide)) (q0e _ _ _);exact this
  simp[hq,toR,ji]
theorem zbh {n:Nat} {v:Env} (h:EnvOk v) (hn:n<=1073741824) {l:List qa9} (hp:∀ p∈l,WfP p) (made:Bool) (h1:2 * v.length+4 * qwa l<n) :
  qpt n (qf9 v) l made=some (zyd (qrb made v v l)):=by
 have hlen:=qbi qiq q78 l;unfold qpt;unfold qwa at h1;have e:=qni (B:=ql4 n l made (v.map (·.1)) (v.map (·.2))) (fun k (t:Env)=>((k:Int),t.map (·.1),t.map (·.2))) (fun k t=>EnvOk t/\t.length<=v.length+2 * ((l.take k).map qiq).sum) (l:=l)
  (fun t x=>toR (qtp made v t x)) (rest:=fun t=>some (qf9 t,0))
  (fun k x t nx hx hi=>by
   have hk:=qbl hx;have ht:=qyc qiq hx;have hl:=zas (hp x (qbf hx));have hln:=qbi qgu qwx x.nodes;have hpn:x.nodes.length+1<=qiq x:=by unfold qiq; omega
   have hwx:=hp x (qbf hx);have inner:=qni (B:=qjw n l (k:Int) made (v.map (·.1)) (v.map (·.2)) nx) (fun j (u:Env)=>((j:Int),u.map (·.1),u.map (·.2))) (fun j u=>EnvOk u/\u.length<=t.length+2 * j) (l:=q27 x)
    (fun u y=>toR (qrf made v u y)) (rest:=fun u=>nx (((k+1:Nat):Int),u.map (·.1),u.map (·.2)))
    (fun j y u nx2 hy hu=>by
     have hj:=qbl hy;rw[hl]at hj;have hb:u.length+2+v.length+2 * qiq x<n:=by
      have:=hu.2; have:=hi.2;omega
     exact zd4 hu.1 hn hx hwx hy made hb nx nx2)
    (fun j y u u' hy hu hf=>by
     have:qrf made v u y=.inr u':=by
      unfold toR at hf;cases hs:qrf made v u y with
      | inl r=>rw[hs]at hf; cases hf
      | inr w=>rw[hs]at hf; cases hf; rfl
     have:=zf1 hu.1 this;exact⟨this.1,by have:=hu.2; omega⟩)
    (fun u nx2 hu=>by
     obtain⟨nodes,edges⟩:=x;rw[hl];simp only[qjw,qaj hx,qad,qc7,qar,kcf];rw[qb7 (by omega)]) (n:=n) (by rw[hl]; omega) (t0:=t) ⟨hi.1,by simp⟩
   simp only[ql4,qcp,qa5 hk,kct];refine Eq.trans inner ?_;rw[qsr (fun(r:Int×Env)=>(qf9 r.2,r.1)) (qrf made v) _ (fun t x=>by unfold toR; cases qrf made v t x<;>rfl)]
   unfold qtp toR;cases qfs (qrf made v) t (q27 x)<;>rfl)
  (fun k x t t' hx hi hf=>by
   have:qtp made v t x=.inr t':=by
    unfold toR at hf;cases hs:qtp made v t x with
    | inl r=>rw[hs]at hf; cases hf
    | inr u=>rw[hs]at hf; cases hf; rfl
   exact q50 hp h k x t t' hx hi this)
  (fun t nx hi=>by simp only[ql4,qcp,qar,kcf]) (n:=n) (by omega) (t0:=v) ⟨h,by simp⟩
 refine Eq.trans e ?_;rw[qsr (fun(r:Int×Env)=>(qf9 r.2,r.1)) (qtp made v) _ (fun t x=>by unfold toR; cases qtp made v t x<;>rfl)]
 unfold qrb;cases qfs (qtp made v) v l<;>rfl
end W
end
section
open Go Ax
namespace W
@[simp] theorem qvh (l:List qbn):(qbn.rows l).length=l.length:=by simp[qbn.rows]
@[simp] theorem qvo (l:List qat):(qat.rows l).length=l.length:=by simp[qat.rows]
@[simp] theorem qx7 (l:List qaf):(qaf.rows l).length=l.length:=by simp[qaf.rows]
theorem zoj (E:Int) (h:(if E≠0 then((0:Int),E)else(3,0)).2=0):0<(if E≠0 then((0:Int),E)else(3,0)).1:=by
 by_cases hz:E=0
 ·simp[hz]
 rw[if_pos hz]at h; exact absurd h hz
theorem zr6 {v:Env} (h:EnvOk v) {x:qaa} (e:(qnh v x).2=0):0<(qnh v x).1:=by
 obtain⟨op,name,val,names,args⟩:=x;have hnn:=q22 h name;simp only[qnh]at e ⊢;by_cases h2:op=2
 ·subst h2
  by_cases hk:qcr v name=0
  ·simp[hk]at e
  simp[hk]; omega
 by_cases h14:op=14
 ·subst h14; simp at e
 simp only[h2,h14,if_false]at e ⊢;exact zoj _ e
def cnt:List UInt8:=[99,111,117,110,116]
def qyv (v:Env) (x:qaa):Int×Int:=
 if(qj6 x).1≠14 then qnh v x
 else
  let e:=qky v (if(qj6 x).2.1=cnt then 0 else 3) (qj6 x).2.2
  if e≠0 then(0,e)else(3,0)
theorem zld {v:Env} (h:EnvOk v) {x:qaa} (e:(qyv v x).2=0):0<(qyv v x).1:=by
 unfold qyv at e ⊢;split
 ·rename_i h1; rw[if_pos h1]at e; exact zr6 h e
 rename_i h1;rw[if_neg h1]at e;exact zoj _ e
theorem q84 {n:Nat} {o:List (List UInt8)} {v:Env} {x:qaa} (h1:2 * qka x+1<n) (hn:n<=1073741824) (hw:WfE x):qjd n x o v=some (qyv v x):=by
 have hx:=(qmf o v n hn).2.1 x h1 hw;obtain⟨op,name,⟨a1,a2,a3,a4,a5,a6⟩,names,args⟩:=x;obtain⟨w1,w2,w3⟩:=zau hw;have hall:=fun kind=>(qmf o v n hn).1 args kind (by simp only[qka]at h1; omega) w3;unfold qjd;simp only[hx,hall,qgq,qad,qyv,qj6,cnt];by_cases h14:op=14
 ·subst h14
  by_cases hc:name=[99,111,117,110,116]
  ·by_cases hz:qky v 0 args=0<;>simp[hc,hz,ji]
  by_cases hz:qky v 3 args=0<;>simp[hc,hz,ji]
 simp[h14,ji]
def qdy (ck:Int) (v m:Env) (it:qbn):Int ⊕ Env:=
 if(qyv v it.e).2≠0 then .inl (qyv v it.e).2
 else if ck=9/\(qyv v it.e).1≠3 then .inl 3
 else if qcr m it.as_≠0 then .inl 2
 else .inr (qmr m it.as_ (qyv v it.e).1)
def qjm (m:Env) (s:qat):Option Int:=if qky m 3 [s.e]≠0 then some (qky m 3 [s.e])else none
def q0a (v:Env) (c:qab):Int×Env:=
 match qfs (qdy c.kind v) [] c.items with
 | .inl e=>(e,[])
 | .inr m=>match qe4 (qjm m) c.order with
  | some e=>(e,[])
  | none=>
   if qky [] 3 c.skip≠0 then(qky [] 3 c.skip,[])
   else if qky [] 3 c.limit≠0 then(qky [] 3 c.limit,[])
   else(qky m 3 c.where_,m)
theorem q2z {ck:Int} {v m m':Env} {it:qbn} (hv:EnvOk v) (h:EnvOk m) (e:qdy ck v m it=.inr m'):EnvOk m'/\m'.length<=m.length+1:=by
 unfold qdy at e;split at e
 ·cases e
 rename_i hz;split at e
 ·cases e
 split at e
 ·cases e
 cases e; exact⟨q4s h _ (zld hv (by simpa using hz)),q0e _ _ _⟩
theorem zlf {ck:Int} {v m:Env} {l:List qbn} (hv:EnvOk v) (e:qfs (qdy ck v) [] l=.inr m):EnvOk m/\m.length<=l.length:=by
 have:=q34 (fun k t=>EnvOk t/\t.length<=k) l 0 [] m (fun j x t t' _ hi hf=>by
  have:=q2z hv hi.1 hf;exact⟨this.1,by have:=hi.2; omega⟩) ⟨zck,by simp⟩ e
 simpa using this
def qta (i:qbn):Nat:=1+i.as_.length+qka i.e
def qia (s:qat):Nat:=1+qka s.e
def qim (s:qaf):Nat:=1+s.var_.length+s.key.length+s.label.length+qka s.e
def qda (c:qab):Nat:=1+qwa c.paths+qfz c.where_+qka c.e+c.var_.length+(c.items.map qta).sum+(c.order.map qia).sum+qfz c.skip+qfz c.limit+(c.sets.map qim).sum+qwe c.vars
structure WfRows (c:qab):Prop where
 items:∀ i∈c.items,WfE i.e/\i.as_≠[]
 order:∀ s∈c.order,WfE s.e
 skip:∀ x∈c.skip,WfE x
 limit:∀ x∈c.limit,WfE x
 wher:∀ x∈c.where_,WfE x
def zyi:qa4->Int
 | .o0 e=>e
 | .o1 e _ _=>e
theorem zlc {ck:Int} {v m:Env} {it:qbn} {e:Int} (h:qdy ck v m it=.inl e):e≠0:=by
 unfold qdy at h;split at h
 ·rename_i hz; cases h; exact hz
 split at h
 ·cases h; decide
 split at h
 ·cases h; decide
 cases h
theorem q87 {n:Nat} {v:Env} (hv:EnvOk v) (hn:n<=1073741824) {c:qab} (hw:WfRows c) (h1:2 * qda c<n) :
  ∃ r,qjf n c (qfa v) v=some r/\zyi r=(q0a v c).1/\((q0a v c).1=0->r=.o1 0 (qfa (q0a v c).2) (q0a v c).2):=by
 obtain⟨kind,paths,wher,⟨eop,ename,⟨e1,e2,e3,e4,e5,e6⟩,enames,eargs⟩,var,items,uniq,order,skip,limit,sets,vars,detach⟩:=c;obtain⟨w1,w2,w3,w4,w5⟩:=hw;simp only[qda]at h1 w1 w2 w3 w4 w5;have hli:=qbi qta (fun x=>by unfold qta; omega) items
 have hlo:=qbi qia (fun x=>by unfold qia; omega) order
 unfold qjf;have tail:∀ (m:Env),∃ r,qam (qde n order (qfa m) m skip limit wher) n (0:Int)=some r /\
   (match qe4 (qjm m) order with
    | some e=>r=.o0 e
    | none=>if qky [] 3 skip≠0 then r=.o0 (qky [] 3 skip)else if qky [] 3 limit≠0 then r=.o0 (qky [] 3 limit)else r=.o1 (qky m 3 wher) (qfa m) m):=by
  intro m;have hs:=(qmf [] ([]:Env) n hn).1 skip 3 (by omega) w3;have hl:=(qmf [] ([]:Env) n hn).1 limit 3 (by omega) w4;have hwh:=(qmf (qfa m) m n hn).1 wher 3 (by omega) w5;have l3:qam (qd1 n skip limit wher (qfa m) m) n ((0:Int),([]:List (List UInt8)))=some (if qky [] 3 skip≠0 then .o0 (qky [] 3 skip)else if qky [] 3 limit≠0 then .o0 (qky [] 3 limit)else .o1 (qky m 3 wher) (qfa m) m):=by
   obtain⟨n',rfl⟩:∃ n',n=n'+3:=⟨n - 3,by have:=qd3 skip; have:=qd3 limit; omega⟩;rw[qa1];have z0:(zdj qck [skip,limit]).length=2:=rfl;simp only[qd1,z0];rw[show decide ((0:Int)<((2:Nat):Int))=true from rfl,kct,qr8,qad,hs,qad];by_cases hz:qky [] 3 skip=0
   ·simp only[hz]
    rw[show((0:Int) != 0)=false from rfl,kcf,show kwr .i64 ((0:Int)+1)=1 from rfl,qa1];simp only[qd1,z0];rw[show decide ((1:Int)<((2:Nat):Int))=true from rfl,kct,zjo,qad,hl,qad];by_cases hz2:qky [] 3 limit=0
    ·simp only[hz2]
     rw[show((0:Int) != 0)=false from rfl,kcf,show kwr .i64 ((1:Int)+1)=2 from rfl,qa1];simp only[qd1,z0];rw[show decide ((2:Int)<((2:Nat):Int))=false from rfl,kcf,hwh,qad];simp
    simp[hz2,ji]
   simp[hz,ji]
  have e:=qc4 (B:=qde n order (qfa m) m skip limit wher) (fun k=>((k:Nat):Int)) (l:=order) (fun s=>(qjm m s).map qa4.o0) (rest:=qam (qd1 n skip limit wher (qfa m) m) n ((0:Int),([]:List (List UInt8))))
   (fun k x nx hx=>by
    have hk:=qbl hx;have hm:=qbt qia (qbf hx);have hxx:=(qmf (qfa m) m n hn).1 [x.e] 3 (by have:qia x=1+qka x.e:=rfl; simp only[qfz]; omega) (by intro y hy; simp at hy; subst hy; exact w2 x (qbf hx));obtain⟨⟨op,name,⟨a1,a2,a3,a4,a5,a6⟩,names,args⟩,down⟩:=x;simp only[qde,qvo,qa5 hk,kct,qaj hx,qad,hxx,qjm];rw[qb7 (by omega)];by_cases hz:qky m 3 [.mk op name (.mk a1 a2 a3 a4 a5 a6) names args]=0<;>simp[hz,ji])
   (fun nx=>by simp only[qde,qvo,qar,kcf]) (n:=n) (by omega)
  have key:∀ l:List qat,qe4 (fun s=>(qjm m s).map qa4.o0) l=(qe4 (qjm m) l).map qa4.o0:=by
   intro l
   induction l with
   | nil=>rfl
   | cons x l ih=>
    simp only[qe4];cases qjm m x with
    | some r=>rfl
    | none=>exact ih
  rw[key,l3]at e;have e':qam (qde n order (qfa m) m skip limit wher) n (0:Int)=_:=e;rw[e'];cases qe4 (qjm m) order with
  | some r=>exact⟨_,rfl,rfl⟩
  | none=>
   refine⟨_,rfl,?_⟩;simp only;split
   ·rfl
   split<;>rfl
 have e:=qni (B:=qeh n items (qfa v) v kind order skip limit wher) (fun k (t:Env)=>((k:Int),qfa t,t)) (fun k t=>EnvOk t/\t.length<=k) (l:=items)
  (fun t x=>match qdy kind v t x with|.inl e=>.inl (qa4.o0 e)|.inr t'=>.inr t') (rest:=fun t=>qam (qde n order (qfa t) t skip limit wher) n (0:Int))
  (fun k x t nx hx hi=>by
   have hk:=qbl hx;have hm:=qbt qta (qbf hx);have hwx:=w1 x (qbf hx);have hit:=q84 (o:=qfa v) (v:=v) (n:=n) (x:=x.e) (by have:qta x=1+x.as_.length+qka x.e:=rfl; omega) hn hwx.1;have hpos:=fun e=>zld hv (x:=x.e) e
   obtain⟨⟨op,name,⟨a1,a2,a3,a4,a5,a6⟩,names,args⟩,nm⟩:=x;simp only at hit hwx hpos;simp only[qeh,qvh,qa5 hk,kct,qaj hx,qad,hit,qdy];rw[qb7 (by omega)];rcases hI:qyv v (.mk op name (.mk a1 a2 a3 a4 a5 a6) names args)with ⟨kd,er⟩;rw[hI]at hpos;simp only at hpos ⊢;by_cases hz:er=0
   ·have hp:=hpos hz
    have hkm:qcr t nm=qec t nm 0:=rfl;rw[← hkm];by_cases h9:kind=9/\kd≠3
    ·simp[hz,h9,ji]
    by_cases hk0:qcr t nm=0
    ·have hb:=qm8 hi.1 (n:=n) (by have:=hi.2; omega) hn hwx.2 (k:=kd) (.inl hk0) (by omega)
     have h9':(bif kind==9 then kd != 3 else false)=false:=by
      by_cases hh:kind=9
      ·have:kd=3:=Decidable.byContradiction fun x=>h9 ⟨hh,x⟩
       simp[this]
      simp[hh]
     rw[h9',if_neg h9];simp[hz,hk0,hb]
    have h9':(bif kind==9 then kd != 3 else false)=false:=by
     by_cases hh:kind=9
     ·have:kd=3:=Decidable.byContradiction fun x=>h9 ⟨hh,x⟩
      simp[this]
     simp[hh]
    rw[h9',if_neg h9];simp[hz,hk0,ji]
   simp[hz,ji])
  (fun k x t t' hx hi hf=>by
   have:qdy kind v t x=.inr t':=by
    cases hs:qdy kind v t x with
    | inl r=>rw[hs]at hf; cases hf
    | inr u=>rw[hs]at hf; cases hf; rfl
   have:=q2z hv hi.1 this;exact⟨this.1,by have:=hi.2; omega⟩)
  (fun t nx hi=>by simp only[qeh,qvh,qar,kcf]) (n:=n) (by omega) (t0:=[]) ⟨zck,by simp⟩
 have e':qam (qeh n items (qfa v) v kind order skip limit wher) n ((0:Int),([]:List (List UInt8)),([]:List (List UInt8×Int)))=_:=e;simp only[e'];rw[qsr qa4.o0 (qdy kind v) _ (fun t x=>by cases qdy kind v t x<;>rfl)]
 simp only[q0a];cases hF:qfs (qdy kind v) [] items with
 | inl er=>
  refine⟨_,rfl,rfl,fun hz=>?_⟩;have:∀ (l:List qbn) (u:Env),qfs (qdy kind v) u l=.inl er->er≠0:=by
   intro l
   induction l with
   | nil=>intro u h; cases h
   | cons y l ih=>
    intro u hu;simp only[qfs]at hu;cases hy:qdy kind v u y with
    | inr u'=>rw[hy]at hu; exact ih u' hu
    | inl r=>rw[hy]at hu; cases hu; exact zlc hy
  exact absurd hz (this _ _ hF)
 | inr m=>
  obtain⟨r,hr,hm⟩:=tail m;refine⟨r,hr,?_⟩;simp only;cases hO:qe4 (qjm m) order with
  | some er=>
   rw[hO]at hm;simp only at hm;subst hm;refine⟨rfl,fun hz=>?_⟩;have:∀ l:List qat,qe4 (qjm m) l=some er->er≠0:=by
    intro l
    induction l with
    | nil=>intro h; cases h
    | cons y l ih=>
     intro hu;simp only[qe4]at hu;cases hy:qjm m y with
     | none=>rw[hy]at hu; exact ih hu
     | some r=>
      rw[hy]at hu;cases hu;unfold qjm at hy;split at hy
      ·rename_i hq; cases hy; exact hq
      cases hy
   exact absurd hz (this _ hO)
  | none=>
   rw[hO]at hm;simp only at hm ⊢;by_cases hz:qky [] 3 skip=0
   ·rw[if_neg (by simpa using hz)]at hm ⊢
    by_cases hz2:qky [] 3 limit=0
    ·rw[if_neg (by simpa using hz2)]at hm ⊢
     subst hm;exact⟨rfl,fun h0=>by simp only at h0; rw[h0]⟩
    rw[if_pos (by simpa using hz2)]at hm ⊢;subst hm;exact⟨rfl,fun h0=>absurd h0 hz2⟩
   rw[if_pos (by simpa using hz)]at hm ⊢;subst hm;exact⟨rfl,fun h0=>absurd h0 hz⟩
end W
end
section
open Go Ax
namespace W
theorem zlb {v:Env} {op:Int} {name:List UInt8} {val:Val} {names:List (List UInt8)} {args:List qaa} (h:op≠14):qyv v (.mk op name val names args)=qnh v (.mk op name val names args):=if_pos h
theorem q36 {v:Env} {name:List UInt8} {val:Val} {names:List (List UInt8)} {args:List qaa}:qyv v (.mk 14 name val names args)=if qky v (if name=cnt then 0 else 3) args≠0 then(0,qky v (if name=cnt then 0 else 3) args)else(3,0):=by
 unfold qyv;rw[if_neg (by simp[qj6])];rfl
theorem ziz {n:Nat} {v t:Env} (hv:EnvOk v) (ht:EnvOk t) (hn:n<=1073741824) (hl:t.length+1<n) {kind:Int} {items:List qbn} {k:Nat} {x:qbn} (hx:items[k]? =some x) (hk:k<n) (nx:Int×List (List UInt8)×List Int->Option (qa8×Int)) {kd er:Int}
  (he:er=(qyv v x.e).2) (hkd:er=0->kd=(qyv v x.e).1) :
  qnv n (t.map (·.1)) (t.map (·.2)) kind items (k:Int) nx (kd,er)=zp5 (match qdy kind v t x with|.inl e=>(.inl (qf9 t,e):(qa8×Int) ⊕ Env)|.inr t'=>.inr t') fun t'=>nx (((k+1:Nat):Int),t'.map (·.1),t'.map (·.2)):=by
 obtain⟨⟨op,name,⟨a1,a2,a3,a4,a5,a6⟩,names,args⟩,nm⟩:=x;simp only at he hkd;have hK:=qfb (n:=n) (v:=t) (by omega) hn nm;have hW:=qti (n:=n) ht (by omega) hn nm kd;have hnn:=q22 ht nm;simp only[qnv,qaj hx,qad,hK,hW,qdy];rw[qb7 (by omega)];rw[← he];by_cases hz:er=0
 ·rw[← hkd hz]
  by_cases h9:kind=9/\kd≠3
  ·simp[hz,h9,ji]
  have h9':(bif kind==9 then kd != 3 else false)=false:=by
   by_cases hh:kind=9
   ·have:kd=3:=Decidable.byContradiction fun x=>h9 ⟨hh,x⟩
    simp[this]
   simp[hh]
  rw[h9',if_neg h9];by_cases hk0:qcr t nm=0
  ·simp[hz,hk0]
  have:0<qcr t nm:=by omega
  simp[hz,hk0,this]
 simp[hz,ji]
theorem zd1 {n:Nat} {v:Env} (hv:EnvOk v) (hn:n<=1073741824) {c:qab} (hw:WfRows c) (h1:v.length+4 * qda c<n) :
  ∃ w,qwp n (qf9 v) c=some (w,(q0a v c).1)/\((q0a v c).1=0->w=qf9 (q0a v c).2):=by
 obtain⟨kind,paths,wher,⟨eop,ename,⟨e1,e2,e3,e4,e5,e6⟩,enames,eargs⟩,var,items,uniq,order,skip,limit,sets,vars,detach⟩:=c;obtain⟨w1,w2,w3,w4,w5⟩:=hw;simp only[qda]at h1 w1 w2 w3 w4 w5;have hli:=qbi qta (fun x=>by unfold qta; omega) items
 have hlo:=qbi qia (fun x=>by unfold qia; omega) order
 unfold qwp;have tail:∀ (m:Env),m.length<=items.length->qam (qi6 n order (m.map (·.1)) (m.map (·.2)) skip limit wher) n (0:Int) =
   some (qf9 m,match qe4 (qjm m) order with
    | some e=>e
    | none=>if qky [] 3 skip≠0 then qky [] 3 skip else if qky [] 3 limit≠0 then qky [] 3 limit else qky m 3 wher):=by
  intro m hm;have hs:=(qr9 ([]:Env) n hn).1 skip 3 (by omega) (by simp only[jc]; omega) w3;have hl:=(qr9 ([]:Env) n hn).1 limit 3 (by omega) (by simp only[jc]; omega) w4;have hwh:=(qr9 m n hn).1 wher 3 (by omega) (by omega) w5;simp only[qf9,jO]at hs hl hwh;have e:=qc4 (B:=qi6 n order (m.map (·.1)) (m.map (·.2)) skip limit wher) (fun k=>((k:Nat):Int)) (l:=order) (fun s=>(qjm m s).map fun e=>(qf9 m,e)) (rest:=some (qf9 m,if qky [] 3 skip≠0 then qky [] 3 skip else if qky [] 3 limit≠0 then qky [] 3 limit else qky m 3 wher))
   (fun k x nx hx=>by
    have hk:=qbl hx;have hmm:=qbt qia (qbf hx);have hxx:=(qr9 m n hn).1 [x.e] 3 (by omega) (by have:qia x=1+qka x.e:=rfl; simp only[qfz]; omega) (by intro y hy; simp at hy; subst hy; exact w2 x (qbf hx));obtain⟨⟨op,name,⟨a1,a2,a3,a4,a5,a6⟩,names,args⟩,down⟩:=x;simp only[qf9]at hxx;simp only[qi6,qvo,qa5 hk,kct,qaj hx,qad,hxx,qjm];rw[qb7 (by omega)];by_cases hz:qky m 3 [.mk op name (.mk a1 a2 a3 a4 a5 a6) names args]=0<;>simp[hz,ji])
   (fun nx=>by
    simp only[qi6,qvo,qar,kcf,hs,hl,hwh,qad,qoy,qoz];by_cases hz:qky [] 3 skip=0<;>by_cases hz2:qky [] 3 limit=0<;>simp[hz,hz2,ji]) (n:=n) (by omega)
  have key:∀ l:List qat,qe4 (fun s=>(qjm m s).map fun e=>(qf9 m,e)) l=(qe4 (qjm m) l).map fun e=>(qf9 m,e):=by
   intro l
   induction l with
   | nil=>rfl
   | cons x l ih=>
    simp only[qe4];cases qjm m x with
    | some r=>rfl
    | none=>exact ih
  rw[key]at e;refine Eq.trans e ?_;cases qe4 (qjm m) order<;>rfl
 have e:=qni (B:=qk8 n items (v.map (·.1)) (v.map (·.2)) kind order skip limit wher) (fun k (t:Env)=>((k:Int),t.map (·.1),t.map (·.2))) (fun k t=>EnvOk t/\t.length<=k) (l:=items)
  (fun t x=>match qdy kind v t x with|.inl e=>(.inl (qf9 t,e):(qa8×Int) ⊕ Env)|.inr t'=>.inr t') (rest:=fun t=>qam (qi6 n order (t.map (·.1)) (t.map (·.2)) skip limit wher) n (0:Int))
  (fun k x t nx hx hi=>by
   have hk:=qbl hx;have hm:=qbt qta (qbf hx);have hib:qta x=1+x.as_.length+qka x.e:=rfl;have hwx:=(w1 x (qbf hx)).1;have k8:=fun kd er he hkd=>ziz hv hi.1 hn (by have:=hi.2; omega) (kind:=kind) hx (by omega) nx (kd:=kd) (er:=er) he hkd
   obtain⟨kd,hx1,hx2⟩:=(qr9 v n hn).2 x.e (by omega) hwx;obtain⟨⟨op,name,⟨a1,a2,a3,a4,a5,a6⟩,names,args⟩,nm⟩:=x;obtain⟨u1,u2,u3⟩:=zau hwx;simp only[qka]at hib;have hall:=fun kk h0=>(qr9 v n hn).1 args kk h0 (by omega) u3;have h0:=hall 0 (by omega); have h3:=hall 3 (by omega);simp only[qf9]at h0 h3 hx1;simp only[qk8,qvh,qa5 hk,kct,qaj hx,qad,hx1,qqv,h0,h3];by_cases h14:op=14
   ·subst h14
    by_cases hc:name=cnt
    ·subst hc
     rw[kbs,kct,show(cnt==[99,111,117,110,116])=true from rfl,kct];refine k8 3 _ ?_ ?_
     ·rw[q36,if_pos rfl]; by_cases hz:qky v 0 args=0<;>simp[hz]
     intro hz; rw[q36,if_pos rfl]; simp[hz]
    rw[kbs,kct,show(name==[99,111,117,110,116])=false from kbf.2 hc,kcf];refine k8 3 _ ?_ ?_
    ·rw[q36,if_neg hc]; by_cases hz:qky v 3 args=0<;>simp[hz]
    intro hz; rw[q36,if_neg hc]; simp[hz]
   rw[kbf.2 h14,kcf];refine k8 kd _ ?_ ?_
   ·rw[zlb h14]
   intro hz; rw[zlb h14]; exact hx2 hz)
  (fun k x t t' hx hi hf=>by
   have:qdy kind v t x=.inr t':=by
    cases hs:qdy kind v t x with
    | inl r=>rw[hs]at hf; cases hf
    | inr u=>rw[hs]at hf; cases hf; rfl
   have:=q2z hv hi.1 this;exact⟨this.1,by have:=hi.2; omega⟩)
  (fun t nx hi=>by simp only[qk8,qvh,qar,kcf]) (n:=n) (by omega) (t0:=[]) ⟨zck,by simp⟩
 have e':qam (qk8 n items (v.map (·.1)) (v.map (·.2)) kind order skip limit wher) n ((0:Int),([]:List (List UInt8)),([]:List Int))=_:=e
 simp only[qf9,e'];have outc:∀ (l:List qbn) (u:Env),(∃ er w,qfs (qdy kind v) u l=.inl er/\qfs (fun t x=>match qdy kind v t x with|.inl e=>(.inl (qf9 t,e):(qa8×Int) ⊕ Env)|.inr t'=>.inr t') u l=.inl (w,er)) \/
   (∃ m,qfs (qdy kind v) u l=.inr m/\qfs (fun t x=>match qdy kind v t x with|.inl e=>(.inl (qf9 t,e):(qa8×Int) ⊕ Env)|.inr t'=>.inr t') u l=.inr m):=by
  intro l
  induction l with
  | nil=>intro u; exact .inr ⟨u,rfl,rfl⟩
  | cons y l ih=>
   intro u;simp only[qfs];cases hy:qdy kind v u y with
   | inl er=>exact .inl ⟨er,_,rfl,rfl⟩
   | inr u'=>exact ih u'
 simp only[q0a];rcases outc items []with ⟨er,w,h2,h3⟩|⟨m,h2,h3⟩
 ·rw[h2,h3]
  refine⟨w,rfl,fun hz=>?_⟩;have:∀ (l:List qbn) (u:Env),qfs (qdy kind v) u l=.inl er->er≠0:=by
   intro l
   induction l with
   | nil=>intro u h; cases h
   | cons y l ih=>
    intro u hu;simp only[qfs]at hu;cases hy:qdy kind v u y with
    | inr u'=>rw[hy]at hu; exact ih u' hu
    | inl r=>rw[hy]at hu; cases hu; exact zlc hy
  exact absurd hz (this _ _ h2)
 rw[h2,h3];have hm:=zlf hv h2;simp only[zp6];rw[tail m hm.2];refine⟨qf9 m,?_,fun hz=>?_⟩
 ·cases qe4 (qjm m) order with
  | some e=>rfl
  | none=>
   by_cases h5:qky [] 3 skip=0<;>by_cases h6:qky [] 3 limit=0<;>simp[h5,h6]
 cases hO:qe4 (qjm m) order with
 | some e=>
  rw[hO]at hz;have:∀ l:List qat,qe4 (qjm m) l=some e->e≠0:=by
   intro l
   induction l with
   | nil=>intro h; cases h
   | cons y l ih=>
    intro hu;simp only[qe4]at hu;cases hy:qjm m y with
    | none=>rw[hy]at hu; exact ih hu
    | some r=>
     rw[hy]at hu;cases hu;unfold qjm at hy;split at hy
     ·rename_i hq; cases hy; exact hq
     cases hy
  exact absurd hz (this _ hO)
 | none=>
  rw[hO]at hz;simp only at hz ⊢;split at hz
  ·rename_i h5; exact absurd hz h5
  rename_i h5;split at hz
  ·rename_i h6; exact absurd hz h6
  rename_i h6; rw[if_neg h5,if_neg h6]
end W
end
section
open Go Ax
namespace W
structure WfSet (ck:Int) (s:qaf):Prop where
 some_:ck=6/\s.key≠[]->WfE s.e/\(qj6 s.e).1≠0
 none_:¬ (ck=6/\s.key≠[])->(qj6 s.e).1=0
def zno (ck:Int) (v:Env) (s:qaf):Option Int:=
 if qcr v s.var_=0 then some 2
 else if qcr v s.var_=3\/(qcr v s.var_=2/\s.label≠[])then some 3
 else if(ck=6/\s.key≠[])/\qky v 3 [s.e]≠0 then some (qky v 3 [s.e])
 else none
def zin (ck:Int) (v:Env) (l:List qaf):Int:=(qe4 (zno ck v) l).getD 0
def q7r (v:Env) (s:List UInt8):Option Int:=if qcr v s=0 then some 2 else if qcr v s=3 then some 3 else none
def zg7 (v:Env) (l:List (List UInt8)):Int:=(qe4 (q7r v) l).getD 0
theorem q88 {n:Nat} {o:List (List UInt8)} {v:Env} (hn:n<=1073741824) {ck:Int} {l:List qaf} (hw:∀ s∈l,WfSet ck s) (h1:2 * (l.map qim).sum+6<n):qjg n l o v=some (zin ck v l):=by
 have hl:=qbi qim (fun x=>by unfold qim; omega) l
 unfold qjg;have e:=qc4 (B:=qfg n l v o) (fun k=>((k:Nat):Int)) (l:=l) (zno ck v) (rest:=some 0)
  (fun k x nx hx=>by
   have hk:=qbl hx;have hm:=qbt qim (qbf hx);have hwx:=hw x (qbf hx);have hsb:qim x=1+x.var_.length+x.key.length+x.label.length+qka x.e:=rfl;have hall:=fun(hwe:WfE x.e)=>(qmf o v n hn).1 [x.e] 3 (by simp only[qfz]; omega) (by intro y hy; simp at hy; subst hy; exact hwe);obtain⟨var,key,label,⟨op,name,⟨a1,a2,a3,a4,a5,a6⟩,names,args⟩⟩:=x;simp only at hwx hall;have hkk:qcr v var=qec v var 0:=rfl;simp only[qfg,qx7,qa5 hk,kct,qaj hx,qad,qgr,zno,← hkk];rw[qb7 (by omega)];by_cases h0:qcr v var=0
   ·simp[h0]
   by_cases hb:qcr v var=3\/(qcr v var=2/\label≠[])
   ·have hb':(bif qcr v var==3 then true else bif qcr v var==2 then !(label==[])else false)=true:=by
     rcases hb with hb|⟨hb,hb2⟩
     ·simp[hb]
     simp[hb,hb2]
    rw[kbf.2 h0,kcf,hb',kct,if_neg h0,if_pos hb];rfl
   have hb':(bif qcr v var==3 then true else bif qcr v var==2 then !(label==[])else false)=false:=by
    simp only[not_or,not_and,Decidable.not_not]at hb;by_cases h2:qcr v var=2
    ·simp[h2,hb.2 h2]
    simp[hb.1,h2]
   rw[kbf.2 h0,kcf,hb',kcf,if_neg h0,if_neg hb];by_cases hs:ck=6/\key≠[]
   ·obtain⟨hwe,hop⟩:=hwx.some_ hs
    have hop:op≠0:=hop;rw[hall hwe];by_cases hz:qky v 3 [.mk op name (.mk a1 a2 a3 a4 a5 a6) names args]=0
    ·simp[hop,hz,ji]
    simp[hop,hz,hs.1,hs.2,ji]
   have hop:op=0:=hwx.none_ hs;rw[if_neg (fun h=>hs h.1)]
   simp[hop])
  (fun nx=>by simp only[qfg,qx7,qar,kcf]) (n:=n) (by omega)
 refine Eq.trans e ?_;unfold zin;cases qe4 (zno ck v) l<;>rfl
theorem q82 {n:Nat} {o:List (List UInt8)} {v:Env} (hn:n<=1073741824) {l:List (List UInt8)} (h1:l.length<n):qjb n l o v=some (zg7 v l):=by
 unfold qjb;have e:=qc4 (B:=qfe n l v) (fun k=>((k:Nat):Int)) (l:=l) (q7r v) (rest:=some 0)
  (fun k x nx hx=>by
   have hk:=qbl hx;have hkk:qcr v x=qec v x 0:=rfl;simp only[qfe,qay,qa5 hk,kct,qaj hx,qad,q7r,← hkk];rw[qb7 (by omega)];by_cases h0:qcr v x=0
   ·simp[h0]
   by_cases h3:qcr v x=3
   ·simp[h3]
   simp[h0,h3,ji])
  (fun nx=>by simp only[qfe,qay,qar,kcf]) (n:=n) h1
 refine Eq.trans e ?_;unfold zg7;cases qe4 (q7r v) l<;>rfl
theorem zd3 {n:Nat} {v:Env} (hn:n<=1073741824) {ck:Int} {l:List qaf} (hw:∀ s∈l,WfSet ck s) (h1:v.length+2 * (l.map qim).sum+6<n):qam (qic n l (v.map (·.1)) (v.map (·.2)) ck) n (0:Int)=some (qf9 v,zin ck v l):=by
 have hl:=qbi qim (fun x=>by unfold qim; omega) l
 have e:=qc4 (B:=qic n l (v.map (·.1)) (v.map (·.2)) ck) (fun k=>((k:Nat):Int)) (l:=l) (fun s=>(zno ck v s).map fun e=>(qf9 v,e)) (rest:=some (qf9 v,0))
  (fun k x nx hx=>by
   have hk:=qbl hx;have hm:=qbt qim (qbf hx);have hwx:=hw x (qbf hx);have hsb:qim x=1+x.var_.length+x.key.length+x.label.length+qka x.e:=rfl;have hall:=fun(hwe:WfE x.e)=>(qr9 v n hn).1 [x.e] 3 (by omega) (by simp only[qfz]; omega) (by intro y hy; simp at hy; subst hy; exact hwe);obtain⟨var,key,label,⟨op,name,⟨a1,a2,a3,a4,a5,a6⟩,names,args⟩⟩:=x;simp only[qf9]at hwx hall;have hkk:=qfb (n:=n) (v:=v) (by omega) hn var;simp only[qf9]at hkk;simp only[qic,qx7,qa5 hk,kct,qph,qaj hx,qad,hkk,qpi,qpj,qlm,zno];rw[qb7 (by omega)];by_cases h0:qcr v var=0
   ·simp[h0]
   by_cases hb:qcr v var=3\/(qcr v var=2/\label≠[])
   ·have hb':(bif qcr v var==3 then true else bif qcr v var==2 then !(label==[])else false)=true:=by
     rcases hb with hb|⟨hb,hb2⟩
     ·simp[hb]
     simp[hb,hb2]
    rw[kbf.2 h0,kcf,hb',kct,if_neg h0,if_pos hb];rfl
   have hb':(bif qcr v var==3 then true else bif qcr v var==2 then !(label==[])else false)=false:=by
    simp only[not_or,not_and,Decidable.not_not]at hb;by_cases h2:qcr v var=2
    ·simp[h2,hb.2 h2]
    simp[hb.1,h2]
   rw[kbf.2 h0,kcf,hb',kcf,if_neg h0,if_neg hb];by_cases hs:ck=6/\key≠[]
   ·obtain⟨hwe,hop⟩:=hwx.some_ hs
    rw[hall hwe];have hc:(bif ck==6 then !(key==[])else false)=true:=by simp[hs.1,hs.2]
    rw[hc,kct];by_cases hz:qky v 3 [.mk op name (.mk a1 a2 a3 a4 a5 a6) names args]=0
    ·simp[hz]
    simp[hz,hs.1,hs.2,ji]
   have hc:(bif ck==6 then !(key==[])else false)=false:=by
    by_cases h6:ck=6
    ·have:key=[]:=Decidable.byContradiction fun x=>hs ⟨h6,x⟩
     simp[this]
    simp[h6]
   rw[if_neg (fun h=>hs h.1),hc,kcf]
   rfl)
  (fun nx=>by simp only[qic,qx7,qar,kcf]) (n:=n) (by omega)
 refine Eq.trans e ?_;have key:∀ l:List qaf,qe4 (fun s=>(zno ck v s).map fun e=>(qf9 v,e)) l=(qe4 (zno ck v) l).map fun e=>(qf9 v,e):=by
  intro l
  induction l with
  | nil=>rfl
  | cons x l ih=>
   simp only[qe4];cases zno ck v x with
   | some r=>rfl
   | none=>exact ih
 rw[key];unfold zin;cases qe4 (zno ck v) l<;>rfl
theorem zdy {n:Nat} {v:Env} (hn:n<=1073741824) {l:List (List UInt8)} (h1:v.length+l.length<n):qam (qid n l (v.map (·.1)) (v.map (·.2))) n (0:Int)=some (qf9 v,zg7 v l):=by
 have e:=qc4 (B:=qid n l (v.map (·.1)) (v.map (·.2))) (fun k=>((k:Nat):Int)) (l:=l) (fun s=>(q7r v s).map fun e=>(qf9 v,e)) (rest:=some (qf9 v,0))
  (fun k x nx hx=>by
   have hk:=qbl hx;have hkk:=qfb (n:=n) (v:=v) (by omega) hn x;simp only[qf9]at hkk;simp only[qid,qay,qa5 hk,kct,qpk,qaj hx,qad,hkk,qpl,q7r];rw[qb7 (by omega)];by_cases h0:qcr v x=0
   ·simp[h0]
   by_cases h3:qcr v x=3
   ·simp[h3]
   simp[h0,h3,ji])
  (fun nx=>by simp only[qid,qay,qar,kcf]) (n:=n) (by omega)
 refine Eq.trans e ?_;have key:∀ l:List (List UInt8),qe4 (fun s=>(q7r v s).map fun e=>(qf9 v,e)) l=(qe4 (q7r v) l).map fun e=>(qf9 v,e):=by
  intro l
  induction l with
  | nil=>rfl
  | cons x l ih=>
   simp only[qe4];cases q7r v x with
   | some r=>rfl
   | none=>exact ih
 rw[key];unfold zg7;cases qe4 (q7r v) l<;>rfl
end W
end
section
open Go Ax
namespace W
def zix (o:Out):Int×Env:=match o with
 | .inl r=>r
 | .inr m=>(0,m)
def q33 (l:List qa9):List UInt8:=match l with
 | ⟨d::_,_⟩::_=>d.var_
 | _=>[]
def qgh (v:Env) (c:qab):Int×Env:=
 if c.kind=1 then match qrb false v v c.paths with
  | .inl r=>r
  | .inr m=>(qky m 3 c.where_,m)
 else if c.kind=2 then(if qky v 3 [c.e]≠0 then(qky v 3 [c.e],v)else if qcr v c.var_≠0 then(2,v)else(0,qmr v c.var_ 3))
 else if c.kind=4 then zix (qrb true v v c.paths)
 else if c.kind=5 then(if qcr v (q33 c.paths)≠0 then(2,v)else zix (qrb true v v c.paths))
 else if c.kind=6\/c.kind=7 then(zin c.kind v c.sets,v)
 else if c.kind=8 then(zg7 v c.vars,v)
 else q0a v c
structure WfC (c:qab):Prop where
 paths:∀ p∈c.paths,WfP p
 wher:∀ x∈c.where_,WfE x
 un:c.kind=2->WfE c.e/\c.var_≠[]
 merge:c.kind=5->∃ p,c.paths=[p]
 sets:c.kind=6\/c.kind=7->∀ s∈c.sets,WfSet c.kind s
 rows:c.kind=3\/c.kind=9->WfRows c
 kind:1<=c.kind/\c.kind<=9
theorem zs7 {v:Env} {c:qab} (hv:EnvOk v) (e:(q0a v c).1=0):EnvOk (q0a v c).2/\(q0a v c).2.length<=c.items.length:=by
 unfold q0a;cases hF:qfs (qdy c.kind v) [] c.items with
 | inl er=>exact⟨zck,by simp⟩
 | inr m=>
  have:=zlf hv hF;simp only;cases qe4 (qjm m) c.order with
  | some e=>exact⟨zck,by simp⟩
  | none=>
   simp only;split
   ·exact⟨zck,by simp⟩
   split
   ·exact⟨zck,by simp⟩
   exact this
theorem zp7 {made:Bool} {v:Env} {l:List qa9} (hp:∀ p∈l,WfP p) (h:EnvOk v) (e:(zix (qrb made v v l)).1=0) (hne:∀ r,qrb made v v l=.inl r->r.1≠0):EnvOk (zix (qrb made v v l)).2/\(zix (qrb made v v l)).2.length<=v.length+2 * qwa l:=by
 cases hP:qrb made v v l with
 | inl r=>rw[hP]at e; exact absurd e (hne r hP)
 | inr m=>exact zap hp h hP
theorem qw0 {made:Bool} {ahead:Env}:∀ {l:List qa9} {v:Env} {r:Int×Env},qfs (qtp made ahead) v l=.inl r->r.1≠0:=by
 have hnode:∀ {w:Env} {d:qae} {r:Int×Env},q1o made ahead w d=.inl r->r.1≠0:=by
  intro w d r hw;unfold q1o at hw;split at hw
  ·cases hw; simp
  split at hw
  ·cases hw; simp
  split at hw
  ·rename_i hz; cases hw; exact hz
  cases hw
 have hstep:∀ {u:Env} {y:Option qag×qae} {r:Int×Env},qrf made ahead u y=.inl r->r.1≠0:=by
  intro u y r hy;obtain⟨eo,d⟩:=y;cases eo with
  | none=>exact hnode hy
  | some ed=>
   simp only[qrf]at hy;cases hed:qxs made ahead u ed with
   | inl r'=>rw[hed]at hy; cases hy; exact zoh hed
   | inr w=>rw[hed]at hy; exact hnode hy
 have hpath:∀ {l:List (Option qag×qae)} {u:Env} {r:Int×Env},qfs (qrf made ahead) u l=.inl r->r.1≠0:=by
  intro l
  induction l with
  | nil=>intro u r h; cases h
  | cons y l ih=>
   intro u r hu;simp only[qfs]at hu;cases hy:qrf made ahead u y with
   | inr u'=>rw[hy]at hu; exact ih hu
   | inl r'=>rw[hy]at hu; cases hu; exact hstep hy
 intro l
 induction l with
 | nil=>intro v r h; cases h
 | cons p l ih=>
  intro v r hu;simp only[qfs]at hu;cases hy:qtp made ahead v p with
  | inr u'=>rw[hy]at hu; exact ih hu
  | inl r'=>rw[hy]at hu; cases hu; exact hpath hy
theorem zcv {v:Env} {c:qab} (hv:EnvOk v) (hw:WfC c) (e:(qgh v c).1=0):EnvOk (qgh v c).2/\(qgh v c).2.length<=v.length+2 * qda c:=by
 have hlb:qwa c.paths+1<=qda c:=by unfold qda; omega
 have hib:=qbi qta (fun x=>by unfold qta; omega) c.items
 have hil:c.items.length<=qda c:=by unfold qda; omega
 unfold qgh at e ⊢;by_cases h1:c.kind=1
 ·rw[if_pos h1]at e ⊢
  cases hP:qrb false v v c.paths with
  | inl r=>rw[hP]at e; exact absurd e (qw0 hP)
  | inr m=>have:=zap hw.paths hv hP; exact⟨this.1,by simp only; omega⟩
 rw[if_neg h1]at e ⊢;by_cases h2:c.kind=2
 ·rw[if_pos h2]at e ⊢
  split
  ·exact⟨hv,by simp only; omega⟩
  split
  ·exact⟨hv,by simp only; omega⟩
  exact⟨q4s hv _ (by decide),by have:=q0e v c.var_ 3; simp only; omega⟩
 rw[if_neg h2]at e ⊢;by_cases h4:c.kind=4
 ·rw[if_pos h4]at e ⊢
  have:=zp7 hw.paths hv e (fun r hr=>qw0 hr)
  exact⟨this.1,by omega⟩
 rw[if_neg h4]at e ⊢;by_cases h5:c.kind=5
 ·rw[if_pos h5]at e ⊢
  split
  ·exact⟨hv,by simp only; omega⟩
  rename_i hk;rw[if_neg hk]at e;have:=zp7 hw.paths hv e (fun r hr=>qw0 hr)
  exact⟨this.1,by omega⟩
 rw[if_neg h5]at e ⊢;by_cases h6:c.kind=6\/c.kind=7
 ·rw[if_pos h6]; exact⟨hv,by simp only; omega⟩
 rw[if_neg h6]at e ⊢;by_cases h8:c.kind=8
 ·rw[if_pos h8]; exact⟨hv,by simp only; omega⟩
 rw[if_neg h8]at e ⊢;have:=zs7 hv e;exact⟨this.1,by omega⟩
def zrq:qaz->Int
 | .o0 e _ _=>e
 | .o1 e _ _=>e
 | .o2 e _ _ _ _=>e
def ztw:qaz->Option (List (List UInt8)×Env)
 | .o0 _ _ _=>none
 | .o1 _ a b=>some (a,b)
 | .o2 _ _ _ a b=>some (a,b)
theorem zs2 (o:Out):zrw o=((zix o).1,qfa (zix o).2,(zix o).2):=by cases o<;>rfl
theorem zs3 (o:Out):zyd o=(qf9 (zix o).2,(zix o).1):=by cases o<;>rfl
theorem q45 {n:Nat} {v:Env} (hv:EnvOk v) (hn:n<=1073741824) {c:qab} (hw:WfC c) (h1:2 * v.length+8 * qda c<n) :
  ∃ r,qhg n c (qfa v) v=some r/\zrq r=(qgh v c).1/\((qgh v c).1=0->ztw r=some (qfa (qgh v c).2,(qgh v c).2)):=by
 have hrow:=fun h=>q87 hv hn (c:=c) (hw.rows h) (by omega)
 have hnl:=qee c.vars;have hcb:qda c=1+qwa c.paths+qfz c.where_+qka c.e+c.var_.length+(c.items.map qta).sum+(c.order.map qia).sum+qfz c.skip+qfz c.limit+(c.sets.map qim).sum+qwe c.vars:=rfl;have hpath:=fun made=>q63 hv hn hw.paths made (by omega)
 have hset:=fun h=>q88 (o:=qfa v) (v:=v) hn (hw.sets h) (by omega)
 have hdrop:=q82 (n:=n) (o:=qfa v) (v:=v) hn (l:=c.vars) (by omega);have hwh:=fun m=>(qmf (qfa m) m n hn).1 c.where_ 3 (by omega) hw.wher;have hun:=fun(hwe:WfE c.e)=>(qmf (qfa v) v n hn).1 [c.e] 3 (by simp only[qfz]; omega) (by intro y hy; simp at hy; subst hy; exact hwe);obtain⟨kind,paths,wher,⟨eop,ename,⟨e1,e2,e3,e4,e5,e6⟩,enames,eargs⟩,var,items,uniq,order,skip,limit,sets,vars,detach⟩:=c;have hk:=hw.kind;have hmer:=hw.merge;have hunw:=hw.un;simp only at hpath hset hdrop hwh hun hk hmer hunw h1;unfold qhg;simp only[qfq,hpath,hdrop,qad,zs2];unfold qgh;simp only;by_cases k1:kind=1
 ·subst k1
  rw[kbs,kct,if_pos rfl];cases hP:qrb false v v paths with
  | inl r=>
   have hne:=qw0 hP;simp only[zix];rw[show(r.1 != 0)=true from by simpa using hne,kct];exact⟨_,rfl,rfl,fun h=>absurd h hne⟩
  | inr m=>
   simp only[zix];rw[show((0:Int) != 0)=false from rfl,kcf,hwh m,qad];exact⟨_,rfl,rfl,fun _=>rfl⟩
 rw[kbf.2 k1,kcf,if_neg k1];by_cases k2:kind=2
 ·subst k2
  obtain⟨u1,u2⟩:=hunw rfl;rw[kbs,kct,if_pos rfl,hun u1,qad];have hkk:qcr v var=qec v var 0:=rfl;by_cases hz:qky v 3 [.mk eop ename (.mk e1 e2 e3 e4 e5 e6) enames eargs]=0
  ·rw[hz]
   by_cases h0:qcr v var=0
   ·have hb:=qm8 hv (n:=n) (by omega) hn u2 (k:=3) (.inl h0) (by decide)
    rw[← hkk,h0,hb];exact⟨_,rfl,by simp[zrq],fun _=>by simp[ztw]⟩
   rw[← hkk];simp only[show((0:Int) != 0)=false from rfl,kcf];rw[show(qcr v var != 0)=true from by simpa using h0,kct];exact⟨_,rfl,by simp[zrq,h0],fun h=>by simp[h0]at h⟩
  rw[show(qky v 3 [.mk eop ename (.mk e1 e2 e3 e4 e5 e6) enames eargs] != 0)=true from by simpa using hz,kct];exact⟨_,rfl,by simp[zrq,hz],fun h=>by simp[hz]at h⟩
 rw[kbf.2 k2,kcf,if_neg k2];by_cases k4:kind=4
 ·subst k4
  rw[kbs,kct,if_pos rfl];exact⟨_,rfl,rfl,fun _=>rfl⟩
 rw[kbf.2 k4,kcf,if_neg k4];by_cases k5:kind=5
 ·subst k5
  obtain⟨p,rfl⟩:=hmer rfl;have hwp:=hw.paths p (by simp);obtain⟨nodes,edges⟩:=p;have hlen:=hwp.len;simp only at hlen;obtain⟨d,nodes',rfl⟩:=List.exists_cons_of_length_pos (l:=nodes) (by omega);obtain⟨dv,dl,dk,dvals⟩:=d;rw[kbs,kct,if_pos rfl,qr8,qad,qr8,qad];have hkk:qcr v dv=qec v dv 0:=rfl;rw[← hkk];have hfv:q33 [⟨⟨dv,dl,dk,dvals⟩::nodes',edges⟩]=dv:=rfl;rw[hfv];by_cases h0:qcr v dv=0
  ·rw[h0,show((0:Int) != 0)=false from rfl,kcf,if_neg (by simp)]
   exact⟨_,rfl,rfl,fun _=>rfl⟩
  rw[show(qcr v dv != 0)=true from by simpa using h0,kct,if_pos h0];exact⟨_,rfl,rfl,fun h=>by simp at h⟩
 rw[kbf.2 k5,kcf,if_neg k5];by_cases k6:kind=6
 ·subst k6
  rw[kbs,kct,kct,hset (.inl rfl),qad,if_pos (.inl rfl)];exact⟨_,rfl,rfl,fun h=>by simp only[zrq]at h; simp[ztw]⟩
 rw[kbf.2 k6,kcf];by_cases k7:kind=7
 ·subst k7
  rw[kbs,kct,hset (.inr rfl),qad,if_pos (.inr rfl)];exact⟨_,rfl,rfl,fun h=>by simp[ztw]⟩
 rw[kbf.2 k7,kcf,if_neg (by rintro(h|h); exact k6 h; exact k7 h)];by_cases k8:kind=8
 ·subst k8
  rw[kbs,kct,if_pos rfl];exact⟨_,rfl,rfl,fun h=>by simp[ztw]⟩
 rw[kbf.2 k8,kcf,if_neg k8];obtain⟨r,hr,he,hz⟩:=hrow (by show kind=3\/kind=9; omega);rw[hr,qad];cases r with
 | o0 e=>exact⟨_,rfl,he,fun h=>by have:=hz h; cases this⟩
 | o1 e a b=>
  refine⟨_,rfl,he,fun h=>?_⟩;have:=hz h;cases this;rfl
end W
end
section
open Go Ax
namespace W
theorem q8u {n:Nat} {v:Env} (hv:EnvOk v) (hn:n<=1073741824) {c:qab} (hw:WfC c) (h1:2 * v.length+8 * qda c<n) :
  ∃ w,qsd n (qf9 v) c=some (w,(qgh v c).1)/\((qgh v c).1=0->w=qf9 (qgh v c).2):=by
 have hrow:=fun h=>zd1 hv hn (c:=c) (hw.rows h) (by omega)
 have hnl:=qee c.vars;have hcb:qda c=1+qwa c.paths+qfz c.where_+qka c.e+c.var_.length+(c.items.map qta).sum+(c.order.map qia).sum+qfz c.skip+qfz c.limit+(c.sets.map qim).sum+qwe c.vars:=rfl;have hpath:=fun made=>zbh hv hn hw.paths made (by omega)
 have hset:=fun h=>zd3 (v:=v) hn (hw.sets h) (by omega)
 have hdrop:=zdy (n:=n) (v:=v) hn (l:=c.vars) (by omega);have hwh:=fun(m:Env) (hm:m.length<=v.length+2 * qwa c.paths)=>(qr9 m n hn).1 c.where_ 3 (by omega) (by omega) hw.wher;have hun:=fun(hwe:WfE c.e)=>(qr9 v n hn).1 [c.e] 3 (by omega) (by simp only[qfz]; omega) (by intro y hy; simp at hy; subst hy; exact hwe);have hkv:=fun s=>qfb (n:=n) (v:=v) (by omega) hn s
 have hwith:=fun s k=>qti (n:=n) hv (by omega) hn s k
 obtain⟨kind,paths,wher,⟨eop,ename,⟨e1,e2,e3,e4,e5,e6⟩,enames,eargs⟩,var,items,uniq,order,skip,limit,sets,vars,detach⟩:=c;have hk:=hw.kind;have hmer:=hw.merge;have hunw:=hw.un;simp only[qf9]at hpath hset hdrop hwh hun hk hmer hunw h1 hkv hwith
 unfold qsd;simp only[qm4,qm2,qm3,qqu,hpath,hdrop,hkv,hwith,qad,zs3,qf9];unfold qgh;simp only;by_cases k1:kind=1
 ·subst k1
  rw[kbs,kct,if_pos rfl];cases hP:qrb false v v paths with
  | inl r=>
   have hne:=qw0 hP;simp only[zix];rw[show(r.1==0)=false from kbf.2 hne,kcf];exact⟨_,rfl,fun h=>absurd h hne⟩
  | inr m=>
   simp only[zix];have hm:=zap hw.paths hv hP;rw[show((0:Int)==0)=true from rfl,kct,hwh m hm.2,qad];exact⟨_,rfl,fun _=>rfl⟩
 rw[kbf.2 k1,kcf,if_neg k1];by_cases k2:kind=2
 ·subst k2
  obtain⟨u1,u2⟩:=hunw rfl;rw[kbs,kct,if_pos rfl,hun u1,qad];have hnn:=q22 hv var;by_cases hz:qky v 3 [.mk eop ename (.mk e1 e2 e3 e4 e5 e6) enames eargs]=0
  ·rw[hz]
   by_cases h0:qcr v var=0
   ·simp only[kbs,qc3,qad,kct,h0]
    exact⟨_,rfl,fun _=>rfl⟩
   have:0<qcr v var:=by omega
   simp only[kbs,qc3,qad,kct];rw[kdt this,kct];exact⟨qf9 (qmr v var 3),by simp[h0,qf9],fun h=>by simp[h0]at h⟩
  have hz':(qky v 3 [.mk eop ename (.mk e1 e2 e3 e4 e5 e6) enames eargs]==0)=false:=kbf.2 hz;simp only[hz',zff,qad,kcf];exact⟨qf9 (qmr v var 3),by simp[hz,qf9],fun h=>by simp[hz]at h⟩
 rw[kbf.2 k2,kcf,if_neg k2];by_cases k4:kind=4
 ·subst k4
  rw[kbs,kct,if_pos rfl];exact⟨_,rfl,fun _=>rfl⟩
 rw[kbf.2 k4,kcf,if_neg k4];by_cases k5:kind=5
 ·subst k5
  obtain⟨p,rfl⟩:=hmer rfl;have hwp:=hw.paths p (by simp);obtain⟨nodes,edges⟩:=p;have hlen:=hwp.len;simp only at hlen;obtain⟨d,nodes',rfl⟩:=List.exists_cons_of_length_pos (l:=nodes) (by omega);obtain⟨dv,dl,dk,dvals⟩:=d;rw[kbs,kct,if_pos rfl,qr8,qad,qr8,qad];have hfv:q33 [⟨⟨dv,dl,dk,dvals⟩::nodes',edges⟩]=dv:=rfl;have hnn:=q22 hv dv;rw[hfv];by_cases hd:dv=[]
  ·subst hd
   rw[q4a hv,if_neg (by simp)];exact⟨_,rfl,fun _=>rfl⟩
  have hd':(!(dv==[]))=true:=by simp[hd]
  simp only[hkv];rw[hd',qc3,qad,kct];by_cases h0:qcr v dv=0
  ·rw[h0,show decide ((0:Int)>0)=false from rfl,kcf,if_neg (by simp)]
   exact⟨_,rfl,fun _=>rfl⟩
  have:0<qcr v dv:=by omega
  rw[kdt this,kct,if_pos h0];exact⟨_,rfl,fun h=>by simp at h⟩
 rw[kbf.2 k5,kcf,if_neg k5];by_cases k6:kind=6
 ·subst k6
  rw[kbs,kct,kct,hset (.inl rfl),if_pos (.inl rfl)];exact⟨_,rfl,fun h=>rfl⟩
 rw[kbf.2 k6,kcf];by_cases k7:kind=7
 ·subst k7
  rw[kbs,kct,hset (.inr rfl),if_pos (.inr rfl)];exact⟨_,rfl,fun h=>rfl⟩
 rw[kbf.2 k7,kcf,if_neg (by rintro(h|h); exact k6 h; exact k7 h)];by_cases k8:kind=8
 ·subst k8
  rw[kbs,kct,if_pos rfl];exact⟨_,rfl,fun h=>rfl⟩
 rw[kbf.2 k8,kcf,if_neg k8];obtain⟨w,hr,hz⟩:=hrow (by show kind=3\/kind=9; omega);simp only[qf9]at hr hz;rw[hr,qad];exact⟨_,rfl,hz⟩
end W
end
section
open Go Ax
namespace W
theorem zu2 {v:Env} (h:EnvOk v) {x:List UInt8×Int} (hx:x∈v):qcr v x.1=x.2:=by
 have:∀ {v:Env},(v.map (·.1)).Nodup->x∈v->qu3 x.1 v=some x.2:=by
  clear hx h;intro v
  induction v with
  | nil=>intro _ h; cases h
  | cons y v ih=>
   intro hd hm;simp only[jl,List.nodup_cons]at hd;rcases jg.1 hm with rfl|hm2
   ·obtain⟨xk,xv⟩:=x
    simp[qu3]
   have hne:x.1≠y.1:=fun e=>hd.1 (by rw[← e]; exact List.mem_map.2 ⟨x,hm2,rfl⟩)
   obtain⟨yk,yv⟩:=y;simp only[qu3,kbf.2 hne,kcf];exact ih hd.2 hm2
 unfold qcr qec;rw[this h.nodup hx];rfl
@[simp] theorem qbx (l:List qab):(qab.rows l).length=l.length:=by simp[qab.rows]
def qq6 (v:Env) (c:qab):Int ⊕ Env:=if(qgh v c).1≠0 then .inl (qgh v c).1 else .inr (qgh v c).2
def qca (l:List qab):Nat:=(l.map qda).sum
theorem qj9 (c:qab):1<=qda c:=by unfold qda; omega
def qhx (may:Bool) (cl:List qab) (at_:Int):List (List UInt8)×List Int×Int:=
 if may=false\/at_<0\/(cl.length:Int)<at_ then([],[],20)
 else match qfs qq6 [] (cl.take at_.toNat)with
  | .inl e=>([],[],e)
  | .inr v=>(v.map (·.1),v.map (·.2),0)
theorem zg5 {l:List qab} (hw:∀ c∈l,WfC c):∀ (k:Nat) (x:qab) (t t':Env),l[k]? =some x->(EnvOk t/\t.length<=2 * ((l.take k).map qda).sum)->qq6 t x=.inr t'->EnvOk t'/\t'.length<=2 * ((l.take (k+1)).map qda).sum:=by
 intro k x t t' hx hi hf;unfold qq6 at hf;split at hf
 ·cases hf
 rename_i hz;cases hf;have:=zcv hi.1 (hw x (qbf hx)) (by simpa using hz);rw[q4p qda hx];exact⟨this.1,by omega⟩
theorem q60 {n:Nat} (hn:n<=1073741824) {cl:List qab} {may:Bool} (hR:qn5 n ⟨cl⟩=some may) (hw:may=true->∀ c∈cl,WfC c) (h1:8 * qca cl+8<n) (at_:Int) :
  qi8 n ⟨cl⟩ at_=some (qhx may cl at_):=by
 unfold qca at h1;have hlen:=qbi qda qj9 cl;unfold qi8 qhx;simp only[hR,qad,qbx];by_cases hc:may=false\/at_<0\/(cl.length:Int)<at_
 ·rw[if_pos hc]
  have:(bif bif !may then true else decide (at_<0)then true else decide (at_>(cl.length:Int)))=true:=by
   rcases hc with rfl|hc|hc
   ·rfl
   ·simp[hc,ji]
   have:at_>(cl.length:Int):=hc;simp[this,ji]
  rw[this];rfl
 rw[if_neg hc];simp only[not_or,Bool.not_eq_false,Int.not_lt]at hc;obtain⟨hm,ha,hb⟩:=hc;subst hm;have hw:=hw rfl;obtain⟨m,rfl⟩:=Int.eq_ofNat_of_zero_le ha;have hml:m<=cl.length:=by omega
 rw[show(bif bif !true then true else decide ((m:Int)<0)then true else decide ((m:Int)>(cl.length:Int)))=false from by
  simp only[jq,kcf];rw[kdf (by omega),kdf (by omega)]; rfl]
 rw[kcf,qkb,qad,q5k hml];have hwt:∀ c∈cl.take m,WfC c:=fun c hc=>hw c (List.mem_of_mem_take hc)
 have htl:(cl.take m).length=m:=by simp; omega
 have hts:((cl.take m).map qda).sum<=(cl.map qda).sum:=by
  have h0:cl.take m++cl.drop m=cl:=List.take_append_drop m cl;have:((cl.take m++cl.drop m).map qda).sum=((cl.take m).map qda).sum+((cl.drop m).map qda).sum:=by rw[ke,List.sum_append]
  rw[h0]at this;omega
 have e:=qni (B:=qg6 n cl m) (fun k (t:Env)=>((k:Int),qfa t,t)) (fun k t=>EnvOk t/\t.length<=2 * (((cl.take m).take k).map qda).sum) (l:=cl.take m)
  (fun t c=>match qq6 t c with|.inl e=>(.inl ([],[],e):(List (List UInt8)×List Int×Int) ⊕ Env)|.inr t'=>.inr t') (rest:=fun t=>some (t.map (·.1),t.map (·.2),0))
  (fun k x t nx hx hi=>by
   have hk:=qbl hx;have hst:=qyc qda hx;obtain⟨r,hr,he,hz⟩:=q45 hi.1 hn (hwt x (qbf hx)) (by have:=hi.2; omega);have hx':(cl.take m)[k]? =some x:=hx;obtain⟨kind,paths,wher,⟨eop,ename,⟨e1,e2,e3,e4,e5,e6⟩,enames,eargs⟩,var,items,uniq,order,skip,limit,sets,vars,detach⟩:=x;simp only[qg6,qbx,qa5 hk,kct,qaj hx',qad,hr];rw[qb7 (by omega)];unfold qq6;by_cases h0:(qgh t ⟨kind,paths,wher,⟨eop,ename,⟨e1,e2,e3,e4,e5,e6⟩,enames,eargs⟩,var,items,uniq,order,skip,limit,sets,vars,detach⟩).1=0
   ·have hz2:=hz h0
    clear hz;rw[if_neg (by simpa using h0)];cases r with
    | o0 e a b=>simp[ztw]at hz2
    | o1 e a b=>
     simp only[zrq]at he;simp only[ztw,Option.some.injEq,Prod.mk.injEq]at hz2;rw[h0]at he;subst he;rw[hz2.1,hz2.2];rfl
    | o2 e a b c d=>
     simp only[zrq]at he;simp only[ztw,Option.some.injEq,Prod.mk.injEq]at hz2;rw[h0]at he;subst he;rw[hz2.1,hz2.2];rfl
   rw[if_pos h0];cases r with
   | o0 e a b=>simp only[zrq]at he; rw[← he]at h0 ⊢; simp[h0,ji]
   | o1 e a b=>simp only[zrq]at he; rw[← he]at h0 ⊢; simp[h0,ji]
   | o2 e a b c d=>simp only[zrq]at he; rw[← he]at h0 ⊢; simp[h0,ji])
  (fun k x t t' hx hi hf=>by
   have:qq6 t x=.inr t':=by
    cases hs:qq6 t x with
    | inl r=>rw[hs]at hf; cases hf
    | inr u=>rw[hs]at hf; cases hf; rfl
   exact zg5 hwt k x t t' hx hi this)
  (fun t nx hi=>by
   have hi2:=hi.2;rw[List.take_length]at hi2;simp only[qg6,qbx,qar,kcf];have:=qj4 (B:=qit n (qfa t) t) (fun k=>((t.map (·.2)).take k,(k:Int))) t.length (r:=some (t.map (·.1),t.map (·.2),0))
    (fun k hk nx2=>by
     obtain⟨x,hx⟩:∃ x,t[k]? =some x:=⟨t[k],jf hk⟩;have h1:(qfa t)[k]? =some x.1:=by simp[hx]
     have hkd:=zu2 hi.1 (qbf hx);unfold qcr at hkd;simp only[qit,qay,jm,qa5 hk,kct,qaj h1,qad,hkd];rw[qa0 (zkm (by simp; omega) (by omega)),qb7 (by omega)];have:(t.map (·.2)).take (k+1)=(t.map (·.2)).take k++[x.2]:=by rw[List.take_succ]; simp[hx]
     rw[this])
    (fun nx2=>by
     simp only[qit,qay,jm,qar,kcf];rw[show(t.map (·.2)).take t.length=t.map (·.2)from by rw[← jm (f:=fun x:List UInt8×Int=>x.2)]; exact List.take_length]) (n:=n) (by omega)
   simpa using this) (n:=n) (by rw[htl]; omega) (t0:=[]) ⟨zck,by simp⟩
 have e':qam (qg6 n cl m) n ((0:Int),([]:List (List UInt8)),([]:List (List UInt8×Int)))=_:=e;simp only[Int.toNat_natCast];refine Eq.trans e' ?_;rw[qsr (fun(e:Int)=>(([]:List (List UInt8)),([]:List Int),e)) qq6 _ (fun t x=>by cases qq6 t x<;>rfl)]
 cases qfs qq6 [] (cl.take m)<;>rfl
theorem zbg {n:Nat} (hn:n<=1073741824) {cl:List qab} {may:Bool} (hR:qqp n ⟨cl⟩=some may) (hw:may=true->∀ c∈cl,WfC c) (h1:8 * qca cl+8<n) (at_:Int) :
  qie n ⟨cl⟩ at_=some (qhx may cl at_):=by
 unfold qca at h1;have hlen:=qbi qda qj9 cl;unfold qie qhx;simp only[hR,qad,qbx];by_cases hc:may=false\/at_<0\/(cl.length:Int)<at_
 ·rw[if_pos hc]
  have:(bif bif !may then true else decide (at_<0)then true else decide (at_>(cl.length:Int)))=true:=by
   rcases hc with rfl|hc|hc
   ·rfl
   ·simp[hc,ji]
   have:at_>(cl.length:Int):=hc;simp[this,ji]
  rw[this];rfl
 rw[if_neg hc];simp only[not_or,Bool.not_eq_false,Int.not_lt]at hc;obtain⟨hm,ha,hb⟩:=hc;subst hm;have hw:=hw rfl;obtain⟨m,rfl⟩:=Int.eq_ofNat_of_zero_le ha;have hml:m<=cl.length:=by omega
 rw[show(bif bif !true then true else decide ((m:Int)<0)then true else decide ((m:Int)>(cl.length:Int)))=false from by
  simp only[jq,kcf];rw[kdf (by omega),kdf (by omega)]; rfl]
 rw[kcf];have hwt:∀ c∈cl.take m,WfC c:=fun c hc=>hw c (List.mem_of_mem_take hc)
 have htl:(cl.take m).length=m:=by simp; omega
 have hts:((cl.take m).map qda).sum<=(cl.map qda).sum:=by
  have h0:cl.take m++cl.drop m=cl:=List.take_append_drop m cl;have:((cl.take m++cl.drop m).map qda).sum=((cl.take m).map qda).sum+((cl.drop m).map qda).sum:=by rw[ke,List.sum_append]
  rw[h0]at this;omega
 have e:=qni (B:=qju n (m:Int) cl) (fun k (t:Env)=>((k:Int),t.map (·.1),t.map (·.2))) (fun k t=>EnvOk t/\t.length<=2 * (((cl.take m).take k).map qda).sum) (l:=cl.take m)
  (fun t c=>match qq6 t c with|.inl e=>(.inl ([],[],e):(List (List UInt8)×List Int×Int) ⊕ Env)|.inr t'=>.inr t') (rest:=fun t=>some (t.map (·.1),t.map (·.2),0))
  (fun k x t nx hx hi=>by
   have hk:=qbl hx;rw[htl]at hk;have hst:=qyc qda hx;obtain⟨w,hr,hz⟩:=q8u hi.1 hn (hwt x (qbf hx)) (by have:=hi.2; omega);have hx':cl[k]? =some x:=by rw[jF,if_pos hk]at hx; exact hx
   obtain⟨kind,paths,wher,⟨eop,ename,⟨e1,e2,e3,e4,e5,e6⟩,enames,eargs⟩,var,items,uniq,order,skip,limit,sets,vars,detach⟩:=x;simp only[qf9]at hr hz;simp only[qju,qa5 hk,kct,qaj hx',qad,hr];rw[qb7 (by omega)];unfold qq6;by_cases h0:(qgh t ⟨kind,paths,wher,⟨eop,ename,⟨e1,e2,e3,e4,e5,e6⟩,enames,eargs⟩,var,items,uniq,order,skip,limit,sets,vars,detach⟩).1=0
   ·rw[if_neg (by simpa using h0),hz h0,h0]
    rfl
   rw[if_pos h0];obtain⟨wn,wk⟩:=w;simp[h0,ji])
  (fun k x t t' hx hi hf=>by
   have:qq6 t x=.inr t':=by
    cases hs:qq6 t x with
    | inl r=>rw[hs]at hf; cases hf
    | inr u=>rw[hs]at hf; cases hf; rfl
   exact zg5 hwt k x t t' hx hi this)
  (fun t nx hi=>by
   rw[htl];simp only[qju,qar,kcf]) (n:=n) (by rw[htl]; omega) (t0:=[]) ⟨zck,by simp⟩
 have e':qam (qju n (m:Int) cl) n ((0:Int),([]:List (List UInt8)),([]:List Int))=_:=e;simp only[Int.toNat_natCast];refine Eq.trans e' ?_;rw[qsr (fun(e:Int)=>(([]:List (List UInt8)),([]:List Int),e)) qq6 _ (fun t x=>by cases qq6 t x<;>rfl)]
 cases qfs qq6 [] (cl.take m)<;>rfl
end W
end
section
open Go Ax
namespace W
def upB (b:UInt8):UInt8:=if 97<=b.toNat/\b.toNat<=122 then UInt8.ofNat (b.toNat - 32)else b
set_option maxRecDepth 100000 in
theorem zxc:∀ m:Fin 256,97<=m.val/\m.val<=122->u8I (kwr .u8 ((m.val:Int) - 32))=some (UInt8.ofNat (m.val - 32)):=by decide
theorem zrk (b:UInt8) (h:97<=b.toNat/\b.toNat<=122):u8I (kwr .u8 ((b.toNat:Int) - 32))=some (upB b):=by
 have:=zxc ⟨b.toNat,b.toNat_lt⟩ h;unfold upB;rw[if_pos h];exact this
theorem zvx (b:UInt8):u8I (b.toNat:Int)=some b:=by
 unfold u8I;have:=b.toNat_lt;rw[if_pos (by omega)];simp
def qmq (s:List UInt8):List UInt8:=s.map upB
theorem zux (b:UInt8):(bif decide ((b.toNat:Int)≥97)then decide ((b.toNat:Int)<=122)else false)=decide (97<=b.toNat/\b.toNat<=122):=by
 by_cases h1:97<=b.toNat<;>by_cases h2:b.toNat<=122
 ·rw[kdt (by omega:(b.toNat:Int)≥97),kdt (by omega:(b.toNat:Int)<=122),kdt ⟨h1,h2⟩]; rfl
 ·rw[kdt (by omega:(b.toNat:Int)≥97),kdf (by omega:¬ (b.toNat:Int)<=122),kdf (by omega:¬ (97<=b.toNat/\b.toNat<=122))]; rfl
 ·rw[kdf (by omega:¬ (b.toNat:Int)≥97),kdf (by omega:¬ (97<=b.toNat/\b.toNat<=122))]; rfl
 rw[kdf (by omega:¬ (b.toNat:Int)≥97),kdf (by omega:¬ (97<=b.toNat/\b.toNat<=122))]; rfl
theorem za8 {n:Nat} {s:List UInt8} (h:s.length<n) (hn:n<=1073741824):qt7 n s=some (qmq s):=by
 unfold qt7;have:=qj4 (B:=qlu n s) (fun k=>((s.take k).map upB,(k:Int))) s.length (r:=some (qmq s))
  (fun k hk nx=>by
   obtain⟨b,hb⟩:∃ b,s[k]? =some b:=⟨s[k],jf hk⟩;have ht:(s.take (k+1)).map upB=(s.take k).map upB++[upB b]:=by rw[List.take_succ,hb]; simp
   simp only[qlu,qa5 hk,kct,qaj hb,qad,zux];rw[ht];have hc:decide ((qau ((s.take k).map upB++[upB b])).length * 1<=140737488355328)=true:=zkm (by simp; omega) (by omega);by_cases hl:97<=b.toNat/\b.toNat<=122
   ·rw[kdt hl,kct]
    simp only[qlt,zrk b hl,qad];rw[qa0 hc,qb7 (by omega)]
   rw[kdf hl,kcf];have hu:upB b=b:=by unfold upB; rw[if_neg hl]
   rw[hu]at hc ⊢;simp only[qlt,zvx,qad];rw[qa0 hc,qb7 (by omega)])
  (fun nx=>by simp only[qlu,qar,kcf,List.take_length]; rfl) h
 simpa using this
theorem zbn {n:Nat} {s:List UInt8} (h:s.length<n) (hn:n<=1073741824):qro n s=some (qmq s):=by
 unfold qro;have:=qj4 (B:=ql8 n s) (fun k=>((k:Int),(s.take k).map upB++s.drop k)) s.length (r:=some (qmq s))
  (fun k hk nx=>by
   obtain⟨b,hb⟩:∃ b,s[k]? =some b:=⟨s[k],jf hk⟩;have hd:s.drop k=b::s.drop (k+1):=by rw[jo hk]; rw[jf hk]at hb; cases hb; rfl
   have htl:((s.take k).map upB).length=k:=by simp; omega
   have hg:((s.take k).map upB++s.drop k)[k]? =some b:=by rw[List.getElem?_append_right (by omega),htl,hd]; simp
   have hlen:k<((s.take k).map upB++s.drop k).length:=(jH.1 hg).1;have ht:(s.take (k+1)).map upB++s.drop (k+1)=(s.take k).map upB++(upB b::s.drop (k+1)):=by rw[List.take_succ,hb]; simp
   simp only[ql8,qa5 hk,kct,qkb,qad];rw[q5k hlen,hg,qad,zux,ht];by_cases hl:97<=b.toNat/\b.toNat<=122
   ·rw[kdt hl,kct,q5k hlen,zrk b hl,qad,q5k hlen]
    simp only[ql7];rw[qb7 (by omega),hd];rw[List.set_append_right _ _ (by omega),htl,Nat.sub_self];rfl
   rw[kdf hl,kcf];have hu:upB b=b:=by unfold upB; rw[if_neg hl]
   simp only[ql7];rw[qb7 (by omega),hd,hu])
  (fun nx=>by simp only[ql8,qar,kcf,List.take_length,List.drop_length,List.append_nil]; rfl) h
 simpa using this
def zac (b:UInt8):Bool:=decide (97<=b.toNat/\b.toNat<=122)||decide (65<=b.toNat/\b.toNat<=90)||decide (b.toNat=95)
def zfa (b:UInt8):Bool:=decide (48<=b.toNat/\b.toNat<=57)
def q1n (s:List UInt8):Bool:=match s with
 | []=>false
 | b::l=>decide (l.length<64)&&zac b&&l.all fun c=>zac c||zfa c
theorem qt4 (n:Nat) (b:UInt8):qix n (b.toNat:Int)=some (zac b):=by
 unfold qix zac;rw[zux];congr 1;by_cases h0:97<=b.toNat/\b.toNat<=122
 ·simp[h0]
 by_cases h1:65<=b.toNat/\b.toNat<=90
 ·rw[kdf h0,kdt h1,kdt (by omega:(b.toNat:Int)≥65),kdt (by omega:(b.toNat:Int)<=90)]; rfl
 have:(bif decide ((b.toNat:Int)≥65)then decide ((b.toNat:Int)<=90)else false)=false:=by
  by_cases h2:65<=b.toNat
  ·rw[kdt (by omega:(b.toNat:Int)≥65),kdf (by omega:¬ (b.toNat:Int)<=90)]; rfl
  rw[kdf (by omega:¬ (b.toNat:Int)≥65)]; rfl
 rw[kdf h0,this,kdf h1];by_cases h3:b.toNat=95
 ·simp[h3]
 have h3':((b.toNat:Int)==95)=false:=kbf.2 (by omega);simp only[Bool.or_false,Bool.false_or,kcf];rw[h3',kdf h3]
theorem za6 (n:Nat) (b:UInt8):qk4 n (b.toNat:Int)=some (zfa b):=by
 unfold qk4 zfa;congr 1;by_cases h1:48<=b.toNat<;>by_cases h2:b.toNat<=57
 ·rw[kdt (by omega:(b.toNat:Int)≥48),kdt (by omega:(b.toNat:Int)<=57),kdt ⟨h1,h2⟩]; rfl
 ·rw[kdt (by omega:(b.toNat:Int)≥48),kdf (by omega:¬ (b.toNat:Int)<=57),kdf (by omega:¬ (48<=b.toNat/\b.toNat<=57))]; rfl
 ·rw[kdf (by omega:¬ (b.toNat:Int)≥48),kdf (by omega:¬ (48<=b.toNat/\b.toNat<=57))]; rfl
 rw[kdf (by omega:¬ (b.toNat:Int)≥48),kdf (by omega:¬ (48<=b.toNat/\b.toNat<=57))]; rfl
theorem zdp {n:Nat} {s:List UInt8} (h:s.length<n) (hn:n<=1073741824):qwi n s=some (q1n s):=by
 unfold qwi;cases s with
 | nil=>rfl
 | cons b l=>
  by_cases hl:l.length<64
  ·have hc:(bif decide ((((b::l).length:Nat):Int)<1)then true else decide ((((b::l).length:Nat):Int)>64))=false:=by
    rw[kdf (by simp; omega),kdf (by simp; omega)]; rfl
   simp only[hc,jp,qc3,qr8,qad,qt4,kcf,q1n];rw[kdt hl];cases hb:zac b with
   | false=>rfl
   | true=>
    simp only[jq,kcf,Bool.true_and];have e:=qc4 (B:=qnl n (b::l)) (fun k=>((k:Nat):Int)) (l:=b::l) (fun c=>if(zac c||zfa c)=true then none else some false) (rest:=some true)
     (fun k x nx hx=>by
      have hk:=qbl hx;simp only[qnl,qa5 hk,kct,qaj hx,qad,qt4];rw[qb7 (by omega)];cases h1:zac x with
      | true=>simp
      | false=>
       simp only[jp,qc3,qad,za6,kct];cases zfa x<;>simp)
     (fun nx=>by simp only[qnl,qar,kcf]) (n:=n) h
    refine Eq.trans e ?_;have key:∀ l:List UInt8,qe4 (R:=Bool) (fun c=>if(zac c||zfa c)=true then none else some false) l=if(l.all fun c=>zac c||zfa c)=true then none else some false:=by
     intro l
     induction l with
     | nil=>rfl
     | cons c l ih=>
      simp only[qe4,jw,ih];by_cases hc:(zac c||zfa c)=true<;>simp only[hc,if_true,Bool.true_and,Bool.not_eq_true]<;>simp_all
    rw[key];simp only[jw,hb,Bool.true_or,Bool.true_and];cases(l.all fun c=>zac c||zfa c)<;>rfl
  ·have hc:(bif decide ((((b::l).length:Nat):Int)<1)then true else decide ((((b::l).length:Nat):Int)>64))=true:=by
    rw[kdf (by simp; omega),kdt (by simp; omega)]; rfl
   simp only[hc,jq,zff,qad,kct,q1n];rw[kdf hl];rfl
end W
end
section
open Go Ax
namespace W
theorem zty {l:List UInt8} {i:Nat} {b:UInt8} (h:l[i]? =some b):(⟨l.toArray⟩:ByteArray).get! i=b:=by
 have hi:=(jH.1 h).1;have:(⟨l.toArray⟩:ByteArray).get! i=l.toArray[i]!:=rfl;rw[this];simp[getElem!_def,h]
theorem zqq {l:List UInt8} {i:Nat} {b:UInt8} (h:l[i]? =some b) (hb:b.toNat<128):qa7 l i=b.toNat/\qdz l i=i+1:=by
 unfold qa7 qdz Utf8.decode;simp only[Nat.add_zero,zty h];rw[if_pos (by omega)];exact⟨rfl,rfl⟩
theorem zvo {l:List UInt8} {i:Nat} {b:UInt8} (h:l[i]? =some b) (hb:¬ b.toNat<128):128<=qa7 l i:=by
 unfold qa7 Utf8.decode;simp only[Nat.add_zero,zty h];rw[if_neg (by omega)];have he:128<=Utf8.runeError:=by decide
 split
 ·split
  ·simp only; omega
  exact he
 split
 ·split
  ·rename_i h1
   simp only[jj,kde,ge_iff_le]at h1;simp only; omega
  exact he
 split
 ·split
  ·rename_i h1
   simp only[jj,kde,ge_iff_le]at h1;simp only; omega
  exact he
 exact he
def zch (k:Nat) (b:UInt8):Bool:=!zac b&&(k==0||!zfa b)
def q6m:Nat->List UInt8->Bool
 | _,[]=>true
 | k,b::l=>!zch k b&&q6m (k+1) l
theorem zan:∀ (l:List UInt8) (k:Nat),q6m (k+1) l=l.all fun c=>zac c||zfa c
 | [],k=>rfl
 | b::l,k=>by
  simp only[q6m,jw,zan l (k+1),zch];rw[show((k+1==0)=false)from rfl];cases zac b<;>cases zfa b<;>rfl
theorem zsp (l:List UInt8):(q6m 0 l&&(!(l==[])&&decide (l.length<=64)))=q1n l:=by
 cases l with
 | nil=>rfl
 | cons b l=>
  simp only[q6m,zan,q1n,zch,kbs,Bool.true_or,Bool.and_true,Bool.not_not];have h1:(!((b::l)==[]))=true:=rfl;have h2:decide ((b::l).length<=64)=decide (l.length<64):=by
   by_cases h:l.length<64
   ·rw[kdt h,kdt (by simp; omega)]
   rw[kdf h,kdf (by simp; omega)]
  rw[h1,h2,Bool.true_and];cases zac b<;>cases decide (l.length<64)<;>simp
theorem zqp {l:List UInt8} {k:Nat} {b:UInt8} (h:l[k]? =some b) :
  (bif !(bif(bif(bif decide (((qa7 l k:Nat):Int)≥97)then decide (((qa7 l k:Nat):Int)<=122)else false)then true else(bif decide (((qa7 l k:Nat):Int)≥65)then decide (((qa7 l k:Nat):Int)<=90)else false))then true else(((qa7 l k:Nat):Int)==95))then(bif(bif(((k:Nat):Int)==0)then true else decide (((qa7 l k:Nat):Int)<48))then true else decide (((qa7 l k:Nat):Int)>57))else false)=zch k b:=by
 by_cases hb:b.toNat<128
 ·rw[(zqq h hb).1]
  have hl:=qt4 0 b;unfold qix at hl;rw[Option.some.inj hl];have hz:(((k:Nat):Int)==0)=(k==0):=by
   by_cases hk:k=0
   ·subst hk; rfl
   rw[kbf.2 hk,kbf.2 (by omega)]
  rw[hz];unfold zch zfa;cases hL:zac b with
  | true=>rfl
  | false=>
   simp only[jp,kct,Bool.true_and];cases hk:(k==0)with
   | true=>rfl
   | false=>
    simp only[kcf,Bool.false_or];by_cases h1:b.toNat<48
    ·rw[kdt (by omega:(b.toNat:Int)<48),kdf (by omega:¬ (48<=b.toNat/\b.toNat<=57))]; rfl
    by_cases h2:57<b.toNat
    ·rw[kdf (by omega:¬ (b.toNat:Int)<48),kdt (by omega:(b.toNat:Int)>57),kdf (by omega:¬ (48<=b.toNat/\b.toNat<=57))]; rfl
    rw[kdf (by omega:¬ (b.toNat:Int)<48),kdf (by omega:¬ (b.toNat:Int)>57),kdt (by omega:(48<=b.toNat/\b.toNat<=57))]; rfl
 have hr:=zvo h hb;have hbad:zch k b=true:=by
  unfold zch zac zfa;rw[kdf (by omega:¬ (97<=b.toNat/\b.toNat<=122)),kdf (by omega:¬ (65<=b.toNat/\b.toNat<=90)),kdf (by omega:¬ b.toNat=95),kdf (by omega:¬ (48<=b.toNat/\b.toNat<=57))];cases(k==0)<;>rfl
 rw[hbad];generalize qa7 l k=c at *;rw[kdf (by omega:¬ (c:Int)<=122),kdf (by omega:¬ (c:Int)<=90),kbf.2 (by omega:¬ (c:Int)=95),kdt (by omega:(c:Int)>57)];cases decide ((c:Int)≥97)<;>cases decide ((c:Int)≥65)<;>cases((k:Int)==0)<;>cases decide ((c:Int)<48)<;>rfl
theorem q1v {n:Nat} {l:List UInt8} (h:l.length<n):qpx n l=some (q1n l):=by
 unfold qpx;have main:∀ (suf:List UInt8) (k m:Nat),(∀ j,suf[j]? =l[k+j]?)->k+suf.length=l.length->suf.length<m->qam (qmb n l) m k=some (q6m k suf&&(!(l==[])&&decide (l.length<=64))):=by
  intro suf
  induction suf with
  | nil=>
   intro k m hs hk hm;obtain⟨m,rfl⟩:=jk (by omega:m≠0);have:k=l.length:=by simpa using hk
   subst this;rw[qa1];simp only[qmb];rw[kdf (Nat.lt_irrefl _),kcf];have:decide (((l.length:Nat):Int)<=64)=decide (l.length<=64):=by
    by_cases h:l.length<=64
    ·rw[kdt h,kdt (by omega)]
    rw[kdf h,kdf (by omega)]
   rw[this];simp only[q6m,Bool.true_and];cases(l==[])<;>rfl
  | cons b suf ih=>
   intro k m hs hk hm;obtain⟨m,rfl⟩:=jk (by omega:m≠0);have hb:l[k]? =some b:=by have:=hs 0; simpa using this.symm
   have hkl:=qbl hb;rw[qa1];simp only[qmb];rw[kdt hkl,kct,zqp hb];simp only[q6m];cases hB:zch k b with
   | true=>rfl
   | false=>
    have h128:b.toNat<128:=Decidable.byContradiction fun hn=>by
     have:zch k b=true:=by
      unfold zch zac zfa;rw[kdf (by omega:¬ (97<=b.toNat/\b.toNat<=122)),kdf (by omega:¬ (65<=b.toNat/\b.toNat<=90)),kdf (by omega:¬ b.toNat=95),kdf (by omega:¬ (48<=b.toNat/\b.toNat<=57))];cases(k==0)<;>rfl
     rw[this]at hB;cases hB
    rw[kcf,kct,(zqq hb h128).2,ih (k+1) m (fun j=>by have:=hs (j+1); rw[show k+1+j=k+(j+1) by omega]; simpa using this) (by simp at hk; omega) (by simp at hm; omega)]
    rfl
 have:=main l 0 n (fun j=>by simp) (by simp) h
 rw[zsp]at this;exact this
def Wd:List (List UInt8)->List UInt8
 | []=>[32]
 | x::ws=>32::(x++Wd ws)
theorem zns:∀ ws,∃ t,Wd ws=32::t
 | []=>⟨[],rfl⟩
 | x::ws=>⟨_,rfl⟩
theorem zue:∀ (w x r t:List UInt8),32 ∉ w->32 ∉ x->(w++32::r) <+: (x++32::t)->w=x
 | [],[],_,_,_,_,_=>rfl
 | [],b::x,r,t,_,hx,h=>by
  simp only[jv,List.cons_append,List.cons_prefix_cons]at h;exact absurd (h.1 ▸ List.mem_cons_self) hx
 | a::w,[],r,t,hw,_,h=>by
  simp only[jv,List.cons_append,List.cons_prefix_cons]at h;exact absurd (h.1 ▸ List.mem_cons_self) hw
 | a::w,b::x,r,t,hw,hx,h=>by
  simp only[List.cons_append,List.cons_prefix_cons]at h;rw[h.1,zue w x r t (fun hm=>hw (List.mem_cons_of_mem _ hm)) (fun hm=>hx (List.mem_cons_of_mem _ hm)) h.2]
theorem zp3:∀ (ws:List (List UInt8)) (w:List UInt8),(∀ x∈ws,32 ∉ x)->32 ∉ w->∀ j,(32::(w++[32])) <+: (Wd ws).drop j->w∈ws
 | [],w,_,_,j,h=>by
  have:=h.length_le;simp[Wd]at this;omega
 | x::ws,w,hws,hw,j,h=>by
  cases j with
  | zero=>
   simp only[Wd,List.drop_zero,List.cons_prefix_cons,true_and]at h;obtain⟨t,ht⟩:=zns ws;rw[ht]at h;rw[zue w x [] t hw (hws x (by simp)) h];simp
  | succ j=>
   simp only[Wd,List.drop_succ_cons]at h;by_cases hj:j<x.length
   ·rw[List.drop_append_of_le_length (by omega),jo hj,List.cons_append,List.cons_prefix_cons]at h
    exact absurd (by rw[h.1]; exact List.getElem_mem hj) (hws x (by simp))
   rw[List.drop_append,List.drop_eq_nil_of_le (by omega),jv]at h;exact List.mem_cons_of_mem _ (zp3 ws w (fun y hy=>hws y (List.mem_cons_of_mem _ hy)) hw _ h)
theorem zpz:∀ (ws:List (List UInt8)) (w:List UInt8),w∈ws->∃ j,j<=(Wd ws).length/\(32::(w++[32])) <+: (Wd ws).drop j
 | x::ws,w,h=>by
  rcases jg.1 h with rfl|h
  ·obtain⟨t,ht⟩:=zns ws
   refine⟨0,Nat.zero_le _,?_⟩;simp only[Wd,List.drop_zero,ht];exact⟨t,by simp⟩
  obtain⟨j,hj,hp⟩:=zpz ws w h;refine⟨x.length+j+1,by simp[Wd]; omega,?_⟩;simp only[Wd,List.drop_succ_cons];rw[List.drop_append,List.drop_eq_nil_of_le (by omega),jv,Nat.add_sub_cancel_left];exact hp
theorem zg3 {ws:List (List UInt8)} {w:List UInt8} (hws:∀ x∈ws,32 ∉ x) (hw:32 ∉ w):Lib.contains (Wd ws) (32::(w++[32]))=ws.contains w:=by
 unfold Lib.contains;rcases Lib.index_spec (Wd ws) (32::(w++[32]))with ⟨h1,h2⟩|⟨i,h1,_,h2,_⟩
 ·rw[h1]
  have:¬ w∈ws:=fun hm=>by
   obtain⟨j,hj,hp⟩:=zpz ws w hm;have:=h2 j hj;unfold Lib.occAt at this;rw[List.isPrefixOf_iff_prefix.2 hp]at this;cases this
  have h3:ws.contains w=false:=by simpa using this
  rw[h3];rfl
 rw[h1];unfold Lib.occAt at h2;have:=zp3 ws w hws hw i (List.isPrefixOf_iff_prefix.1 h2);have h3:ws.contains w=true:=by simpa using this
 rw[h3];exact kdt (by omega)
end W
end
section
open Go Ax
set_option maxRecDepth 4000
namespace W
def q58:List (List UInt8):=[([77,65,84,67,72]:List UInt8),([87,72,69,82,69]:List UInt8),([85,78,87,73,78,68]:List UInt8),([65,83]:List UInt8),([87,73,84,72]:List UInt8),([67,82,69,65,84,69]:List UInt8),([77,69,82,71,69]:List UInt8),([83,69,84]:List UInt8),([82,69,77,79,86,69]:List UInt8),([68,69,76,69,84,69]:List UInt8),([68,69,84,65,67,72]:List UInt8),([82,69,84,85,82,78]:List UInt8),([68,73,83,84,73,78,67,84]:List UInt8),([79,82,68,69,82]:List UInt8),([66,89]:List UInt8),([65,83,67]:List UInt8),([68,69,83,67]:List UInt8),([83,75,73,80]:List UInt8),([76,73,77,73,84]:List UInt8),([65,78,68]:List UInt8),([79,82]:List UInt8),([88,79,82]:List UInt8),([78,79,84]:List UInt8),([73,78]:List UInt8),([73,83]:List UInt8),([78,85,76,76]:List UInt8),([84,82,85,69]:List UInt8),([70,65,76,83,69]:List UInt8)]
theorem ztk:∀ x∈q58,(32:UInt8) ∉ x:=by decide
theorem ztl:([32,77,65,84,67,72,32,87,72,69,82,69,32,85,78,87,73,78,68,32,65,83,32,87,73,84,72,32,67,82,69,65,84,69,32,77,69,82,71,69,32,83,69,84,32,82,69,77,79,86,69,32,68,69,76,69,84,69,32,68,69,84,65,67,72,32,82,69,84,85,82,78,32,68,73,83,84,73,78,67,84,32,79,82,68,69,82,32,66,89,32,65,83,67,32,68,69,83,67,32,83,75,73,80,32,76,73,77,73,84,32,65,78,68,32,79,82,32,88,79,82,32,78,79,84,32,73,78,32,73,83,32,78,85,76,76,32,84,82,85,69,32,70,65,76,83,69,32]:List UInt8)=Wd q58:=by kernel_rfl
theorem zxb {b:UInt8} (h:(zac b||zfa b)=true):upB b≠32:=by
 intro hc;unfold upB at hc;split at hc
 ·rename_i hb
  have:=congrArg UInt8.toNat hc;rw[UInt8.toNat_ofNat']at this;simp at this;omega
 subst hc
 revert h
 decide
theorem zso {s:List UInt8} (h:q1n s=true):32 ∉ qmq s:=by
 intro hm;unfold qmq at hm;obtain⟨b,hb,he⟩:=List.mem_map.1 hm;refine zxb ?_ he;cases s with
 | nil=>cases hb
 | cons c s=>
  simp only[q1n,jj,List.all_eq_true]at h;rcases jg.1 hb with rfl|hb
  ·simp[h]
  exact(by simpa using h.2 b hb)
theorem zrl (s:List UInt8):(qmq s).length=s.length:=by simp[qmq]
def qdg (s:List UInt8):Bool:=q1n s&&!(q58.contains (qmq s))
theorem zds {n:Nat} {s:List UInt8} (h:s.length<n) (h2:28<n) (hn:n<=1073741824) :
  qtt n s=some (if q58.contains (qmq s)then(qmq s,true)else([],false)):=by
 unfold qtt;rw[show qxh n=some q58 from rfl,qad,za8 h hn,qad];have hl:q58.length=28:=rfl;refine Eq.trans (qc4 (B:=qnm n q58 (qmq s)) (fun k=>(k:Int)) (l:=q58) (fun w=>if w=qmq s then some (qmq s,true)else none) (rest:=some ([],false)) ?_ ?_ (by omega)) ?_
 ·intro k x nx hx
  have hk:=qbl hx;unfold qnm;rw[qay,qa5 hk,kct,qaj hx,qad,qb7 (by omega)];by_cases hw:x=qmq s
  ·subst hw
   simp
  rw[if_neg hw,kbf.2 hw];rfl
 ·intro nx
  unfold qnm;rw[qay,qar];rfl
 have:∀ l:List (List UInt8),qe4 (fun w=>if w=qmq s then some (qmq s,true)else none) l=if l.contains (qmq s)then some (qmq s,true)else none:=by
  intro l
  induction l with
  | nil=>rfl
  | cons a l ih=>
   simp only[qe4,ih];by_cases ha:a=qmq s
   ·subst ha
    simp
   rw[if_neg ha];have:(a::l).contains (qmq s)=l.contains (qmq s):=by
    rw[List.contains_cons,kbf.2 (Ne.symm ha),Bool.false_or]
   rw[this]
 rw[this];cases q58.contains (qmq s)<;>rfl
theorem qhm {n:Nat} {s:List UInt8} (h:s.length<n) (h2:28<n) (hn:n<=1073741824):qga n s=some (qdg s):=by
 unfold qga;rw[zds h h2 hn,qad];unfold qdg;cases q58.contains (qmq s)<;>simp[zdp h hn]<;>cases q1n s<;>rfl
theorem qzo (n:Nat) {a:List UInt8} (b:List UInt8) (h:a.length<4294967281):qmn n a b=some (Lib.contains a b):=q5k h
theorem zpt {P Q:Prop} [Decidable P] [Decidable Q] (hp:P) (hq:Q) {b:Bool} {o:Option Bool} {w:Bool} (ho:b=true->o=some w) (x:List UInt8) :
  chk (bif !(!b)then decide P else true) (chk (bif !(!b)then decide Q else true) (bnd (qaw (!(!b)) o) fun d=>bif(bif !b then true else !d)then some (([]:List UInt8),false)else some (x,true)))=some (if b&&w then(x,true)else([],false)):=by
 cases b with
 | false=>simp
 | true=>simp[hp,hq,ho rfl]; cases w<;>rfl
theorem zhq {n:Nat} {s c:List UInt8} (h:s.length<n) (hn:n<=1073741824) (hl:c.length=148) (hc:q1n s=true->Lib.contains c (32::(qmq s++[32]))=q58.contains (qmq s)) :
  (bnd (qro n s) fun d=>
 bnd (qpx n s) fun e=>
 chk (bif(!(!e))then decide (((([32]:List UInt8).length+d.length:Nat):Int)<=qhj)else true) (
 chk (bif(!(!e))then decide ((((([32]:List UInt8)++d).length+([32]:List UInt8).length:Nat):Int)<=qhj)else true) (
 bnd (qaw (!(!e)) (qmn n c ((([32]:List UInt8)++d)++([32]:List UInt8)))) fun f=>
 bif(bif(!e)then true else(!f))then(
 some (([]:List UInt8),false))
 else(
 some (d,true)))))=some (if qdg s||!(q1n s)then([],false)else(qmq s,true)):=by
 rw[zbn h hn,qad,q1v h,qad];have hu:=zrl s;have hM:(s.length:Int)+2<=qhj:=by unfold qhj; omega
 have h1:((([32]:List UInt8).length+(qmq s).length:Nat):Int)<=qhj:=by
  rw[show([32]:List UInt8).length=1 from rfl,hu]; generalize qhj=m at *; omega
 have h2:(((([32]:List UInt8)++(qmq s)).length+([32]:List UInt8).length:Nat):Int)<=qhj:=by
  rw[jb,show([32]:List UInt8).length=1 from rfl,hu]; generalize qhj=m at *; omega
 refine(zpt h1 h2 (w:=q58.contains (qmq s)) (fun hs=>?_) (qmq s)).trans ?_
 ·rw[qzo n _ (by omega),show([32]++qmq s++[32]:List UInt8)=32::(qmq s++[32]) by simp,hc hs]
 unfold qdg;cases q1n s<;>cases q58.contains (qmq s)<;>rfl
set_option maxRecDepth 100000 in
theorem zsj:([32,77,65,84,67,72,32,87,72,69,82,69,32,85,78,87,73,78,68,32,65,83,32,87,73,84,72,32,67,82,69,65,84,69,32,77,69,82,71,69,32,83,69,84,32,82,69,77,79,86,69,32,68,69,76,69,84,69,32,68,69,84,65,67,72,32,82,69,84,85,82,78,32,68,73,83,84,73,78,67,84,32,79,82,68,69,82,32,66,89,32,65,83,67,32,68,69,83,67,32,83,75,73,80,32,76,73,77,73,84,32,65,78,68,32,79,82,32,88,79,82,32,78,79,84,32,73,78,32,73,83,32,78,85,76,76,32,84,82,85,69,32,70,65,76,83,69,32]:List UInt8).length=148:=by kernel_rfl
set_option maxRecDepth 100000 in
theorem zd8 {n:Nat} {s:List UInt8} (h:s.length<n) (hn:n<=1073741824) :
  q0g n s=some (if qdg s||!(q1n s)then([],false)else(qmq s,true)):=
 zhq h hn zsj (fun hs=>(congrArg (fun c=>Lib.contains c (32::(qmq s++[32]))) ztl).trans (zg3 ztk (zso hs)))
theorem qha {n:Nat} {s:List UInt8} (h:s.length<n) (hn:n<=1073741824):qe3 n s=some (qdg s):=by
 unfold qe3;rw[zd8 h hn,qad];cases hs:q1n s<;>cases hp:qdg s<;>simp[q1v h,hs]<;>simp[qdg,hs]at hp
end W
end
section
open Go Ax
namespace W
theorem zxg {k:Nat} (h:k+1<=1152921504606846976):kwr .i64 (((k+1:Nat):Int) - 1)=((k:Nat):Int):=by
 rw[qw3 (by omega) (by omega)]; omega
theorem zvi (x:List UInt8):(decide (((x.length:Nat):Int)<1))=(x==[]):=by
 cases x with
 | nil=>rfl
 | cons a x=>simp; omega
theorem zth (n:Nat) (ks:List (List UInt8)) (c d:Int) (l:List Val) (g:Val->Int->Int->Option (Int×Bool)) (hn:n<=1073741824):∀ m k:Nat,k<=ks.length->ks.length - k<m->ks.length<n ->
  ∃ b,qam (qih n ks) m (k:Int)=some b/\qam (qmv n ks c l g d) m (k:Int)=bif b then qmt n l g d c ()else some (kwr .i64 (c+1),false):=by
 intro m
 induction m with
 | zero=>intro k _ h; omega
 | succ m ih=>
  intro k hk hm hl;rw[qa1,qa1];by_cases he:k=ks.length
  ·subst he
   refine⟨true,?_,?_⟩
   ·simp only[qih,qay,qar,kcf]
   simp only[qmv,qay,qar,kcf,kct]
  have hkl:k<ks.length:=by omega
  obtain⟨x,hx⟩:∃ x,ks[k]? =some x:=⟨_,jf hkl⟩;obtain⟨b,h1,h2⟩:=ih (k+1) (by omega) (by omega) hl;rw[← qb7 (by omega)]at h1 h2;simp only[qih,qmv,qay,qa5 hkl,kct,qaj hx,qad,zvi];cases hE:x==[]with
  | true=>exact⟨false,by simp,by simp⟩
  | false=>
   simp only[jp,qc3,qad,kcf];cases hB:decide (((x.length:Nat):Int)>64)with
   | true=>exact⟨false,by simp,by simp⟩
   | false=>
    cases k with
    | zero=>
     refine⟨b,?_,?_⟩
     ·simpa using h1
     simpa using h2
    | succ k=>
     have h0:decide ((((k+1:Nat):Int))>0)=true:=kdt (by omega);obtain⟨y,hy⟩:∃ y,ks[k]? =some y:=⟨_,jf (by omega)⟩;simp only[h0,jp,Bool.and_true,qc3,zxg (show k+1<=1152921504606846976 by omega),qaj hy,qad,kct,kcf,zkx];cases Op.bytesLess y x with
     | false=>exact⟨false,by simp,by simp⟩
     | true=>exact⟨b,by simpa using h1,by simpa using h2⟩
theorem qrd:∀ l:List Val,l.length<q1q l
 | []=>by simp[q1q]
 | x::l=>by have:=qrd l; simp only[q1q,ja]; omega
theorem q0c:∀ {l:List Val} {x:Val},x∈l->zax x+2<=q1q l
 | y::l,x,h=>by
  simp only[q1q];rcases jg.1 h with rfl|h
  ·have:=qrd l; omega
  have:=q0c h; omega
theorem zti (n:Nat) (l:List Val) (g g':Val->Int->Int->Option (Int×Bool)) (d:Int) (hn:n<=1073741824)
  (hg:∀ v∈l,∀ d c,∃ r,g v d c=some r/\g' v d c=some r):∀ m k:Nat,∀ c:Int,k<=l.length->l.length - k<m->l.length<n ->
  ∃ r,qam (qgt n l g d) m (c,true,(k:Int))=some r/\qam (qmu n l g' d) m (c,(k:Int))=some r:=by
 intro m
 induction m with
 | zero=>intro k _ _ h; omega
 | succ m ih=>
  intro k c hk hm hl;rw[qa1,qa1];by_cases he:k=l.length
  ·subst he
   refine⟨(c,true),?_,?_⟩
   ·simp only[qgt,qfu,qar,kcf]
   simp only[qmu,qfu,qar,kcf]
  have hkl:k<l.length:=by omega
  obtain⟨x,hx⟩:∃ x,l[k]? =some x:=⟨_,jf hkl⟩;obtain⟨⟨c2,b⟩,h1,h2⟩:=hg x (qbf hx) (kwr .i64 (d - 1)) c;obtain⟨x1,x2,x3,x4,x5,x6⟩:=x;simp only[qgt,qmu,qfu,qa5 hkl,kct,qaj hx,qad,h1,h2];rw[qb7 (by omega)];cases b with
  | true=>
   obtain⟨r,h3,h4⟩:=ih (k+1) c2 (by omega) (by omega) hl;exact⟨r,h3,by simpa using h4⟩
  | false=>
   refine⟨(c2,false),?_,by simp⟩;obtain⟨m,rfl⟩:∃ m',m=m'+1:=⟨m - 1,by omega⟩;rw[qa1];simp only[qgt,Bool.cond_self,kcf]
theorem zun (n:Nat) {a:Int} (h7:a<=7) (f:Bool) (i:Int) (j:List UInt8) (e:List Val) (o:List (List UInt8)):qsb n ⟨a,f,i,j,e,o⟩=qqa n ⟨a,f,i,j,e,o⟩:=by
 simp only[qqa,qsb];have e6:decide (a≥6)=(a==6||a==7):=by
  rw[Bool.eq_iff_iff]; simp; omega
 have e5:decide ((((Val.rows e).length:Nat):Int)>0)=!((((Val.rows e).length:Nat):Int)==0):=by
  generalize (Val.rows e).length=m;cases m with
  | zero=>rfl
  | succ m=>rw[kdt (by omega),kbf.2 (by omega)]; rfl
 have a1:(bif(a != 1)then f else false)=!(bif(a==1)then true else !f):=by
  rw[bne]; cases(a==1)<;>cases f<;>rfl
 have a2:(bif(bif(bif(a != 2)then(a != 6)else false)then(a != 7)else false)then(i != 0)else false)=!(bif(bif(a==2)then true else decide (a≥6))then true else(i==0)):=by
  rw[e6,bne,bne,bne,bne]; cases(a==2)<;>cases(a==6)<;>cases(a==7)<;>cases(i==0)<;>rfl
 have a3:(bif(a != 3)then(!(j==([]:List UInt8)))else false)=!(bif(a==3)then true else(j==([]:List UInt8))):=by
  rw[bne]; cases(a==3)<;>cases(j==([]:List UInt8))<;>rfl
 have a4:(bif(bif(a != 4)then(a != 5)else false)then decide ((((Val.rows e).length:Nat):Int)>0)else false)=!(bif(bif(a==4)then true else(a==5))then true else((((Val.rows e).length:Nat):Int)==0)):=by
  rw[e5,bne,bne]; cases(a==4)<;>cases(a==5)<;>cases((((Val.rows e).length:Nat):Int)==0)<;>rfl
 rw[a1,a2,a3,a4];generalize (bif(a==1)then true else !f)=A;generalize (bif(bif(a==2)then true else decide (a≥6))then true else(i==0))=B;generalize (bif(a==3)then true else(j==([]:List UInt8)))=C;generalize (bif(bif(a==4)then true else(a==5))then true else((((Val.rows e).length:Nat):Int)==0))=D;cases A<;>cases B<;>cases C<;>cases D<;>rfl
theorem qz1:∀ n:Nat,n<=1073741824->∀ v d c,zax v<n->∃ r,qjk n v d c=some r/\qke n v d c=some r:=by
 intro n
 induction n with
 | zero=>intro _ _ _ _ h; omega
 | succ n ih=>
  intro hn v d c hv;obtain⟨a,j,i,o,e,f⟩:=v;have hb:q1q e<n/\f.length<n:=by
   have:=qee f;simp only[qwe]at this;simp only[zax]at hv;have h0:=qrd e;omega
  have hl:=qrd e;have hg:∀ v∈e,∀ d c,∃ r,qjk n v d c=some r/\qke n v d c=some r:=fun v hm d c=>ih (by omega) v d c (by have:=q0c hm; omega)
  have hloop:∀ c,∃ r,qam (qgt n e (qjk n) d) n (c,true,(0:Int))=some r/\qam (qmu n e (qke n) d) n (c,(0:Int))=some r:=fun c=>
   zti n e _ _ d (by omega) hg n 0 c (by omega) (by omega) (by omega)
  obtain⟨kb,hk1,hk2⟩:=zth n f c d e (qke n) (by omega) n 0 (by omega) (by omega) hb.2;obtain⟨r,hr1,hr2⟩:=hloop (kwr .i64 (c+1));simp only[qjk,qke,qtd,qwg,qvb];generalize hC:kwr .i64 (c+1)=C at *;have hvw:∃ G:Bool,(bif(bif(bif(decide (d<1))then true else(decide (C>4096)))then true else(decide (a<0)))then true else(decide (a>7)))=G /\
    (bif(bif(bif(decide (C>4096))then true else(decide (d<1)))then true else(decide (a<0)))then true else(decide (a>7)))=G/\(G=false->a<=7):=by
   refine⟨_,rfl,?_,?_⟩
   ·cases decide (C>4096)<;>cases decide (d<1)<;>rfl
   cases decide (C>4096)<;>cases decide (d<1)<;>cases decide (a<0)<;>simp
  obtain⟨G,hG1,hG2,hG3⟩:=hvw;rw[hG1,hG2];cases G with
  | true=>exact⟨(C,false),by simp,by simp⟩
  | false=>
   have h7:=hG3 rfl;rw[zun n h7];obtain⟨B,hB⟩:∃ B,qqa n ⟨a,j,i,o,e,f⟩=some B:=⟨_,rfl⟩;rw[hB];have e6:decide (a≥6)=(bif(a==6)then true else(a==7)):=by
    rw[Bool.eq_iff_iff]; simp; omega
   rw[e6];cases B with
   | false=>exact⟨(C,false),by simp,by simp⟩
   | true=>
    simp only[jp,jq,qc3,qad,kcf,kct];cases hT:(bif(bif(a==6)then true else(a==7))then decide (i<1)else false)with
    | true=>exact⟨(C,false),by simp,by simp⟩
    | false=>
     cases h5:(a==5)with
     | false=>
      refine⟨r,?_,?_⟩
      ·simpa using hr1
      simpa[qmt,hC]using hr2
     | true=>
      cases hN:((((qak f).length:Nat):Int) != (((Val.rows e).length:Nat):Int))with
      | true=>exact⟨(C,false),by simp,by simp⟩
      | false=>
       simp only[jp,Bool.and_true,qc3,kcf,kct];have hk1':qam (qih n f) n (0:Int)=some kb:=hk1;have hk2':qam (qmv n f c e (qke n) d) n (0:Int)=_:=hk2;rw[hk1',hk2',qad];cases kb with
       | true=>
        refine⟨r,?_,?_⟩
        ·simpa using hr1
        simpa[qmt,hC]using hr2
       | false=>exact⟨(C,false),by simp,by simp⟩
theorem zr4 {n:Nat} (hn:n<=1073741824) {v:Val} (hv:zax v<n):∃ b:Bool,qq0 n v=some (bif b then 0 else 20)/\qt3 n v=some b:=by
 obtain⟨x1,x2,x3,x4,x5,x6⟩:=v;obtain⟨⟨c,b⟩,h1,h2⟩:=qz1 n hn _ 32 0 hv;refine⟨b,?_,?_⟩
 ·simp only[qq0,h1,qad]
  cases b<;>rfl
 ·simp only[qt3,h2,qad]
end W
end
section
open Go Ax
namespace W
theorem q92 {A:Type} {B:(Int->Option Bool)->Int->Option Bool} {l l':List A} (hlen:l.length=l'.length)
  (step:∀ (k:Nat) x y nx,l[k]? =some x->l'[k]? =some y->∃ b,(b=true↔x=y)/\B nx (k:Int)=bif b then nx ((k+1:Nat):Int)else some false)
  (hend:∀ nx,B nx (l.length:Int)=some true) {n:Nat} (hn:l.length<n):∃ b,qam B n 0=some b/\(b=true↔l=l'):=by
 have main:∀ m k:Nat,k<=l.length->l.length - k<m->∃ b,qam B m (k:Int)=some b/\(b=true↔l.drop k=l'.drop k):=by
  intro m
  induction m with
  | zero=>intro k _ h; omega
  | succ m ih=>
   intro k hk hm;rw[qa1];by_cases he:k=l.length
   ·subst he
    exact⟨true,hend _,by rw[List.drop_length,hlen,List.drop_length]; simp⟩
   have h1:k<l.length:=by omega
   have h2:k<l'.length:=by omega
   obtain⟨b,hb,hs⟩:=step k _ _ (qam B m) (jf h1) (jf h2);rw[hs,jo h1,jo h2,List.cons.injEq,← hb];cases b with
   | false=>exact⟨false,rfl,by simp⟩
   | true=>
    obtain⟨b,h3,h4⟩:=ih (k+1) (by omega) (by omega);exact⟨b,h3,by simpa using h4⟩
 obtain⟨b,h1,h2⟩:=main n 0 (by omega) (by omega);exact⟨b,h1,by simpa using h2⟩
theorem qxy {a b:Nat}:((((a:Nat):Int) != ((b:Nat):Int))=true)↔a≠b:=by simp[Int.natCast_inj]
theorem q46 {n:Nat} {x y:List (List UInt8)} (h:x.length<n) (hn:n<=1073741824):∃ b,qea n x y=some b/\(b=true↔x=y):=by
 unfold qea;by_cases hl:x.length=y.length
 ·have:((((qak x).length:Nat):Int) != (((qak y).length:Nat):Int))=false:=by simp[hl]
  rw[this,kcf];refine q92 hl (fun k a b nx ha hb=>⟨a==b,beq_iff_eq,?_⟩) (fun nx=>by simp only[qdr,qay,qar,kcf]) h
  have hk:=qbl ha;simp only[qdr,qay,qa5 hk,kct,qaj ha,qaj hb,qad];rw[qb7 (by omega)];cases a==b<;>rfl
 ·have:((((qak x).length:Nat):Int) != (((qak y).length:Nat):Int))=true:=by rw[qay,qay]; exact qxy.2 hl
  rw[this];exact⟨false,rfl,by simp; intro e; exact hl (congrArg _ e)⟩
theorem qgy {n:Nat} {x y:List (List UInt8)} (h:x.length<n) (hn:n<=1073741824):∃ b,qey n x y=some b/\(b=true↔x=y):=by
 unfold qey;by_cases hl:x.length=y.length
 ·have:((((qak x).length:Nat):Int) != (((qak y).length:Nat):Int))=false:=by simp[hl]
  rw[this,kcf];refine q92 hl (fun k a b nx ha hb=>⟨a==b,beq_iff_eq,?_⟩) (fun nx=>by simp only[qiw,qay,qar,kcf]) h
  have hk:=qbl ha;simp only[qiw,qay,qa5 hk,kct,qaj ha,qaj hb,qad];rw[qb7 (by omega)]
  first|(cases a==b<;>rfl)|(cases h:a==b<;>simp[h,bne])
 ·have:((((qak x).length:Nat):Int) != (((qak y).length:Nat):Int))=true:=by rw[qay,qay]; exact qxy.2 hl
  rw[this];exact⟨false,rfl,by simp; intro e; exact hl (congrArg _ e)⟩
theorem zig {x1 x7:Int} {x2 x8:Bool} {x3 x9:Int} {x4 x10:List UInt8} {x6 x12:List (List UInt8)} {x5 x11:List Val} {N L:Option Bool} {a b:Bool} (hN:N=some a) (ha:a=true↔x6=x12) (hL:L=some b) (hb:b=true↔x5=x11) :
  ∃ r,(bnd (qaw (bif(bif(bif(x1==x7)then(x2==x8)else false)then(x3==x9)else false)then(x4==x10)else false) N) fun x13=>
   bnd (qaw (bif(bif(bif(bif(x1==x7)then(x2==x8)else false)then(x3==x9)else false)then(x4==x10)else false)then x13 else false) L) fun x14=>
   some (bif(bif(bif(bif(bif(x1==x7)then(x2==x8)else false)then(x3==x9)else false)then(x4==x10)else false)then x13 else false)then x14 else false))=some r /\
  (r=true↔Val.mk x1 x2 x3 x4 x5 x6=Val.mk x7 x8 x9 x10 x11 x12):=by
 subst hN hL;have e1:(x1==x7)=true↔x1=x7:=beq_iff_eq;have e2:(x2==x8)=true↔x2=x8:=beq_iff_eq;have e3:(x3==x9)=true↔x3=x9:=beq_iff_eq;have e4:(x4==x10)=true↔x4=x10:=beq_iff_eq;rw[Val.mk.injEq,← e1,← e2,← e3,← e4,← hb,← ha];cases(x1==x7)<;>cases(x2==x8)<;>cases(x3==x9)<;>cases(x4==x10)<;>cases a<;>cases b<;>exact⟨_,rfl,by simp⟩
theorem zfw:∀ n:Nat,n<=1073741824->(∀ v w,zax v<n->∃ b,qkc n v w=some b/\(b=true↔v=w))/\(∀ l l',q1q l<n->∃ b,qjp n l l'=some b/\(b=true↔l=l')):=by
 intro n
 induction n with
 | zero=>intro _; exact⟨fun _ _ h=>by omega,fun _ _ h=>by omega⟩
 | succ n ih=>
  intro hn;obtain⟨ihv,ihl⟩:=ih (by omega);refine⟨fun v w hv=>?_,fun l l' hl=>?_⟩
  ·obtain⟨i,m,o,p,c,d⟩:=v
   obtain⟨q,s,t,j,f,g⟩:=w;have hb:q1q c<n/\d.length<n:=by
    have:=qee d;simp only[qwe]at this;simp only[zax]at hv;have h0:=qrd c;omega
   obtain⟨a,ha1,ha2⟩:=qgy (y:=g) hb.2 (by omega);obtain⟨b,hb1,hb2⟩:=ihl c f hb.1;simp only[qkc,qw4];exact zig ha1 ha2 hb1 hb2
  have hlen:=qrd l;simp only[qjp,qqi];by_cases hll:l.length=l'.length
  ·have:((((Val.rows l).length:Nat):Int) != (((Val.rows l').length:Nat):Int))=false:=by simp[hll]
   rw[this,kcf];refine q92 hll (fun k a b nx ha hb=>?_) (fun nx=>by simp only[qkd,qfu,qar,kcf]) (by omega)
   have hk:=qbl ha;obtain⟨r,hr,hr2⟩:=ihv a b (by have:=q0c (qbf ha); omega);refine⟨r,hr2,?_⟩;obtain⟨i,m,o,p,c,d⟩:=a;obtain⟨q,s,t,j,f,g⟩:=b;simp only[qkd,qfu,qa5 hk,kct,qaj ha,qaj hb,qad,hr];rw[qb7 (by omega)];cases r<;>rfl
  ·have:((((Val.rows l).length:Nat):Int) != (((Val.rows l').length:Nat):Int))=true:=by rw[qfu,qfu]; exact qxy.2 hll
   rw[this];exact⟨false,rfl,by simp; intro e; exact hll (congrArg _ e)⟩
theorem q57:∀ n:Nat,n<=1073741824->(∀ v w,zax v<n->∃ b,qhw n v w=some b/\(b=true↔v=w))/\(∀ l l',q1q l<n->∃ b,qan n l l'=some b/\(b=true↔l=l')):=by
 intro n
 induction n with
 | zero=>intro _; exact⟨fun _ _ h=>by omega,fun _ _ h=>by omega⟩
 | succ n ih=>
  intro hn;obtain⟨ihv,ihl⟩:=ih (by omega);refine⟨fun v w hv=>?_,fun l l' hl=>?_⟩
  ·obtain⟨i,m,o,p,c,d⟩:=v
   obtain⟨q,s,t,j,f,g⟩:=w;have hb:q1q c<n/\d.length<n:=by
    have:=qee d;simp only[qwe]at this;simp only[zax]at hv;have h0:=qrd c;omega
   obtain⟨a,ha1,ha2⟩:=q46 (y:=g) hb.2 (by omega);obtain⟨b,hb1,hb2⟩:=ihl c f hb.1;simp only[qhw,qtc];exact zig ha1 ha2 hb1 hb2
  have hlen:=qrd l;simp only[qan,qa3];by_cases hll:l.length=l'.length
  ·have:((((Val.rows l).length:Nat):Int) != (((Val.rows l').length:Nat):Int))=false:=by simp[hll]
   rw[this,kcf];refine q92 hll (fun k a b nx ha hb=>?_) (fun nx=>by simp only[qav,qfu,qar,kcf]) (by omega)
   have hk:=qbl ha;obtain⟨r,hr,hr2⟩:=ihv a b (by have:=q0c (qbf ha); omega);refine⟨r,hr2,?_⟩;obtain⟨i,m,o,p,c,d⟩:=a;obtain⟨q,s,t,j,f,g⟩:=b;simp only[qav,qfu,qa5 hk,kct,qaj ha,qaj hb,qad,hr];rw[qb7 (by omega)];cases r<;>rfl
  ·have:((((Val.rows l).length:Nat):Int) != (((Val.rows l').length:Nat):Int))=true:=by rw[qfu,qfu]; exact qxy.2 hll
   rw[this];exact⟨false,rfl,by simp; intro e; exact hll (congrArg _ e)⟩
end W
end
section
open Go Ax
namespace W
def qu2 (s:List UInt8):Bool:=bif(!(s==([]:List UInt8)))then decide (((s.length:Nat):Int)<=64)else false
theorem qcn (n:Nat) (s:List UInt8):qlc n s=some (qu2 s):=rfl
theorem qc6 (n:Nat) (s:List UInt8):qkg n s=some (qu2 s):=by
 unfold qkg qu2;cases s with
 | nil=>rfl
 | cons a s=>rw[kdt (by simp only[ja]; omega)]; rfl
def zrp (a:List UInt8):Bool:=(bif(bif(bif(bif(a==([99,111,117,110,116]:List UInt8))then true else(a==([115,117,109]:List UInt8)))then true else(a==([109,105,110]:List UInt8)))then true else(a==([109,97,120]:List UInt8)))then true else(a==([99,111,108,108,101,99,116]:List UInt8)))
theorem qb8 (n:Nat) (s:List UInt8):qkf n s=some (zrp s):=rfl
theorem qbp (n:Nat) (s:List UInt8):qh4 n s=some (zrp s):=by
 unfold qh4 qd9 zrp;generalize (s==([99,111,117,110,116]:List UInt8))=a;generalize (s==([115,117,109]:List UInt8))=b;generalize (s==([109,105,110]:List UInt8))=c;generalize (s==([109,97,120]:List UInt8))=d;generalize (s==([99,111,108,108,101,99,116]:List UInt8))=e;cases a<;>cases b<;>cases c<;>cases d<;>cases e<;>rfl
def zt8 (s:List UInt8):Int:=(qoe 0 s).getD 0
theorem qcy (n:Nat) (s:List UInt8):qoe n s=some (zt8 s):=rfl
theorem qdh (n:Nat) (s:List UInt8):qt8 n s=some (zt8 s):=by
 by_cases h1:s=[79,82]; · subst h1; rfl
 by_cases h2:s=[88,79,82]; · subst h2; rfl
 by_cases h3:s=[65,78,68]; · subst h3; rfl
 by_cases h4:s=[61]; · subst h4; rfl
 by_cases h5:s=[60,62]; · subst h5; rfl
 by_cases h6:s=[60]; · subst h6; rfl
 by_cases h7:s=[60,61]; · subst h7; rfl
 by_cases h8:s=[62]; · subst h8; rfl
 by_cases h9:s=[62,61]; · subst h9; rfl
 by_cases h10:s=[73,78]; · subst h10; rfl
 by_cases h11:s=[43]; · subst h11; rfl
 by_cases h12:s=[45]; · subst h12; rfl
 by_cases h13:s=[42]; · subst h13; rfl
 by_cases h14:s=[47]; · subst h14; rfl
 by_cases h15:s=[37]; · subst h15; rfl
 simp only[zt8,qoe,jW,zp0,qt8,qfj,qou,qlx,kbf.2 h1,kbf.2 h2,kbf.2 h3,kbf.2 h4,kbf.2 h5,kbf.2 h6,kbf.2 h7,kbf.2 h8,kbf.2 h9,kbf.2 h10,kbf.2 h11,kbf.2 h12,kbf.2 h13,kbf.2 h14,kbf.2 h15,kcf];rfl
theorem zvh (n:Nat) {e:Int} (h:e<0) (f:Bool) (g:Int) (i:List UInt8) (j:List Val) (k:List (List UInt8)) (d c:Int):qke (n+1) ⟨e,f,g,i,j,k⟩ d c=some (kwr .i64 (c+1),false):=by
 simp only[qke,qwg,kdt h];have:∀ a b d:Bool,(bif(bif(bif a then true else b)then true else true)then true else d)=true:=by decide
 rw[this];rfl
def zvc (a b:Int):Bool:=bif(bif(decide (a<=1))then true else(bif(a==2)then(decide (b≥0))else false))then true else(a==3)
theorem zwr {n:Nat} (hn:n<=1073741824) {a:Int} {f:Bool} {e:Int} {g:List UInt8} {i:List Val} {j:List (List UInt8)} (hv:zax ⟨a,f,e,g,i,j⟩<n) :
  ∃ b:Bool,qm9 n ⟨a,f,e,g,i,j⟩=some (b&&zvc a e)/\qt3 n ⟨a,f,e,g,i,j⟩=some b/\(b=true->0<=a):=by
 obtain⟨b,h1,h2⟩:=zr4 hn hv;refine⟨b,?_,h2,?_⟩
 ·simp only[qm9,h1,qad]
  unfold zvc;cases b<;>rfl
 ·intro hb
  apply Decidable.byContradiction;intro hx;obtain⟨n,rfl⟩:∃ m,n=m+1:=⟨n - 1,by omega⟩;simp only[qt3,zvh n (show a<0 by omega),qad,Option.some.injEq]at h2;rw[hb]at h2;cases h2
theorem zvd {x1:Int} (h:0<=x1) (x3:Int):(bif(bif(bif(x1==(0:Int))then true else(x1==(1:Int)))then true else(bif(x1==(2:Int))then(decide (x3≥(0:Int)))else false))then true else(x1==(3:Int)))=zvc x1 x3:=by
 unfold zvc;have:decide (x1<=1)=(bif(x1==(0:Int))then true else(x1==(1:Int))):=by
  rw[Bool.eq_iff_iff]; simp; omega
 rw[this]
theorem zu1 (n:Nat) (name:List UInt8) (args:List qaa) (ks:List (List UInt8)) (hn:n<=1073741824) (h:ks.length<n) :
  qam (qjs n ks name args) n (0:Int)=some (ks.all qu2&&(name==[]&&args.length==ks.length)):=by
 have e:=qc4 (B:=qjs n ks name args) (fun k=>((k:Nat):Int)) (l:=ks) (fun s=>if qu2 s then none else some false) (rest:=some (name==[]&&args.length==ks.length))
  (fun k x nx hx=>by
   have hk:=qbl hx;simp only[qjs,qay,qa5 hk,kct,qaj hx,qad,qc6];rw[qb7 (by omega)];cases qu2 x<;>rfl)
  (fun nx=>by
   simp only[qjs,qay,qas,qar,kcf];have:(((args.length:Nat):Int)==((ks.length:Nat):Int))=(args.length==ks.length):=by
    rw[Bool.eq_iff_iff]; simp[Int.natCast_inj]
   rw[this];cases name==[]<;>rfl) h
 refine Eq.trans e ?_;have:∀ l:List (List UInt8),∀ r:Bool,orE (qe4 (fun s=>if qu2 s then none else some false) l) (some r)=some (l.all qu2&&r):=by
  intro l r
  induction l with
  | nil=>rfl
  | cons a l ih=>
   simp only[qe4,jw];cases qu2 a with
   | true=>simpa using ih
   | false=>rfl
 exact this ks _
end W
end
section
open Go Ax
namespace W
def arS (k:Int) (L:Int):Bool:=bif decide (k≥0)then L==k else true
theorem zkk {n:Nat} (hn:n<=1073741824) (h28:28<n) {op:Int} {name:List UInt8} {a1:Int} {a2:Bool} {a3:Int} {a4:List UInt8} {a5:List Val} {a6:List (List UInt8)} {names:List (List UInt8)} {args:List qaa}
  (hv:zax ⟨a1,a2,a3,a4,a5,a6⟩<n) (hname:name.length<n) (hnames:names.length<n) :
  ∃ k ok b,qci n ⟨op,name,⟨a1,a2,a3,a4,a5,a6⟩,names,args⟩=some (k,ok)/\qdp n ⟨op,name,⟨a1,a2,a3,a4,a5,a6⟩,names,args⟩=some b /\
   b=(ok&&arS k (args.length:Int)&&(bif op==6 then names.all qu2 else true)):=by
 have hp1:=qha (s:=name) hname hn;have hp2:=qhm (s:=name) hname h28 hn;by_cases h1:op=1
 ·subst h1
  obtain⟨m,hm1,hm2,hm3⟩:=zwr hn hv;simp only[qci,qdp,qas,hm1,hm2];cases hnm:name==[]with
  | false=>exact⟨0,false,false,rfl,rfl,rfl⟩
  | true=>
   refine⟨0,m&&zvc a1 a3,(args.length:Int)==0&&(m&&zvc a1 a3),rfl,?_,?_⟩
   ·cases hL:((args.length:Nat):Int)==0 with
    | false=>rfl
    | true=>
     cases m with
     | false=>rfl
     | true=>
      have:=zvd (hm3 rfl) a3;simp only[kbs,kct,qc3,qad,this,Bool.true_and]
   show _=(m&&zvc a1 a3&&((args.length:Int)==0)&&true);rw[Bool.and_true,Bool.and_comm]
 by_cases h2:op=2
 ·subst h2
  simp only[Int.reduceBEq,kct,kcf,qci,qbw,qbm,qdp,qcm,qb6,qas,qay,qcn,qc6,qcy,qdh,qbp,qb8,hp1,hp2,qad];refine⟨0,qdg name,_,rfl,?_,rfl⟩;show _=some (qdg name&&(((args.length:Nat):Int)==0)&&true);cases((args.length:Nat):Int)==0<;>cases qdg name<;>rfl
 by_cases h3:op=3
 ·subst h3
  simp only[Int.reduceBEq,kct,kcf,qci,qbw,qbm,qdp,qcm,qb6,qas,qay,qcn,qc6,qcy,qdh,qbp,qb8,hp1,hp2,qad];refine⟨0,qdg name,_,rfl,?_,rfl⟩;show _=some (qdg name&&(((args.length:Nat):Int)==0)&&true);cases((args.length:Nat):Int)==0<;>cases qdg name<;>rfl
 by_cases h4:op=4
 ·subst h4
  simp only[Int.reduceBEq,kct,kcf,qci,qbw,qbm,qdp,qcm,qb6,qas,qay,qcn,qc6,qcy,qdh,qbp,qb8,hp1,hp2,qad];refine⟨1,qu2 name,_,rfl,?_,rfl⟩;show _=some (qu2 name&&(((args.length:Nat):Int)==1)&&true);cases((args.length:Nat):Int)==1<;>cases qu2 name<;>rfl
 by_cases h5:op=5
 ·subst h5
  simp only[Int.reduceBEq,kct,kcf,qci,qbw,qbm,qdp,qcm,qb6,qas,qay,qcn,qc6,qcy,qdh,qbp,qb8,hp1,hp2,qad];refine⟨-1,name==[],_,rfl,?_,rfl⟩;show _=some ((name==[])&&true&&true);cases name==[]<;>rfl
 by_cases h6:op=6
 ·subst h6
  simp only[Int.reduceBEq,kct,kcf,qci,qbw,qbm,qdp,qcm,qb6,qas,qay,qcn,qc6,qcy,qdh,qbp,qb8,hp1,hp2,qad];refine⟨(names.length:Int),name==[],_,rfl,zu1 n name args names hn hnames,?_⟩;have e1:arS (names.length:Int) (args.length:Int)=(args.length==names.length):=by
   unfold arS;rw[kdt (by omega),kct,Bool.eq_iff_iff]; simp[Int.natCast_inj]
  rw[e1];cases names.all qu2<;>cases name==[]<;>cases args.length==names.length<;>rfl
 by_cases h7:op=7
 ·subst h7
  simp only[Int.reduceBEq,kct,kcf,qci,qbw,qbm,qdp,qcm,qb6,qas,qay,qcn,qc6,qcy,qdh,qbp,qb8,hp1,hp2,qad];refine⟨2,name==[],_,rfl,?_,rfl⟩;show _=some ((name==[])&&(((args.length:Nat):Int)==2)&&true);cases((args.length:Nat):Int)==2<;>cases name==[]<;>rfl
 by_cases h8:op=8
 ·subst h8
  simp only[Int.reduceBEq,kct,kcf,qci,qbw,qbm,qdp,qcm,qb6,qas,qay,qcn,qc6,qcy,qdh,qbp,qb8,hp1,hp2,qad];refine⟨1,name==[],_,rfl,?_,rfl⟩;show _=some ((name==[])&&(((args.length:Nat):Int)==1)&&true);cases((args.length:Nat):Int)==1<;>cases name==[]<;>rfl
 by_cases h9:op=9
 ·subst h9
  simp only[Int.reduceBEq,kct,kcf,qci,qbw,qbm,qdp,qcm,qb6,qas,qay,qcn,qc6,qcy,qdh,qbp,qb8,hp1,hp2,qad];refine⟨1,name==[],_,rfl,?_,rfl⟩;show _=some ((name==[])&&(((args.length:Nat):Int)==1)&&true);cases((args.length:Nat):Int)==1<;>cases name==[]<;>rfl
 by_cases h11:op=11
 ·subst h11
  simp only[Int.reduceBEq,kct,kcf,qci,qbw,qbm,qdp,qcm,qb6,qas,qay,qcn,qc6,qcy,qdh,qbp,qb8,hp1,hp2,qad];refine⟨1,name==[],_,rfl,?_,rfl⟩;show _=some ((name==[])&&(((args.length:Nat):Int)==1)&&true);cases((args.length:Nat):Int)==1<;>cases name==[]<;>rfl
 by_cases h12:op=12
 ·subst h12
  simp only[Int.reduceBEq,kct,kcf,qci,qbw,qbm,qdp,qcm,qb6,qas,qay,qcn,qc6,qcy,qdh,qbp,qb8,hp1,hp2,qad];refine⟨1,name==[],_,rfl,?_,rfl⟩;show _=some ((name==[])&&(((args.length:Nat):Int)==1)&&true);cases((args.length:Nat):Int)==1<;>cases name==[]<;>rfl
 by_cases h10:op=10
 ·subst h10
  simp only[Int.reduceBEq,kct,kcf,qci,qbw,qbm,qdp,qcm,qb6,qas,qay,qcn,qc6,qcy,qdh,qbp,qb8,hp1,hp2,qad];refine⟨2,decide (zt8 name>0),_,rfl,?_,rfl⟩;show _=some (decide (zt8 name>0)&&(((args.length:Nat):Int)==2)&&true);cases((args.length:Nat):Int)==2 with
  | false=>cases decide (zt8 name>0)<;>rfl
  | true=>
   show some (decide (zt8 name>0))=_;rw[Bool.and_true,Bool.and_true]
 by_cases h13:op=13
 ·subst h13
  simp only[Int.reduceBEq,kct,kcf,qci,qbw,qbm,qdp,qcm,qb6,qas,qay,qcn,qc6,qcy,qdh,qbp,qb8,hp1,hp2,qad];refine⟨-1,qdg name&&!(zrp name),qdg name&&!(zrp name),?_,?_,?_⟩
  ·cases qdg name<;>rfl
  ·cases qdg name<;>rfl
  show _=((qdg name&&!(zrp name))&&true&&true);cases qdg name&&!(zrp name)<;>rfl
 by_cases h14:op=14
 ·subst h14
  simp only[Int.reduceBEq,kct,kcf,qci,qbw,qbm,qdp,qcm,qb6,qas,qay,qcn,qc6,qcy,qdh,qbp,qb8,hp1,hp2,qad];cases hL:((args.length:Nat):Int)==0 with
  | true=>
   refine⟨0,name==[99,111,117,110,116],name==[99,111,117,110,116],rfl,?_,?_⟩
   ·have:(((args.length:Nat):Int)==1)=false:=by
     have:=beq_iff_eq.1 hL;rw[this]; rfl
    rw[this];cases name==[99,111,117,110,116]<;>rfl
   ·show _=((name==[99,111,117,110,116])&&(((args.length:Nat):Int)==0)&&true)
    rw[hL];cases name==[99,111,117,110,116]<;>rfl
  | false=>
   refine⟨1,zrp name,_,rfl,?_,rfl⟩;show _=some (zrp name&&(((args.length:Nat):Int)==1)&&true);cases((args.length:Nat):Int)==1<;>cases zrp name<;>rfl
 by_cases h15:op=15
 ·subst h15
  simp only[Int.reduceBEq,kct,kcf,qci,qbw,qbm,qdp,qcm,qb6,qas,qay,qcn,qc6,qcy,qdh,qbp,qb8,hp1,hp2,qad];have e15:∀ X:Option qaa,(((args.length:Nat):Int)==1)=true->∃ x,idx args 0=some x:=by
   intro _ h;cases args with
   | nil=>cases h
   | cons x l=>exact⟨x,rfl⟩
  cases hL:((args.length:Nat):Int)==1 with
  | false=>
   refine⟨1,false,false,?_,?_,?_⟩
   ·cases qu2 name<;>rfl
   ·rfl
   rfl
  | true=>
   obtain⟨x,hx⟩:=e15 none hL;obtain⟨a,x2,⟨x3,x4,x5,x6,x7,x8⟩,x9,x10⟩:=x;rw[hx];refine⟨1,qu2 name&&(a==2),_,?_,?_,rfl⟩
   ·cases qu2 name<;>rfl
   show _=some (qu2 name&&(a==2)&&(((args.length:Nat):Int)==1)&&true);rw[hL];cases qu2 name with
   | false=>rfl
   | true=>
    show some (a==2)=_;rw[Bool.and_true,Bool.and_true,Bool.true_and]
 simp only[kbf.2 h1,kbf.2 h2,kbf.2 h3,kbf.2 h4,kbf.2 h5,kbf.2 h6,kbf.2 h7,kbf.2 h8,kbf.2 h9,kbf.2 h10,kbf.2 h11,kbf.2 h12,kbf.2 h13,kbf.2 h14,kbf.2 h15,kcf,qci,qbw,qbm,qdp,qcm,qb6,qas,qay,qcn,qc6,qcy,qdh,qbp,qb8,hp1,hp2,qad];exact⟨0,false,false,rfl,rfl,rfl⟩
end W
end
section
open Go Ax
namespace W
theorem zwh (k L:Int):(bif decide (k≥0)then L != k else false)=!(arS k L):=by
 unfold arS;cases decide (k≥0)with
 | false=>rfl
 | true=>rfl
theorem zmv {k L:Int} {D ok X S q nm A r:Bool} {op1:Bool} (hA:nm=false->A=true) :
  (bnd (some (k,ok)) fun⟨a,c⟩=>
   bnd (qaw ((!(bif(bif(!c)then true else D)then true else(bif decide (a≥0)then L != a else false)))&&X) (some S)) fun e=>
   bif(bif(bif(bif(bif(!c)then true else D)then true else(bif decide (a≥0)then L != a else false))then true else(bif X then(!e)else false))then true else(bif !q then nm else false))then some false else some (A&&r))
   = some (!D&&(ok&&arS k L&&(bif q then A else true))&&(!X||S)&&!(bif !q then nm else false)&&r) /\
  (bnd (qaw (!D) (some (ok&&arS k L&&(bif q then A else true)))) fun a=>
   bnd (qaw ((!(bif D then true else(!a)))&&X) (some S)) fun c=>
   bif(bif(bif(bif D then true else(!a))then true else(bif X then(!c)else false))then true else(bif !q then nm else false))then some false else some r)
   = some (!D&&(ok&&arS k L&&(bif q then A else true))&&(!X||S)&&!(bif !q then nm else false)&&r):=by
 simp only[qad,zwh];generalize arS k L=ar;cases nm with
 | false=>
  have:=hA rfl;subst this;cases D<;>cases ok<;>cases X<;>cases S<;>cases q<;>cases ar<;>cases r<;>exact⟨rfl,rfl⟩
 | true=>cases D<;>cases ok<;>cases X<;>cases S<;>cases q<;>cases A<;>cases ar<;>cases r<;>exact⟨rfl,rfl⟩
def q3x:Val:=⟨0,false,0,[],[],[]⟩
theorem zl3 (n:Nat) (l:List qaa) (g g':qaa->Int->Option Bool) (d:Int) (hn:n<=1073741824)
  (hg:∀ x∈l,∃ b,g x (kwr .i64 (d - 1))=some b/\g' x (kwr .i64 (d - 1))=some b/\(b=true->WfE x)):∀ m k:Nat,k<=l.length->l.length - k<m->l.length<n ->
  ∃ r,qam (qhc n l g d) m (k:Int)=some r/\qam (qk5 n l g' d) m (k:Int)=some r/\(r=true->∀ x∈l.drop k,WfE x):=by
 intro m
 induction m with
 | zero=>intro k _ h; omega
 | succ m ih=>
  intro k hk hm hl;rw[qa1,qa1];by_cases he:k=l.length
  ·subst he
   refine⟨true,?_,?_,?_⟩
   ·simp only[qhc,qas,qar,kcf]
   ·simp only[qk5,qas,qar,kcf]
   intro _ x hx;rw[List.drop_length]at hx;cases hx
  ·have hkl:k<l.length:=by omega
   have hx:=jf hkl;rw[jo hkl];generalize l[k]=x at hx;obtain⟨b,h1,h2,h3⟩:=hg x (qbf hx);obtain⟨r,h4,h5,h6⟩:=ih (k+1) (by omega) (by omega) hl;obtain⟨x1,x2,⟨x3,x4,x5,x6,x7,x8⟩,x9,x10⟩:=x;simp only[qhc,qk5,qas,qa5 hkl,kct,qaj hx,qad,h1,h2];rw[qb7 (by omega)];cases b with
   | false=>exact⟨false,rfl,rfl,fun h=>by cases h⟩
   | true=>
    refine⟨r,h4,h5,fun hr y hy=>?_⟩;rcases jg.1 hy with rfl|hy
    ·exact h3 rfl
    exact h6 hr y hy
theorem zmk (n:Nat) (ks:List (List UInt8)) (args:List qaa) (g:qaa->Int->Option Bool) (d:Int) (hn:n<=1073741824) (h:ks.length<n) {r:Bool}
  (hr:qam (qhc n args g d) n (0:Int)=some r):qam (qhb n ks args g d) n (0:Int)=some (ks.all qu2&&r):=by
 have e:=qc4 (B:=qhb n ks args g d) (fun k=>((k:Nat):Int)) (l:=ks) (fun s=>if qu2 s then none else some false) (rest:=some r)
  (fun k x nx hx=>by
   have hk:=qbl hx;simp only[qhb,qay,qa5 hk,kct,qaj hx,qad,qcn];rw[qb7 (by omega)];cases qu2 x<;>rfl)
  (fun nx=>by
   simp only[qhb,qay,qar,kcf,hr]) h
 refine Eq.trans e ?_;have:∀ l:List (List UInt8),∀ r:Bool,orE (qe4 (fun s=>if qu2 s then none else some false) l) (some r)=some (l.all qu2&&r):=by
  intro l r
  induction l with
  | nil=>rfl
  | cons a l ih=>
   simp only[qe4,jw];cases qu2 a with
   | true=>simpa using ih
   | false=>rfl
 exact this ks _
theorem zs5:∀ n:Nat,n<=1073741824->∀ x d,40+qka x<n->∃ b,qc5 n x d=some b/\qnn n x d=some b/\(b=true->WfE x):=by
 intro n
 induction n with
 | zero=>intro _ _ _ h; omega
 | succ n ih=>
  intro hn x d hx;obtain⟨op,name,⟨a1,a2,a3,a4,a5,a6⟩,names,args⟩:=x;have hb:40+qfz args<n/\names.length<n/\name.length<n/\zax ⟨a1,a2,a3,a4,a5,a6⟩<n:=by
   have:=qee names;have h0:=qd3 args;simp only[qka]at hx;omega
  have hl:=qd3 args;obtain⟨k,ok,b,hs1,hs2,hs3⟩:=zkk (n:=n) (op:=op) (name:=name) (args:=args) (by omega) (by omega) hb.2.2.2 hb.2.2.1 hb.2.1;obtain⟨s1,hv1,hv2⟩:=(q57 n (by omega)).1 ⟨a1,a2,a3,a4,a5,a6⟩ q3x hb.2.2.2;obtain⟨s2,hw1,hw2⟩:=(zfw n (by omega)).1 ⟨a1,a2,a3,a4,a5,a6⟩ q3x hb.2.2.2;have hs12:s2=s1:=by
   rw[Bool.eq_iff_iff,hw2,hv2]
  subst hs12;obtain⟨r,hr1,hr2,hr3⟩:=zl3 n args (qc5 n) (qnn n) d (by omega) (fun x hm=>ih (by omega) x _ (by have:=qhi hm; omega)) n 0 (by omega) (by omega) (by omega)
  have hnl:=zmk n names args (qc5 n) d (by omega) hb.2.1 hr1;have hr2':qam (qk5 n args (qnn n) d) n (0:Int)=some r:=hr2;unfold q3x at hv1 hw1;have hA:decide ((((qak names).length:Nat):Int)>0)=false->names.all qu2=true:=by
   intro h;cases names with
   | nil=>rfl
   | cons a l=>rw[qay]at h; simp at h
  obtain⟨c1,c2⟩:=zmv (k:=k) (L:=(((qaa.rows args).length:Nat):Int)) (D:=decide (d<1)) (ok:=ok) (X:=op != 1) (S:=s2) (q:=op==6) (nm:=decide ((((qak names).length:Nat):Int)>0)) (A:=names.all qu2) (r:=r) (op1:=true) hA;refine⟨_,Eq.trans ?_ c1,Eq.trans ?_ c2,?_⟩
  ·simp only[qc5,qos]
   rw[hs1,hv1,hnl];rfl
  ·simp only[qnn,qw5]
   rw[hs2,hw1,hr2',hs3,← qas args];rfl
  intro h;simp only[jj]at h;obtain⟨⟨⟨⟨_,⟨_,har⟩,_⟩,_⟩,hM⟩,hr⟩:=h;refine .mk (fun h6=>?_) (fun h10=>?_) (fun x hm=>hr3 hr x hm)
  ·cases names with
   | nil=>rfl
   | cons a l=>
    rw[kbf.2 h6,kdt (by rw[qay]; simp only[ja]; omega)]at hM;cases hM
  ·subst h10
   have:qci n ⟨10,name,⟨a1,a2,a3,a4,a5,a6⟩,names,args⟩=some (2,decide (zt8 name>0)):=rfl;rw[this,Option.some.injEq,Prod.mk.injEq]at hs1;obtain⟨rfl,_⟩:=hs1;have h2:((((qaa.rows args).length:Nat):Int)==2)=true:=har;have h3:=beq_iff_eq.1 h2;rw[qas]at h3;omega
end W
end
section
open Go Ax
namespace W
theorem q0l {n:Nat} (hn:n<=1073741824) {x:qaa} (hx:40+qka x<n):∃ b,qc5 n x 32=some b/\qfm n x=some b/\(b=true->WfE x):=by
 obtain⟨b,h1,h2,h3⟩:=zs5 n hn x 32 hx;obtain⟨x1,x2,⟨x3,x4,x5,x6,x7,x8⟩,x9,x10⟩:=x;exact⟨b,h1,by simp only[qfm,h2,qad],h3⟩
theorem zkd (n:Nat) (keys:List (List UInt8)) (vals:List qaa) (hn:n<=1073741824) (hlen:keys.length=vals.length) (hv:40+qfz vals<n):∀ m k:Nat,k<=keys.length->keys.length - k<m ->
  ∃ r,qam (qfx n keys vals) m (k:Int)=some r/\qam (qhz n keys vals) m (k:Int)=some r/\(r=true->∀ x∈vals.drop k,WfE x):=by
 have hl:=qd3 vals;intro m
 induction m with
 | zero=>intro k _ h; omega
 | succ m ih=>
  intro k hk hm;rw[qa1,qa1];by_cases he:k=keys.length
  ·subst he
   refine⟨true,?_,?_,?_⟩
   ·simp only[qfx,qay,qar,kcf]
   ·simp only[qhz,qay,qar,kcf]
   intro _ x hx;rw[hlen,List.drop_length]at hx;cases hx
  ·have hkl:k<keys.length:=by omega
   have hkv:k<vals.length:=by omega
   have hy:=jf hkl;have hx:=jf hkv;rw[jo hkv];generalize vals[k]=x at hx;generalize keys[k]=s at hy;obtain⟨b,h1,h2,h3⟩:=q0l hn (x:=x) (by have:=qhi (qbf hx); omega);obtain⟨r,h4,h5,h6⟩:=ih (k+1) (by omega) (by omega);obtain⟨x1,x2,⟨x3,x4,x5,x6,x7,x8⟩,x9,x10⟩:=x;simp only[qfx,qhz,qay,qa5 hkl,kct,qaj hx,qaj hy,qad,qcn,qc6];rw[qb7 (by omega)];cases qu2 s with
   | false=>exact⟨false,rfl,rfl,fun h=>by cases h⟩
   | true=>
    simp only[jq,jp,qc3,qad,h1,h2,kcf];cases b with
    | false=>exact⟨false,rfl,rfl,fun h=>by cases h⟩
    | true=>
     refine⟨r,h4,h5,fun hr y hy=>?_⟩;rcases jg.1 hy with rfl|hy
     ·exact h3 rfl
     exact h6 hr y hy
theorem zh7 {n:Nat} (hn:n<=1073741824) {keys:List (List UInt8)} {vals:List qaa} (hk:keys.length<n) (hv:40+qfz vals<n) :
  ∃ b,qh8 n ⟨keys,vals⟩=some b/\qlz n keys vals=some b/\(b=true->keys.length=vals.length/\∀ x∈vals,WfE x):=by
 simp only[qh8,qlz];by_cases hl:keys.length=vals.length
 ·have:((((qak keys).length:Nat):Int) != (((qaa.rows vals).length:Nat):Int))=false:=by simp[hl]
  rw[this,kcf,kcf];obtain⟨r,h1,h2,h3⟩:=zkd n keys vals hn hl hv n 0 (by omega) (by omega);exact⟨r,h1,h2,fun hr=>⟨hl,h3 hr⟩⟩
 have:((((qak keys).length:Nat):Int) != (((qaa.rows vals).length:Nat):Int))=true:=by rw[qay,qas]; exact qxy.2 hl
 rw[this,kct,kct];exact⟨false,rfl,rfl,fun h=>by cases h⟩
theorem zft {n:Nat} (hn:n<=1073741824) {d:qae} (h:42+qgu d<n) (nx:Int->Option Bool) (k:Int) :
  ∃ b,qe2 n d=some b/\qam (qg2 n d.labels d.var_ d.keys d.vals nx k) n (0:Int)=(bif b then nx (kwr .i64 (k+1))else some false)/\(b=true->d.keys.length=d.vals.length/\∀ x∈d.vals,WfE x):=by
 obtain⟨var,labels,keys,vals⟩:=d;unfold qgu at h;simp only at h ⊢;have hl1:=qee labels;have hl2:=qee keys;obtain⟨b,h1,h2,h3⟩:=zh7 hn (keys:=keys) (vals:=vals) (by omega) (by omega);have hp1:=qha (s:=var) (n:=n) (by omega) hn;have hp2:=qhm (s:=var) (n:=n) (by omega) (by omega) hn;have fold:∀ (l:List (List UInt8)) (r:Option Bool),orE (qe4 (fun s=>if qu2 s then none else some false) l) r=bif l.all qu2 then r else some false:=by
  intro l r
  induction l with
  | nil=>rfl
  | cons a l ih=>
   simp only[qe4,jw];cases qu2 a with
   | true=>simpa using ih
   | false=>rfl
 have e1:=qc4 (B:=qgf n labels var keys vals) (fun k=>((k:Nat):Int)) (l:=labels) (fun s=>if qu2 s then none else some false) (rest:=some ((bif var==[]then true else qdg var)&&b))
  (fun k x nx hx=>by
   have hk:=qbl hx;simp only[qgf,qay,qa5 hk,kct,qaj hx,qad,qcn];rw[qb7 (by omega)];cases qu2 x<;>rfl)
  (fun nx=>by
   simp only[qgf,qay,qar,kcf,hp1,h1];cases var==[]<;>cases qdg var<;>rfl) (n:=n) (by omega)
 have e2:=qc4 (B:=qg2 n labels var keys vals nx k) (fun k=>((k:Nat):Int)) (l:=labels) (fun s=>if qu2 s then none else some false) (rest:=bif((bif var==[]then true else qdg var)&&b)then nx (kwr .i64 (k+1))else some false)
  (fun k x nx hx=>by
   have hk:=qbl hx;simp only[qg2,qay,qa5 hk,kct,qaj hx,qad,qc6];rw[qb7 (by omega)];cases qu2 x<;>rfl)
  (fun nx=>by
   simp only[qg2,qay,qar,kcf,hp2,h2];cases var==[]<;>cases qdg var<;>cases b<;>rfl) (n:=n) (by omega)
 refine⟨labels.all qu2&&((bif var==[]then true else qdg var)&&b),?_,?_,?_⟩
 ·simp only[qe2]
  refine Eq.trans e1 ?_;rw[fold];cases labels.all qu2<;>rfl
 ·refine Eq.trans e2 ?_
  rw[fold];cases labels.all qu2<;>rfl
 ·intro hb
  simp only[jj]at hb;exact h3 hb.2.2
end W
end
section
open Go Ax
namespace W
theorem zfb {n:Nat} (hn:n<=1073741824) {d:qag} (h:42+qng d<n) {es:List qag} {k:Nat} (hk:es[k]? =some d) (hk2:k<1073741824) (nx:Int->Option Bool) :
  ∃ b,qen n d=some b/\qg3 n es nx (k:Int)=(bif b then nx ((k+1:Nat):Int)else some false)/\(b=true->d.keys.length=d.vals.length/\∀ x∈d.vals,WfE x):=by
 obtain⟨var,typ,dir,keys,vals⟩:=d;unfold qng at h;simp only at h ⊢;have hl2:=qee keys;obtain⟨b,h1,h2,h3⟩:=zh7 hn (keys:=keys) (vals:=vals) (by omega) (by omega);have hp1:=qha (s:=var) (n:=n) (by omega) hn;have hp2:=qhm (s:=var) (n:=n) (by omega) (by omega) hn;have hkl:=qbl hk;have e0:decide (dir≥0)=!decide (dir<0):=by rw[Bool.eq_iff_iff]; simp
 have e2:decide (dir<=2)=!decide (dir>2):=by rw[Bool.eq_iff_iff]; simp
 simp only[qen,qg3,qf4,qa5 hkl,kct,qaj hk,qad,qcn,qc6,hp1,hp2,h1,h2,e0,e2];rw[qb7 (by omega)];refine⟨((bif var==[]then true else qdg var)&&(bif typ==[]then true else qu2 typ)&&!decide (dir<0)&&!decide (dir>2))&&b,?_,?_,?_⟩
 ·cases var==[]<;>cases qdg var<;>cases typ==[]<;>cases qu2 typ<;>cases decide (dir<0)<;>cases decide (dir>2)<;>rfl
 ·cases var==[]<;>cases qdg var<;>cases typ==[]<;>cases qu2 typ<;>cases decide (dir<0)<;>cases decide (dir>2)<;>cases b<;>rfl
 intro hb;simp only[jj]at hb;exact h3 hb.2
theorem zp2 {n:Nat} (hn:n<=1073741824) {nodes:List qae} {edges:List qag} (hlen:nodes.length=edges.length+1) (nb:qae->Bool) (eb:qag->Bool)
  (h1:∀ d∈nodes,qe2 n d=some (nb d)) (h2:∀ d∈edges,qen n d=some (eb d)) (hb:nodes.length<1073741824) :
  ∀ m k:Nat,k<=nodes.length->nodes.length - k<m->qam (qei n nodes edges) m (k:Int)=some ((nodes.drop k).all nb&&(edges.drop (k - 1)).all eb):=by
 intro m
 induction m with
 | zero=>intro k _ h; omega
 | succ m ih=>
  intro k hk hm;rw[qa1];by_cases he:k=nodes.length
  ·subst he
   simp only[qei,qc7,qar,kcf];rw[List.drop_length,hlen,Nat.add_sub_cancel,List.drop_length];rfl
  have hkl:k<nodes.length:=by omega
  have hx:=jf hkl;have ih2:=ih (k+1) (by omega) (by omega);rw[jo hkl];generalize nodes[k]=d at hx;have hnb:=h1 d (qbf hx);obtain⟨d1,d2,d3,d4⟩:=d;simp only[qei,qc7,qa5 hkl,kct,qaj hx,qad,hnb,jw];rw[qb7 (by omega)];cases nb ⟨d1,d2,d3,d4⟩with
  | false=>rfl
  | true=>
   cases k with
   | zero=>
    refine Eq.trans (b:=qam (qei n nodes edges) m ((0+1:Nat):Int)) rfl ?_;rw[ih2];simp
   | succ k=>
    have hke:k<edges.length:=by omega
    have hy:=jf hke;rw[Nat.add_sub_cancel,jo hke];generalize edges[k]=e at hy;have heb:=h2 e (qbf hy);obtain⟨a,c,f,g,i⟩:=e;have h0:decide ((((k+1:Nat):Int))>0)=true:=kdt (by omega);simp only[h0,jq,jp,Bool.and_true,qc3,zxg (show k+1<=1152921504606846976 by omega),qaj hy,qad,heb,kct,kcf,jw];cases eb ⟨a,c,f,g,i⟩with
    | false=>simp
    | true=>
     refine Eq.trans (b:=qam (qei n nodes edges) m ((k+1+1:Nat):Int)) rfl ?_;rw[ih2];simp
theorem zfv {n:Nat} (hn:n<=1073741824) {p:qa9} (h:42+qiq p<n):∃ b,qiv n p=some b/\qno n p=some b/\(b=true->WfP p):=by
 obtain⟨nodes,edges⟩:=p;have hd:∀ d∈nodes,42+qgu d<n:=fun d hm=>by have:=qbt qgu hm; unfold qiq at h; simp only at h; omega
 have hE:∀ d∈edges,42+qng d<n:=fun d hm=>by have:=qbt qng hm; unfold qiq at h; simp only at h; omega
 have hl1:=qbi qgu qwx nodes;have hl2:=qbi qng q90 edges;unfold qiq at h;simp only at h;simp only[qiv,qno,qc7,qf4];rw[qb7 (by omega)];by_cases hlen:nodes.length=edges.length+1
 ·have:(((nodes.length:Nat):Int) != ((edges.length+1:Nat):Int))=false:=by rw[hlen]; simp
  rw[this,kcf,kcf];have a1:∀ d∈nodes,qe2 n d=some ((qe2 n d).getD false):=fun d hm=>by
   obtain⟨b,hb,_⟩:=zft hn (hd d hm) (fun _=>none) 0
   rw[hb]; rfl
  have a2:∀ d∈edges,qen n d=some ((qen n d).getD false):=fun d hm=>by
   obtain⟨b,hb,_⟩:=zfb hn (hE d hm) (es:=[d]) (k:=0) rfl (by omega) (fun _=>none)
   rw[hb]; rfl
  have e1:=zp2 hn hlen _ _ a1 a2 (by omega) n 0 (by omega) (by omega);have fold:∀ {A:Type} (g:A->Bool) (l:List A) (r:Bool),orE (qe4 (fun s=>if g s then none else some false) l) (some r)=some (l.all g&&r):=by
   intro A g l r
   induction l with
   | nil=>rfl
   | cons a l ih=>
    simp only[qe4,jw];cases g a with
    | true=>simpa using ih
    | false=>rfl
  have e2:=qc4 (B:=qg3 n edges) (fun k=>((k:Nat):Int)) (l:=edges) (fun d=>if(qen n d).getD false then none else some false) (rest:=some true)
   (fun k x nx hx=>by
    have hk:=qbl hx;obtain⟨b,hb1,hb2,_⟩:=zfb hn (hE x (qbf hx)) hx (by omega) nx;rw[hb2,hb1];cases b<;>rfl)
   (fun nx=>by simp only[qg3,qf4,qar,kcf]) (n:=n) (by omega)
  rw[fold]at e2;have e3:=qc4 (B:=qis n nodes edges) (fun k=>((k:Nat):Int)) (l:=nodes) (fun d=>if(qe2 n d).getD false then none else some false) (rest:=some (edges.all (fun d=>(qen n d).getD false)&&true))
   (fun k x nx hx=>by
    have hk:=qbl hx;obtain⟨b,hb1,hb2,_⟩:=zft hn (hd x (qbf hx)) nx (k:Int);rw[qb7 (by omega)]at hb2;obtain⟨x1,x2,x3,x4⟩:=x;simp only[qis,qc7,qa5 hk,kct,qaj hx,qad];rw[hb2,hb1];cases b<;>rfl)
   (fun nx=>by
    simp only[qis,qc7,qar,kcf];exact e2) (n:=n) (by omega)
  rw[fold]at e3;refine⟨_,e1,e3.trans ?_,?_⟩
  ·simp
  intro hb;simp only[List.drop_zero,Nat.zero_sub,jj,List.all_eq_true]at hb;refine⟨hlen,fun d hm=>?_,fun d hm=>?_⟩
  ·obtain⟨b,hb1,_,hb3⟩:=zft hn (hd d hm) (fun _=>none) 0
   have:=hb.1 d hm;rw[hb1]at this;exact(hb3 this).2
  obtain⟨b,hb1,_,hb3⟩:=zfb hn (hE d hm) (es:=[d]) (k:=0) rfl (by omega) (fun _=>none)
  have:=hb.2 d hm;rw[hb1]at this;exact(hb3 this).2
 have:(((nodes.length:Nat):Int) != ((edges.length+1:Nat):Int))=true:=qxy.2 hlen;rw[this];exact⟨false,rfl,rfl,fun h=>by cases h⟩
end W
end
section
open Go Ax
namespace W
theorem zr0 {n:Nat} (hn:n<=1073741824) {x:qaa} (hx:qka x<n):∃ b,qjh n x=some b/\qtu n x=some b/\(b=true->(qj6 x).1=0):=by
 obtain⟨op,name,⟨a1,a2,a3,a4,a5,a6⟩,names,args⟩:=x;have hb:zax ⟨a1,a2,a3,a4,a5,a6⟩<n:=by simp only[qka]at hx; omega
 obtain⟨s1,hv1,hv2⟩:=(q57 n (by omega)).1 ⟨a1,a2,a3,a4,a5,a6⟩ q3x hb;obtain⟨s2,hw1,hw2⟩:=(zfw n (by omega)).1 ⟨a1,a2,a3,a4,a5,a6⟩ q3x hb;have hs12:s2=s1:=by
  rw[Bool.eq_iff_iff,hw2,hv2]
 subst hs12;unfold q3x at hv1 hw1;simp only[qjh,qtu,hv1,hw1];have key:(bnd (qaw (bif op==0 then name==[]else false) (some s2)) fun a=>some (bif(bif(bif(bif op==0 then name==[]else false)then a else false)then((((qak names).length:Nat):Int)==0)else false)then((((qaa.rows args).length:Nat):Int)==0)else false))=some ((op==0)&&(name==[])&&s2&&((((qak names).length:Nat):Int)==0)&&((((qaa.rows args).length:Nat):Int)==0)):=by
  generalize ((((qak names).length:Nat):Int)==0)=L1;generalize ((((qaa.rows args).length:Nat):Int)==0)=L2;cases op==0<;>cases name==[]<;>cases s2<;>cases L1<;>cases L2<;>rfl
 refine⟨_,key,key,?_⟩;intro h;cases ho:(op==0)with
 | true=>exact beq_iff_eq.1 ho
 | false=>rw[ho]at h; cases h
theorem zlv {n:Nat} {name:List UInt8} {val:Val} {names:List (List UInt8)} {args:List qaa} {d:Int}:qc5 n ⟨0,name,val,names,args⟩ d≠some true:=by
 obtain⟨a1,a2,a3,a4,a5,a6⟩:=val;intro h;cases n with
 | zero=>cases h
 | succ n=>
  simp only[qc5,qos]at h;rw[show qci n ⟨0,name,⟨a1,a2,a3,a4,a5,a6⟩,names,args⟩=some (0,false)from rfl]at h;cases h
theorem q9x {n:Nat} (hn:n<=1073741824) {s:qaf} (h:42+s.var_.length+s.key.length+s.label.length+qka s.e<n) (f:Bool) :
  ∃ b,qg0 n ⟨s,f⟩=some b/\qp2 n s f=some b/\(b=true->(f=true/\s.key≠[]->WfE s.e/\(qj6 s.e).1≠0)/\(¬ (f=true/\s.key≠[])->(qj6 s.e).1=0)):=by
 obtain⟨var,key,label,e⟩:=s;simp only at h ⊢;obtain⟨b,b1,b2,b3⟩:=zr0 hn (x:=e) (by omega);obtain⟨r,r1,r2,r3⟩:=q0l hn (x:=e) (by omega);have r4:r=true->(qj6 e).1≠0:=by
  intro hr h0;obtain⟨op,name,val,names,args⟩:=e;have:op=0:=h0;subst this hr;exact zlv r1
 have hp1:=qha (s:=var) (n:=n) (by omega) hn;have hp2:=qhm (s:=var) (n:=n) (by omega) (by omega) hn;obtain⟨op,name,⟨a1,a2,a3,a4,a5,a6⟩,names,args⟩:=e;simp only[qg0,qp2,hp1,hp2,qad,qc6];cases qdg var with
 | false=>exact⟨false,rfl,rfl,fun h=>by cases h⟩
 | true=>
  simp only[jq,kcf];cases key with
  | nil=>
   have hw:decide (kwr .i64 (((([]:List UInt8).length:Nat):Int)+((label.length:Nat):Int))>64)=decide (((label.length:Nat):Int)>64):=by
    rw[jc,qw3 (by omega) (by omega)];simp
   rw[hw];have hk:qu2 label=(!(label==[])&&!decide (((label.length:Nat):Int)>64)):=by
    unfold qu2;have:decide (((label.length:Nat):Int)<=64)=!decide (((label.length:Nat):Int)>64):=by rw[Bool.eq_iff_iff]; simp
    rw[this];cases label==[]<;>rfl
   rw[hk,b1,b2];refine⟨(!(label==[])&&!decide (((label.length:Nat):Int)>64))&&b,?_,?_,?_⟩
   ·cases label==[]<;>cases decide (((label.length:Nat):Int)>64)<;>cases f<;>rfl
   ·cases label==[]<;>cases decide (((label.length:Nat):Int)>64)<;>rfl
   intro hb;simp only[jj]at hb;exact⟨fun h=>absurd rfl h.2,fun _=>b3 hb.2⟩
  | cons c key=>
   have hke:((c::key)==([]:List UInt8))=false:=rfl;rw[hke];cases label with
   | cons a l=>
    have:((a::l)==([]:List UInt8))=false:=rfl;rw[this];refine⟨false,rfl,?_,fun h=>by cases h⟩
    rfl
   | nil=>
    have hw:decide (kwr .i64 ((((c::key).length:Nat):Int)+((([]:List UInt8).length:Nat):Int))>64)=decide ((((c::key).length:Nat):Int)>64):=by
     rw[jc,qw3 (by omega) (by omega)];simp
    rw[hw];have hk:qu2 (c::key)=!decide ((((c::key).length:Nat):Int)>64):=by
     unfold qu2;have:decide ((((c::key).length:Nat):Int)<=64)=!decide ((((c::key).length:Nat):Int)>64):=by rw[Bool.eq_iff_iff]; simp
     rw[this];rfl
    rw[hk,b1,b2,r1,r2];generalize decide ((((c::key).length:Nat):Int)>64)=g;refine⟨!g&&(bif f then r else b),?_,?_,?_⟩
    ·cases g<;>cases f<;>rfl
    ·cases g<;>cases f<;>rfl
    intro hb;simp only[jj]at hb;cases f with
    | true=>exact⟨fun _=>⟨r3 hb.2,r4 hb.2⟩,fun h=>absurd ⟨rfl,by simp⟩ h⟩
    | false=>exact⟨fun h=>(by cases h.1),fun _=>b3 hb.2⟩
end W
end
section
open Go Ax
namespace W
theorem zmx {x1 x11:Int} {x2 x12:List UInt8} {v w:Val} {x9 x19:List (List UInt8)} {x10 x20:List qaa} {S N L:Option Bool} {s a b:Bool} (hS:S=some s) (hs:s=true↔v=w) (hN:N=some a) (ha:a=true↔x9=x19) (hL:L=some b) (hb:b=true↔x10=x20) :
  ∃ r,(bnd (qaw (bif(x1==x11)then(x2==x12)else false) S) fun x21=>
   bnd (qaw (bif(bif(x1==x11)then(x2==x12)else false)then x21 else false) N) fun x22=>
   bnd (qaw (bif(bif(bif(x1==x11)then(x2==x12)else false)then x21 else false)then x22 else false) L) fun x23=>
   some (bif(bif(bif(bif(x1==x11)then(x2==x12)else false)then x21 else false)then x22 else false)then x23 else false))=some r /\
  (r=true↔qaa.mk x1 x2 v x9 x10=qaa.mk x11 x12 w x19 x20):=by
 subst hN hL hS;have e1:(x1==x11)=true↔x1=x11:=beq_iff_eq;have e2:(x2==x12)=true↔x2=x12:=beq_iff_eq;rw[qaa.mk.injEq,← e1,← e2,← hs,← hb,← ha];cases(x1==x11)<;>cases(x2==x12)<;>cases s<;>cases a<;>cases b<;>exact⟨_,rfl,by simp⟩
theorem qtq:∀ n:Nat,n<=1073741824->(∀ v w,qka v<n->∃ b,qel n v w=some b/\(b=true↔v=w))/\(∀ l l',qfz l<n->∃ b,qdo n l l'=some b/\(b=true↔l=l')):=by
 intro n
 induction n with
 | zero=>intro _; exact⟨fun _ _ h=>by omega,fun _ _ h=>by omega⟩
 | succ n ih=>
  intro hn;obtain⟨ihv,ihl⟩:=ih (by omega);refine⟨fun v w hv=>?_,fun l l' hl=>?_⟩
  ·obtain⟨C,D,⟨d,f,g,i,j,m⟩,o,c⟩:=v
   obtain⟨E,F,⟨q,t,u,x,z,A⟩,B,p⟩:=w;have hb:qfz c<n/\o.length<n/\zax ⟨d,f,g,i,j,m⟩<n:=by
    have:=qee o;simp only[qka]at hv;have h0:=qd3 c;omega
   obtain⟨s,hs1,hs2⟩:=(zfw n (by omega)).1 ⟨d,f,g,i,j,m⟩ ⟨q,t,u,x,z,A⟩ hb.2.2;obtain⟨a,ha1,ha2⟩:=qgy (y:=B) hb.2.1 (by omega);obtain⟨b,hb1,hb2⟩:=ihl c p hb.1;simp only[qel,qqj];exact zmx hs1 hs2 ha1 ha2 hb1 hb2
  have hlen:=qd3 l;simp only[qdo,qo7];by_cases hll:l.length=l'.length
  ·have:((((qaa.rows l).length:Nat):Int) != (((qaa.rows l').length:Nat):Int))=false:=by simp[hll]
   rw[this,kcf];refine q92 hll (fun k a b nx ha hb=>?_) (fun nx=>by simp only[qiz,qas,qar,kcf]) (by omega)
   have hk:=qbl ha;obtain⟨r,hr,hr2⟩:=ihv a b (by have:=qhi (qbf ha); omega);refine⟨r,hr2,?_⟩;obtain⟨C,D,⟨d,f,g,i,j,m⟩,o,c⟩:=a;obtain⟨E,F,⟨q,t,u,x,z,A⟩,B,p⟩:=b;simp only[qiz,qas,qa5 hk,kct,qaj ha,qaj hb,qad,hr];rw[qb7 (by omega)];cases r<;>rfl
  ·have:((((qaa.rows l).length:Nat):Int) != (((qaa.rows l').length:Nat):Int))=true:=by rw[qas,qas]; exact qxy.2 hll
   rw[this];exact⟨false,rfl,by simp; intro e; exact hll (congrArg _ e)⟩
theorem zr7 {n:Nat} (hn:n<=1073741824) {l:List qaa} (h:40+qfz l<n) (lim:Int) :
  qmz n l lim=some (l.all (fun x=>(qc5 n x 32).getD false)&&decide (((l.length:Nat):Int)<=lim)):=by
 have hlen:=qd3 l;have fold:∀ {A:Type} (g:A->Bool) (l:List A) (r:Bool),orE (qe4 (fun s=>if g s then none else some false) l) (some r)=some (l.all g&&r):=by
  intro A g l r
  induction l with
  | nil=>rfl
  | cons a l ih=>
   simp only[qe4,jw];cases g a with
   | true=>simpa using ih
   | false=>rfl
 have e:=qc4 (B:=qly n l lim) (fun k=>((k:Nat):Int)) (l:=l) (fun x=>if(qc5 n x 32).getD false then none else some false) (rest:=some (decide (((l.length:Nat):Int)<=lim)))
  (fun k x nx hx=>by
   have hk:=qbl hx;obtain⟨b,h1,h2,_⟩:=q0l hn (x:=x) (by have:=qhi (qbf hx); omega);rw[h1];obtain⟨x1,x2,⟨x3,x4,x5,x6,x7,x8⟩,x9,x10⟩:=x;simp only[qly,qas,qa5 hk,kct,qaj hx,qad,h2];rw[qb7 (by omega)];cases b<;>rfl)
  (fun nx=>by simp only[qly,qas,qar,kcf]) (n:=n) (by omega)
 rw[fold]at e;exact e
end W
end
section
open Go Ax
namespace W
theorem zfc {A:Type} {B:(Int->Option Bool)->Int->Option Bool} {l l':List A} {e:Bool} (hlen:l.length=l'.length)
  (step:∀ (k:Nat) x y nx,l[k]? =some x->l'[k]? =some y->∃ b,(b=true↔x=y)/\B nx (k:Int)=bif b then nx ((k+1:Nat):Int)else some false)
  (hend:∀ nx,B nx (l.length:Int)=some e) {n:Nat} (hn:l.length<n):∃ b,qam B n 0=some b/\(b=true↔l=l'/\e=true):=by
 have main:∀ m k:Nat,k<=l.length->l.length - k<m->∃ b,qam B m (k:Int)=some b/\(b=true↔l.drop k=l'.drop k/\e=true):=by
  intro m
  induction m with
  | zero=>intro k _ h; omega
  | succ m ih=>
   intro k hk hm;rw[qa1];by_cases he:k=l.length
   ·subst he
    exact⟨e,hend _,by rw[List.drop_length,hlen,List.drop_length]; simp⟩
   have h1:k<l.length:=by omega
   have h2:k<l'.length:=by omega
   obtain⟨b,hb,hs⟩:=step k _ _ (qam B m) (jf h1) (jf h2);rw[hs,jo h1,jo h2,List.cons.injEq,← hb];cases b with
   | false=>exact⟨false,rfl,by simp⟩
   | true=>
    obtain⟨b,h3,h4⟩:=ih (k+1) (by omega) (by omega);exact⟨b,h3,by simpa using h4⟩
 obtain⟨b,h1,h2⟩:=main n 0 (by omega) (by omega);exact⟨b,h1,by simpa using h2⟩
theorem zkh {n:Nat} (hn:n<=1073741824) {p q:qa9} (h:qiq p<n):∃ b,qov n p q=some b/\(b=true↔p=q):=by
 obtain⟨c,d⟩:=p;obtain⟨f,g⟩:=q;have hl1:=qbi qgu qwx c;have hl2:=qbi qng q90 d;unfold qiq at h;simp only at h;simp only[qov,qc7,qf4,qa9.mk.injEq];by_cases h1:c.length=f.length
 ·by_cases h2:d.length=g.length
  ·have e1:(((c.length:Nat):Int) != ((f.length:Nat):Int))=false:=by rw[h1]; simp
   have e2:(((d.length:Nat):Int) != ((g.length:Nat):Int))=false:=by rw[h2]; simp
   rw[e1,e2];obtain⟨e,he1,he2⟩:=q92 (B:=qh0 n d g) h2 (fun k a b nx ha hb=>by
    have hk:=qbl ha;have hm:=qbt qng (qbf ha);obtain⟨a1,a2,a3,a4,a5⟩:=a;obtain⟨b1,b2,b3,b4,b5⟩:=b;have hd:qng ⟨a1,a2,a3,a4,a5⟩=1+a1.length+a2.length+qwe a4+qfz a5:=rfl;rw[hd]at hm;have hln:=qee a4;obtain⟨r1,q1,q2⟩:=qgy (n:=n) (x:=a4) (y:=b4) (by omega) hn;obtain⟨r2,q3,q4⟩:=(qtq n hn).2 a5 b5 (by omega);simp only[qh0,qf4,qa5 hk,kct,qaj ha,qaj hb,qad,q1,q3];rw[qb7 (by omega)];have e1:(a1==b1)=true↔a1=b1:=beq_iff_eq;have e2:(a2==b2)=true↔a2=b2:=beq_iff_eq;have e3:(a3==b3)=true↔a3=b3:=beq_iff_eq;rw[qag.mk.injEq,← e1,← e2,← e3,← q2,← q4,bne];refine⟨(a1==b1)&&(a2==b2)&&(a3==b3)&&r1&&r2,by simp[and_assoc],?_⟩;cases a1==b1<;>cases a2==b2<;>cases a3==b3<;>cases r1<;>cases r2<;>rfl) (fun nx=>by simp only[qh0,qf4,qar,kcf]) (n:=n) (by omega)
   rw[← he2];refine zfc h1 (fun k a b nx ha hb=>?_) (fun nx=>?_) (by omega)
   ·have hk:=qbl ha
    have hm:=qbt qgu (qbf ha);obtain⟨a1,a2,a3,a4⟩:=a;obtain⟨b1,b2,b3,b4⟩:=b;have hd:qgu ⟨a1,a2,a3,a4⟩=1+a1.length+qwe a2+qwe a3+qfz a4:=rfl;rw[hd]at hm;have hln:=qee a2;have hln2:=qee a3;obtain⟨r1,q1,q2⟩:=qgy (n:=n) (x:=a2) (y:=b2) (by omega) hn;obtain⟨r2,q3,q4⟩:=qgy (n:=n) (x:=a3) (y:=b3) (by omega) hn;obtain⟨r3,q5,q6⟩:=(qtq n hn).2 a4 b4 (by omega);simp only[qkh,qc7,qa5 hk,kct,qaj ha,qaj hb,qad,q1,q3,q5];rw[qb7 (by omega)];have e1:(a1==b1)=true↔a1=b1:=beq_iff_eq;rw[qae.mk.injEq,← e1,← q2,← q4,← q6];refine⟨(a1==b1)&&r1&&r2&&r3,by simp[and_assoc],?_⟩;cases a1==b1<;>cases r1<;>cases r2<;>cases r3<;>rfl
   ·simp only[qkh,qc7,qar,kcf]
    exact he1
  have e2:(((d.length:Nat):Int) != ((g.length:Nat):Int))=true:=qxy.2 h2;rw[e2];refine⟨false,?_,?_⟩
  ·cases(((c.length:Nat):Int) != ((f.length:Nat):Int))<;>rfl
  constructor
  ·intro h; cases h
  intro h; exact absurd (congrArg _ h.2) h2
 have e1:(((c.length:Nat):Int) != ((f.length:Nat):Int))=true:=qxy.2 h1;rw[e1];refine⟨false,rfl,?_⟩
 constructor
 ·intro h; cases h
 intro h; exact absurd (congrArg _ h.1) h1
end W
end
section
open Go Ax
namespace W
theorem zs9 {n:Nat} (hn:n<=1073741824) {l l':List qaf} (hl:l.length<n) (hlen:l.length=l'.length) (hb:∀ s∈l,qka s.e<n):∃ b,qam (qe8 n l l') n (0:Int)=some b/\(b=true↔l=l'):=by
 refine q92 hlen (fun k a b nx ha hb'=>?_) (fun nx=>by simp only[qe8,qaf.rows,jm,qar,kcf]) hl
 have hk:=qbl ha;have hm:=hb a (qbf ha);obtain⟨a1,a2,a3,⟨x1,x2,⟨x3,x4,x5,x6,x7,x8⟩,x9,x10⟩⟩:=a;obtain⟨b1,b2,b3,⟨c,f,⟨g,j,m,q,t,u⟩,v,d⟩⟩:=b;obtain⟨r,q1,q2⟩:=(qtq n hn).1 _ ⟨c,f,⟨g,j,m,q,t,u⟩,v,d⟩ hm;simp only[qe8,qaf.rows,jm,qa5 hk,kct,qaj ha,qaj hb',qad,q1];rw[qb7 (by omega)];have e1:(a1==b1)=true↔a1=b1:=beq_iff_eq;have e2:(a2==b2)=true↔a2=b2:=beq_iff_eq;have e3:(a3==b3)=true↔a3=b3:=beq_iff_eq;rw[qaf.mk.injEq,← e1,← e2,← e3,← q2];refine⟨(a1==b1)&&(a2==b2)&&(a3==b3)&&r,by simp[and_assoc],?_⟩;cases a1==b1<;>cases a2==b2<;>cases a3==b3<;>cases r<;>rfl
theorem zqs {n:Nat} (hn:n<=1073741824) {l l':List qat} {s s':List qaf} (hl:l.length<n) (hlen:l.length=l'.length) (hb:∀ s∈l,qka s.e<n) {e:Bool} (he:qam (qe8 n s s') n (0:Int)=some e) :
  ∃ b,qam (qe7 n l l' s s') n (0:Int)=some b/\(b=true↔l=l'/\e=true):=by
 refine zfc hlen (fun k a b nx ha hb'=>?_) (fun nx=>by simp only[qe7,qat.rows,jm,qar,kcf,he]) hl
 have hk:=qbl ha;have hm:=hb a (qbf ha);obtain⟨⟨x1,x2,⟨x3,x4,x5,x6,x7,x8⟩,x9,x10⟩,a1⟩:=a;obtain⟨⟨c,f,⟨g,j,m,q,t,u⟩,v,d⟩,b1⟩:=b;obtain⟨r,q1,q2⟩:=(qtq n hn).1 _ ⟨c,f,⟨g,j,m,q,t,u⟩,v,d⟩ hm;simp only[qe7,qat.rows,jm,qa5 hk,kct,qaj ha,qaj hb',qad];rw[qb7 (by omega)];have e1:(a1==b1)=true↔a1=b1:=beq_iff_eq;rw[qat.mk.injEq,← e1,← q2];refine⟨(a1==b1)&&r,by simp[and_comm],?_⟩;cases a1==b1 with
 | false=>rfl
 | true=>
  simp only[jq,jp,qc3,qad,q1];cases r<;>rfl
theorem zqr {n:Nat} (hn:n<=1073741824) {l l':List qbn} {o o':List qat} {s s':List qaf} (hl:l.length<n) (hlen:l.length=l'.length) (hb:∀ s∈l,qka s.e<n) {e:Bool} (he:qam (qe7 n o o' s s') n (0:Int)=some e) :
  ∃ b,qam (qe6 n l l' o o' s s') n (0:Int)=some b/\(b=true↔l=l'/\e=true):=by
 refine zfc hlen (fun k a b nx ha hb'=>?_) (fun nx=>by simp only[qe6,qbn.rows,jm,qar,kcf,he]) hl
 have hk:=qbl ha;have hm:=hb a (qbf ha);obtain⟨⟨x1,x2,⟨x3,x4,x5,x6,x7,x8⟩,x9,x10⟩,a1⟩:=a;obtain⟨⟨c,f,⟨g,j,m,q,t,u⟩,v,d⟩,b1⟩:=b;obtain⟨r,q1,q2⟩:=(qtq n hn).1 _ ⟨c,f,⟨g,j,m,q,t,u⟩,v,d⟩ hm;simp only[qe6,qbn.rows,jm,qa5 hk,kct,qaj ha,qaj hb',qad];rw[qb7 (by omega)];have e1:(a1==b1)=true↔a1=b1:=beq_iff_eq;rw[qbn.mk.injEq,← e1,← q2];refine⟨(a1==b1)&&r,by simp[and_comm],?_⟩;cases a1==b1 with
 | false=>rfl
 | true=>
  simp only[jq,jp,qc3,qad,q1];cases r<;>rfl
theorem zqt {n:Nat} (hn:n<=1073741824) {l l':List qa9} {i i':List qbn} {o o':List qat} {s s':List qaf} (hl:l.length<n) (hlen:l.length=l'.length) (hb:∀ p∈l,qiq p<n) {e:Bool} (he:qam (qe6 n i i' o o' s s') n (0:Int)=some e) :
  ∃ b,qam (qgb n l l' i i' o o' s s') n (0:Int)=some b/\(b=true↔l=l'/\e=true):=by
 refine zfc hlen (fun k a b nx ha hb'=>?_) (fun nx=>by simp only[qgb,qcp,qar,kcf,he]) hl
 have hk:=qbl ha;have hm:=hb a (qbf ha);obtain⟨r,q1,q2⟩:=zkh hn (q:=b) hm;obtain⟨x1,x2⟩:=a;obtain⟨y1,y2⟩:=b;simp only[qgb,qcp,qa5 hk,kct,qaj ha,qaj hb',qad,q1];rw[qb7 (by omega)];refine⟨r,q2,?_⟩;cases r<;>rfl
end W
end
section
open Go Ax
namespace W
theorem zvp {A P V I D O T U s1 s2 s3 s4 s5:Bool} {L:Option Bool} :
 (bnd (qaw (!(bif A then true else P)) (some s1)) fun a=>
 bnd (qaw (!(bif(bif A then true else P)then true else(!a))) (some s2)) fun b=>
 bnd (qaw (!(bif(bif(bif(bif(bif(bif(bif A then true else P)then true else(!a))then true else(!b))then true else V)then true else I)then true else D)then true else O)) (some s3)) fun d=>
 bnd (qaw (!(bif(bif(bif(bif(bif(bif(bif(bif A then true else P)then true else(!a))then true else(!b))then true else V)then true else I)then true else D)then true else O)then true else(!d))) (some s4)) fun f=>
 bnd (qaw (!(bif(bif(bif(bif(bif(bif(bif(bif(bif(bif A then true else P)then true else(!a))then true else(!b))then true else V)then true else I)then true else D)then true else O)then true else(!d))then true else(!f))then true else T)) (some s5)) fun g=>
 bif(bif(bif(bif(bif(bif(bif(bif(bif(bif(bif(bif(bif A then true else P)then true else(!a))then true else(!b))then true else V)then true else I)then true else D)then true else O)then true else(!d))then true else(!f))then true else T)then true else(!g))then true else U)then(
 some false)
 else(
 L))=bif A||P||!s1||!s2||V||I||D||O||!s3||!s4||T||!s5||U then some false else L:=by
 cases A; rotate_left; · rfl
 cases P; rotate_left; · rfl
 cases s1; · rfl
 cases s2; · rfl
 cases V; rotate_left; · rfl
 cases I; rotate_left; · rfl
 cases D; rotate_left; · rfl
 cases O; rotate_left; · rfl
 cases s3; · rfl
 cases s4; · rfl
 cases T; rotate_left; · rfl
 cases s5; · rfl
 cases U; rotate_left; · rfl
 rfl
theorem zf0 {n:Nat} (hn:n<=1073741824) {c c':qab} (h1:∀ p∈c.paths,qiq p<n) (h1l:c.paths.length<n) (h2:qfz c.where_<n) (h3:qka c.e<n) (h4:∀ i∈c.items,qka i.e<n) (h4l:c.items.length<n)
  (h5:∀ i∈c.order,qka i.e<n) (h5l:c.order.length<n) (h6:qfz c.skip<n) (h7:qfz c.limit<n) (h8:∀ i∈c.sets,qka i.e<n) (h8l:c.sets.length<n) (h9:c.vars.length<n):∃ b,qg4 n c c'=some b/\(b=true↔c=c'):=by
 obtain⟨m,v,B,⟨x4,x5,⟨x6,x7,x8,x9,x10,x11⟩,x12,x13⟩,d,q,f,s,t,u,w,z,g⟩:=c;obtain⟨o,N,S,⟨W,X,⟨Y,Z,y8,y9,C,E⟩,F,G⟩,j,H,k,J,K,M,Q,R,l⟩:=c';simp only at h1 h1l h2 h3 h4 h4l h5 h5l h6 h7 h8 h8l h9;obtain⟨s1,p1,q1⟩:=(qtq n hn).2 B S h2;obtain⟨s2,p2,q2⟩:=(qtq n hn).1 _ ⟨W,X,⟨Y,Z,y8,y9,C,E⟩,F,G⟩ h3;obtain⟨s3,p3,q3⟩:=(qtq n hn).2 t K h6;obtain⟨s4,p4,q4⟩:=(qtq n hn).2 u M h7;obtain⟨s5,p5,q5⟩:=qgy (n:=n) (x:=z) (y:=R) h9 hn;simp only[qg4,p1,p2,p3,p4,p5];rw[zvp];have eA:(m != o)=false↔m=o:=by simp
 have eV:(!(d==j))=false↔d=j:=by simp
 have eD:(!(f==k))=false↔f=k:=by simp
 have eU:(!(g==l))=false↔g=l:=by simp
 have ln:∀ {a b:Nat},(((a:Nat):Int) != ((b:Nat):Int))=false↔a=b:=by
  intro a b; simp[Int.natCast_inj]
 simp only[qcp,qbn.rows,qat.rows,qaf.rows,jm];cases hG:((m != o)||(((v.length:Nat):Int) != ((N.length:Nat):Int))||!s1||!s2||(!(d==j))||(((q.length:Nat):Int) != ((H.length:Nat):Int))||(!(f==k))||(((s.length:Nat):Int) != ((J.length:Nat):Int))||!s3||!s4||(((w.length:Nat):Int) != ((Q.length:Nat):Int))||!s5||(!(g==l)))with
 | true=>
  refine⟨false,rfl,?_⟩
  constructor
  ·intro h; cases h
  intro h;rw[qab.mk.injEq]at h;obtain⟨a1,a2,a3,a4,a5,a6,a7,a8,a9,a10,a11,a12,a13⟩:=h;rw[q1.2 a3,q2.2 a4,q3.2 a9,q4.2 a10,q5.2 a12,eA.2 a1,eV.2 a5,eD.2 a7,eU.2 a13,ln.2 (congrArg _ a2),ln.2 (congrArg _ a6),ln.2 (congrArg _ a8),ln.2 (congrArg _ a11)]at hG;cases hG
 | false=>
  simp only[Bool.or_eq_false_iff,Bool.not_eq_false']at hG;obtain⟨⟨⟨⟨⟨⟨⟨⟨⟨⟨⟨⟨g1,g2⟩,g3⟩,g4⟩,g5⟩,g6⟩,g7⟩,g8⟩,g9⟩,g10⟩,g11⟩,g12⟩,g13⟩:=hG;obtain⟨b1,m1,w1⟩:=zs9 hn h8l (ln.1 g11) h8;obtain⟨b2,m2,w2⟩:=zqs hn h5l (ln.1 g8) h5 m1;obtain⟨b3,m3,w3⟩:=zqr hn h4l (ln.1 g6) h4 m2;obtain⟨b4,m4,w4⟩:=zqt hn h1l (ln.1 g2) h1 m3;refine⟨b4,m4,?_⟩;rw[w4,w3,w2,w1,qab.mk.injEq];have z1:=eA.1 g1;have z3:=q1.1 g3;have z4:=q2.1 g4;have z9:=q3.1 g9;have z10:=q4.1 g10;have z12:=q5.1 g12;have z5:d=j:=by simpa using g5
  have z7:f=k:=by simpa using g7
  have z13:g=l:=by simpa using g13
  constructor
  ·rintro⟨r1,r2,r3,r4⟩
   exact⟨z1,r1,z3,z4,z5,r2,z7,r3,z9,z10,r4,z12,z13⟩
  rintro⟨_,r1,_,_,_,r2,_,r3,_,_,r4,_,_⟩;exact⟨r1,r2,r3,r4⟩
end W
end
section
open Go Ax
namespace W
def zst (c:qab):qab:=(qub 0 c).getD default
theorem zwt (n:Nat) (c:qab):qub n c=some (zst c):=by
 obtain⟨a,x2,x3,⟨x4,x5,⟨x6,x7,x8,x9,x10,x11⟩,x12,x13⟩,x14,x15,x16,x17,x18,x19,x20,x21,x22⟩:=c;simp only[zst,qub,qf0,qp3,qp4,qp5];cases a==1; rotate_left; · rfl
 cases a==2; rotate_left; · rfl
 cases a==3; rotate_left; · rfl
 cases a==9; rotate_left; · rfl
 cases a==4; rotate_left; · rfl
 cases a==5; rotate_left; · rfl
 cases a==6; rotate_left; · rfl
 cases a==7; rotate_left; · rfl
 cases a==8; rotate_left; · rfl
 rfl
end W
end
section
open Go Ax
namespace W
theorem qvm (l:List qb4):(qb4.rows l).length=l.length:=by simp[qb4.rows]
theorem qz3 {A:Type} {B:(List qb4×Int->Option (List qb4))->List qb4×Int->Option (List qb4)} {l:List A} (f:A->qb4)
  (step:∀ (k:Nat) x nx acc,l[k]? =some x->B nx (acc,(k:Int))=chk (decide ((qb4.rows (acc++[f x])).length * 16<=140737488355328)) (nx (acc++[f x],((k+1:Nat):Int))))
  (hend:∀ nx acc,B nx (acc,(l.length:Int))=some acc) {n:Nat} (hn:l.length<n) (hs:l.length<=1073741824):qam B n ([],(0:Int))=some (l.map f):=by
 have main:∀ m k:Nat,k<=l.length->l.length - k<m->qam B m ((l.take k).map f,(k:Int))=some (l.map f):=by
  intro m
  induction m with
  | zero=>intro k _ h; omega
  | succ m ih=>
   intro k hk hm;rw[qa1];by_cases he:k=l.length
   ·subst he
    rw[hend,List.take_length]
   have h1:k<l.length:=by omega
   have hx:=jf h1;rw[step k _ _ _ hx];have e:(l.take k).map f++[f l[k]]=(l.take (k+1)).map f:=by
    rw[List.take_succ,hx,ke]; rfl
   rw[e,q5k (by rw[qvm,jm,List.length_take]; omega)];exact ih (k+1) (by omega) (by omega)
 have:=main n 0 (by omega) (by omega);simpa using this
theorem zos {n:Nat} (hn:n<=1073741824) {l:List qa9} (h:l.length<n):qdw n l=some (l.map .path):=by
 refine qz3 (B:=qb2 n l) (l:=l) .path (fun k x nx acc hx=>?_) (fun nx acc=>by simp only[qb2,qcp,qar,kcf]) h (by omega)
 have hk:=qbl hx;obtain⟨x1,x2⟩:=x;simp only[qb2,qn6,qcp,qa5 hk,kct,qaj hx,qad];rw[qb7 (by omega)]
end W
end
section
open Go Ax
namespace W
theorem zot {n:Nat} (hn:n<=1073741824) {l:List qaa} (h:l.length<n):qds n l=some (l.map .expr):=by
 refine qz3 (B:=qby n l) (l:=l) .expr (fun k x nx acc hx=>?_) (fun nx acc=>by simp only[qby,qas,qar,kcf]) h (by omega)
 have hk:=qbl hx;obtain⟨x1,x2,⟨x3,x4,x5,x6,x7,x8⟩,x9,x10⟩:=x;simp only[qby,qn7,qas,qa5 hk,kct,qaj hx,qad];rw[qb7 (by omega)]
theorem zow {n:Nat} (hn:n<=1073741824) {l:List qaa} (h:l.length<n):qdt n l=some (l.map .expr):=by
 refine qz3 (B:=qbz n l) (l:=l) .expr (fun k x nx acc hx=>?_) (fun nx acc=>by simp only[qbz,qas,qar,kcf]) h (by omega)
 have hk:=qbl hx;obtain⟨x1,x2,⟨x3,x4,x5,x6,x7,x8⟩,x9,x10⟩:=x;simp only[qbz,qoa,qas,qa5 hk,kct,qaj hx,qad];rw[qb7 (by omega)]
theorem zox {n:Nat} (hn:n<=1073741824) {l:List qaa} (h:l.length<n):qdu n l=some (l.map .expr):=by
 refine qz3 (B:=qb0 n l) (l:=l) .expr (fun k x nx acc hx=>?_) (fun nx acc=>by simp only[qb0,qas,qar,kcf]) h (by omega)
 have hk:=qbl hx;obtain⟨x1,x2,⟨x3,x4,x5,x6,x7,x8⟩,x9,x10⟩:=x;simp only[qb0,qob,qas,qa5 hk,kct,qaj hx,qad];rw[qb7 (by omega)]
theorem zou {n:Nat} (hn:n<=1073741824) {l:List qbn} (h:l.length<n):qdv n l=some (l.map .item):=by
 refine qz3 (B:=qb1 n l) (l:=l) .item (fun k x nx acc hx=>?_) (fun nx acc=>by simp only[qb1,qbn.rows,jm,qar,kcf]) h (by omega)
 have hk:=qbl hx;obtain⟨⟨x1,x2,⟨x3,x4,x5,x6,x7,x8⟩,x9,x10⟩,x11⟩:=x;simp only[qb1,qn8,qbn.rows,jm,qa5 hk,kct,qaj hx,qad];rw[qb7 (by omega)]
theorem zov {n:Nat} (hn:n<=1073741824) {l:List qat} (h:l.length<n):qdx n l=some (l.map .sorted):=by
 refine qz3 (B:=qb3 n l) (l:=l) .sorted (fun k x nx acc hx=>?_) (fun nx acc=>by simp only[qb3,qat.rows,jm,qar,kcf]) h (by omega)
 have hk:=qbl hx;obtain⟨⟨x1,x2,⟨x3,x4,x5,x6,x7,x8⟩,x9,x10⟩,x11⟩:=x;simp only[qb3,qn9,qat.rows,jm,qa5 hk,kct,qaj hx,qad];rw[qb7 (by omega)]
theorem zoy {n:Nat} (hn:n<=1073741824) {l:List (List UInt8)} (h:l.length<n):qd4 n l=some (l.map .name):=by
 refine qz3 (B:=qcb n l) (l:=l) .name (fun k x nx acc hx=>?_) (fun nx acc=>by simp only[qcb,qay,qar,kcf]) h (by omega)
 have hk:=qbl hx;simp only[qcb,qoc,qay,qa5 hk,kct,qaj hx,qad];rw[qb7 (by omega)]
theorem zoz {n:Nat} (hn:n<=1073741824) {l:List qaf} (h:l.length<n) (a:Int) (v:List qa9) (w:List qaa) (y:Int) (z:List UInt8) (A:Int) (C:Bool) (D:Int) (b:List UInt8) (c:List Val) (d:List (List UInt8)) (e:List (List UInt8)) (f:List qaa) (g:List UInt8) (i:List qbn) (j:Bool) (m:List qat) (o:List qaa) (p:List qaa) (q:List qaf) (t:List (List UInt8)) (u:Bool) :
  qdf n l a v w y z A C D b c d e f g i j m o p q t u=some (l.map fun s=>.change ⟨s,a==6⟩):=by
 refine qz3 (B:=qbo n l a v w y z A C D b c d e f g i j m o p q t u) (l:=l) (fun s=>.change ⟨s,a==6⟩) (fun k x nx acc hx=>?_) (fun nx acc=>by simp only[qbo,qaf.rows,jm,qar,kcf]) h (by omega)
 have hk:=qbl hx;obtain⟨y1,y2,y3,⟨y4,y5,⟨y6,y7,y8,y9,y10,y11⟩,y12,y13⟩⟩:=x;simp only[qbo,qod,qaf.rows,jm,qa5 hk,kct,qaj hx,qad];rw[qb7 (by omega)]
end W
end
section
open Go Ax
namespace W
def zct:qaa:=⟨0,[],q3x,[],[]⟩
theorem znx {n:Nat} (hn:n<=1073741824) {x:qaa} (hx:qka x<n):∃ b,qjh n x=some b/\(b=true↔x=zct):=by
 obtain⟨op,name,⟨a1,a2,a3,a4,a5,a6⟩,names,args⟩:=x;have hb:zax ⟨a1,a2,a3,a4,a5,a6⟩<n:=by simp only[qka]at hx; omega
 obtain⟨s2,hv1,hv2⟩:=(q57 n (by omega)).1 ⟨a1,a2,a3,a4,a5,a6⟩ q3x hb;have hv1':=hv1;unfold q3x at hv1';simp only[qjh,hv1',qay,qas];have key:(bnd (qaw (bif op==0 then name==[]else false) (some s2)) fun d=>some (bif(bif(bif(bif op==0 then name==[]else false)then d else false)then(((names.length:Nat):Int)==0)else false)then(((args.length:Nat):Int)==0)else false))=some ((op==0)&&(name==[])&&s2&&(((names.length:Nat):Int)==0)&&(((args.length:Nat):Int)==0)):=by
  generalize (((names.length:Nat):Int)==0)=L1;generalize (((args.length:Nat):Int)==0)=L2;cases op==0<;>cases name==[]<;>cases s2<;>cases L1<;>cases L2<;>rfl
 refine⟨_,key,?_⟩;simp only[jj,beq_iff_eq,hv2,zct,qaa.mk.injEq,Int.natCast_eq_zero,List.length_eq_zero_iff]
 constructor
 ·rintro⟨⟨⟨⟨h1,h2⟩,h3⟩,h4⟩,h5⟩; exact⟨h1,h2,h3,h4,h5⟩
 rintro⟨h1,h2,h3,h4,h5⟩; exact⟨⟨⟨⟨h1,h2⟩,h3⟩,h4⟩,h5⟩
theorem zu4 {a b:Nat}:(((a:Nat):Int)==((b:Nat):Int))=decide (a=b):=by
 rw[Bool.eq_iff_iff]; simp[Int.natCast_inj]
theorem zrz {n:Nat} (hn:n<=1073741824) {c c':qab} (h:qka c.e<n) :
  ∃ b,qeb n c c'=some b/\(b=true↔c.paths.length=c'.paths.length/\c.where_.length=c'.where_.length/\((qj6 c'.e).1≠0\/c.e=zct)/\c.var_=c'.var_/\c.items.length=c'.items.length/\c.unique=c'.unique /\
   c.order.length=c'.order.length/\c.skip.length=c'.skip.length/\c.limit.length=c'.limit.length/\c.sets.length=c'.sets.length/\c.vars.length=c'.vars.length/\c.detach=c'.detach):=by
 obtain⟨x1,x2,x3,⟨x4,x5,⟨x6,x7,x8,x9,x10,x11⟩,x12,x13⟩,x14,x15,x16,x17,x18,x19,x20,x21,x22⟩:=c;obtain⟨y1,y2,y3,⟨y4,y5,⟨y6,y7,y8,y9,y10,y11⟩,y12,y13⟩,y14,y15,y16,y17,y18,y19,y20,y21,y22⟩:=c';obtain⟨s,h1,h2⟩:=znx hn h;simp only at h1 h2;simp only[qeb,h1,← h2,qj6,qcp,qas,qay,qbn.rows,qat.rows,qaf.rows,jm,zu4];have key:∀ A B C D F G H I J K L M:Bool,(bnd (qaw ((bif A then B else false)&&!C) (some s)) fun d=>some (bif(bif(bif(bif(bif(bif(bif(bif(bif(bif(bif A then B else false)then(bif C then true else d)else false)then D else false)then F else false)then G else false)then H else false)then I else false)then J else false)then K else false)then L else false)then M else false))
   = some (A&&B&&(C||s)&&D&&F&&G&&H&&I&&J&&K&&L&&M):=by
  intro A B C D F G H I J K L M;cases A; · rfl
  cases B; · rfl
  cases C<;>cases s<;>cases D<;>cases F<;>cases G<;>cases H<;>first|rfl|(cases I<;>cases J<;>cases K<;>cases L<;>cases M<;>rfl)
 refine⟨_,key _ _ _ _ _ _ _ _ _ _ _ _,?_⟩;simp only[jj,Bool.or_eq_true,kde,beq_iff_eq,bne_iff_ne,and_assoc]
end W
end
section
open Go Ax
namespace W
def qqc (k:Int):qab:=⟨k,[],[],zct,[],[],false,[],[],[],[],[],false⟩
def zda (c:qab):qab:=
 if c.kind=1 then{ qqc c.kind with paths:=c.paths,where_:=c.where_ }
 else if c.kind=2 then{ qqc c.kind with e:=c.e,var_:=c.var_ }
 else if c.kind=3 then{ qqc c.kind with where_:=c.where_,items:=c.items,unique:=c.unique,order:=c.order,skip:=c.skip,limit:=c.limit }
 else if c.kind=9 then{ qqc c.kind with items:=c.items,unique:=c.unique,order:=c.order,skip:=c.skip,limit:=c.limit }
 else if c.kind=4\/c.kind=5 then{ qqc c.kind with paths:=c.paths }
 else if c.kind=6\/c.kind=7 then{ qqc c.kind with sets:=c.sets }
 else if c.kind=8 then{ qqc c.kind with vars:=c.vars,detach:=c.detach }
 else qqc c.kind
theorem zvj (c:qab):zst c=zda c:=by
 obtain⟨a,x2,x3,⟨x4,x5,⟨x6,x7,x8,x9,x10,x11⟩,x12,x13⟩,x14,x15,x16,x17,x18,x19,x20,x21,x22⟩:=c;by_cases h1:a=1; · subst h1; rfl
 by_cases h2:a=2; · subst h2; rfl
 by_cases h3:a=3; · subst h3; rfl
 by_cases h9:a=9; · subst h9; rfl
 by_cases h4:a=4; · subst h4; rfl
 by_cases h5:a=5; · subst h5; rfl
 by_cases h6:a=6; · subst h6; rfl
 by_cases h7:a=7; · subst h7; rfl
 by_cases h8:a=8; · subst h8; rfl
 simp only[zda,if_neg h1,if_neg h2,if_neg h3,if_neg h9,h4,h5,h6,h7,if_neg h8,or_self,if_false];simp only[zst,qub,qf0,qp3,qp4,qp5,kbf.2 h1,kbf.2 h2,kbf.2 h3,kbf.2 h9,kbf.2 h4,kbf.2 h5,kbf.2 h6,kbf.2 h7,kbf.2 h8,kcf];rfl
theorem znt {n:Nat} (hn:n<=1073741824) {c:qab} (h:qka c.e<n):∃ b,qeb n c (zda c)=some b/\(b=true->zda c=c)/\(zda c=c->b=true\/(c.kind=2/\(qj6 c.e).1=0)):=by
 obtain⟨b,h1,h2⟩:=zrz hn (c':=zda c) h;refine⟨b,h1,?_⟩;rw[h2];clear h1 h2;obtain⟨a,x2,x3,d,x14,x15,x16,x17,x18,x19,x20,x21,x22⟩:=c;have nl:∀ {A:Type} (l:List A),l.length=([]:List A).length↔l=[]:=fun l=>by simp
 have hb:(qj6 zct).1=0:=rfl;unfold zda;by_cases h1:a=1
 ·subst h1
  simp only[qqc,nl,hb,qab.mk.injEq,ne_eq,show((1:Int)=1)=True by decide,show((1:Int)=2)=False by decide,show((1:Int)=3)=False by decide,show((1:Int)=9)=False by decide,show((1:Int)=4)=False by decide,show((1:Int)=5)=False by decide,show((1:Int)=6)=False by decide,show((1:Int)=7)=False by decide,show((1:Int)=8)=False by decide,if_true,if_false,or_true,true_or,or_self,or_false,false_or,not_true]
  constructor
  ·intro h; simp_all
  intro h
  left; simp_all
 by_cases h2:a=2
 ·subst h2
  simp only[qqc,nl,hb,qab.mk.injEq,ne_eq,show((2:Int)=1)=False by decide,show((2:Int)=2)=True by decide,show((2:Int)=3)=False by decide,show((2:Int)=9)=False by decide,show((2:Int)=4)=False by decide,show((2:Int)=5)=False by decide,show((2:Int)=6)=False by decide,show((2:Int)=7)=False by decide,show((2:Int)=8)=False by decide,if_true,if_false,or_true,true_or,or_self,or_false,false_or,not_true]
  constructor
  ·intro h; simp_all
  intro h;by_cases h0:(qj6 d).1=0
  ·right; exact⟨trivial,h0⟩
  left; simp_all
 by_cases h3:a=3
 ·subst h3
  simp only[qqc,nl,hb,qab.mk.injEq,ne_eq,show((3:Int)=1)=False by decide,show((3:Int)=2)=False by decide,show((3:Int)=3)=True by decide,show((3:Int)=9)=False by decide,show((3:Int)=4)=False by decide,show((3:Int)=5)=False by decide,show((3:Int)=6)=False by decide,show((3:Int)=7)=False by decide,show((3:Int)=8)=False by decide,if_true,if_false,or_true,true_or,or_self,or_false,false_or,not_true]
  constructor
  ·intro h; simp_all
  intro h
  left; simp_all
 by_cases h9:a=9
 ·subst h9
  simp only[qqc,nl,hb,qab.mk.injEq,ne_eq,show((9:Int)=1)=False by decide,show((9:Int)=2)=False by decide,show((9:Int)=3)=False by decide,show((9:Int)=9)=True by decide,show((9:Int)=4)=False by decide,show((9:Int)=5)=False by decide,show((9:Int)=6)=False by decide,show((9:Int)=7)=False by decide,show((9:Int)=8)=False by decide,if_true,if_false,or_true,true_or,or_self,or_false,false_or,not_true]
  constructor
  ·intro h; simp_all
  intro h
  left; simp_all
 by_cases h4:a=4
 ·subst h4
  simp only[qqc,nl,hb,qab.mk.injEq,ne_eq,show((4:Int)=1)=False by decide,show((4:Int)=2)=False by decide,show((4:Int)=3)=False by decide,show((4:Int)=9)=False by decide,show((4:Int)=4)=True by decide,show((4:Int)=5)=False by decide,show((4:Int)=6)=False by decide,show((4:Int)=7)=False by decide,show((4:Int)=8)=False by decide,if_true,if_false,or_true,true_or,or_self,or_false,false_or,not_true]
  constructor
  ·intro h; simp_all
  intro h
  left; simp_all
 by_cases h5:a=5
 ·subst h5
  simp only[qqc,nl,hb,qab.mk.injEq,ne_eq,show((5:Int)=1)=False by decide,show((5:Int)=2)=False by decide,show((5:Int)=3)=False by decide,show((5:Int)=9)=False by decide,show((5:Int)=4)=False by decide,show((5:Int)=5)=True by decide,show((5:Int)=6)=False by decide,show((5:Int)=7)=False by decide,show((5:Int)=8)=False by decide,if_true,if_false,or_true,true_or,or_self,or_false,false_or,not_true]
  constructor
  ·intro h; simp_all
  intro h
  left; simp_all
 by_cases h6:a=6
 ·subst h6
  simp only[qqc,nl,hb,qab.mk.injEq,ne_eq,show((6:Int)=1)=False by decide,show((6:Int)=2)=False by decide,show((6:Int)=3)=False by decide,show((6:Int)=9)=False by decide,show((6:Int)=4)=False by decide,show((6:Int)=5)=False by decide,show((6:Int)=6)=True by decide,show((6:Int)=7)=False by decide,show((6:Int)=8)=False by decide,if_true,if_false,or_true,true_or,or_self,or_false,false_or,not_true]
  constructor
  ·intro h; simp_all
  intro h
  left; simp_all
 by_cases h7:a=7
 ·subst h7
  simp only[qqc,nl,hb,qab.mk.injEq,ne_eq,show((7:Int)=1)=False by decide,show((7:Int)=2)=False by decide,show((7:Int)=3)=False by decide,show((7:Int)=9)=False by decide,show((7:Int)=4)=False by decide,show((7:Int)=5)=False by decide,show((7:Int)=6)=False by decide,show((7:Int)=7)=True by decide,show((7:Int)=8)=False by decide,if_true,if_false,or_true,true_or,or_self,or_false,false_or,not_true]
  constructor
  ·intro h; simp_all
  intro h
  left; simp_all
 by_cases h8:a=8
 ·subst h8
  simp only[qqc,nl,hb,qab.mk.injEq,ne_eq,show((8:Int)=1)=False by decide,show((8:Int)=2)=False by decide,show((8:Int)=3)=False by decide,show((8:Int)=9)=False by decide,show((8:Int)=4)=False by decide,show((8:Int)=5)=False by decide,show((8:Int)=6)=False by decide,show((8:Int)=7)=False by decide,show((8:Int)=8)=True by decide,if_true,if_false,or_true,true_or,or_self,or_false,false_or,not_true]
  constructor
  ·intro h; simp_all
  intro h
  left; simp_all
 simp only[qqc,nl,hb,qab.mk.injEq,ne_eq,if_neg h1,if_neg h2,if_neg h3,if_neg h9,h4,h5,h6,h7,if_neg h8,or_self,if_false,not_true,false_or]
 constructor
 ·intro h; simp_all
 intro h; left; simp_all
end W
end
section
open Go Ax
namespace W
abbrev PG:=List qb4×Int×Int
def g3 (g:qbb):PG:=(g.parts,g.least,g.most)
def qx8 (c:qab):List PG:=
 if c.kind=1 then[(c.paths.map .path,1,1048576),(c.where_.map .expr,0,1)]
 else if c.kind=2 then[([.expr c.e],1,1),([.name c.var_],1,1)]
 else if c.kind=3 then[(c.items.map .item,1,1048576),(c.order.map .sorted,0,1048576),(c.skip.map .expr,0,1),(c.limit.map .expr,0,1),(c.where_.map .expr,0,1)]
 else if c.kind=9 then[(c.items.map .item,1,1048576),(c.order.map .sorted,0,1048576),(c.skip.map .expr,0,1),(c.limit.map .expr,0,1)]
 else if c.kind=4 then[(c.paths.map .path,1,1048576)]
 else if c.kind=5 then[(c.paths.map .path,1,1)]
 else if c.kind=6\/c.kind=7 then[(c.sets.map (fun s=>.change ⟨s,c.kind==6⟩),1,1048576)]
 else if c.kind=8 then[(c.vars.map .name,1,1048576)]
 else[]
def q74 (c:qab):Prop:=c.kind=5/\∃ p,c.paths=[p]/\p.edges≠[]
def q9d (c:qab) (o:Option (List qbb×Bool)):Prop:=
 (q74 c/\o=some ([],false))\/(¬ q74 c/\∃ gl b,o=some (gl,b)/\gl.map g3=qx8 c/\(b=true->zda c=c)/\(zda c=c->b=true\/(c.kind=2/\(qj6 c.e).1=0)))
section
variable {n:Nat} (hn:n<=1073741824) {x1:Int} {x2:List qa9} {x3:List qaa} {x4:Int} {x5:List UInt8} {x6:Int} {x7:Bool} {x8:Int} {x9:List UInt8} {x10:List Val} {x11:List (List UInt8)} {x12:List (List UInt8)} {x13:List qaa} {x14:List UInt8} {x15:List qbn} {x16:Bool} {x17:List qat} {x18:List qaa} {x19:List qaa} {x20:List qaf} {x21:List (List UInt8)} {x22:Bool}
include hn
theorem zhd (h:qka ⟨x4,x5,⟨x6,x7,x8,x9,x10,x11⟩,x12,x13⟩<n) {w:List UInt8} (hw:w.length<=9) :
  q9d ⟨x1,x2,x3,⟨x4,x5,⟨x6,x7,x8,x9,x10,x11⟩,x12,x13⟩,x14,x15,x16,x17,x18,x19,x20,x21,x22⟩
   (qh5 n x1 x2 x3 x4 x5 x6 x7 x8 x9 x10 x11 x12 x13 x14 x15 x16 x17 x18 x19 x20 x21 x22 (x2.map .path) (x3.map .expr) (x15.map .item) (x17.map .sorted) (x18.map .expr) (x19.map .expr) (x20.map fun s=>.change ⟨s,x1==6⟩) (x21.map .name) w):=by
 obtain⟨b,hb,h1,h2⟩:=znt hn (c:=⟨x1,x2,x3,⟨x4,x5,⟨x6,x7,x8,x9,x10,x11⟩,x12,x13⟩,x14,x15,x16,x17,x18,x19,x20,x21,x22⟩) h;have hm:(100:Int)<=qhj:=by unfold qhj; decide
 unfold qh5;by_cases k1:x1=1
 ·subst k1
  rw[kbs,kct];rw[show zda _=_ from rfl]at hb;exact .inr ⟨fun h=>absurd (show((1:Int)=5)from h.1) (by decide),_,b,Eq.trans (congrArg (fun o=>bnd o _) hb) rfl,rfl,h1,h2⟩
 rw[kbf.2 k1,kcf];by_cases k2:x1=2
 ·subst k2
  rw[kbs,kct];exact .inr ⟨fun h=>absurd (show((2:Int)=5)from h.1) (by decide),_,b,Eq.trans (congrArg (fun o=>bnd o _) hb) rfl,rfl,h1,h2⟩
 rw[kbf.2 k2,kcf];by_cases k3:x1=3
 ·subst k3
  rw[kbs,kct];unfold qh6;generalize qhj=M at hm ⊢;rw[kct,qa0 (kdt (by simp only[ja,jc]; omega)),qa0 (by simp[qbb.rows]),kbs,kct,qa0 (kdt (by simp only[ja,jc]; omega)),qa0 (by simp[qbb.rows])];simp only[List.cons_append,jv,List.getElem?_cons_zero,qad,List.set_cons_zero];rw[qa0 (by simp[qbb.rows])];unfold qh7;exact .inr ⟨fun h=>absurd (show((3:Int)=5)from h.1) (by decide),_,b,Eq.trans (congrArg (fun o=>bnd o _) hb) rfl,rfl,h1,h2⟩
 rw[kbf.2 k3,kcf];unfold qh6;by_cases k9:x1=9
 ·subst k9
  generalize qhj=M at hm ⊢;rw[kbs,kct,qa0 (kdt (by simp only[ja,jc]; omega)),qa0 (by simp[qbb.rows]),show((9:Int)==3)=false from rfl,kcf];unfold qh7;exact .inr ⟨fun h=>absurd (show((9:Int)=5)from h.1) (by decide),_,b,Eq.trans (congrArg (fun o=>bnd o _) hb) rfl,rfl,h1,h2⟩
 rw[kbf.2 k9,kcf];by_cases k4:x1=4
 ·subst k4
  rw[kbs,kct];exact .inr ⟨fun h=>absurd (show((4:Int)=5)from h.1) (by decide),_,b,Eq.trans (congrArg (fun o=>bnd o _) hb) rfl,rfl,h1,h2⟩
 rw[kbf.2 k4,kcf];by_cases k5:x1=5
 ·subst k5
  rw[kbs,kct];have good:∀ hng:¬ q74 ⟨5,x2,x3,⟨x4,x5,⟨x6,x7,x8,x9,x10,x11⟩,x12,x13⟩,x14,x15,x16,x17,x18,x19,x20,x21,x22⟩,q9d ⟨5,x2,x3,⟨x4,x5,⟨x6,x7,x8,x9,x10,x11⟩,x12,x13⟩,x14,x15,x16,x17,x18,x19,x20,x21,x22⟩ (bnd (qeb n ⟨5,x2,x3,⟨x4,x5,⟨x6,x7,x8,x9,x10,x11⟩,x12,x13⟩,x14,x15,x16,x17,x18,x19,x20,x21,x22⟩ (zda ⟨5,x2,x3,⟨x4,x5,⟨x6,x7,x8,x9,x10,x11⟩,x12,x13⟩,x14,x15,x16,x17,x18,x19,x20,x21,x22⟩)) fun a=>
    some ([qbb.mk ([77,69,82,71,69,32]:List UInt8) (x2.map .path) (1:Int) (1:Int)],a)):=fun hng=>
   .inr ⟨hng,_,b,Eq.trans (congrArg (fun o=>bnd o _) hb) rfl,rfl,h1,h2⟩
  match x2 with
  | []=>exact good (by rintro⟨_,p,hp,_⟩; cases hp)
  | [⟨nodes,[]⟩]=>exact good (by rintro⟨_,p,hp,he⟩; cases hp; exact he rfl)
  | [⟨nodes,e::es⟩]=>
   refine .inl ⟨⟨rfl,_,rfl,by simp⟩,?_⟩;have e2:decide ((((qag.rows (e::es)).length:Nat):Int)>0)=true:=kdt (by rw[qf4]; simp only[ja]; omega);have e1:((((qa9.rows [⟨nodes,e::es⟩]).length:Nat):Int)==(1:Int))=true:=rfl;rw[e1,qc3,qr8,qad];simp only[e2,kct]
  | p::q::l=>
   have e1:((((qa9.rows (p::q::l)).length:Nat):Int)==(1:Int))=false:=by rw[qcp]; simp only[ja]; rw[kbf]; omega
   rw[e1,zff,qad];exact good (by rintro⟨_,p,hp,_⟩; cases hp)
 rw[kbf.2 k5,kcf];unfold qkw qji qjj;by_cases k6:x1=6
 ·subst k6
  rw[kbs,kct,kct,show((6:Int)==7)=false from rfl,kcf];exact .inr ⟨fun h=>absurd (show((6:Int)=5)from h.1) (by decide),_,b,Eq.trans (congrArg (fun o=>bnd o _) hb) rfl,rfl,h1,h2⟩
 rw[kbf.2 k6,kcf];by_cases k7:x1=7
 ·subst k7
  rw[kbs,kct,kct];exact .inr ⟨fun h=>absurd (show((7:Int)=5)from h.1) (by decide),_,b,Eq.trans (congrArg (fun o=>bnd o _) hb) rfl,rfl,h1,h2⟩
 rw[kbf.2 k7,kcf];by_cases k8:x1=8
 ·subst k8
  rw[kbs,kct];cases x22 with
  | true=>
   rw[kct];exact .inr ⟨fun h=>absurd (show((8:Int)=5)from h.1) (by decide),_,b,Eq.trans (congrArg (fun o=>bnd o _) hb) rfl,rfl,h1,h2⟩
  | false=>
   rw[kcf];exact .inr ⟨fun h=>absurd (show((8:Int)=5)from h.1) (by decide),_,b,Eq.trans (congrArg (fun o=>bnd o _) hb) rfl,rfl,h1,h2⟩
 rw[kbf.2 k8,kcf];have eo:zda ⟨x1,x2,x3,⟨x4,x5,⟨x6,x7,x8,x9,x10,x11⟩,x12,x13⟩,x14,x15,x16,x17,x18,x19,x20,x21,x22⟩=qqc x1:=by
  unfold zda;simp only[k1,k2,k3,k9,k4,k5,k6,k7,k8,if_false,or_self]
 refine .inr ⟨fun h=>absurd h.1 k5,[],b,Eq.trans (congrArg (fun o=>bnd o fun x=>some (([]:List qbb),x)) (show _=some b from ?_)) rfl,?_,h1,h2⟩
 ·rw[← hb,eo]; rfl
 unfold qx8;simp only[k1,k2,k3,k9,k4,k5,k6,k7,k8,if_false,or_self];rfl
end
theorem zo0 {n:Nat} (hn:n<=1073741824) {c:qab} (h:qda c<n):q9d c (qmc n c):=by
 have hp:=qbi qiq (fun p=>by unfold qiq; omega) c.paths
 have hi:=qbi qta (fun p=>by unfold qta; omega) c.items
 have ho:=qbi qia (fun p=>by unfold qia; omega) c.order
 have hs:=qbi qim (fun p=>by unfold qim; omega) c.sets
 have hv:=qee c.vars;have h3:=qd3 c.where_;have h4:=qd3 c.skip;have h5:=qd3 c.limit;unfold qda qwa at h;obtain⟨x1,x2,x3,⟨x4,x5,⟨x6,x7,x8,x9,x10,x11⟩,x12,x13⟩,x14,x15,x16,x17,x18,x19,x20,x21,x22⟩:=c;simp only at h hp hi ho hs hv h3 h4 h5;unfold qmc;simp only[zos hn (l:=x2) (by omega),zot hn (l:=x3) (by omega),zou hn (l:=x15) (by omega),zov hn (l:=x17) (by omega),zow hn (l:=x18) (by omega),zox hn (l:=x19) (by omega),zoy hn (l:=x21) (by omega),zoz hn (l:=x20) (by omega),qad];cases x16 with
 | true=>exact zhd hn (by omega) (by decide)
 | false=>exact zhd hn (by omega) (by decide)
end W
end
section
open Go Ax
namespace W
def qxz (n:Nat) (x:qaa):Bool:=(qc5 n x 32).getD false
def q5y (n:Nat) (p:qa9):Bool:=(qiv n p).getD false
def zfq (n:Nat) (f:Bool) (s:qaf):Bool:=(qg0 n ⟨s,f⟩).getD false
def zkc (n:Nat):qb4->Bool
 | .path p=>q5y n p
 | .expr x=>qxz n x
 | .item i=>qdg i.as_&&qxz n i.e
 | .sorted s=>qxz n s.e
 | .name s=>qdg s
 | .change c=>zfq n c.set_ c.setItem
def q7x:qb4->Nat
 | .path p=>qiq p
 | .expr x=>qka x
 | .item i=>qta i
 | .sorted s=>qia s
 | .name s=>1+s.length
 | .change c=>qim c.setItem
theorem zfd {n:Nat} (hn:n<=1073741824) {x:qaa} (h:40+qka x<n):qg9 n x=some (qxz n x):=by
 obtain⟨b,h1,_,_⟩:=q0l hn h;unfold qxz;rw[h1];obtain⟨x1,x2,⟨x3,x4,x5,x6,x7,x8⟩,x9,x10⟩:=x;simp only[qg9,h1,qad,jW]
theorem zsu {n:Nat} (hn:n<=1073741824) {p:qb4} (h:42+q7x p<n):qqb n p=some (zkc n p):=by
 cases p with
 | path p=>
  obtain⟨b,h1,_,_⟩:=zfv hn (p:=p) h;simp only[qqb,zkc,q5y,h1,jW]
 | expr x=>exact zfd hn (by simp only[q7x]at h; omega)
 | item i=>
  simp only[q7x,qta]at h;have h1:=zfd hn (x:=i.e) (by omega);have h2:=qha (s:=i.as_) (n:=n) (by omega) hn;obtain⟨⟨d,o,⟨q,t,u,v,w,y⟩,z,j⟩,a⟩:=i;simp only at h1 h2;simp only[qqb,qpm,h1,h2,qad,zkc];cases qdg a<;>rfl
 | sorted s=>
  simp only[q7x,qia]at h;have h1:=zfd hn (x:=s.e) (by omega);obtain⟨⟨d,o,⟨q,t,u,v,w,y⟩,z,j⟩,a⟩:=s;simp only at h1;simp only[qqb,qmm,h1,qad,zkc]
 | name s=>
  simp only[q7x]at h;have h2:=qha (s:=s) (n:=n) (by omega) hn;simp only[qqb,qpn,h2,qad,zkc]
 | change c=>
  obtain⟨s,f⟩:=c;simp only[q7x,qim]at h;obtain⟨b,h1,_,_⟩:=q9x hn (s:=s) (by omega) f;simp only[qqb,zkc,zfq,h1,jW]
theorem qvl {A:Type} (g:A->Bool) (r:Option Bool):∀ l:List A,orE (qe4 (fun s=>if g s then none else some false) l) r=bif l.all g then r else some false
 | []=>rfl
 | a::l=>by
  simp only[qe4,jw];cases g a with
  | true=>simpa using qvl g r l
  | false=>rfl
@[simp] theorem qxv (l:List qbb):(qbb.rows l).length=l.length:=by simp[qbb.rows]
theorem zmm {n:Nat} (hn:n<=1073741824) {l:List qb4} (hp:∀ p∈l,42+q7x p<n) (hl:l.length<n) (nx2:Int->Option Bool) {k:Nat} (hk:k<n) :
  qam (qg8 n l nx2 (k:Int)) n (0:Int)=bif l.all (zkc n)then nx2 ((k+1:Nat):Int)else some false:=by
 have e:=qc4 (B:=qg8 n l nx2 (k:Int)) (fun k=>((k:Nat):Int)) (l:=l) (fun p=>if zkc n p then none else some false) (rest:=nx2 ((k+1:Nat):Int))
  (fun j x nx hx=>by
   have hj:=qbl hx;simp only[qg8,qvm,qa5 hj,kct,qaj hx,qad,zsu hn (hp x (qbf hx))];rw[qb7 (by omega)];cases zkc n x<;>rfl)
  (fun nx=>by
   simp only[qg8,qvm,qar,kcf];rw[qb7 (by omega)]) (n:=n) hl
 refine Eq.trans e ?_;rw[qvl]
def gOk (n:Nat) (g:PG):Bool:=!(bif decide (((g.1.length:Nat):Int)<g.2.1)then true else decide (((g.1.length:Nat):Int)>g.2.2))&&g.1.all (zkc n)
theorem zjl {n:Nat} (hn:n<=1073741824) {gl:List qbb} (hg:∀ g∈gl,g.parts.length<n/\∀ p∈g.parts,42+q7x p<n) (hl:gl.length<n) (nx1:Int->Option Bool) {k:Nat} (hk:k<n) :
  qam (qg7 n gl nx1 (k:Int)) n (0:Int)=bif(gl.map g3).all (gOk n)then nx1 ((k+1:Nat):Int)else some false:=by
 have core:∀ (t a:Bool) (X:Option Bool),(bif t then some false else bif a then X else some false)=orE (if(!t&&a)then none else some false) X:=by
  intro t a X;cases t<;>cases a<;>rfl
 have e:=qc4 (B:=qg7 n gl nx1 (k:Int)) (fun k=>((k:Nat):Int)) (l:=gl) (fun g=>if gOk n (g3 g)then none else some false) (rest:=nx1 ((k+1:Nat):Int))
  (fun j x nx hx=>by
   have hj:=qbl hx;obtain⟨h1,h2⟩:=hg x (qbf hx);obtain⟨w,parts,least,most⟩:=x;simp only at h1 h2;have e3:=zmm hn h2 h1 nx (k:=j) (by omega);simp only[qg7,qxv,qvm,qa5 hj,kct,qaj hx,qad,e3];exact core _ _ _)
  (fun nx=>by
   simp only[qg7,qxv,qar,kcf];rw[qb7 (by omega)]) (n:=n) hl
 refine Eq.trans e ?_;rw[qvl,List.all_map];rfl
theorem zkn {c:qab} {m:Nat} (h:qda c<=m):∀ g∈qx8 c,g.1.length<=m/\∀ p∈g.1,q7x p<=m:=by
 have hp:=qbi qiq (fun p=>by unfold qiq; omega) c.paths
 have hi:=qbi qta (fun p=>by unfold qta; omega) c.items
 have ho:=qbi qia (fun p=>by unfold qia; omega) c.order
 have hs:=qbi qim (fun p=>by unfold qim; omega) c.sets
 have hv:=qee c.vars;have h3:=qd3 c.where_;have h4:=qd3 c.skip;have h5:=qd3 c.limit;have mp:∀ p∈c.paths,qiq p<=m:=fun p hm=>by have:=qbt qiq hm; unfold qda qwa at h; omega
 have mi:∀ p∈c.items,qta p<=m:=fun p hm=>by have:=qbt qta hm; unfold qda at h; omega
 have mo:∀ p∈c.order,qia p<=m:=fun p hm=>by have:=qbt qia hm; unfold qda at h; omega
 have ms:∀ p∈c.sets,qim p<=m:=fun p hm=>by have:=qbt qim hm; unfold qda at h; omega
 have mv:∀ p∈c.vars,1+p.length<=m:=fun p hm=>by have:=qbt (fun k:List UInt8=>1+k.length) hm; unfold qda qwe at h; omega
 have mw:∀ p∈c.where_,qka p<=m:=fun p hm=>by have:=qhi hm; unfold qda at h; omega
 have mk:∀ p∈c.skip,qka p<=m:=fun p hm=>by have:=qhi hm; unfold qda at h; omega
 have ml:∀ p∈c.limit,qka p<=m:=fun p hm=>by have:=qhi hm; unfold qda at h; omega
 have me:qka c.e<=m:=by unfold qda at h; omega
 have mr:1+c.var_.length<=m:=by unfold qda at h; omega
 have hb:1<=m:=by unfold qda at h; omega
 unfold qda qwa at h;have am:∀ {A:Type} (l:List A) (f:A->qb4) (hl:l.length<=m) (hf:∀ a∈l,q7x (f a)<=m) (least most:Int),(l.map f,least,most).1.length<=m/\∀ p∈(l.map f,least,most).1,q7x p<=m:=by
  intro A l f hl hf least most;refine⟨by simpa using hl,fun p hp=>?_⟩;obtain⟨a,ha,rfl⟩:=List.mem_map.1 hp;exact hf a ha
 have gp:=fun a b=>am c.paths .path (by omega) mp a b
 have gw:=fun a b=>am c.where_ .expr (by omega) mw a b
 have gk:=fun a b=>am c.skip .expr (by omega) mk a b
 have gl:=fun a b=>am c.limit .expr (by omega) ml a b
 have gi:=fun a b=>am c.items .item (by omega) mi a b
 have go:=fun a b=>am c.order .sorted (by omega) mo a b
 have gv:=fun a b=>am c.vars .name (by omega) mv a b
 have gs:=fun a b=>am c.sets (fun s=>.change ⟨s,c.kind==6⟩) (by omega) ms a b
 have g1:=fun a b=>am [c.e] .expr (by simpa using hb) (fun a ha=>by simp at ha; subst ha; exact me) a b
 have g2:=fun a b=>am [c.var_] .name (by simpa using hb) (fun a ha=>by simp at ha; subst ha; exact mr) a b
 intro g hg;unfold qx8 at hg
 repeat' split at hg
 all_goals
  simp only[jg,List.not_mem_nil,or_false]at hg
 ·rcases hg with rfl|rfl
  ·exact gp _ _
  exact gw _ _
 ·rcases hg with rfl|rfl
  ·exact g1 _ _
  exact g2 _ _
 ·rcases hg with rfl|rfl|rfl|rfl|rfl
  ·exact gi _ _
  ·exact go _ _
  ·exact gk _ _
  ·exact gl _ _
  exact gw _ _
 ·rcases hg with rfl|rfl|rfl|rfl
  ·exact gi _ _
  ·exact go _ _
  ·exact gk _ _
  exact gl _ _
 ·subst hg; exact gp _ _
 ·subst hg; exact gp _ _
 ·subst hg; exact gs _ _
 subst hg; exact gv _ _
end W
end
section
open Go Ax
namespace W
theorem q94 {n:Nat} (hn:n<=1073741824) {l:List qaa} (h:40+qfz l<n) (m:Int):qmz n l m=some (l.all (qxz n)&&decide (((l.length:Nat):Int)<=m)):=zr7 hn h m
theorem zfx {n:Nat} (hn:n<=1073741824) {x:qaa} (h:40+qka x<n):qfm n x=some (qxz n x):=by
 obtain⟨b,h1,h2,_⟩:=q0l hn h;unfold qxz;rw[h1,h2]; rfl
theorem zsx {n:Nat} (hn:n<=1073741824) {p:qa9} (h:42+qiq p<n):qno n p=some (q5y n p):=by
 obtain⟨b,h1,h2,_⟩:=zfv hn h;unfold q5y;rw[h1,h2]; rfl
theorem zvm {n:Nat} (hn:n<=1073741824) {s:qaf} (h:42+qim s<n) (f:Bool):qp2 n s f=some (zfq n f s):=by
 unfold qim at h;obtain⟨b,h1,h2,_⟩:=q9x hn (s:=s) (by omega) f;unfold zfq;rw[h1,h2]; rfl
def exS (n:Nat) (l:List qaa):Bool:=l.all (qxz n)&&decide (((l.length:Nat):Int)<=1)
def zkf (n:Nat) (c:qab):Bool:=c.items.all (fun i=>qdg i.as_&&qxz n i.e)&&(c.order.all (fun s=>qxz n s.e)&&(decide (((c.items.length:Nat):Int)>0)&&(exS n c.skip&&exS n c.limit)))
theorem zs8 {n:Nat} (hn:n<=1073741824) {c:qab} (h:42+qda c<n):qwm n c=some (zkf n c):=by
 have hi:=qbi qta (fun p=>by unfold qta; omega) c.items
 have ho:=qbi qia (fun p=>by unfold qia; omega) c.order
 have mi:∀ p∈c.items,42+qta p<n:=fun p hm=>by have:=qbt qta hm; unfold qda at h; omega
 have mo:∀ p∈c.order,42+qia p<n:=fun p hm=>by have:=qbt qia hm; unfold qda at h; omega
 have e1:=q94 hn (l:=c.skip) (by unfold qda at h; omega) 1;have e2:=q94 hn (l:=c.limit) (by unfold qda at h; omega) 1;have a1:c.items.length<n:=by unfold qda at h; omega
 have a2:c.order.length<n:=by unfold qda at h; omega
 clear h;unfold zkf exS;obtain⟨x1,x2,x3,⟨x4,x5,⟨x6,x7,x8,x9,x10,x11⟩,x12,x13⟩,x14,g,x16,t,j,o,x20,x21,x22⟩:=c;simp only at hi ho mi mo e1 e2 a1 a2 ⊢;have l2:=qc4 (B:=qnr n t g j o) (fun k=>((k:Nat):Int)) (l:=t) (fun s=>if qxz n s.e then none else some false)
  (rest:=some (decide (((g.length:Nat):Int)>0)&&((j.all (qxz n)&&decide (((j.length:Nat):Int)<=1))&&(o.all (qxz n)&&decide (((o.length:Nat):Int)<=1)))))
  (fun k x nx hx=>by
   have hk:=qbl hx;have h1:=zfx hn (x:=x.e) (by have:=mo x (qbf hx); unfold qia at this; omega);obtain⟨⟨v,y,⟨z,A,C,D,E,F⟩,G,w⟩,u⟩:=x;simp only at h1;simp only[qnr,qat.rows,jm,qa5 hk,kct,qaj hx,qad,h1];rw[qb7 (by omega)];cases qxz n _<;>rfl)
  (fun nx=>by
   simp only[qnr,qat.rows,qbn.rows,jm,qar,kcf,e1,e2];generalize decide (((g.length:Nat):Int)>0)=d;generalize (j.all (qxz n)&&decide (((j.length:Nat):Int)<=1))=p;generalize (o.all (qxz n)&&decide (((o.length:Nat):Int)<=1))=q;cases d<;>cases p<;>cases q<;>rfl) (n:=n) a2
 rw[qvl]at l2;have l1:=qc4 (B:=qnq n g t j o) (fun k=>((k:Nat):Int)) (l:=g) (fun i=>if(qdg i.as_&&qxz n i.e)then none else some false) (rest:=_)
  (fun k x nx hx=>by
   have hk:=qbl hx;have hb:=mi x (qbf hx);unfold qta at hb;have h1:=zfx hn (x:=x.e) (by omega);have h2:=qhm (s:=x.as_) (n:=n) (by omega) (by omega) hn;obtain⟨⟨v,y,⟨z,A,C,D,E,F⟩,G,w⟩,u⟩:=x;simp only at h1 h2;simp only[qnq,qbn.rows,jm,qa5 hk,kct,qaj hx,qad,h1,h2];rw[qb7 (by omega)];cases qdg u with
   | false=>rfl
   | true=>
    simp only[jq,jp,qc3,qad,h1,kcf];cases qxz n _<;>rfl)
  (fun nx=>by
   simp only[qnq,qbn.rows,jm,qar,kcf];exact l2) (n:=n) a1
 rw[qvl]at l1;unfold qwm;refine Eq.trans l1 ?_;generalize g.all _=a;generalize t.all _=b;cases a<;>cases b<;>rfl
def q39 (n:Nat) (c:qab):Bool:=
 if c.kind=1 then decide (((c.paths.length:Nat):Int)>0)&&exS n c.where_
 else if c.kind=2 then qxz n c.e&&qdg c.var_
 else if c.kind=3\/c.kind=9 then zkf n c&&exS n c.where_
 else if c.kind=4 then decide (((c.paths.length:Nat):Int)>0)
 else if c.kind=5 then(match c.paths with|[p]=>(((p.edges.length:Nat):Int)==0)|_=>false)
 else if c.kind=6\/c.kind=7 then c.sets.all (zfq n (c.kind==6))&&decide (((c.sets.length:Nat):Int)>0)
 else if c.kind=8 then c.vars.all qdg&&decide (((c.vars.length:Nat):Int)>0)
 else false
theorem zhu {n:Nat} (hn:n<=1073741824) {c:qab} (h:42+qda c<n):∃ s,(s=true↔zda c=c)/\qgk n c=some (s&&(c.paths.all (q5y n)&&q39 n c)):=by
 have hp:=qbi qiq (fun p=>by unfold qiq; omega) c.paths
 have hs:=qbi qim (fun p=>by unfold qim; omega) c.sets
 have hi:=qbi qta (fun p=>by unfold qta; omega) c.items
 have ho:=qbi qia (fun p=>by unfold qia; omega) c.order
 have hv:=qee c.vars;have mp:∀ p∈c.paths,42+qiq p<n:=fun p hm=>by have:=qbt qiq hm; unfold qda qwa at h; omega
 have mi:∀ p∈c.items,qka p.e<n:=fun p hm=>by have:=qbt qta hm; have e:qta p=1+p.as_.length+qka p.e:=rfl; unfold qda at h; omega
 have mo:∀ p∈c.order,qka p.e<n:=fun p hm=>by have:=qbt qia hm; have e:qia p=1+qka p.e:=rfl; unfold qda at h; omega
 have ms:∀ p∈c.sets,42+qim p<n:=fun p hm=>by have:=qbt qim hm; unfold qda at h; omega
 have ms':∀ p∈c.sets,qka p.e<n:=fun p hm=>by have:=ms p hm; unfold qim at this; omega
 have mv:∀ p∈c.vars,42+p.length<n:=fun p hm=>by have:=qbt (fun k:List UInt8=>1+k.length) hm; unfold qda qwe at h; omega
 have hrow:=zs8 hn h;have e1:=q94 hn (l:=c.where_) (by unfold qda at h; omega) 1;have e2:=zfx hn (x:=c.e) (by unfold qda at h; omega);have e3:=qhm (s:=c.var_) (n:=n) (by unfold qda at h; omega) (by omega) hn;have h40:40<n:=by omega
 unfold qda qwa at h;have b1:([]:List qaa).length=0:=rfl;have eb:qka zct=4:=rfl;obtain⟨s,hs1,hs2⟩:∃ b,qg4 n (zda c) c=some b/\(b=true↔zda c=c):=by
  have z1:∀ {A:Type} {P:A->Prop},∀ a∈([]:List A),P a:=fun a ha=>by cases ha
  have z2:qfz []<n:=by show 1<n; omega
  unfold zda
  repeat' split
  all_goals
   refine zf0 hn ?_ ?_ ?_ ?_ ?_ ?_ ?_ ?_ ?_ ?_ ?_ ?_ ?_<;>simp only[qqc]<;>first|exact z1|exact z2|exact mi|exact mo|exact ms'|(intro p hm; have:=mp p hm; omega)|(simp only[jc,eb]; omega)|omega
 refine⟨s,hs2,?_⟩;have ho:=zwt n c;rw[zvj]at ho;have l1:qgk n c=(bif !s then some false else bif c.paths.all (q5y n)then some (q39 n c)else some false):=by
  clear hs2;obtain⟨g,t,I,⟨J,K,⟨M,N,O,Q,u,v⟩,w,y⟩,z,C,D,E,F,G,j,o,H⟩:=c;simp only at hp hs hi ho hv mp ms mv e1 e2 e3 h;have eta:∀ (d:qab) {R:Type} (f:qab->Option R),(match d with|⟨S,T,U,⟨V,W,⟨X,Y,Z,a0,a1,a2⟩,a3,a4⟩,a5,a6,a7,a8,a9,b0,b2,b3,b4⟩=>f ⟨S,T,U,⟨V,W,⟨X,Y,Z,a0,a1,a2⟩,a3,a4⟩,a5,a6,a7,a8,a9,b0,b2,b3,b4⟩)=f d:=by
   intro d R f;obtain⟨g,t,I,⟨J,K,⟨M,N,O,Q,u,v⟩,w,y⟩,z,C,D,E,F,G,j,o,H⟩:=d;rfl
  unfold qgk;simp only[ho,qad];refine Eq.trans (eta _ (fun d=>bnd (qg4 n d _) fun b5=>bif(!b5)then some false else qam (qfn n t g I J K M N O Q u v w y z C D E F G j o H) n (0:Int))) ?_
  simp only[hs1,qad];congr 1;have L:=qc4 (B:=qfn n t g I J K M N O Q u v w y z C D E F G j o H) (fun k=>((k:Nat):Int)) (l:=t) (fun p=>if q5y n p then none else some false)
   (rest:=some (q39 n ⟨g,t,I,⟨J,K,⟨M,N,O,Q,u,v⟩,w,y⟩,z,C,D,E,F,G,j,o,H⟩))
   (fun k x nx hx=>by
    have hk:=qbl hx;have h1:=zsx hn (mp x (qbf hx));obtain⟨y1,y2⟩:=x;simp only[qfn,qcp,qa5 hk,kct,qaj hx,qad,h1];rw[qb7 (by omega)];cases q5y n _<;>rfl)
   (fun nx=>by
    have A:∀ (d p:Bool),(bnd (qaw d (some p)) fun b6=>some (bif d then b6 else false))=some (d&&p):=by intro d p; cases d<;>cases p<;>rfl
    have l3:=qc4 (B:=qfo n j g) (fun k=>((k:Nat):Int)) (l:=j) (fun s=>if zfq n (g==6) s then none else some false) (rest:=some (decide (((j.length:Nat):Int)>0)))
     (fun k x nx hx=>by
      have hk:=qbl hx;have h1:=zvm hn (ms x (qbf hx)) (g==6);obtain⟨z1,z2,z3,⟨y1,y2,⟨y3,y4,y5,y6,y7,y8⟩,y9,y10⟩⟩:=x;simp only[qfo,qaf.rows,jm,qa5 hk,kct,qaj hx,qad,h1];rw[qb7 (by omega)];cases zfq n _ _<;>rfl)
     (fun nx=>by simp only[qfo,qaf.rows,jm,qar,kcf]) (n:=n) (by omega)
    rw[qvl]at l3;have l3':qam (qfo n j g) n (0:Int)=some (j.all (zfq n (g==6))&&decide (((j.length:Nat):Int)>0)):=by
     refine Eq.trans l3 ?_;cases j.all (zfq n (g==6))<;>rfl
    have l4:=qc4 (B:=qfp n o) (fun k=>((k:Nat):Int)) (l:=o) (fun s=>if qdg s then none else some false) (rest:=some (decide (((o.length:Nat):Int)>0)))
     (fun k x nx hx=>by
      have hk:=qbl hx;have h1:=qhm (s:=x) (n:=n) (by have:=mv x (qbf hx); omega) (by omega) hn;simp only[qfp,qay,qa5 hk,kct,qaj hx,qad,h1];rw[qb7 (by omega)];cases qdg x<;>rfl)
     (fun nx=>by simp only[qfp,qay,qar,kcf]) (n:=n) (by omega)
    rw[qvl]at l4;have l4':qam (qfp n o) n (0:Int)=some (o.all qdg&&decide (((o.length:Nat):Int)>0)):=by
     refine Eq.trans l4 ?_;cases o.all qdg<;>rfl
    simp only[qfn,qi2,qi3,qcp,qar,kcf,e1,e2,e3,hrow,qad,l3',l4'];unfold q39 exS;simp only;by_cases k1:g=1
    ·subst k1; exact A _ _
    by_cases k2:g=2
    ·subst k2; exact A _ _
    by_cases k3:g=3
    ·subst k3; exact A _ _
    by_cases k9:g=9
    ·subst k9; exact A _ _
    by_cases k4:g=4
    ·subst k4; rfl
    by_cases k5:g=5
    ·subst k5
     match t with
     | []=>rfl
     | [p]=>obtain⟨p1,p2⟩:=p; show some ((((qag.rows p2).length:Nat):Int)==0)=some (((p2.length:Nat):Int)==0); rw[qf4]
     | p::q::l=>
      have e1:((((p::q::l).length:Nat):Int)==(1:Int))=false:=by simp only[ja]; rw[kbf]; omega
      rw[e1]; rfl
    by_cases k6:g=6
    ·subst k6; rfl
    by_cases k7:g=7
    ·subst k7; rfl
    by_cases k8:g=8
    ·subst k8; rfl
    simp only[kbf.2 k1,kbf.2 k2,kbf.2 k3,kbf.2 k9,kbf.2 k4,kbf.2 k5,kbf.2 k6,kbf.2 k7,kbf.2 k8,kcf,k1,k2,k3,k9,k4,k5,k6,k7,k8,if_false,or_self]) (n:=n) (by omega)
  rw[qvl]at L;exact L
 rw[l1];cases s<;>cases c.paths.all (q5y n)<;>rfl
end W
end
section
open Go Ax
namespace W
theorem qxu {n:Nat} {A:Type} (f:A->qb4) {l:List A} (h:l.length<=1048576):gOk n (l.map f,1,1048576)=(decide (((l.length:Nat):Int)>0)&&l.all (fun x=>zkc n (f x))):=by
 unfold gOk;simp only[jm,List.all_map];rw[kdf (p:=((l.length:Nat):Int)>1048576) (by omega)];have:decide (((l.length:Nat):Int)<1)=!decide (((l.length:Nat):Int)>0):=by
  rw[Bool.eq_iff_iff]; simp only[kde,Bool.not_eq_true',decide_eq_false_iff_not]; omega
 rw[this];cases decide (((l.length:Nat):Int)>0)<;>rfl
theorem zop {n:Nat} {A:Type} (f:A->qb4) {l:List A} (h:l.length<=1048576):gOk n (l.map f,0,1048576)=l.all (fun x=>zkc n (f x)):=by
 unfold gOk;simp only[jm,List.all_map];rw[kdf (p:=((l.length:Nat):Int)>1048576) (by omega),kdf (p:=((l.length:Nat):Int)<0) (by omega)];rfl
theorem q5m {n:Nat} {A:Type} (f:A->qb4) {l:List A}:gOk n (l.map f,0,1)=(l.all (fun x=>zkc n (f x))&&decide (((l.length:Nat):Int)<=1)):=by
 unfold gOk;simp only[jm,List.all_map];rw[kdf (p:=((l.length:Nat):Int)<0) (by omega)];have:decide (((l.length:Nat):Int)>1)=!decide (((l.length:Nat):Int)<=1):=by
  rw[Bool.eq_iff_iff]; simp only[kde,Bool.not_eq_true',decide_eq_false_iff_not]; omega
 rw[this];show(!(!decide (((l.length:Nat):Int)<=1))&&_)=_;rw[Bool.not_not,Bool.and_comm];rfl
theorem q5n {n:Nat} (p:qb4):gOk n ([p],1,1)=zkc n p:=by
 show(true&&(zkc n p&&true))=_;simp
theorem qhl {A:Type} (x:A) (l:List A):((((x::l).length:Nat):Int)==0)=false:=by
 rw[kbf]; simp only[ja]; omega
theorem zqm {n:Nat} {x:qaa} (h:(qj6 x).1=0):qxz n x=false:=by
 obtain⟨op,name,val,names,args⟩:=x;have:op=0:=h;subst this;have:=zlv (n:=n) (name:=name) (val:=val) (names:=names) (args:=args) (d:=32);unfold qxz;cases hr:qc5 n ⟨0,name,val,names,args⟩ 32 with
 | none=>rfl
 | some b=>
  cases b with
  | false=>rfl
  | true=>exact absurd hr this
structure LenOk (c:qab):Prop where
 paths:c.paths.length<=1048576
 items:c.items.length<=1048576
 order:c.order.length<=1048576
 sets:c.sets.length<=1048576
 vars:c.vars.length<=1048576
theorem q72 {c:qab} (hM:qda c<=1048576):LenOk c:=by
 have hp:=qbi qiq (fun p=>by unfold qiq; omega) c.paths
 have hi:=qbi qta (fun p=>by unfold qta; omega) c.items
 have ho:=qbi qia (fun p=>by unfold qia; omega) c.order
 have hs:=qbi qim (fun p=>by unfold qim; omega) c.sets
 have hv:=qee c.vars;unfold qda qwa at hM;exact⟨by omega,by omega,by omega,by omega,by omega⟩
theorem zrb {n:Nat} {c:qab} (hM:LenOk c) (hk:zda c=c) (hb:¬ q74 c) {ok:Bool} (hok:ok=true\/(c.kind=2/\(qj6 c.e).1=0)) :
  (ok&&!((((qx8 c).length:Nat):Int)==0)&&(qx8 c).all (gOk n))=(c.paths.all (q5y n)&&q39 n c):=by
 obtain⟨hp,hi,ho,hs,hv⟩:=hM;obtain⟨B,j,o,z,y,k,C,t,u,v,m,w,D⟩:=c;simp only at hp hi ho hs hv hok;by_cases k1:B=1
 ·subst k1
  have hok:ok=true:=by rcases hok with h|h; exact h; exact absurd h.1 (by decide)
  subst hok;have e:(qx8 ⟨1,j,o,z,y,k,C,t,u,v,m,w,D⟩)=[(j.map .path,1,1048576),(o.map .expr,0,1)]:=rfl;rw[e,qhl,jw,jw,List.all_nil,qxu .path (by omega),q5m];show(true&&(_&&j.all (q5y n)&&(o.all (qxz n)&&decide (((o.length:Nat):Int)<=1)&&true)))=(j.all (q5y n)&&(_&&(o.all (qxz n)&&_)));generalize j.all (q5y n)=a;generalize o.all (qxz n)=b;generalize decide (((j.length:Nat):Int)>0)=d;generalize decide (((o.length:Nat):Int)<=1)=f;cases a<;>cases b<;>cases d<;>cases f<;>rfl
 by_cases k2:B=2
 ·subst k2
  have hpn:j=[]:=(congrArg qab.paths hk).symm;subst hpn;have e:(qx8 ⟨2,[],o,z,y,k,C,t,u,v,m,w,D⟩)=[([.expr z],1,1),([.name y],1,1)]:=rfl;rw[e,qhl,jw,jw,List.all_nil,q5n,q5n];show(ok&&true&&(qxz n z&&(qdg y&&true)))=(true&&(qxz n z&&qdg y));rcases hok with h|h
  ·subst h
   cases qxz n z<;>cases qdg y<;>rfl
  ·rw[zqm h.2]
   cases ok<;>rfl
 by_cases k3:B=3
 ·subst k3
  have hok:ok=true:=by rcases hok with h|h; exact h; exact absurd h.1 (by decide)
  subst hok;have hpn:j=[]:=(congrArg qab.paths hk).symm;subst hpn;have e:(qx8 ⟨3,[],o,z,y,k,C,t,u,v,m,w,D⟩)=[(k.map .item,1,1048576),(t.map .sorted,0,1048576),(u.map .expr,0,1),(v.map .expr,0,1),(o.map .expr,0,1)]:=rfl;rw[e,qhl,jw,jw,jw,jw,jw,List.all_nil,qxu .item (by omega),zop .sorted (by omega),q5m,q5m,q5m];show(true&&true&&((_&&k.all (fun i=>qdg i.as_&&qxz n i.e))&&(t.all (fun s=>qxz n s.e)&&(exS n u&&(exS n v&&(exS n o&&true))))))=(true&&((k.all (fun i=>qdg i.as_&&qxz n i.e)&&(t.all (fun s=>qxz n s.e)&&(_&&(exS n u&&exS n v))))&&exS n o))
  generalize k.all _=a;generalize t.all _=b;generalize decide (((k.length:Nat):Int)>0)=d;generalize exS n u=f;generalize exS n v=g;generalize exS n o=h;cases a<;>cases b<;>cases d<;>cases f<;>cases g<;>cases h<;>rfl
 by_cases k9:B=9
 ·subst k9
  have hok:ok=true:=by rcases hok with h|h; exact h; exact absurd h.1 (by decide)
  subst hok;have hpn:j=[]:=(congrArg qab.paths hk).symm;subst hpn;have hwn:o=[]:=(congrArg qab.where_ hk).symm;subst hwn;have e:(qx8 ⟨9,[],[],z,y,k,C,t,u,v,m,w,D⟩)=[(k.map .item,1,1048576),(t.map .sorted,0,1048576),(u.map .expr,0,1),(v.map .expr,0,1)]:=rfl;rw[e,qhl,jw,jw,jw,jw,List.all_nil,qxu .item (by omega),zop .sorted (by omega),q5m,q5m];show(true&&true&&((_&&k.all (fun i=>qdg i.as_&&qxz n i.e))&&(t.all (fun s=>qxz n s.e)&&(exS n u&&(exS n v&&true)))))=(true&&((k.all (fun i=>qdg i.as_&&qxz n i.e)&&(t.all (fun s=>qxz n s.e)&&(_&&(exS n u&&exS n v))))&&true))
  generalize k.all _=a;generalize t.all _=b;generalize decide (((k.length:Nat):Int)>0)=d;generalize exS n u=f;generalize exS n v=g;cases a<;>cases b<;>cases d<;>cases f<;>cases g<;>rfl
 by_cases k4:B=4
 ·subst k4
  have hok:ok=true:=by rcases hok with h|h; exact h; exact absurd h.1 (by decide)
  subst hok;have e:(qx8 ⟨4,j,o,z,y,k,C,t,u,v,m,w,D⟩)=[(j.map .path,1,1048576)]:=rfl;rw[e,qhl,jw,List.all_nil,qxu .path (by omega)];show(true&&true&&((_&&j.all (q5y n))&&true))=(j.all (q5y n)&&decide (((j.length:Nat):Int)>0));generalize j.all (q5y n)=a;generalize decide (((j.length:Nat):Int)>0)=d;cases a<;>cases d<;>rfl
 by_cases k5:B=5
 ·subst k5
  have hok:ok=true:=by rcases hok with h|h; exact h; exact absurd h.1 (by decide)
  subst hok;have e:(qx8 ⟨5,j,o,z,y,k,C,t,u,v,m,w,D⟩)=[(j.map .path,1,1)]:=rfl;rw[e,qhl,jw,List.all_nil]
  match j with
  | []=>rfl
  | [⟨nodes,[]⟩]=>
   rw[show List.map qb4.path [⟨nodes,[]⟩]=[.path ⟨nodes,[]⟩]from rfl,q5n];show(true&&true&&(q5y n ⟨nodes,[]⟩&&true))=((q5y n ⟨nodes,[]⟩&&true)&&true);cases q5y n ⟨nodes,[]⟩<;>rfl
  | [⟨nodes,e::es⟩]=>exact absurd ⟨rfl,_,rfl,by simp⟩ hb
  | p::q::l=>
   have:gOk n (List.map qb4.path (p::q::l),1,1)=false:=by
    unfold gOk;simp only[jm,ja];rw[kdt (p:=((l.length+1+1:Nat):Int)>1) (by omega),ji];simp
   rw[this];show _=((p::q::l).all (q5y n)&&false);cases(p::q::l).all (q5y n)<;>rfl
 by_cases k6:B=6
 ·subst k6
  have hok:ok=true:=by rcases hok with h|h; exact h; exact absurd h.1 (by decide)
  subst hok;have hpn:j=[]:=(congrArg qab.paths hk).symm;subst hpn;have e:(qx8 ⟨6,[],o,z,y,k,C,t,u,v,m,w,D⟩)=[(m.map (fun s=>.change ⟨s,true⟩),1,1048576)]:=rfl;rw[e,qhl,jw,List.all_nil,qxu _ (by omega)];show(true&&true&&((_&&m.all (zfq n true))&&true))=(true&&(m.all (zfq n true)&&_));generalize m.all (zfq n true)=a;generalize decide (((m.length:Nat):Int)>0)=d;cases a<;>cases d<;>rfl
 by_cases k7:B=7
 ·subst k7
  have hok:ok=true:=by rcases hok with h|h; exact h; exact absurd h.1 (by decide)
  subst hok;have hpn:j=[]:=(congrArg qab.paths hk).symm;subst hpn;have e:(qx8 ⟨7,[],o,z,y,k,C,t,u,v,m,w,D⟩)=[(m.map (fun s=>.change ⟨s,false⟩),1,1048576)]:=rfl;rw[e,qhl,jw,List.all_nil,qxu _ (by omega)];show(true&&true&&((_&&m.all (zfq n false))&&true))=(true&&(m.all (zfq n false)&&_));generalize m.all (zfq n false)=a;generalize decide (((m.length:Nat):Int)>0)=d;cases a<;>cases d<;>rfl
 by_cases k8:B=8
 ·subst k8
  have hok:ok=true:=by rcases hok with h|h; exact h; exact absurd h.1 (by decide)
  subst hok;have hpn:j=[]:=(congrArg qab.paths hk).symm;subst hpn;have e:(qx8 ⟨8,[],o,z,y,k,C,t,u,v,m,w,D⟩)=[(w.map .name,1,1048576)]:=rfl;rw[e,qhl,jw,List.all_nil,qxu .name (by omega)];show(true&&true&&((_&&w.all qdg)&&true))=(true&&(w.all qdg&&_));generalize w.all qdg=a;generalize decide (((w.length:Nat):Int)>0)=d;cases a<;>cases d<;>rfl
 have e:(qx8 ⟨B,j,o,z,y,k,C,t,u,v,m,w,D⟩)=[]:=by
  unfold qx8;simp only[k1,k2,k3,k9,k4,k5,k6,k7,k8,if_false,or_self]
 have e2:q39 n ⟨B,j,o,z,y,k,C,t,u,v,m,w,D⟩=false:=by
  unfold q39;simp only[k1,k2,k3,k9,k4,k5,k6,k7,k8,if_false,or_self]
 rw[e,e2];cases ok<;>cases j.all (q5y n)<;>rfl
end W
end
section
open Go Ax
namespace W
theorem zxf {n:Nat} (hn:n<=1073741824) {c:qab} (h:42+qda c<n) (hk:zda c=c) (hp:c.paths.all (q5y n)=true) (hm:q39 n c=true):WfC c:=by
 have mp:∀ p∈c.paths,42+qiq p<n:=fun p hm=>by have:=qbt qiq hm; unfold qda qwa at h; omega
 have mi:∀ p∈c.items,40+qka p.e<n:=fun p hm=>by have:=qbt qta hm; have e:qta p=1+p.as_.length+qka p.e:=rfl; unfold qda at h; omega
 have mo:∀ p∈c.order,40+qka p.e<n:=fun p hm=>by have:=qbt qia hm; have e:qia p=1+qka p.e:=rfl; unfold qda at h; omega
 have ms:∀ p∈c.sets,41+qim p<n:=fun p hm=>by have:=qbt qim hm; unfold qda at h; omega
 have mw:∀ p∈c.where_,40+qka p<n:=fun p hm=>by have:=qhi hm; unfold qda at h; omega
 have mk:∀ p∈c.skip,40+qka p<n:=fun p hm=>by have:=qhi hm; unfold qda at h; omega
 have ml:∀ p∈c.limit,40+qka p<n:=fun p hm=>by have:=qhi hm; unfold qda at h; omega
 have me:40+qka c.e<n:=by unfold qda at h; omega
 have wE:∀ {x:qaa},40+qka x<n->qxz n x=true->WfE x:=by
  intro x hx hb;obtain⟨b,h1,_,h3⟩:=q0l hn hx;unfold qxz at hb;rw[h1]at hb;exact h3 hb
 have wL:∀ {l:List qaa},(∀ p∈l,40+qka p<n)->exS n l=true->∀ x∈l,WfE x:=by
  intro l hl hb x hx;unfold exS at hb;rw[jj,List.all_eq_true]at hb;exact wE (hl x hx) (hb.1 x hx)
 have wP:∀ p∈c.paths,WfP p:=by
  intro p hm;obtain⟨b,h1,_,h3⟩:=zfv hn (mp p hm);have:=List.all_eq_true.1 hp p hm;unfold q5y at this;rw[h1]at this;exact h3 this
 have wS:∀ {f:Bool} {ck:Int},(f=true↔ck=6)->c.sets.all (zfq n f)=true->∀ s∈c.sets,WfSet ck s:=by
  intro f ck hf hb s hs;have h0:=ms s hs;unfold qim at h0;obtain⟨b,h1,_,h3⟩:=q9x hn (s:=s) (by omega) f;have:=List.all_eq_true.1 hb s hs;unfold zfq at this;rw[h1]at this;obtain⟨a1,a2⟩:=h3 this;rw[hf]at a1 a2;exact⟨a1,a2⟩
 have wR:zkf n c=true->(∀ x∈c.where_,WfE x)->WfRows c:=by
  intro hb hw;unfold zkf at hb;simp only[jj]at hb;obtain⟨h1,h2,h3,h4,h5⟩:=hb;refine⟨fun i hi=>?_,fun s hs=>?_,wL mk h4,wL ml h5,hw⟩
  ·have:=List.all_eq_true.1 h1 i hi
   rw[jj]at this;refine⟨wE (mi i hi) this.2,fun e=>?_⟩;rw[e]at this;exact absurd this.1 (by decide)
  exact wE (mo s hs) (List.all_eq_true.1 h2 s hs)
 clear h mp;obtain⟨g,m,d,o,k,t,u,v,y,z,j,B,C⟩:=c;simp only at mi mo ms mw mk ml me wP wS wR hp;have nil:∀ {A:Type} {P:A->Prop},∀ a∈([]:List A),P a:=fun a ha=>by cases ha
 by_cases k1:g=1
 ·subst k1
  have hm':(decide (((m.length:Nat):Int)>0)&&exS n d)=true:=hm;rw[jj]at hm';exact⟨wP,wL mw hm'.2,fun h=>absurd (show(1:Int)=2 from h) (by decide),fun h=>absurd (show(1:Int)=5 from h) (by decide),fun h=>absurd (show(1:Int)=6\/(1:Int)=7 from h) (by decide),fun h=>absurd (show(1:Int)=3\/(1:Int)=9 from h) (by decide),by simp⟩
 by_cases k2:g=2
 ·subst k2
  have hw:([]:List qaa)=d:=congrArg qab.where_ hk;subst hw;have hm':(qxz n o&&qdg k)=true:=hm;rw[jj]at hm';exact⟨wP,nil,fun _=>⟨wE me hm'.1,fun e=>by have e:k=[]:=e; rw[e]at hm'; exact absurd hm'.2 (by decide)⟩,fun h=>absurd (show(2:Int)=5 from h) (by decide),fun h=>absurd (show(2:Int)=6\/(2:Int)=7 from h) (by decide),fun h=>absurd (show(2:Int)=3\/(2:Int)=9 from h) (by decide),by simp⟩
 by_cases k3:g=3
 ·subst k3
  have hm':(zkf n ⟨3,m,d,o,k,t,u,v,y,z,j,B,C⟩&&exS n d)=true:=hm;rw[jj]at hm';have w:=wL mw hm'.2;exact⟨wP,w,fun h=>absurd (show(3:Int)=2 from h) (by decide),fun h=>absurd (show(3:Int)=5 from h) (by decide),fun h=>absurd (show(3:Int)=6\/(3:Int)=7 from h) (by decide),fun _=>wR hm'.1 w,by simp⟩
 by_cases k9:g=9
 ·subst k9
  have hm':(zkf n ⟨9,m,d,o,k,t,u,v,y,z,j,B,C⟩&&exS n d)=true:=hm;rw[jj]at hm';have w:=wL mw hm'.2;exact⟨wP,w,fun h=>absurd (show(9:Int)=2 from h) (by decide),fun h=>absurd (show(9:Int)=5 from h) (by decide),fun h=>absurd (show(9:Int)=6\/(9:Int)=7 from h) (by decide),fun _=>wR hm'.1 w,by simp⟩
 by_cases k4:g=4
 ·subst k4
  have hw:([]:List qaa)=d:=congrArg qab.where_ hk;subst hw;exact⟨wP,nil,fun h=>absurd (show(4:Int)=2 from h) (by decide),fun h=>absurd (show(4:Int)=5 from h) (by decide),fun h=>absurd (show(4:Int)=6\/(4:Int)=7 from h) (by decide),fun h=>absurd (show(4:Int)=3\/(4:Int)=9 from h) (by decide),by simp⟩
 by_cases k5:g=5
 ·subst k5
  have hw:([]:List qaa)=d:=congrArg qab.where_ hk;subst hw;refine⟨wP,nil,fun h=>absurd (show(5:Int)=2 from h) (by decide),fun _=>?_,fun h=>absurd (show(5:Int)=6\/(5:Int)=7 from h) (by decide),fun h=>absurd (show(5:Int)=3\/(5:Int)=9 from h) (by decide),by simp⟩
  match m with
  | []=>exact absurd (show false=true from hm) (by decide)
  | [p]=>exact⟨p,rfl⟩
  | p::q::l=>exact absurd (show false=true from hm) (by decide)
 by_cases k6:g=6
 ·subst k6
  have hw:([]:List qaa)=d:=congrArg qab.where_ hk;subst hw;have hm':(j.all (zfq n true)&&decide (((j.length:Nat):Int)>0))=true:=hm;rw[jj]at hm';exact⟨wP,nil,fun h=>absurd (show(6:Int)=2 from h) (by decide),fun h=>absurd (show(6:Int)=5 from h) (by decide),fun _=>wS (by simp) hm'.1,fun h=>absurd (show(6:Int)=3\/(6:Int)=9 from h) (by decide),by simp⟩
 by_cases k7:g=7
 ·subst k7
  have hw:([]:List qaa)=d:=congrArg qab.where_ hk;subst hw;have hm':(j.all (zfq n false)&&decide (((j.length:Nat):Int)>0))=true:=hm;rw[jj]at hm';exact⟨wP,nil,fun h=>absurd (show(7:Int)=2 from h) (by decide),fun h=>absurd (show(7:Int)=5 from h) (by decide),fun _=>wS (by simp) hm'.1,fun h=>absurd (show(7:Int)=3\/(7:Int)=9 from h) (by decide),by simp⟩
 by_cases k8:g=8
 ·subst k8
  have hw:([]:List qaa)=d:=congrArg qab.where_ hk;subst hw;exact⟨wP,nil,fun h=>absurd (show(8:Int)=2 from h) (by decide),fun h=>absurd (show(8:Int)=5 from h) (by decide),fun h=>absurd (show(8:Int)=6\/(8:Int)=7 from h) (by decide),fun h=>absurd (show(8:Int)=3\/(8:Int)=9 from h) (by decide),by simp⟩
 have e2:q39 n ⟨g,m,d,o,k,t,u,v,y,z,j,B,C⟩=false:=by
  unfold q39;simp only[k1,k2,k3,k9,k4,k5,k6,k7,k8,if_false,or_self]
 rw[e2]at hm;cases hm
def zve (n:Nat) (c:qab):Bool:=(qgk n c).getD false
theorem q5l {n:Nat} (hn:n<=1073741824) {c:qab} (h:42+qda c<n) (hM:LenOk c) :
  qgk n c=some (zve n c)/\(zve n c=true->WfC c/\zda c=c/\c.paths.all (q5y n)=true/\q39 n c=true)/\∃ gl ok,qmc n c=some (gl,ok)/\gl.length<=5/\(∀ g∈gl,g.parts.length<n/\∀ p∈g.parts,42+q7x p<n) /\
   (ok&&!(((gl.length:Nat):Int)==0)&&(gl.map g3).all (gOk n))=zve n c:=by
 obtain⟨s,hs,he⟩:=zhu hn h;have hmc:zve n c=(s&&(c.paths.all (q5y n)&&q39 n c)):=by unfold zve; rw[he]; rfl
 refine⟨by rw[he,hmc],fun hb=>?_,?_⟩
 ·rw[hmc]at hb
  simp only[jj]at hb;exact⟨zxf hn h (hs.1 hb.1) hb.2.1 hb.2.2,hs.1 hb.1,hb.2.1,hb.2.2⟩
 rcases zo0 hn (c:=c) (by omega)with ⟨⟨hk5,p,hp,hpe⟩,ho⟩|⟨hb,gl,ok,ho,hg3,h1,h2⟩
 ·refine⟨[],false,ho,by simp,(fun g hg=>by cases hg),?_⟩
  have:q39 n c=false:=by
   unfold q39;rw[hk5,hp];have:(((p.edges.length:Nat):Int)==0)=false:=by
    rw[kbf];intro e;have:p.edges.length=0:=by omega
    exact hpe (List.length_eq_zero_iff.1 this)
   exact this
  rw[hmc,this];cases s<;>cases c.paths.all (q5y n)<;>rfl
 ·have hlen:gl.length=(qx8 c).length:=by rw[← hg3,jm]
  refine⟨gl,ok,ho,?_,fun g hg=>?_,?_⟩
  ·rw[hlen]
   unfold qx8
   repeat' split
   all_goals simp
  ·have:=zkn (Nat.le_refl (qda c)) (g3 g) (by rw[← hg3]; exact List.mem_map.2 ⟨g,hg,rfl⟩)
   simp only[g3]at this;exact⟨by omega,fun p hp=>by have:=this.2 p hp; omega⟩
  rw[hmc,hg3,hlen];cases hsb:s with
  | false=>
   have:ok=false:=by
    cases ok with
    | false=>rfl
    | true=>have:=hs.2 (h1 rfl); rw[hsb]at this; cases this
   rw[this]; rfl
  | true=>
   have hk:=hs.1 hsb;rw[zrb hM hk hb (h2 hk)];rfl
end W
end
section
open Go Ax
namespace W
def wr (k:Int):Bool:=bif decide (k≥4)then decide (k<=8)else false
theorem zmr (n:Nat) (k:Int):qi1 n k=some (wr k):=by
 unfold qi1 wr;congr 1;by_cases h4:k=4; · subst h4; rfl
 by_cases h5:k=5; · subst h5; rfl
 by_cases h6:k=6; · subst h6; rfl
 by_cases h7:k=7; · subst h7; rfl
 by_cases h8:k=8; · subst h8; rfl
 rw[kbf.2 h4,kbf.2 h5,kbf.2 h6,kbf.2 h7,kbf.2 h8];by_cases h:k≥4
 ·rw[kdt h,kdf (by omega)]; rfl
 rw[kdf h]; rfl
def zpn (cl:List qab):Bool:=match cl.getLast? with|some c=>(c.kind==9)||wr c.kind|none=>false
def zus (cl:List qab):Bool:=(decide (0<cl.length)&&decide (cl.length<=64))&&zpn cl
def quv (n:Nat):List qab->Bool
 | []=>true
 | c::l=>(zve n c&&!((c.kind==9)&&!l.isEmpty))&&quv n l
def q4v (n:Nat) (cl:List qab):Bool:=zus cl&&quv n cl
theorem zvf {n:Nat} {cl:List qab} (h:q4v n cl=true):0<cl.length/\cl.length<=64:=by
 unfold q4v zus at h;simp only[jj,kde]at h;exact h.1.1
theorem zke:∀ (ok e a nine lt r:Bool),(bif bif bif !ok then true else e then true else bif nine then lt else false then some false else bif a then some r else some false)=some (((ok&&!e&&a)&&!(nine&&lt))&&r):=by
 intro ok e a nine lt r;cases ok<;>cases e<;>cases a<;>cases nine<;>cases lt<;>cases r<;>rfl
theorem zoe {cl:List qab} {k:Nat}:decide ((((k+1:Nat):Int))<((cl.length:Nat):Int))=!(cl.drop (k+1)).isEmpty:=by
 rw[Bool.eq_iff_iff,kde,Bool.not_eq_true',List.isEmpty_eq_false_iff,ne_eq,List.drop_eq_nil_iff];omega
section
variable {n:Nat} (hn:n<=1073741824) {cl:List qab} (h:42+qca cl<n) (hM:∀ c∈cl,LenOk c)
include hn h hM
theorem zmw:∀ m k:Nat,k<=cl.length->cl.length - k<m->qam (qf1 n cl) m (k:Int)=some (quv n (cl.drop k)):=by
 have hlen:=qbi qda qj9 cl;unfold qca at h;intro m
 induction m with
 | zero=>intro k _ h; omega
 | succ m ih=>
  intro k hk hm;rw[qa1];by_cases he:k=cl.length
  ·subst he
   rw[List.drop_length];simp only[qf1,qbx,qar,kcf];rfl
  have hkl:k<cl.length:=by omega
  have hx:=jf hkl;rw[jo hkl];generalize cl[k]=x at hx;have hb:=qbt qda (qbf hx);obtain⟨_,_,gl,ok,ho,hg5,hgp,hval⟩:=q5l hn (c:=x) (by omega) (hM _ (qbf hx));have hgl:=zjl hn hgp (by omega) (qam (qf1 n cl) m) (k:=k) (by omega);rw[ih (k+1) (by omega) (by omega)]at hgl;have hd:=zoe (cl:=cl) (k:=k);unfold quv;rw[← hval];clear hval;obtain⟨x1,x2,x3,⟨x4,x5,⟨x6,x7,x8,x9,x10,x11⟩,x12,x13⟩,x14,x15,x16,x17,x18,x19,x20,x21,x22⟩:=x;simp only[qf1,qbx,qa5 hkl,kct,qaj hx,qad,ho,qxv,hgl];rw[qb7 (by omega),hd];exact zke _ _ _ _ _ _
theorem zvg (nx:Int->Option Bool):qmy n cl nx ((cl.length:Nat):Int)=some (zus cl):=by
 have hlen:=qbi qda qj9 cl;unfold qca at h;simp only[qmy,qbx,qar,kcf,zmr];by_cases h0:cl=[]
 ·subst h0; rfl
 obtain⟨l,c,rfl⟩:∃ l c,cl=l++[c]:=⟨cl.dropLast,cl.getLast h0,(List.dropLast_concat_getLast h0).symm⟩;have e1:kwr .i64 ((((l++[c]).length:Nat):Int) - 1)=((l.length:Nat):Int):=by
  rw[qw3 (by omega) (by omega)]; simp
 have e2:(l++[c])[l.length]? =some c:=by simp
 have e3:zpn (l++[c])=((c.kind==9)||wr c.kind):=by unfold zpn; simp
 rw[e1,qaj e2];unfold zus;rw[e3];have e4:decide ((((l++[c]).length:Nat):Int)>0)=true:=kdt (by simp only[jb,ja,jc]; omega);have e5:decide (0<(l++[c]).length)=true:=kdt (by simp);have e6:decide ((((l++[c]).length:Nat):Int)<=64)=decide ((l++[c]).length<=64):=by
  rw[Bool.eq_iff_iff]; simp only[kde]; omega
 rw[e4,e5,e6,kct];generalize decide ((l++[c]).length<=64)=d;clear e1 e2 e3 e4 e5 e6 h hM hlen h0;obtain⟨b,x2,x3,⟨x4,x5,⟨x6,x7,x8,x9,x10,x11⟩,x12,x13⟩,x14,x15,x16,x17,x18,x19,x20,x21,x22⟩:=c;cases d with
 | false=>rfl
 | true=>
  simp only[qc3,qad,Bool.true_and];cases hk:(b==9)with
  | true=>rfl
  | false=>
   simp only[jp,qc3,qad];rfl
theorem zsm:∀ m k:Nat,k<=cl.length->cl.length - k<m->qam (qmy n cl) m (k:Int)=bif quv n (cl.drop k)then some (zus cl)else some false:=by
 have hlen:=qbi qda qj9 cl;have hend:=zvg hn h hM;unfold qca at h;intro m
 induction m with
 | zero=>intro k _ h; omega
 | succ m ih=>
  intro k hk hm;rw[qa1];by_cases he:k=cl.length
  ·subst he
   rw[List.drop_length,hend];rfl
  have hkl:k<cl.length:=by omega
  have hx:=jf hkl;rw[jo hkl];generalize cl[k]=x at hx;have hb:=qbt qda (qbf hx);obtain⟨hmay,_⟩:=q5l hn (c:=x) (by omega) (hM _ (qbf hx));have hd:=zoe (cl:=cl) (k:=k);have ih':=ih (k+1) (by omega) (by omega);unfold quv;obtain⟨b,x2,x3,⟨x4,x5,⟨x6,x7,x8,x9,x10,x11⟩,x12,x13⟩,x14,x15,x16,x17,x18,x19,x20,x21,x22⟩:=x;simp only[qmy,qbx,qa5 hkl,kct,qaj hx,qad,hmay];rw[qb7 (by omega),hd,ih'];cases zve n _ with
  | false=>rfl
  | true=>
   simp only[jq,jp,qc3,qad,kcf];cases(b==9)<;>cases(cl.drop (k+1)).isEmpty<;>rfl
theorem zpy:qqp n ⟨cl⟩=some (q4v n cl):=by
 have hlen:=qbi qda qj9 cl;have e:=zsm hn h hM n 0 (by omega) (by unfold qca at h; omega);unfold qqp q4v;refine Eq.trans e ?_;rw[List.drop_zero];cases quv n cl<;>cases zus cl<;>rfl
theorem zid:qn5 n ⟨cl⟩=some (q4v n cl):=by
 have hlen:=qbi qda qj9 cl;have e:=zmw hn h hM n 0 (by omega) (by unfold qca at h; omega);rw[List.drop_zero]at e;unfold qn5 q4v;unfold qca at h;simp only[qbx,qr3];by_cases h0:cl=[]
 ·subst h0; rfl
 obtain⟨l,c,rfl⟩:∃ l c,cl=l++[c]:=⟨cl.dropLast,cl.getLast h0,(List.dropLast_concat_getLast h0).symm⟩;have e1:kwr .i64 ((((l++[c]).length:Nat):Int) - 1)=((l.length:Nat):Int):=by
  rw[qw3 (by omega) (by omega)]; simp
 have e2:(l++[c])[l.length]? =some c:=by simp
 have e3:zpn (l++[c])=((c.kind==9)||wr c.kind):=by unfold zpn; simp
 rw[e1,qaj e2];unfold zus;rw[e3];have e4:decide ((((l++[c]).length:Nat):Int)<1)=false:=kdf (by simp only[jb,ja,jc]; omega);have e5:decide (0<(l++[c]).length)=true:=kdt (by simp);have e6:decide ((((l++[c]).length:Nat):Int)>64)=!decide ((l++[c]).length<=64):=by
  rw[Bool.eq_iff_iff]; simp only[kde,Bool.not_eq_true',decide_eq_false_iff_not]; omega
 rw[e4,e5,e6,kcf];have e':qam (qf1 n (l++[c])) n 0=some (quv n (l++[c])):=e;rw[e'];generalize quv n (l++[c])=g;generalize decide ((l++[c]).length<=64)=d;clear e1 e2 e3 e4 e5 e6 h hM hlen h0 e e';obtain⟨b,x2,x3,⟨x4,x5,⟨x6,x7,x8,x9,x10,x11⟩,x12,x13⟩,x14,x15,x16,x17,x18,x19,x20,x21,x22⟩:=c;cases d with
 | false=>rfl
 | true=>
  simp only[jq,jp,qc3,qad,Bool.true_and];unfold wr;cases(bif decide (b≥4)then decide (b<=8)else false)with
  | true=>cases(b==9)<;>cases g<;>rfl
  | false=>
   simp only[jp,qc3,qad];unfold bne;cases(b==9)<;>cases g<;>rfl
theorem zag:q4v n cl=true->∀ c∈cl,WfC c:=by
 unfold qca at h;intro hm;unfold q4v at hm;rw[jj]at hm;have key:∀ l:List qab,(∀ c∈l,c∈cl)->quv n l=true->∀ c∈l,WfC c:=by
  intro l
  induction l with
  | nil=>intro _ _ c hc; cases hc
  | cons a l ih=>
   intro hs hg c hc;simp only[quv,jj]at hg;have hb:=qbt qda (hs a (by simp));rcases jg.1 hc with rfl|hc
   ·exact((q5l hn (c:=c) (by omega) (hM _ (hs c (by simp)))).2.1 hg.1.1).1
   exact ih (fun c hc=>hs c (by simp[hc])) hg.2 c hc
 exact key cl (fun c hc=>hc) hm.2
end
end W
end
section
open Go Ax
namespace W
theorem qsa {R:Type} {B:(Int×Int->Option R)->Int×Int->Option R} {len:Nat} (K:Int->Option R) (hs:∀ k:Nat,k<len->∀ (acc:Int) (nx:Int×Int->Option R),B nx (acc,(k:Int))=K acc\/∃ acc',B nx (acc,(k:Int))=nx (acc',((k+1:Nat):Int)))
  (he:∀ (acc:Int) (nx:Int×Int->Option R),B nx (acc,(len:Int))=K acc) {n:Nat} (hn:len<n) (acc:Int):∃ acc',qam B n (acc,(0:Int))=K acc':=by
 have key:∀ (m k:Nat) (acc:Int),k<=len->len - k<m->∃ acc',qam B m (acc,(k:Int))=K acc':=by
  intro m
  induction m with
  | zero=>intro k _ _ h; omega
  | succ m ih=>
   intro k acc hk hm;rw[qa1];by_cases h:k=len
   ·subst h; exact⟨_,he _ _⟩
   rcases hs k (by omega) acc (qam B m)with h|⟨acc',h⟩
   ·exact⟨_,h⟩
   rw[h]; exact ih (k+1) acc' (by omega) (by omega)
 exact key n 0 acc (by omega) (by omega)
theorem zp8:∀ n:Nat,n<=1073741824->∀ v:Val,zax v<n->∃ r,qms n v=some r:=by
 intro n
 induction n with
 | zero=>intro _ v h; omega
 | succ n ih=>
  intro hn v hv;obtain⟨x1,x2,x3,x4,b,x6⟩:=v;have hl:=qrd b;simp only[zax]at hv;simp only[qms,qu4];obtain⟨a,h⟩:=qsa (B:=qls n b (qms n)) (len:=b.length) some
   (fun k hk acc nx=>by
    have hx:=jf hk;generalize b[k]=y at hx;obtain⟨r,hr⟩:=ih (by omega) y (by have:=q0c (qbf hx); omega);obtain⟨y1,y2,y3,y4,y5,y6⟩:=y
    right
    simp only[qls,qfu,qa5 hk,kct,qaj hx,qad,hr];rw[qb7 (by omega)];exact⟨_,rfl⟩)
   (fun acc nx=>by simp only[qls,qfu,qar,kcf]) (n:=n) (by omega) 1
  exact⟨_,h⟩
theorem q0d:∀ n:Nat,n<=1073741824->∀ x:qaa,qka x<n->∀ m:Int,∃ r,qg5 n x m=some r:=by
 intro n
 induction n with
 | zero=>intro _ v h; omega
 | succ n ih=>
  intro hn x hx m;obtain⟨x1,x2,⟨c,d,e,f,g,i⟩,x9,b⟩:=x;have hl:=qd3 b;simp only[qka]at hx;obtain⟨p,hp⟩:=zp8 n (by omega) ⟨c,d,e,f,g,i⟩ (by omega);simp only[qg5,qu5,hp,qad];obtain⟨a,h⟩:=qsa (B:=ql0 n b m (qg5 n)) (len:=b.length) some
   (fun k hk acc nx=>by
    have hx:=jf hk;generalize b[k]=y at hx;simp only[ql0,qas,qa5 hk,kct];by_cases hc:acc<m
    ·obtain⟨r,hr⟩:=ih (by omega) y (by have:=qhi (qbf hx); omega) (kwr .i64 (m - acc))
     obtain⟨y1,y2,⟨y3,y4,y5,y6,y7,y8⟩,y9,y10⟩:=y
     right
     simp only[kdt hc,kct,qaj hx,qad,hr];rw[qb7 (by omega)];exact⟨_,rfl⟩
    left; rw[kdf hc]; rfl)
   (fun acc nx=>by simp only[ql0,qas,qar,kcf]) (n:=n) (by omega) _
  exact⟨_,h⟩
theorem qsw {n:Nat} (hn:n<=1073741824) {l:List qaa} (h:qfz l<n) (m:Int):∃ r,qgj n l m=some r:=by
 have hl:=qd3 l;unfold qgj;exact qsa (B:=qh1 n l m) (len:=l.length) some
  (fun k hk acc nx=>by
   have hx:=jf hk;generalize l[k]=y at hx;simp only[qh1,qas,qa5 hk,kct];by_cases hc:acc<m
   ·obtain⟨r,hr⟩:=q0d n hn y (by have:=qhi (qbf hx); omega) (kwr .i64 (m - acc))
    obtain⟨y1,y2,⟨y3,y4,y5,y6,y7,y8⟩,y9,y10⟩:=y
    right
    simp only[kdt hc,kct,qaj hx,qad,hr];rw[qb7 (by omega)];exact⟨_,rfl⟩
   left; rw[kdf hc]; rfl)
  (fun acc nx=>by simp only[qh1,qas,qar,kcf]) (n:=n) (by omega) 0
theorem q4b {n:Nat} (hn:n<=1073741824) {cl:List qab} (h:qca cl<n):∃ r,qmx n ⟨cl⟩=some r:=by
 have hlen:=qbi qda qj9 cl;unfold qca at h;unfold qmx;obtain⟨a,e⟩:=qsa (B:=qlv n cl) (len:=cl.length) (fun acc=>some (decide (acc≥3000)))
  (fun k hk acc nx=>by
   have hx:=jf hk;generalize cl[k]=c at hx;have hb:qda c<n:=by have:=qbt qda (qbf hx); omega
   simp only[qlv,qbx,qa5 hk,kct];by_cases hc:acc<3000
   ·right
    have hp:=qbi qiq (fun p=>by unfold qiq; omega) c.paths
    have hi:=qbi qta (fun p=>by unfold qta; omega) c.items
    have ho:=qbi qia (fun p=>by unfold qia; omega) c.order
    have hs:=qbi qim (fun p=>by unfold qim; omega) c.sets
    have mp:∀ p∈c.paths,qiq p<n:=fun p hm=>by have:=qbt qiq hm; unfold qda qwa at hb; omega
    have mi:∀ p∈c.items,qka p.e<n:=fun p hm=>by have:=qbt qta hm; have e:qta p=1+p.as_.length+qka p.e:=rfl; unfold qda at hb; omega
    have mo:∀ p∈c.order,qka p.e<n:=fun p hm=>by have:=qbt qia hm; have e:qia p=1+qka p.e:=rfl; unfold qda at hb; omega
    have ms:∀ p∈c.sets,qka p.e<n:=fun p hm=>by have:=qbt qim hm; have e:qim p=1+p.var_.length+p.key.length+p.label.length+qka p.e:=rfl; unfold qda at hb; omega
    obtain⟨r1,h1⟩:=q0d n hn c.e (by unfold qda at hb; omega) 3000;obtain⟨r2,h2⟩:=qsw hn (l:=c.where_) (by unfold qda at hb; omega) 3000;obtain⟨r3,h3⟩:=qsw hn (l:=c.skip) (by unfold qda at hb; omega) 3000;obtain⟨r4,h4⟩:=qsw hn (l:=c.limit) (by unfold qda at hb; omega) 3000;unfold qda qwa at hb;obtain⟨x1,q,x6,⟨x7,x8,⟨x9,x10,x11,x12,x13,x14⟩,x15,x16⟩,x17,o,x19,g,x21,x22,f,x24,x25⟩:=c;simp only at hp hi ho hs mp mi mo ms h1 h2 h3 h4 hb;simp only[kdt hc,kct,qaj hx,qad,h1,h2,h3,h4];have L7:∀ acc:Int,∃ acc',qam (qhp n f nx (k:Int)) n (acc,(0:Int))=nx (acc',((k+1:Nat):Int)):=fun acc=>qsa (B:=qhp n f nx (k:Int)) (len:=f.length) (fun acc=>nx (acc,((k+1:Nat):Int)))
     (fun j hj acc nx2=>by
      have hy:=jf hj;generalize f[j]=y at hy;simp only[qhp,qaf.rows,jm,qa5 hj,kct];by_cases hc:acc<3000
      ·obtain⟨r,hr⟩:=q0d n hn y.e (ms y (qbf hy)) 3000
       obtain⟨z1,z2,z3,⟨s,u,⟨w,z,A,C,D,E⟩,F,t⟩⟩:=y;simp only at hr
       right
       simp only[kdt hc,kct,qaj hy,qad,hr];rw[qb7 (k:=j) (by omega)];exact⟨_,rfl⟩
      left; rw[kdf hc,kcf,qb7 (by omega)])
     (fun acc nx2=>by
      simp only[qhp,qaf.rows,jm,qar,kcf];rw[qb7 (by omega)]) (n:=n) (by omega) acc
    have L6:∀ acc:Int,∃ acc',qam (qho n g f nx (k:Int)) n (acc,(0:Int))=nx (acc',((k+1:Nat):Int)):=fun acc=>by
     obtain⟨a,ha⟩:=qsa (B:=qho n g f nx (k:Int)) (len:=g.length) (fun acc=>qam (qhp n f nx (k:Int)) n (acc,(0:Int)))
      (fun j hj acc nx2=>by
       have hy:=jf hj;generalize g[j]=y at hy;simp only[qho,qat.rows,jm,qa5 hj,kct];by_cases hc:acc<3000
       ·obtain⟨r,hr⟩:=q0d n hn y.e (mo y (qbf hy)) 3000
        obtain⟨⟨s,u,⟨w,z,A,C,D,E⟩,F,t⟩,z1⟩:=y;simp only at hr
        right
        simp only[kdt hc,kct,qaj hy,qad,hr];rw[qb7 (k:=j) (by omega)];exact⟨_,rfl⟩
       left; rw[kdf hc,kcf])
      (fun acc nx2=>by simp only[qho,qat.rows,jm,qar,kcf]) (n:=n) (by omega) acc
     rw[ha]; exact L7 a
    have L5:∀ acc:Int,∃ acc',qam (qhn n o g f nx (k:Int)) n (acc,(0:Int))=nx (acc',((k+1:Nat):Int)):=fun acc=>by
     obtain⟨a,ha⟩:=qsa (B:=qhn n o g f nx (k:Int)) (len:=o.length) (fun acc=>qam (qho n g f nx (k:Int)) n (acc,(0:Int)))
      (fun j hj acc nx2=>by
       have hy:=jf hj;generalize o[j]=y at hy;simp only[qhn,qbn.rows,jm,qa5 hj,kct];by_cases hc:acc<3000
       ·obtain⟨r,hr⟩:=q0d n hn y.e (mi y (qbf hy)) 3000
        obtain⟨⟨s,u,⟨w,z,A,C,D,E⟩,F,t⟩,z1⟩:=y;simp only at hr
        right
        simp only[kdt hc,kct,qaj hy,qad,hr];rw[qb7 (k:=j) (by omega)];exact⟨_,rfl⟩
       left; rw[kdf hc,kcf])
      (fun acc nx2=>by simp only[qhn,qbn.rows,jm,qar,kcf]) (n:=n) (by omega) acc
     rw[ha]; exact L6 a
    have L2:∀ acc:Int,∃ acc',qam (qjq n q o g f nx (k:Int)) n (acc,(0:Int))=nx (acc',((k+1:Nat):Int)):=fun acc=>by
     obtain⟨a,ha⟩:=qsa (B:=qjq n q o g f nx (k:Int)) (len:=q.length) (fun acc=>qam (qhn n o g f nx (k:Int)) n (acc,(0:Int)))
      (fun j hj acc nx2=>by
       have hy:=jf hj;generalize q[j]=p at hy;have hpb:=mp p (qbf hy);simp only[qjq,qcp,qa5 hj,kct];by_cases hc:acc<3000
       ·right
        rw[kdt hc,kct];obtain⟨nodes,edges⟩:=p;unfold qiq at hpb;simp only at hpb;have hn1:=qbi qgu (fun p=>by unfold qgu; omega) nodes
        have hn2:=qbi qng (fun p=>by unfold qng; omega) edges
        obtain⟨b,hb3⟩:=qsa (B:=qlw n q (j:Int) nx2) (len:=nodes.length) (fun acc=>qam (qjr n q (j:Int) nx2) n (acc,(0:Int)))
         (fun i hi acc nx3=>by
          have hz:=jf hi;generalize nodes[i]=d at hz;have hdb:qgu d<n:=by have:=qbt qgu (qbf hz); omega
          simp only[qlw,qaj hy,qad,qc7,qa5 hi,kct];by_cases hc:acc<3000
          ·obtain⟨r,hr⟩:=qsw hn (l:=d.vals) (by unfold qgu at hdb; omega) 3000
           obtain⟨d1,d2,d3,d4⟩:=d;simp only at hr
           right
           simp only[kdt hc,kct,qaj hz,qad,hr];rw[qb7 (k:=i) (by omega)];exact⟨_,rfl⟩
          left; rw[kdf hc,kcf])
         (fun acc nx3=>by simp only[qlw,qaj hy,qad,qc7,qar,kcf]) (n:=n) (by omega) acc
        rw[hb3];exact qsa (B:=qjr n q (j:Int) nx2) (len:=edges.length) (fun acc=>nx2 (acc,((j+1:Nat):Int)))
         (fun i hi acc nx3=>by
          have hz:=jf hi;generalize edges[i]=d at hz;have hdb:qng d<n:=by have:=qbt qng (qbf hz); omega
          simp only[qjr,qaj hy,qad,qf4,qa5 hi,kct];by_cases hc:acc<3000
          ·obtain⟨r,hr⟩:=qsw hn (l:=d.vals) (by unfold qng at hdb; omega) 3000
           obtain⟨d1,d2,d3,d4,d5⟩:=d;simp only at hr
           right
           simp only[kdt hc,kct,qaj hz,qad,hr];rw[qb7 (k:=i) (by omega)];exact⟨_,rfl⟩
          left; rw[kdf hc,kcf,qb7 (by omega)])
         (fun acc nx3=>by
          simp only[qjr,qaj hy,qad,qf4,qar,kcf];rw[qb7 (by omega)]) (n:=n) (by omega) b
       left; rw[kdf hc,kcf])
      (fun acc nx2=>by simp only[qjq,qcp,qar,kcf]) (n:=n) (by omega) acc
     rw[ha]; exact L5 a
    exact L2 _
   left; rw[kdf hc]; rfl)
  (fun acc nx=>by simp only[qlv,qbx,qar,kcf]) (n:=n) (by omega) 0
 exact⟨_,e⟩
end W
end
