/- A part of the proof: the plain law. -/
import Derived.Test.YtmblnmgpmdapnaaGreatC
import Derived.Test.YtmblnmgpmdapnaaGreatD
import Derived.Test.YtmblnmgpmdapnaaGreatE
import Derived.Test.YtmblnmgpmdapnaaGreatF
import Derived.Test.YtmblnmgpmdapnaaGreatG
import Derived.Test.YtmblnmgpmdapnaaGreatH
import Derived.Test.YtmblnmgpmdapnaaGreatI
import Derived.Test.YtmblnmgpmdapnaaGreatJ
import Derived.Test.YtmblnmgpmdapnaaGreatK
set_option linter.unusedVariables false
set_option linter.unusedSimpArgs false
set_option linter.unnecessarySimpa false
set_option linter.deprecated false
set_option linter.unusedSectionVars false
set_option linter.constructorNameAsVariable false
section
open Go Ax
namespace W
section
variable {K V:Type} [BEq K] [LawfulBEq K]
theorem zdg (k s:K) (v:V):∀ m:List (K×V),qtv s (qow k v m)=if s==k then some v else qtv s m
 | []=>by
  simp only[qow,qtv];cases s==k<;>rfl
 | (k',v')::m=>by
  by_cases h:k=k'
  ·subst h
   simp only[qow,beq_self_eq_true,cond_true,qtv];cases s==k<;>rfl
  ·have h':(k==k')=false:=beq_eq_false_iff_ne.2 h
   simp only[qow,h',cond_false,qtv,zdg k s v m];by_cases hs:s=k'
   ·subst hs
    have:(s==k)=false:=beq_eq_false_iff_ne.2 fun e=>h e.symm
    simp[this]
   ·have:(s==k')=false:=beq_eq_false_iff_ne.2 hs
    simp[this]
theorem zik (k:K) (v:V):∀ m:List (K×V),(qow k v m).length=if q6c m k then m.length else m.length+1
 | []=>rfl
 | (k',v')::m=>by
  by_cases h:k=k'
  ·subst h
   simp[qow,q6c,qtv]
  ·have h':(k==k')=false:=beq_eq_false_iff_ne.2 h
   have:=zik k v m;simp only[qow,q6c,qtv,h',cond_false,List.length_cons]at this ⊢;rw[this];by_cases hh:(qtv k m).isSome=true<;>simp[hh]
theorem zol (k s:K) (v:V) (m:List (K×V)):q6c (qow k v m) s=(s==k||q6c m s):=by
 simp only[q6c,zdg];cases s==k<;>rfl
theorem zmi (k s:K) (v d:V) (m:List (K×V)):qd9 (qow k v m) s d=if s==k then v else qd9 m s d:=by
 simp only[qd9,zdg];cases s==k<;>rfl
theorem zil (k:K) (v:V):∀ m:List (K×V),qtv k m=none->qow k v m=m++[(k,v)]
 | [],_=>rfl
 | (k',v')::m,h=>by
  by_cases hk:k=k'
  ·subst hk
   simp[qtv]at h
  ·have h':(k==k')=false:=beq_eq_false_iff_ne.2 hk
   simp only[qtv,h',cond_false]at h;simp only[qow,h',cond_false,zil k v m h,List.cons_append]
end
def zn6:List (List UInt8)->List (List UInt8)->Bool
 | _,[]=>false
 | pre,x::l=>pre.contains x||zn6 (pre++[x]) l
def dup (l:List (List UInt8)):Bool:=zn6 [] l
def zrp (m:List (List UInt8×Int)):List (List UInt8)->List (List UInt8×Int)
 | []=>m
 | x::l=>zrp (qow x (IntKind.i64.wrap (qd9 m x 0+1)) m) l
theorem zh2:∀ (l pre:List (List UInt8)) (m:List (List UInt8×Int)),(∀ s,q6c m s=pre.contains s) ->
  (zrp m l).length<=m.length+l.length/\((zrp m l).length<m.length+l.length↔zn6 pre l=true)
 | [],pre,m,_=>by simp[zrp,zn6]
 | x::l,pre,m,h=>by
  have h':∀ s,q6c (qow x (IntKind.i64.wrap (qd9 m x 0+1)) m) s=(pre++[x]).contains s:=fun s=>by
   rw[zol,h s];simp only[List.contains_eq_mem,List.mem_append,List.mem_singleton];by_cases hs:s=x<;>simp[hs]
  have ih:=zh2 l (pre++[x]) _ h';simp only[zrp,zn6,zik,h x]at ih ⊢;cases hx:pre.contains x with
  | true=>
   simp only[hx,if_true]at ih;simp only[List.length_cons,Bool.true_or,iff_true];omega
  | false=>
   simp only[hx]at ih;simp only[List.length_cons,Bool.false_or]
   constructor
   ·have:=ih.1; simp at this; omega
   ·rw[← ih.2]; simp; omega
theorem qw6 {n:Nat} {l:List (List UInt8)} (h:l.length<n) (hn:n<=1073741824):qnd n l=some (dup l):=by
 unfold qnd;have e:=qmv (B:=qih n l) (fun k (m:List (List UInt8×Int))=>((k:Int),m)) (fun _ _=>True) (l:=l) (R:=Bool)
  (fun m x=>.inr (qow x (IntKind.i64.wrap (qd9 m x 0+1)) m)) (rest:=fun m=>some (decide (m.length<l.length)))
  (fun k x m nx hx _=>by
   have hk:=qb0 hx;simp only[qih,qaz,qa7 hk,cond_true,qal hx,qah,zmo];rw[qcg (by omega)])
  (fun _ _ _ _ _ _ _=>trivial)
  (fun m nx _=>by
   simp only[qih,qaz,qas,cond_false];congr 1;by_cases hm:m.length<l.length
   ·rw[decide_eq_true hm,decide_eq_true (by omega)]
   ·rw[decide_eq_false hm,decide_eq_false (by omega)]) h (t0:=[]) trivial
 have key:∀ (l:List (List UInt8)) (m:List (List UInt8×Int)),qfj (R:=Bool) (fun m x=>.inr (qow x (IntKind.i64.wrap (qd9 m x 0+1)) m)) m l=.inr (zrp m l):=by
  intro l
  induction l with
  | nil=>intro m; rfl
  | cons x l ih=>intro m; exact ih _
 rw[key]at e;refine Eq.trans e ?_;have:=(zh2 l [] [] (fun s=>rfl)).2
 simp only[List.length_nil,Nat.zero_add]at this;refine congrArg some ?_;unfold dup;cases hd:zn6 [] l with
 | true=>exact decide_eq_true (this.2 hd)
 | false=>exact decide_eq_false (fun h=>by rw[this.1 h]at hd; cases hd)
theorem qz9 {n:Nat} {l:List (List UInt8)} (h:l.length<n) (hn:n<=1073741824):qqo n l=some (dup l):=by
 unfold qqo;have inner:∀ (k:Nat) (x:List UInt8) (nx:Int->Option Bool),l[k]? =some x->qjj n l nx (k:Int)=(if(l.take k).contains x then some true else nx ((k+1:Nat):Int)):=by
  intro k x nx hx;have hk:=qb0 hx;simp only[qjj,qaz,qa7 hk,cond_true];have e:=qcy (B:=qlj n (k:Int) l nx) (fun j=>((j:Nat):Int)) (l:=l.take k) (fun y=>if y==x then some true else none) (rest:=nx ((k+1:Nat):Int))
   (fun j y nx2 hy=>by
    have hj:j<k:=by have:=qb0 hy; simp at this; omega
    have hy':l[j]? =some y:=by rw[List.getElem?_take,if_pos hj]at hy; exact hy
    simp only[qlj,qa7 hj,cond_true,qal hx,qal hy',qah];rw[qcg (by omega),BEq.comm];cases y==x<;>rfl)
   (fun nx2=>by
    have:(l.take k).length=k:=by simp; omega
    rw[this];simp only[qlj,qas,cond_false];rw[qcg (by omega)]) (n:=n) (by simp; omega)
  refine Eq.trans e ?_;have key:∀ p:List (List UInt8),qew (R:=Bool) (fun y=>if y==x then some true else none) p=if p.contains x then some true else none:=by
   intro p
   induction p with
   | nil=>rfl
   | cons y p ih=>
    simp only[qew,List.contains_cons,ih];by_cases hy:y=x
    ·subst hy; simp
    ·have h1:(y==x)=false:=by simpa using hy
     have h2:(x==y)=false:=by simpa using fun e=>hy e.symm
     simp[h1,h2]
  rw[key];cases(l.take k).contains x<;>rfl
 have main:∀ (suf:List (List UInt8)) (k m:Nat),(∀ j,suf[j]? =l[k+j]?)->k+suf.length=l.length->suf.length<m->qan (qjj n l) m (k:Int)=some (zn6 (l.take k) suf):=by
  intro suf
  induction suf with
  | nil=>
   intro k m hs hk hm;obtain⟨m,rfl⟩:=Nat.exists_eq_succ_of_ne_zero (by omega:m≠0);have:k=l.length:=by simpa using hk
   subst this;rw[qbg];simp only[qjj,qaz,qas,cond_false,zn6]
  | cons x suf ih=>
   intro k m hs hk hm;obtain⟨m,rfl⟩:=Nat.exists_eq_succ_of_ne_zero (by omega:m≠0);have hx:l[k]? =some x:=by have:=hs 0; simpa using this.symm
   rw[qbg,inner k x _ hx];simp only[zn6];split
   ·rename_i hc; rw[hc,Bool.true_or]
   ·rename_i hc
    have hc:(l.take k).contains x=false:=by simpa using hc
    rw[hc,Bool.false_or,ih (k+1) m (fun j=>by have:=hs (j+1); rw[show k+1+j=k+(j+1) by omega]; simpa using this) (by simp at hk; omega) (by simp at hm; omega)]
    have:l.take (k+1)=l.take k++[x]:=by rw[List.take_succ,hx]; rfl
    rw[this]
 have:=main l 0 n (fun j=>by simp) (by simp) h
 simpa[dup]using this
abbrev Env:=List (List UInt8×Int)
def qcm (v:Env) (s:List UInt8):Int:=qd9 v s 0
abbrev qf2 (v:Env):qa4:=⟨v.map (·.1),v.map (·.2)⟩
theorem qe4 {n:Nat} {v:Env} (h:v.length<n) (hn:n<=1073741824) (s:List UInt8):qd1 n (qf2 v) s=some (qcm v s):=by
 unfold qd1;have e:=qcy (B:=qhq n (v.map (·.1)) s (v.map (·.2))) (fun j=>((j:Nat):Int)) (l:=v) (fun x=>if x.1==s then some x.2 else none) (rest:=some 0)
  (fun k x nx hx=>by
   have hk:=qb0 hx;have h1:(v.map (·.1))[k]? =some x.1:=by simp[hx]
   have h2:(v.map (·.2))[k]? =some x.2:=by simp[hx]
   simp only[qhq,qaz,List.length_map,qa7 hk,cond_true,qal h1,qal h2,qah];rw[qcg (by omega)];cases x.1==s<;>rfl)
  (fun nx=>by
   simp only[qhq,qaz,List.length_map,qas,cond_false]) h
 refine Eq.trans e ?_;have key:∀ v:Env,qew (R:=Int) (fun x=>if x.1==s then some x.2 else none) v=qtv s v:=by
  intro v
  induction v with
  | nil=>rfl
  | cons x v ih=>
   obtain⟨k,y⟩:=x;simp only[qew,qtv,ih];rw[BEq.comm];cases s==k<;>rfl
 rw[key];unfold qcm qd9;cases qtv s v<;>rfl
end W
end
section
open Go Ax
namespace W
mutual
def zah:Val->Nat
 | .mk _ _ _ s l ks=>1+s.length+q25 l+(ks.map fun k=>1+k.length).sum
def q25:List Val->Nat
 | []=>1
 | v::l=>1+zah v+q25 l
end
def qz6 (l:List (List UInt8)):Nat:=(l.map fun k=>1+k.length).sum
theorem qeb (l:List (List UInt8)):l.length<=qz6 l:=by
 induction l with
 | nil=>simp[qz6]
 | cons x l ih=>simp only[qz6,List.map_cons,List.sum_cons,List.length_cons]at ih ⊢; omega
mutual
def qki:qaa->Nat
 | .mk _ name val names args=>1+name.length+zah val+qz6 names+qf1 args
def qf1:List qaa->Nat
 | []=>1
 | x::l=>1+qki x+qf1 l
end
theorem qdx:∀ l:List qaa,l.length<qf1 l
 | []=>by simp[qf1]
 | x::l=>by have:=qdx l; simp only[qf1,List.length_cons]; omega
theorem qha:∀ {l:List qaa} {x:qaa},x∈l->qki x+2<=qf1 l
 | y::l,x,h=>by
  simp only[qf1];rcases List.mem_cons.1 h with rfl|h
  ·have:=qdx l; omega
  ·have:=qha h; omega
@[simp] theorem qaq (l:List qaa):(qaa.rows l).length=l.length:=by rw[qaa.rows_eq]; simp
def qyj (name:List UInt8):quk:=(qiw 0 name).getD default
theorem zky {A:Type} (c:Bool) (a b:A):(bif c then some a else some b)=some (bif c then a else b):=by cases c<;>rfl
theorem q5a (n:Nat) (name:List UInt8):qiw n name=some (qyj name):=by
 simp only[qyj,qiw,qeh,zky,Option.getD_some]
theorem zbq (n:Nat) (name:List UInt8):qvf n name=some ((qyj name).least,(qyj name).most,(qyj name).kind):=by
 by_cases h1:name=[115,105,122,101]; · subst h1; rfl
 by_cases h2:name=[97,98,115]; · subst h2; rfl
 by_cases h3:name=[104,101,97,100]; · subst h3; rfl
 by_cases h4:name=[108,97,115,116]; · subst h4; rfl
 by_cases h5:name=[116,101,120,116]; · subst h5; rfl
 by_cases h6:name=[99,111,97,108,101,115,99,101]; · subst h6; rfl
 by_cases h7:name=[107,101,121,115]; · subst h7; rfl
 by_cases h8:name=[108,97,98,101,108,115]; · subst h8; rfl
 by_cases h9:name=[116,121,112,101]; · subst h9; rfl
 by_cases h10:name=[114,97,110,103,101]; · subst h10; rfl
 simp only[qyj,qiw,qeh,qvf,qit,beq_eq_false_iff_ne.2 h1,beq_eq_false_iff_ne.2 h2,beq_eq_false_iff_ne.2 h3,beq_eq_false_iff_ne.2 h4,beq_eq_false_iff_ne.2 h5,beq_eq_false_iff_ne.2 h6,beq_eq_false_iff_ne.2 h7,beq_eq_false_iff_ne.2 h8,beq_eq_false_iff_ne.2 h9,beq_eq_false_iff_ne.2 h10,cond_false,Option.getD_some]
inductive WfE:qaa->Prop where
 | mk {op:Int} {name:List UInt8} {val:Val} {names:List (List UInt8)} {args:List qaa} (h1:op≠6->names=[]) (h2:op=10->args.length=2) (h3:∀ x∈args,WfE x):WfE (.mk op name val names args)
def eqs (name:List UInt8):Bool:=name==[61]||name==[60,62]
mutual
def qmu (v:Env):qaa->Int×Int
 | .mk op name _ names args=>
  if op=2 then(if qcm v name=0 then(0,2)else(qcm v name,0))
  else if op=14 then(0,2)
  else
   let e:=if op=13 then(if(args.length:Int)<(qyj name).least\/(args.length:Int)>(qyj name).most then 2 else qkg v (qyj name).kind args)
    else if op=4\/op=11\/op=12 then qkg v 0 args
    else if op=15 then qkg v 1 args
    else if op=10 then(if eqs name then zgn v args else qkg v 3 args)
    else qkg v 3 args
   let e:=if e=0/\op=6/\dup names then 2 else e
   if e≠0 then(0,e)else(3,0)
def qkg (v:Env) (kind:Int):List qaa->Int
 | []=>0
 | x::l=>if(qmu v x).2≠0 then(qmu v x).2 else if kind≠0/\(qmu v x).1≠kind then 3 else qkg v kind l
def zgn (v:Env):List qaa->Int
 | x::y::_=>if(qmu v x).2≠0 then(qmu v x).2 else if(qmu v y).2≠0 then(qmu v y).2 else if(qmu v x).1≠(qmu v y).1 then 3 else 0
 | _=>0
end
end W
end
section
open Go Ax
namespace W
def zro (v:Env) (kind:Int) (x:qaa):Option Int:=
 if(qmu v x).2≠0 then some (qmu v x).2 else if kind≠0/\(qmu v x).1≠kind then some 3 else none
theorem zkm (v:Env) (kind:Int):∀ l:List qaa,orE (qew (zro v kind) l) (some 0)=some (qkg v kind l)
 | []=>rfl
 | x::l=>by
  have ih:=zkm v kind l;simp only[qew,zro,qkg];by_cases h1:(qmu v x).2=0
  ·by_cases h2:kind≠0/\(qmu v x).1≠kind
   ·rw[if_neg (by simpa using h1),if_pos h2,if_neg (by simpa using h1),if_pos h2]; rfl
   ·rw[if_neg (by simpa using h1),if_neg h2,if_neg (by simpa using h1),if_neg h2]
    exact ih
  ·rw[if_pos h1,if_pos h1]; rfl
theorem q8t {op:Int} {name:List UInt8} {val:Val} {names:List (List UInt8)} {args:List qaa} (h:WfE (.mk op name val names args)):(op≠6->names=[])/\(op=10->args.length=2)/\∀ x∈args,WfE x:=by
 cases h with
 | mk h1 h2 h3=>exact⟨h1,h2,h3⟩
theorem gf {a b:Int} (h:¬a=b):(a==b)=false:=beq_eq_false_iff_ne.2 h
def qjq:qaa->Int×List UInt8×List qaa
 | .mk op name _ _ args=>(op,name,args)
theorem qlt (o:List (List UInt8)) (v:Env):∀ n:Nat,n<=1073741824 ->
  (∀ l kind,2 * qf1 l<n->(∀ x∈l,WfE x)->qbe n l kind o v=some (qkg v kind l)) /\
  (∀ x,2 * qki x+1<n->WfE x->qcx n x o v=some (qmu v x)) /\
  (∀ x,2 * qki x<n->WfE x->(qjq x).1=10->qc6 n x o v=some (if eqs (qjq x).2.1 then zgn v (qjq x).2.2 else qkg v 3 (qjq x).2.2)):=by
 intro n
 induction n with
 | zero=>intro _; exact⟨fun _ _ h=>by omega,fun _ h=>by omega,fun _ h=>by omega⟩
 | succ n ih=>
  intro hn;obtain⟨iha,ihe,ihb⟩:=ih (by omega);refine⟨?_,?_,?_⟩
  ·intro l kind hl hw
   have hlen:=qdx l;simp only[qbe,qly];have e:=qcy (B:=qfo n l (qcx n) o v kind) (fun k=>((k:Nat):Int)) (l:=l) (zro v kind) (rest:=some 0)
    (fun k x nx hx=>by
     have hk:=qb0 hx;have hm:=qha (qbk hx);have hxx:=ihe x (by omega) (hw x (qbk hx));obtain⟨op,name,⟨a1,a2,a3,a4,a5,a6⟩,names,args⟩:=x;simp only[qfo,qaq,qa7 hk,cond_true,qal hx,qah,hxx,qg7,zro];generalize qmu v _=r;obtain⟨kd,er⟩:=r;rw[qcg (by omega)];by_cases h1:er=0
     ·subst h1
      by_cases h2:kind=0
      ·subst h2; simp[Bool.cond_eq_ite]
      ·by_cases h3:kd=kind
       ·subst h3; simp[Bool.cond_eq_ite]
       ·simp[h2,h3,Bool.cond_eq_ite]
     ·simp[h1,Bool.cond_eq_ite])
    (fun nx=>by simp only[qfo,qaq,qas,cond_false]) (n:=n) (by omega)
   exact Eq.trans e (zkm v kind l)
  ·intro x hx hw
   obtain⟨op,name,⟨a1,a2,a3,a4,a5,a6⟩,names,args⟩:=x;obtain⟨w1,w2,w3⟩:=q8t hw;have hb:2 * qf1 args<n/\names.length<n:=by
    have:=qeb names;have h0:=qdx args;simp only[qki]at hx;omega
   have htw:=qw6 hb.2 (by omega);have hall:=fun kind=>iha args kind hb.1 w3
   have k2:∀ e:Int,qc7 n op names e=some (let e:=if e=0/\op=6/\dup names then 2 else e; if e≠0 then(0,e)else(3,0)):=by
    intro e;simp only[qc7,qgh,htw];by_cases h1:e=0
    ·subst h1
     by_cases h2:op=6
     ·subst h2
      cases dup names<;>simp
     ·simp[h2,gf h2,Bool.cond_eq_ite]
    ·simp[h1,gf h1,Bool.cond_eq_ite]
   have k4:qds n (qbe n) args o v op names (qc6 n) name a1 a2 a3 a4 a5 a6=qds n (qbe n) args o v op names (qc6 n) name a1 a2 a3 a4 a5 a6:=rfl;simp only[qcx,qkl,qds,q5a,qah,qaq,hall,k2,qmu,qcm];by_cases h2:op=2
   ·subst h2
    by_cases hk:qd9 v name 0=0<;>simp[hk,Bool.cond_eq_ite]
   by_cases h14:op=14
   ·subst h14; simp[Bool.cond_eq_ite]
   by_cases h13:op=13
   ·subst h13
    by_cases hc:(args.length:Int)<(qyj name).least\/(args.length:Int)>(qyj name).most
    ·simp[hc,k2,Bool.cond_eq_ite]
    ·simp[hc,k2,Bool.cond_eq_ite]
   by_cases h10:op=10
   ·subst h10
    have:=ihb (.mk 10 name (.mk a1 a2 a3 a4 a5 a6) names args) (by omega) hw rfl;by_cases he:eqs name=true<;>simp[this,qjq,k2,he,Bool.cond_eq_ite]
   by_cases h4:op=4
   ·subst h4; simp[Bool.cond_eq_ite]
   by_cases h11:op=11
   ·subst h11; simp[Bool.cond_eq_ite]
   by_cases h12:op=12
   ·subst h12; simp[Bool.cond_eq_ite]
   by_cases h15:op=15
   ·subst h15; simp[Bool.cond_eq_ite]
   simp[h2,h14,h13,h10,h4,h11,h12,h15,Bool.cond_eq_ite]
  ·intro x hx hw hop
   obtain⟨op,name,⟨a1,a2,a3,a4,a5,a6⟩,names,args⟩:=x;obtain⟨w1,w2,w3⟩:=q8t hw;have hop:op=10:=hop;have hl:=w2 hop;subst hop;obtain⟨p,l1,rfl⟩:=List.exists_cons_of_length_pos (l:=args) (by omega);obtain⟨q,l2,rfl⟩:=List.exists_cons_of_length_pos (l:=l1) (by simp at hl; omega);have hl2:l2=[]:=by simpa using hl
   subst hl2;have hb:2 * qf1 [p,q]<n:=by
    simp only[qki]at hx;omega
   have hp:=ihe p (by simp only[qf1]at hb; omega) (w3 p (by simp));have hq:=ihe q (by simp only[qf1]at hb; omega) (w3 q (by simp));have hall:=iha [p,q] 3 hb w3;obtain⟨op1,name1,⟨b1,b2,b3,b4,b5,b6⟩,names1,args1⟩:=p;obtain⟨op2,name2,⟨c1,c2,c3,c4,c5,c6⟩,names2,args2⟩:=q;simp only[qc6,qkk,qjq,hall,qrc,zgu,qah,hp,hq,zgn,eqs];generalize qmu v (.mk op1 name1 (.mk b1 b2 b3 b4 b5 b6) names1 args1)=r at *;generalize qmu v (.mk op2 name2 (.mk c1 c2 c3 c4 c5 c6) names2 args2)=r2 at *;obtain⟨kd,er⟩:=r;obtain⟨kd2,er2⟩:=r2;cases(name==[61])<;>cases(name==[60,62])<;>simp[Bool.cond_eq_ite]<;>(by_cases h1:er=0<;>by_cases h2:er2=0<;>by_cases h3:kd=kd2<;>simp[h1,h2,h3])
end W
end
section
open Go Ax
namespace W
theorem zi2 (name:List UInt8):0<=(qyj name).kind:=by
 by_cases h1:name=[115,105,122,101]; · subst h1; decide
 by_cases h2:name=[97,98,115]; · subst h2; decide
 by_cases h3:name=[104,101,97,100]; · subst h3; decide
 by_cases h4:name=[108,97,115,116]; · subst h4; decide
 by_cases h5:name=[116,101,120,116]; · subst h5; decide
 by_cases h6:name=[99,111,97,108,101,115,99,101]; · subst h6; decide
 by_cases h7:name=[107,101,121,115]; · subst h7; decide
 by_cases h8:name=[108,97,98,101,108,115]; · subst h8; decide
 by_cases h9:name=[116,121,112,101]; · subst h9; decide
 by_cases h10:name=[114,97,110,103,101]; · subst h10; decide
 simp only[qyj,qiw,qeh,beq_eq_false_iff_ne.2 h1,beq_eq_false_iff_ne.2 h2,beq_eq_false_iff_ne.2 h3,beq_eq_false_iff_ne.2 h4,beq_eq_false_iff_ne.2 h5,beq_eq_false_iff_ne.2 h6,beq_eq_false_iff_ne.2 h7,beq_eq_false_iff_ne.2 h8,beq_eq_false_iff_ne.2 h9,beq_eq_false_iff_ne.2 h10,cond_false,Option.getD_some]
 decide
theorem qrd (v:Env):∀ n:Nat,n<=1073741824 ->
  (∀ l kind,0<=kind->v.length+2 * qf1 l<n->(∀ x∈l,WfE x)->qge n (qf2 v) l kind=some (qkg v kind l)) /\
  (∀ x,v.length+2 * qki x+1<n->WfE x->∃ k,qlk n (qf2 v) x=some (k,(qmu v x).2)/\((qmu v x).2=0->k=(qmu v x).1)):=by
 intro n
 induction n with
 | zero=>intro _; exact⟨fun _ _ _ h=>by omega,fun _ h=>by omega⟩
 | succ n ih=>
  intro hn;obtain⟨iha,ihe⟩:=ih (by omega);refine⟨?_,?_⟩
  ·intro l kind h0 hl hw
   have hlen:=qdx l;simp only[qge,qy0];have e:=qcy (B:=qpc n l (qlk n) (v.map (·.1)) (v.map (·.2)) kind) (fun k=>((k:Nat):Int)) (l:=l) (zro v kind) (rest:=some 0)
    (fun k x nx hx=>by
     have hk:=qb0 hx;have hm:=qha (qbk hx);obtain⟨kd,hxx,hkd⟩:=ihe x (by omega) (hw x (qbk hx));obtain⟨op,name,⟨a1,a2,a3,a4,a5,a6⟩,names,args⟩:=x;simp only[qpc,qaq,qa7 hk,cond_true,qal hx,qah,hxx,zro];generalize qmu v _=r at *;obtain⟨kd2,er⟩:=r;rw[qcg (by omega)];by_cases h1:er=0
     ·subst h1
      obtain rfl:=hkd rfl;by_cases h2:kind=0
      ·subst h2; simp[Bool.cond_eq_ite]
      ·have h2':0<kind:=by omega
       by_cases h3:kd=kind
       ·subst h3; simp[Bool.cond_eq_ite]
       ·simp[h2,h2',h3,Bool.cond_eq_ite]
     ·simp[h1,Bool.cond_eq_ite])
    (fun nx=>by simp only[qpc,qaq,qas,cond_false]) (n:=n) (by omega)
   exact Eq.trans e (zkm v kind l)
  ·intro x hx hw
   obtain⟨op,name,⟨a1,a2,a3,a4,a5,a6⟩,names,args⟩:=x;obtain⟨w1,w2,w3⟩:=q8t hw;have hb:v.length+2 * qf1 args<n/\names.length<n:=by
    have:=qeb names;have h0:=qdx args;simp only[qki]at hx;omega
   have htw:=qz9 hb.2 (by omega);have hkd:=qe4 (n:=n) (v:=v) (by omega) (by omega) name;have hall:=fun kind h0=>iha args kind h0 hb.1 w3
   have h0:=hall 0 (by omega); have h1:=hall 1 (by omega); have h3:=hall 3 (by omega); have hc:=hall (qyj name).kind (zi2 name);simp only[qlk,qv0,qm8,qet,zbq,qah,qaq,h0,h1,h3,hc,hkd,htw,qmu];by_cases h2:op=2
   ·subst h2
    by_cases hk:qcm v name=0<;>simp[hk,Bool.cond_eq_ite]
   by_cases h14:op=14
   ·subst h14; simp[Bool.cond_eq_ite]
   by_cases h13:op=13
   ·subst h13
    by_cases hcc:(args.length:Int)<(qyj name).least\/(args.length:Int)>(qyj name).most
    ·simp[hcc,Bool.cond_eq_ite]
    ·by_cases hz:qkg v (qyj name).kind args=0<;>simp[hcc,hz,Bool.cond_eq_ite]
   by_cases h10:op=10
   ·have hl:=w2 h10
    subst h10;obtain⟨p,l1,rfl⟩:=List.exists_cons_of_length_pos (l:=args) (by omega);obtain⟨q,l2,rfl⟩:=List.exists_cons_of_length_pos (l:=l1) (by simp at hl; omega);have hl2:l2=[]:=by simpa using hl
    subst hl2;obtain⟨kp,hp,hp'⟩:=ihe p (by simp only[qf1]at hb; omega) (w3 p (by simp));obtain⟨kq,hq,hq'⟩:=ihe q (by simp only[qf1]at hb; omega) (w3 q (by simp));obtain⟨op1,name1,⟨b1,b2,b3,b4,b5,b6⟩,names1,args1⟩:=p;obtain⟨op2,name2,⟨c1,c2,c3,c4,c5,c6⟩,names2,args2⟩:=q;rcases r1:qmu v (.mk op1 name1 (.mk b1 b2 b3 b4 b5 b6) names1 args1)with ⟨kd,er⟩;rcases r2:qmu v (.mk op2 name2 (.mk c1 c2 c3 c4 c5 c6) names2 args2)with ⟨kd2,er2⟩;rw[r1]at hp hp';rw[r2]at hq hq';simp only[qrc,zgu,qah,hp,hq,qkg,zgn,eqs,r1,r2];simp only at hp' hq';by_cases e1:er=0
    ·obtain rfl:=hp' e1
     by_cases e2:er2=0
     ·obtain rfl:=hq' e2
      by_cases e3:kp=kq<;>cases(name==[61])<;>cases(name==[60,62])<;>simp[e1,e2,e3,Bool.cond_eq_ite]<;>(by_cases e4:kp=3<;>by_cases e5:kq=3<;>simp_all)
     ·cases(name==[61])<;>cases(name==[60,62])<;>simp[e1,e2,Bool.cond_eq_ite]<;>(by_cases e4:kp=3<;>simp_all)
    ·cases(name==[61])<;>cases(name==[60,62])<;>simp[e1,Bool.cond_eq_ite]
   by_cases h6:op=6
   ·subst h6
    by_cases hz:qkg v 3 args=0<;>cases hd:dup names<;>simp[hz,hd,qaw,Bool.cond_eq_ite]
   have hnm:=w1 h6;subst hnm;have hd:dup []=false:=rfl;by_cases h4:op=4
   ·subst h4; by_cases hz:qkg v 0 args=0<;>simp[hz,Bool.cond_eq_ite]
   by_cases h11:op=11
   ·subst h11; by_cases hz:qkg v 0 args=0<;>simp[hz,Bool.cond_eq_ite]
   by_cases h12:op=12
   ·subst h12; by_cases hz:qkg v 0 args=0<;>simp[hz,Bool.cond_eq_ite]
   by_cases h15:op=15
   ·subst h15; by_cases hz:qkg v 1 args=0<;>simp[hz,Bool.cond_eq_ite]
   by_cases hz:qkg v 3 args=0<;>simp[h2,h14,h13,h10,h4,h11,h12,h15,h6,hz,hd,qaw,Bool.cond_eq_ite]
end W
end
section
open Go Ax
namespace W
structure EnvOk (v:Env):Prop where
 kinds:∀ e∈v,0<e.2
 names:∀ e∈v,e.1≠[]
 nodup:(v.map (·.1)).Nodup
abbrev qe3 (v:Env):List (List UInt8):=v.map (·.1)
theorem q2u {s:List UInt8} {k:Int}:∀ {v:Env},qtv s v=some k->(s,k)∈v
 | [],h=>by simp[qtv]at h
 | (s',k')::v,h=>by
  simp only[qtv]at h;by_cases hs:s=s'
  ·subst hs; simp at h; subst h; simp
  ·have:(s==s')=false:=beq_eq_false_iff_ne.2 hs
   simp only[this,cond_false]at h;exact List.mem_cons_of_mem _ (q2u h)
theorem zfc {s:List UInt8}:∀ {v:Env},qtv s v=none->s ∉ v.map (·.1)
 | [],_=>by simp
 | (s',k')::v,h=>by
  simp only[qtv]at h;by_cases hs:s=s'
  ·subst hs; simp at h
  ·have:(s==s')=false:=beq_eq_false_iff_ne.2 hs
   simp only[this,cond_false]at h;simp only[List.map_cons,List.mem_cons,not_or];exact⟨hs,zfc h⟩
theorem q1n {v:Env} (h:EnvOk v) (s:List UInt8):0<=qcm v s:=by
 unfold qcm qd9;cases hm:qtv s v with
 | none=>simp
 | some k=>have:=h.kinds _ (q2u hm); simp at this ⊢; omega
theorem ze5 {v:Env} (h:EnvOk v) {s:List UInt8} (hz:qcm v s=0):qtv s v=none:=by
 unfold qcm qd9 at hz;cases hm:qtv s v with
 | none=>rfl
 | some k=>rw[hm]at hz; have:=h.kinds _ (q2u hm); simp at this hz; omega
theorem q2r {v:Env} (h:EnvOk v):qcm v []=0:=by
 unfold qcm qd9;cases hm:qtv [] v with
 | none=>rfl
 | some k=>exact absurd rfl (h.names _ (q2u hm))
theorem zfe {s:List UInt8} {k:Int}:∀ {v:Env},qtv s v=some k->qow s k v=v
 | [],h=>by simp[qtv]at h
 | (s',k')::v,h=>by
  simp only[qtv]at h;by_cases hs:s=s'
  ·subst hs; simp at h; subst h; simp[qow]
  ·have:(s==s')=false:=beq_eq_false_iff_ne.2 hs
   simp only[this,cond_false]at h;simp only[qow,this,cond_false,zfe h]
def ql4 (v:Env) (s:List UInt8) (k:Int):Env:=if s=[]\/qcm v s≠0 then v else v++[(s,k)]
theorem q27 {v:Env} (h:EnvOk v) (s:List UInt8) {k:Int} (hk:0<k):EnvOk (ql4 v s k):=by
 unfold ql4;split
 ·exact h
 ·rename_i hs
  simp only[not_or,Decidable.not_not]at hs;refine⟨fun e he=>?_,fun e he=>?_,?_⟩
  ·rcases List.mem_append.1 he with he|he
   ·exact h.kinds e he
   ·simp at he; subst he; exact hk
  ·rcases List.mem_append.1 he with he|he
   ·exact h.names e he
   ·simp at he; subst he; exact hs.1
  ·rw[List.map_append,List.nodup_append]
   refine⟨h.nodup,by simp,?_⟩;intro a ha b hb;simp at hb;subst hb;exact fun e=>zfc (ze5 h hs.2) (e ▸ ha)
theorem qyz (v:Env) (s:List UInt8) (k:Int):(ql4 v s k).length<=v.length+1:=by
 unfold ql4;split<;>simp
theorem zad:EnvOk []:=⟨by simp,by simp,by simp⟩
theorem zhr {m b:Nat} (h:m<=1073741824) (hb:b<=1024):decide (m * b<=140737488355328)=true:=by
 refine decide_eq_true ?_;have:m * b<=1073741824 * 1024:=Nat.mul_le_mul h hb;omega
theorem qmk {n:Nat} {v:Env} (h:EnvOk v) (hv:v.length<n) (hn:n<=1073741824) {s:List UInt8} (hs:s≠[]) {k:Int} (hk:qcm v s=0\/qcm v s=k) (hk0:k≠0) :
  qc5 n s k (qe3 v) v=some (qe3 (ql4 v s k),ql4 v s k):=by
 unfold qc5;by_cases hz:qcm v s=0
 ·have hz':qd9 v s 0=0:=hz
  have hw:ql4 v s k=v++[(s,k)]:=by unfold ql4; rw[if_neg (by simp[hs,hz])]
  rw[hw];simp only[hz',beq_self_eq_true,cond_true,qe5,zil _ _ _ (ze5 h hz),List.map_append,List.map_cons,List.map_nil];rw[qd5 (zhr (by simp; omega) (by omega))]
 ·have hz':(qd9 v s 0==0)=false:=beq_eq_false_iff_ne.2 hz
  have hk':qcm v s=k:=hk.resolve_left hz;have hw:ql4 v s k=v:=by unfold ql4; rw[if_pos (.inr hz)]
  rw[hw];have hm:qtv s v=some k:=by
   unfold qcm qd9 at hk';cases hm:qtv s v with
   | none=>rw[hm]at hk'; simp at hk'; exact absurd hk'.symm hk0
   | some k'=>rw[hm]at hk'; simp at hk'; rw[hk']
  simp only[hz',cond_false,qe5,zfe hm]
theorem qsh {n:Nat} {v:Env} (h:EnvOk v) (hv:v.length<n) (hn:n<=1073741824) (s:List UInt8) (k:Int):qhk n (qf2 v) s k=some (qf2 (ql4 v s k)):=by
 unfold qhk;have hkd:=qe4 hv hn s;have hnn:=q1n h s;simp only[hkd];by_cases hs:s=[]
 ·subst hs; simp[ql4]
 ·have hs':(s==[])=false:=beq_eq_false_iff_ne.2 hs
  by_cases hz:qcm v s=0
  ·have hw:ql4 v s k=v++[(s,k)]:=by unfold ql4; rw[if_neg (by simp[hs,hz])]
   rw[hw];simp only[hs',hz,Bool.not_false,qd6,qah,cond_false];rw[decide_eq_false (by omega)];simp only[cond_false];rw[qd5 (zhr (by simp; omega) (by omega)),qd5 (zhr (by simp; omega) (by omega)),qd5 (zhr (by simp; omega) (by omega)),qd5 (zhr (by simp; omega) (by omega))];simp[qf2]
  ·have hw:ql4 v s k=v:=by unfold ql4; rw[if_pos (.inr hz)]
   rw[hw];simp only[hs',Bool.not_false,qd6,qah,cond_false];rw[decide_eq_true (by omega)];rfl
def qph (v:Env) (keys:List (List UInt8)) (vals:List qaa):Int:=
 if qkg v 3 vals≠0 then qkg v 3 vals else if dup keys then 2 else 0
theorem qw5 {n:Nat} {o:List (List UInt8)} {v:Env} {keys:List (List UInt8)} {vals:List qaa} (h1:2 * qf1 vals<n) (h2:keys.length<n) (hn:n<=1073741824) (hw:∀ x∈vals,WfE x) :
  qf7 n keys vals o v=some (qph v keys vals):=by
 unfold qf7;rw[(qlt o v n hn).1 vals 3 h1 hw,qw6 h2 hn];unfold qph;by_cases hz:qkg v 3 vals=0<;>cases hd:dup keys<;>simp[hz,Bool.cond_eq_ite]
theorem q0b {n:Nat} {v:Env} {keys:List (List UInt8)} {vals:List qaa} (h1:v.length+2 * qf1 vals<n) (h2:keys.length<n) (hn:n<=1073741824) (hw:∀ x∈vals,WfE x) :
  qqp n (qf2 v) keys vals=some (qph v keys vals):=by
 unfold qqp;have hall:=(qrd v n hn).1 vals 3 (by omega) h1 hw;simp only[qf2]at hall;simp only[hall,qz9 h2 hn,qn5];unfold qph;by_cases hz:qkg v 3 vals=0<;>cases hd:dup keys<;>simp[hz,qaw,Bool.cond_eq_ite]
end W
end
section
open Go Ax
namespace W
theorem q2l {A R T:Type} (I:Nat->T->Prop) {f:T->A->R ⊕ T}:∀ (l:List A) (k:Nat) (t t':T),(∀ j x t t',l[j]? =some x->I (k+j) t->f t x=.inr t'->I (k+j+1) t')->I k t->qfj f t l=.inr t'->I (k+l.length) t'
 | [],k,t,t',_,hi,h=>by simp only[qfj,Sum.inr.injEq]at h; subst h; exact hi
 | x::l,k,t,t',hs,hi,h=>by
  simp only[qfj]at h;cases hf:f t x with
  | inl r=>rw[hf]at h; cases h
  | inr t1=>
   rw[hf]at h;have h1:=hs 0 x t t1 rfl hi hf;have:=q2l I l (k+1) t1 t' (fun j y u u' hy hu hf'=>by
    have:=hs (j+1) y u u' (by simpa using hy) (by rw[show k+(j+1)=k+1+j by omega]; exact hu) hf';rw[show k+(j+1)+1=k+1+j+1 by omega]at this;exact this) h1 h
   rw[List.length_cons,show k+(l.length+1)=k+1+l.length by omega];exact this
theorem qb6 {A:Type} (f:A->Nat):∀ {l:List A} {x:A},x∈l->f x<=(l.map f).sum
 | y::l,x,h=>by
  rcases List.mem_cons.1 h with rfl|h
  ·simp
  ·have:=qb6 f h; simp; omega
theorem qbi {A:Type} (f:A->Nat) (hf:∀ x,1<=f x):∀ l:List A,l.length<=(l.map f).sum
 | []=>by simp
 | x::l=>by have:=qbi f hf l; have:=hf x; simp; omega
theorem qw1 {A:Type} (f:A->Nat):∀ {l:List A} {k:Nat} {x:A},l[k]? =some x->((l.take k).map f).sum+f x<=(l.map f).sum
 | [],_,_,h=>by simp at h
 | y::l,0,x,h=>by simp at h; subst h; simp
 | y::l,k+1,x,h=>by
  have:=qw1 f (l:=l) (k:=k) (x:=x) (by simpa using h);simp only[List.take_succ_cons,List.map_cons,List.sum_cons]; omega
theorem q23 {A:Type} (f:A->Nat) {l:List A} {k:Nat} {x:A} (h:l[k]? =some x):((l.take (k+1)).map f).sum=((l.take k).map f).sum+f x:=by
 rw[List.take_succ,h]; simp
def qia (d:qae):Nat:=1+d.var_.length+qz6 d.labels+qz6 d.keys+qf1 d.vals
def qmt (d:qag):Nat:=1+d.var_.length+d.type_.length+qz6 d.keys+qf1 d.vals
def qjt (p:qa6):Nat:=1+(p.nodes.map qia).sum+(p.edges.map qmt).sum
structure WfP (p:qa6):Prop where
 len:p.nodes.length=p.edges.length+1
 nodes:∀ d∈p.nodes,∀ x∈d.vals,WfE x
 edges:∀ d∈p.edges,∀ x∈d.vals,WfE x
@[simp] theorem qc1 (l:List qae):(qae.rows l).length=l.length:=by simp[qae.rows]
@[simp] theorem qfv (l:List qag):(qag.rows l).length=l.length:=by simp[qag.rows]
@[simp] theorem qck (l:List qa6):(qa6.rows l).length=l.length:=by simp[qa6.rows]
abbrev Out:=(Int×Env) ⊕ Env
def qwi (made:Bool) (ahead v:Env) (d:qag):Out:=
 if qcm v d.var_≠0\/(made=true/\(d.type_=[]\/d.dir=2))then .inl (2,v)
 else if qph ahead d.keys d.vals≠0 then .inl (qph ahead d.keys d.vals,v)
 else .inr (ql4 v d.var_ 2)
def qz7 (made:Bool) (ahead v:Env) (d:qae):Out:=
 if qcm v d.var_≠0/\qcm v d.var_≠1 then .inl (3,v)
 else if qcm v d.var_=1/\made=true/\0<d.labels.length+d.keys.length then .inl (2,v)
 else if qph ahead d.keys d.vals≠0 then .inl (qph ahead d.keys d.vals,v)
 else .inr (ql4 v d.var_ 1)
def qqk (made:Bool) (ahead v:Env):Option qag×qae->Out
 | (none,d)=>qz7 made ahead v d
 | (some e,d)=>match qwi made ahead v e with
  | .inl r=>.inl r
  | .inr v'=>qz7 made ahead v' d
def q1r (p:qa6):List (Option qag×qae):=(none::p.edges.map some).zip p.nodes
def qsp (made:Bool) (ahead v:Env) (p:qa6):Out:=qfj (qqk made ahead) v (q1r p)
def qqf (made:Bool) (ahead v:Env) (l:List qa6):Out:=qfj (qsp made ahead) v l
theorem q8r {p:qa6} (h:WfP p):(q1r p).length=p.nodes.length:=by
 simp[q1r,h.len]
theorem q8q {p:qa6} {k:Nat} {eo:Option qag} {d:qae} (h:(q1r p)[k]? =some (eo,d)) :
  p.nodes[k]? =some d/\(k=0->eo=none)/\(∀ j,k=j+1->∃ e,eo=some e/\p.edges[j]? =some e):=by
 unfold q1r at h;rw[List.getElem?_zip_eq_some]at h;refine⟨h.2,fun e=>?_,fun j e=>?_⟩
 ·subst e; simpa using h.1.symm
 ·subst e
  have h1:=h.1;simp only[List.getElem?_cons_succ,List.getElem?_map,Option.map_eq_some_iff]at h1;obtain⟨x,hx,rfl⟩:=h1;exact⟨x,rfl,hx⟩
theorem zh5 {made:Bool} {ahead v v':Env} {d:qag} (h:EnvOk v) (e:qwi made ahead v d=.inr v'):EnvOk v'/\v'.length<=v.length+1:=by
 unfold qwi at e;split at e
 ·cases e
 ·split at e
  ·cases e
  ·cases e; exact⟨q27 h _ (by decide),qyz _ _ _⟩
theorem ziq {made:Bool} {ahead v v':Env} {d:qae} (h:EnvOk v) (e:qz7 made ahead v d=.inr v'):EnvOk v'/\v'.length<=v.length+1:=by
 unfold qz7 at e;split at e
 ·cases e
 ·split at e
  ·cases e
  ·split at e
   ·cases e
   ·cases e; exact⟨q27 h _ (by decide),qyz _ _ _⟩
theorem zdq {made:Bool} {ahead v v':Env} {x:Option qag×qae} (h:EnvOk v) (e:qqk made ahead v x=.inr v'):EnvOk v'/\v'.length<=v.length+2:=by
 obtain⟨eo,d⟩:=x;cases eo with
 | none=>have:=ziq h e; exact⟨this.1,by omega⟩
 | some ed=>
  simp only[qqk]at e;cases he:qwi made ahead v ed with
  | inl r=>rw[he]at e; cases e
  | inr v1=>
   rw[he]at e;have h1:=zh5 h he;have h2:=ziq h1.1 e;exact⟨h2.1,by omega⟩
theorem zot {made:Bool} {ahead v v':Env} {p:qa6} (hp:WfP p) (h:EnvOk v) (e:qsp made ahead v p=.inr v'):EnvOk v'/\v'.length<=v.length+2 * qjt p:=by
 have:=q2l (fun k t=>EnvOk t/\t.length<=v.length+2 * k) (q1r p) 0 v v' (fun j x t t' _ hi hf=>by
  have:=zdq hi.1 hf;exact⟨this.1,by omega⟩) ⟨h,by omega⟩ e
 rw[q8r hp]at this;have hl:=qbi qia (fun x=>by unfold qia; omega) p.nodes
 unfold qjt;exact⟨this.1,by omega⟩
def znw:Out->Int×List (List UInt8)×Env
 | .inl (e,v)=>(e,qe3 v,v)
 | .inr v=>(0,qe3 v,v)
theorem zk7 {made:Bool} {ahead v:Env} {d:qag} {r:Int×Env} (e:qwi made ahead v d=.inl r):r.1≠0:=by
 unfold qwi at e;split at e
 ·cases e; simp
 ·split at e
  ·rename_i h; cases e; exact h
  ·cases e
theorem q64 {n:Nat} {v ahead:Env} (h:EnvOk v) (hn:n<=1073741824) {d:qag} (made:Bool) (h1:v.length+2 * qmt d<n) (hw:∀ x∈d.vals,WfE x) :
  qiz n d made (qe3 v) v (qe3 ahead) ahead=some (znw (qwi made ahead v d)):=by
 obtain⟨var,type,dir,keys,vals⟩:=d;unfold qmt at h1;have:=qeb keys;simp only at h1 hw;have hp:=qw5 (n:=n) (o:=qe3 ahead) (v:=ahead) (keys:=keys) (vals:=vals) (by omega) (by omega) hn hw;unfold qiz;simp only[hp,qah,qgg,qwi];by_cases hk:qcm v var=0
 ·have hk':qd9 v var 0=0:=hk
  simp only[hk',hk];have hb:var≠[]->qc5 n var 2 (qe3 v) v=some (qe3 (ql4 v var 2),ql4 v var 2):=fun hv=>qmk h (by omega) hn hv (.inl hk) (by decide)
  cases made<;>by_cases ht:type=[]<;>by_cases hd:dir=2<;>by_cases hz:qph ahead keys vals=0<;>by_cases hv:var=[] <;>
   simp[ht,hd,hz,hv,Bool.cond_eq_ite,znw,ql4]<;>(try (have:=hb hv; simp[ql4,hv,hk]at this; simp[this,hk]))
 ·have hk2:¬ qd9 v var 0=0:=hk
  have hk':(qd9 v var 0 != 0)=true:=by simpa using hk2
  simp[hk',hk,znw]
theorem q9j {n:Nat} {v:Env} (h:EnvOk v) (s:List UInt8):qkd n s (qe3 v) v=some (decide (qcm v s≠0),if qcm v s≠0/\qcm v s≠1 then 3 else 0):=by
 unfold qkd;have hk:qcm v s=qd9 v s 0:=rfl;by_cases hs:s=[]
 ·subst hs
  simp[q2r h]
 ·rw[← hk]
  by_cases hz:qcm v s=0<;>by_cases h1:qcm v s=1<;>simp[hs,hz,h1,Bool.cond_eq_ite]
def goP (k:Nat) (nx:Int×List (List UInt8)×Env->Option (Int×List (List UInt8)×Env)) (o:Out):Option (Int×List (List UInt8)×Env):=
 zmn (match o with|.inl (e,v)=>(.inl (e,qe3 v,v):(Int×List (List UInt8)×Env) ⊕ Env)|.inr v=>.inr v) fun v=>nx (((k+1:Nat):Int),qe3 v,v)
theorem q66 {n:Nat} {v ahead:Env} (h:EnvOk v) (hn:n<=1073741824) {d:qae} (made:Bool) (h1:v.length+2 * qia d<n) (hw:∀ x∈d.vals,WfE x) {k:Nat} (hk:k<n) (nx:Int×List (List UInt8)×Env->Option (Int×List (List UInt8)×Env)) :
  qen n d.var_ made d.labels d.keys d.vals (qe3 ahead) ahead nx (k:Int) (qe3 v,v)=goP k nx (qz7 made ahead v d):=by
 obtain⟨var,labels,keys,vals⟩:=d;unfold qia at h1;have:=qeb keys;have:=qeb labels;simp only at h1 hw;have hp:=qw5 (n:=n) (o:=qe3 ahead) (v:=ahead) (keys:=keys) (vals:=vals) (by omega) (by omega) hn hw;have hsum:IntKind.i64.wrap ((labels.length:Int)+(keys.length:Int))=((labels.length+keys.length:Nat):Int):=by rw[q1t (by omega) (by omega)]; omega
 have hlt:decide (((labels.length+keys.length:Nat):Int)>0)=decide (0<labels.length+keys.length):=by
  by_cases hh:0<labels.length+keys.length
  ·rw[decide_eq_true hh,decide_eq_true (by omega)]
  ·rw[decide_eq_false hh,decide_eq_false (by omega)]
 simp only[qen,q9j h,qah,qaz,hsum,hlt,qfz,hp,qf0,qfy,qz7,goP];rw[qcg (by omega)];have hb:var≠[]->qcm v var=0\/qcm v var=1->qc5 n var 1 (qe3 v) v=some (qe3 (ql4 v var 1),ql4 v var 1):=fun hv hkk=>qmk h (by omega) hn hv hkk (by decide)
 by_cases hz:qcm v var=0
 ·by_cases hv:var=[]
  ·subst hv
   by_cases hq:qph ahead keys vals=0<;>simp[hz,hq,ql4,Bool.cond_eq_ite]
  ·have hb':=hb hv (.inl hz)
   by_cases hq:qph ahead keys vals=0<;>simp[hz,hq,hv,hb',Bool.cond_eq_ite]
 ·by_cases ho:qcm v var=1
  ·have hv:var≠[]:=fun e=>by subst e; rw[q2r h]at ho; cases ho
   have hb':=hb hv (.inr ho);cases made<;>by_cases hq:qph ahead keys vals=0<;>by_cases hl:0<labels.length+keys.length<;>simp[ho,hq,hv,hb',hl,Bool.cond_eq_ite]
  ·simp[hz,ho,Bool.cond_eq_ite]
end W
end
section
open Go Ax
namespace W
theorem zrg {p:qa6} (hp:WfP p) {k:Nat} {x:Option qag×qae} (h:(q1r p)[k]? =some x):x.2∈p.nodes/\∀ e,x.1=some e->e∈p.edges:=by
 obtain⟨eo,d⟩:=x;obtain⟨h1,h2,h3⟩:=q8q h;refine⟨qbk h1,fun e he=>?_⟩;cases k with
 | zero=>have:=h2 rfl; rw[this]at he; cases he
 | succ j=>
  obtain⟨e',he',hm⟩:=h3 j rfl;simp only at he;rw[he']at he;cases he;exact qbk hm
theorem qvn (x:qae):1<=qia x:=by unfold qia; omega
theorem q70 (x:qag):1<=qmt x:=by unfold qmt; omega
theorem zpp (k:Nat) (nx:Int×List (List UInt8)×Env->Option (Int×List (List UInt8)×Env)) (o:Out) :
  goP k nx o=zmn (match o with|.inl (e,v)=>(.inl (e,qe3 v,v):(Int×List (List UInt8)×Env) ⊕ Env)|.inr v=>.inr v) fun v=>nx (((k+1:Nat):Int),qe3 v,v):=rfl
def toP (o:Out):(Int×List (List UInt8)×Env) ⊕ Env:=match o with|.inl (e,v)=>.inl (e,qe3 v,v)|.inr v=>.inr v
theorem qrt {A R R' T:Type} (g:R->R') (f:T->A->R ⊕ T) (f':T->A->R' ⊕ T) (h:∀ t x,f' t x=(match f t x with|.inl r=>.inl (g r)|.inr t=>.inr t)) :
  ∀ (l:List A) (t:T),qfj f' t l=(match qfj f t l with|.inl r=>.inl (g r)|.inr t=>.inr t)
 | [],t=>rfl
 | x::l,t=>by
  simp only[qfj,h];cases f t x with
  | inl r=>rfl
  | inr t'=>exact qrt g f f' h l t'
theorem q67 {n:Nat} {v ahead:Env} (h:EnvOk v) (hn:n<=1073741824) {p:qa6} (hp:WfP p) (made:Bool) (h1:v.length+2 * qjt p<n) :
  qi1 n p made (qe3 v) v (qe3 ahead) ahead=some (znw (qsp made ahead v p)):=by
 obtain⟨nodes,edges⟩:=p;have hl:=q8r hp;have hln:=qbi qia qvn nodes;have hpb:nodes.length+1<=qjt ⟨nodes,edges⟩:=by unfold qjt; simp only; omega
 unfold qi1;have e:=qmv (B:=qe8 n nodes edges made (qe3 ahead) ahead) (fun k (t:Env)=>((k:Int),qe3 t,t)) (fun k t=>EnvOk t/\t.length<=v.length+2 * k) (l:=q1r ⟨nodes,edges⟩)
  (fun t x=>toP (qqk made ahead t x)) (rest:=fun t=>some (0,qe3 t,t))
  (fun k x t nx hx hi=>by
   have hwf:=zrg hp hx;obtain⟨eo,d⟩:=x;obtain⟨g1,g2,g3⟩:=q8q hx;simp only at g1 g2 g3;have hk:=qb0 g1;have hd:=qb6 qia (qbk g1);have hpd:qia d+1<=qjt ⟨nodes,edges⟩:=by unfold qjt; simp only; omega
   have hsd:=qw1 qia g1;have hst:=qbi qia qvn (nodes.take k);have hkl:(nodes.take k).length=k:=by simp; omega
   have hkd:k+qia d+1<=qjt ⟨nodes,edges⟩:=by unfold qjt; simp only; omega
   have hnode:=fun(v':Env) (hv:EnvOk v') (hvl:v'.length<=t.length+1)=>q66 (ahead:=ahead) hv hn made (d:=d) (by have:=hi.2; omega) (hp.nodes d (qbk g1)) (k:=k) (by omega) nx;have hd':d=⟨d.var_,d.labels,d.keys,d.vals⟩:=rfl;simp only[qe8,qc1,qa7 hk,cond_true,qal g1,qah];cases k with
   | zero=>
    have:=g2 rfl;subst this;rw[show decide (((0:Nat):Int)>0)=false from rfl,cond_false];rw[hnode t hi.1 (by omega),zpp];unfold toP;rfl
   | succ j=>
    obtain⟨ed,rfl,he⟩:=g3 j rfl;have hed:=qb6 qmt (qbk he);have hse:=qw1 qmt he;have hset:=qbi qmt q70 (edges.take j);have hjl:(edges.take j).length=j:=by have:=qb0 he; simp; omega
    have hdn:j+1+j+qmt ed+1<=qjt ⟨nodes,edges⟩:=by unfold qjt; simp only; omega
    rw[show decide (((j+1:Nat):Int)>0)=true from decide_eq_true (by omega),cond_true];have hw1:IntKind.i64.wrap (((j+1:Nat):Int) - 1)=((j:Nat):Int):=by rw[q1t (by omega) (by omega)]; omega
    rw[hw1,qal he,qah];have hedge:=q64 (ahead:=ahead) hi.1 hn made (d:=ed) (by have:=hi.2; omega) (hp.edges ed (qbk he));simp only[hedge,qah,qqk];cases hE:qwi made ahead t ed with
    | inl r=>
     obtain⟨er,v'⟩:=r;have hne:=zk7 hE;simp only at hne;simp[znw,toP,hne,Bool.cond_eq_ite]
    | inr v'=>
     have hv':=zh5 hi.1 hE;simp only[znw,toP];rw[show((0:Int) != 0)=false from rfl,cond_false];rw[hnode v' hv'.1 hv'.2,zpp])
  (fun k x t t' hx hi hf=>by
   have:qqk made ahead t x=.inr t':=by
    unfold toP at hf;cases hs:qqk made ahead t x with
    | inl r=>rw[hs]at hf; cases hf
    | inr u=>rw[hs]at hf; cases hf; rfl
   have:=zdq hi.1 this;exact⟨this.1,by have:=hi.2; omega⟩)
  (fun t nx hi=>by
   rw[hl];simp only[qe8,qc1,qas,cond_false]) (n:=n) (by rw[hl]; show nodes.length<n; omega) (t0:=v) ⟨h,by simp⟩
 refine Eq.trans e ?_;rw[qrt (fun(r:Int×Env)=>(r.1,qe3 r.2,r.2)) (qqk made ahead) _ (fun t x=>by unfold toP; cases qqk made ahead t x<;>rfl)]
 unfold qsp;cases qfj (qqk made ahead) v (q1r ⟨nodes,edges⟩)<;>rfl
theorem q62 {n:Nat} {v:Env} (h:EnvOk v) (hv:v.length<n) (hn:n<=1073741824):qix n (qe3 v) v=some (qe3 v,v):=by
 unfold qix;have hk:∀ (k:Nat) (x:List UInt8×Int),v[k]? =some x->qcm v x.1=x.2:=fun k x hx=>by
  have:∀ {v:Env},(v.map (·.1)).Nodup->x∈v->qtv x.1 v=some x.2:=by
   clear hx;intro v
   induction v with
   | nil=>intro _ h; cases h
   | cons y v ih=>
    intro hd hm;simp only[List.map_cons,List.nodup_cons]at hd;rcases List.mem_cons.1 hm with rfl|hm2
    ·obtain⟨xk,xv⟩:=x
     simp[qtv]
    ·have hne:x.1≠y.1:=fun e=>hd.1 (by rw[← e]; exact List.mem_map.2 ⟨x,hm2,rfl⟩)
     obtain⟨yk,yv⟩:=y;simp only[qtv,beq_eq_false_iff_ne.2 hne,cond_false];exact ih hd.2 hm2
  unfold qcm qd9;rw[this h.nodup (qbk hx)];rfl
 have htk:∀ (k:Nat) (x:List UInt8×Int),v[k]? =some x->EnvOk (v.take k)/\qcm (v.take k) x.1=0:=fun k x hx=>by
  have hs:(v.take k++v.drop k)=v:=List.take_append_drop k v;have hnd:=h.nodup;rw[← hs,List.map_append,List.nodup_append]at hnd;refine⟨⟨fun e he=>h.kinds e (List.mem_of_mem_take he),fun e he=>h.names e (List.mem_of_mem_take he),hnd.1⟩,?_⟩
  unfold qcm qd9;cases hm:qtv x.1 (v.take k)with
  | none=>rfl
  | some y=>
   have h1:x.1∈(v.take k).map (·.1):=List.mem_map.2 ⟨_,q2u hm,rfl⟩
   have h2:x.1∈(v.drop k).map (·.1):=by
    refine List.mem_map.2 ⟨x,?_,rfl⟩;refine List.mem_of_getElem? (i:=0) ?_;rw[List.getElem?_drop];simpa using hx
   exact absurd rfl (hnd.2.2 _ h1 _ h2)
 have:=qjo (B:=qe6 n (qe3 v) v) (fun k=>((k:Int),qe3 (v.take k),v.take k)) v.length (r:=some (qe3 v,v))
  (fun k hk' nx=>by
   obtain⟨x,hx⟩:∃ x,v[k]? =some x:=⟨v[k],List.getElem?_eq_getElem hk'⟩;have h1:(qe3 v)[k]? =some x.1:=by simp[hx]
   obtain⟨hok,hz⟩:=htk k x hx;have hx2:qd9 v x.1 0=x.2:=hk k x hx;have hpos:=h.kinds x (qbk hx);have hb:=qmk hok (n:=n) (by simp; omega) hn (h.names x (qbk hx)) (k:=x.2) (.inl hz) (by omega);simp only[qe6,qaz,List.length_map,qa7 hk',cond_true,qal h1,qah,hx2,hb];rw[qcg (by omega)];have hw:ql4 (v.take k) x.1 x.2=v.take (k+1):=by
    unfold ql4;rw[if_neg (by simp[h.names x (qbk hx),hz]),List.take_succ,hx];rfl
   rw[hw])
  (fun nx=>by simp only[qe6,qaz,List.length_map,qas,cond_false,List.take_length]) hv
 simpa using this
end W
end
section
open Go Ax
namespace W
def qwo (l:List qa6):Nat:=1+(l.map qjt).sum
theorem q6d (p:qa6):1<=qjt p:=by unfold qjt; omega
theorem q4d {made:Bool} {ahead v:Env} {l:List qa6} (hp:∀ p∈l,WfP p) (h:EnvOk v) :
  ∀ (k:Nat) (x:qa6) (t t':Env),l[k]? =some x->(EnvOk t/\t.length<=v.length+2 * ((l.take k).map qjt).sum)->qsp made ahead t x=.inr t'->EnvOk t'/\t'.length<=v.length+2 * ((l.take (k+1)).map qjt).sum:=by
 intro k x t t' hx hi hf;have:=zot (hp x (qbk hx)) hi.1 hf;rw[q23 qjt hx];exact⟨this.1,by omega⟩
theorem q8m {made:Bool} {ahead v v':Env} {l:List qa6} (hp:∀ p∈l,WfP p) (h:EnvOk v) (e:qqf made ahead v l=.inr v'):EnvOk v'/\v'.length<=v.length+2 * qwo l:=by
 have:=q2l (fun k t=>EnvOk t/\t.length<=v.length+2 * ((l.take k).map qjt).sum) l 0 v v' (fun j x t t' hx hi hf=>by
  simp only[Nat.zero_add]at hi ⊢;exact q4d hp h j x t t' hx hi hf) ⟨h,by simp⟩ e
 simp only[Nat.zero_add,List.take_length]at this;unfold qwo;exact⟨this.1,by omega⟩
theorem q5c {n:Nat} {v:Env} (h:EnvOk v) (hn:n<=1073741824) {l:List qa6} (hp:∀ p∈l,WfP p) (made:Bool) (h1:v.length+2 * qwo l<n) :
  qe2 n l made (qe3 v) v=some (znw (qqf made v v l)):=by
 have hlen:=qbi qjt q6d l;unfold qe2;unfold qwo at h1;rw[q62 h (by omega) hn,qah];have e:=qmv (B:=qeo n l made (qe3 v) v) (fun k (t:Env)=>((k:Int),qe3 t,t)) (fun k t=>EnvOk t/\t.length<=v.length+2 * ((l.take k).map qjt).sum) (l:=l)
  (fun t x=>toP (qsp made v t x)) (rest:=fun t=>some (0,qe3 t,t))
  (fun k x t nx hx hi=>by
   have hk:=qb0 hx;have ht:=qw1 qjt hx;have hpe:=q67 (ahead:=v) hi.1 hn (hp x (qbk hx)) made (by have:=hi.2; omega);obtain⟨nodes,edges⟩:=x;simp only[qeo,qck,qa7 hk,cond_true,qal hx,qah,hpe];rw[qcg (by omega)];cases hS:qsp made v t ⟨nodes,edges⟩with
   | inl r=>
    obtain⟨er,v'⟩:=r;have hne:er≠0:=by
     have:∀ (l:List (Option qag×qae)) (u:Env),qfj (qqk made v) u l=.inl (er,v')->er≠0:=by
      intro l
      induction l with
      | nil=>intro u h; cases h
      | cons y l ih=>
       intro u hu;simp only[qfj]at hu;cases hy:qqk made v u y with
       | inr u'=>rw[hy]at hu; exact ih u' hu
       | inl r=>
        rw[hy]at hu;cases hu;obtain⟨eo,d⟩:=y;have hnode:∀ w:Env,qz7 made v w d=.inl (er,v')->er≠0:=by
         intro w hw;unfold qz7 at hw;split at hw
         ·cases hw; simp
         ·split at hw
          ·cases hw; simp
          ·split at hw
           ·rename_i hz; cases hw; exact hz
           ·cases hw
        cases eo with
        | none=>exact hnode u hy
        | some ed=>
         simp only[qqk]at hy;cases hed:qwi made v u ed with
         | inl r=>rw[hed]at hy; cases hy; exact zk7 hed
         | inr w=>rw[hed]at hy; exact hnode w hy
     exact this _ _ hS
    simp[znw,toP,hne,Bool.cond_eq_ite]
   | inr v'=>simp[znw,toP])
  (fun k x t t' hx hi hf=>by
   have:qsp made v t x=.inr t':=by
    unfold toP at hf;cases hs:qsp made v t x with
    | inl r=>rw[hs]at hf; cases hf
    | inr u=>rw[hs]at hf; cases hf; rfl
   exact q4d hp h k x t t' hx hi this)
  (fun t nx hi=>by simp only[qeo,qck,qas,cond_false]) (n:=n) (by omega) (t0:=v) ⟨h,by simp⟩
 refine Eq.trans e ?_;rw[qrt (fun(r:Int×Env)=>(r.1,qe3 r.2,r.2)) (qsp made v) _ (fun t x=>by unfold toP; cases qsp made v t x<;>rfl)]
 unfold qqf;cases qfj (qsp made v) v l<;>rfl
def toR (o:Out):(qa4×Int) ⊕ Env:=match o with|.inl (e,v)=>.inl (qf2 v,e)|.inr v=>.inr v
def ztk:Out->qa4×Int
 | .inl (e,v)=>(qf2 v,e)
 | .inr v=>(qf2 v,0)
theorem zbu {n:Nat} {v ahead:Env} (h:EnvOk v) (hn:n<=1073741824) {l:List qa6} {i:Nat} {p:qa6} (hi:l[i]? =some p) {k:Nat} {d:qae} (hd:p.nodes[k]? =some d) (made:Bool)
  (h1:v.length+ahead.length+2 * qia d<n) (hk:k<n) (hw:∀ x∈d.vals,WfE x) (nx:Int×List (List UInt8)×List Int->Option (qa4×Int)) :
  qj9 n l (i:Int) (k:Int) made (ahead.map (·.1)) (ahead.map (·.2)) nx (v.map (·.1),v.map (·.2))=zmn (toR (qz7 made ahead v d)) fun v'=>nx (((k+1:Nat):Int),v'.map (·.1),v'.map (·.2)):=by
 obtain⟨nodes,edges⟩:=p;obtain⟨var,labels,keys,vals⟩:=d;unfold qia at h1;have hnk:=qeb keys;have hnl:=qeb labels;simp only at h1 hw hd;have hp:=q0b (n:=n) (v:=ahead) (keys:=keys) (vals:=vals) (by omega) (by omega) hn hw;have hkd:=qe4 (n:=n) (v:=v) (by omega) hn var;have hwith:=qsh (n:=n) h (by omega) hn var 1;have hsum:IntKind.i64.wrap ((labels.length:Int)+(keys.length:Int))=((labels.length+keys.length:Nat):Int):=by rw[q1t (by omega) (by omega)]; omega
 have hlt:decide (((labels.length+keys.length:Nat):Int)>0)=decide (0<labels.length+keys.length):=by
  by_cases hh:0<labels.length+keys.length
  ·rw[decide_eq_true hh,decide_eq_true (by omega)]
  ·rw[decide_eq_false hh,decide_eq_false (by omega)]
 have hnn:=q1n h var;have k15:qka n (v.map (·.1)) (v.map (·.2)) made labels keys (ahead.map (·.1)) (ahead.map (·.2)) vals var nx (k:Int) (qcm v var)=zmn (toR (qz7 made ahead v ⟨var,labels,keys,vals⟩)) fun v'=>nx (((k+1:Nat):Int),v'.map (·.1),v'.map (·.2)):=by
  simp only[qka,qaz,hsum,hlt,hp,hwith,qah,qz7,qf2];rw[qcg (by omega)];by_cases hz:qcm v var=0
  ·by_cases hq:qph ahead keys vals=0<;>simp[hz,hq,toR,Bool.cond_eq_ite]
  ·by_cases ho:qcm v var=1
   ·cases made<;>by_cases hq:qph ahead keys vals=0<;>by_cases hl:0<labels.length+keys.length<;>simp[ho,hq,hl,toR,Bool.cond_eq_ite]
   ·have:1<qcm v var:=by omega
    simp[hz,ho,this,toR,Bool.cond_eq_ite]
 simp only[qj9,qal hi,qal hd,qah,hkd];by_cases hv:var=[]
 ·subst hv
  rw[q2r h]at k15;simpa using k15
 ·have hv':(var==[])=false:=beq_eq_false_iff_ne.2 hv
  simp only[hv',Bool.not_false,cond_true];exact k15
end W
end
section
open Go Ax
namespace W
theorem zby {n:Nat} {v ahead:Env} (h:EnvOk v) (hn:n<=1073741824) {l:List qa6} {i:Nat} {p:qa6} (hi:l[i]? =some p) (hp:WfP p) {k:Nat} {x:Option qag×qae} (hx:(q1r p)[k]? =some x) (made:Bool)
  (h1:v.length+2+ahead.length+2 * qjt p<n) (nx1 nx:Int×List (List UInt8)×List Int->Option (qa4×Int)) :
  qjk n l (i:Int) made (ahead.map (·.1)) (ahead.map (·.2)) nx1 nx ((k:Int),v.map (·.1),v.map (·.2))=zmn (toR (qqk made ahead v x)) fun v'=>nx (((k+1:Nat):Int),v'.map (·.1),v'.map (·.2)):=by
 obtain⟨eo,d⟩:=x;obtain⟨g1,g2,g3⟩:=q8q hx;have hk:=qb0 g1;have hd:=qb6 qia (qbk g1);have hln:=qbi qia qvn p.nodes;have hpd:qia d+1<=qjt p:=by unfold qjt; omega
 have hpn:p.nodes.length+1<=qjt p:=by unfold qjt; omega
 have hnode:=fun(v':Env) (hv:EnvOk v') (hvl:v'.length<=v.length+1)=>zbu (n:=n) (ahead:=ahead) hv hn hi g1 made (by omega) (by omega) (hp.nodes d (qbk g1)) nx;obtain⟨nodes,edges⟩:=p;simp only at g1 g3 hk hpn;simp only[qjk,qal hi,qah,qc1,qa7 hk,cond_true];cases k with
 | zero=>
  have:=g2 rfl;subst this;rw[show decide (((0:Nat):Int)>0)=false from rfl,cond_false];rw[hnode v h (by omega)];rfl
 | succ j=>
  obtain⟨ed,rfl,he⟩:=g3 j rfl;have hed:=qb6 qmt (qbk he);have hpe:qmt ed+1<=qjt ⟨nodes,edges⟩:=by unfold qjt; simp only; omega
  have hwe:=hp.edges ed (qbk he);rw[show decide (((j+1:Nat):Int)>0)=true from decide_eq_true (by omega),cond_true];have hw1:IntKind.i64.wrap (((j+1:Nat):Int) - 1)=((j:Nat):Int):=by rw[q1t (by omega) (by omega)]; omega
  obtain⟨var,type,dir,keys,vals⟩:=ed;rw[hw1,qal he,qah];unfold qmt at hpe;have hnk:=qeb keys;simp only at hpe hwe;have hprop:=q0b (n:=n) (v:=ahead) (keys:=keys) (vals:=vals) (by omega) (by omega) hn hwe;have hkd:=qe4 (n:=n) (v:=v) (by omega) hn var;have hwith:=qsh (n:=n) h (by omega) hn var 2;have hnn:=q1n h var;simp only[hprop,hkd,hwith,qah,qqk];have herr:qcm v var≠0\/(made=true/\(type=[]\/dir=2))->qwi made ahead v ⟨var,type,dir,keys,vals⟩=.inl (2,v):=fun hc=>by unfold qwi; rw[if_pos hc]
  by_cases hc:qcm v var≠0\/(made=true/\(type=[]\/dir=2))
  ·rw[herr hc]
   have hcond:(bif(bif !(var==[])then decide (qcm v var>0)else false)then true else bif made then(bif type==[]then true else dir==2)else false)=true:=by
    rcases hc with hc|⟨rfl,hc⟩
    ·have hv:var≠[]:=fun e=>by subst e; exact hc (q2r h)
     have:0<qcm v var:=by omega
     simp[hv,this]
    ·rcases hc with rfl|rfl
     ·simp[Bool.cond_eq_ite]
     ·simp[Bool.cond_eq_ite]
   have hg:(qaw (!(var==[])) (some (qcm v var)))=some (if var=[]then default else qcm v var):=by
    by_cases hv:var=[]
    ·subst hv; rfl
    ·rw[beq_eq_false_iff_ne.2 hv,if_neg hv]; rfl
   rw[hg,qah];have hcond':(bif(bif !(var==[])then decide ((if var=[]then default else qcm v var)>0)else false)then true else bif made then(bif type==[]then true else dir==2)else false)=true:=by
    by_cases hv:var=[]
    ·subst hv; simpa using hcond
    ·simpa[hv]using hcond
   rw[hcond',cond_true];rfl
  ·simp only[not_or,Decidable.not_not]at hc
   have hE:qwi made ahead v ⟨var,type,dir,keys,vals⟩=if qph ahead keys vals≠0 then .inl (qph ahead keys vals,v)else .inr (ql4 v var 2):=by
    unfold qwi;rw[if_neg (by simp only[not_or,Decidable.not_not]; exact hc)]
   rw[hE];have hg:(qaw (!(var==[])) (some (qcm v var)))=some (if var=[]then default else qcm v var):=by
    by_cases hv:var=[]
    ·subst hv; rfl
    ·rw[beq_eq_false_iff_ne.2 hv,if_neg hv]; rfl
   rw[hg,qah];have hcond':(bif(bif !(var==[])then decide ((if var=[]then default else qcm v var)>0)else false)then true else bif made then(bif type==[]then true else dir==2)else false)=false:=by
    have h2:made=true->¬(type=[]\/dir=2):=fun hm hx=>hc.2 ⟨hm,hx⟩
    cases made with
    | false=>by_cases hv:var=[]<;>simp[hv,hc.1]
    | true=>
     have:=h2 rfl;simp only[not_or]at this;by_cases hv:var=[]<;>simp[hv,hc.1,this.1,this.2,Bool.cond_eq_ite]
   rw[hcond',cond_false];by_cases hq:qph ahead keys vals=0
   ·simp only[hq]
    rw[show((0:Int) != 0)=false from rfl,cond_false,if_neg (by simp)];have:=hnode (ql4 v var 2) (q27 h var (by decide)) (qyz _ _ _);exact this
   ·simp[hq,toR,Bool.cond_eq_ite]
theorem q9c {n:Nat} {v:Env} (h:EnvOk v) (hn:n<=1073741824) {l:List qa6} (hp:∀ p∈l,WfP p) (made:Bool) (h1:2 * v.length+4 * qwo l<n) :
  qo0 n (qf2 v) l made=some (ztk (qqf made v v l)):=by
 have hlen:=qbi qjt q6d l;unfold qo0;unfold qwo at h1;have e:=qmv (B:=qll n l made (v.map (·.1)) (v.map (·.2))) (fun k (t:Env)=>((k:Int),t.map (·.1),t.map (·.2))) (fun k t=>EnvOk t/\t.length<=v.length+2 * ((l.take k).map qjt).sum) (l:=l)
  (fun t x=>toR (qsp made v t x)) (rest:=fun t=>some (qf2 t,0))
  (fun k x t nx hx hi=>by
   have hk:=qb0 hx;have ht:=qw1 qjt hx;have hl:=q8r (hp x (qbk hx));have hln:=qbi qia qvn x.nodes;have hpn:x.nodes.length+1<=qjt x:=by unfold qjt; omega
   have hwx:=hp x (qbk hx);have inner:=qmv (B:=qjk n l (k:Int) made (v.map (·.1)) (v.map (·.2)) nx) (fun j (u:Env)=>((j:Int),u.map (·.1),u.map (·.2))) (fun j u=>EnvOk u/\u.length<=t.length+2 * j) (l:=q1r x)
    (fun u y=>toR (qqk made v u y)) (rest:=fun u=>nx (((k+1:Nat):Int),u.map (·.1),u.map (·.2)))
    (fun j y u nx2 hy hu=>by
     have hj:=qb0 hy;rw[hl]at hj;have hb:u.length+2+v.length+2 * qjt x<n:=by
      have:=hu.2; have:=hi.2;omega
     exact zby hu.1 hn hx hwx hy made hb nx nx2)
    (fun j y u u' hy hu hf=>by
     have:qqk made v u y=.inr u':=by
      unfold toR at hf;cases hs:qqk made v u y with
      | inl r=>rw[hs]at hf; cases hf
      | inr w=>rw[hs]at hf; cases hf; rfl
     have:=zdq hu.1 this;exact⟨this.1,by have:=hu.2; omega⟩)
    (fun u nx2 hu=>by
     obtain⟨nodes,edges⟩:=x;rw[hl];simp only[qjk,qal hx,qah,qc1,qas,cond_false];rw[qcg (by omega)]) (n:=n) (by rw[hl]; omega) (t0:=t) ⟨hi.1,by simp⟩
   simp only[qll,qck,qa7 hk,cond_true];refine Eq.trans inner ?_;rw[qrt (fun(r:Int×Env)=>(qf2 r.2,r.1)) (qqk made v) _ (fun t x=>by unfold toR; cases qqk made v t x<;>rfl)]
   unfold qsp toR;cases qfj (qqk made v) t (q1r x)<;>rfl)
  (fun k x t t' hx hi hf=>by
   have:qsp made v t x=.inr t':=by
    unfold toR at hf;cases hs:qsp made v t x with
    | inl r=>rw[hs]at hf; cases hf
    | inr u=>rw[hs]at hf; cases hf; rfl
   exact q4d hp h k x t t' hx hi this)
  (fun t nx hi=>by simp only[qll,qck,qas,cond_false]) (n:=n) (by omega) (t0:=v) ⟨h,by simp⟩
 refine Eq.trans e ?_;rw[qrt (fun(r:Int×Env)=>(qf2 r.2,r.1)) (qsp made v) _ (fun t x=>by unfold toR; cases qsp made v t x<;>rfl)]
 unfold qqf;cases qfj (qsp made v) v l<;>rfl
end W
end
section
open Go Ax
namespace W
@[simp] theorem qt9 (l:List qbj):(qbj.rows l).length=l.length:=by simp[qbj.rows]
@[simp] theorem qug (l:List qar):(qar.rows l).length=l.length:=by simp[qar.rows]
@[simp] theorem qwx (l:List qaf):(qaf.rows l).length=l.length:=by simp[qaf.rows]
theorem zk9 (E:Int) (h:(if E≠0 then((0:Int),E)else(3,0)).2=0):0<(if E≠0 then((0:Int),E)else(3,0)).1:=by
 by_cases hz:E=0
 ·simp[hz]
 ·rw[if_pos hz]at h; exact absurd h hz
theorem zn7 {v:Env} (h:EnvOk v) {x:qaa} (e:(qmu v x).2=0):0<(qmu v x).1:=by
 obtain⟨op,name,val,names,args⟩:=x;have hnn:=q1n h name;simp only[qmu]at e ⊢;by_cases h2:op=2
 ·subst h2
  by_cases hk:qcm v name=0
  ·simp[hk]at e
  ·simp[hk]; omega
 ·by_cases h14:op=14
  ·subst h14; simp at e
  ·simp only[h2,h14,if_false]at e ⊢
   exact zk9 _ e
def cnt:List UInt8:=[99,111,117,110,116]
def qxk (v:Env) (x:qaa):Int×Int:=
 if(qjq x).1≠14 then qmu v x
 else
  let e:=qkg v (if(qjq x).2.1=cnt then 0 else 3) (qjq x).2.2
  if e≠0 then(0,e)else(3,0)
theorem zid {v:Env} (h:EnvOk v) {x:qaa} (e:(qxk v x).2=0):0<(qxk v x).1:=by
 unfold qxk at e ⊢;split
 ·rename_i h1; rw[if_pos h1]at e; exact zn7 h e
 ·rename_i h1
  rw[if_neg h1]at e;exact zk9 _ e
theorem q65 {n:Nat} {o:List (List UInt8)} {v:Env} {x:qaa} (h1:2 * qki x+1<n) (hn:n<=1073741824) (hw:WfE x):qi0 n x o v=some (qxk v x):=by
 have hx:=(qlt o v n hn).2.1 x h1 hw;obtain⟨op,name,⟨a1,a2,a3,a4,a5,a6⟩,names,args⟩:=x;obtain⟨w1,w2,w3⟩:=q8t hw;have hall:=fun kind=>(qlt o v n hn).1 args kind (by simp only[qki]at h1; omega) w3;unfold qi0;simp only[hx,hall,qgi,qah,qxk,qjq,cnt];by_cases h14:op=14
 ·subst h14
  by_cases hc:name=[99,111,117,110,116]
  ·by_cases hz:qkg v 0 args=0<;>simp[hc,hz,Bool.cond_eq_ite]
  ·by_cases hz:qkg v 3 args=0<;>simp[hc,hz,Bool.cond_eq_ite]
 ·simp[h14,Bool.cond_eq_ite]
def qdr (ck:Int) (v m:Env) (it:qbj):Int ⊕ Env:=
 if(qxk v it.e).2≠0 then .inl (qxk v it.e).2
 else if ck=9/\(qxk v it.e).1≠3 then .inl 3
 else if qcm m it.as_≠0 then .inl 2
 else .inr (ql4 m it.as_ (qxk v it.e).1)
def qi9 (m:Env) (s:qar):Option Int:=if qkg m 3 [s.e]≠0 then some (qkg m 3 [s.e])else none
def qyv (v:Env) (c:qab):Int×Env:=
 match qfj (qdr c.kind v) [] c.items with
 | .inl e=>(e,[])
 | .inr m=>match qew (qi9 m) c.order with
  | some e=>(e,[])
  | none=>
   if qkg [] 3 c.skip≠0 then(qkg [] 3 c.skip,[])
   else if qkg [] 3 c.limit≠0 then(qkg [] 3 c.limit,[])
   else(qkg m 3 c.where_,m)
theorem q1k {ck:Int} {v m m':Env} {it:qbj} (hv:EnvOk v) (h:EnvOk m) (e:qdr ck v m it=.inr m'):EnvOk m'/\m'.length<=m.length+1:=by
 unfold qdr at e;split at e
 ·cases e
 ·rename_i hz
  split at e
  ·cases e
  ·split at e
   ·cases e
   ·cases e; exact⟨q27 h _ (zid hv (by simpa using hz)),qyz _ _ _⟩
theorem zie {ck:Int} {v m:Env} {l:List qbj} (hv:EnvOk v) (e:qfj (qdr ck v) [] l=.inr m):EnvOk m/\m.length<=l.length:=by
 have:=q2l (fun k t=>EnvOk t/\t.length<=k) l 0 [] m (fun j x t t' _ hi hf=>by
  have:=q1k hv hi.1 hf;exact⟨this.1,by have:=hi.2; omega⟩) ⟨zad,by simp⟩ e
 simpa using this
def qsb (i:qbj):Nat:=1+i.as_.length+qki i.e
def qhy (s:qar):Nat:=1+qki s.e
def qib (s:qaf):Nat:=1+s.var_.length+s.key.length+s.label.length+qki s.e
def qde (c:qab):Nat:=1+qwo c.paths+qf1 c.where_+qki c.e+c.var_.length+(c.items.map qsb).sum+(c.order.map qhy).sum+qf1 c.skip+qf1 c.limit+(c.sets.map qib).sum+qz6 c.vars
structure WfRows (c:qab):Prop where
 items:∀ i∈c.items,WfE i.e/\i.as_≠[]
 order:∀ s∈c.order,WfE s.e
 skip:∀ x∈c.skip,WfE x
 limit:∀ x∈c.limit,WfE x
 wher:∀ x∈c.where_,WfE x
def zto:qax->Int
 | .o0 e=>e
 | .o1 e _ _=>e
theorem zic {ck:Int} {v m:Env} {it:qbj} {e:Int} (h:qdr ck v m it=.inl e):e≠0:=by
 unfold qdr at h;split at h
 ·rename_i hz; cases h; exact hz
 ·split at h
  ·cases h; decide
  ·split at h
   ·cases h; decide
   ·cases h
theorem q68 {n:Nat} {v:Env} (hv:EnvOk v) (hn:n<=1073741824) {c:qab} (hw:WfRows c) (h1:2 * qde c<n) :
  ∃ r,qi2 n c (qe3 v) v=some r/\zto r=(qyv v c).1/\((qyv v c).1=0->r=.o1 0 (qe3 (qyv v c).2) (qyv v c).2):=by
 obtain⟨kind,paths,wher,⟨eop,ename,⟨e1,e2,e3,e4,e5,e6⟩,enames,eargs⟩,var,items,uniq,order,skip,limit,sets,vars,detach⟩:=c;obtain⟨w1,w2,w3,w4,w5⟩:=hw;simp only[qde]at h1 w1 w2 w3 w4 w5;have hli:=qbi qsb (fun x=>by unfold qsb; omega) items
 have hlo:=qbi qhy (fun x=>by unfold qhy; omega) order
 unfold qi2;have tail:∀ (m:Env),∃ r,qan (qc8 n order (qe3 m) m skip limit wher) n (0:Int)=some r /\
   (match qew (qi9 m) order with
    | some e=>r=.o0 e
    | none=>if qkg [] 3 skip≠0 then r=.o0 (qkg [] 3 skip)else if qkg [] 3 limit≠0 then r=.o0 (qkg [] 3 limit)else r=.o1 (qkg m 3 wher) (qe3 m) m):=by
  intro m;have hs:=(qlt [] ([]:Env) n hn).1 skip 3 (by omega) w3;have hl:=(qlt [] ([]:Env) n hn).1 limit 3 (by omega) w4;have hwh:=(qlt (qe3 m) m n hn).1 wher 3 (by omega) w5;have l3:qan (qdt n skip limit wher (qe3 m) m) n ((0:Int),([]:List (List UInt8)))=some (if qkg [] 3 skip≠0 then .o0 (qkg [] 3 skip)else if qkg [] 3 limit≠0 then .o0 (qkg [] 3 limit)else .o1 (qkg m 3 wher) (qe3 m) m):=by
   obtain⟨n',rfl⟩:∃ n',n=n'+3:=⟨n - 3,by have:=qdx skip; have:=qdx limit; omega⟩;rw[qbg];have z0:(zbc qcf [skip,limit]).length=2:=rfl;simp only[qdt,z0];rw[show decide ((0:Int)<((2:Nat):Int))=true from rfl,cond_true,qrc,qah,hs,qah];by_cases hz:qkg [] 3 skip=0
   ·simp only[hz]
    rw[show((0:Int) != 0)=false from rfl,cond_false,show IntKind.i64.wrap ((0:Int)+1)=1 from rfl,qbg];simp only[qdt,z0];rw[show decide ((1:Int)<((2:Nat):Int))=true from rfl,cond_true,zgu,qah,hl,qah];by_cases hz2:qkg [] 3 limit=0
    ·simp only[hz2]
     rw[show((0:Int) != 0)=false from rfl,cond_false,show IntKind.i64.wrap ((1:Int)+1)=2 from rfl,qbg];simp only[qdt,z0];rw[show decide ((2:Int)<((2:Nat):Int))=false from rfl,cond_false,hwh,qah];simp
    ·simp[hz2,Bool.cond_eq_ite]
   ·simp[hz,Bool.cond_eq_ite]
  have e:=qcy (B:=qc8 n order (qe3 m) m skip limit wher) (fun k=>((k:Nat):Int)) (l:=order) (fun s=>(qi9 m s).map qax.o0) (rest:=qan (qdt n skip limit wher (qe3 m) m) n ((0:Int),([]:List (List UInt8))))
   (fun k x nx hx=>by
    have hk:=qb0 hx;have hm:=qb6 qhy (qbk hx);have hxx:=(qlt (qe3 m) m n hn).1 [x.e] 3 (by have:qhy x=1+qki x.e:=rfl; simp only[qf1]; omega) (by intro y hy; simp at hy; subst hy; exact w2 x (qbk hx));obtain⟨⟨op,name,⟨a1,a2,a3,a4,a5,a6⟩,names,args⟩,down⟩:=x;simp only[qc8,qug,qa7 hk,cond_true,qal hx,qah,hxx,qi9];rw[qcg (by omega)];by_cases hz:qkg m 3 [.mk op name (.mk a1 a2 a3 a4 a5 a6) names args]=0<;>simp[hz,Bool.cond_eq_ite])
   (fun nx=>by simp only[qc8,qug,qas,cond_false]) (n:=n) (by omega)
  have key:∀ l:List qar,qew (fun s=>(qi9 m s).map qax.o0) l=(qew (qi9 m) l).map qax.o0:=by
   intro l
   induction l with
   | nil=>rfl
   | cons x l ih=>
    simp only[qew];cases qi9 m x with
    | some r=>rfl
    | none=>exact ih
  rw[key,l3]at e;have e':qan (qc8 n order (qe3 m) m skip limit wher) n (0:Int)=_:=e;rw[e'];cases qew (qi9 m) order with
  | some r=>exact⟨_,rfl,rfl⟩
  | none=>
   refine⟨_,rfl,?_⟩;simp only;split
   ·rfl
   ·split<;>rfl
 have e:=qmv (B:=qee n items (qe3 v) v kind order skip limit wher) (fun k (t:Env)=>((k:Int),qe3 t,t)) (fun k t=>EnvOk t/\t.length<=k) (l:=items)
  (fun t x=>match qdr kind v t x with|.inl e=>.inl (qax.o0 e)|.inr t'=>.inr t') (rest:=fun t=>qan (qc8 n order (qe3 t) t skip limit wher) n (0:Int))
  (fun k x t nx hx hi=>by
   have hk:=qb0 hx;have hm:=qb6 qsb (qbk hx);have hwx:=w1 x (qbk hx);have hit:=q65 (o:=qe3 v) (v:=v) (n:=n) (x:=x.e) (by have:qsb x=1+x.as_.length+qki x.e:=rfl; omega) hn hwx.1;have hpos:=fun e=>zid hv (x:=x.e) e
   obtain⟨⟨op,name,⟨a1,a2,a3,a4,a5,a6⟩,names,args⟩,nm⟩:=x;simp only at hit hwx hpos;simp only[qee,qt9,qa7 hk,cond_true,qal hx,qah,hit,qdr];rw[qcg (by omega)];rcases hI:qxk v (.mk op name (.mk a1 a2 a3 a4 a5 a6) names args)with ⟨kd,er⟩;rw[hI]at hpos;simp only at hpos ⊢;by_cases hz:er=0
   ·have hp:=hpos hz
    have hkm:qcm t nm=qd9 t nm 0:=rfl;rw[← hkm];by_cases h9:kind=9/\kd≠3
    ·simp[hz,h9,Bool.cond_eq_ite]
    ·by_cases hk0:qcm t nm=0
     ·have hb:=qmk hi.1 (n:=n) (by have:=hi.2; omega) hn hwx.2 (k:=kd) (.inl hk0) (by omega)
      have h9':(bif kind==9 then kd != 3 else false)=false:=by
       by_cases hh:kind=9
       ·have:kd=3:=Decidable.byContradiction fun x=>h9 ⟨hh,x⟩
        simp[this]
       ·simp[hh]
      rw[h9',if_neg h9];simp[hz,hk0,hb]
     ·have h9':(bif kind==9 then kd != 3 else false)=false:=by
       by_cases hh:kind=9
       ·have:kd=3:=Decidable.byContradiction fun x=>h9 ⟨hh,x⟩
        simp[this]
       ·simp[hh]
      rw[h9',if_neg h9];simp[hz,hk0,Bool.cond_eq_ite]
   ·simp[hz,Bool.cond_eq_ite])
  (fun k x t t' hx hi hf=>by
   have:qdr kind v t x=.inr t':=by
    cases hs:qdr kind v t x with
    | inl r=>rw[hs]at hf; cases hf
    | inr u=>rw[hs]at hf; cases hf; rfl
   have:=q1k hv hi.1 this;exact⟨this.1,by have:=hi.2; omega⟩)
  (fun t nx hi=>by simp only[qee,qt9,qas,cond_false]) (n:=n) (by omega) (t0:=[]) ⟨zad,by simp⟩
 have e':qan (qee n items (qe3 v) v kind order skip limit wher) n ((0:Int),([]:List (List UInt8)),([]:List (List UInt8×Int)))=_:=e;simp only[e'];rw[qrt qax.o0 (qdr kind v) _ (fun t x=>by cases qdr kind v t x<;>rfl)]
 simp only[qyv];cases hF:qfj (qdr kind v) [] items with
 | inl er=>
  refine⟨_,rfl,rfl,fun hz=>?_⟩;have:∀ (l:List qbj) (u:Env),qfj (qdr kind v) u l=.inl er->er≠0:=by
   intro l
   induction l with
   | nil=>intro u h; cases h
   | cons y l ih=>
    intro u hu;simp only[qfj]at hu;cases hy:qdr kind v u y with
    | inr u'=>rw[hy]at hu; exact ih u' hu
    | inl r=>rw[hy]at hu; cases hu; exact zic hy
  exact absurd hz (this _ _ hF)
 | inr m=>
  obtain⟨r,hr,hm⟩:=tail m;refine⟨r,hr,?_⟩;simp only;cases hO:qew (qi9 m) order with
  | some er=>
   rw[hO]at hm;simp only at hm;subst hm;refine⟨rfl,fun hz=>?_⟩;have:∀ l:List qar,qew (qi9 m) l=some er->er≠0:=by
    intro l
    induction l with
    | nil=>intro h; cases h
    | cons y l ih=>
     intro hu;simp only[qew]at hu;cases hy:qi9 m y with
     | none=>rw[hy]at hu; exact ih hu
     | some r=>
      rw[hy]at hu;cases hu;unfold qi9 at hy;split at hy
      ·rename_i hq; cases hy; exact hq
      ·cases hy
   exact absurd hz (this _ hO)
  | none=>
   rw[hO]at hm;simp only at hm ⊢;by_cases hz:qkg [] 3 skip=0
   ·rw[if_neg (by simpa using hz)]at hm ⊢
    by_cases hz2:qkg [] 3 limit=0
    ·rw[if_neg (by simpa using hz2)]at hm ⊢
     subst hm;exact⟨rfl,fun h0=>by simp only at h0; rw[h0]⟩
    ·rw[if_pos (by simpa using hz2)]at hm ⊢
     subst hm;exact⟨rfl,fun h0=>absurd h0 hz2⟩
   ·rw[if_pos (by simpa using hz)]at hm ⊢
    subst hm;exact⟨rfl,fun h0=>absurd h0 hz⟩
end W
end
section
open Go Ax
namespace W
theorem zib {v:Env} {op:Int} {name:List UInt8} {val:Val} {names:List (List UInt8)} {args:List qaa} (h:op≠14):qxk v (.mk op name val names args)=qmu v (.mk op name val names args):=if_pos h
theorem q2n {v:Env} {name:List UInt8} {val:Val} {names:List (List UInt8)} {args:List qaa}:qxk v (.mk 14 name val names args)=if qkg v (if name=cnt then 0 else 3) args≠0 then(0,qkg v (if name=cnt then 0 else 3) args)else(3,0):=by
 unfold qxk;rw[if_neg (by simp[qjq])];rfl
theorem zga {n:Nat} {v t:Env} (hv:EnvOk v) (ht:EnvOk t) (hn:n<=1073741824) (hl:t.length+1<n) {kind:Int} {items:List qbj} {k:Nat} {x:qbj} (hx:items[k]? =some x) (hk:k<n) (nx:Int×List (List UInt8)×List Int->Option (qa4×Int)) {kd er:Int}
  (he:er=(qxk v x.e).2) (hkd:er=0->kd=(qxk v x.e).1) :
  qm9 n (t.map (·.1)) (t.map (·.2)) kind items (k:Int) nx (kd,er)=zmn (match qdr kind v t x with|.inl e=>(.inl (qf2 t,e):(qa4×Int) ⊕ Env)|.inr t'=>.inr t') fun t'=>nx (((k+1:Nat):Int),t'.map (·.1),t'.map (·.2)):=by
 obtain⟨⟨op,name,⟨a1,a2,a3,a4,a5,a6⟩,names,args⟩,nm⟩:=x;simp only at he hkd;have hK:=qe4 (n:=n) (v:=t) (by omega) hn nm;have hW:=qsh (n:=n) ht (by omega) hn nm kd;have hnn:=q1n ht nm;simp only[qm9,qal hx,qah,hK,hW,qdr];rw[qcg (by omega)];rw[← he];by_cases hz:er=0
 ·rw[← hkd hz]
  by_cases h9:kind=9/\kd≠3
  ·simp[hz,h9,Bool.cond_eq_ite]
  ·have h9':(bif kind==9 then kd != 3 else false)=false:=by
    by_cases hh:kind=9
    ·have:kd=3:=Decidable.byContradiction fun x=>h9 ⟨hh,x⟩
     simp[this]
    ·simp[hh]
   rw[h9',if_neg h9];by_cases hk0:qcm t nm=0
   ·simp[hz,hk0]
   ·have:0<qcm t nm:=by omega
    simp[hz,hk0,this]
 ·simp[hz,Bool.cond_eq_ite]
theorem zbv {n:Nat} {v:Env} (hv:EnvOk v) (hn:n<=1073741824) {c:qab} (hw:WfRows c) (h1:v.length+4 * qde c<n) :
  ∃ w,qvg n (qf2 v) c=some (w,(qyv v c).1)/\((qyv v c).1=0->w=qf2 (qyv v c).2):=by
 obtain⟨kind,paths,wher,⟨eop,ename,⟨e1,e2,e3,e4,e5,e6⟩,enames,eargs⟩,var,items,uniq,order,skip,limit,sets,vars,detach⟩:=c;obtain⟨w1,w2,w3,w4,w5⟩:=hw;simp only[qde]at h1 w1 w2 w3 w4 w5;have hli:=qbi qsb (fun x=>by unfold qsb; omega) items
 have hlo:=qbi qhy (fun x=>by unfold qhy; omega) order
 unfold qvg;have tail:∀ (m:Env),m.length<=items.length->qan (qiu n order (m.map (·.1)) (m.map (·.2)) skip limit wher) n (0:Int) =
   some (qf2 m,match qew (qi9 m) order with
    | some e=>e
    | none=>if qkg [] 3 skip≠0 then qkg [] 3 skip else if qkg [] 3 limit≠0 then qkg [] 3 limit else qkg m 3 wher):=by
  intro m hm;have hs:=(qrd ([]:Env) n hn).1 skip 3 (by omega) (by simp only[List.length_nil]; omega) w3;have hl:=(qrd ([]:Env) n hn).1 limit 3 (by omega) (by simp only[List.length_nil]; omega) w4;have hwh:=(qrd m n hn).1 wher 3 (by omega) (by omega) w5;simp only[qf2,List.map_nil]at hs hl hwh;have e:=qcy (B:=qiu n order (m.map (·.1)) (m.map (·.2)) skip limit wher) (fun k=>((k:Nat):Int)) (l:=order) (fun s=>(qi9 m s).map fun e=>(qf2 m,e)) (rest:=some (qf2 m,if qkg [] 3 skip≠0 then qkg [] 3 skip else if qkg [] 3 limit≠0 then qkg [] 3 limit else qkg m 3 wher))
   (fun k x nx hx=>by
    have hk:=qb0 hx;have hmm:=qb6 qhy (qbk hx);have hxx:=(qrd m n hn).1 [x.e] 3 (by omega) (by have:qhy x=1+qki x.e:=rfl; simp only[qf1]; omega) (by intro y hy; simp at hy; subst hy; exact w2 x (qbk hx));obtain⟨⟨op,name,⟨a1,a2,a3,a4,a5,a6⟩,names,args⟩,down⟩:=x;simp only[qf2]at hxx;simp only[qiu,qug,qa7 hk,cond_true,qal hx,qah,hxx,qi9];rw[qcg (by omega)];by_cases hz:qkg m 3 [.mk op name (.mk a1 a2 a3 a4 a5 a6) names args]=0<;>simp[hz,Bool.cond_eq_ite])
   (fun nx=>by
    simp only[qiu,qug,qas,cond_false,hs,hl,hwh,qah,qn6,qn7];by_cases hz:qkg [] 3 skip=0<;>by_cases hz2:qkg [] 3 limit=0<;>simp[hz,hz2,Bool.cond_eq_ite]) (n:=n) (by omega)
  have key:∀ l:List qar,qew (fun s=>(qi9 m s).map fun e=>(qf2 m,e)) l=(qew (qi9 m) l).map fun e=>(qf2 m,e):=by
   intro l
   induction l with
   | nil=>rfl
   | cons x l ih=>
    simp only[qew];cases qi9 m x with
    | some r=>rfl
    | none=>exact ih
  rw[key]at e;refine Eq.trans e ?_;cases qew (qi9 m) order<;>rfl
 have e:=qmv (B:=qkq n items (v.map (·.1)) (v.map (·.2)) kind order skip limit wher) (fun k (t:Env)=>((k:Int),t.map (·.1),t.map (·.2))) (fun k t=>EnvOk t/\t.length<=k) (l:=items)
  (fun t x=>match qdr kind v t x with|.inl e=>(.inl (qf2 t,e):(qa4×Int) ⊕ Env)|.inr t'=>.inr t') (rest:=fun t=>qan (qiu n order (t.map (·.1)) (t.map (·.2)) skip limit wher) n (0:Int))
  (fun k x t nx hx hi=>by
   have hk:=qb0 hx;have hm:=qb6 qsb (qbk hx);have hib:qsb x=1+x.as_.length+qki x.e:=rfl;have hwx:=(w1 x (qbk hx)).1;have k8:=fun kd er he hkd=>zga hv hi.1 hn (by have:=hi.2; omega) (kind:=kind) hx (by omega) nx (kd:=kd) (er:=er) he hkd
   obtain⟨kd,hx1,hx2⟩:=(qrd v n hn).2 x.e (by omega) hwx;obtain⟨⟨op,name,⟨a1,a2,a3,a4,a5,a6⟩,names,args⟩,nm⟩:=x;obtain⟨u1,u2,u3⟩:=q8t hwx;simp only[qki]at hib;have hall:=fun kk h0=>(qrd v n hn).1 args kk h0 (by omega) u3;have h0:=hall 0 (by omega); have h3:=hall 3 (by omega);simp only[qf2]at h0 h3 hx1;simp only[qkq,qt9,qa7 hk,cond_true,qal hx,qah,hx1,qpy,h0,h3];by_cases h14:op=14
   ·subst h14
    by_cases hc:name=cnt
    ·subst hc
     rw[beq_self_eq_true,cond_true,show(cnt==[99,111,117,110,116])=true from rfl,cond_true];refine k8 3 _ ?_ ?_
     ·rw[q2n,if_pos rfl]; by_cases hz:qkg v 0 args=0<;>simp[hz]
     ·intro hz; rw[q2n,if_pos rfl]; simp[hz]
    ·rw[beq_self_eq_true,cond_true,show(name==[99,111,117,110,116])=false from beq_eq_false_iff_ne.2 hc,cond_false]
     refine k8 3 _ ?_ ?_
     ·rw[q2n,if_neg hc]; by_cases hz:qkg v 3 args=0<;>simp[hz]
     ·intro hz; rw[q2n,if_neg hc]; simp[hz]
   ·rw[beq_eq_false_iff_ne.2 h14,cond_false]
    refine k8 kd _ ?_ ?_
    ·rw[zib h14]
    ·intro hz; rw[zib h14]; exact hx2 hz)
  (fun k x t t' hx hi hf=>by
   have:qdr kind v t x=.inr t':=by
    cases hs:qdr kind v t x with
    | inl r=>rw[hs]at hf; cases hf
    | inr u=>rw[hs]at hf; cases hf; rfl
   have:=q1k hv hi.1 this;exact⟨this.1,by have:=hi.2; omega⟩)
  (fun t nx hi=>by simp only[qkq,qt9,qas,cond_false]) (n:=n) (by omega) (t0:=[]) ⟨zad,by simp⟩
 have e':qan (qkq n items (v.map (·.1)) (v.map (·.2)) kind order skip limit wher) n ((0:Int),([]:List (List UInt8)),([]:List Int))=_:=e
 simp only[qf2,e'];have outc:∀ (l:List qbj) (u:Env),(∃ er w,qfj (qdr kind v) u l=.inl er/\qfj (fun t x=>match qdr kind v t x with|.inl e=>(.inl (qf2 t,e):(qa4×Int) ⊕ Env)|.inr t'=>.inr t') u l=.inl (w,er)) \/
   (∃ m,qfj (qdr kind v) u l=.inr m/\qfj (fun t x=>match qdr kind v t x with|.inl e=>(.inl (qf2 t,e):(qa4×Int) ⊕ Env)|.inr t'=>.inr t') u l=.inr m):=by
  intro l
  induction l with
  | nil=>intro u; exact .inr ⟨u,rfl,rfl⟩
  | cons y l ih=>
   intro u;simp only[qfj];cases hy:qdr kind v u y with
   | inl er=>exact .inl ⟨er,_,rfl,rfl⟩
   | inr u'=>exact ih u'
 simp only[qyv];rcases outc items []with ⟨er,w,h2,h3⟩|⟨m,h2,h3⟩
 ·rw[h2,h3]
  refine⟨w,rfl,fun hz=>?_⟩;have:∀ (l:List qbj) (u:Env),qfj (qdr kind v) u l=.inl er->er≠0:=by
   intro l
   induction l with
   | nil=>intro u h; cases h
   | cons y l ih=>
    intro u hu;simp only[qfj]at hu;cases hy:qdr kind v u y with
    | inr u'=>rw[hy]at hu; exact ih u' hu
    | inl r=>rw[hy]at hu; cases hu; exact zic hy
  exact absurd hz (this _ _ h2)
 ·rw[h2,h3]
  have hm:=zie hv h2;simp only[zmo];rw[tail m hm.2];refine⟨qf2 m,?_,fun hz=>?_⟩
  ·cases qew (qi9 m) order with
   | some e=>rfl
   | none=>
    by_cases h5:qkg [] 3 skip=0<;>by_cases h6:qkg [] 3 limit=0<;>simp[h5,h6]
  ·cases hO:qew (qi9 m) order with
   | some e=>
    rw[hO]at hz;have:∀ l:List qar,qew (qi9 m) l=some e->e≠0:=by
     intro l
     induction l with
     | nil=>intro h; cases h
     | cons y l ih=>
      intro hu;simp only[qew]at hu;cases hy:qi9 m y with
      | none=>rw[hy]at hu; exact ih hu
      | some r=>
       rw[hy]at hu;cases hu;unfold qi9 at hy;split at hy
       ·rename_i hq; cases hy; exact hq
       ·cases hy
    exact absurd hz (this _ hO)
   | none=>
    rw[hO]at hz;simp only at hz ⊢;split at hz
    ·rename_i h5; exact absurd hz h5
    ·rename_i h5
     split at hz
     ·rename_i h6; exact absurd hz h6
     ·rename_i h6; rw[if_neg h5,if_neg h6]
end W
end
section
open Go Ax
namespace W
structure WfSet (ck:Int) (s:qaf):Prop where
 some_:ck=6/\s.key≠[]->WfE s.e/\(qjq s.e).1≠0
 none_:¬ (ck=6/\s.key≠[])->(qjq s.e).1=0
def zkg (ck:Int) (v:Env) (s:qaf):Option Int:=
 if qcm v s.var_=0 then some 2
 else if qcm v s.var_=3\/(qcm v s.var_=2/\s.label≠[])then some 3
 else if(ck=6/\s.key≠[])/\qkg v 3 [s.e]≠0 then some (qkg v 3 [s.e])
 else none
def zfz (ck:Int) (v:Env) (l:List qaf):Int:=(qew (zkg ck v) l).getD 0
def q50 (v:Env) (s:List UInt8):Option Int:=if qcm v s=0 then some 2 else if qcm v s=3 then some 3 else none
def zeo (v:Env) (l:List (List UInt8)):Int:=(qew (q50 v) l).getD 0
theorem q69 {n:Nat} {o:List (List UInt8)} {v:Env} (hn:n<=1073741824) {ck:Int} {l:List qaf} (hw:∀ s∈l,WfSet ck s) (h1:2 * (l.map qib).sum+6<n):qi3 n l o v=some (zfz ck v l):=by
 have hl:=qbi qib (fun x=>by unfold qib; omega) l
 unfold qi3;have e:=qcy (B:=qe9 n l v o) (fun k=>((k:Nat):Int)) (l:=l) (zkg ck v) (rest:=some 0)
  (fun k x nx hx=>by
   have hk:=qb0 hx;have hm:=qb6 qib (qbk hx);have hwx:=hw x (qbk hx);have hsb:qib x=1+x.var_.length+x.key.length+x.label.length+qki x.e:=rfl;have hall:=fun(hwe:WfE x.e)=>(qlt o v n hn).1 [x.e] 3 (by simp only[qf1]; omega) (by intro y hy; simp at hy; subst hy; exact hwe);obtain⟨var,key,label,⟨op,name,⟨a1,a2,a3,a4,a5,a6⟩,names,args⟩⟩:=x;simp only at hwx hall;have hkk:qcm v var=qd9 v var 0:=rfl;simp only[qe9,qwx,qa7 hk,cond_true,qal hx,qah,qgj,zkg,← hkk];rw[qcg (by omega)];by_cases h0:qcm v var=0
   ·simp[h0]
   ·by_cases hb:qcm v var=3\/(qcm v var=2/\label≠[])
    ·have hb':(bif qcm v var==3 then true else bif qcm v var==2 then !(label==[])else false)=true:=by
      rcases hb with hb|⟨hb,hb2⟩
      ·simp[hb]
      ·simp[hb,hb2]
     rw[beq_eq_false_iff_ne.2 h0,cond_false,hb',cond_true,if_neg h0,if_pos hb];rfl
    ·have hb':(bif qcm v var==3 then true else bif qcm v var==2 then !(label==[])else false)=false:=by
      simp only[not_or,not_and,Decidable.not_not]at hb;by_cases h2:qcm v var=2
      ·simp[h2,hb.2 h2]
      ·simp[hb.1,h2]
     rw[beq_eq_false_iff_ne.2 h0,cond_false,hb',cond_false,if_neg h0,if_neg hb];by_cases hs:ck=6/\key≠[]
     ·obtain⟨hwe,hop⟩:=hwx.some_ hs
      have hop:op≠0:=hop;rw[hall hwe];by_cases hz:qkg v 3 [.mk op name (.mk a1 a2 a3 a4 a5 a6) names args]=0
      ·simp[hop,hz,Bool.cond_eq_ite]
      ·simp[hop,hz,hs.1,hs.2,Bool.cond_eq_ite]
     ·have hop:op=0:=hwx.none_ hs
      rw[if_neg (fun h=>hs h.1)]
      simp[hop])
  (fun nx=>by simp only[qe9,qwx,qas,cond_false]) (n:=n) (by omega)
 refine Eq.trans e ?_;unfold zfz;cases qew (zkg ck v) l<;>rfl
theorem q63 {n:Nat} {o:List (List UInt8)} {v:Env} (hn:n<=1073741824) {l:List (List UInt8)} (h1:l.length<n):qiy n l o v=some (zeo v l):=by
 unfold qiy;have e:=qcy (B:=qe7 n l v) (fun k=>((k:Nat):Int)) (l:=l) (q50 v) (rest:=some 0)
  (fun k x nx hx=>by
   have hk:=qb0 hx;have hkk:qcm v x=qd9 v x 0:=rfl;simp only[qe7,qaz,qa7 hk,cond_true,qal hx,qah,q50,← hkk];rw[qcg (by omega)];by_cases h0:qcm v x=0
   ·simp[h0]
   ·by_cases h3:qcm v x=3
    ·simp[h3]
    ·simp[h0,h3,Bool.cond_eq_ite])
  (fun nx=>by simp only[qe7,qaz,qas,cond_false]) (n:=n) h1
 refine Eq.trans e ?_;unfold zeo;cases qew (q50 v) l<;>rfl
theorem zbx {n:Nat} {v:Env} (hn:n<=1073741824) {ck:Int} {l:List qaf} (hw:∀ s∈l,WfSet ck s) (h1:v.length+2 * (l.map qib).sum+6<n):qan (qh0 n l (v.map (·.1)) (v.map (·.2)) ck) n (0:Int)=some (qf2 v,zfz ck v l):=by
 have hl:=qbi qib (fun x=>by unfold qib; omega) l
 have e:=qcy (B:=qh0 n l (v.map (·.1)) (v.map (·.2)) ck) (fun k=>((k:Nat):Int)) (l:=l) (fun s=>(zkg ck v s).map fun e=>(qf2 v,e)) (rest:=some (qf2 v,0))
  (fun k x nx hx=>by
   have hk:=qb0 hx;have hm:=qb6 qib (qbk hx);have hwx:=hw x (qbk hx);have hsb:qib x=1+x.var_.length+x.key.length+x.label.length+qki x.e:=rfl;have hall:=fun(hwe:WfE x.e)=>(qrd v n hn).1 [x.e] 3 (by omega) (by simp only[qf1]; omega) (by intro y hy; simp at hy; subst hy; exact hwe);obtain⟨var,key,label,⟨op,name,⟨a1,a2,a3,a4,a5,a6⟩,names,args⟩⟩:=x;simp only[qf2]at hwx hall;have hkk:=qe4 (n:=n) (v:=v) (by omega) hn var;simp only[qf2]at hkk;simp only[qh0,qwx,qa7 hk,cond_true,qoo,qal hx,qah,hkk,qop,qoq,qk3,zkg];rw[qcg (by omega)];by_cases h0:qcm v var=0
   ·simp[h0]
   ·by_cases hb:qcm v var=3\/(qcm v var=2/\label≠[])
    ·have hb':(bif qcm v var==3 then true else bif qcm v var==2 then !(label==[])else false)=true:=by
      rcases hb with hb|⟨hb,hb2⟩
      ·simp[hb]
      ·simp[hb,hb2]
     rw[beq_eq_false_iff_ne.2 h0,cond_false,hb',cond_true,if_neg h0,if_pos hb];rfl
    ·have hb':(bif qcm v var==3 then true else bif qcm v var==2 then !(label==[])else false)=false:=by
      simp only[not_or,not_and,Decidable.not_not]at hb;by_cases h2:qcm v var=2
      ·simp[h2,hb.2 h2]
      ·simp[hb.1,h2]
     rw[beq_eq_false_iff_ne.2 h0,cond_false,hb',cond_false,if_neg h0,if_neg hb];by_cases hs:ck=6/\key≠[]
     ·obtain⟨hwe,hop⟩:=hwx.some_ hs
      rw[hall hwe];have hc:(bif ck==6 then !(key==[])else false)=true:=by simp[hs.1,hs.2]
      rw[hc,cond_true];by_cases hz:qkg v 3 [.mk op name (.mk a1 a2 a3 a4 a5 a6) names args]=0
      ·simp[hz]
      ·simp[hz,hs.1,hs.2,Bool.cond_eq_ite]
     ·have hc:(bif ck==6 then !(key==[])else false)=false:=by
       by_cases h6:ck=6
       ·have:key=[]:=Decidable.byContradiction fun x=>hs ⟨h6,x⟩
        simp[this]
       ·simp[h6]
      rw[if_neg (fun h=>hs h.1),hc,cond_false]
      rfl)
  (fun nx=>by simp only[qh0,qwx,qas,cond_false]) (n:=n) (by omega)
 refine Eq.trans e ?_;have key:∀ l:List qaf,qew (fun s=>(zkg ck v s).map fun e=>(qf2 v,e)) l=(qew (zkg ck v) l).map fun e=>(qf2 v,e):=by
  intro l
  induction l with
  | nil=>rfl
  | cons x l ih=>
   simp only[qew];cases zkg ck v x with
   | some r=>rfl
   | none=>exact ih
 rw[key];unfold zfz;cases qew (zkg ck v) l<;>rfl
theorem zbs {n:Nat} {v:Env} (hn:n<=1073741824) {l:List (List UInt8)} (h1:v.length+l.length<n):qan (qh1 n l (v.map (·.1)) (v.map (·.2))) n (0:Int)=some (qf2 v,zeo v l):=by
 have e:=qcy (B:=qh1 n l (v.map (·.1)) (v.map (·.2))) (fun k=>((k:Nat):Int)) (l:=l) (fun s=>(q50 v s).map fun e=>(qf2 v,e)) (rest:=some (qf2 v,0))
  (fun k x nx hx=>by
   have hk:=qb0 hx;have hkk:=qe4 (n:=n) (v:=v) (by omega) hn x;simp only[qf2]at hkk;simp only[qh1,qaz,qa7 hk,cond_true,qor,qal hx,qah,hkk,qos,q50];rw[qcg (by omega)];by_cases h0:qcm v x=0
   ·simp[h0]
   ·by_cases h3:qcm v x=3
    ·simp[h3]
    ·simp[h0,h3,Bool.cond_eq_ite])
  (fun nx=>by simp only[qh1,qaz,qas,cond_false]) (n:=n) (by omega)
 refine Eq.trans e ?_;have key:∀ l:List (List UInt8),qew (fun s=>(q50 v s).map fun e=>(qf2 v,e)) l=(qew (q50 v) l).map fun e=>(qf2 v,e):=by
  intro l
  induction l with
  | nil=>rfl
  | cons x l ih=>
   simp only[qew];cases q50 v x with
   | some r=>rfl
   | none=>exact ih
 rw[key];unfold zeo;cases qew (q50 v) l<;>rfl
end W
end
section
open Go Ax
namespace W
def zf8 (o:Out):Int×Env:=match o with
 | .inl r=>r
 | .inr m=>(0,m)
def q2k (l:List qa6):List UInt8:=match l with
 | ⟨d::_,_⟩::_=>d.var_
 | _=>[]
def qf9 (v:Env) (c:qab):Int×Env:=
 if c.kind=1 then match qqf false v v c.paths with
  | .inl r=>r
  | .inr m=>(qkg m 3 c.where_,m)
 else if c.kind=2 then(if qkg v 3 [c.e]≠0 then(qkg v 3 [c.e],v)else if qcm v c.var_≠0 then(2,v)else(0,ql4 v c.var_ 3))
 else if c.kind=4 then zf8 (qqf true v v c.paths)
 else if c.kind=5 then(if qcm v (q2k c.paths)≠0 then(2,v)else zf8 (qqf true v v c.paths))
 else if c.kind=6\/c.kind=7 then(zfz c.kind v c.sets,v)
 else if c.kind=8 then(zeo v c.vars,v)
 else qyv v c
structure WfC (c:qab):Prop where
 paths:∀ p∈c.paths,WfP p
 wher:∀ x∈c.where_,WfE x
 un:c.kind=2->WfE c.e/\c.var_≠[]
 merge:c.kind=5->∃ p,c.paths=[p]
 sets:c.kind=6\/c.kind=7->∀ s∈c.sets,WfSet c.kind s
 rows:c.kind=3\/c.kind=9->WfRows c
 kind:1<=c.kind/\c.kind<=9
theorem zo4 {v:Env} {c:qab} (hv:EnvOk v) (e:(qyv v c).1=0):EnvOk (qyv v c).2/\(qyv v c).2.length<=c.items.length:=by
 unfold qyv;cases hF:qfj (qdr c.kind v) [] c.items with
 | inl er=>exact⟨zad,by simp⟩
 | inr m=>
  have:=zie hv hF;simp only;cases qew (qi9 m) c.order with
  | some e=>exact⟨zad,by simp⟩
  | none=>
   simp only;split
   ·exact⟨zad,by simp⟩
   ·split
    ·exact⟨zad,by simp⟩
    ·exact this
theorem zmp {made:Bool} {v:Env} {l:List qa6} (hp:∀ p∈l,WfP p) (h:EnvOk v) (e:(zf8 (qqf made v v l)).1=0) (hne:∀ r,qqf made v v l=.inl r->r.1≠0):EnvOk (zf8 (qqf made v v l)).2/\(zf8 (qqf made v v l)).2.length<=v.length+2 * qwo l:=by
 cases hP:qqf made v v l with
 | inl r=>rw[hP]at e; exact absurd e (hne r hP)
 | inr m=>exact q8m hp h hP
theorem qvq {made:Bool} {ahead:Env}:∀ {l:List qa6} {v:Env} {r:Int×Env},qfj (qsp made ahead) v l=.inl r->r.1≠0:=by
 have hnode:∀ {w:Env} {d:qae} {r:Int×Env},qz7 made ahead w d=.inl r->r.1≠0:=by
  intro w d r hw;unfold qz7 at hw;split at hw
  ·cases hw; simp
  ·split at hw
   ·cases hw; simp
   ·split at hw
    ·rename_i hz; cases hw; exact hz
    ·cases hw
 have hstep:∀ {u:Env} {y:Option qag×qae} {r:Int×Env},qqk made ahead u y=.inl r->r.1≠0:=by
  intro u y r hy;obtain⟨eo,d⟩:=y;cases eo with
  | none=>exact hnode hy
  | some ed=>
   simp only[qqk]at hy;cases hed:qwi made ahead u ed with
   | inl r'=>rw[hed]at hy; cases hy; exact zk7 hed
   | inr w=>rw[hed]at hy; exact hnode hy
 have hpath:∀ {l:List (Option qag×qae)} {u:Env} {r:Int×Env},qfj (qqk made ahead) u l=.inl r->r.1≠0:=by
  intro l
  induction l with
  | nil=>intro u r h; cases h
  | cons y l ih=>
   intro u r hu;simp only[qfj]at hu;cases hy:qqk made ahead u y with
   | inr u'=>rw[hy]at hu; exact ih hu
   | inl r'=>rw[hy]at hu; cases hu; exact hstep hy
 intro l
 induction l with
 | nil=>intro v r h; cases h
 | cons p l ih=>
  intro v r hu;simp only[qfj]at hu;cases hy:qsp made ahead v p with
  | inr u'=>rw[hy]at hu; exact ih hu
  | inl r'=>rw[hy]at hu; cases hu; exact hpath hy
theorem zar {v:Env} {c:qab} (hv:EnvOk v) (hw:WfC c) (e:(qf9 v c).1=0):EnvOk (qf9 v c).2/\(qf9 v c).2.length<=v.length+2 * qde c:=by
 have hlb:qwo c.paths+1<=qde c:=by unfold qde; omega
 have hib:=qbi qsb (fun x=>by unfold qsb; omega) c.items
 have hil:c.items.length<=qde c:=by unfold qde; omega
 unfold qf9 at e ⊢;by_cases h1:c.kind=1
 ·rw[if_pos h1]at e ⊢
  cases hP:qqf false v v c.paths with
  | inl r=>rw[hP]at e; exact absurd e (qvq hP)
  | inr m=>have:=q8m hw.paths hv hP; exact⟨this.1,by simp only; omega⟩
 rw[if_neg h1]at e ⊢;by_cases h2:c.kind=2
 ·rw[if_pos h2]at e ⊢
  split
  ·exact⟨hv,by simp only; omega⟩
  ·split
   ·exact⟨hv,by simp only; omega⟩
   ·exact⟨q27 hv _ (by decide),by have:=qyz v c.var_ 3; simp only; omega⟩
 rw[if_neg h2]at e ⊢;by_cases h4:c.kind=4
 ·rw[if_pos h4]at e ⊢
  have:=zmp hw.paths hv e (fun r hr=>qvq hr)
  exact⟨this.1,by omega⟩
 rw[if_neg h4]at e ⊢;by_cases h5:c.kind=5
 ·rw[if_pos h5]at e ⊢
  split
  ·exact⟨hv,by simp only; omega⟩
  ·rename_i hk
   rw[if_neg hk]at e;have:=zmp hw.paths hv e (fun r hr=>qvq hr)
   exact⟨this.1,by omega⟩
 rw[if_neg h5]at e ⊢;by_cases h6:c.kind=6\/c.kind=7
 ·rw[if_pos h6]; exact⟨hv,by simp only; omega⟩
 rw[if_neg h6]at e ⊢;by_cases h8:c.kind=8
 ·rw[if_pos h8]; exact⟨hv,by simp only; omega⟩
 rw[if_neg h8]at e ⊢;have:=zo4 hv e;exact⟨this.1,by omega⟩
def znq:qa0->Int
 | .o0 e _ _=>e
 | .o1 e _ _=>e
 | .o2 e _ _ _ _=>e
def zpl:qa0->Option (List (List UInt8)×Env)
 | .o0 _ _ _=>none
 | .o1 _ a b=>some (a,b)
 | .o2 _ _ _ a b=>some (a,b)
theorem zoz (o:Out):znw o=((zf8 o).1,qe3 (zf8 o).2,(zf8 o).2):=by cases o<;>rfl
theorem zo0 (o:Out):ztk o=(qf2 (zf8 o).2,(zf8 o).1):=by cases o<;>rfl
theorem q3m {n:Nat} {v:Env} (hv:EnvOk v) (hn:n<=1073741824) {c:qab} (hw:WfC c) (h1:2 * v.length+8 * qde c<n) :
  ∃ r,qg8 n c (qe3 v) v=some r/\znq r=(qf9 v c).1/\((qf9 v c).1=0->zpl r=some (qe3 (qf9 v c).2,(qf9 v c).2)):=by
 have hrow:=fun h=>q68 hv hn (c:=c) (hw.rows h) (by omega)
 have hnl:=qeb c.vars;have hcb:qde c=1+qwo c.paths+qf1 c.where_+qki c.e+c.var_.length+(c.items.map qsb).sum+(c.order.map qhy).sum+qf1 c.skip+qf1 c.limit+(c.sets.map qib).sum+qz6 c.vars:=rfl;have hpath:=fun made=>q5c hv hn hw.paths made (by omega)
 have hset:=fun h=>q69 (o:=qe3 v) (v:=v) hn (hw.sets h) (by omega)
 have hdrop:=q63 (n:=n) (o:=qe3 v) (v:=v) hn (l:=c.vars) (by omega);have hwh:=fun m=>(qlt (qe3 m) m n hn).1 c.where_ 3 (by omega) hw.wher;have hun:=fun(hwe:WfE c.e)=>(qlt (qe3 v) v n hn).1 [c.e] 3 (by simp only[qf1]; omega) (by intro y hy; simp at hy; subst hy; exact hwe);obtain⟨kind,paths,wher,⟨eop,ename,⟨e1,e2,e3,e4,e5,e6⟩,enames,eargs⟩,var,items,uniq,order,skip,limit,sets,vars,detach⟩:=c;have hk:=hw.kind;have hmer:=hw.merge;have hunw:=hw.un;simp only at hpath hset hdrop hwh hun hk hmer hunw h1;unfold qg8;simp only[qfi,hpath,hdrop,qah,zoz];unfold qf9;simp only;by_cases k1:kind=1
 ·subst k1
  rw[beq_self_eq_true,cond_true,if_pos rfl];cases hP:qqf false v v paths with
  | inl r=>
   have hne:=qvq hP;simp only[zf8];rw[show(r.1 != 0)=true from by simpa using hne,cond_true];exact⟨_,rfl,rfl,fun h=>absurd h hne⟩
  | inr m=>
   simp only[zf8];rw[show((0:Int) != 0)=false from rfl,cond_false,hwh m,qah];exact⟨_,rfl,rfl,fun _=>rfl⟩
 rw[beq_eq_false_iff_ne.2 k1,cond_false,if_neg k1];by_cases k2:kind=2
 ·subst k2
  obtain⟨u1,u2⟩:=hunw rfl;rw[beq_self_eq_true,cond_true,if_pos rfl,hun u1,qah];have hkk:qcm v var=qd9 v var 0:=rfl;by_cases hz:qkg v 3 [.mk eop ename (.mk e1 e2 e3 e4 e5 e6) enames eargs]=0
  ·rw[hz]
   by_cases h0:qcm v var=0
   ·have hb:=qmk hv (n:=n) (by omega) hn u2 (k:=3) (.inl h0) (by decide)
    rw[← hkk,h0,hb];exact⟨_,rfl,by simp[znq],fun _=>by simp[zpl]⟩
   ·rw[← hkk]
    simp only[show((0:Int) != 0)=false from rfl,cond_false];rw[show(qcm v var != 0)=true from by simpa using h0,cond_true];exact⟨_,rfl,by simp[znq,h0],fun h=>by simp[h0]at h⟩
  ·rw[show(qkg v 3 [.mk eop ename (.mk e1 e2 e3 e4 e5 e6) enames eargs] != 0)=true from by simpa using hz,cond_true]
   exact⟨_,rfl,by simp[znq,hz],fun h=>by simp[hz]at h⟩
 rw[beq_eq_false_iff_ne.2 k2,cond_false,if_neg k2];by_cases k4:kind=4
 ·subst k4
  rw[beq_self_eq_true,cond_true,if_pos rfl];exact⟨_,rfl,rfl,fun _=>rfl⟩
 rw[beq_eq_false_iff_ne.2 k4,cond_false,if_neg k4];by_cases k5:kind=5
 ·subst k5
  obtain⟨p,rfl⟩:=hmer rfl;have hwp:=hw.paths p (by simp);obtain⟨nodes,edges⟩:=p;have hlen:=hwp.len;simp only at hlen;obtain⟨d,nodes',rfl⟩:=List.exists_cons_of_length_pos (l:=nodes) (by omega);obtain⟨dv,dl,dk,dvals⟩:=d;rw[beq_self_eq_true,cond_true,if_pos rfl,qrc,qah,qrc,qah];have hkk:qcm v dv=qd9 v dv 0:=rfl;rw[← hkk];have hfv:q2k [⟨⟨dv,dl,dk,dvals⟩::nodes',edges⟩]=dv:=rfl;rw[hfv];by_cases h0:qcm v dv=0
  ·rw[h0,show((0:Int) != 0)=false from rfl,cond_false,if_neg (by simp)]
   exact⟨_,rfl,rfl,fun _=>rfl⟩
  ·rw[show(qcm v dv != 0)=true from by simpa using h0,cond_true,if_pos h0]
   exact⟨_,rfl,rfl,fun h=>by simp at h⟩
 rw[beq_eq_false_iff_ne.2 k5,cond_false,if_neg k5];by_cases k6:kind=6
 ·subst k6
  rw[beq_self_eq_true,cond_true,cond_true,hset (.inl rfl),qah,if_pos (.inl rfl)];exact⟨_,rfl,rfl,fun h=>by simp only[znq]at h; simp[zpl]⟩
 rw[beq_eq_false_iff_ne.2 k6,cond_false];by_cases k7:kind=7
 ·subst k7
  rw[beq_self_eq_true,cond_true,hset (.inr rfl),qah,if_pos (.inr rfl)];exact⟨_,rfl,rfl,fun h=>by simp[zpl]⟩
 rw[beq_eq_false_iff_ne.2 k7,cond_false,if_neg (by rintro(h|h); exact k6 h; exact k7 h)];by_cases k8:kind=8
 ·subst k8
  rw[beq_self_eq_true,cond_true,if_pos rfl];exact⟨_,rfl,rfl,fun h=>by simp[zpl]⟩
 rw[beq_eq_false_iff_ne.2 k8,cond_false,if_neg k8];obtain⟨r,hr,he,hz⟩:=hrow (by show kind=3\/kind=9; omega);rw[hr,qah];cases r with
 | o0 e=>exact⟨_,rfl,he,fun h=>by have:=hz h; cases this⟩
 | o1 e a b=>
  refine⟨_,rfl,he,fun h=>?_⟩;have:=hz h;cases this;rfl
end W
end
section
open Go Ax
namespace W
theorem q6v {n:Nat} {v:Env} (hv:EnvOk v) (hn:n<=1073741824) {c:qab} (hw:WfC c) (h1:2 * v.length+8 * qde c<n) :
  ∃ w,qrh n (qf2 v) c=some (w,(qf9 v c).1)/\((qf9 v c).1=0->w=qf2 (qf9 v c).2):=by
 have hrow:=fun h=>zbv hv hn (c:=c) (hw.rows h) (by omega)
 have hnl:=qeb c.vars;have hcb:qde c=1+qwo c.paths+qf1 c.where_+qki c.e+c.var_.length+(c.items.map qsb).sum+(c.order.map qhy).sum+qf1 c.skip+qf1 c.limit+(c.sets.map qib).sum+qz6 c.vars:=rfl;have hpath:=fun made=>q9c hv hn hw.paths made (by omega)
 have hset:=fun h=>zbx (v:=v) hn (hw.sets h) (by omega)
 have hdrop:=zbs (n:=n) (v:=v) hn (l:=c.vars) (by omega);have hwh:=fun(m:Env) (hm:m.length<=v.length+2 * qwo c.paths)=>(qrd m n hn).1 c.where_ 3 (by omega) (by omega) hw.wher;have hun:=fun(hwe:WfE c.e)=>(qrd v n hn).1 [c.e] 3 (by omega) (by simp only[qf1]; omega) (by intro y hy; simp at hy; subst hy; exact hwe);have hkv:=fun s=>qe4 (n:=n) (v:=v) (by omega) hn s
 have hwith:=fun s k=>qsh (n:=n) hv (by omega) hn s k
 obtain⟨kind,paths,wher,⟨eop,ename,⟨e1,e2,e3,e4,e5,e6⟩,enames,eargs⟩,var,items,uniq,order,skip,limit,sets,vars,detach⟩:=c;have hk:=hw.kind;have hmer:=hw.merge;have hunw:=hw.un;simp only[qf2]at hpath hset hdrop hwh hun hk hmer hunw h1 hkv hwith
 unfold qrh;simp only[qmg,qme,qmf,qpx,hpath,hdrop,hkv,hwith,qah,zo0,qf2];unfold qf9;simp only;by_cases k1:kind=1
 ·subst k1
  rw[beq_self_eq_true,cond_true,if_pos rfl];cases hP:qqf false v v paths with
  | inl r=>
   have hne:=qvq hP;simp only[zf8];rw[show(r.1==0)=false from beq_eq_false_iff_ne.2 hne,cond_false];exact⟨_,rfl,fun h=>absurd h hne⟩
  | inr m=>
   simp only[zf8];have hm:=q8m hw.paths hv hP;rw[show((0:Int)==0)=true from rfl,cond_true,hwh m hm.2,qah];exact⟨_,rfl,fun _=>rfl⟩
 rw[beq_eq_false_iff_ne.2 k1,cond_false,if_neg k1];by_cases k2:kind=2
 ·subst k2
  obtain⟨u1,u2⟩:=hunw rfl;rw[beq_self_eq_true,cond_true,if_pos rfl,hun u1,qah];have hnn:=q1n hv var;by_cases hz:qkg v 3 [.mk eop ename (.mk e1 e2 e3 e4 e5 e6) enames eargs]=0
  ·rw[hz]
   by_cases h0:qcm v var=0
   ·simp only[beq_self_eq_true,qd6,qah,cond_true,h0]
    exact⟨_,rfl,fun _=>rfl⟩
   ·have:0<qcm v var:=by omega
    simp only[beq_self_eq_true,qd6,qah,cond_true];rw[decide_eq_true this,cond_true];exact⟨qf2 (ql4 v var 3),by simp[h0,qf2],fun h=>by simp[h0]at h⟩
  ·have hz':(qkg v 3 [.mk eop ename (.mk e1 e2 e3 e4 e5 e6) enames eargs]==0)=false:=beq_eq_false_iff_ne.2 hz
   simp only[hz',zc2,qah,cond_false];exact⟨qf2 (ql4 v var 3),by simp[hz,qf2],fun h=>by simp[hz]at h⟩
 rw[beq_eq_false_iff_ne.2 k2,cond_false,if_neg k2];by_cases k4:kind=4
 ·subst k4
  rw[beq_self_eq_true,cond_true,if_pos rfl];exact⟨_,rfl,fun _=>rfl⟩
 rw[beq_eq_false_iff_ne.2 k4,cond_false,if_neg k4];by_cases k5:kind=5
 ·subst k5
  obtain⟨p,rfl⟩:=hmer rfl;have hwp:=hw.paths p (by simp);obtain⟨nodes,edges⟩:=p;have hlen:=hwp.len;simp only at hlen;obtain⟨d,nodes',rfl⟩:=List.exists_cons_of_length_pos (l:=nodes) (by omega);obtain⟨dv,dl,dk,dvals⟩:=d;rw[beq_self_eq_true,cond_true,if_pos rfl,qrc,qah,qrc,qah];have hfv:q2k [⟨⟨dv,dl,dk,dvals⟩::nodes',edges⟩]=dv:=rfl;have hnn:=q1n hv dv;rw[hfv];by_cases hd:dv=[]
  ·subst hd
   rw[q2r hv,if_neg (by simp)];exact⟨_,rfl,fun _=>rfl⟩
  ·have hd':(!(dv==[]))=true:=by simp[hd]
   simp only[hkv];rw[hd',qd6,qah,cond_true];by_cases h0:qcm v dv=0
   ·rw[h0,show decide ((0:Int)>0)=false from rfl,cond_false,if_neg (by simp)]
    exact⟨_,rfl,fun _=>rfl⟩
   ·have:0<qcm v dv:=by omega
    rw[decide_eq_true this,cond_true,if_pos h0];exact⟨_,rfl,fun h=>by simp at h⟩
 rw[beq_eq_false_iff_ne.2 k5,cond_false,if_neg k5];by_cases k6:kind=6
 ·subst k6
  rw[beq_self_eq_true,cond_true,cond_true,hset (.inl rfl),if_pos (.inl rfl)];exact⟨_,rfl,fun h=>rfl⟩
 rw[beq_eq_false_iff_ne.2 k6,cond_false];by_cases k7:kind=7
 ·subst k7
  rw[beq_self_eq_true,cond_true,hset (.inr rfl),if_pos (.inr rfl)];exact⟨_,rfl,fun h=>rfl⟩
 rw[beq_eq_false_iff_ne.2 k7,cond_false,if_neg (by rintro(h|h); exact k6 h; exact k7 h)];by_cases k8:kind=8
 ·subst k8
  rw[beq_self_eq_true,cond_true,if_pos rfl];exact⟨_,rfl,fun h=>rfl⟩
 rw[beq_eq_false_iff_ne.2 k8,cond_false,if_neg k8];obtain⟨w,hr,hz⟩:=hrow (by show kind=3\/kind=9; omega);simp only[qf2]at hr hz;rw[hr,qah];exact⟨_,rfl,hz⟩
end W
end
section
open Go Ax
namespace W
theorem zqj {v:Env} (h:EnvOk v) {x:List UInt8×Int} (hx:x∈v):qcm v x.1=x.2:=by
 have:∀ {v:Env},(v.map (·.1)).Nodup->x∈v->qtv x.1 v=some x.2:=by
  clear hx h;intro v
  induction v with
  | nil=>intro _ h; cases h
  | cons y v ih=>
   intro hd hm;simp only[List.map_cons,List.nodup_cons]at hd;rcases List.mem_cons.1 hm with rfl|hm2
   ·obtain⟨xk,xv⟩:=x
    simp[qtv]
   ·have hne:x.1≠y.1:=fun e=>hd.1 (by rw[← e]; exact List.mem_map.2 ⟨x,hm2,rfl⟩)
    obtain⟨yk,yv⟩:=y;simp only[qtv,beq_eq_false_iff_ne.2 hne,cond_false];exact ih hd.2 hm2
 unfold qcm qd9;rw[this h.nodup hx];rfl
@[simp] theorem qbt (l:List qab):(qab.rows l).length=l.length:=by simp[qab.rows]
def qqa (v:Env) (c:qab):Int ⊕ Env:=if(qf9 v c).1≠0 then .inl (qf9 v c).1 else .inr (qf9 v c).2
def qcn (l:List qab):Nat:=(l.map qde).sum
theorem qkx (c:qab):1<=qde c:=by unfold qde; omega
def qh9 (may:Bool) (cl:List qab) (at_:Int):List (List UInt8)×List Int×Int:=
 if may=false\/at_<0\/(cl.length:Int)<at_ then([],[],20)
 else match qfj qqa [] (cl.take at_.toNat)with
  | .inl e=>([],[],e)
  | .inr v=>(v.map (·.1),v.map (·.2),0)
theorem zen {l:List qab} (hw:∀ c∈l,WfC c):∀ (k:Nat) (x:qab) (t t':Env),l[k]? =some x->(EnvOk t/\t.length<=2 * ((l.take k).map qde).sum)->qqa t x=.inr t'->EnvOk t'/\t'.length<=2 * ((l.take (k+1)).map qde).sum:=by
 intro k x t t' hx hi hf;unfold qqa at hf;split at hf
 ·cases hf
 ·rename_i hz
  cases hf;have:=zar hi.1 (hw x (qbk hx)) (by simpa using hz);rw[q23 qde hx];exact⟨this.1,by omega⟩
theorem q49 {n:Nat} (hn:n<=1073741824) {cl:List qab} {may:Bool} (hR:qne n ⟨cl⟩=some may) (hw:may=true->∀ c∈cl,WfC c) (h1:8 * qcn cl+8<n) (at_:Int) :
  qiv n ⟨cl⟩ at_=some (qh9 may cl at_):=by
 unfold qcn at h1;have hlen:=qbi qde qkx cl;unfold qiv qh9;simp only[hR,qah,qbt];by_cases hc:may=false\/at_<0\/(cl.length:Int)<at_
 ·rw[if_pos hc]
  have:(bif bif !may then true else decide (at_<0)then true else decide (at_>(cl.length:Int)))=true:=by
   rcases hc with rfl|hc|hc
   ·rfl
   ·simp[hc,Bool.cond_eq_ite]
   ·have:at_>(cl.length:Int):=hc
    simp[this,Bool.cond_eq_ite]
  rw[this];rfl
 ·rw[if_neg hc]
  simp only[not_or,Bool.not_eq_false,Int.not_lt]at hc;obtain⟨hm,ha,hb⟩:=hc;subst hm;have hw:=hw rfl;obtain⟨m,rfl⟩:=Int.eq_ofNat_of_zero_le ha;have hml:m<=cl.length:=by omega
  rw[show(bif bif !true then true else decide ((m:Int)<0)then true else decide ((m:Int)>(cl.length:Int)))=false from by
   simp only[Bool.not_true,cond_false];rw[decide_eq_false (by omega),decide_eq_false (by omega)]; rfl]
  rw[cond_false,q2v,qah,q30 hml];have hwt:∀ c∈cl.take m,WfC c:=fun c hc=>hw c (List.mem_of_mem_take hc)
  have htl:(cl.take m).length=m:=by simp; omega
  have hts:((cl.take m).map qde).sum<=(cl.map qde).sum:=by
   have h0:cl.take m++cl.drop m=cl:=List.take_append_drop m cl;have:((cl.take m++cl.drop m).map qde).sum=((cl.take m).map qde).sum+((cl.drop m).map qde).sum:=by rw[List.map_append,List.sum_append]
   rw[h0]at this;omega
  have e:=qmv (B:=qg0 n cl m) (fun k (t:Env)=>((k:Int),qe3 t,t)) (fun k t=>EnvOk t/\t.length<=2 * (((cl.take m).take k).map qde).sum) (l:=cl.take m)
   (fun t c=>match qqa t c with|.inl e=>(.inl ([],[],e):(List (List UInt8)×List Int×Int) ⊕ Env)|.inr t'=>.inr t') (rest:=fun t=>some (t.map (·.1),t.map (·.2),0))
   (fun k x t nx hx hi=>by
    have hk:=qb0 hx;have hst:=qw1 qde hx;obtain⟨r,hr,he,hz⟩:=q3m hi.1 hn (hwt x (qbk hx)) (by have:=hi.2; omega);have hx':(cl.take m)[k]? =some x:=hx;obtain⟨kind,paths,wher,⟨eop,ename,⟨e1,e2,e3,e4,e5,e6⟩,enames,eargs⟩,var,items,uniq,order,skip,limit,sets,vars,detach⟩:=x;simp only[qg0,qbt,qa7 hk,cond_true,qal hx',qah,hr];rw[qcg (by omega)];unfold qqa;by_cases h0:(qf9 t ⟨kind,paths,wher,⟨eop,ename,⟨e1,e2,e3,e4,e5,e6⟩,enames,eargs⟩,var,items,uniq,order,skip,limit,sets,vars,detach⟩).1=0
    ·have hz2:=hz h0
     clear hz;rw[if_neg (by simpa using h0)];cases r with
     | o0 e a b=>simp[zpl]at hz2
     | o1 e a b=>
      simp only[znq]at he;simp only[zpl,Option.some.injEq,Prod.mk.injEq]at hz2;rw[h0]at he;subst he;rw[hz2.1,hz2.2];rfl
     | o2 e a b c d=>
      simp only[znq]at he;simp only[zpl,Option.some.injEq,Prod.mk.injEq]at hz2;rw[h0]at he;subst he;rw[hz2.1,hz2.2];rfl
    ·rw[if_pos h0]
     cases r with
     | o0 e a b=>simp only[znq]at he; rw[← he]at h0 ⊢; simp[h0,Bool.cond_eq_ite]
     | o1 e a b=>simp only[znq]at he; rw[← he]at h0 ⊢; simp[h0,Bool.cond_eq_ite]
     | o2 e a b c d=>simp only[znq]at he; rw[← he]at h0 ⊢; simp[h0,Bool.cond_eq_ite])
   (fun k x t t' hx hi hf=>by
    have:qqa t x=.inr t':=by
     cases hs:qqa t x with
     | inl r=>rw[hs]at hf; cases hf
     | inr u=>rw[hs]at hf; cases hf; rfl
    exact zen hwt k x t t' hx hi this)
   (fun t nx hi=>by
    have hi2:=hi.2;rw[List.take_length]at hi2;simp only[qg0,qbt,qas,cond_false];have:=qjo (B:=qig n (qe3 t) t) (fun k=>((t.map (·.2)).take k,(k:Int))) t.length (r:=some (t.map (·.1),t.map (·.2),0))
     (fun k hk nx2=>by
      obtain⟨x,hx⟩:∃ x,t[k]? =some x:=⟨t[k],List.getElem?_eq_getElem hk⟩;have h1:(qe3 t)[k]? =some x.1:=by simp[hx]
      have hkd:=zqj hi.1 (qbk hx);unfold qcm at hkd;simp only[qig,qaz,List.length_map,qa7 hk,cond_true,qal h1,qah,hkd];rw[qd5 (zhr (by simp; omega) (by omega)),qcg (by omega)];have:(t.map (·.2)).take (k+1)=(t.map (·.2)).take k++[x.2]:=by rw[List.take_succ]; simp[hx]
      rw[this])
     (fun nx2=>by
      simp only[qig,qaz,List.length_map,qas,cond_false];rw[show(t.map (·.2)).take t.length=t.map (·.2)from by rw[← List.length_map (f:=fun x:List UInt8×Int=>x.2)]; exact List.take_length]) (n:=n) (by omega)
    simpa using this) (n:=n) (by rw[htl]; omega) (t0:=[]) ⟨zad,by simp⟩
  have e':qan (qg0 n cl m) n ((0:Int),([]:List (List UInt8)),([]:List (List UInt8×Int)))=_:=e;simp only[Int.toNat_natCast];refine Eq.trans e' ?_;rw[qrt (fun(e:Int)=>(([]:List (List UInt8)),([]:List Int),e)) qqa _ (fun t x=>by cases qqa t x<;>rfl)]
  cases qfj qqa [] (cl.take m)<;>rfl
theorem q9a {n:Nat} (hn:n<=1073741824) {cl:List qab} {may:Bool} (hR:qps n ⟨cl⟩=some may) (hw:may=true->∀ c∈cl,WfC c) (h1:8 * qcn cl+8<n) (at_:Int) :
  qh2 n ⟨cl⟩ at_=some (qh9 may cl at_):=by
 unfold qcn at h1;have hlen:=qbi qde qkx cl;unfold qh2 qh9;simp only[hR,qah,qbt];by_cases hc:may=false\/at_<0\/(cl.length:Int)<at_
 ·rw[if_pos hc]
  have:(bif bif !may then true else decide (at_<0)then true else decide (at_>(cl.length:Int)))=true:=by
   rcases hc with rfl|hc|hc
   ·rfl
   ·simp[hc,Bool.cond_eq_ite]
   ·have:at_>(cl.length:Int):=hc
    simp[this,Bool.cond_eq_ite]
  rw[this];rfl
 ·rw[if_neg hc]
  simp only[not_or,Bool.not_eq_false,Int.not_lt]at hc;obtain⟨hm,ha,hb⟩:=hc;subst hm;have hw:=hw rfl;obtain⟨m,rfl⟩:=Int.eq_ofNat_of_zero_le ha;have hml:m<=cl.length:=by omega
  rw[show(bif bif !true then true else decide ((m:Int)<0)then true else decide ((m:Int)>(cl.length:Int)))=false from by
   simp only[Bool.not_true,cond_false];rw[decide_eq_false (by omega),decide_eq_false (by omega)]; rfl]
  rw[cond_false];have hwt:∀ c∈cl.take m,WfC c:=fun c hc=>hw c (List.mem_of_mem_take hc)
  have htl:(cl.take m).length=m:=by simp; omega
  have hts:((cl.take m).map qde).sum<=(cl.map qde).sum:=by
   have h0:cl.take m++cl.drop m=cl:=List.take_append_drop m cl;have:((cl.take m++cl.drop m).map qde).sum=((cl.take m).map qde).sum+((cl.drop m).map qde).sum:=by rw[List.map_append,List.sum_append]
   rw[h0]at this;omega
  have e:=qmv (B:=qji n (m:Int) cl) (fun k (t:Env)=>((k:Int),t.map (·.1),t.map (·.2))) (fun k t=>EnvOk t/\t.length<=2 * (((cl.take m).take k).map qde).sum) (l:=cl.take m)
   (fun t c=>match qqa t c with|.inl e=>(.inl ([],[],e):(List (List UInt8)×List Int×Int) ⊕ Env)|.inr t'=>.inr t') (rest:=fun t=>some (t.map (·.1),t.map (·.2),0))
   (fun k x t nx hx hi=>by
    have hk:=qb0 hx;rw[htl]at hk;have hst:=qw1 qde hx;obtain⟨w,hr,hz⟩:=q6v hi.1 hn (hwt x (qbk hx)) (by have:=hi.2; omega);have hx':cl[k]? =some x:=by rw[List.getElem?_take,if_pos hk]at hx; exact hx
    obtain⟨kind,paths,wher,⟨eop,ename,⟨e1,e2,e3,e4,e5,e6⟩,enames,eargs⟩,var,items,uniq,order,skip,limit,sets,vars,detach⟩:=x;simp only[qf2]at hr hz;simp only[qji,qa7 hk,cond_true,qal hx',qah,hr];rw[qcg (by omega)];unfold qqa;by_cases h0:(qf9 t ⟨kind,paths,wher,⟨eop,ename,⟨e1,e2,e3,e4,e5,e6⟩,enames,eargs⟩,var,items,uniq,order,skip,limit,sets,vars,detach⟩).1=0
    ·rw[if_neg (by simpa using h0),hz h0,h0]
     rfl
    ·rw[if_pos h0]
     obtain⟨wn,wk⟩:=w;simp[h0,Bool.cond_eq_ite])
   (fun k x t t' hx hi hf=>by
    have:qqa t x=.inr t':=by
     cases hs:qqa t x with
     | inl r=>rw[hs]at hf; cases hf
     | inr u=>rw[hs]at hf; cases hf; rfl
    exact zen hwt k x t t' hx hi this)
   (fun t nx hi=>by
    rw[htl];simp only[qji,qas,cond_false]) (n:=n) (by rw[htl]; omega) (t0:=[]) ⟨zad,by simp⟩
  have e':qan (qji n (m:Int) cl) n ((0:Int),([]:List (List UInt8)),([]:List Int))=_:=e;simp only[Int.toNat_natCast];refine Eq.trans e' ?_;rw[qrt (fun(e:Int)=>(([]:List (List UInt8)),([]:List Int),e)) qqa _ (fun t x=>by cases qqa t x<;>rfl)]
  cases qfj qqa [] (cl.take m)<;>rfl
end W
end
section
open Go Ax
namespace W
def upB (b:UInt8):UInt8:=if 97<=b.toNat/\b.toNat<=122 then UInt8.ofNat (b.toNat - 32)else b
set_option maxRecDepth 100000 in
theorem zsl:∀ m:Fin 256,97<=m.val/\m.val<=122->u8I (IntKind.u8.wrap ((m.val:Int) - 32))=some (UInt8.ofNat (m.val - 32)):=by decide
theorem zni (b:UInt8) (h:97<=b.toNat/\b.toNat<=122):u8I (IntKind.u8.wrap ((b.toNat:Int) - 32))=some (upB b):=by
 have:=zsl ⟨b.toNat,b.toNat_lt⟩ h;unfold upB;rw[if_pos h];exact this
theorem zri (b:UInt8):u8I (b.toNat:Int)=some b:=by
 unfold u8I;have:=b.toNat_lt;rw[if_pos (by omega)];simp
def ql3 (s:List UInt8):List UInt8:=s.map upB
theorem zqe (b:UInt8):(bif decide ((b.toNat:Int)≥97)then decide ((b.toNat:Int)<=122)else false)=decide (97<=b.toNat/\b.toNat<=122):=by
 by_cases h1:97<=b.toNat<;>by_cases h2:b.toNat<=122
 ·rw[decide_eq_true (by omega:(b.toNat:Int)≥97),decide_eq_true (by omega:(b.toNat:Int)<=122),decide_eq_true ⟨h1,h2⟩]; rfl
 ·rw[decide_eq_true (by omega:(b.toNat:Int)≥97),decide_eq_false (by omega:¬ (b.toNat:Int)<=122),decide_eq_false (by omega:¬ (97<=b.toNat/\b.toNat<=122))]; rfl
 ·rw[decide_eq_false (by omega:¬ (b.toNat:Int)≥97),decide_eq_false (by omega:¬ (97<=b.toNat/\b.toNat<=122))]; rfl
 ·rw[decide_eq_false (by omega:¬ (b.toNat:Int)≥97),decide_eq_false (by omega:¬ (97<=b.toNat/\b.toNat<=122))]; rfl
theorem q83 {n:Nat} {s:List UInt8} (h:s.length<n) (hn:n<=1073741824):qs3 n s=some (ql3 s):=by
 unfold qs3;have:=qjo (B:=qlb n s) (fun k=>((s.take k).map upB,(k:Int))) s.length (r:=some (ql3 s))
  (fun k hk nx=>by
   obtain⟨b,hb⟩:∃ b,s[k]? =some b:=⟨s[k],List.getElem?_eq_getElem hk⟩;have ht:(s.take (k+1)).map upB=(s.take k).map upB++[upB b]:=by rw[List.take_succ,hb]; simp
   simp only[qlb,qa7 hk,cond_true,qal hb,qah,zqe];rw[ht];have hc:decide ((qav ((s.take k).map upB++[upB b])).length * 1<=140737488355328)=true:=zhr (by simp; omega) (by omega);by_cases hl:97<=b.toNat/\b.toNat<=122
   ·rw[decide_eq_true hl,cond_true]
    simp only[qla,zni b hl,qah];rw[qd5 hc,qcg (by omega)]
   ·rw[decide_eq_false hl,cond_false]
    have hu:upB b=b:=by unfold upB; rw[if_neg hl]
    rw[hu]at hc ⊢;simp only[qla,zri,qah];rw[qd5 hc,qcg (by omega)])
  (fun nx=>by simp only[qlb,qas,cond_false,List.take_length]; rfl) h
 simpa using this
theorem q9f {n:Nat} {s:List UInt8} (h:s.length<n) (hn:n<=1073741824):qqr n s=some (ql3 s):=by
 unfold qqr;have:=qjo (B:=qlo n s) (fun k=>((k:Int),(s.take k).map upB++s.drop k)) s.length (r:=some (ql3 s))
  (fun k hk nx=>by
   obtain⟨b,hb⟩:∃ b,s[k]? =some b:=⟨s[k],List.getElem?_eq_getElem hk⟩;have hd:s.drop k=b::s.drop (k+1):=by rw[List.drop_eq_getElem_cons hk]; rw[List.getElem?_eq_getElem hk]at hb; cases hb; rfl
   have htl:((s.take k).map upB).length=k:=by simp; omega
   have hg:((s.take k).map upB++s.drop k)[k]? =some b:=by rw[List.getElem?_append_right (by omega),htl,hd]; simp
   have hlen:k<((s.take k).map upB++s.drop k).length:=(List.getElem?_eq_some_iff.1 hg).1;have ht:(s.take (k+1)).map upB++s.drop (k+1)=(s.take k).map upB++(upB b::s.drop (k+1)):=by rw[List.take_succ,hb]; simp
   simp only[qlo,qa7 hk,cond_true,q2v,qah];rw[q30 hlen,hg,qah,zqe,ht];by_cases hl:97<=b.toNat/\b.toNat<=122
   ·rw[decide_eq_true hl,cond_true,q30 hlen,zni b hl,qah,q30 hlen]
    simp only[qln];rw[qcg (by omega),hd];rw[List.set_append_right _ _ (by omega),htl,Nat.sub_self];rfl
   ·rw[decide_eq_false hl,cond_false]
    have hu:upB b=b:=by unfold upB; rw[if_neg hl]
    simp only[qln];rw[qcg (by omega),hd,hu])
  (fun nx=>by simp only[qlo,qas,cond_false,List.take_length,List.drop_length,List.append_nil]; rfl) h
 simpa using this
def zdc (b:UInt8):Bool:=decide (97<=b.toNat/\b.toNat<=122)||decide (65<=b.toNat/\b.toNat<=90)||decide (b.toNat=95)
def zf6 (b:UInt8):Bool:=decide (48<=b.toNat/\b.toNat<=57)
def q1o (s:List UInt8):Bool:=match s with
 | []=>false
 | b::l=>decide (l.length<64)&&zdc b&&l.all fun c=>zdc c||zf6 c
theorem qs1 (n:Nat) (b:UInt8):qil n (b.toNat:Int)=some (zdc b):=by
 unfold qil zdc;rw[zqe];congr 1;by_cases h0:97<=b.toNat/\b.toNat<=122
 ·simp[h0]
 ·by_cases h1:65<=b.toNat/\b.toNat<=90
  ·rw[decide_eq_false h0,decide_eq_true h1,decide_eq_true (by omega:(b.toNat:Int)≥65),decide_eq_true (by omega:(b.toNat:Int)<=90)]; rfl
  ·have:(bif decide ((b.toNat:Int)≥65)then decide ((b.toNat:Int)<=90)else false)=false:=by
    by_cases h2:65<=b.toNat
    ·rw[decide_eq_true (by omega:(b.toNat:Int)≥65),decide_eq_false (by omega:¬ (b.toNat:Int)<=90)]; rfl
    ·rw[decide_eq_false (by omega:¬ (b.toNat:Int)≥65)]; rfl
   rw[decide_eq_false h0,this,decide_eq_false h1];by_cases h3:b.toNat=95
   ·simp[h3]
   ·have h3':((b.toNat:Int)==95)=false:=beq_eq_false_iff_ne.2 (by omega)
    simp only[Bool.or_false,Bool.false_or,cond_false];rw[h3',decide_eq_false h3]
theorem q82 (n:Nat) (b:UInt8):qkm n (b.toNat:Int)=some (zf6 b):=by
 unfold qkm zf6;congr 1;by_cases h1:48<=b.toNat<;>by_cases h2:b.toNat<=57
 ·rw[decide_eq_true (by omega:(b.toNat:Int)≥48),decide_eq_true (by omega:(b.toNat:Int)<=57),decide_eq_true ⟨h1,h2⟩]; rfl
 ·rw[decide_eq_true (by omega:(b.toNat:Int)≥48),decide_eq_false (by omega:¬ (b.toNat:Int)<=57),decide_eq_false (by omega:¬ (48<=b.toNat/\b.toNat<=57))]; rfl
 ·rw[decide_eq_false (by omega:¬ (b.toNat:Int)≥48),decide_eq_false (by omega:¬ (48<=b.toNat/\b.toNat<=57))]; rfl
 ·rw[decide_eq_false (by omega:¬ (b.toNat:Int)≥48),decide_eq_false (by omega:¬ (48<=b.toNat/\b.toNat<=57))]; rfl
theorem zbi {n:Nat} {s:List UInt8} (h:s.length<n) (hn:n<=1073741824):qva n s=some (q1o s):=by
 unfold qva;cases s with
 | nil=>rfl
 | cons b l=>
  by_cases hl:l.length<64
  ·have hc:(bif decide ((((b::l).length:Nat):Int)<1)then true else decide ((((b::l).length:Nat):Int)>64))=false:=by
    rw[decide_eq_false (by simp; omega),decide_eq_false (by simp; omega)]; rfl
   simp only[hc,Bool.not_false,qd6,qrc,qah,qs1,cond_false,q1o];rw[decide_eq_true hl];cases hb:zdc b with
   | false=>rfl
   | true=>
    simp only[Bool.not_true,cond_false,Bool.true_and];have e:=qcy (B:=qmz n (b::l)) (fun k=>((k:Nat):Int)) (l:=b::l) (fun c=>if(zdc c||zf6 c)=true then none else some false) (rest:=some true)
     (fun k x nx hx=>by
      have hk:=qb0 hx;simp only[qmz,qa7 hk,cond_true,qal hx,qah,qs1];rw[qcg (by omega)];cases h1:zdc x with
      | true=>simp
      | false=>
       simp only[Bool.not_false,qd6,qah,q82,cond_true];cases zf6 x<;>simp)
     (fun nx=>by simp only[qmz,qas,cond_false]) (n:=n) h
    refine Eq.trans e ?_;have key:∀ l:List UInt8,qew (R:=Bool) (fun c=>if(zdc c||zf6 c)=true then none else some false) l=if(l.all fun c=>zdc c||zf6 c)=true then none else some false:=by
     intro l
     induction l with
     | nil=>rfl
     | cons c l ih=>
      simp only[qew,List.all_cons,ih];by_cases hc:(zdc c||zf6 c)=true<;>simp only[hc,if_true,Bool.true_and,Bool.not_eq_true]<;>simp_all
    rw[key];simp only[List.all_cons,hb,Bool.true_or,Bool.true_and];cases(l.all fun c=>zdc c||zf6 c)<;>rfl
  ·have hc:(bif decide ((((b::l).length:Nat):Int)<1)then true else decide ((((b::l).length:Nat):Int)>64))=true:=by
    rw[decide_eq_false (by simp; omega),decide_eq_true (by simp; omega)]; rfl
   simp only[hc,Bool.not_true,zc2,qah,cond_true,q1o];rw[decide_eq_false hl];rfl
end W
end
section
open Go Ax
namespace W
theorem zpo {l:List UInt8} {i:Nat} {b:UInt8} (h:l[i]? =some b):(⟨l.toArray⟩:ByteArray).get! i=b:=by
 have hi:=(List.getElem?_eq_some_iff.1 h).1;have:(⟨l.toArray⟩:ByteArray).get! i=l.toArray[i]!:=rfl;rw[this];simp[getElem!_def,h]
theorem zm2 {l:List UInt8} {i:Nat} {b:UInt8} (h:l[i]? =some b) (hb:b.toNat<128):qa8 l i=b.toNat/\qdy l i=i+1:=by
 unfold qa8 qdy Utf8.decode;simp only[Nat.add_zero,zpo h];rw[if_pos (by omega)];exact⟨rfl,rfl⟩
theorem zrb {l:List UInt8} {i:Nat} {b:UInt8} (h:l[i]? =some b) (hb:¬ b.toNat<128):128<=qa8 l i:=by
 unfold qa8 Utf8.decode;simp only[Nat.add_zero,zpo h];rw[if_neg (by omega)];have he:128<=Utf8.runeError:=by decide
 split
 ·split
  ·simp only; omega
  ·exact he
 ·split
  ·split
   ·rename_i h1
    simp only[Bool.and_eq_true,decide_eq_true_eq,ge_iff_le]at h1;simp only; omega
   ·exact he
  ·split
   ·split
    ·rename_i h1
     simp only[Bool.and_eq_true,decide_eq_true_eq,ge_iff_le]at h1;simp only; omega
    ·exact he
   ·exact he
def zaa (k:Nat) (b:UInt8):Bool:=!zdc b&&(k==0||!zf6 b)
def q4w:Nat->List UInt8->Bool
 | _,[]=>true
 | k,b::l=>!zaa k b&&q4w (k+1) l
theorem q8k:∀ (l:List UInt8) (k:Nat),q4w (k+1) l=l.all fun c=>zdc c||zf6 c
 | [],k=>rfl
 | b::l,k=>by
  simp only[q4w,List.all_cons,q8k l (k+1),zaa];rw[show((k+1==0)=false)from rfl];cases zdc b<;>cases zf6 b<;>rfl
theorem zon (l:List UInt8):(q4w 0 l&&(!(l==[])&&decide (l.length<=64)))=q1o l:=by
 cases l with
 | nil=>rfl
 | cons b l=>
  simp only[q4w,q8k,q1o,zaa,beq_self_eq_true,Bool.true_or,Bool.and_true,Bool.not_not];have h1:(!((b::l)==[]))=true:=rfl;have h2:decide ((b::l).length<=64)=decide (l.length<64):=by
   by_cases h:l.length<64
   ·rw[decide_eq_true h,decide_eq_true (by simp; omega)]
   ·rw[decide_eq_false h,decide_eq_false (by simp; omega)]
  rw[h1,h2,Bool.true_and];cases zdc b<;>cases decide (l.length<64)<;>simp
theorem zm1 {l:List UInt8} {k:Nat} {b:UInt8} (h:l[k]? =some b) :
  (bif !(bif(bif(bif decide (((qa8 l k:Nat):Int)≥97)then decide (((qa8 l k:Nat):Int)<=122)else false)then true else(bif decide (((qa8 l k:Nat):Int)≥65)then decide (((qa8 l k:Nat):Int)<=90)else false))then true else(((qa8 l k:Nat):Int)==95))then(bif(bif(((k:Nat):Int)==0)then true else decide (((qa8 l k:Nat):Int)<48))then true else decide (((qa8 l k:Nat):Int)>57))else false)=zaa k b:=by
 by_cases hb:b.toNat<128
 ·rw[(zm2 h hb).1]
  have hl:=qs1 0 b;unfold qil at hl;rw[Option.some.inj hl];have hz:(((k:Nat):Int)==0)=(k==0):=by
   by_cases hk:k=0
   ·subst hk; rfl
   ·rw[beq_eq_false_iff_ne.2 hk,beq_eq_false_iff_ne.2 (by omega)]
  rw[hz];unfold zaa zf6;cases hL:zdc b with
  | true=>rfl
  | false=>
   simp only[Bool.not_false,cond_true,Bool.true_and];cases hk:(k==0)with
   | true=>rfl
   | false=>
    simp only[cond_false,Bool.false_or];by_cases h1:b.toNat<48
    ·rw[decide_eq_true (by omega:(b.toNat:Int)<48),decide_eq_false (by omega:¬ (48<=b.toNat/\b.toNat<=57))]; rfl
    ·by_cases h2:57<b.toNat
     ·rw[decide_eq_false (by omega:¬ (b.toNat:Int)<48),decide_eq_true (by omega:(b.toNat:Int)>57),decide_eq_false (by omega:¬ (48<=b.toNat/\b.toNat<=57))]; rfl
     ·rw[decide_eq_false (by omega:¬ (b.toNat:Int)<48),decide_eq_false (by omega:¬ (b.toNat:Int)>57),decide_eq_true (by omega:(48<=b.toNat/\b.toNat<=57))]; rfl
 ·have hr:=zrb h hb
  have hbad:zaa k b=true:=by
   unfold zaa zdc zf6;rw[decide_eq_false (by omega:¬ (97<=b.toNat/\b.toNat<=122)),decide_eq_false (by omega:¬ (65<=b.toNat/\b.toNat<=90)),decide_eq_false (by omega:¬ b.toNat=95),decide_eq_false (by omega:¬ (48<=b.toNat/\b.toNat<=57))];cases(k==0)<;>rfl
  rw[hbad];generalize qa8 l k=c at *;rw[decide_eq_false (by omega:¬ (c:Int)<=122),decide_eq_false (by omega:¬ (c:Int)<=90),beq_eq_false_iff_ne.2 (by omega:¬ (c:Int)=95),decide_eq_true (by omega:(c:Int)>57)];cases decide ((c:Int)≥97)<;>cases decide ((c:Int)≥65)<;>cases((k:Int)==0)<;>cases decide ((c:Int)<48)<;>rfl
theorem q0d {n:Nat} {l:List UInt8} (h:l.length<n):qo2 n l=some (q1o l):=by
 unfold qo2;have main:∀ (suf:List UInt8) (k m:Nat),(∀ j,suf[j]? =l[k+j]?)->k+suf.length=l.length->suf.length<m->qan (qlp n l) m k=some (q4w k suf&&(!(l==[])&&decide (l.length<=64))):=by
  intro suf
  induction suf with
  | nil=>
   intro k m hs hk hm;obtain⟨m,rfl⟩:=Nat.exists_eq_succ_of_ne_zero (by omega:m≠0);have:k=l.length:=by simpa using hk
   subst this;rw[qbg];simp only[qlp];rw[decide_eq_false (Nat.lt_irrefl _),cond_false];have:decide (((l.length:Nat):Int)<=64)=decide (l.length<=64):=by
    by_cases h:l.length<=64
    ·rw[decide_eq_true h,decide_eq_true (by omega)]
    ·rw[decide_eq_false h,decide_eq_false (by omega)]
   rw[this];simp only[q4w,Bool.true_and];cases(l==[])<;>rfl
  | cons b suf ih=>
   intro k m hs hk hm;obtain⟨m,rfl⟩:=Nat.exists_eq_succ_of_ne_zero (by omega:m≠0);have hb:l[k]? =some b:=by have:=hs 0; simpa using this.symm
   have hkl:=qb0 hb;rw[qbg];simp only[qlp];rw[decide_eq_true hkl,cond_true,zm1 hb];simp only[q4w];cases hB:zaa k b with
   | true=>rfl
   | false=>
    have h128:b.toNat<128:=Decidable.byContradiction fun hn=>by
     have:zaa k b=true:=by
      unfold zaa zdc zf6;rw[decide_eq_false (by omega:¬ (97<=b.toNat/\b.toNat<=122)),decide_eq_false (by omega:¬ (65<=b.toNat/\b.toNat<=90)),decide_eq_false (by omega:¬ b.toNat=95),decide_eq_false (by omega:¬ (48<=b.toNat/\b.toNat<=57))];cases(k==0)<;>rfl
     rw[this]at hB;cases hB
    rw[cond_false,cond_true,(zm2 hb h128).2,ih (k+1) m (fun j=>by have:=hs (j+1); rw[show k+1+j=k+(j+1) by omega]; simpa using this) (by simp at hk; omega) (by simp at hm; omega)]
    rfl
 have:=main l 0 n (fun j=>by simp) (by simp) h
 rw[zon]at this;exact this
def Wd:List (List UInt8)->List UInt8
 | []=>[32]
 | x::ws=>32::(x++Wd ws)
theorem zkk:∀ ws,∃ t,Wd ws=32::t
 | []=>⟨[],rfl⟩
 | x::ws=>⟨_,rfl⟩
theorem zp1:∀ (w x r t:List UInt8),32 ∉ w->32 ∉ x->(w++32::r) <+: (x++32::t)->w=x
 | [],[],_,_,_,_,_=>rfl
 | [],b::x,r,t,_,hx,h=>by
  simp only[List.nil_append,List.cons_append,List.cons_prefix_cons]at h;exact absurd (h.1 ▸ List.mem_cons_self) hx
 | a::w,[],r,t,hw,_,h=>by
  simp only[List.nil_append,List.cons_append,List.cons_prefix_cons]at h;exact absurd (h.1 ▸ List.mem_cons_self) hw
 | a::w,b::x,r,t,hw,hx,h=>by
  simp only[List.cons_append,List.cons_prefix_cons]at h;rw[h.1,zp1 w x r t (fun hm=>hw (List.mem_cons_of_mem _ hm)) (fun hm=>hx (List.mem_cons_of_mem _ hm)) h.2]
theorem zml:∀ (ws:List (List UInt8)) (w:List UInt8),(∀ x∈ws,32 ∉ x)->32 ∉ w->∀ j,(32::(w++[32])) <+: (Wd ws).drop j->w∈ws
 | [],w,_,_,j,h=>by
  have:=h.length_le;simp[Wd]at this;omega
 | x::ws,w,hws,hw,j,h=>by
  cases j with
  | zero=>
   simp only[Wd,List.drop_zero,List.cons_prefix_cons,true_and]at h;obtain⟨t,ht⟩:=zkk ws;rw[ht]at h;rw[zp1 w x [] t hw (hws x (by simp)) h];simp
  | succ j=>
   simp only[Wd,List.drop_succ_cons]at h;by_cases hj:j<x.length
   ·rw[List.drop_append_of_le_length (by omega),List.drop_eq_getElem_cons hj,List.cons_append,List.cons_prefix_cons]at h
    exact absurd (by rw[h.1]; exact List.getElem_mem hj) (hws x (by simp))
   ·rw[List.drop_append,List.drop_eq_nil_of_le (by omega),List.nil_append]at h
    exact List.mem_cons_of_mem _ (zml ws w (fun y hy=>hws y (List.mem_cons_of_mem _ hy)) hw _ h)
theorem zmh:∀ (ws:List (List UInt8)) (w:List UInt8),w∈ws->∃ j,j<=(Wd ws).length/\(32::(w++[32])) <+: (Wd ws).drop j
 | x::ws,w,h=>by
  rcases List.mem_cons.1 h with rfl|h
  ·obtain⟨t,ht⟩:=zkk ws
   refine⟨0,Nat.zero_le _,?_⟩;simp only[Wd,List.drop_zero,ht];exact⟨t,by simp⟩
  ·obtain⟨j,hj,hp⟩:=zmh ws w h
   refine⟨x.length+j+1,by simp[Wd]; omega,?_⟩;simp only[Wd,List.drop_succ_cons];rw[List.drop_append,List.drop_eq_nil_of_le (by omega),List.nil_append,Nat.add_sub_cancel_left];exact hp
theorem zel {ws:List (List UInt8)} {w:List UInt8} (hws:∀ x∈ws,32 ∉ x) (hw:32 ∉ w):Lib.contains (Wd ws) (32::(w++[32]))=ws.contains w:=by
 unfold Lib.contains;rcases Lib.index_spec (Wd ws) (32::(w++[32]))with ⟨h1,h2⟩|⟨i,h1,_,h2,_⟩
 ·rw[h1]
  have:¬ w∈ws:=fun hm=>by
   obtain⟨j,hj,hp⟩:=zmh ws w hm;have:=h2 j hj;unfold Lib.occAt at this;rw[List.isPrefixOf_iff_prefix.2 hp]at this;cases this
  have h3:ws.contains w=false:=by simpa using this
  rw[h3];rfl
 ·rw[h1]
  unfold Lib.occAt at h2;have:=zml ws w hws hw i (List.isPrefixOf_iff_prefix.1 h2);have h3:ws.contains w=true:=by simpa using this
  rw[h3];exact decide_eq_true (by omega)
end W
end
section
open Go Ax
set_option maxRecDepth 4000
namespace W
def q4l:List (List UInt8):=[([77,65,84,67,72]:List UInt8),([87,72,69,82,69]:List UInt8),([85,78,87,73,78,68]:List UInt8),([65,83]:List UInt8),([87,73,84,72]:List UInt8),([67,82,69,65,84,69]:List UInt8),([77,69,82,71,69]:List UInt8),([83,69,84]:List UInt8),([82,69,77,79,86,69]:List UInt8),([68,69,76,69,84,69]:List UInt8),([68,69,84,65,67,72]:List UInt8),([82,69,84,85,82,78]:List UInt8),([68,73,83,84,73,78,67,84]:List UInt8),([79,82,68,69,82]:List UInt8),([66,89]:List UInt8),([65,83,67]:List UInt8),([68,69,83,67]:List UInt8),([83,75,73,80]:List UInt8),([76,73,77,73,84]:List UInt8),([65,78,68]:List UInt8),([79,82]:List UInt8),([88,79,82]:List UInt8),([78,79,84]:List UInt8),([73,78]:List UInt8),([73,83]:List UInt8),([78,85,76,76]:List UInt8),([84,82,85,69]:List UInt8),([70,65,76,83,69]:List UInt8)]
theorem zpc:∀ x∈q4l,(32:UInt8) ∉ x:=by decide
theorem zpd:([32,77,65,84,67,72,32,87,72,69,82,69,32,85,78,87,73,78,68,32,65,83,32,87,73,84,72,32,67,82,69,65,84,69,32,77,69,82,71,69,32,83,69,84,32,82,69,77,79,86,69,32,68,69,76,69,84,69,32,68,69,84,65,67,72,32,82,69,84,85,82,78,32,68,73,83,84,73,78,67,84,32,79,82,68,69,82,32,66,89,32,65,83,67,32,68,69,83,67,32,83,75,73,80,32,76,73,77,73,84,32,65,78,68,32,79,82,32,88,79,82,32,78,79,84,32,73,78,32,73,83,32,78,85,76,76,32,84,82,85,69,32,70,65,76,83,69,32]:List UInt8)=Wd q4l:=by kernel_rfl
theorem zsk {b:UInt8} (h:(zdc b||zf6 b)=true):upB b≠32:=by
 intro hc;unfold upB at hc;split at hc
 ·rename_i hb
  have:=congrArg UInt8.toNat hc;rw[UInt8.toNat_ofNat']at this;simp at this;omega
 ·subst hc
  revert h
  decide
theorem zom {s:List UInt8} (h:q1o s=true):32 ∉ ql3 s:=by
 intro hm;unfold ql3 at hm;obtain⟨b,hb,he⟩:=List.mem_map.1 hm;refine zsk ?_ he;cases s with
 | nil=>cases hb
 | cons c s=>
  simp only[q1o,Bool.and_eq_true,List.all_eq_true]at h;rcases List.mem_cons.1 hb with rfl|hb
  ·simp[h]
  ·exact(by simpa using h.2 b hb)
theorem znj (s:List UInt8):(ql3 s).length=s.length:=by simp[ql3]
def qdw (s:List UInt8):Bool:=q1o s&&!(q4l.contains (ql3 s))
theorem zbm {n:Nat} {s:List UInt8} (h:s.length<n) (h2:28<n) (hn:n<=1073741824) :
  qss n s=some (if q4l.contains (ql3 s)then(ql3 s,true)else([],false)):=by
 unfold qss;rw[show qv6 n=some q4l from rfl,qah,q83 h hn,qah];have hl:q4l.length=28:=rfl;refine Eq.trans (qcy (B:=qm0 n q4l (ql3 s)) (fun k=>(k:Int)) (l:=q4l) (fun w=>if w=ql3 s then some (ql3 s,true)else none) (rest:=some ([],false)) ?_ ?_ (by omega)) ?_
 ·intro k x nx hx
  have hk:=qb0 hx;unfold qm0;rw[qaz,qa7 hk,cond_true,qal hx,qah,qcg (by omega)];by_cases hw:x=ql3 s
  ·subst hw
   simp
  ·rw[if_neg hw,beq_eq_false_iff_ne.2 hw]
   rfl
 ·intro nx
  unfold qm0;rw[qaz,qas];rfl
 ·have:∀ l:List (List UInt8),qew (fun w=>if w=ql3 s then some (ql3 s,true)else none) l=if l.contains (ql3 s)then some (ql3 s,true)else none:=by
   intro l
   induction l with
   | nil=>rfl
   | cons a l ih=>
    simp only[qew,ih];by_cases ha:a=ql3 s
    ·subst ha
     simp
    ·rw[if_neg ha]
     have:(a::l).contains (ql3 s)=l.contains (ql3 s):=by
      rw[List.contains_cons,beq_eq_false_iff_ne.2 (Ne.symm ha),Bool.false_or]
     rw[this]
  rw[this];cases q4l.contains (ql3 s)<;>rfl
theorem qjd {n:Nat} {s:List UInt8} (h:s.length<n) (h2:28<n) (hn:n<=1073741824):qgv n s=some (qdw s):=by
 unfold qgv;rw[zbm h h2 hn,qah];unfold qdw;cases q4l.contains (ql3 s)<;>simp[zbi h hn]<;>cases q1o s<;>rfl
theorem qya (n:Nat) {a:List UInt8} (b:List UInt8) (h:a.length<4294967281):ql0 n a b=some (Lib.contains a b):=q30 h
theorem zmc {P Q:Prop} [Decidable P] [Decidable Q] (hp:P) (hq:Q) {b:Bool} {o:Option Bool} {w:Bool} (ho:b=true->o=some w) (x:List UInt8) :
  chk (bif !(!b)then decide P else true) (chk (bif !(!b)then decide Q else true) (bnd (qaw (!(!b)) o) fun x4=>bif(bif !b then true else !x4)then some (([]:List UInt8),false)else some (x,true)))=some (if b&&w then(x,true)else([],false)):=by
 cases b with
 | false=>simp
 | true=>simp[hp,hq,ho rfl]; cases w<;>rfl
theorem ze7 {n:Nat} {s c:List UInt8} (h:s.length<n) (hn:n<=1073741824) (hl:c.length=148) (hc:q1o s=true->Lib.contains c (32::(ql3 s++[32]))=q4l.contains (ql3 s)) :
  (bnd (qqr n s) fun x2=>
 bnd (qo2 n s) fun x3=>
 chk (bif(!(!x3))then decide (((([32]:List UInt8).length+x2.length:Nat):Int)<=qtu)else true) (
 chk (bif(!(!x3))then decide ((((([32]:List UInt8)++x2).length+([32]:List UInt8).length:Nat):Int)<=qtu)else true) (
 bnd (qaw (!(!x3)) (ql0 n c ((([32]:List UInt8)++x2)++([32]:List UInt8)))) fun x4=>
 bif(bif(!x3)then true else(!x4))then(
 some (([]:List UInt8),false))
 else(
 some (x2,true)))))=some (if qdw s||!(q1o s)then([],false)else(ql3 s,true)):=by
 rw[q9f h hn,qah,q0d h,qah];have hu:=znj s;have hM:(s.length:Int)+2<=qtu:=by unfold qtu; omega
 have h1:((([32]:List UInt8).length+(ql3 s).length:Nat):Int)<=qtu:=by
  rw[show([32]:List UInt8).length=1 from rfl,hu]; generalize qtu=m at *; omega
 have h2:(((([32]:List UInt8)++(ql3 s)).length+([32]:List UInt8).length:Nat):Int)<=qtu:=by
  rw[List.length_append,show([32]:List UInt8).length=1 from rfl,hu]; generalize qtu=m at *; omega
 refine(zmc h1 h2 (w:=q4l.contains (ql3 s)) (fun hs=>?_) (ql3 s)).trans ?_
 ·rw[qya n _ (by omega),show([32]++ql3 s++[32]:List UInt8)=32::(ql3 s++[32]) by simp,hc hs]
 ·unfold qdw
  cases q1o s<;>cases q4l.contains (ql3 s)<;>rfl
set_option maxRecDepth 100000 in
theorem zoi:([32,77,65,84,67,72,32,87,72,69,82,69,32,85,78,87,73,78,68,32,65,83,32,87,73,84,72,32,67,82,69,65,84,69,32,77,69,82,71,69,32,83,69,84,32,82,69,77,79,86,69,32,68,69,76,69,84,69,32,68,69,84,65,67,72,32,82,69,84,85,82,78,32,68,73,83,84,73,78,67,84,32,79,82,68,69,82,32,66,89,32,65,83,67,32,68,69,83,67,32,83,75,73,80,32,76,73,77,73,84,32,65,78,68,32,79,82,32,88,79,82,32,78,79,84,32,73,78,32,73,83,32,78,85,76,76,32,84,82,85,69,32,70,65,76,83,69,32]:List UInt8).length=148:=by kernel_rfl
set_option maxRecDepth 100000 in
theorem zb1 {n:Nat} {s:List UInt8} (h:s.length<n) (hn:n<=1073741824) :
  qy1 n s=some (if qdw s||!(q1o s)then([],false)else(ql3 s,true)):=
 ze7 h hn zoi (fun hs=>(congrArg (fun c=>Lib.contains c (32::(ql3 s++[32]))) zpd).trans (zel zpc (zom hs)))
theorem qij {n:Nat} {s:List UInt8} (h:s.length<n) (hn:n<=1073741824):qev n s=some (qdw s):=by
 unfold qev;rw[zb1 h hn,qah];cases hs:q1o s<;>cases hp:qdw s<;>simp[q0d h,hs]<;>simp[qdw,hs]at hp
end W
end
section
open Go Ax
namespace W
theorem zsn {k:Nat} (h:k+1<=1152921504606846976):IntKind.i64.wrap (((k+1:Nat):Int) - 1)=((k:Nat):Int):=by
 rw[q1t (by omega) (by omega)]; omega
theorem zqx (x:List UInt8):(decide (((x.length:Nat):Int)<1))=(x==[]):=by
 cases x with
 | nil=>rfl
 | cons a x=>simp; omega
theorem zpa (n:Nat) (ks:List (List UInt8)) (c d:Int) (l:List Val) (g:Val->Int->Int->Option (Int×Bool)) (hn:n<=1073741824):∀ m k:Nat,k<=ks.length->ks.length - k<m->ks.length<n ->
  ∃ b,qan (qh4 n ks) m (k:Int)=some b/\qan (ql8 n ks c l g d) m (k:Int)=bif b then ql6 n l g d c ()else some (IntKind.i64.wrap (c+1),false):=by
 intro m
 induction m with
 | zero=>intro k _ h; omega
 | succ m ih=>
  intro k hk hm hl;rw[qbg,qbg];by_cases he:k=ks.length
  ·subst he
   refine⟨true,?_,?_⟩
   ·simp only[qh4,qaz,qas,cond_false]
   ·simp only[ql8,qaz,qas,cond_false,cond_true]
  ·have hkl:k<ks.length:=by omega
   obtain⟨x,hx⟩:∃ x,ks[k]? =some x:=⟨_,List.getElem?_eq_getElem hkl⟩;obtain⟨b,h1,h2⟩:=ih (k+1) (by omega) (by omega) hl;rw[← qcg (by omega)]at h1 h2;simp only[qh4,ql8,qaz,qa7 hkl,cond_true,qal hx,qah,zqx];cases hE:x==[]with
   | true=>exact⟨false,by simp,by simp⟩
   | false=>
    simp only[Bool.not_false,qd6,qah,cond_false];cases hB:decide (((x.length:Nat):Int)>64)with
    | true=>exact⟨false,by simp,by simp⟩
    | false=>
     cases k with
     | zero=>
      refine⟨b,?_,?_⟩
      ·simpa using h1
      ·simpa using h2
     | succ k=>
      have h0:decide ((((k+1:Nat):Int))>0)=true:=decide_eq_true (by omega);obtain⟨y,hy⟩:∃ y,ks[k]? =some y:=⟨_,List.getElem?_eq_getElem (by omega)⟩;simp only[h0,Bool.not_false,Bool.and_true,qd6,zsn (show k+1<=1152921504606846976 by omega),qal hy,qah,cond_true,cond_false,zh0];cases Op.bytesLess y x with
      | false=>exact⟨false,by simp,by simp⟩
      | true=>exact⟨b,by simpa using h1,by simpa using h2⟩
theorem qqi:∀ l:List Val,l.length<q25 l
 | []=>by simp[q25]
 | x::l=>by have:=qqi l; simp only[q25,List.length_cons]; omega
theorem qyx:∀ {l:List Val} {x:Val},x∈l->zah x+2<=q25 l
 | y::l,x,h=>by
  simp only[q25];rcases List.mem_cons.1 h with rfl|h
  ·have:=qqi l; omega
  ·have:=qyx h; omega
theorem zpb (n:Nat) (l:List Val) (g g':Val->Int->Int->Option (Int×Bool)) (d:Int) (hn:n<=1073741824)
  (hg:∀ v∈l,∀ d c,∃ r,g v d c=some r/\g' v d c=some r):∀ m k:Nat,∀ c:Int,k<=l.length->l.length - k<m->l.length<n ->
  ∃ r,qan (qgl n l g d) m (c,true,(k:Int))=some r/\qan (ql7 n l g' d) m (c,(k:Int))=some r:=by
 intro m
 induction m with
 | zero=>intro k _ _ h; omega
 | succ m ih=>
  intro k c hk hm hl;rw[qbg,qbg];by_cases he:k=l.length
  ·subst he
   refine⟨(c,true),?_,?_⟩
   ·simp only[qgl,qfm,qas,cond_false]
   ·simp only[ql7,qfm,qas,cond_false]
  ·have hkl:k<l.length:=by omega
   obtain⟨x,hx⟩:∃ x,l[k]? =some x:=⟨_,List.getElem?_eq_getElem hkl⟩;obtain⟨⟨c2,b⟩,h1,h2⟩:=hg x (qbk hx) (IntKind.i64.wrap (d - 1)) c;obtain⟨x1,x2,x3,x4,x5,x6⟩:=x;simp only[qgl,ql7,qfm,qa7 hkl,cond_true,qal hx,qah,h1,h2];rw[qcg (by omega)];cases b with
   | true=>
    obtain⟨r,h3,h4⟩:=ih (k+1) c2 (by omega) (by omega) hl;exact⟨r,h3,by simpa using h4⟩
   | false=>
    refine⟨(c2,false),?_,by simp⟩;obtain⟨m,rfl⟩:∃ m',m=m'+1:=⟨m - 1,by omega⟩;rw[qbg];simp only[qgl,Bool.cond_self,cond_false]
theorem zp8 (n:Nat) {x1:Int} (h7:x1<=7) (x2:Bool) (x3:Int) (x4:List UInt8) (x5:List Val) (x6:List (List UInt8)):qrf n ⟨x1,x2,x3,x4,x5,x6⟩=qpd n ⟨x1,x2,x3,x4,x5,x6⟩:=by
 simp only[qpd,qrf];have e6:decide (x1≥6)=(x1==6||x1==7):=by
  rw[Bool.eq_iff_iff]; simp; omega
 have e5:decide ((((Val.rows x5).length:Nat):Int)>0)=!((((Val.rows x5).length:Nat):Int)==0):=by
  generalize (Val.rows x5).length=m;cases m with
  | zero=>rfl
  | succ m=>rw[decide_eq_true (by omega),beq_eq_false_iff_ne.2 (by omega)]; rfl
 have a1:(bif(x1 != 1)then x2 else false)=!(bif(x1==1)then true else !x2):=by
  rw[bne]; cases(x1==1)<;>cases x2<;>rfl
 have a2:(bif(bif(bif(x1 != 2)then(x1 != 6)else false)then(x1 != 7)else false)then(x3 != 0)else false)=!(bif(bif(x1==2)then true else decide (x1≥6))then true else(x3==0)):=by
  rw[e6,bne,bne,bne,bne]; cases(x1==2)<;>cases(x1==6)<;>cases(x1==7)<;>cases(x3==0)<;>rfl
 have a3:(bif(x1 != 3)then(!(x4==([]:List UInt8)))else false)=!(bif(x1==3)then true else(x4==([]:List UInt8))):=by
  rw[bne]; cases(x1==3)<;>cases(x4==([]:List UInt8))<;>rfl
 have a4:(bif(bif(x1 != 4)then(x1 != 5)else false)then decide ((((Val.rows x5).length:Nat):Int)>0)else false)=!(bif(bif(x1==4)then true else(x1==5))then true else((((Val.rows x5).length:Nat):Int)==0)):=by
  rw[e5,bne,bne]; cases(x1==4)<;>cases(x1==5)<;>cases((((Val.rows x5).length:Nat):Int)==0)<;>rfl
 rw[a1,a2,a3,a4];generalize (bif(x1==1)then true else !x2)=A;generalize (bif(bif(x1==2)then true else decide (x1≥6))then true else(x3==0))=B;generalize (bif(x1==3)then true else(x4==([]:List UInt8)))=C;generalize (bif(bif(x1==4)then true else(x1==5))then true else((((Val.rows x5).length:Nat):Int)==0))=D;cases A<;>cases B<;>cases C<;>cases D<;>rfl
theorem qyn:∀ n:Nat,n<=1073741824->∀ v d c,zah v<n->∃ r,qi7 n v d c=some r/\qjw n v d c=some r:=by
 intro n
 induction n with
 | zero=>intro _ _ _ _ h; omega
 | succ n ih=>
  intro hn v d c hv;obtain⟨x1,x2,x3,x4,x5,x6⟩:=v;have hb:q25 x5<n/\x6.length<n:=by
   have:=qeb x6;simp only[qz6]at this;simp only[zah]at hv;have h0:=qqi x5;omega
  have hl:=qqi x5;have hg:∀ v∈x5,∀ d c,∃ r,qi7 n v d c=some r/\qjw n v d c=some r:=fun v hm d c=>ih (by omega) v d c (by have:=qyx hm; omega)
  have hloop:∀ c,∃ r,qan (qgl n x5 (qi7 n) d) n (c,true,(0:Int))=some r/\qan (ql7 n x5 (qjw n) d) n (c,(0:Int))=some r:=fun c=>
   zpb n x5 _ _ d (by omega) hg n 0 c (by omega) (by omega) (by omega)
  obtain⟨kb,hk1,hk2⟩:=zpa n x6 c d x5 (qjw n) (by omega) n 0 (by omega) (by omega) hb.2;obtain⟨r,hr1,hr2⟩:=hloop (IntKind.i64.wrap (c+1));simp only[qi7,qjw,qsd,qu8,qt4];generalize hC:IntKind.i64.wrap (c+1)=C at *;have hvw:∃ G:Bool,(bif(bif(bif(decide (d<1))then true else(decide (C>4096)))then true else(decide (x1<0)))then true else(decide (x1>7)))=G /\
    (bif(bif(bif(decide (C>4096))then true else(decide (d<1)))then true else(decide (x1<0)))then true else(decide (x1>7)))=G/\(G=false->x1<=7):=by
   refine⟨_,rfl,?_,?_⟩
   ·cases decide (C>4096)<;>cases decide (d<1)<;>rfl
   ·cases decide (C>4096)<;>cases decide (d<1)<;>cases decide (x1<0)<;>simp
  obtain⟨G,hG1,hG2,hG3⟩:=hvw;rw[hG1,hG2];cases G with
  | true=>exact⟨(C,false),by simp,by simp⟩
  | false=>
   have h7:=hG3 rfl;rw[zp8 n h7];obtain⟨B,hB⟩:∃ B,qpd n ⟨x1,x2,x3,x4,x5,x6⟩=some B:=⟨_,rfl⟩;rw[hB];have e6:decide (x1≥6)=(bif(x1==6)then true else(x1==7)):=by
    rw[Bool.eq_iff_iff]; simp; omega
   rw[e6];cases B with
   | false=>exact⟨(C,false),by simp,by simp⟩
   | true=>
    simp only[Bool.not_false,Bool.not_true,qd6,qah,cond_false,cond_true];cases hT:(bif(bif(x1==6)then true else(x1==7))then decide (x3<1)else false)with
    | true=>exact⟨(C,false),by simp,by simp⟩
    | false=>
     cases h5:(x1==5)with
     | false=>
      refine⟨r,?_,?_⟩
      ·simpa using hr1
      ·simpa[ql6,hC]using hr2
     | true=>
      cases hN:((((qai x6).length:Nat):Int) != (((Val.rows x5).length:Nat):Int))with
      | true=>exact⟨(C,false),by simp,by simp⟩
      | false=>
       simp only[Bool.not_false,Bool.and_true,qd6,cond_false,cond_true];have hk1':qan (qh4 n x6) n (0:Int)=some kb:=hk1;have hk2':qan (ql8 n x6 c x5 (qjw n) d) n (0:Int)=_:=hk2;rw[hk1',hk2',qah];cases kb with
       | true=>
        refine⟨r,?_,?_⟩
        ·simpa using hr1
        ·simpa[ql6,hC]using hr2
       | false=>exact⟨(C,false),by simp,by simp⟩
theorem zn4 {n:Nat} (hn:n<=1073741824) {v:Val} (hv:zah v<n):∃ b:Bool,qp4 n v=some (bif b then 0 else 20)/\qs0 n v=some b:=by
 obtain⟨x1,x2,x3,x4,x5,x6⟩:=v;obtain⟨⟨c,b⟩,h1,h2⟩:=qyn n hn _ 32 0 hv;refine⟨b,?_,?_⟩
 ·simp only[qp4,h1,qah]
  cases b<;>rfl
 ·simp only[qs0,h2,qah]
end W
end
section
open Go Ax
namespace W
theorem q72 {A:Type} {B:(Int->Option Bool)->Int->Option Bool} {l l':List A} (hlen:l.length=l'.length)
  (step:∀ (k:Nat) x y nx,l[k]? =some x->l'[k]? =some y->∃ b,(b=true↔x=y)/\B nx (k:Int)=bif b then nx ((k+1:Nat):Int)else some false)
  (hend:∀ nx,B nx (l.length:Int)=some true) {n:Nat} (hn:l.length<n):∃ b,qan B n 0=some b/\(b=true↔l=l'):=by
 have main:∀ m k:Nat,k<=l.length->l.length - k<m->∃ b,qan B m (k:Int)=some b/\(b=true↔l.drop k=l'.drop k):=by
  intro m
  induction m with
  | zero=>intro k _ h; omega
  | succ m ih=>
   intro k hk hm;rw[qbg];by_cases he:k=l.length
   ·subst he
    exact⟨true,hend _,by rw[List.drop_length,hlen,List.drop_length]; simp⟩
   ·have h1:k<l.length:=by omega
    have h2:k<l'.length:=by omega
    obtain⟨b,hb,hs⟩:=step k _ _ (qan B m) (List.getElem?_eq_getElem h1) (List.getElem?_eq_getElem h2);rw[hs,List.drop_eq_getElem_cons h1,List.drop_eq_getElem_cons h2,List.cons.injEq,← hb];cases b with
    | false=>exact⟨false,rfl,by simp⟩
    | true=>
     obtain⟨b,h3,h4⟩:=ih (k+1) (by omega) (by omega);exact⟨b,h3,by simpa using h4⟩
 obtain⟨b,h1,h2⟩:=main n 0 (by omega) (by omega);exact⟨b,h1,by simpa using h2⟩
theorem qwp {a b:Nat}:((((a:Nat):Int) != ((b:Nat):Int))=true)↔a≠b:=by simp[Int.natCast_inj]
theorem q3n {n:Nat} {x y:List (List UInt8)} (h:x.length<n) (hn:n<=1073741824):∃ b,qd7 n x y=some b/\(b=true↔x=y):=by
 unfold qd7;by_cases hl:x.length=y.length
 ·have:((((qai x).length:Nat):Int) != (((qai y).length:Nat):Int))=false:=by simp[hl]
  rw[this,cond_false];refine q72 hl (fun k a b nx ha hb=>⟨a==b,beq_iff_eq,?_⟩) (fun nx=>by simp only[qdi,qaz,qas,cond_false]) h
  have hk:=qb0 ha;simp only[qdi,qaz,qa7 hk,cond_true,qal ha,qal hb,qah];rw[qcg (by omega)];cases a==b<;>rfl
 ·have:((((qai x).length:Nat):Int) != (((qai y).length:Nat):Int))=true:=by rw[qaz,qaz]; exact qwp.2 hl
  rw[this];exact⟨false,rfl,by simp; intro e; exact hl (congrArg _ e)⟩
theorem qgr {n:Nat} {x y:List (List UInt8)} (h:x.length<n) (hn:n<=1073741824):∃ b,qer n x y=some b/\(b=true↔x=y):=by
 unfold qer;by_cases hl:x.length=y.length
 ·have:((((qai x).length:Nat):Int) != (((qai y).length:Nat):Int))=false:=by simp[hl]
  rw[this,cond_false];refine q72 hl (fun k a b nx ha hb=>⟨a==b,beq_iff_eq,?_⟩) (fun nx=>by simp only[qik,qaz,qas,cond_false]) h
  have hk:=qb0 ha;simp only[qik,qaz,qa7 hk,cond_true,qal ha,qal hb,qah];rw[qcg (by omega)]
  first|(cases a==b<;>rfl)|(cases h:a==b<;>simp[h,bne])
 ·have:((((qai x).length:Nat):Int) != (((qai y).length:Nat):Int))=true:=by rw[qaz,qaz]; exact qwp.2 hl
  rw[this];exact⟨false,rfl,by simp; intro e; exact hl (congrArg _ e)⟩
theorem zfu {x1 x7:Int} {x2 x8:Bool} {x3 x9:Int} {x4 x10:List UInt8} {x6 x12:List (List UInt8)} {x5 x11:List Val} {N L:Option Bool} {a b:Bool} (hN:N=some a) (ha:a=true↔x6=x12) (hL:L=some b) (hb:b=true↔x5=x11) :
  ∃ r,(bnd (qaw (bif(bif(bif(x1==x7)then(x2==x8)else false)then(x3==x9)else false)then(x4==x10)else false) N) fun x13=>
   bnd (qaw (bif(bif(bif(bif(x1==x7)then(x2==x8)else false)then(x3==x9)else false)then(x4==x10)else false)then x13 else false) L) fun x14=>
   some (bif(bif(bif(bif(bif(x1==x7)then(x2==x8)else false)then(x3==x9)else false)then(x4==x10)else false)then x13 else false)then x14 else false))=some r /\
  (r=true↔Val.mk x1 x2 x3 x4 x5 x6=Val.mk x7 x8 x9 x10 x11 x12):=by
 subst hN hL;have e1:(x1==x7)=true↔x1=x7:=beq_iff_eq;have e2:(x2==x8)=true↔x2=x8:=beq_iff_eq;have e3:(x3==x9)=true↔x3=x9:=beq_iff_eq;have e4:(x4==x10)=true↔x4=x10:=beq_iff_eq;rw[Val.mk.injEq,← e1,← e2,← e3,← e4,← hb,← ha];cases(x1==x7)<;>cases(x2==x8)<;>cases(x3==x9)<;>cases(x4==x10)<;>cases a<;>cases b<;>exact⟨_,rfl,by simp⟩
theorem zdl:∀ n:Nat,n<=1073741824->(∀ v w,zah v<n->∃ b,qju n v w=some b/\(b=true↔v=w))/\(∀ l l',q25 l<n->∃ b,qjc n l l'=some b/\(b=true↔l=l')):=by
 intro n
 induction n with
 | zero=>intro _; exact⟨fun _ _ h=>by omega,fun _ _ h=>by omega⟩
 | succ n ih=>
  intro hn;obtain⟨ihv,ihl⟩:=ih (by omega);refine⟨fun v w hv=>?_,fun l l' hl=>?_⟩
  ·obtain⟨x1,x2,x3,x4,x5,x6⟩:=v
   obtain⟨x7,x8,x9,x10,x11,x12⟩:=w;have hb:q25 x5<n/\x6.length<n:=by
    have:=qeb x6;simp only[qz6]at this;simp only[zah]at hv;have h0:=qqi x5;omega
   obtain⟨a,ha1,ha2⟩:=qgr (y:=x12) hb.2 (by omega);obtain⟨b,hb1,hb2⟩:=ihl x5 x11 hb.1;simp only[qju,qvt];exact zfu ha1 ha2 hb1 hb2
  ·have hlen:=qqi l
   simp only[qjc,qpm];by_cases hll:l.length=l'.length
   ·have:((((Val.rows l).length:Nat):Int) != (((Val.rows l').length:Nat):Int))=false:=by simp[hll]
    rw[this,cond_false];refine q72 hll (fun k a b nx ha hb=>?_) (fun nx=>by simp only[qjv,qfm,qas,cond_false]) (by omega)
    have hk:=qb0 ha;obtain⟨r,hr,hr2⟩:=ihv a b (by have:=qyx (qbk ha); omega);refine⟨r,hr2,?_⟩;obtain⟨x1,x2,x3,x4,x5,x6⟩:=a;obtain⟨x7,x8,x9,x10,x11,x12⟩:=b;simp only[qjv,qfm,qa7 hk,cond_true,qal ha,qal hb,qah,hr];rw[qcg (by omega)];cases r<;>rfl
   ·have:((((Val.rows l).length:Nat):Int) != (((Val.rows l').length:Nat):Int))=true:=by rw[qfm,qfm]; exact qwp.2 hll
    rw[this];exact⟨false,rfl,by simp; intro e; exact hll (congrArg _ e)⟩
theorem q4k:∀ n:Nat,n<=1073741824->(∀ v w,zah v<n->∃ b,qhm n v w=some b/\(b=true↔v=w))/\(∀ l l',q25 l<n->∃ b,qam n l l'=some b/\(b=true↔l=l')):=by
 intro n
 induction n with
 | zero=>intro _; exact⟨fun _ _ h=>by omega,fun _ _ h=>by omega⟩
 | succ n ih=>
  intro hn;obtain⟨ihv,ihl⟩:=ih (by omega);refine⟨fun v w hv=>?_,fun l l' hl=>?_⟩
  ·obtain⟨x1,x2,x3,x4,x5,x6⟩:=v
   obtain⟨x7,x8,x9,x10,x11,x12⟩:=w;have hb:q25 x5<n/\x6.length<n:=by
    have:=qeb x6;simp only[qz6]at this;simp only[zah]at hv;have h0:=qqi x5;omega
   obtain⟨a,ha1,ha2⟩:=q3n (y:=x12) hb.2 (by omega);obtain⟨b,hb1,hb2⟩:=ihl x5 x11 hb.1;simp only[qhm,qsc];exact zfu ha1 ha2 hb1 hb2
  ·have hlen:=qqi l
   simp only[qam,qa3];by_cases hll:l.length=l'.length
   ·have:((((Val.rows l).length:Nat):Int) != (((Val.rows l').length:Nat):Int))=false:=by simp[hll]
    rw[this,cond_false];refine q72 hll (fun k a b nx ha hb=>?_) (fun nx=>by simp only[qat,qfm,qas,cond_false]) (by omega)
    have hk:=qb0 ha;obtain⟨r,hr,hr2⟩:=ihv a b (by have:=qyx (qbk ha); omega);refine⟨r,hr2,?_⟩;obtain⟨x1,x2,x3,x4,x5,x6⟩:=a;obtain⟨x7,x8,x9,x10,x11,x12⟩:=b;simp only[qat,qfm,qa7 hk,cond_true,qal ha,qal hb,qah,hr];rw[qcg (by omega)];cases r<;>rfl
   ·have:((((Val.rows l).length:Nat):Int) != (((Val.rows l').length:Nat):Int))=true:=by rw[qfm,qfm]; exact qwp.2 hll
    rw[this];exact⟨false,rfl,by simp; intro e; exact hll (congrArg _ e)⟩
end W
end
section
open Go Ax
namespace W
def qtt (s:List UInt8):Bool:=bif(!(s==([]:List UInt8)))then decide (((s.length:Nat):Int)<=64)else false
theorem qcj (n:Nat) (s:List UInt8):qkt n s=some (qtt s):=rfl
theorem qc0 (n:Nat) (s:List UInt8):qjy n s=some (qtt s):=by
 unfold qjy qtt;cases s with
 | nil=>rfl
 | cons a s=>rw[decide_eq_true (by simp only[List.length_cons]; omega)]; rfl
def zno (x1:List UInt8):Bool:=(bif(bif(bif(bif(x1==([99,111,117,110,116]:List UInt8))then true else(x1==([115,117,109]:List UInt8)))then true else(x1==([109,105,110]:List UInt8)))then true else(x1==([109,97,120]:List UInt8)))then true else(x1==([99,111,108,108,101,99,116]:List UInt8)))
theorem qb2 (n:Nat) (s:List UInt8):qjx n s=some (zno s):=rfl
theorem qbn (n:Nat) (s:List UInt8):qhs n s=some (zno s):=by
 unfold qhs qd4 zno;generalize (s==([99,111,117,110,116]:List UInt8))=a;generalize (s==([115,117,109]:List UInt8))=b;generalize (s==([109,105,110]:List UInt8))=c;generalize (s==([109,97,120]:List UInt8))=d;generalize (s==([99,111,108,108,101,99,116]:List UInt8))=e;cases a<;>cases b<;>cases c<;>cases d<;>cases e<;>rfl
def zpw (s:List UInt8):Int:=(qnn 0 s).getD 0
theorem qcu (n:Nat) (s:List UInt8):qnn n s=some (zpw s):=rfl
theorem qdb (n:Nat) (s:List UInt8):qs4 n s=some (zpw s):=by
 by_cases h1:s=[79,82]; · subst h1; rfl
 by_cases h2:s=[88,79,82]; · subst h2; rfl
 by_cases h3:s=[65,78,68]; · subst h3; rfl
 by_cases h4:s=[61]; · subst h4; rfl
 by_cases h5:s=[60,62]; · subst h5; rfl
 by_cases h6:s=[60]; · subst h6; rfl
 by_cases h7:s=[60,61]; · subst h7; rfl
 by_cases h8:s=[62]; · subst h8; rfl
 by_cases h9:s=[62,61]; · subst h9; rfl
 by_cases h10:s=[73,78]; · subst h10; rfl
 by_cases h11:s=[43]; · subst h11; rfl
 by_cases h12:s=[45]; · subst h12; rfl
 by_cases h13:s=[42]; · subst h13; rfl
 by_cases h14:s=[47]; · subst h14; rfl
 by_cases h15:s=[37]; · subst h15; rfl
 simp only[zpw,qnn,Option.getD_some,zmi,qs4,qfb,qn2,qle,beq_eq_false_iff_ne.2 h1,beq_eq_false_iff_ne.2 h2,beq_eq_false_iff_ne.2 h3,beq_eq_false_iff_ne.2 h4,beq_eq_false_iff_ne.2 h5,beq_eq_false_iff_ne.2 h6,beq_eq_false_iff_ne.2 h7,beq_eq_false_iff_ne.2 h8,beq_eq_false_iff_ne.2 h9,beq_eq_false_iff_ne.2 h10,beq_eq_false_iff_ne.2 h11,beq_eq_false_iff_ne.2 h12,beq_eq_false_iff_ne.2 h13,beq_eq_false_iff_ne.2 h14,beq_eq_false_iff_ne.2 h15,cond_false];rfl
theorem zqw (n:Nat) {x1:Int} (h:x1<0) (x2:Bool) (x3:Int) (x4:List UInt8) (x5:List Val) (x6:List (List UInt8)) (d c:Int):qjw (n+1) ⟨x1,x2,x3,x4,x5,x6⟩ d c=some (IntKind.i64.wrap (c+1),false):=by
 simp only[qjw,qu8,decide_eq_true h];have:∀ a b d:Bool,(bif(bif(bif a then true else b)then true else true)then true else d)=true:=by decide
 rw[this];rfl
def zqr (x1 x3:Int):Bool:=bif(bif(decide (x1<=1))then true else(bif(x1==2)then(decide (x3≥0))else false))then true else(x1==3)
theorem zr5 {n:Nat} (hn:n<=1073741824) {x1:Int} {x2:Bool} {x3:Int} {x4:List UInt8} {x5:List Val} {x6:List (List UInt8)} (hv:zah ⟨x1,x2,x3,x4,x5,x6⟩<n) :
  ∃ b:Bool,qml n ⟨x1,x2,x3,x4,x5,x6⟩=some (b&&zqr x1 x3)/\qs0 n ⟨x1,x2,x3,x4,x5,x6⟩=some b/\(b=true->0<=x1):=by
 obtain⟨b,h1,h2⟩:=zn4 hn hv;refine⟨b,?_,h2,?_⟩
 ·simp only[qml,h1,qah]
  unfold zqr;cases b<;>rfl
 ·intro hb
  apply Decidable.byContradiction;intro hx;obtain⟨n,rfl⟩:∃ m,n=m+1:=⟨n - 1,by omega⟩;simp only[qs0,zqw n (show x1<0 by omega),qah,Option.some.injEq]at h2;rw[hb]at h2;cases h2
theorem zqs {x1:Int} (h:0<=x1) (x3:Int):(bif(bif(bif(x1==(0:Int))then true else(x1==(1:Int)))then true else(bif(x1==(2:Int))then(decide (x3≥(0:Int)))else false))then true else(x1==(3:Int)))=zqr x1 x3:=by
 unfold zqr;have:decide (x1<=1)=(bif(x1==(0:Int))then true else(x1==(1:Int))):=by
  rw[Bool.eq_iff_iff]; simp; omega
 rw[this]
theorem zqi (n:Nat) (name:List UInt8) (args:List qaa) (ks:List (List UInt8)) (hn:n<=1073741824) (h:ks.length<n) :
  qan (qjg n ks name args) n (0:Int)=some (ks.all qtt&&(name==[]&&args.length==ks.length)):=by
 have e:=qcy (B:=qjg n ks name args) (fun k=>((k:Nat):Int)) (l:=ks) (fun s=>if qtt s then none else some false) (rest:=some (name==[]&&args.length==ks.length))
  (fun k x nx hx=>by
   have hk:=qb0 hx;simp only[qjg,qaz,qa7 hk,cond_true,qal hx,qah,qc0];rw[qcg (by omega)];cases qtt x<;>rfl)
  (fun nx=>by
   simp only[qjg,qaz,qaq,qas,cond_false];have:(((args.length:Nat):Int)==((ks.length:Nat):Int))=(args.length==ks.length):=by
    rw[Bool.eq_iff_iff]; simp[Int.natCast_inj]
   rw[this];cases name==[]<;>rfl) h
 refine Eq.trans e ?_;have:∀ l:List (List UInt8),∀ r:Bool,orE (qew (fun s=>if qtt s then none else some false) l) (some r)=some (l.all qtt&&r):=by
  intro l r
  induction l with
  | nil=>rfl
  | cons a l ih=>
   simp only[qew,List.all_cons];cases qtt a with
   | true=>simpa using ih
   | false=>rfl
 exact this ks _
end W
end
section
open Go Ax
namespace W
def arS (k:Int) (L:Int):Bool:=bif decide (k≥0)then L==k else true
theorem zhp {n:Nat} (hn:n<=1073741824) (h28:28<n) {op:Int} {name:List UInt8} {a1:Int} {a2:Bool} {a3:Int} {a4:List UInt8} {a5:List Val} {a6:List (List UInt8)} {names:List (List UInt8)} {args:List qaa}
  (hv:zah ⟨a1,a2,a3,a4,a5,a6⟩<n) (hname:name.length<n) (hnames:names.length<n) :
  ∃ k ok b,qcd n ⟨op,name,⟨a1,a2,a3,a4,a5,a6⟩,names,args⟩=some (k,ok)/\qdg n ⟨op,name,⟨a1,a2,a3,a4,a5,a6⟩,names,args⟩=some b /\
   b=(ok&&arS k (args.length:Int)&&(bif op==6 then names.all qtt else true)):=by
 have hp1:=qij (s:=name) hname hn;have hp2:=qjd (s:=name) hname h28 hn;by_cases h1:op=1
 ·subst h1
  obtain⟨m,hm1,hm2,hm3⟩:=zr5 hn hv;simp only[qcd,qdg,qaq,hm1,hm2];cases hnm:name==[]with
  | false=>exact⟨0,false,false,rfl,rfl,rfl⟩
  | true=>
   refine⟨0,m&&zqr a1 a3,(args.length:Int)==0&&(m&&zqr a1 a3),rfl,?_,?_⟩
   ·cases hL:((args.length:Nat):Int)==0 with
    | false=>rfl
    | true=>
     cases m with
     | false=>rfl
     | true=>
      have:=zqs (hm3 rfl) a3;simp only[beq_self_eq_true,cond_true,qd6,qah,this,Bool.true_and]
   ·show _=(m&&zqr a1 a3&&((args.length:Int)==0)&&true)
    rw[Bool.and_true,Bool.and_comm]
 by_cases h2:op=2
 ·subst h2
  simp only[show((2:Int)==1)=false from rfl,show((2:Int)==2)=true from rfl,show((2:Int)==3)=false from rfl,show((2:Int)==4)=false from rfl,show((2:Int)==5)=false from rfl,show((2:Int)==6)=false from rfl,show((2:Int)==7)=false from rfl,show((2:Int)==8)=false from rfl,show((2:Int)==9)=false from rfl,show((2:Int)==10)=false from rfl,show((2:Int)==11)=false from rfl,show((2:Int)==12)=false from rfl,show((2:Int)==13)=false from rfl,show((2:Int)==14)=false from rfl,show((2:Int)==15)=false from rfl,cond_true,cond_false,qcd,qbs,qbh,qdg,qci,qb1,qaq,qaz,qcj,qc0,qcu,qdb,qbn,qb2,hp1,hp2,qah];refine⟨0,qdw name,_,rfl,?_,rfl⟩;show _=some (qdw name&&(((args.length:Nat):Int)==0)&&true);cases((args.length:Nat):Int)==0<;>cases qdw name<;>rfl
 by_cases h3:op=3
 ·subst h3
  simp only[show((3:Int)==1)=false from rfl,show((3:Int)==2)=false from rfl,show((3:Int)==3)=true from rfl,show((3:Int)==4)=false from rfl,show((3:Int)==5)=false from rfl,show((3:Int)==6)=false from rfl,show((3:Int)==7)=false from rfl,show((3:Int)==8)=false from rfl,show((3:Int)==9)=false from rfl,show((3:Int)==10)=false from rfl,show((3:Int)==11)=false from rfl,show((3:Int)==12)=false from rfl,show((3:Int)==13)=false from rfl,show((3:Int)==14)=false from rfl,show((3:Int)==15)=false from rfl,cond_true,cond_false,qcd,qbs,qbh,qdg,qci,qb1,qaq,qaz,qcj,qc0,qcu,qdb,qbn,qb2,hp1,hp2,qah];refine⟨0,qdw name,_,rfl,?_,rfl⟩;show _=some (qdw name&&(((args.length:Nat):Int)==0)&&true);cases((args.length:Nat):Int)==0<;>cases qdw name<;>rfl
 by_cases h4:op=4
 ·subst h4
  simp only[show((4:Int)==1)=false from rfl,show((4:Int)==2)=false from rfl,show((4:Int)==3)=false from rfl,show((4:Int)==4)=true from rfl,show((4:Int)==5)=false from rfl,show((4:Int)==6)=false from rfl,show((4:Int)==7)=false from rfl,show((4:Int)==8)=false from rfl,show((4:Int)==9)=false from rfl,show((4:Int)==10)=false from rfl,show((4:Int)==11)=false from rfl,show((4:Int)==12)=false from rfl,show((4:Int)==13)=false from rfl,show((4:Int)==14)=false from rfl,show((4:Int)==15)=false from rfl,cond_true,cond_false,qcd,qbs,qbh,qdg,qci,qb1,qaq,qaz,qcj,qc0,qcu,qdb,qbn,qb2,hp1,hp2,qah];refine⟨1,qtt name,_,rfl,?_,rfl⟩;show _=some (qtt name&&(((args.length:Nat):Int)==1)&&true);cases((args.length:Nat):Int)==1<;>cases qtt name<;>rfl
 by_cases h5:op=5
 ·subst h5
  simp only[show((5:Int)==1)=false from rfl,show((5:Int)==2)=false from rfl,show((5:Int)==3)=false from rfl,show((5:Int)==4)=false from rfl,show((5:Int)==5)=true from rfl,show((5:Int)==6)=false from rfl,show((5:Int)==7)=false from rfl,show((5:Int)==8)=false from rfl,show((5:Int)==9)=false from rfl,show((5:Int)==10)=false from rfl,show((5:Int)==11)=false from rfl,show((5:Int)==12)=false from rfl,show((5:Int)==13)=false from rfl,show((5:Int)==14)=false from rfl,show((5:Int)==15)=false from rfl,cond_true,cond_false,qcd,qbs,qbh,qdg,qci,qb1,qaq,qaz,qcj,qc0,qcu,qdb,qbn,qb2,hp1,hp2,qah];refine⟨-1,name==[],_,rfl,?_,rfl⟩;show _=some ((name==[])&&true&&true);cases name==[]<;>rfl
 by_cases h6:op=6
 ·subst h6
  simp only[show((6:Int)==1)=false from rfl,show((6:Int)==2)=false from rfl,show((6:Int)==3)=false from rfl,show((6:Int)==4)=false from rfl,show((6:Int)==5)=false from rfl,show((6:Int)==6)=true from rfl,show((6:Int)==7)=false from rfl,show((6:Int)==8)=false from rfl,show((6:Int)==9)=false from rfl,show((6:Int)==10)=false from rfl,show((6:Int)==11)=false from rfl,show((6:Int)==12)=false from rfl,show((6:Int)==13)=false from rfl,show((6:Int)==14)=false from rfl,show((6:Int)==15)=false from rfl,cond_true,cond_false,qcd,qbs,qbh,qdg,qci,qb1,qaq,qaz,qcj,qc0,qcu,qdb,qbn,qb2,hp1,hp2,qah];refine⟨(names.length:Int),name==[],_,rfl,zqi n name args names hn hnames,?_⟩;have e1:arS (names.length:Int) (args.length:Int)=(args.length==names.length):=by
   unfold arS;rw[decide_eq_true (by omega),cond_true,Bool.eq_iff_iff]; simp[Int.natCast_inj]
  rw[e1];cases names.all qtt<;>cases name==[]<;>cases args.length==names.length<;>rfl
 by_cases h7:op=7
 ·subst h7
  simp only[show((7:Int)==1)=false from rfl,show((7:Int)==2)=false from rfl,show((7:Int)==3)=false from rfl,show((7:Int)==4)=false from rfl,show((7:Int)==5)=false from rfl,show((7:Int)==6)=false from rfl,show((7:Int)==7)=true from rfl,show((7:Int)==8)=false from rfl,show((7:Int)==9)=false from rfl,show((7:Int)==10)=false from rfl,show((7:Int)==11)=false from rfl,show((7:Int)==12)=false from rfl,show((7:Int)==13)=false from rfl,show((7:Int)==14)=false from rfl,show((7:Int)==15)=false from rfl,cond_true,cond_false,qcd,qbs,qbh,qdg,qci,qb1,qaq,qaz,qcj,qc0,qcu,qdb,qbn,qb2,hp1,hp2,qah];refine⟨2,name==[],_,rfl,?_,rfl⟩;show _=some ((name==[])&&(((args.length:Nat):Int)==2)&&true);cases((args.length:Nat):Int)==2<;>cases name==[]<;>rfl
 by_cases h8:op=8
 ·subst h8
  simp only[show((8:Int)==1)=false from rfl,show((8:Int)==2)=false from rfl,show((8:Int)==3)=false from rfl,show((8:Int)==4)=false from rfl,show((8:Int)==5)=false from rfl,show((8:Int)==6)=false from rfl,show((8:Int)==7)=false from rfl,show((8:Int)==8)=true from rfl,show((8:Int)==9)=false from rfl,show((8:Int)==10)=false from rfl,show((8:Int)==11)=false from rfl,show((8:Int)==12)=false from rfl,show((8:Int)==13)=false from rfl,show((8:Int)==14)=false from rfl,show((8:Int)==15)=false from rfl,cond_true,cond_false,qcd,qbs,qbh,qdg,qci,qb1,qaq,qaz,qcj,qc0,qcu,qdb,qbn,qb2,hp1,hp2,qah];refine⟨1,name==[],_,rfl,?_,rfl⟩;show _=some ((name==[])&&(((args.length:Nat):Int)==1)&&true);cases((args.length:Nat):Int)==1<;>cases name==[]<;>rfl
 by_cases h9:op=9
 ·subst h9
  simp only[show((9:Int)==1)=false from rfl,show((9:Int)==2)=false from rfl,show((9:Int)==3)=false from rfl,show((9:Int)==4)=false from rfl,show((9:Int)==5)=false from rfl,show((9:Int)==6)=false from rfl,show((9:Int)==7)=false from rfl,show((9:Int)==8)=false from rfl,show((9:Int)==9)=true from rfl,show((9:Int)==10)=false from rfl,show((9:Int)==11)=false from rfl,show((9:Int)==12)=false from rfl,show((9:Int)==13)=false from rfl,show((9:Int)==14)=false from rfl,show((9:Int)==15)=false from rfl,cond_true,cond_false,qcd,qbs,qbh,qdg,qci,qb1,qaq,qaz,qcj,qc0,qcu,qdb,qbn,qb2,hp1,hp2,qah];refine⟨1,name==[],_,rfl,?_,rfl⟩;show _=some ((name==[])&&(((args.length:Nat):Int)==1)&&true);cases((args.length:Nat):Int)==1<;>cases name==[]<;>rfl
 by_cases h11:op=11
 ·subst h11
  simp only[show((11:Int)==1)=false from rfl,show((11:Int)==2)=false from rfl,show((11:Int)==3)=false from rfl,show((11:Int)==4)=false from rfl,show((11:Int)==5)=false from rfl,show((11:Int)==6)=false from rfl,show((11:Int)==7)=false from rfl,show((11:Int)==8)=false from rfl,show((11:Int)==9)=false from rfl,show((11:Int)==10)=false from rfl,show((11:Int)==11)=true from rfl,show((11:Int)==12)=false from rfl,show((11:Int)==13)=false from rfl,show((11:Int)==14)=false from rfl,show((11:Int)==15)=false from rfl,cond_true,cond_false,qcd,qbs,qbh,qdg,qci,qb1,qaq,qaz,qcj,qc0,qcu,qdb,qbn,qb2,hp1,hp2,qah];refine⟨1,name==[],_,rfl,?_,rfl⟩;show _=some ((name==[])&&(((args.length:Nat):Int)==1)&&true);cases((args.length:Nat):Int)==1<;>cases name==[]<;>rfl
 by_cases h12:op=12
 ·subst h12
  simp only[show((12:Int)==1)=false from rfl,show((12:Int)==2)=false from rfl,show((12:Int)==3)=false from rfl,show((12:Int)==4)=false from rfl,show((12:Int)==5)=false from rfl,show((12:Int)==6)=false from rfl,show((12:Int)==7)=false from rfl,show((12:Int)==8)=false from rfl,show((12:Int)==9)=false from rfl,show((12:Int)==10)=false from rfl,show((12:Int)==11)=false from rfl,show((12:Int)==12)=true from rfl,show((12:Int)==13)=false from rfl,show((12:Int)==14)=false from rfl,show((12:Int)==15)=false from rfl,cond_true,cond_false,qcd,qbs,qbh,qdg,qci,qb1,qaq,qaz,qcj,qc0,qcu,qdb,qbn,qb2,hp1,hp2,qah];refine⟨1,name==[],_,rfl,?_,rfl⟩;show _=some ((name==[])&&(((args.length:Nat):Int)==1)&&true);cases((args.length:Nat):Int)==1<;>cases name==[]<;>rfl
 by_cases h10:op=10
 ·subst h10
  simp only[show((10:Int)==1)=false from rfl,show((10:Int)==2)=false from rfl,show((10:Int)==3)=false from rfl,show((10:Int)==4)=false from rfl,show((10:Int)==5)=false from rfl,show((10:Int)==6)=false from rfl,show((10:Int)==7)=false from rfl,show((10:Int)==8)=false from rfl,show((10:Int)==9)=false from rfl,show((10:Int)==10)=true from rfl,show((10:Int)==11)=false from rfl,show((10:Int)==12)=false from rfl,show((10:Int)==13)=false from rfl,show((10:Int)==14)=false from rfl,show((10:Int)==15)=false from rfl,cond_true,cond_false,qcd,qbs,qbh,qdg,qci,qb1,qaq,qaz,qcj,qc0,qcu,qdb,qbn,qb2,hp1,hp2,qah];refine⟨2,decide (zpw name>0),_,rfl,?_,rfl⟩;show _=some (decide (zpw name>0)&&(((args.length:Nat):Int)==2)&&true);cases((args.length:Nat):Int)==2 with
  | false=>cases decide (zpw name>0)<;>rfl
  | true=>
   show some (decide (zpw name>0))=_;rw[Bool.and_true,Bool.and_true]
 by_cases h13:op=13
 ·subst h13
  simp only[show((13:Int)==1)=false from rfl,show((13:Int)==2)=false from rfl,show((13:Int)==3)=false from rfl,show((13:Int)==4)=false from rfl,show((13:Int)==5)=false from rfl,show((13:Int)==6)=false from rfl,show((13:Int)==7)=false from rfl,show((13:Int)==8)=false from rfl,show((13:Int)==9)=false from rfl,show((13:Int)==10)=false from rfl,show((13:Int)==11)=false from rfl,show((13:Int)==12)=false from rfl,show((13:Int)==13)=true from rfl,show((13:Int)==14)=false from rfl,show((13:Int)==15)=false from rfl,cond_true,cond_false,qcd,qbs,qbh,qdg,qci,qb1,qaq,qaz,qcj,qc0,qcu,qdb,qbn,qb2,hp1,hp2,qah];refine⟨-1,qdw name&&!(zno name),qdw name&&!(zno name),?_,?_,?_⟩
  ·cases qdw name<;>rfl
  ·cases qdw name<;>rfl
  ·show _=((qdw name&&!(zno name))&&true&&true)
   cases qdw name&&!(zno name)<;>rfl
 by_cases h14:op=14
 ·subst h14
  simp only[show((14:Int)==1)=false from rfl,show((14:Int)==2)=false from rfl,show((14:Int)==3)=false from rfl,show((14:Int)==4)=false from rfl,show((14:Int)==5)=false from rfl,show((14:Int)==6)=false from rfl,show((14:Int)==7)=false from rfl,show((14:Int)==8)=false from rfl,show((14:Int)==9)=false from rfl,show((14:Int)==10)=false from rfl,show((14:Int)==11)=false from rfl,show((14:Int)==12)=false from rfl,show((14:Int)==13)=false from rfl,show((14:Int)==14)=true from rfl,show((14:Int)==15)=false from rfl,cond_true,cond_false,qcd,qbs,qbh,qdg,qci,qb1,qaq,qaz,qcj,qc0,qcu,qdb,qbn,qb2,hp1,hp2,qah];cases hL:((args.length:Nat):Int)==0 with
  | true=>
   refine⟨0,name==[99,111,117,110,116],name==[99,111,117,110,116],rfl,?_,?_⟩
   ·have:(((args.length:Nat):Int)==1)=false:=by
     have:=beq_iff_eq.1 hL;rw[this]; rfl
    rw[this];cases name==[99,111,117,110,116]<;>rfl
   ·show _=((name==[99,111,117,110,116])&&(((args.length:Nat):Int)==0)&&true)
    rw[hL];cases name==[99,111,117,110,116]<;>rfl
  | false=>
   refine⟨1,zno name,_,rfl,?_,rfl⟩;show _=some (zno name&&(((args.length:Nat):Int)==1)&&true);cases((args.length:Nat):Int)==1<;>cases zno name<;>rfl
 by_cases h15:op=15
 ·subst h15
  simp only[show((15:Int)==1)=false from rfl,show((15:Int)==2)=false from rfl,show((15:Int)==3)=false from rfl,show((15:Int)==4)=false from rfl,show((15:Int)==5)=false from rfl,show((15:Int)==6)=false from rfl,show((15:Int)==7)=false from rfl,show((15:Int)==8)=false from rfl,show((15:Int)==9)=false from rfl,show((15:Int)==10)=false from rfl,show((15:Int)==11)=false from rfl,show((15:Int)==12)=false from rfl,show((15:Int)==13)=false from rfl,show((15:Int)==14)=false from rfl,show((15:Int)==15)=true from rfl,cond_true,cond_false,qcd,qbs,qbh,qdg,qci,qb1,qaq,qaz,qcj,qc0,qcu,qdb,qbn,qb2,hp1,hp2,qah];have e15:∀ X:Option qaa,(((args.length:Nat):Int)==1)=true->∃ x,idx args 0=some x:=by
   intro _ h;cases args with
   | nil=>cases h
   | cons x l=>exact⟨x,rfl⟩
  cases hL:((args.length:Nat):Int)==1 with
  | false=>
   refine⟨1,false,false,?_,?_,?_⟩
   ·cases qtt name<;>rfl
   ·rfl
   ·rfl
  | true=>
   obtain⟨x,hx⟩:=e15 none hL;obtain⟨x1,x2,⟨x3,x4,x5,x6,x7,x8⟩,x9,x10⟩:=x;rw[hx];refine⟨1,qtt name&&(x1==2),_,?_,?_,rfl⟩
   ·cases qtt name<;>rfl
   ·show _=some (qtt name&&(x1==2)&&(((args.length:Nat):Int)==1)&&true)
    rw[hL];cases qtt name with
    | false=>rfl
    | true=>
     show some (x1==2)=_;rw[Bool.and_true,Bool.and_true,Bool.true_and]
 simp only[beq_eq_false_iff_ne.2 h1,beq_eq_false_iff_ne.2 h2,beq_eq_false_iff_ne.2 h3,beq_eq_false_iff_ne.2 h4,beq_eq_false_iff_ne.2 h5,beq_eq_false_iff_ne.2 h6,beq_eq_false_iff_ne.2 h7,beq_eq_false_iff_ne.2 h8,beq_eq_false_iff_ne.2 h9,beq_eq_false_iff_ne.2 h10,beq_eq_false_iff_ne.2 h11,beq_eq_false_iff_ne.2 h12,beq_eq_false_iff_ne.2 h13,beq_eq_false_iff_ne.2 h14,beq_eq_false_iff_ne.2 h15,cond_false,qcd,qbs,qbh,qdg,qci,qb1,qaq,qaz,qcj,qc0,qcu,qdb,qbn,qb2,hp1,hp2,qah];exact⟨0,false,false,rfl,rfl,rfl⟩
end W
end
section
open Go Ax
namespace W
theorem zr1 (k L:Int):(bif decide (k≥0)then L != k else false)=!(arS k L):=by
 unfold arS;cases decide (k≥0)with
 | false=>rfl
 | true=>rfl
theorem zjp {k L:Int} {D ok X S q nm A r:Bool} {op1:Bool} (hA:nm=false->A=true) :
  (bnd (some (k,ok)) fun⟨x12,x13⟩=>
   bnd (qaw ((!(bif(bif(!x13)then true else D)then true else(bif decide (x12≥0)then L != x12 else false)))&&X) (some S)) fun x14=>
   bif(bif(bif(bif(bif(!x13)then true else D)then true else(bif decide (x12≥0)then L != x12 else false))then true else(bif X then(!x14)else false))then true else(bif !q then nm else false))then some false else some (A&&r))
   = some (!D&&(ok&&arS k L&&(bif q then A else true))&&(!X||S)&&!(bif !q then nm else false)&&r) /\
  (bnd (qaw (!D) (some (ok&&arS k L&&(bif q then A else true)))) fun x12=>
   bnd (qaw ((!(bif D then true else(!x12)))&&X) (some S)) fun x13=>
   bif(bif(bif(bif D then true else(!x12))then true else(bif X then(!x13)else false))then true else(bif !q then nm else false))then some false else some r)
   = some (!D&&(ok&&arS k L&&(bif q then A else true))&&(!X||S)&&!(bif !q then nm else false)&&r):=by
 simp only[qah,zr1];generalize arS k L=ar;cases nm with
 | false=>
  have:=hA rfl;subst this;cases D<;>cases ok<;>cases X<;>cases S<;>cases q<;>cases ar<;>cases r<;>exact⟨rfl,rfl⟩
 | true=>cases D<;>cases ok<;>cases X<;>cases S<;>cases q<;>cases A<;>cases ar<;>cases r<;>exact⟨rfl,rfl⟩
def q2e:Val:=⟨0,false,0,[],[],[]⟩
theorem zi1 (n:Nat) (l:List qaa) (g g':qaa->Int->Option Bool) (d:Int) (hn:n<=1073741824)
  (hg:∀ x∈l,∃ b,g x (IntKind.i64.wrap (d - 1))=some b/\g' x (IntKind.i64.wrap (d - 1))=some b/\(b=true->WfE x)):∀ m k:Nat,k<=l.length->l.length - k<m->l.length<n ->
  ∃ r,qan (qg5 n l g d) m (k:Int)=some r/\qan (qkn n l g' d) m (k:Int)=some r/\(r=true->∀ x∈l.drop k,WfE x):=by
 intro m
 induction m with
 | zero=>intro k _ h; omega
 | succ m ih=>
  intro k hk hm hl;rw[qbg,qbg];by_cases he:k=l.length
  ·subst he
   refine⟨true,?_,?_,?_⟩
   ·simp only[qg5,qaq,qas,cond_false]
   ·simp only[qkn,qaq,qas,cond_false]
   ·intro _ x hx
    rw[List.drop_length]at hx;cases hx
  ·have hkl:k<l.length:=by omega
   have hx:=List.getElem?_eq_getElem hkl;rw[List.drop_eq_getElem_cons hkl];generalize l[k]=x at hx;obtain⟨b,h1,h2,h3⟩:=hg x (qbk hx);obtain⟨r,h4,h5,h6⟩:=ih (k+1) (by omega) (by omega) hl;obtain⟨x1,x2,⟨x3,x4,x5,x6,x7,x8⟩,x9,x10⟩:=x;simp only[qg5,qkn,qaq,qa7 hkl,cond_true,qal hx,qah,h1,h2];rw[qcg (by omega)];cases b with
   | false=>exact⟨false,rfl,rfl,fun h=>by cases h⟩
   | true=>
    refine⟨r,h4,h5,fun hr y hy=>?_⟩;rcases List.mem_cons.1 hy with rfl|hy
    ·exact h3 rfl
    ·exact h6 hr y hy
theorem zjg (n:Nat) (ks:List (List UInt8)) (args:List qaa) (g:qaa->Int->Option Bool) (d:Int) (hn:n<=1073741824) (h:ks.length<n) {r:Bool}
  (hr:qan (qg5 n args g d) n (0:Int)=some r):qan (qg4 n ks args g d) n (0:Int)=some (ks.all qtt&&r):=by
 have e:=qcy (B:=qg4 n ks args g d) (fun k=>((k:Nat):Int)) (l:=ks) (fun s=>if qtt s then none else some false) (rest:=some r)
  (fun k x nx hx=>by
   have hk:=qb0 hx;simp only[qg4,qaz,qa7 hk,cond_true,qal hx,qah,qcj];rw[qcg (by omega)];cases qtt x<;>rfl)
  (fun nx=>by
   simp only[qg4,qaz,qas,cond_false,hr]) h
 refine Eq.trans e ?_;have:∀ l:List (List UInt8),∀ r:Bool,orE (qew (fun s=>if qtt s then none else some false) l) (some r)=some (l.all qtt&&r):=by
  intro l r
  induction l with
  | nil=>rfl
  | cons a l ih=>
   simp only[qew,List.all_cons];cases qtt a with
   | true=>simpa using ih
   | false=>rfl
 exact this ks _
theorem zo2:∀ n:Nat,n<=1073741824->∀ x d,40+qki x<n->∃ b,qcz n x d=some b/\qm1 n x d=some b/\(b=true->WfE x):=by
 intro n
 induction n with
 | zero=>intro _ _ _ h; omega
 | succ n ih=>
  intro hn x d hx;obtain⟨op,name,⟨a1,a2,a3,a4,a5,a6⟩,names,args⟩:=x;have hb:40+qf1 args<n/\names.length<n/\name.length<n/\zah ⟨a1,a2,a3,a4,a5,a6⟩<n:=by
   have:=qeb names;have h0:=qdx args;simp only[qki]at hx;omega
  have hl:=qdx args;obtain⟨k,ok,b,hs1,hs2,hs3⟩:=zhp (n:=n) (op:=op) (name:=name) (args:=args) (by omega) (by omega) hb.2.2.2 hb.2.2.1 hb.2.1;obtain⟨s1,hv1,hv2⟩:=(q4k n (by omega)).1 ⟨a1,a2,a3,a4,a5,a6⟩ q2e hb.2.2.2;obtain⟨s2,hw1,hw2⟩:=(zdl n (by omega)).1 ⟨a1,a2,a3,a4,a5,a6⟩ q2e hb.2.2.2;have hs12:s2=s1:=by
   rw[Bool.eq_iff_iff,hw2,hv2]
  subst hs12;obtain⟨r,hr1,hr2,hr3⟩:=zi1 n args (qcz n) (qm1 n) d (by omega) (fun x hm=>ih (by omega) x _ (by have:=qha hm; omega)) n 0 (by omega) (by omega) (by omega)
  have hnl:=zjg n names args (qcz n) d (by omega) hb.2.1 hr1;have hr2':qan (qkn n args (qm1 n) d) n (0:Int)=some r:=hr2;unfold q2e at hv1 hw1;have hA:decide ((((qai names).length:Nat):Int)>0)=false->names.all qtt=true:=by
   intro h;cases names with
   | nil=>rfl
   | cons a l=>rw[qaz]at h; simp at h
  obtain⟨c1,c2⟩:=zjp (k:=k) (L:=(((qaa.rows args).length:Nat):Int)) (D:=decide (d<1)) (ok:=ok) (X:=op != 1) (S:=s2) (q:=op==6) (nm:=decide ((((qai names).length:Nat):Int)>0)) (A:=names.all qtt) (r:=r) (op1:=true) hA;refine⟨_,Eq.trans ?_ c1,Eq.trans ?_ c2,?_⟩
  ·simp only[qcz,qn0]
   rw[hs1,hv1,hnl];rfl
  ·simp only[qm1,qvu]
   rw[hs2,hw1,hr2',hs3,← qaq args];rfl
  ·intro h
   simp only[Bool.and_eq_true]at h;obtain⟨⟨⟨⟨_,⟨_,har⟩,_⟩,_⟩,hM⟩,hr⟩:=h;refine .mk (fun h6=>?_) (fun h10=>?_) (fun x hm=>hr3 hr x hm)
   ·cases names with
    | nil=>rfl
    | cons a l=>
     rw[beq_eq_false_iff_ne.2 h6,decide_eq_true (by rw[qaz]; simp only[List.length_cons]; omega)]at hM;cases hM
   ·subst h10
    have:qcd n ⟨10,name,⟨a1,a2,a3,a4,a5,a6⟩,names,args⟩=some (2,decide (zpw name>0)):=rfl;rw[this,Option.some.injEq,Prod.mk.injEq]at hs1;obtain⟨rfl,_⟩:=hs1;have h2:((((qaa.rows args).length:Nat):Int)==2)=true:=har;have h3:=beq_iff_eq.1 h2;rw[qaq]at h3;omega
end W
end
section
open Go Ax
namespace W
theorem qy5 {n:Nat} (hn:n<=1073741824) {x:qaa} (hx:40+qki x<n):∃ b,qcz n x 32=some b/\qfe n x=some b/\(b=true->WfE x):=by
 obtain⟨b,h1,h2,h3⟩:=zo2 n hn x 32 hx;obtain⟨x1,x2,⟨x3,x4,x5,x6,x7,x8⟩,x9,x10⟩:=x;exact⟨b,h1,by simp only[qfe,h2,qah],h3⟩
theorem zhj (n:Nat) (keys:List (List UInt8)) (vals:List qaa) (hn:n<=1073741824) (hlen:keys.length=vals.length) (hv:40+qf1 vals<n):∀ m k:Nat,k<=keys.length->keys.length - k<m ->
  ∃ r,qan (qfp n keys vals) m (k:Int)=some r/\qan (qhn n keys vals) m (k:Int)=some r/\(r=true->∀ x∈vals.drop k,WfE x):=by
 have hl:=qdx vals;intro m
 induction m with
 | zero=>intro k _ h; omega
 | succ m ih=>
  intro k hk hm;rw[qbg,qbg];by_cases he:k=keys.length
  ·subst he
   refine⟨true,?_,?_,?_⟩
   ·simp only[qfp,qaz,qas,cond_false]
   ·simp only[qhn,qaz,qas,cond_false]
   ·intro _ x hx
    rw[hlen,List.drop_length]at hx;cases hx
  ·have hkl:k<keys.length:=by omega
   have hkv:k<vals.length:=by omega
   have hy:=List.getElem?_eq_getElem hkl;have hx:=List.getElem?_eq_getElem hkv;rw[List.drop_eq_getElem_cons hkv];generalize vals[k]=x at hx;generalize keys[k]=s at hy;obtain⟨b,h1,h2,h3⟩:=qy5 hn (x:=x) (by have:=qha (qbk hx); omega);obtain⟨r,h4,h5,h6⟩:=ih (k+1) (by omega) (by omega);obtain⟨x1,x2,⟨x3,x4,x5,x6,x7,x8⟩,x9,x10⟩:=x;simp only[qfp,qhn,qaz,qa7 hkl,cond_true,qal hx,qal hy,qah,qcj,qc0];rw[qcg (by omega)];cases qtt s with
   | false=>exact⟨false,rfl,rfl,fun h=>by cases h⟩
   | true=>
    simp only[Bool.not_true,Bool.not_false,qd6,qah,h1,h2,cond_false];cases b with
    | false=>exact⟨false,rfl,rfl,fun h=>by cases h⟩
    | true=>
     refine⟨r,h4,h5,fun hr y hy=>?_⟩;rcases List.mem_cons.1 hy with rfl|hy
     ·exact h3 rfl
     ·exact h6 hr y hy
theorem zfn {n:Nat} (hn:n<=1073741824) {keys:List (List UInt8)} {vals:List qaa} (hk:keys.length<n) (hv:40+qf1 vals<n) :
  ∃ b,qhw n ⟨keys,vals⟩=some b/\qlg n keys vals=some b/\(b=true->keys.length=vals.length/\∀ x∈vals,WfE x):=by
 simp only[qhw,qlg];by_cases hl:keys.length=vals.length
 ·have:((((qai keys).length:Nat):Int) != (((qaa.rows vals).length:Nat):Int))=false:=by simp[hl]
  rw[this,cond_false,cond_false];obtain⟨r,h1,h2,h3⟩:=zhj n keys vals hn hl hv n 0 (by omega) (by omega);exact⟨r,h1,h2,fun hr=>⟨hl,h3 hr⟩⟩
 ·have:((((qai keys).length:Nat):Int) != (((qaa.rows vals).length:Nat):Int))=true:=by rw[qaz,qaq]; exact qwp.2 hl
  rw[this,cond_true,cond_true];exact⟨false,rfl,rfl,fun h=>by cases h⟩
theorem zdi {n:Nat} (hn:n<=1073741824) {d:qae} (h:42+qia d<n) (nx:Int->Option Bool) (k:Int) :
  ∃ b,qeu n d=some b/\qan (qgw n d.labels d.var_ d.keys d.vals nx k) n (0:Int)=(bif b then nx (IntKind.i64.wrap (k+1))else some false)/\(b=true->d.keys.length=d.vals.length/\∀ x∈d.vals,WfE x):=by
 obtain⟨var,labels,keys,vals⟩:=d;unfold qia at h;simp only at h ⊢;have hl1:=qeb labels;have hl2:=qeb keys;obtain⟨b,h1,h2,h3⟩:=zfn hn (keys:=keys) (vals:=vals) (by omega) (by omega);have hp1:=qij (s:=var) (n:=n) (by omega) hn;have hp2:=qjd (s:=var) (n:=n) (by omega) (by omega) hn;have fold:∀ (l:List (List UInt8)) (r:Option Bool),orE (qew (fun s=>if qtt s then none else some false) l) r=bif l.all qtt then r else some false:=by
  intro l r
  induction l with
  | nil=>rfl
  | cons a l ih=>
   simp only[qew,List.all_cons];cases qtt a with
   | true=>simpa using ih
   | false=>rfl
 have e1:=qcy (B:=qf8 n labels var keys vals) (fun k=>((k:Nat):Int)) (l:=labels) (fun s=>if qtt s then none else some false) (rest:=some ((bif var==[]then true else qdw var)&&b))
  (fun k x nx hx=>by
   have hk:=qb0 hx;simp only[qf8,qaz,qa7 hk,cond_true,qal hx,qah,qcj];rw[qcg (by omega)];cases qtt x<;>rfl)
  (fun nx=>by
   simp only[qf8,qaz,qas,cond_false,hp1,h1];cases var==[]<;>cases qdw var<;>rfl) (n:=n) (by omega)
 have e2:=qcy (B:=qgw n labels var keys vals nx k) (fun k=>((k:Nat):Int)) (l:=labels) (fun s=>if qtt s then none else some false) (rest:=bif((bif var==[]then true else qdw var)&&b)then nx (IntKind.i64.wrap (k+1))else some false)
  (fun k x nx hx=>by
   have hk:=qb0 hx;simp only[qgw,qaz,qa7 hk,cond_true,qal hx,qah,qc0];rw[qcg (by omega)];cases qtt x<;>rfl)
  (fun nx=>by
   simp only[qgw,qaz,qas,cond_false,hp2,h2];cases var==[]<;>cases qdw var<;>cases b<;>rfl) (n:=n) (by omega)
 refine⟨labels.all qtt&&((bif var==[]then true else qdw var)&&b),?_,?_,?_⟩
 ·simp only[qeu]
  refine Eq.trans e1 ?_;rw[fold];cases labels.all qtt<;>rfl
 ·refine Eq.trans e2 ?_
  rw[fold];cases labels.all qtt<;>rfl
 ·intro hb
  simp only[Bool.and_eq_true]at hb;exact h3 hb.2.2
end W
end
section
open Go Ax
namespace W
theorem zcy {n:Nat} (hn:n<=1073741824) {d:qag} (h:42+qmt d<n) {es:List qag} {k:Nat} (hk:es[k]? =some d) (hk2:k<1073741824) (nx:Int->Option Bool) :
  ∃ b,qei n d=some b/\qgx n es nx (k:Int)=(bif b then nx ((k+1:Nat):Int)else some false)/\(b=true->d.keys.length=d.vals.length/\∀ x∈d.vals,WfE x):=by
 obtain⟨var,typ,dir,keys,vals⟩:=d;unfold qmt at h;simp only at h ⊢;have hl2:=qeb keys;obtain⟨b,h1,h2,h3⟩:=zfn hn (keys:=keys) (vals:=vals) (by omega) (by omega);have hp1:=qij (s:=var) (n:=n) (by omega) hn;have hp2:=qjd (s:=var) (n:=n) (by omega) (by omega) hn;have hkl:=qb0 hk;have e0:decide (dir≥0)=!decide (dir<0):=by rw[Bool.eq_iff_iff]; simp
 have e2:decide (dir<=2)=!decide (dir>2):=by rw[Bool.eq_iff_iff]; simp
 simp only[qei,qgx,qfv,qa7 hkl,cond_true,qal hk,qah,qcj,qc0,hp1,hp2,h1,h2,e0,e2];rw[qcg (by omega)];refine⟨((bif var==[]then true else qdw var)&&(bif typ==[]then true else qtt typ)&&!decide (dir<0)&&!decide (dir>2))&&b,?_,?_,?_⟩
 ·cases var==[]<;>cases qdw var<;>cases typ==[]<;>cases qtt typ<;>cases decide (dir<0)<;>cases decide (dir>2)<;>rfl
 ·cases var==[]<;>cases qdw var<;>cases typ==[]<;>cases qtt typ<;>cases decide (dir<0)<;>cases decide (dir>2)<;>cases b<;>rfl
 ·intro hb
  simp only[Bool.and_eq_true]at hb;exact h3 hb.2
theorem zmk {n:Nat} (hn:n<=1073741824) {nodes:List qae} {edges:List qag} (hlen:nodes.length=edges.length+1) (nb:qae->Bool) (eb:qag->Bool)
  (h1:∀ d∈nodes,qeu n d=some (nb d)) (h2:∀ d∈edges,qei n d=some (eb d)) (hb:nodes.length<1073741824) :
  ∀ m k:Nat,k<=nodes.length->nodes.length - k<m->qan (qef n nodes edges) m (k:Int)=some ((nodes.drop k).all nb&&(edges.drop (k - 1)).all eb):=by
 intro m
 induction m with
 | zero=>intro k _ h; omega
 | succ m ih=>
  intro k hk hm;rw[qbg];by_cases he:k=nodes.length
  ·subst he
   simp only[qef,qc1,qas,cond_false];rw[List.drop_length,hlen,Nat.add_sub_cancel,List.drop_length];rfl
  ·have hkl:k<nodes.length:=by omega
   have hx:=List.getElem?_eq_getElem hkl;have ih2:=ih (k+1) (by omega) (by omega);rw[List.drop_eq_getElem_cons hkl];generalize nodes[k]=d at hx;have hnb:=h1 d (qbk hx);obtain⟨d1,d2,d3,d4⟩:=d;simp only[qef,qc1,qa7 hkl,cond_true,qal hx,qah,hnb,List.all_cons];rw[qcg (by omega)];cases nb ⟨d1,d2,d3,d4⟩with
   | false=>rfl
   | true=>
    cases k with
    | zero=>
     refine Eq.trans (b:=qan (qef n nodes edges) m ((0+1:Nat):Int)) rfl ?_;rw[ih2];simp
    | succ k=>
     have hke:k<edges.length:=by omega
     have hy:=List.getElem?_eq_getElem hke;rw[Nat.add_sub_cancel,List.drop_eq_getElem_cons hke];generalize edges[k]=e at hy;have heb:=h2 e (qbk hy);obtain⟨y1,y2,y3,y4,y5⟩:=e;have h0:decide ((((k+1:Nat):Int))>0)=true:=decide_eq_true (by omega);simp only[h0,Bool.not_true,Bool.not_false,Bool.and_true,qd6,zsn (show k+1<=1152921504606846976 by omega),qal hy,qah,heb,cond_true,cond_false,List.all_cons];cases eb ⟨y1,y2,y3,y4,y5⟩with
     | false=>simp
     | true=>
      refine Eq.trans (b:=qan (qef n nodes edges) m ((k+1+1:Nat):Int)) rfl ?_;rw[ih2];simp
theorem zdj {n:Nat} (hn:n<=1073741824) {p:qa6} (h:42+qjt p<n):∃ b,qii n p=some b/\qm2 n p=some b/\(b=true->WfP p):=by
 obtain⟨nodes,edges⟩:=p;have hd:∀ d∈nodes,42+qia d<n:=fun d hm=>by have:=qb6 qia hm; unfold qjt at h; simp only at h; omega
 have hE:∀ d∈edges,42+qmt d<n:=fun d hm=>by have:=qb6 qmt hm; unfold qjt at h; simp only at h; omega
 have hl1:=qbi qia qvn nodes;have hl2:=qbi qmt q70 edges;unfold qjt at h;simp only at h;simp only[qii,qm2,qc1,qfv];rw[qcg (by omega)];by_cases hlen:nodes.length=edges.length+1
 ·have:(((nodes.length:Nat):Int) != ((edges.length+1:Nat):Int))=false:=by rw[hlen]; simp
  rw[this,cond_false,cond_false];have a1:∀ d∈nodes,qeu n d=some ((qeu n d).getD false):=fun d hm=>by
   obtain⟨b,hb,_⟩:=zdi hn (hd d hm) (fun _=>none) 0
   rw[hb]; rfl
  have a2:∀ d∈edges,qei n d=some ((qei n d).getD false):=fun d hm=>by
   obtain⟨b,hb,_⟩:=zcy hn (hE d hm) (es:=[d]) (k:=0) rfl (by omega) (fun _=>none)
   rw[hb]; rfl
  have e1:=zmk hn hlen _ _ a1 a2 (by omega) n 0 (by omega) (by omega);have fold:∀ {A:Type} (g:A->Bool) (l:List A) (r:Bool),orE (qew (fun s=>if g s then none else some false) l) (some r)=some (l.all g&&r):=by
   intro A g l r
   induction l with
   | nil=>rfl
   | cons a l ih=>
    simp only[qew,List.all_cons];cases g a with
    | true=>simpa using ih
    | false=>rfl
  have e2:=qcy (B:=qgx n edges) (fun k=>((k:Nat):Int)) (l:=edges) (fun d=>if(qei n d).getD false then none else some false) (rest:=some true)
   (fun k x nx hx=>by
    have hk:=qb0 hx;obtain⟨b,hb1,hb2,_⟩:=zcy hn (hE x (qbk hx)) hx (by omega) nx;rw[hb2,hb1];cases b<;>rfl)
   (fun nx=>by simp only[qgx,qfv,qas,cond_false]) (n:=n) (by omega)
  rw[fold]at e2;have e3:=qcy (B:=qif n nodes edges) (fun k=>((k:Nat):Int)) (l:=nodes) (fun d=>if(qeu n d).getD false then none else some false) (rest:=some (edges.all (fun d=>(qei n d).getD false)&&true))
   (fun k x nx hx=>by
    have hk:=qb0 hx;obtain⟨b,hb1,hb2,_⟩:=zdi hn (hd x (qbk hx)) nx (k:Int);rw[qcg (by omega)]at hb2;obtain⟨x1,x2,x3,x4⟩:=x;simp only[qif,qc1,qa7 hk,cond_true,qal hx,qah];rw[hb2,hb1];cases b<;>rfl)
   (fun nx=>by
    simp only[qif,qc1,qas,cond_false];exact e2) (n:=n) (by omega)
  rw[fold]at e3;refine⟨_,e1,e3.trans ?_,?_⟩
  ·simp
  ·intro hb
   simp only[List.drop_zero,Nat.zero_sub,Bool.and_eq_true,List.all_eq_true]at hb;refine⟨hlen,fun d hm=>?_,fun d hm=>?_⟩
   ·obtain⟨b,hb1,_,hb3⟩:=zdi hn (hd d hm) (fun _=>none) 0
    have:=hb.1 d hm;rw[hb1]at this;exact(hb3 this).2
   ·obtain⟨b,hb1,_,hb3⟩:=zcy hn (hE d hm) (es:=[d]) (k:=0) rfl (by omega) (fun _=>none)
    have:=hb.2 d hm;rw[hb1]at this;exact(hb3 this).2
 ·have:(((nodes.length:Nat):Int) != ((edges.length+1:Nat):Int))=true:=qwp.2 hlen
  rw[this];exact⟨false,rfl,rfl,fun h=>by cases h⟩
end W
end
section
open Go Ax
namespace W
theorem zn0 {n:Nat} (hn:n<=1073741824) {x:qaa} (hx:qki x<n):∃ b,qi4 n x=some b/\qst n x=some b/\(b=true->(qjq x).1=0):=by
 obtain⟨op,name,⟨a1,a2,a3,a4,a5,a6⟩,names,args⟩:=x;have hb:zah ⟨a1,a2,a3,a4,a5,a6⟩<n:=by simp only[qki]at hx; omega
 obtain⟨s1,hv1,hv2⟩:=(q4k n (by omega)).1 ⟨a1,a2,a3,a4,a5,a6⟩ q2e hb;obtain⟨s2,hw1,hw2⟩:=(zdl n (by omega)).1 ⟨a1,a2,a3,a4,a5,a6⟩ q2e hb;have hs12:s2=s1:=by
  rw[Bool.eq_iff_iff,hw2,hv2]
 subst hs12;unfold q2e at hv1 hw1;simp only[qi4,qst,hv1,hw1];have key:(bnd (qaw (bif op==0 then name==[]else false) (some s2)) fun x11=>some (bif(bif(bif(bif op==0 then name==[]else false)then x11 else false)then((((qai names).length:Nat):Int)==0)else false)then((((qaa.rows args).length:Nat):Int)==0)else false))=some ((op==0)&&(name==[])&&s2&&((((qai names).length:Nat):Int)==0)&&((((qaa.rows args).length:Nat):Int)==0)):=by
  generalize ((((qai names).length:Nat):Int)==0)=L1;generalize ((((qaa.rows args).length:Nat):Int)==0)=L2;cases op==0<;>cases name==[]<;>cases s2<;>cases L1<;>cases L2<;>rfl
 refine⟨_,key,key,?_⟩;intro h;cases ho:(op==0)with
 | true=>exact beq_iff_eq.1 ho
 | false=>rw[ho]at h; cases h
theorem zit {n:Nat} {name:List UInt8} {val:Val} {names:List (List UInt8)} {args:List qaa} {d:Int}:qcz n ⟨0,name,val,names,args⟩ d≠some true:=by
 obtain⟨a1,a2,a3,a4,a5,a6⟩:=val;intro h;cases n with
 | zero=>cases h
 | succ n=>
  simp only[qcz,qn0]at h;rw[show qcd n ⟨0,name,⟨a1,a2,a3,a4,a5,a6⟩,names,args⟩=some (0,false)from rfl]at h;cases h
theorem q7y {n:Nat} (hn:n<=1073741824) {s:qaf} (h:42+s.var_.length+s.key.length+s.label.length+qki s.e<n) (f:Bool) :
  ∃ b,qgt n ⟨s,f⟩=some b/\qo6 n s f=some b/\(b=true->(f=true/\s.key≠[]->WfE s.e/\(qjq s.e).1≠0)/\(¬ (f=true/\s.key≠[])->(qjq s.e).1=0)):=by
 obtain⟨var,key,label,e⟩:=s;simp only at h ⊢;obtain⟨b,b1,b2,b3⟩:=zn0 hn (x:=e) (by omega);obtain⟨r,r1,r2,r3⟩:=qy5 hn (x:=e) (by omega);have r4:r=true->(qjq e).1≠0:=by
  intro hr h0;obtain⟨op,name,val,names,args⟩:=e;have:op=0:=h0;subst this hr;exact zit r1
 have hp1:=qij (s:=var) (n:=n) (by omega) hn;have hp2:=qjd (s:=var) (n:=n) (by omega) (by omega) hn;obtain⟨op,name,⟨a1,a2,a3,a4,a5,a6⟩,names,args⟩:=e;simp only[qgt,qo6,hp1,hp2,qah,qc0];cases qdw var with
 | false=>exact⟨false,rfl,rfl,fun h=>by cases h⟩
 | true=>
  simp only[Bool.not_true,cond_false];cases key with
  | nil=>
   have hw:decide (IntKind.i64.wrap (((([]:List UInt8).length:Nat):Int)+((label.length:Nat):Int))>64)=decide (((label.length:Nat):Int)>64):=by
    rw[List.length_nil,q1t (by omega) (by omega)];simp
   rw[hw];have hk:qtt label=(!(label==[])&&!decide (((label.length:Nat):Int)>64)):=by
    unfold qtt;have:decide (((label.length:Nat):Int)<=64)=!decide (((label.length:Nat):Int)>64):=by rw[Bool.eq_iff_iff]; simp
    rw[this];cases label==[]<;>rfl
   rw[hk,b1,b2];refine⟨(!(label==[])&&!decide (((label.length:Nat):Int)>64))&&b,?_,?_,?_⟩
   ·cases label==[]<;>cases decide (((label.length:Nat):Int)>64)<;>cases f<;>rfl
   ·cases label==[]<;>cases decide (((label.length:Nat):Int)>64)<;>rfl
   ·intro hb
    simp only[Bool.and_eq_true]at hb;exact⟨fun h=>absurd rfl h.2,fun _=>b3 hb.2⟩
  | cons c key=>
   have hke:((c::key)==([]:List UInt8))=false:=rfl;rw[hke];cases label with
   | cons a l=>
    have:((a::l)==([]:List UInt8))=false:=rfl;rw[this];refine⟨false,rfl,?_,fun h=>by cases h⟩
    rfl
   | nil=>
    have hw:decide (IntKind.i64.wrap ((((c::key).length:Nat):Int)+((([]:List UInt8).length:Nat):Int))>64)=decide ((((c::key).length:Nat):Int)>64):=by
     rw[List.length_nil,q1t (by omega) (by omega)];simp
    rw[hw];have hk:qtt (c::key)=!decide ((((c::key).length:Nat):Int)>64):=by
     unfold qtt;have:decide ((((c::key).length:Nat):Int)<=64)=!decide ((((c::key).length:Nat):Int)>64):=by rw[Bool.eq_iff_iff]; simp
     rw[this];rfl
    rw[hk,b1,b2,r1,r2];generalize decide ((((c::key).length:Nat):Int)>64)=g;refine⟨!g&&(bif f then r else b),?_,?_,?_⟩
    ·cases g<;>cases f<;>rfl
    ·cases g<;>cases f<;>rfl
    ·intro hb
     simp only[Bool.and_eq_true]at hb;cases f with
     | true=>exact⟨fun _=>⟨r3 hb.2,r4 hb.2⟩,fun h=>absurd ⟨rfl,by simp⟩ h⟩
     | false=>exact⟨fun h=>(by cases h.1),fun _=>b3 hb.2⟩
end W
end
section
open Go Ax
namespace W
theorem zjr {x1 x11:Int} {x2 x12:List UInt8} {v w:Val} {x9 x19:List (List UInt8)} {x10 x20:List qaa} {S N L:Option Bool} {s a b:Bool} (hS:S=some s) (hs:s=true↔v=w) (hN:N=some a) (ha:a=true↔x9=x19) (hL:L=some b) (hb:b=true↔x10=x20) :
  ∃ r,(bnd (qaw (bif(x1==x11)then(x2==x12)else false) S) fun x21=>
   bnd (qaw (bif(bif(x1==x11)then(x2==x12)else false)then x21 else false) N) fun x22=>
   bnd (qaw (bif(bif(bif(x1==x11)then(x2==x12)else false)then x21 else false)then x22 else false) L) fun x23=>
   some (bif(bif(bif(bif(x1==x11)then(x2==x12)else false)then x21 else false)then x22 else false)then x23 else false))=some r /\
  (r=true↔qaa.mk x1 x2 v x9 x10=qaa.mk x11 x12 w x19 x20):=by
 subst hN hL hS;have e1:(x1==x11)=true↔x1=x11:=beq_iff_eq;have e2:(x2==x12)=true↔x2=x12:=beq_iff_eq;rw[qaa.mk.injEq,← e1,← e2,← hs,← hb,← ha];cases(x1==x11)<;>cases(x2==x12)<;>cases s<;>cases a<;>cases b<;>exact⟨_,rfl,by simp⟩
theorem qsq:∀ n:Nat,n<=1073741824->(∀ v w,qki v<n->∃ b,qeg n v w=some b/\(b=true↔v=w))/\(∀ l l',qf1 l<n->∃ b,qdf n l l'=some b/\(b=true↔l=l')):=by
 intro n
 induction n with
 | zero=>intro _; exact⟨fun _ _ h=>by omega,fun _ _ h=>by omega⟩
 | succ n ih=>
  intro hn;obtain⟨ihv,ihl⟩:=ih (by omega);refine⟨fun v w hv=>?_,fun l l' hl=>?_⟩
  ·obtain⟨x1,x2,⟨x3,x4,x5,x6,x7,x8⟩,x9,x10⟩:=v
   obtain⟨y1,y2,⟨y3,y4,y5,y6,y7,y8⟩,y9,y10⟩:=w;have hb:qf1 x10<n/\x9.length<n/\zah ⟨x3,x4,x5,x6,x7,x8⟩<n:=by
    have:=qeb x9;simp only[qki]at hv;have h0:=qdx x10;omega
   obtain⟨s,hs1,hs2⟩:=(zdl n (by omega)).1 ⟨x3,x4,x5,x6,x7,x8⟩ ⟨y3,y4,y5,y6,y7,y8⟩ hb.2.2;obtain⟨a,ha1,ha2⟩:=qgr (y:=y9) hb.2.1 (by omega);obtain⟨b,hb1,hb2⟩:=ihl x10 y10 hb.1;simp only[qeg,qpn];exact zjr hs1 hs2 ha1 ha2 hb1 hb2
  ·have hlen:=qdx l
   simp only[qdf,qof];by_cases hll:l.length=l'.length
   ·have:((((qaa.rows l).length:Nat):Int) != (((qaa.rows l').length:Nat):Int))=false:=by simp[hll]
    rw[this,cond_false];refine q72 hll (fun k a b nx ha hb=>?_) (fun nx=>by simp only[qin,qaq,qas,cond_false]) (by omega)
    have hk:=qb0 ha;obtain⟨r,hr,hr2⟩:=ihv a b (by have:=qha (qbk ha); omega);refine⟨r,hr2,?_⟩;obtain⟨x1,x2,⟨x3,x4,x5,x6,x7,x8⟩,x9,x10⟩:=a;obtain⟨y1,y2,⟨y3,y4,y5,y6,y7,y8⟩,y9,y10⟩:=b;simp only[qin,qaq,qa7 hk,cond_true,qal ha,qal hb,qah,hr];rw[qcg (by omega)];cases r<;>rfl
   ·have:((((qaa.rows l).length:Nat):Int) != (((qaa.rows l').length:Nat):Int))=true:=by rw[qaq,qaq]; exact qwp.2 hll
    rw[this];exact⟨false,rfl,by simp; intro e; exact hll (congrArg _ e)⟩
theorem zn8 {n:Nat} (hn:n<=1073741824) {l:List qaa} (h:40+qf1 l<n) (lim:Int) :
  qmb n l lim=some (l.all (fun x=>(qcz n x 32).getD false)&&decide (((l.length:Nat):Int)<=lim)):=by
 have hlen:=qdx l;have fold:∀ {A:Type} (g:A->Bool) (l:List A) (r:Bool),orE (qew (fun s=>if g s then none else some false) l) (some r)=some (l.all g&&r):=by
  intro A g l r
  induction l with
  | nil=>rfl
  | cons a l ih=>
   simp only[qew,List.all_cons];cases g a with
   | true=>simpa using ih
   | false=>rfl
 have e:=qcy (B:=qlf n l lim) (fun k=>((k:Nat):Int)) (l:=l) (fun x=>if(qcz n x 32).getD false then none else some false) (rest:=some (decide (((l.length:Nat):Int)<=lim)))
  (fun k x nx hx=>by
   have hk:=qb0 hx;obtain⟨b,h1,h2,_⟩:=qy5 hn (x:=x) (by have:=qha (qbk hx); omega);rw[h1];obtain⟨x1,x2,⟨x3,x4,x5,x6,x7,x8⟩,x9,x10⟩:=x;simp only[qlf,qaq,qa7 hk,cond_true,qal hx,qah,h2];rw[qcg (by omega)];cases b<;>rfl)
  (fun nx=>by simp only[qlf,qaq,qas,cond_false]) (n:=n) (by omega)
 rw[fold]at e;exact e
end W
end
section
open Go Ax
namespace W
theorem zcz {A:Type} {B:(Int->Option Bool)->Int->Option Bool} {l l':List A} {e:Bool} (hlen:l.length=l'.length)
  (step:∀ (k:Nat) x y nx,l[k]? =some x->l'[k]? =some y->∃ b,(b=true↔x=y)/\B nx (k:Int)=bif b then nx ((k+1:Nat):Int)else some false)
  (hend:∀ nx,B nx (l.length:Int)=some e) {n:Nat} (hn:l.length<n):∃ b,qan B n 0=some b/\(b=true↔l=l'/\e=true):=by
 have main:∀ m k:Nat,k<=l.length->l.length - k<m->∃ b,qan B m (k:Int)=some b/\(b=true↔l.drop k=l'.drop k/\e=true):=by
  intro m
  induction m with
  | zero=>intro k _ h; omega
  | succ m ih=>
   intro k hk hm;rw[qbg];by_cases he:k=l.length
   ·subst he
    exact⟨e,hend _,by rw[List.drop_length,hlen,List.drop_length]; simp⟩
   ·have h1:k<l.length:=by omega
    have h2:k<l'.length:=by omega
    obtain⟨b,hb,hs⟩:=step k _ _ (qan B m) (List.getElem?_eq_getElem h1) (List.getElem?_eq_getElem h2);rw[hs,List.drop_eq_getElem_cons h1,List.drop_eq_getElem_cons h2,List.cons.injEq,← hb];cases b with
    | false=>exact⟨false,rfl,by simp⟩
    | true=>
     obtain⟨b,h3,h4⟩:=ih (k+1) (by omega) (by omega);exact⟨b,h3,by simpa using h4⟩
 obtain⟨b,h1,h2⟩:=main n 0 (by omega) (by omega);exact⟨b,h1,by simpa using h2⟩
theorem zhn {n:Nat} (hn:n<=1073741824) {p q:qa6} (h:qjt p<n):∃ b,qn3 n p q=some b/\(b=true↔p=q):=by
 obtain⟨x1,x2⟩:=p;obtain⟨x3,x4⟩:=q;have hl1:=qbi qia qvn x1;have hl2:=qbi qmt q70 x2;unfold qjt at h;simp only at h;simp only[qn3,qc1,qfv,qa6.mk.injEq];by_cases h1:x1.length=x3.length
 ·by_cases h2:x2.length=x4.length
  ·have e1:(((x1.length:Nat):Int) != ((x3.length:Nat):Int))=false:=by rw[h1]; simp
   have e2:(((x2.length:Nat):Int) != ((x4.length:Nat):Int))=false:=by rw[h2]; simp
   rw[e1,e2];obtain⟨e,he1,he2⟩:=q72 (B:=qho n x2 x4) h2 (fun k a b nx ha hb=>by
    have hk:=qb0 ha;have hm:=qb6 qmt (qbk ha);obtain⟨a1,a2,a3,a4,a5⟩:=a;obtain⟨b1,b2,b3,b4,b5⟩:=b;have hd:qmt ⟨a1,a2,a3,a4,a5⟩=1+a1.length+a2.length+qz6 a4+qf1 a5:=rfl;rw[hd]at hm;have hln:=qeb a4;obtain⟨r1,q1,q2⟩:=qgr (n:=n) (x:=a4) (y:=b4) (by omega) hn;obtain⟨r2,q3,q4⟩:=(qsq n hn).2 a5 b5 (by omega);simp only[qho,qfv,qa7 hk,cond_true,qal ha,qal hb,qah,q1,q3];rw[qcg (by omega)];have e1:(a1==b1)=true↔a1=b1:=beq_iff_eq;have e2:(a2==b2)=true↔a2=b2:=beq_iff_eq;have e3:(a3==b3)=true↔a3=b3:=beq_iff_eq;rw[qag.mk.injEq,← e1,← e2,← e3,← q2,← q4,bne];refine⟨(a1==b1)&&(a2==b2)&&(a3==b3)&&r1&&r2,by simp[and_assoc],?_⟩;cases a1==b1<;>cases a2==b2<;>cases a3==b3<;>cases r1<;>cases r2<;>rfl) (fun nx=>by simp only[qho,qfv,qas,cond_false]) (n:=n) (by omega)
   rw[← he2];refine zcz h1 (fun k a b nx ha hb=>?_) (fun nx=>?_) (by omega)
   ·have hk:=qb0 ha
    have hm:=qb6 qia (qbk ha);obtain⟨a1,a2,a3,a4⟩:=a;obtain⟨b1,b2,b3,b4⟩:=b;have hd:qia ⟨a1,a2,a3,a4⟩=1+a1.length+qz6 a2+qz6 a3+qf1 a4:=rfl;rw[hd]at hm;have hln:=qeb a2;have hln2:=qeb a3;obtain⟨r1,q1,q2⟩:=qgr (n:=n) (x:=a2) (y:=b2) (by omega) hn;obtain⟨r2,q3,q4⟩:=qgr (n:=n) (x:=a3) (y:=b3) (by omega) hn;obtain⟨r3,q5,q6⟩:=(qsq n hn).2 a4 b4 (by omega);simp only[qjz,qc1,qa7 hk,cond_true,qal ha,qal hb,qah,q1,q3,q5];rw[qcg (by omega)];have e1:(a1==b1)=true↔a1=b1:=beq_iff_eq;rw[qae.mk.injEq,← e1,← q2,← q4,← q6];refine⟨(a1==b1)&&r1&&r2&&r3,by simp[and_assoc],?_⟩;cases a1==b1<;>cases r1<;>cases r2<;>cases r3<;>rfl
   ·simp only[qjz,qc1,qas,cond_false]
    exact he1
  ·have e2:(((x2.length:Nat):Int) != ((x4.length:Nat):Int))=true:=qwp.2 h2
   rw[e2];refine⟨false,?_,?_⟩
   ·cases(((x1.length:Nat):Int) != ((x3.length:Nat):Int))<;>rfl
   ·constructor
    ·intro h; cases h
    ·intro h; exact absurd (congrArg _ h.2) h2
 ·have e1:(((x1.length:Nat):Int) != ((x3.length:Nat):Int))=true:=qwp.2 h1
  rw[e1];refine⟨false,rfl,?_⟩
  constructor
  ·intro h; cases h
  ·intro h; exact absurd (congrArg _ h.1) h1
end W
end
section
open Go Ax
namespace W
theorem zo6 {n:Nat} (hn:n<=1073741824) {l l':List qaf} (hl:l.length<n) (hlen:l.length=l'.length) (hb:∀ s∈l,qki s.e<n):∃ b,qan (qe1 n l l') n (0:Int)=some b/\(b=true↔l=l'):=by
 refine q72 hlen (fun k a b nx ha hb'=>?_) (fun nx=>by simp only[qe1,qaf.rows,List.length_map,qas,cond_false]) hl
 have hk:=qb0 ha;have hm:=hb a (qbk ha);obtain⟨a1,a2,a3,⟨x1,x2,⟨x3,x4,x5,x6,x7,x8⟩,x9,x10⟩⟩:=a;obtain⟨b1,b2,b3,⟨y1,y2,⟨y3,y4,y5,y6,y7,y8⟩,y9,y10⟩⟩:=b;obtain⟨r,q1,q2⟩:=(qsq n hn).1 _ ⟨y1,y2,⟨y3,y4,y5,y6,y7,y8⟩,y9,y10⟩ hm;simp only[qe1,qaf.rows,List.length_map,qa7 hk,cond_true,qal ha,qal hb',qah,q1];rw[qcg (by omega)];have e1:(a1==b1)=true↔a1=b1:=beq_iff_eq;have e2:(a2==b2)=true↔a2=b2:=beq_iff_eq;have e3:(a3==b3)=true↔a3=b3:=beq_iff_eq;rw[qaf.mk.injEq,← e1,← e2,← e3,← q2];refine⟨(a1==b1)&&(a2==b2)&&(a3==b3)&&r,by simp[and_assoc],?_⟩;cases a1==b1<;>cases a2==b2<;>cases a3==b3<;>cases r<;>rfl
theorem zm4 {n:Nat} (hn:n<=1073741824) {l l':List qar} {s s':List qaf} (hl:l.length<n) (hlen:l.length=l'.length) (hb:∀ s∈l,qki s.e<n) {e:Bool} (he:qan (qe1 n s s') n (0:Int)=some e) :
  ∃ b,qan (qe0 n l l' s s') n (0:Int)=some b/\(b=true↔l=l'/\e=true):=by
 refine zcz hlen (fun k a b nx ha hb'=>?_) (fun nx=>by simp only[qe0,qar.rows,List.length_map,qas,cond_false,he]) hl
 have hk:=qb0 ha;have hm:=hb a (qbk ha);obtain⟨⟨x1,x2,⟨x3,x4,x5,x6,x7,x8⟩,x9,x10⟩,a1⟩:=a;obtain⟨⟨y1,y2,⟨y3,y4,y5,y6,y7,y8⟩,y9,y10⟩,b1⟩:=b;obtain⟨r,q1,q2⟩:=(qsq n hn).1 _ ⟨y1,y2,⟨y3,y4,y5,y6,y7,y8⟩,y9,y10⟩ hm;simp only[qe0,qar.rows,List.length_map,qa7 hk,cond_true,qal ha,qal hb',qah];rw[qcg (by omega)];have e1:(a1==b1)=true↔a1=b1:=beq_iff_eq;rw[qar.mk.injEq,← e1,← q2];refine⟨(a1==b1)&&r,by simp[and_comm],?_⟩;cases a1==b1 with
 | false=>rfl
 | true=>
  simp only[Bool.not_true,Bool.not_false,qd6,qah,q1];cases r<;>rfl
theorem zm3 {n:Nat} (hn:n<=1073741824) {l l':List qbj} {o o':List qar} {s s':List qaf} (hl:l.length<n) (hlen:l.length=l'.length) (hb:∀ s∈l,qki s.e<n) {e:Bool} (he:qan (qe0 n o o' s s') n (0:Int)=some e) :
  ∃ b,qan (qez n l l' o o' s s') n (0:Int)=some b/\(b=true↔l=l'/\e=true):=by
 refine zcz hlen (fun k a b nx ha hb'=>?_) (fun nx=>by simp only[qez,qbj.rows,List.length_map,qas,cond_false,he]) hl
 have hk:=qb0 ha;have hm:=hb a (qbk ha);obtain⟨⟨x1,x2,⟨x3,x4,x5,x6,x7,x8⟩,x9,x10⟩,a1⟩:=a;obtain⟨⟨y1,y2,⟨y3,y4,y5,y6,y7,y8⟩,y9,y10⟩,b1⟩:=b;obtain⟨r,q1,q2⟩:=(qsq n hn).1 _ ⟨y1,y2,⟨y3,y4,y5,y6,y7,y8⟩,y9,y10⟩ hm;simp only[qez,qbj.rows,List.length_map,qa7 hk,cond_true,qal ha,qal hb',qah];rw[qcg (by omega)];have e1:(a1==b1)=true↔a1=b1:=beq_iff_eq;rw[qbj.mk.injEq,← e1,← q2];refine⟨(a1==b1)&&r,by simp[and_comm],?_⟩;cases a1==b1 with
 | false=>rfl
 | true=>
  simp only[Bool.not_true,Bool.not_false,qd6,qah,q1];cases r<;>rfl
theorem zm5 {n:Nat} (hn:n<=1073741824) {l l':List qa6} {i i':List qbj} {o o':List qar} {s s':List qaf} (hl:l.length<n) (hlen:l.length=l'.length) (hb:∀ p∈l,qjt p<n) {e:Bool} (he:qan (qez n i i' o o' s s') n (0:Int)=some e) :
  ∃ b,qan (qf4 n l l' i i' o o' s s') n (0:Int)=some b/\(b=true↔l=l'/\e=true):=by
 refine zcz hlen (fun k a b nx ha hb'=>?_) (fun nx=>by simp only[qf4,qck,qas,cond_false,he]) hl
 have hk:=qb0 ha;have hm:=hb a (qbk ha);obtain⟨r,q1,q2⟩:=zhn hn (q:=b) hm;obtain⟨x1,x2⟩:=a;obtain⟨y1,y2⟩:=b;simp only[qf4,qck,qa7 hk,cond_true,qal ha,qal hb',qah,q1];rw[qcg (by omega)];refine⟨r,q2,?_⟩;cases r<;>rfl
end W
end
section
open Go Ax
namespace W
theorem zrc {A P V I D O T U s1 s2 s3 s4 s5:Bool} {L:Option Bool} :
 (bnd (qaw (!(bif A then true else P)) (some s1)) fun x45=>
 bnd (qaw (!(bif(bif A then true else P)then true else(!x45))) (some s2)) fun x46=>
 bnd (qaw (!(bif(bif(bif(bif(bif(bif(bif A then true else P)then true else(!x45))then true else(!x46))then true else V)then true else I)then true else D)then true else O)) (some s3)) fun x47=>
 bnd (qaw (!(bif(bif(bif(bif(bif(bif(bif(bif A then true else P)then true else(!x45))then true else(!x46))then true else V)then true else I)then true else D)then true else O)then true else(!x47))) (some s4)) fun x48=>
 bnd (qaw (!(bif(bif(bif(bif(bif(bif(bif(bif(bif(bif A then true else P)then true else(!x45))then true else(!x46))then true else V)then true else I)then true else D)then true else O)then true else(!x47))then true else(!x48))then true else T)) (some s5)) fun x49=>
 bif(bif(bif(bif(bif(bif(bif(bif(bif(bif(bif(bif(bif A then true else P)then true else(!x45))then true else(!x46))then true else V)then true else I)then true else D)then true else O)then true else(!x47))then true else(!x48))then true else T)then true else(!x49))then true else U)then(
 some false)
 else(
 L))=bif A||P||!s1||!s2||V||I||D||O||!s3||!s4||T||!s5||U then some false else L:=by
 cases A; rotate_left; · rfl
 cases P; rotate_left; · rfl
 cases s1; · rfl
 cases s2; · rfl
 cases V; rotate_left; · rfl
 cases I; rotate_left; · rfl
 cases D; rotate_left; · rfl
 cases O; rotate_left; · rfl
 cases s3; · rfl
 cases s4; · rfl
 cases T; rotate_left; · rfl
 cases s5; · rfl
 cases U; rotate_left; · rfl
 rfl
theorem zdp {n:Nat} (hn:n<=1073741824) {c c':qab} (h1:∀ p∈c.paths,qjt p<n) (h1l:c.paths.length<n) (h2:qf1 c.where_<n) (h3:qki c.e<n) (h4:∀ i∈c.items,qki i.e<n) (h4l:c.items.length<n)
  (h5:∀ i∈c.order,qki i.e<n) (h5l:c.order.length<n) (h6:qf1 c.skip<n) (h7:qf1 c.limit<n) (h8:∀ i∈c.sets,qki i.e<n) (h8l:c.sets.length<n) (h9:c.vars.length<n):∃ b,qgy n c c'=some b/\(b=true↔c=c'):=by
 obtain⟨x1,x2,x3,⟨x4,x5,⟨x6,x7,x8,x9,x10,x11⟩,x12,x13⟩,x14,x15,x16,x17,x18,x19,x20,x21,x22⟩:=c;obtain⟨y1,y2,y3,⟨y4,y5,⟨y6,y7,y8,y9,y10,y11⟩,y12,y13⟩,y14,y15,y16,y17,y18,y19,y20,y21,y22⟩:=c';simp only at h1 h1l h2 h3 h4 h4l h5 h5l h6 h7 h8 h8l h9;obtain⟨s1,p1,q1⟩:=(qsq n hn).2 x3 y3 h2;obtain⟨s2,p2,q2⟩:=(qsq n hn).1 _ ⟨y4,y5,⟨y6,y7,y8,y9,y10,y11⟩,y12,y13⟩ h3;obtain⟨s3,p3,q3⟩:=(qsq n hn).2 x18 y18 h6;obtain⟨s4,p4,q4⟩:=(qsq n hn).2 x19 y19 h7;obtain⟨s5,p5,q5⟩:=qgr (n:=n) (x:=x21) (y:=y21) h9 hn;simp only[qgy,p1,p2,p3,p4,p5];rw[zrc];have eA:(x1 != y1)=false↔x1=y1:=by simp
 have eV:(!(x14==y14))=false↔x14=y14:=by simp
 have eD:(!(x16==y16))=false↔x16=y16:=by simp
 have eU:(!(x22==y22))=false↔x22=y22:=by simp
 have ln:∀ {a b:Nat},(((a:Nat):Int) != ((b:Nat):Int))=false↔a=b:=by
  intro a b; simp[Int.natCast_inj]
 simp only[qck,qbj.rows,qar.rows,qaf.rows,List.length_map];cases hG:((x1 != y1)||(((x2.length:Nat):Int) != ((y2.length:Nat):Int))||!s1||!s2||(!(x14==y14))||(((x15.length:Nat):Int) != ((y15.length:Nat):Int))||(!(x16==y16))||(((x17.length:Nat):Int) != ((y17.length:Nat):Int))||!s3||!s4||(((x20.length:Nat):Int) != ((y20.length:Nat):Int))||!s5||(!(x22==y22)))with
 | true=>
  refine⟨false,rfl,?_⟩
  constructor
  ·intro h; cases h
  ·intro h
   rw[qab.mk.injEq]at h;obtain⟨a1,a2,a3,a4,a5,a6,a7,a8,a9,a10,a11,a12,a13⟩:=h;rw[q1.2 a3,q2.2 a4,q3.2 a9,q4.2 a10,q5.2 a12,eA.2 a1,eV.2 a5,eD.2 a7,eU.2 a13,ln.2 (congrArg _ a2),ln.2 (congrArg _ a6),ln.2 (congrArg _ a8),ln.2 (congrArg _ a11)]at hG;cases hG
 | false=>
  simp only[Bool.or_eq_false_iff,Bool.not_eq_false']at hG;obtain⟨⟨⟨⟨⟨⟨⟨⟨⟨⟨⟨⟨g1,g2⟩,g3⟩,g4⟩,g5⟩,g6⟩,g7⟩,g8⟩,g9⟩,g10⟩,g11⟩,g12⟩,g13⟩:=hG;obtain⟨b1,m1,w1⟩:=zo6 hn h8l (ln.1 g11) h8;obtain⟨b2,m2,w2⟩:=zm4 hn h5l (ln.1 g8) h5 m1;obtain⟨b3,m3,w3⟩:=zm3 hn h4l (ln.1 g6) h4 m2;obtain⟨b4,m4,w4⟩:=zm5 hn h1l (ln.1 g2) h1 m3;refine⟨b4,m4,?_⟩;rw[w4,w3,w2,w1,qab.mk.injEq];have z1:=eA.1 g1;have z3:=q1.1 g3;have z4:=q2.1 g4;have z9:=q3.1 g9;have z10:=q4.1 g10;have z12:=q5.1 g12;have z5:x14=y14:=by simpa using g5
  have z7:x16=y16:=by simpa using g7
  have z13:x22=y22:=by simpa using g13
  constructor
  ·rintro⟨r1,r2,r3,r4⟩
   exact⟨z1,r1,z3,z4,z5,r2,z7,r3,z9,z10,r4,z12,z13⟩
  ·rintro⟨_,r1,_,_,_,r2,_,r3,_,_,r4,_,_⟩
   exact⟨r1,r2,r3,r4⟩
end W
end
section
open Go Ax
namespace W
def zor (c:qab):qab:=(qs7 0 c).getD default
theorem zr7 (n:Nat) (c:qab):qs7 n c=some (zor c):=by
 obtain⟨x1,x2,x3,⟨x4,x5,⟨x6,x7,x8,x9,x10,x11⟩,x12,x13⟩,x14,x15,x16,x17,x18,x19,x20,x21,x22⟩:=c;simp only[zor,qs7,qfr,qo7,qo8,qo9];cases x1==1; rotate_left; · rfl
 cases x1==2; rotate_left; · rfl
 cases x1==3; rotate_left; · rfl
 cases x1==9; rotate_left; · rfl
 cases x1==4; rotate_left; · rfl
 cases x1==5; rotate_left; · rfl
 cases x1==6; rotate_left; · rfl
 cases x1==7; rotate_left; · rfl
 cases x1==8; rotate_left; · rfl
 rfl
end W
end
section
open Go Ax
namespace W
theorem que (l:List qbo):(qbo.rows l).length=l.length:=by simp[qbo.rows]
theorem qyp {A:Type} {B:(List qbo×Int->Option (List qbo))->List qbo×Int->Option (List qbo)} {l:List A} (f:A->qbo)
  (step:∀ (k:Nat) x nx acc,l[k]? =some x->B nx (acc,(k:Int))=chk (decide ((qbo.rows (acc++[f x])).length * 16<=140737488355328)) (nx (acc++[f x],((k+1:Nat):Int))))
  (hend:∀ nx acc,B nx (acc,(l.length:Int))=some acc) {n:Nat} (hn:l.length<n) (hs:l.length<=1073741824):qan B n ([],(0:Int))=some (l.map f):=by
 have main:∀ m k:Nat,k<=l.length->l.length - k<m->qan B m ((l.take k).map f,(k:Int))=some (l.map f):=by
  intro m
  induction m with
  | zero=>intro k _ h; omega
  | succ m ih=>
   intro k hk hm;rw[qbg];by_cases he:k=l.length
   ·subst he
    rw[hend,List.take_length]
   ·have h1:k<l.length:=by omega
    have hx:=List.getElem?_eq_getElem h1;rw[step k _ _ _ hx];have e:(l.take k).map f++[f l[k]]=(l.take (k+1)).map f:=by
     rw[List.take_succ,hx,List.map_append]; rfl
    rw[e,q30 (by rw[que,List.length_map,List.length_take]; omega)];exact ih (k+1) (by omega) (by omega)
 have:=main n 0 (by omega) (by omega);simpa using this
theorem zlh {n:Nat} (hn:n<=1073741824) {l:List qa6} (h:l.length<n):qdo n l=some (l.map .path):=by
 refine qyp (B:=qby n l) (l:=l) .path (fun k x nx acc hx=>?_) (fun nx acc=>by simp only[qby,qck,qas,cond_false]) h (by omega)
 have hk:=qb0 hx;obtain⟨x1,x2⟩:=x;simp only[qby,qnf,qck,qa7 hk,cond_true,qal hx,qah];rw[qcg (by omega)]
end W
end
section
open Go Ax
namespace W
theorem zli {n:Nat} (hn:n<=1073741824) {l:List qaa} (h:l.length<n):qdk n l=some (l.map .expr):=by
 refine qyp (B:=qbu n l) (l:=l) .expr (fun k x nx acc hx=>?_) (fun nx acc=>by simp only[qbu,qaq,qas,cond_false]) h (by omega)
 have hk:=qb0 hx;obtain⟨x1,x2,⟨x3,x4,x5,x6,x7,x8⟩,x9,x10⟩:=x;simp only[qbu,qng,qaq,qa7 hk,cond_true,qal hx,qah];rw[qcg (by omega)]
theorem zll {n:Nat} (hn:n<=1073741824) {l:List qaa} (h:l.length<n):qdl n l=some (l.map .expr):=by
 refine qyp (B:=qbv n l) (l:=l) .expr (fun k x nx acc hx=>?_) (fun nx acc=>by simp only[qbv,qaq,qas,cond_false]) h (by omega)
 have hk:=qb0 hx;obtain⟨x1,x2,⟨x3,x4,x5,x6,x7,x8⟩,x9,x10⟩:=x;simp only[qbv,qnj,qaq,qa7 hk,cond_true,qal hx,qah];rw[qcg (by omega)]
theorem zlm {n:Nat} (hn:n<=1073741824) {l:List qaa} (h:l.length<n):qdm n l=some (l.map .expr):=by
 refine qyp (B:=qbw n l) (l:=l) .expr (fun k x nx acc hx=>?_) (fun nx acc=>by simp only[qbw,qaq,qas,cond_false]) h (by omega)
 have hk:=qb0 hx;obtain⟨x1,x2,⟨x3,x4,x5,x6,x7,x8⟩,x9,x10⟩:=x;simp only[qbw,qnk,qaq,qa7 hk,cond_true,qal hx,qah];rw[qcg (by omega)]
theorem zlj {n:Nat} (hn:n<=1073741824) {l:List qbj} (h:l.length<n):qdn n l=some (l.map .item):=by
 refine qyp (B:=qbx n l) (l:=l) .item (fun k x nx acc hx=>?_) (fun nx acc=>by simp only[qbx,qbj.rows,List.length_map,qas,cond_false]) h (by omega)
 have hk:=qb0 hx;obtain⟨⟨x1,x2,⟨x3,x4,x5,x6,x7,x8⟩,x9,x10⟩,x11⟩:=x;simp only[qbx,qnh,qbj.rows,List.length_map,qa7 hk,cond_true,qal hx,qah];rw[qcg (by omega)]
theorem zlk {n:Nat} (hn:n<=1073741824) {l:List qar} (h:l.length<n):qdp n l=some (l.map .sorted):=by
 refine qyp (B:=qbz n l) (l:=l) .sorted (fun k x nx acc hx=>?_) (fun nx acc=>by simp only[qbz,qar.rows,List.length_map,qas,cond_false]) h (by omega)
 have hk:=qb0 hx;obtain⟨⟨x1,x2,⟨x3,x4,x5,x6,x7,x8⟩,x9,x10⟩,x11⟩:=x;simp only[qbz,qni,qar.rows,List.length_map,qa7 hk,cond_true,qal hx,qah];rw[qcg (by omega)]
theorem zln {n:Nat} (hn:n<=1073741824) {l:List (List UInt8)} (h:l.length<n):qdz n l=some (l.map .name):=by
 refine qyp (B:=qb4 n l) (l:=l) .name (fun k x nx acc hx=>?_) (fun nx acc=>by simp only[qb4,qaz,qas,cond_false]) h (by omega)
 have hk:=qb0 hx;simp only[qb4,qnl,qaz,qa7 hk,cond_true,qal hx,qah];rw[qcg (by omega)]
theorem zlo {n:Nat} (hn:n<=1073741824) {l:List qaf} (h:l.length<n) (x2:Int) (x3:List qa6) (x4:List qaa) (x5:Int) (x6:List UInt8) (x7:Int) (x8:Bool) (x9:Int) (x10:List UInt8) (x11:List Val) (x12:List (List UInt8)) (x13:List (List UInt8)) (x14:List qaa) (x15:List UInt8) (x16:List qbj) (x17:Bool) (x18:List qar) (x19:List qaa) (x20:List qaa) (x21:List qaf) (x22:List (List UInt8)) (x23:Bool) :
  qc9 n l x2 x3 x4 x5 x6 x7 x8 x9 x10 x11 x12 x13 x14 x15 x16 x17 x18 x19 x20 x21 x22 x23=some (l.map fun s=>.change ⟨s,x2==6⟩):=by
 refine qyp (B:=qbm n l x2 x3 x4 x5 x6 x7 x8 x9 x10 x11 x12 x13 x14 x15 x16 x17 x18 x19 x20 x21 x22 x23) (l:=l) (fun s=>.change ⟨s,x2==6⟩) (fun k x nx acc hx=>?_) (fun nx acc=>by simp only[qbm,qaf.rows,List.length_map,qas,cond_false]) h (by omega)
 have hk:=qb0 hx;obtain⟨y1,y2,y3,⟨y4,y5,⟨y6,y7,y8,y9,y10,y11⟩,y12,y13⟩⟩:=x;simp only[qbm,qnm,qaf.rows,List.length_map,qa7 hk,cond_true,qal hx,qah];rw[qcg (by omega)]
end W
end
section
open Go Ax
namespace W
def zap:qaa:=⟨0,[],q2e,[],[]⟩
theorem zkq {n:Nat} (hn:n<=1073741824) {x:qaa} (hx:qki x<n):∃ b,qi4 n x=some b/\(b=true↔x=zap):=by
 obtain⟨op,name,⟨a1,a2,a3,a4,a5,a6⟩,names,args⟩:=x;have hb:zah ⟨a1,a2,a3,a4,a5,a6⟩<n:=by simp only[qki]at hx; omega
 obtain⟨s2,hv1,hv2⟩:=(q4k n (by omega)).1 ⟨a1,a2,a3,a4,a5,a6⟩ q2e hb;have hv1':=hv1;unfold q2e at hv1';simp only[qi4,hv1',qaz,qaq];have key:(bnd (qaw (bif op==0 then name==[]else false) (some s2)) fun x11=>some (bif(bif(bif(bif op==0 then name==[]else false)then x11 else false)then(((names.length:Nat):Int)==0)else false)then(((args.length:Nat):Int)==0)else false))=some ((op==0)&&(name==[])&&s2&&(((names.length:Nat):Int)==0)&&(((args.length:Nat):Int)==0)):=by
  generalize (((names.length:Nat):Int)==0)=L1;generalize (((args.length:Nat):Int)==0)=L2;cases op==0<;>cases name==[]<;>cases s2<;>cases L1<;>cases L2<;>rfl
 refine⟨_,key,?_⟩;simp only[Bool.and_eq_true,beq_iff_eq,hv2,zap,qaa.mk.injEq,Int.natCast_eq_zero,List.length_eq_zero_iff]
 constructor
 ·rintro⟨⟨⟨⟨h1,h2⟩,h3⟩,h4⟩,h5⟩; exact⟨h1,h2,h3,h4,h5⟩
 ·rintro⟨h1,h2,h3,h4,h5⟩; exact⟨⟨⟨⟨h1,h2⟩,h3⟩,h4⟩,h5⟩
theorem zql {a b:Nat}:(((a:Nat):Int)==((b:Nat):Int))=decide (a=b):=by
 rw[Bool.eq_iff_iff]; simp[Int.natCast_inj]
theorem znz {n:Nat} (hn:n<=1073741824) {c c':qab} (h:qki c.e<n) :
  ∃ b,qd8 n c c'=some b/\(b=true↔c.paths.length=c'.paths.length/\c.where_.length=c'.where_.length/\((qjq c'.e).1≠0\/c.e=zap)/\c.var_=c'.var_/\c.items.length=c'.items.length/\c.unique=c'.unique /\
   c.order.length=c'.order.length/\c.skip.length=c'.skip.length/\c.limit.length=c'.limit.length/\c.sets.length=c'.sets.length/\c.vars.length=c'.vars.length/\c.detach=c'.detach):=by
 obtain⟨x1,x2,x3,⟨x4,x5,⟨x6,x7,x8,x9,x10,x11⟩,x12,x13⟩,x14,x15,x16,x17,x18,x19,x20,x21,x22⟩:=c;obtain⟨y1,y2,y3,⟨y4,y5,⟨y6,y7,y8,y9,y10,y11⟩,y12,y13⟩,y14,y15,y16,y17,y18,y19,y20,y21,y22⟩:=c';obtain⟨s,h1,h2⟩:=zkq hn h;simp only at h1 h2;simp only[qd8,h1,← h2,qjq,qck,qaq,qaz,qbj.rows,qar.rows,qaf.rows,List.length_map,zql];have key:∀ A B C D F G H I J K L M:Bool,(bnd (qaw ((bif A then B else false)&&!C) (some s)) fun x45=>some (bif(bif(bif(bif(bif(bif(bif(bif(bif(bif(bif A then B else false)then(bif C then true else x45)else false)then D else false)then F else false)then G else false)then H else false)then I else false)then J else false)then K else false)then L else false)then M else false))
   = some (A&&B&&(C||s)&&D&&F&&G&&H&&I&&J&&K&&L&&M):=by
  intro A B C D F G H I J K L M;cases A; · rfl
  cases B; · rfl
  cases C<;>cases s<;>cases D<;>cases F<;>cases G<;>cases H<;>first|rfl|(cases I<;>cases J<;>cases K<;>cases L<;>cases M<;>rfl)
 refine⟨_,key _ _ _ _ _ _ _ _ _ _ _ _,?_⟩;simp only[Bool.and_eq_true,Bool.or_eq_true,decide_eq_true_eq,beq_iff_eq,bne_iff_ne,and_assoc]
end W
end
section
open Go Ax
namespace W
def qpf (k:Int):qab:=⟨k,[],[],zap,[],[],false,[],[],[],[],[],false⟩
def za6 (c:qab):qab:=
 if c.kind=1 then{ qpf c.kind with paths:=c.paths,where_:=c.where_ }
 else if c.kind=2 then{ qpf c.kind with e:=c.e,var_:=c.var_ }
 else if c.kind=3 then{ qpf c.kind with where_:=c.where_,items:=c.items,unique:=c.unique,order:=c.order,skip:=c.skip,limit:=c.limit }
 else if c.kind=9 then{ qpf c.kind with items:=c.items,unique:=c.unique,order:=c.order,skip:=c.skip,limit:=c.limit }
 else if c.kind=4\/c.kind=5 then{ qpf c.kind with paths:=c.paths }
 else if c.kind=6\/c.kind=7 then{ qpf c.kind with sets:=c.sets }
 else if c.kind=8 then{ qpf c.kind with vars:=c.vars,detach:=c.detach }
 else qpf c.kind
theorem zqy (c:qab):zor c=za6 c:=by
 obtain⟨x1,x2,x3,⟨x4,x5,⟨x6,x7,x8,x9,x10,x11⟩,x12,x13⟩,x14,x15,x16,x17,x18,x19,x20,x21,x22⟩:=c;by_cases h1:x1=1; · subst h1; rfl
 by_cases h2:x1=2; · subst h2; rfl
 by_cases h3:x1=3; · subst h3; rfl
 by_cases h9:x1=9; · subst h9; rfl
 by_cases h4:x1=4; · subst h4; rfl
 by_cases h5:x1=5; · subst h5; rfl
 by_cases h6:x1=6; · subst h6; rfl
 by_cases h7:x1=7; · subst h7; rfl
 by_cases h8:x1=8; · subst h8; rfl
 simp only[za6,if_neg h1,if_neg h2,if_neg h3,if_neg h9,h4,h5,h6,h7,if_neg h8,or_self,if_false];simp only[zor,qs7,qfr,qo7,qo8,qo9,beq_eq_false_iff_ne.2 h1,beq_eq_false_iff_ne.2 h2,beq_eq_false_iff_ne.2 h3,beq_eq_false_iff_ne.2 h9,beq_eq_false_iff_ne.2 h4,beq_eq_false_iff_ne.2 h5,beq_eq_false_iff_ne.2 h6,beq_eq_false_iff_ne.2 h7,beq_eq_false_iff_ne.2 h8,cond_false];rfl
theorem zkl {n:Nat} (hn:n<=1073741824) {c:qab} (h:qki c.e<n):∃ b,qd8 n c (za6 c)=some b/\(b=true->za6 c=c)/\(za6 c=c->b=true\/(c.kind=2/\(qjq c.e).1=0)):=by
 obtain⟨b,h1,h2⟩:=znz hn (c':=za6 c) h;refine⟨b,h1,?_⟩;rw[h2];clear h1 h2;obtain⟨x1,x2,x3,x4,x14,x15,x16,x17,x18,x19,x20,x21,x22⟩:=c;have nl:∀ {A:Type} (l:List A),l.length=([]:List A).length↔l=[]:=fun l=>by simp
 have hb:(qjq zap).1=0:=rfl;unfold za6;by_cases h1:x1=1
 ·subst h1
  simp only[qpf,nl,hb,qab.mk.injEq,ne_eq,show((1:Int)=1)=True by decide,show((1:Int)=2)=False by decide,show((1:Int)=3)=False by decide,show((1:Int)=9)=False by decide,show((1:Int)=4)=False by decide,show((1:Int)=5)=False by decide,show((1:Int)=6)=False by decide,show((1:Int)=7)=False by decide,show((1:Int)=8)=False by decide,if_true,if_false,or_true,true_or,or_self,or_false,false_or,not_true]
  constructor
  ·intro h; simp_all
  ·intro h
   left; simp_all
 by_cases h2:x1=2
 ·subst h2
  simp only[qpf,nl,hb,qab.mk.injEq,ne_eq,show((2:Int)=1)=False by decide,show((2:Int)=2)=True by decide,show((2:Int)=3)=False by decide,show((2:Int)=9)=False by decide,show((2:Int)=4)=False by decide,show((2:Int)=5)=False by decide,show((2:Int)=6)=False by decide,show((2:Int)=7)=False by decide,show((2:Int)=8)=False by decide,if_true,if_false,or_true,true_or,or_self,or_false,false_or,not_true]
  constructor
  ·intro h; simp_all
  ·intro h
   by_cases h0:(qjq x4).1=0
   ·right; exact⟨trivial,h0⟩
   ·left; simp_all
 by_cases h3:x1=3
 ·subst h3
  simp only[qpf,nl,hb,qab.mk.injEq,ne_eq,show((3:Int)=1)=False by decide,show((3:Int)=2)=False by decide,show((3:Int)=3)=True by decide,show((3:Int)=9)=False by decide,show((3:Int)=4)=False by decide,show((3:Int)=5)=False by decide,show((3:Int)=6)=False by decide,show((3:Int)=7)=False by decide,show((3:Int)=8)=False by decide,if_true,if_false,or_true,true_or,or_self,or_false,false_or,not_true]
  constructor
  ·intro h; simp_all
  ·intro h
   left; simp_all
 by_cases h9:x1=9
 ·subst h9
  simp only[qpf,nl,hb,qab.mk.injEq,ne_eq,show((9:Int)=1)=False by decide,show((9:Int)=2)=False by decide,show((9:Int)=3)=False by decide,show((9:Int)=9)=True by decide,show((9:Int)=4)=False by decide,show((9:Int)=5)=False by decide,show((9:Int)=6)=False by decide,show((9:Int)=7)=False by decide,show((9:Int)=8)=False by decide,if_true,if_false,or_true,true_or,or_self,or_false,false_or,not_true]
  constructor
  ·intro h; simp_all
  ·intro h
   left; simp_all
 by_cases h4:x1=4
 ·subst h4
  simp only[qpf,nl,hb,qab.mk.injEq,ne_eq,show((4:Int)=1)=False by decide,show((4:Int)=2)=False by decide,show((4:Int)=3)=False by decide,show((4:Int)=9)=False by decide,show((4:Int)=4)=True by decide,show((4:Int)=5)=False by decide,show((4:Int)=6)=False by decide,show((4:Int)=7)=False by decide,show((4:Int)=8)=False by decide,if_true,if_false,or_true,true_or,or_self,or_false,false_or,not_true]
  constructor
  ·intro h; simp_all
  ·intro h
   left; simp_all
 by_cases h5:x1=5
 ·subst h5
  simp only[qpf,nl,hb,qab.mk.injEq,ne_eq,show((5:Int)=1)=False by decide,show((5:Int)=2)=False by decide,show((5:Int)=3)=False by decide,show((5:Int)=9)=False by decide,show((5:Int)=4)=False by decide,show((5:Int)=5)=True by decide,show((5:Int)=6)=False by decide,show((5:Int)=7)=False by decide,show((5:Int)=8)=False by decide,if_true,if_false,or_true,true_or,or_self,or_false,false_or,not_true]
  constructor
  ·intro h; simp_all
  ·intro h
   left; simp_all
 by_cases h6:x1=6
 ·subst h6
  simp only[qpf,nl,hb,qab.mk.injEq,ne_eq,show((6:Int)=1)=False by decide,show((6:Int)=2)=False by decide,show((6:Int)=3)=False by decide,show((6:Int)=9)=False by decide,show((6:Int)=4)=False by decide,show((6:Int)=5)=False by decide,show((6:Int)=6)=True by decide,show((6:Int)=7)=False by decide,show((6:Int)=8)=False by decide,if_true,if_false,or_true,true_or,or_self,or_false,false_or,not_true]
  constructor
  ·intro h; simp_all
  ·intro h
   left; simp_all
 by_cases h7:x1=7
 ·subst h7
  simp only[qpf,nl,hb,qab.mk.injEq,ne_eq,show((7:Int)=1)=False by decide,show((7:Int)=2)=False by decide,show((7:Int)=3)=False by decide,show((7:Int)=9)=False by decide,show((7:Int)=4)=False by decide,show((7:Int)=5)=False by decide,show((7:Int)=6)=False by decide,show((7:Int)=7)=True by decide,show((7:Int)=8)=False by decide,if_true,if_false,or_true,true_or,or_self,or_false,false_or,not_true]
  constructor
  ·intro h; simp_all
  ·intro h
   left; simp_all
 by_cases h8:x1=8
 ·subst h8
  simp only[qpf,nl,hb,qab.mk.injEq,ne_eq,show((8:Int)=1)=False by decide,show((8:Int)=2)=False by decide,show((8:Int)=3)=False by decide,show((8:Int)=9)=False by decide,show((8:Int)=4)=False by decide,show((8:Int)=5)=False by decide,show((8:Int)=6)=False by decide,show((8:Int)=7)=False by decide,show((8:Int)=8)=True by decide,if_true,if_false,or_true,true_or,or_self,or_false,false_or,not_true]
  constructor
  ·intro h; simp_all
  ·intro h
   left; simp_all
 simp only[qpf,nl,hb,qab.mk.injEq,ne_eq,if_neg h1,if_neg h2,if_neg h3,if_neg h9,h4,h5,h6,h7,if_neg h8,or_self,if_false,not_true,false_or]
 constructor
 ·intro h; simp_all
 ·intro h; left; simp_all
end W
end
section
open Go Ax
namespace W
abbrev PG:=List qbo×Int×Int
def g3 (g:qba):PG:=(g.parts,g.least,g.most)
def qwy (c:qab):List PG:=
 if c.kind=1 then[(c.paths.map .path,1,1048576),(c.where_.map .expr,0,1)]
 else if c.kind=2 then[([.expr c.e],1,1),([.name c.var_],1,1)]
 else if c.kind=3 then[(c.items.map .item,1,1048576),(c.order.map .sorted,0,1048576),(c.skip.map .expr,0,1),(c.limit.map .expr,0,1),(c.where_.map .expr,0,1)]
 else if c.kind=9 then[(c.items.map .item,1,1048576),(c.order.map .sorted,0,1048576),(c.skip.map .expr,0,1),(c.limit.map .expr,0,1)]
 else if c.kind=4 then[(c.paths.map .path,1,1048576)]
 else if c.kind=5 then[(c.paths.map .path,1,1)]
 else if c.kind=6\/c.kind=7 then[(c.sets.map (fun s=>.change ⟨s,c.kind==6⟩),1,1048576)]
 else if c.kind=8 then[(c.vars.map .name,1,1048576)]
 else[]
def q6b (c:qab):Prop:=c.kind=5/\∃ p,c.paths=[p]/\p.edges≠[]
def q7e (c:qab) (o:Option (List qba×Bool)):Prop:=
 (q6b c/\o=some ([],false))\/(¬ q6b c/\∃ gl b,o=some (gl,b)/\gl.map g3=qwy c/\(b=true->za6 c=c)/\(za6 c=c->b=true\/(c.kind=2/\(qjq c.e).1=0)))
section
variable {n:Nat} (hn:n<=1073741824) {x1:Int} {x2:List qa6} {x3:List qaa} {x4:Int} {x5:List UInt8} {x6:Int} {x7:Bool} {x8:Int} {x9:List UInt8} {x10:List Val} {x11:List (List UInt8)} {x12:List (List UInt8)} {x13:List qaa} {x14:List UInt8} {x15:List qbj} {x16:Bool} {x17:List qar} {x18:List qaa} {x19:List qaa} {x20:List qaf} {x21:List (List UInt8)} {x22:Bool}
include hn
theorem zeu (h:qki ⟨x4,x5,⟨x6,x7,x8,x9,x10,x11⟩,x12,x13⟩<n) {w:List UInt8} (hw:w.length<=9) :
  q7e ⟨x1,x2,x3,⟨x4,x5,⟨x6,x7,x8,x9,x10,x11⟩,x12,x13⟩,x14,x15,x16,x17,x18,x19,x20,x21,x22⟩
   (qht n x1 x2 x3 x4 x5 x6 x7 x8 x9 x10 x11 x12 x13 x14 x15 x16 x17 x18 x19 x20 x21 x22 (x2.map .path) (x3.map .expr) (x15.map .item) (x17.map .sorted) (x18.map .expr) (x19.map .expr) (x20.map fun s=>.change ⟨s,x1==6⟩) (x21.map .name) w):=by
 obtain⟨b,hb,h1,h2⟩:=zkl hn (c:=⟨x1,x2,x3,⟨x4,x5,⟨x6,x7,x8,x9,x10,x11⟩,x12,x13⟩,x14,x15,x16,x17,x18,x19,x20,x21,x22⟩) h;have hm:(100:Int)<=qtu:=by unfold qtu; decide
 unfold qht;by_cases k1:x1=1
 ·subst k1
  rw[beq_self_eq_true,cond_true];rw[show za6 _=_ from rfl]at hb;exact .inr ⟨fun h=>absurd (show((1:Int)=5)from h.1) (by decide),_,b,Eq.trans (congrArg (fun o=>bnd o _) hb) rfl,rfl,h1,h2⟩
 rw[beq_eq_false_iff_ne.2 k1,cond_false];by_cases k2:x1=2
 ·subst k2
  rw[beq_self_eq_true,cond_true];exact .inr ⟨fun h=>absurd (show((2:Int)=5)from h.1) (by decide),_,b,Eq.trans (congrArg (fun o=>bnd o _) hb) rfl,rfl,h1,h2⟩
 rw[beq_eq_false_iff_ne.2 k2,cond_false];by_cases k3:x1=3
 ·subst k3
  rw[beq_self_eq_true,cond_true];unfold qhu;generalize qtu=M at hm ⊢;rw[cond_true,qd5 (decide_eq_true (by simp only[List.length_cons,List.length_nil]; omega)),qd5 (by simp[qba.rows]),beq_self_eq_true,cond_true,qd5 (decide_eq_true (by simp only[List.length_cons,List.length_nil]; omega)),qd5 (by simp[qba.rows])];simp only[List.cons_append,List.nil_append,List.getElem?_cons_zero,qah,List.set_cons_zero];rw[qd5 (by simp[qba.rows])];unfold qhv;exact .inr ⟨fun h=>absurd (show((3:Int)=5)from h.1) (by decide),_,b,Eq.trans (congrArg (fun o=>bnd o _) hb) rfl,rfl,h1,h2⟩
 rw[beq_eq_false_iff_ne.2 k3,cond_false];unfold qhu;by_cases k9:x1=9
 ·subst k9
  generalize qtu=M at hm ⊢;rw[beq_self_eq_true,cond_true,qd5 (decide_eq_true (by simp only[List.length_cons,List.length_nil]; omega)),qd5 (by simp[qba.rows]),show((9:Int)==3)=false from rfl,cond_false];unfold qhv;exact .inr ⟨fun h=>absurd (show((9:Int)=5)from h.1) (by decide),_,b,Eq.trans (congrArg (fun o=>bnd o _) hb) rfl,rfl,h1,h2⟩
 rw[beq_eq_false_iff_ne.2 k9,cond_false];by_cases k4:x1=4
 ·subst k4
  rw[beq_self_eq_true,cond_true];exact .inr ⟨fun h=>absurd (show((4:Int)=5)from h.1) (by decide),_,b,Eq.trans (congrArg (fun o=>bnd o _) hb) rfl,rfl,h1,h2⟩
 rw[beq_eq_false_iff_ne.2 k4,cond_false];by_cases k5:x1=5
 ·subst k5
  rw[beq_self_eq_true,cond_true];have good:∀ hng:¬ q6b ⟨5,x2,x3,⟨x4,x5,⟨x6,x7,x8,x9,x10,x11⟩,x12,x13⟩,x14,x15,x16,x17,x18,x19,x20,x21,x22⟩,q7e ⟨5,x2,x3,⟨x4,x5,⟨x6,x7,x8,x9,x10,x11⟩,x12,x13⟩,x14,x15,x16,x17,x18,x19,x20,x21,x22⟩ (bnd (qd8 n ⟨5,x2,x3,⟨x4,x5,⟨x6,x7,x8,x9,x10,x11⟩,x12,x13⟩,x14,x15,x16,x17,x18,x19,x20,x21,x22⟩ (za6 ⟨5,x2,x3,⟨x4,x5,⟨x6,x7,x8,x9,x10,x11⟩,x12,x13⟩,x14,x15,x16,x17,x18,x19,x20,x21,x22⟩)) fun x45=>
    some ([qba.mk ([77,69,82,71,69,32]:List UInt8) (x2.map .path) (1:Int) (1:Int)],x45)):=fun hng=>
   .inr ⟨hng,_,b,Eq.trans (congrArg (fun o=>bnd o _) hb) rfl,rfl,h1,h2⟩
  match x2 with
  | []=>exact good (by rintro⟨_,p,hp,_⟩; cases hp)
  | [⟨nodes,[]⟩]=>exact good (by rintro⟨_,p,hp,he⟩; cases hp; exact he rfl)
  | [⟨nodes,e::es⟩]=>
   refine .inl ⟨⟨rfl,_,rfl,by simp⟩,?_⟩;have e2:decide ((((qag.rows (e::es)).length:Nat):Int)>0)=true:=decide_eq_true (by rw[qfv]; simp only[List.length_cons]; omega);have e1:((((qa6.rows [⟨nodes,e::es⟩]).length:Nat):Int)==(1:Int))=true:=rfl;rw[e1,qd6,qrc,qah];simp only[e2,cond_true]
  | p::q::l=>
   have e1:((((qa6.rows (p::q::l)).length:Nat):Int)==(1:Int))=false:=by rw[qck]; simp only[List.length_cons]; rw[beq_eq_false_iff_ne]; omega
   rw[e1,zc2,qah];exact good (by rintro⟨_,p,hp,_⟩; cases hp)
 rw[beq_eq_false_iff_ne.2 k5,cond_false];unfold qke qi5 qi6;by_cases k6:x1=6
 ·subst k6
  rw[beq_self_eq_true,cond_true,cond_true,show((6:Int)==7)=false from rfl,cond_false];exact .inr ⟨fun h=>absurd (show((6:Int)=5)from h.1) (by decide),_,b,Eq.trans (congrArg (fun o=>bnd o _) hb) rfl,rfl,h1,h2⟩
 rw[beq_eq_false_iff_ne.2 k6,cond_false];by_cases k7:x1=7
 ·subst k7
  rw[beq_self_eq_true,cond_true,cond_true];exact .inr ⟨fun h=>absurd (show((7:Int)=5)from h.1) (by decide),_,b,Eq.trans (congrArg (fun o=>bnd o _) hb) rfl,rfl,h1,h2⟩
 rw[beq_eq_false_iff_ne.2 k7,cond_false];by_cases k8:x1=8
 ·subst k8
  rw[beq_self_eq_true,cond_true];cases x22 with
  | true=>
   rw[cond_true];exact .inr ⟨fun h=>absurd (show((8:Int)=5)from h.1) (by decide),_,b,Eq.trans (congrArg (fun o=>bnd o _) hb) rfl,rfl,h1,h2⟩
  | false=>
   rw[cond_false];exact .inr ⟨fun h=>absurd (show((8:Int)=5)from h.1) (by decide),_,b,Eq.trans (congrArg (fun o=>bnd o _) hb) rfl,rfl,h1,h2⟩
 rw[beq_eq_false_iff_ne.2 k8,cond_false];have eo:za6 ⟨x1,x2,x3,⟨x4,x5,⟨x6,x7,x8,x9,x10,x11⟩,x12,x13⟩,x14,x15,x16,x17,x18,x19,x20,x21,x22⟩=qpf x1:=by
  unfold za6;simp only[k1,k2,k3,k9,k4,k5,k6,k7,k8,if_false,or_self]
 refine .inr ⟨fun h=>absurd h.1 k5,[],b,Eq.trans (congrArg (fun o=>bnd o fun x=>some (([]:List qba),x)) (show _=some b from ?_)) rfl,?_,h1,h2⟩
 ·rw[← hb,eo]; rfl
 ·unfold qwy
  simp only[k1,k2,k3,k9,k4,k5,k6,k7,k8,if_false,or_self];rfl
end
theorem zlp {n:Nat} (hn:n<=1073741824) {c:qab} (h:qde c<n):q7e c (qlq n c):=by
 have hp:=qbi qjt (fun p=>by unfold qjt; omega) c.paths
 have hi:=qbi qsb (fun p=>by unfold qsb; omega) c.items
 have ho:=qbi qhy (fun p=>by unfold qhy; omega) c.order
 have hs:=qbi qib (fun p=>by unfold qib; omega) c.sets
 have hv:=qeb c.vars;have h3:=qdx c.where_;have h4:=qdx c.skip;have h5:=qdx c.limit;unfold qde qwo at h;obtain⟨x1,x2,x3,⟨x4,x5,⟨x6,x7,x8,x9,x10,x11⟩,x12,x13⟩,x14,x15,x16,x17,x18,x19,x20,x21,x22⟩:=c;simp only at h hp hi ho hs hv h3 h4 h5;unfold qlq;simp only[zlh hn (l:=x2) (by omega),zli hn (l:=x3) (by omega),zlj hn (l:=x15) (by omega),zlk hn (l:=x17) (by omega),zll hn (l:=x18) (by omega),zlm hn (l:=x19) (by omega),zln hn (l:=x21) (by omega),zlo hn (l:=x20) (by omega),qah];cases x16 with
 | true=>exact zeu hn (by omega) (by decide)
 | false=>exact zeu hn (by omega) (by decide)
end W
end
section
open Go Ax
namespace W
def qwq (n:Nat) (x:qaa):Bool:=(qcz n x 32).getD false
def q4b (n:Nat) (p:qa6):Bool:=(qii n p).getD false
def zdf (n:Nat) (f:Bool) (s:qaf):Bool:=(qgt n ⟨s,f⟩).getD false
def zhi (n:Nat):qbo->Bool
 | .path p=>q4b n p
 | .expr x=>qwq n x
 | .item i=>qdw i.as_&&qwq n i.e
 | .sorted s=>qwq n s.e
 | .name s=>qdw s
 | .change c=>zdf n c.set_ c.setItem
def q57:qbo->Nat
 | .path p=>qjt p
 | .expr x=>qki x
 | .item i=>qsb i
 | .sorted s=>qhy s
 | .name s=>1+s.length
 | .change c=>qib c.setItem
theorem zc0 {n:Nat} (hn:n<=1073741824) {x:qaa} (h:40+qki x<n):qg3 n x=some (qwq n x):=by
 obtain⟨b,h1,_,_⟩:=qy5 hn h;unfold qwq;rw[h1];obtain⟨x1,x2,⟨x3,x4,x5,x6,x7,x8⟩,x9,x10⟩:=x;simp only[qg3,h1,qah,Option.getD_some]
theorem zos {n:Nat} (hn:n<=1073741824) {p:qbo} (h:42+q57 p<n):qpe n p=some (zhi n p):=by
 cases p with
 | path p=>
  obtain⟨b,h1,_,_⟩:=zdj hn (p:=p) h;simp only[qpe,zhi,q4b,h1,Option.getD_some]
 | expr x=>exact zc0 hn (by simp only[q57]at h; omega)
 | item i=>
  simp only[q57,qsb]at h;have h1:=zc0 hn (x:=i.e) (by omega);have h2:=qij (s:=i.as_) (n:=n) (by omega) hn;obtain⟨⟨x1,x2,⟨x3,x4,x5,x6,x7,x8⟩,x9,x10⟩,x11⟩:=i;simp only at h1 h2;simp only[qpe,qot,h1,h2,qah,zhi];cases qdw x11<;>rfl
 | sorted s=>
  simp only[q57,qhy]at h;have h1:=zc0 hn (x:=s.e) (by omega);obtain⟨⟨x1,x2,⟨x3,x4,x5,x6,x7,x8⟩,x9,x10⟩,x11⟩:=s;simp only at h1;simp only[qpe,qlz,h1,qah,zhi]
 | name s=>
  simp only[q57]at h;have h2:=qij (s:=s) (n:=n) (by omega) hn;simp only[qpe,qou,h2,qah,zhi]
 | change c=>
  obtain⟨s,f⟩:=c;simp only[q57,qib]at h;obtain⟨b,h1,_,_⟩:=q7y hn (s:=s) (by omega) f;simp only[qpe,zhi,zdf,h1,Option.getD_some]
theorem qud {A:Type} (g:A->Bool) (r:Option Bool):∀ l:List A,orE (qew (fun s=>if g s then none else some false) l) r=bif l.all g then r else some false
 | []=>rfl
 | a::l=>by
  simp only[qew,List.all_cons];cases g a with
  | true=>simpa using qud g r l
  | false=>rfl
@[simp] theorem qwl (l:List qba):(qba.rows l).length=l.length:=by simp[qba.rows]
theorem zji {n:Nat} (hn:n<=1073741824) {l:List qbo} (hp:∀ p∈l,42+q57 p<n) (hl:l.length<n) (nx2:Int->Option Bool) {k:Nat} (hk:k<n) :
  qan (qg2 n l nx2 (k:Int)) n (0:Int)=bif l.all (zhi n)then nx2 ((k+1:Nat):Int)else some false:=by
 have e:=qcy (B:=qg2 n l nx2 (k:Int)) (fun k=>((k:Nat):Int)) (l:=l) (fun p=>if zhi n p then none else some false) (rest:=nx2 ((k+1:Nat):Int))
  (fun j x nx hx=>by
   have hj:=qb0 hx;simp only[qg2,que,qa7 hj,cond_true,qal hx,qah,zos hn (hp x (qbk hx))];rw[qcg (by omega)];cases zhi n x<;>rfl)
  (fun nx=>by
   simp only[qg2,que,qas,cond_false];rw[qcg (by omega)]) (n:=n) hl
 refine Eq.trans e ?_;rw[qud]
def gOk (n:Nat) (g:PG):Bool:=!(bif decide (((g.1.length:Nat):Int)<g.2.1)then true else decide (((g.1.length:Nat):Int)>g.2.2))&&g.1.all (zhi n)
theorem zgt {n:Nat} (hn:n<=1073741824) {gl:List qba} (hg:∀ g∈gl,g.parts.length<n/\∀ p∈g.parts,42+q57 p<n) (hl:gl.length<n) (nx1:Int->Option Bool) {k:Nat} (hk:k<n) :
  qan (qg1 n gl nx1 (k:Int)) n (0:Int)=bif(gl.map g3).all (gOk n)then nx1 ((k+1:Nat):Int)else some false:=by
 have core:∀ (t a:Bool) (X:Option Bool),(bif t then some false else bif a then X else some false)=orE (if(!t&&a)then none else some false) X:=by
  intro t a X;cases t<;>cases a<;>rfl
 have e:=qcy (B:=qg1 n gl nx1 (k:Int)) (fun k=>((k:Nat):Int)) (l:=gl) (fun g=>if gOk n (g3 g)then none else some false) (rest:=nx1 ((k+1:Nat):Int))
  (fun j x nx hx=>by
   have hj:=qb0 hx;obtain⟨h1,h2⟩:=hg x (qbk hx);obtain⟨w,parts,least,most⟩:=x;simp only at h1 h2;have e3:=zji hn h2 h1 nx (k:=j) (by omega);simp only[qg1,qwl,que,qa7 hj,cond_true,qal hx,qah,e3];exact core _ _ _)
  (fun nx=>by
   simp only[qg1,qwl,qas,cond_false];rw[qcg (by omega)]) (n:=n) hl
 refine Eq.trans e ?_;rw[qud,List.all_map];rfl
theorem zhs {c:qab} {m:Nat} (h:qde c<=m):∀ g∈qwy c,g.1.length<=m/\∀ p∈g.1,q57 p<=m:=by
 have hp:=qbi qjt (fun p=>by unfold qjt; omega) c.paths
 have hi:=qbi qsb (fun p=>by unfold qsb; omega) c.items
 have ho:=qbi qhy (fun p=>by unfold qhy; omega) c.order
 have hs:=qbi qib (fun p=>by unfold qib; omega) c.sets
 have hv:=qeb c.vars;have h3:=qdx c.where_;have h4:=qdx c.skip;have h5:=qdx c.limit;have mp:∀ p∈c.paths,qjt p<=m:=fun p hm=>by have:=qb6 qjt hm; unfold qde qwo at h; omega
 have mi:∀ p∈c.items,qsb p<=m:=fun p hm=>by have:=qb6 qsb hm; unfold qde at h; omega
 have mo:∀ p∈c.order,qhy p<=m:=fun p hm=>by have:=qb6 qhy hm; unfold qde at h; omega
 have ms:∀ p∈c.sets,qib p<=m:=fun p hm=>by have:=qb6 qib hm; unfold qde at h; omega
 have mv:∀ p∈c.vars,1+p.length<=m:=fun p hm=>by have:=qb6 (fun k:List UInt8=>1+k.length) hm; unfold qde qz6 at h; omega
 have mw:∀ p∈c.where_,qki p<=m:=fun p hm=>by have:=qha hm; unfold qde at h; omega
 have mk:∀ p∈c.skip,qki p<=m:=fun p hm=>by have:=qha hm; unfold qde at h; omega
 have ml:∀ p∈c.limit,qki p<=m:=fun p hm=>by have:=qha hm; unfold qde at h; omega
 have me:qki c.e<=m:=by unfold qde at h; omega
 have mr:1+c.var_.length<=m:=by unfold qde at h; omega
 have hb:1<=m:=by unfold qde at h; omega
 unfold qde qwo at h;have am:∀ {A:Type} (l:List A) (f:A->qbo) (hl:l.length<=m) (hf:∀ a∈l,q57 (f a)<=m) (least most:Int),(l.map f,least,most).1.length<=m/\∀ p∈(l.map f,least,most).1,q57 p<=m:=by
  intro A l f hl hf least most;refine⟨by simpa using hl,fun p hp=>?_⟩;obtain⟨a,ha,rfl⟩:=List.mem_map.1 hp;exact hf a ha
 have gp:=fun a b=>am c.paths .path (by omega) mp a b
 have gw:=fun a b=>am c.where_ .expr (by omega) mw a b
 have gk:=fun a b=>am c.skip .expr (by omega) mk a b
 have gl:=fun a b=>am c.limit .expr (by omega) ml a b
 have gi:=fun a b=>am c.items .item (by omega) mi a b
 have go:=fun a b=>am c.order .sorted (by omega) mo a b
 have gv:=fun a b=>am c.vars .name (by omega) mv a b
 have gs:=fun a b=>am c.sets (fun s=>.change ⟨s,c.kind==6⟩) (by omega) ms a b
 have g1:=fun a b=>am [c.e] .expr (by simpa using hb) (fun a ha=>by simp at ha; subst ha; exact me) a b
 have g2:=fun a b=>am [c.var_] .name (by simpa using hb) (fun a ha=>by simp at ha; subst ha; exact mr) a b
 intro g hg;unfold qwy at hg
 repeat' split at hg
 all_goals
  simp only[List.mem_cons,List.not_mem_nil,or_false]at hg
 ·rcases hg with rfl|rfl
  ·exact gp _ _
  ·exact gw _ _
 ·rcases hg with rfl|rfl
  ·exact g1 _ _
  ·exact g2 _ _
 ·rcases hg with rfl|rfl|rfl|rfl|rfl
  ·exact gi _ _
  ·exact go _ _
  ·exact gk _ _
  ·exact gl _ _
  ·exact gw _ _
 ·rcases hg with rfl|rfl|rfl|rfl
  ·exact gi _ _
  ·exact go _ _
  ·exact gk _ _
  ·exact gl _ _
 ·subst hg; exact gp _ _
 ·subst hg; exact gp _ _
 ·subst hg; exact gs _ _
 ·subst hg; exact gv _ _
end W
end
section
open Go Ax
namespace W
theorem q74 {n:Nat} (hn:n<=1073741824) {l:List qaa} (h:40+qf1 l<n) (m:Int):qmb n l m=some (l.all (qwq n)&&decide (((l.length:Nat):Int)<=m)):=zn8 hn h m
theorem zdm {n:Nat} (hn:n<=1073741824) {x:qaa} (h:40+qki x<n):qfe n x=some (qwq n x):=by
 obtain⟨b,h1,h2,_⟩:=qy5 hn h;unfold qwq;rw[h1,h2]; rfl
theorem zou {n:Nat} (hn:n<=1073741824) {p:qa6} (h:42+qjt p<n):qm2 n p=some (q4b n p):=by
 obtain⟨b,h1,h2,_⟩:=zdj hn h;unfold q4b;rw[h1,h2]; rfl
theorem zra {n:Nat} (hn:n<=1073741824) {s:qaf} (h:42+qib s<n) (f:Bool):qo6 n s f=some (zdf n f s):=by
 unfold qib at h;obtain⟨b,h1,h2,_⟩:=q7y hn (s:=s) (by omega) f;unfold zdf;rw[h1,h2]; rfl
def exS (n:Nat) (l:List qaa):Bool:=l.all (qwq n)&&decide (((l.length:Nat):Int)<=1)
def zhl (n:Nat) (c:qab):Bool:=c.items.all (fun i=>qdw i.as_&&qwq n i.e)&&(c.order.all (fun s=>qwq n s.e)&&(decide (((c.items.length:Nat):Int)>0)&&(exS n c.skip&&exS n c.limit)))
theorem zo5 {n:Nat} (hn:n<=1073741824) {c:qab} (h:42+qde c<n):qvd n c=some (zhl n c):=by
 have hi:=qbi qsb (fun p=>by unfold qsb; omega) c.items
 have ho:=qbi qhy (fun p=>by unfold qhy; omega) c.order
 have mi:∀ p∈c.items,42+qsb p<n:=fun p hm=>by have:=qb6 qsb hm; unfold qde at h; omega
 have mo:∀ p∈c.order,42+qhy p<n:=fun p hm=>by have:=qb6 qhy hm; unfold qde at h; omega
 have e1:=q74 hn (l:=c.skip) (by unfold qde at h; omega) 1;have e2:=q74 hn (l:=c.limit) (by unfold qde at h; omega) 1;have a1:c.items.length<n:=by unfold qde at h; omega
 have a2:c.order.length<n:=by unfold qde at h; omega
 clear h;unfold zhl exS;obtain⟨x1,x2,x3,⟨x4,x5,⟨x6,x7,x8,x9,x10,x11⟩,x12,x13⟩,x14,x15,x16,x17,x18,x19,x20,x21,x22⟩:=c;simp only at hi ho mi mo e1 e2 a1 a2 ⊢;have l2:=qcy (B:=qm5 n x17 x15 x18 x19) (fun k=>((k:Nat):Int)) (l:=x17) (fun s=>if qwq n s.e then none else some false)
  (rest:=some (decide (((x15.length:Nat):Int)>0)&&((x18.all (qwq n)&&decide (((x18.length:Nat):Int)<=1))&&(x19.all (qwq n)&&decide (((x19.length:Nat):Int)<=1)))))
  (fun k x nx hx=>by
   have hk:=qb0 hx;have h1:=zdm hn (x:=x.e) (by have:=mo x (qbk hx); unfold qhy at this; omega);obtain⟨⟨y1,y2,⟨y3,y4,y5,y6,y7,y8⟩,y9,y10⟩,y11⟩:=x;simp only at h1;simp only[qm5,qar.rows,List.length_map,qa7 hk,cond_true,qal hx,qah,h1];rw[qcg (by omega)];cases qwq n _<;>rfl)
  (fun nx=>by
   simp only[qm5,qar.rows,qbj.rows,List.length_map,qas,cond_false,e1,e2];generalize decide (((x15.length:Nat):Int)>0)=d;generalize (x18.all (qwq n)&&decide (((x18.length:Nat):Int)<=1))=p;generalize (x19.all (qwq n)&&decide (((x19.length:Nat):Int)<=1))=q;cases d<;>cases p<;>cases q<;>rfl) (n:=n) a2
 rw[qud]at l2;have l1:=qcy (B:=qm4 n x15 x17 x18 x19) (fun k=>((k:Nat):Int)) (l:=x15) (fun i=>if(qdw i.as_&&qwq n i.e)then none else some false) (rest:=_)
  (fun k x nx hx=>by
   have hk:=qb0 hx;have hb:=mi x (qbk hx);unfold qsb at hb;have h1:=zdm hn (x:=x.e) (by omega);have h2:=qjd (s:=x.as_) (n:=n) (by omega) (by omega) hn;obtain⟨⟨y1,y2,⟨y3,y4,y5,y6,y7,y8⟩,y9,y10⟩,y11⟩:=x;simp only at h1 h2;simp only[qm4,qbj.rows,List.length_map,qa7 hk,cond_true,qal hx,qah,h1,h2];rw[qcg (by omega)];cases qdw y11 with
   | false=>rfl
   | true=>
    simp only[Bool.not_true,Bool.not_false,qd6,qah,h1,cond_false];cases qwq n _<;>rfl)
  (fun nx=>by
   simp only[qm4,qbj.rows,List.length_map,qas,cond_false];exact l2) (n:=n) a1
 rw[qud]at l1;unfold qvd;refine Eq.trans l1 ?_;generalize x15.all _=a;generalize x17.all _=b;cases a<;>cases b<;>rfl
def q2q (n:Nat) (c:qab):Bool:=
 if c.kind=1 then decide (((c.paths.length:Nat):Int)>0)&&exS n c.where_
 else if c.kind=2 then qwq n c.e&&qdw c.var_
 else if c.kind=3\/c.kind=9 then zhl n c&&exS n c.where_
 else if c.kind=4 then decide (((c.paths.length:Nat):Int)>0)
 else if c.kind=5 then(match c.paths with|[p]=>(((p.edges.length:Nat):Int)==0)|_=>false)
 else if c.kind=6\/c.kind=7 then c.sets.all (zdf n (c.kind==6))&&decide (((c.sets.length:Nat):Int)>0)
 else if c.kind=8 then c.vars.all qdw&&decide (((c.vars.length:Nat):Int)>0)
 else false
theorem zfb {n:Nat} (hn:n<=1073741824) {c:qab} (h:42+qde c<n):∃ s,(s=true↔za6 c=c)/\qgc n c=some (s&&(c.paths.all (q4b n)&&q2q n c)):=by
 have hp:=qbi qjt (fun p=>by unfold qjt; omega) c.paths
 have hs:=qbi qib (fun p=>by unfold qib; omega) c.sets
 have hi:=qbi qsb (fun p=>by unfold qsb; omega) c.items
 have ho:=qbi qhy (fun p=>by unfold qhy; omega) c.order
 have hv:=qeb c.vars;have mp:∀ p∈c.paths,42+qjt p<n:=fun p hm=>by have:=qb6 qjt hm; unfold qde qwo at h; omega
 have mi:∀ p∈c.items,qki p.e<n:=fun p hm=>by have:=qb6 qsb hm; have e:qsb p=1+p.as_.length+qki p.e:=rfl; unfold qde at h; omega
 have mo:∀ p∈c.order,qki p.e<n:=fun p hm=>by have:=qb6 qhy hm; have e:qhy p=1+qki p.e:=rfl; unfold qde at h; omega
 have ms:∀ p∈c.sets,42+qib p<n:=fun p hm=>by have:=qb6 qib hm; unfold qde at h; omega
 have ms':∀ p∈c.sets,qki p.e<n:=fun p hm=>by have:=ms p hm; unfold qib at this; omega
 have mv:∀ p∈c.vars,42+p.length<n:=fun p hm=>by have:=qb6 (fun k:List UInt8=>1+k.length) hm; unfold qde qz6 at h; omega
 have hrow:=zo5 hn h;have e1:=q74 hn (l:=c.where_) (by unfold qde at h; omega) 1;have e2:=zdm hn (x:=c.e) (by unfold qde at h; omega);have e3:=qjd (s:=c.var_) (n:=n) (by unfold qde at h; omega) (by omega) hn;have h40:40<n:=by omega
 unfold qde qwo at h;have b1:([]:List qaa).length=0:=rfl;have eb:qki zap=4:=rfl;obtain⟨s,hs1,hs2⟩:∃ b,qgy n (za6 c) c=some b/\(b=true↔za6 c=c):=by
  have z1:∀ {A:Type} {P:A->Prop},∀ a∈([]:List A),P a:=fun a ha=>by cases ha
  have z2:qf1 []<n:=by show 1<n; omega
  unfold za6
  repeat' split
  all_goals
   refine zdp hn ?_ ?_ ?_ ?_ ?_ ?_ ?_ ?_ ?_ ?_ ?_ ?_ ?_<;>simp only[qpf]<;>first|exact z1|exact z2|exact mi|exact mo|exact ms'|(intro p hm; have:=mp p hm; omega)|(simp only[List.length_nil,eb]; omega)|omega
 refine⟨s,hs2,?_⟩;have ho:=zr7 n c;rw[zqy]at ho;have l1:qgc n c=(bif !s then some false else bif c.paths.all (q4b n)then some (q2q n c)else some false):=by
  clear hs2;obtain⟨x1,x2,x3,⟨x4,x5,⟨x6,x7,x8,x9,x10,x11⟩,x12,x13⟩,x14,x15,x16,x17,x18,x19,x20,x21,x22⟩:=c;simp only at hp hs hi ho hv mp ms mv e1 e2 e3 h;have eta:∀ (d:qab) {R:Type} (f:qab->Option R),(match d with|⟨x23,x24,x25,⟨x26,x27,⟨x28,x29,x30,x31,x32,x33⟩,x34,x35⟩,x36,x37,x38,x39,x40,x41,x42,x43,x44⟩=>f ⟨x23,x24,x25,⟨x26,x27,⟨x28,x29,x30,x31,x32,x33⟩,x34,x35⟩,x36,x37,x38,x39,x40,x41,x42,x43,x44⟩)=f d:=by
   intro d R f;obtain⟨x1,x2,x3,⟨x4,x5,⟨x6,x7,x8,x9,x10,x11⟩,x12,x13⟩,x14,x15,x16,x17,x18,x19,x20,x21,x22⟩:=d;rfl
  unfold qgc;simp only[ho,qah];refine Eq.trans (eta _ (fun d=>bnd (qgy n d _) fun x45=>bif(!x45)then some false else qan (qff n x2 x1 x3 x4 x5 x6 x7 x8 x9 x10 x11 x12 x13 x14 x15 x16 x17 x18 x19 x20 x21 x22) n (0:Int))) ?_
  simp only[hs1,qah];congr 1;have L:=qcy (B:=qff n x2 x1 x3 x4 x5 x6 x7 x8 x9 x10 x11 x12 x13 x14 x15 x16 x17 x18 x19 x20 x21 x22) (fun k=>((k:Nat):Int)) (l:=x2) (fun p=>if q4b n p then none else some false)
   (rest:=some (q2q n ⟨x1,x2,x3,⟨x4,x5,⟨x6,x7,x8,x9,x10,x11⟩,x12,x13⟩,x14,x15,x16,x17,x18,x19,x20,x21,x22⟩))
   (fun k x nx hx=>by
    have hk:=qb0 hx;have h1:=zou hn (mp x (qbk hx));obtain⟨y1,y2⟩:=x;simp only[qff,qck,qa7 hk,cond_true,qal hx,qah,h1];rw[qcg (by omega)];cases q4b n _<;>rfl)
   (fun nx=>by
    have A:∀ (d p:Bool),(bnd (qaw d (some p)) fun x50=>some (bif d then x50 else false))=some (d&&p):=by intro d p; cases d<;>cases p<;>rfl
    have l3:=qcy (B:=qfg n x20 x1) (fun k=>((k:Nat):Int)) (l:=x20) (fun s=>if zdf n (x1==6) s then none else some false) (rest:=some (decide (((x20.length:Nat):Int)>0)))
     (fun k x nx hx=>by
      have hk:=qb0 hx;have h1:=zra hn (ms x (qbk hx)) (x1==6);obtain⟨z1,z2,z3,⟨y1,y2,⟨y3,y4,y5,y6,y7,y8⟩,y9,y10⟩⟩:=x;simp only[qfg,qaf.rows,List.length_map,qa7 hk,cond_true,qal hx,qah,h1];rw[qcg (by omega)];cases zdf n _ _<;>rfl)
     (fun nx=>by simp only[qfg,qaf.rows,List.length_map,qas,cond_false]) (n:=n) (by omega)
    rw[qud]at l3;have l3':qan (qfg n x20 x1) n (0:Int)=some (x20.all (zdf n (x1==6))&&decide (((x20.length:Nat):Int)>0)):=by
     refine Eq.trans l3 ?_;cases x20.all (zdf n (x1==6))<;>rfl
    have l4:=qcy (B:=qfh n x21) (fun k=>((k:Nat):Int)) (l:=x21) (fun s=>if qdw s then none else some false) (rest:=some (decide (((x21.length:Nat):Int)>0)))
     (fun k x nx hx=>by
      have hk:=qb0 hx;have h1:=qjd (s:=x) (n:=n) (by have:=mv x (qbk hx); omega) (by omega) hn;simp only[qfh,qaz,qa7 hk,cond_true,qal hx,qah,h1];rw[qcg (by omega)];cases qdw x<;>rfl)
     (fun nx=>by simp only[qfh,qaz,qas,cond_false]) (n:=n) (by omega)
    rw[qud]at l4;have l4':qan (qfh n x21) n (0:Int)=some (x21.all qdw&&decide (((x21.length:Nat):Int)>0)):=by
     refine Eq.trans l4 ?_;cases x21.all qdw<;>rfl
    simp only[qff,qiq,qir,qck,qas,cond_false,e1,e2,e3,hrow,qah,l3',l4'];unfold q2q exS;simp only;by_cases k1:x1=1
    ·subst k1; exact A _ _
    by_cases k2:x1=2
    ·subst k2; exact A _ _
    by_cases k3:x1=3
    ·subst k3; exact A _ _
    by_cases k9:x1=9
    ·subst k9; exact A _ _
    by_cases k4:x1=4
    ·subst k4; rfl
    by_cases k5:x1=5
    ·subst k5
     match x2 with
     | []=>rfl
     | [p]=>obtain⟨p1,p2⟩:=p; show some ((((qag.rows p2).length:Nat):Int)==0)=some (((p2.length:Nat):Int)==0); rw[qfv]
     | p::q::l=>
      have e1:((((p::q::l).length:Nat):Int)==(1:Int))=false:=by simp only[List.length_cons]; rw[beq_eq_false_iff_ne]; omega
      rw[e1]; rfl
    by_cases k6:x1=6
    ·subst k6; rfl
    by_cases k7:x1=7
    ·subst k7; rfl
    by_cases k8:x1=8
    ·subst k8; rfl
    simp only[beq_eq_false_iff_ne.2 k1,beq_eq_false_iff_ne.2 k2,beq_eq_false_iff_ne.2 k3,beq_eq_false_iff_ne.2 k9,beq_eq_false_iff_ne.2 k4,beq_eq_false_iff_ne.2 k5,beq_eq_false_iff_ne.2 k6,beq_eq_false_iff_ne.2 k7,beq_eq_false_iff_ne.2 k8,cond_false,k1,k2,k3,k9,k4,k5,k6,k7,k8,if_false,or_self]) (n:=n) (by omega)
  rw[qud]at L;exact L
 rw[l1];cases s<;>cases c.paths.all (q4b n)<;>rfl
end W
end
section
open Go Ax
namespace W
theorem qwk {n:Nat} {A:Type} (f:A->qbo) {l:List A} (h:l.length<=1048576):gOk n (l.map f,1,1048576)=(decide (((l.length:Nat):Int)>0)&&l.all (fun x=>zhi n (f x))):=by
 unfold gOk;simp only[List.length_map,List.all_map];rw[decide_eq_false (p:=((l.length:Nat):Int)>1048576) (by omega)];have:decide (((l.length:Nat):Int)<1)=!decide (((l.length:Nat):Int)>0):=by
  rw[Bool.eq_iff_iff]; simp only[decide_eq_true_eq,Bool.not_eq_true',decide_eq_false_iff_not]; omega
 rw[this];cases decide (((l.length:Nat):Int)>0)<;>rfl
theorem zle {n:Nat} {A:Type} (f:A->qbo) {l:List A} (h:l.length<=1048576):gOk n (l.map f,0,1048576)=l.all (fun x=>zhi n (f x)):=by
 unfold gOk;simp only[List.length_map,List.all_map];rw[decide_eq_false (p:=((l.length:Nat):Int)>1048576) (by omega),decide_eq_false (p:=((l.length:Nat):Int)<0) (by omega)];rfl
theorem q32 {n:Nat} {A:Type} (f:A->qbo) {l:List A}:gOk n (l.map f,0,1)=(l.all (fun x=>zhi n (f x))&&decide (((l.length:Nat):Int)<=1)):=by
 unfold gOk;simp only[List.length_map,List.all_map];rw[decide_eq_false (p:=((l.length:Nat):Int)<0) (by omega)];have:decide (((l.length:Nat):Int)>1)=!decide (((l.length:Nat):Int)<=1):=by
  rw[Bool.eq_iff_iff]; simp only[decide_eq_true_eq,Bool.not_eq_true',decide_eq_false_iff_not]; omega
 rw[this];show(!(!decide (((l.length:Nat):Int)<=1))&&_)=_;rw[Bool.not_not,Bool.and_comm];rfl
theorem q33 {n:Nat} (p:qbo):gOk n ([p],1,1)=zhi n p:=by
 show(true&&(zhi n p&&true))=_;simp
theorem qhc {A:Type} (x:A) (l:List A):((((x::l).length:Nat):Int)==0)=false:=by
 rw[beq_eq_false_iff_ne]; simp only[List.length_cons]; omega
theorem zmy {n:Nat} {x:qaa} (h:(qjq x).1=0):qwq n x=false:=by
 obtain⟨op,name,val,names,args⟩:=x;have:op=0:=h;subst this;have:=zit (n:=n) (name:=name) (val:=val) (names:=names) (args:=args) (d:=32);unfold qwq;cases hr:qcz n ⟨0,name,val,names,args⟩ 32 with
 | none=>rfl
 | some b=>
  cases b with
  | false=>rfl
  | true=>exact absurd hr this
structure LenOk (c:qab):Prop where
 paths:c.paths.length<=1048576
 items:c.items.length<=1048576
 order:c.order.length<=1048576
 sets:c.sets.length<=1048576
 vars:c.vars.length<=1048576
theorem zdb {c:qab} (hM:qde c<=1048576):LenOk c:=by
 have hp:=qbi qjt (fun p=>by unfold qjt; omega) c.paths
 have hi:=qbi qsb (fun p=>by unfold qsb; omega) c.items
 have ho:=qbi qhy (fun p=>by unfold qhy; omega) c.order
 have hs:=qbi qib (fun p=>by unfold qib; omega) c.sets
 have hv:=qeb c.vars;unfold qde qwo at hM;exact⟨by omega,by omega,by omega,by omega,by omega⟩
theorem zna {n:Nat} {c:qab} (hM:LenOk c) (hk:za6 c=c) (hb:¬ q6b c) {ok:Bool} (hok:ok=true\/(c.kind=2/\(qjq c.e).1=0)) :
  (ok&&!((((qwy c).length:Nat):Int)==0)&&(qwy c).all (gOk n))=(c.paths.all (q4b n)&&q2q n c):=by
 obtain⟨hp,hi,ho,hs,hv⟩:=hM;obtain⟨x1,x2,x3,x4,x14,x15,x16,x17,x18,x19,x20,x21,x22⟩:=c;simp only at hp hi ho hs hv hok;by_cases k1:x1=1
 ·subst k1
  have hok:ok=true:=by rcases hok with h|h; exact h; exact absurd h.1 (by decide)
  subst hok;have e:(qwy ⟨1,x2,x3,x4,x14,x15,x16,x17,x18,x19,x20,x21,x22⟩)=[(x2.map .path,1,1048576),(x3.map .expr,0,1)]:=rfl;rw[e,qhc,List.all_cons,List.all_cons,List.all_nil,qwk .path (by omega),q32];show(true&&(_&&x2.all (q4b n)&&(x3.all (qwq n)&&decide (((x3.length:Nat):Int)<=1)&&true)))=(x2.all (q4b n)&&(_&&(x3.all (qwq n)&&_)));generalize x2.all (q4b n)=a;generalize x3.all (qwq n)=b;generalize decide (((x2.length:Nat):Int)>0)=d;generalize decide (((x3.length:Nat):Int)<=1)=f;cases a<;>cases b<;>cases d<;>cases f<;>rfl
 by_cases k2:x1=2
 ·subst k2
  have hpn:x2=[]:=(congrArg qab.paths hk).symm;subst hpn;have e:(qwy ⟨2,[],x3,x4,x14,x15,x16,x17,x18,x19,x20,x21,x22⟩)=[([.expr x4],1,1),([.name x14],1,1)]:=rfl;rw[e,qhc,List.all_cons,List.all_cons,List.all_nil,q33,q33];show(ok&&true&&(qwq n x4&&(qdw x14&&true)))=(true&&(qwq n x4&&qdw x14));rcases hok with h|h
  ·subst h
   cases qwq n x4<;>cases qdw x14<;>rfl
  ·rw[zmy h.2]
   cases ok<;>rfl
 by_cases k3:x1=3
 ·subst k3
  have hok:ok=true:=by rcases hok with h|h; exact h; exact absurd h.1 (by decide)
  subst hok;have hpn:x2=[]:=(congrArg qab.paths hk).symm;subst hpn;have e:(qwy ⟨3,[],x3,x4,x14,x15,x16,x17,x18,x19,x20,x21,x22⟩)=[(x15.map .item,1,1048576),(x17.map .sorted,0,1048576),(x18.map .expr,0,1),(x19.map .expr,0,1),(x3.map .expr,0,1)]:=rfl;rw[e,qhc,List.all_cons,List.all_cons,List.all_cons,List.all_cons,List.all_cons,List.all_nil,qwk .item (by omega),zle .sorted (by omega),q32,q32,q32];show(true&&true&&((_&&x15.all (fun i=>qdw i.as_&&qwq n i.e))&&(x17.all (fun s=>qwq n s.e)&&(exS n x18&&(exS n x19&&(exS n x3&&true))))))=(true&&((x15.all (fun i=>qdw i.as_&&qwq n i.e)&&(x17.all (fun s=>qwq n s.e)&&(_&&(exS n x18&&exS n x19))))&&exS n x3))
  generalize x15.all _=a;generalize x17.all _=b;generalize decide (((x15.length:Nat):Int)>0)=d;generalize exS n x18=f;generalize exS n x19=g;generalize exS n x3=h;cases a<;>cases b<;>cases d<;>cases f<;>cases g<;>cases h<;>rfl
 by_cases k9:x1=9
 ·subst k9
  have hok:ok=true:=by rcases hok with h|h; exact h; exact absurd h.1 (by decide)
  subst hok;have hpn:x2=[]:=(congrArg qab.paths hk).symm;subst hpn;have hwn:x3=[]:=(congrArg qab.where_ hk).symm;subst hwn;have e:(qwy ⟨9,[],[],x4,x14,x15,x16,x17,x18,x19,x20,x21,x22⟩)=[(x15.map .item,1,1048576),(x17.map .sorted,0,1048576),(x18.map .expr,0,1),(x19.map .expr,0,1)]:=rfl;rw[e,qhc,List.all_cons,List.all_cons,List.all_cons,List.all_cons,List.all_nil,qwk .item (by omega),zle .sorted (by omega),q32,q32];show(true&&true&&((_&&x15.all (fun i=>qdw i.as_&&qwq n i.e))&&(x17.all (fun s=>qwq n s.e)&&(exS n x18&&(exS n x19&&true)))))=(true&&((x15.all (fun i=>qdw i.as_&&qwq n i.e)&&(x17.all (fun s=>qwq n s.e)&&(_&&(exS n x18&&exS n x19))))&&true))
  generalize x15.all _=a;generalize x17.all _=b;generalize decide (((x15.length:Nat):Int)>0)=d;generalize exS n x18=f;generalize exS n x19=g;cases a<;>cases b<;>cases d<;>cases f<;>cases g<;>rfl
 by_cases k4:x1=4
 ·subst k4
  have hok:ok=true:=by rcases hok with h|h; exact h; exact absurd h.1 (by decide)
  subst hok;have e:(qwy ⟨4,x2,x3,x4,x14,x15,x16,x17,x18,x19,x20,x21,x22⟩)=[(x2.map .path,1,1048576)]:=rfl;rw[e,qhc,List.all_cons,List.all_nil,qwk .path (by omega)];show(true&&true&&((_&&x2.all (q4b n))&&true))=(x2.all (q4b n)&&decide (((x2.length:Nat):Int)>0));generalize x2.all (q4b n)=a;generalize decide (((x2.length:Nat):Int)>0)=d;cases a<;>cases d<;>rfl
 by_cases k5:x1=5
 ·subst k5
  have hok:ok=true:=by rcases hok with h|h; exact h; exact absurd h.1 (by decide)
  subst hok;have e:(qwy ⟨5,x2,x3,x4,x14,x15,x16,x17,x18,x19,x20,x21,x22⟩)=[(x2.map .path,1,1)]:=rfl;rw[e,qhc,List.all_cons,List.all_nil]
  match x2 with
  | []=>rfl
  | [⟨nodes,[]⟩]=>
   rw[show List.map qbo.path [⟨nodes,[]⟩]=[.path ⟨nodes,[]⟩]from rfl,q33];show(true&&true&&(q4b n ⟨nodes,[]⟩&&true))=((q4b n ⟨nodes,[]⟩&&true)&&true);cases q4b n ⟨nodes,[]⟩<;>rfl
  | [⟨nodes,e::es⟩]=>exact absurd ⟨rfl,_,rfl,by simp⟩ hb
  | p::q::l=>
   have:gOk n (List.map qbo.path (p::q::l),1,1)=false:=by
    unfold gOk;simp only[List.length_map,List.length_cons];rw[decide_eq_true (p:=((l.length+1+1:Nat):Int)>1) (by omega),Bool.cond_eq_ite];simp
   rw[this];show _=((p::q::l).all (q4b n)&&false);cases(p::q::l).all (q4b n)<;>rfl
 by_cases k6:x1=6
 ·subst k6
  have hok:ok=true:=by rcases hok with h|h; exact h; exact absurd h.1 (by decide)
  subst hok;have hpn:x2=[]:=(congrArg qab.paths hk).symm;subst hpn;have e:(qwy ⟨6,[],x3,x4,x14,x15,x16,x17,x18,x19,x20,x21,x22⟩)=[(x20.map (fun s=>.change ⟨s,true⟩),1,1048576)]:=rfl;rw[e,qhc,List.all_cons,List.all_nil,qwk _ (by omega)];show(true&&true&&((_&&x20.all (zdf n true))&&true))=(true&&(x20.all (zdf n true)&&_));generalize x20.all (zdf n true)=a;generalize decide (((x20.length:Nat):Int)>0)=d;cases a<;>cases d<;>rfl
 by_cases k7:x1=7
 ·subst k7
  have hok:ok=true:=by rcases hok with h|h; exact h; exact absurd h.1 (by decide)
  subst hok;have hpn:x2=[]:=(congrArg qab.paths hk).symm;subst hpn;have e:(qwy ⟨7,[],x3,x4,x14,x15,x16,x17,x18,x19,x20,x21,x22⟩)=[(x20.map (fun s=>.change ⟨s,false⟩),1,1048576)]:=rfl;rw[e,qhc,List.all_cons,List.all_nil,qwk _ (by omega)];show(true&&true&&((_&&x20.all (zdf n false))&&true))=(true&&(x20.all (zdf n false)&&_));generalize x20.all (zdf n false)=a;generalize decide (((x20.length:Nat):Int)>0)=d;cases a<;>cases d<;>rfl
 by_cases k8:x1=8
 ·subst k8
  have hok:ok=true:=by rcases hok with h|h; exact h; exact absurd h.1 (by decide)
  subst hok;have hpn:x2=[]:=(congrArg qab.paths hk).symm;subst hpn;have e:(qwy ⟨8,[],x3,x4,x14,x15,x16,x17,x18,x19,x20,x21,x22⟩)=[(x21.map .name,1,1048576)]:=rfl;rw[e,qhc,List.all_cons,List.all_nil,qwk .name (by omega)];show(true&&true&&((_&&x21.all qdw)&&true))=(true&&(x21.all qdw&&_));generalize x21.all qdw=a;generalize decide (((x21.length:Nat):Int)>0)=d;cases a<;>cases d<;>rfl
 have e:(qwy ⟨x1,x2,x3,x4,x14,x15,x16,x17,x18,x19,x20,x21,x22⟩)=[]:=by
  unfold qwy;simp only[k1,k2,k3,k9,k4,k5,k6,k7,k8,if_false,or_self]
 have e2:q2q n ⟨x1,x2,x3,x4,x14,x15,x16,x17,x18,x19,x20,x21,x22⟩=false:=by
  unfold q2q;simp only[k1,k2,k3,k9,k4,k5,k6,k7,k8,if_false,or_self]
 rw[e,e2];cases ok<;>cases x2.all (q4b n)<;>rfl
end W
end
section
open Go Ax
namespace W
theorem zsm {n:Nat} (hn:n<=1073741824) {c:qab} (h:42+qde c<n) (hk:za6 c=c) (hp:c.paths.all (q4b n)=true) (hm:q2q n c=true):WfC c:=by
 have mp:∀ p∈c.paths,42+qjt p<n:=fun p hm=>by have:=qb6 qjt hm; unfold qde qwo at h; omega
 have mi:∀ p∈c.items,40+qki p.e<n:=fun p hm=>by have:=qb6 qsb hm; have e:qsb p=1+p.as_.length+qki p.e:=rfl; unfold qde at h; omega
 have mo:∀ p∈c.order,40+qki p.e<n:=fun p hm=>by have:=qb6 qhy hm; have e:qhy p=1+qki p.e:=rfl; unfold qde at h; omega
 have ms:∀ p∈c.sets,41+qib p<n:=fun p hm=>by have:=qb6 qib hm; unfold qde at h; omega
 have mw:∀ p∈c.where_,40+qki p<n:=fun p hm=>by have:=qha hm; unfold qde at h; omega
 have mk:∀ p∈c.skip,40+qki p<n:=fun p hm=>by have:=qha hm; unfold qde at h; omega
 have ml:∀ p∈c.limit,40+qki p<n:=fun p hm=>by have:=qha hm; unfold qde at h; omega
 have me:40+qki c.e<n:=by unfold qde at h; omega
 have wE:∀ {x:qaa},40+qki x<n->qwq n x=true->WfE x:=by
  intro x hx hb;obtain⟨b,h1,_,h3⟩:=qy5 hn hx;unfold qwq at hb;rw[h1]at hb;exact h3 hb
 have wL:∀ {l:List qaa},(∀ p∈l,40+qki p<n)->exS n l=true->∀ x∈l,WfE x:=by
  intro l hl hb x hx;unfold exS at hb;rw[Bool.and_eq_true,List.all_eq_true]at hb;exact wE (hl x hx) (hb.1 x hx)
 have wP:∀ p∈c.paths,WfP p:=by
  intro p hm;obtain⟨b,h1,_,h3⟩:=zdj hn (mp p hm);have:=List.all_eq_true.1 hp p hm;unfold q4b at this;rw[h1]at this;exact h3 this
 have wS:∀ {f:Bool} {ck:Int},(f=true↔ck=6)->c.sets.all (zdf n f)=true->∀ s∈c.sets,WfSet ck s:=by
  intro f ck hf hb s hs;have h0:=ms s hs;unfold qib at h0;obtain⟨b,h1,_,h3⟩:=q7y hn (s:=s) (by omega) f;have:=List.all_eq_true.1 hb s hs;unfold zdf at this;rw[h1]at this;obtain⟨a1,a2⟩:=h3 this;rw[hf]at a1 a2;exact⟨a1,a2⟩
 have wR:zhl n c=true->(∀ x∈c.where_,WfE x)->WfRows c:=by
  intro hb hw;unfold zhl at hb;simp only[Bool.and_eq_true]at hb;obtain⟨h1,h2,h3,h4,h5⟩:=hb;refine⟨fun i hi=>?_,fun s hs=>?_,wL mk h4,wL ml h5,hw⟩
  ·have:=List.all_eq_true.1 h1 i hi
   rw[Bool.and_eq_true]at this;refine⟨wE (mi i hi) this.2,fun e=>?_⟩;rw[e]at this;exact absurd this.1 (by decide)
  ·exact wE (mo s hs) (List.all_eq_true.1 h2 s hs)
 clear h mp;obtain⟨x1,x2,x3,x4,x14,x15,x16,x17,x18,x19,x20,x21,x22⟩:=c;simp only at mi mo ms mw mk ml me wP wS wR hp;have nil:∀ {A:Type} {P:A->Prop},∀ a∈([]:List A),P a:=fun a ha=>by cases ha
 by_cases k1:x1=1
 ·subst k1
  have hm':(decide (((x2.length:Nat):Int)>0)&&exS n x3)=true:=hm;rw[Bool.and_eq_true]at hm';exact⟨wP,wL mw hm'.2,fun h=>absurd (show(1:Int)=2 from h) (by decide),fun h=>absurd (show(1:Int)=5 from h) (by decide),fun h=>absurd (show(1:Int)=6\/(1:Int)=7 from h) (by decide),fun h=>absurd (show(1:Int)=3\/(1:Int)=9 from h) (by decide),by simp⟩
 by_cases k2:x1=2
 ·subst k2
  have hw:([]:List qaa)=x3:=congrArg qab.where_ hk;subst hw;have hm':(qwq n x4&&qdw x14)=true:=hm;rw[Bool.and_eq_true]at hm';exact⟨wP,nil,fun _=>⟨wE me hm'.1,fun e=>by have e:x14=[]:=e; rw[e]at hm'; exact absurd hm'.2 (by decide)⟩,fun h=>absurd (show(2:Int)=5 from h) (by decide),fun h=>absurd (show(2:Int)=6\/(2:Int)=7 from h) (by decide),fun h=>absurd (show(2:Int)=3\/(2:Int)=9 from h) (by decide),by simp⟩
 by_cases k3:x1=3
 ·subst k3
  have hm':(zhl n ⟨3,x2,x3,x4,x14,x15,x16,x17,x18,x19,x20,x21,x22⟩&&exS n x3)=true:=hm;rw[Bool.and_eq_true]at hm';have w:=wL mw hm'.2;exact⟨wP,w,fun h=>absurd (show(3:Int)=2 from h) (by decide),fun h=>absurd (show(3:Int)=5 from h) (by decide),fun h=>absurd (show(3:Int)=6\/(3:Int)=7 from h) (by decide),fun _=>wR hm'.1 w,by simp⟩
 by_cases k9:x1=9
 ·subst k9
  have hm':(zhl n ⟨9,x2,x3,x4,x14,x15,x16,x17,x18,x19,x20,x21,x22⟩&&exS n x3)=true:=hm;rw[Bool.and_eq_true]at hm';have w:=wL mw hm'.2;exact⟨wP,w,fun h=>absurd (show(9:Int)=2 from h) (by decide),fun h=>absurd (show(9:Int)=5 from h) (by decide),fun h=>absurd (show(9:Int)=6\/(9:Int)=7 from h) (by decide),fun _=>wR hm'.1 w,by simp⟩
 by_cases k4:x1=4
 ·subst k4
  have hw:([]:List qaa)=x3:=congrArg qab.where_ hk;subst hw;exact⟨wP,nil,fun h=>absurd (show(4:Int)=2 from h) (by decide),fun h=>absurd (show(4:Int)=5 from h) (by decide),fun h=>absurd (show(4:Int)=6\/(4:Int)=7 from h) (by decide),fun h=>absurd (show(4:Int)=3\/(4:Int)=9 from h) (by decide),by simp⟩
 by_cases k5:x1=5
 ·subst k5
  have hw:([]:List qaa)=x3:=congrArg qab.where_ hk;subst hw;refine⟨wP,nil,fun h=>absurd (show(5:Int)=2 from h) (by decide),fun _=>?_,fun h=>absurd (show(5:Int)=6\/(5:Int)=7 from h) (by decide),fun h=>absurd (show(5:Int)=3\/(5:Int)=9 from h) (by decide),by simp⟩
  match x2 with
  | []=>exact absurd (show false=true from hm) (by decide)
  | [p]=>exact⟨p,rfl⟩
  | p::q::l=>exact absurd (show false=true from hm) (by decide)
 by_cases k6:x1=6
 ·subst k6
  have hw:([]:List qaa)=x3:=congrArg qab.where_ hk;subst hw;have hm':(x20.all (zdf n true)&&decide (((x20.length:Nat):Int)>0))=true:=hm;rw[Bool.and_eq_true]at hm';exact⟨wP,nil,fun h=>absurd (show(6:Int)=2 from h) (by decide),fun h=>absurd (show(6:Int)=5 from h) (by decide),fun _=>wS (by simp) hm'.1,fun h=>absurd (show(6:Int)=3\/(6:Int)=9 from h) (by decide),by simp⟩
 by_cases k7:x1=7
 ·subst k7
  have hw:([]:List qaa)=x3:=congrArg qab.where_ hk;subst hw;have hm':(x20.all (zdf n false)&&decide (((x20.length:Nat):Int)>0))=true:=hm;rw[Bool.and_eq_true]at hm';exact⟨wP,nil,fun h=>absurd (show(7:Int)=2 from h) (by decide),fun h=>absurd (show(7:Int)=5 from h) (by decide),fun _=>wS (by simp) hm'.1,fun h=>absurd (show(7:Int)=3\/(7:Int)=9 from h) (by decide),by simp⟩
 by_cases k8:x1=8
 ·subst k8
  have hw:([]:List qaa)=x3:=congrArg qab.where_ hk;subst hw;exact⟨wP,nil,fun h=>absurd (show(8:Int)=2 from h) (by decide),fun h=>absurd (show(8:Int)=5 from h) (by decide),fun h=>absurd (show(8:Int)=6\/(8:Int)=7 from h) (by decide),fun h=>absurd (show(8:Int)=3\/(8:Int)=9 from h) (by decide),by simp⟩
 have e2:q2q n ⟨x1,x2,x3,x4,x14,x15,x16,x17,x18,x19,x20,x21,x22⟩=false:=by
  unfold q2q;simp only[k1,k2,k3,k9,k4,k5,k6,k7,k8,if_false,or_self]
 rw[e2]at hm;cases hm
def zqt (n:Nat) (c:qab):Bool:=(qgc n c).getD false
theorem q31 {n:Nat} (hn:n<=1073741824) {c:qab} (h:42+qde c<n) (hM:LenOk c) :
  qgc n c=some (zqt n c)/\(zqt n c=true->WfC c/\za6 c=c/\c.paths.all (q4b n)=true/\q2q n c=true)/\∃ gl ok,qlq n c=some (gl,ok)/\gl.length<=5/\(∀ g∈gl,g.parts.length<n/\∀ p∈g.parts,42+q57 p<n) /\
   (ok&&!(((gl.length:Nat):Int)==0)&&(gl.map g3).all (gOk n))=zqt n c:=by
 obtain⟨s,hs,he⟩:=zfb hn h;have hmc:zqt n c=(s&&(c.paths.all (q4b n)&&q2q n c)):=by unfold zqt; rw[he]; rfl
 refine⟨by rw[he,hmc],fun hb=>?_,?_⟩
 ·rw[hmc]at hb
  simp only[Bool.and_eq_true]at hb;exact⟨zsm hn h (hs.1 hb.1) hb.2.1 hb.2.2,hs.1 hb.1,hb.2.1,hb.2.2⟩
 ·rcases zlp hn (c:=c) (by omega)with ⟨⟨hk5,p,hp,hpe⟩,ho⟩|⟨hb,gl,ok,ho,hg3,h1,h2⟩
  ·refine⟨[],false,ho,by simp,(fun g hg=>by cases hg),?_⟩
   have:q2q n c=false:=by
    unfold q2q;rw[hk5,hp];have:(((p.edges.length:Nat):Int)==0)=false:=by
     rw[beq_eq_false_iff_ne];intro e;have:p.edges.length=0:=by omega
     exact hpe (List.length_eq_zero_iff.1 this)
    exact this
   rw[hmc,this];cases s<;>cases c.paths.all (q4b n)<;>rfl
  ·have hlen:gl.length=(qwy c).length:=by rw[← hg3,List.length_map]
   refine⟨gl,ok,ho,?_,fun g hg=>?_,?_⟩
   ·rw[hlen]
    unfold qwy
    repeat' split
    all_goals simp
   ·have:=zhs (Nat.le_refl (qde c)) (g3 g) (by rw[← hg3]; exact List.mem_map.2 ⟨g,hg,rfl⟩)
    simp only[g3]at this;exact⟨by omega,fun p hp=>by have:=this.2 p hp; omega⟩
   ·rw[hmc,hg3,hlen]
    cases hsb:s with
    | false=>
     have:ok=false:=by
      cases ok with
      | false=>rfl
      | true=>have:=hs.2 (h1 rfl); rw[hsb]at this; cases this
     rw[this]; rfl
    | true=>
     have hk:=hs.1 hsb;rw[zna hM hk hb (h2 hk)];rfl
end W
end
