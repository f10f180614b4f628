/- A part of the proof: the plain law. -/
import Derived.Test.YtlnipohgljbfiaaGreatD
import Derived.Test.YtlnipohgljbfiaaGreatE
import Derived.Test.YtlnipohgljbfiaaGreatF
import Derived.Test.YtlnipohgljbfiaaGreatG
import Derived.Test.YtlnipohgljbfiaaGreatH
import Derived.Test.YtlnipohgljbfiaaGreatI
import Derived.Test.YtlnipohgljbfiaaGreatJ
import Derived.Test.YtlnipohgljbfiaaGreatK
import Derived.Test.YtlnipohgljbfiaaGreatL
import Derived.Test.YtlnipohgljbfiaaGreatM
import Derived.Test.YtlnipohgljbfiaaGreatN
import Derived.Test.YtlnipohgljbfiaaGreatO
set_option linter.unusedVariables false
set_option linter.unusedSimpArgs false
set_option linter.unnecessarySimpa false
set_option linter.deprecated false
set_option linter.unusedSectionVars false
set_option linter.constructorNameAsVariable false
open Go.IntKind renaming wrap->kwr,bits->kbt
open List renaming length_cons->ja,length_append->jb,length_nil->jc,getElem?_cons_zero->jd,getElem?_cons_succ->je,getElem?_eq_getElem->jf,mem_cons->jg,map_cons->jl,length_map->jm,drop_eq_getElem_cons->jo,append_assoc->jt,length_take->ju,nil_append->jv,all_cons->jw,mem_append->jz,mem_singleton->jA,sum_cons->jB,getElem?_drop->jE,getElem?_take->jF,getElem?_eq_some_iff->jH,length_drop->jN,map_nil->jO,map_append->ka
open Bool renaming cond_eq_ite->ji,and_eq_true->jj,not_false->jp,not_true->jq,or_eq_true->jP,true_eq_false->jR
open Nat renaming exists_eq_succ_of_ne_zero->jk,le_refl->jx,zero_add->jy,lt_irrefl->jS,zero_le->jT
open BitVec renaming ofInt->js
open UInt8 renaming toNat_inj->jU
open Int renaming toNat_natCast->jV
open Option renaming getD_some->jW
section
open Go Ax
namespace W
section
variable {K V:Type} [BEq K] [LawfulBEq K]
theorem TO (k s:K) (v:V):∀ m:List (K×V),Xq s (db k v m)=if s==k then some v else Xq s m
 | []=>by
  simp only[db,Xq];cases s==k<;>rfl
 | (k',v')::m=>by
  by_cases h:k=k'
  ·subst h
   simp only[db,kbs,kct,Xq];cases s==k<;>rfl
  ·have b:(k==k')=false:=kbf.2 h
   simp only[db,b,kcf,Xq,TO k s v m];by_cases a:s=k'
   ·subst a
    have:(s==k)=false:=kbf.2 fun e=>h e.symm
    simp[this]
   have:(s==k')=false:=kbf.2 a;simp[this]
theorem qbm (k:K) (v:V):∀ m:List (K×V),(db k v m).length=if LI m k then m.length else m.length+1
 | []=>rfl
 | (k',v')::m=>by
  by_cases h:k=k'
  ·subst h
   simp[db,LI,Xq]
  have a:(k==k')=false:=kbf.2 h;have:=qbm k v m;simp only[db,LI,Xq,a,kcf,ja]at this ⊢;rw[this];by_cases b:(Xq k m).isSome=true<;>simp[b]
theorem qjn (k s:K) (v:V) (m:List (K×V)):LI (db k v m) s=(s==k||LI m s):=by
 simp only[LI,TO];cases s==k<;>rfl
theorem qgk (k s:K) (v d:V) (m:List (K×V)):va (db k v m) s d=if s==k then v else va m s d:=by
 simp only[va,TO];cases s==k<;>rfl
theorem qbn (k:K) (v:V):∀ m:List (K×V),Xq k m=none->db k v m=m++[(k,v)]
 | [],_=>rfl
 | (k',v')::m,h=>by
  by_cases a:k=k'
  ·subst a
   simp[Xq]at h
  have b:(k==k')=false:=kbf.2 a;simp only[Xq,b,kcf]at h;simp only[db,b,kcf,qbn k v m h,List.cons_append]
end
def qi5:List (List UInt8)->List (List UInt8)->Bool
 | _,[]=>false
 | pre,x::l=>pre.contains x||qi5 (pre++[x]) l
def dup (l:List (List UInt8)):Bool:=qi5 [] l
def qoh (m:List (List UInt8×Int)):List (List UInt8)->List (List UInt8×Int)
 | []=>m
 | x::l=>qoh (db x (kwr .i64 (va m x 0+1)) m) l
theorem qa0:∀ (l pre:List (List UInt8)) (m:List (List UInt8×Int)),(∀ s,LI m s=pre.contains s) ->
  (qoh m l).length<=m.length+l.length/\((qoh m l).length<m.length+l.length↔qi5 pre l=true)
 | [],pre,m,_=>by simp[qoh,qi5]
 | x::l,pre,m,h=>by
  have b:∀ s,LI (db x (kwr .i64 (va m x 0+1)) m) s=(pre++[x]).contains s:=fun s=>by
   rw[qjn,h s];simp only[List.contains_eq_mem,jz,jA];by_cases c:s=x<;>simp[c]
  have ih:=qa0 l (pre++[x]) _ b;simp only[qoh,qi5,qbm,h x]at ih ⊢;cases a:pre.contains x with
  | true=>
   simp only[a,if_true]at ih;simp only[ja,Bool.true_or,iff_true];omega
  | false=>
   simp only[a]at ih;simp only[ja,Bool.false_or]
   constructor
   ·have:=ih.1; simp at this; omega
   rw[← ih.2]; simp; omega
theorem UF {n:Nat} {l:List (List UInt8)} (h:l.length<n) (f:n<=137438953472):pW n l=some (dup l):=by
 unfold pW;have e:=xZ (B:=ct n l) (fun k (m:List (List UInt8×Int))=>((k:Int),m)) (fun _ _=>True) (l:=l) (R:=Bool)
  (fun m x=>.inr (db x (kwr .i64 (va m x 0+1)) m)) (rest:=fun m=>some (decide (m.length<l.length)))
  (fun k x m c b _=>by
   have d:=qL b;simp only[ct,qn,qx d,kct,qf b,qc,tJ];rw[qU (by omega)])
  (fun _ _ _ _ _ _ _=>trivial)
  (fun m c _=>by
   simp only[ct,qn,qm,kcf];congr 1;by_cases hm:m.length<l.length
   ·rw[kdt hm,kdt (by omega)]
   rw[kdf hm,kdf (by omega)]) h (t0:=[]) trivial
 have key:∀ (l:List (List UInt8)) (m:List (List UInt8×Int)),uT (R:=Bool) (fun m x=>.inr (db x (kwr .i64 (va m x 0+1)) m)) m l=.inr (qoh m l):=by
  intro l
  induction l with
  | nil=>intro m; rfl
  | cons x l ih=>intro m; exact ih _
 rw[key]at e;refine Eq.trans e ?_;have:=(qa0 l [] [] (fun s=>rfl)).2
 simp only[jc,jy]at this;refine congrArg some ?_;unfold dup;cases a:qi5 [] l with
 | true=>exact kdt (this.2 a)
 | false=>exact kdf (fun h=>by rw[this.1 h]at a; cases a)
theorem Cs {n:Nat} {l:List (List UInt8)} (h:l.length<n) (r:n<=137438953472):tX n l=some (dup l):=by
 unfold tX;have inner:∀ (k:Nat) (x:List UInt8) (b:Int->Option Bool),l[k]? =some x->dr n l b (k:Int)=(if(l.take k).contains x then some true else b ((k+1:Nat):Int)):=by
  intro k x b c;have d:=qL c;simp only[dr,qn,qx d,kct];have e:=zY (B:=mE n (k:Int) l b) (fun j=>((j:Nat):Int)) (l:=l.take k) (fun y=>if y==x then some true else none) (rest:=b ((k+1:Nat):Int))
   (fun j y g a=>by
    have q:j<k:=by have:=qL a; simp at this; omega
    have i:l[j]? =some y:=by rw[jF,if_pos q]at a; exact a
    simp only[mE,qx q,kct,qf c,qf i,qc];rw[qU (by omega),BEq.comm];cases y==x<;>rfl)
   (fun g=>by
    have:(l.take k).length=k:=by simp; omega
    rw[this];simp only[mE,qm,kcf];rw[qU (by omega)]) (n:=n) (by simp; omega)
  refine Eq.trans e ?_;have key:∀ p:List (List UInt8),vu (R:=Bool) (fun y=>if y==x then some true else none) p=if p.contains x then some true else none:=by
   intro p
   induction p with
   | nil=>rfl
   | cons y p ih=>
    simp only[vu,List.contains_cons,ih];by_cases a:y=x
    ·subst a; simp
    have h1:(y==x)=false:=by simpa using a
    have h2:(x==y)=false:=by simpa using fun e=>a e.symm
    simp[h1,h2]
  rw[key];cases(l.take k).contains x<;>rfl
 have main:∀ (suf:List (List UInt8)) (k m:Nat),(∀ j,suf[j]? =l[k+j]?)->k+suf.length=l.length->suf.length<m->qo (dr n l) m (k:Int)=some (qi5 (l.take k) suf):=by
  intro suf
  induction suf with
  | nil=>
   intro k m o d hm;obtain⟨m,rfl⟩:=jk (by omega:m≠0);have:k=l.length:=by simpa using d
   subst this;rw[qO];simp only[dr,qn,qm,kcf,qi5]
  | cons x suf ih=>
   intro k m o d hm;obtain⟨m,rfl⟩:=jk (by omega:m≠0);have c:l[k]? =some x:=by have:=o 0; simpa using this.symm
   rw[qO,inner k x _ c];simp only[qi5];split
   ·rename_i f; rw[f,Bool.true_or]
   rename_i f;have f:(l.take k).contains x=false:=by simpa using f
   rw[f,Bool.false_or,ih (k+1) m (fun j=>by have:=o (j+1); rw[show k+1+j=k+(j+1) by omega]; simpa using this) (by simp at d; omega) (by simp at hm; omega)]
   have:l.take (k+1)=l.take k++[x]:=by rw[List.take_succ,c]; rfl
   rw[this]
 have:=main l 0 n (fun j=>by simp) (by simp) h
 simpa[dup]using this
abbrev Env:=List (List UInt8×Int)
def zE (v:Env) (s:List UInt8):Int:=va v s 0
abbrev uS (v:Env):qQ:=⟨v.map (·.1),v.map (·.2)⟩
theorem vW {n:Nat} {v:Env} (h:v.length<n) (d:n<=137438953472) (s:List UInt8):xP n (uS v) s=some (zE v s):=by
 unfold xP;have e:=zY (B:=fB n (v.map (·.1)) s (v.map (·.2))) (fun j=>((j:Nat):Int)) (l:=v) (fun x=>if x.1==s then some x.2 else none) (rest:=some 0)
  (fun k x b a=>by
   have c:=qL a;have h1:(v.map (·.1))[k]? =some x.1:=by simp[a]
   have h2:(v.map (·.2))[k]? =some x.2:=by simp[a]
   simp only[fB,qn,jm,qx c,kct,qf h1,qf h2,qc];rw[qU (by omega)];cases x.1==s<;>rfl)
  (fun b=>by
   simp only[fB,qn,jm,qm,kcf]) h
 refine Eq.trans e ?_;have key:∀ v:Env,vu (R:=Int) (fun x=>if x.1==s then some x.2 else none) v=Xq s v:=by
  intro v
  induction v with
  | nil=>rfl
  | cons x v ih=>
   obtain⟨k,y⟩:=x;simp only[vu,Xq,ih];rw[BEq.comm];cases s==k<;>rfl
 rw[key];unfold zE va;cases Xq s v<;>rfl
end W
end
section
open Go Ax
namespace W
def isz (i:Int):Nat:=if -9223372036854775808<=i/\i<=9223372036854775807 then 1 else 1099511627776
theorem qa9 {i:Int} (h:IntKind.i64.min<=i/\i<=IntKind.i64.max):isz i=1:=by
 have h1:IntKind.i64.min = -9223372036854775808:=by decide
 have h2:IntKind.i64.max=9223372036854775807:=by decide
 unfold isz;rw[if_pos]; omega
theorem qly {i:Int} (h:isz i<1099511627776):-9223372036854775808<=i/\i<=9223372036854775807:=by
 unfold isz at h;split at h
 ·assumption
 omega
def kd:Val->Int
 | .mk k _ _ _ _ _=>k
mutual
def tm:Val->Nat
 | .mk _ _ i s l ks=>1+isz i+s.length+br l+(ks.map fun k=>1+k.length).sum
def br:List Val->Nat
 | []=>1
 | v::l=>1+tm v+br l
end
def sS (l:List (List UInt8)):Nat:=(l.map fun k=>1+k.length).sum
theorem xi (l:List (List UInt8)):l.length<=sS l:=by
 induction l with
 | nil=>simp[sS]
 | cons x l ih=>simp only[sS,jl,jB,ja]at ih ⊢; omega
mutual
def dC:qe->Nat
 | .mk _ name val names args=>1+name.length+tm val+sS names+uF args
def uF:List qe->Nat
 | []=>1
 | x::l=>1+dC x+uF l
end
theorem xY:∀ l:List qe,l.length<uF l
 | []=>by simp[uF]
 | x::l=>by have:=xY l; simp only[uF,ja]; omega
theorem gH:∀ {l:List qe} {x:qe},x∈l->dC x+2<=uF l
 | y::l,x,h=>by
  simp only[uF];rcases jg.1 h with rfl|h
  ·have:=xY l; omega
  have:=gH h; omega
@[simp] theorem qu (l:List qe):(qe.rows l).length=l.length:=by rw[qe.rows_eq]; simp
def GH (name:List UInt8):Va:=(cL 0 name).getD default
theorem qeu {A:Type} (c:Bool) (a b:A):(bif c then some a else some b)=some (bif c then a else b):=by cases c<;>rfl
theorem HS (n:Nat) (name:List UInt8):cL n name=some (GH name):=by
 simp only[GH,cL,vq,qeu,jW]
theorem St (n:Nat) (name:List UInt8):Vp n name=some ((GH name).least,(GH name).most,(GH name).kind):=by
 by_cases h1:name=[115,105,122,101]; · subst h1; rfl
 by_cases h2:name=[97,98,115]; · subst h2; rfl
 by_cases h3:name=[104,101,97,100]; · subst h3; rfl
 by_cases h4:name=[108,97,115,116]; · subst h4; rfl
 by_cases b:name=[116,101,120,116]; · subst b; rfl
 by_cases c:name=[99,111,97,108,101,115,99,101]; · subst c; rfl
 by_cases d:name=[107,101,121,115]; · subst d; rfl
 by_cases e:name=[108,97,98,101,108,115]; · subst e; rfl
 by_cases f:name=[116,121,112,101]; · subst f; rfl
 by_cases a:name=[114,97,110,103,101]; · subst a; rfl
 simp only[GH,cL,vq,Vp,cE,kbf.2 h1,kbf.2 h2,kbf.2 h3,kbf.2 h4,kbf.2 b,kbf.2 c,kbf.2 d,kbf.2 e,kbf.2 f,kbf.2 a,kcf,jW]
inductive WfE:qe->Prop where
 | mk {op:Int} {name:List UInt8} {val:Val} {names:List (List UInt8)} {args:List qe} (h1:op≠6->names=[]) (h2:op=10->args.length=2) (h3:∀ x∈args,WfE x) (h4:op=1->0<=kd val/\kd val<=3):WfE (.mk op name val names args)
def eqs (name:List UInt8):Bool:=name==[61]||name==[60,62]
mutual
def nY (v:Env):qe->Int×Int
 | .mk op name _ names args=>
  if op=2 then(if zE v name=0 then(0,2)else(zE v name,0))
  else if op=14 then(0,2)
  else
   let e:=if op=13 then(if(args.length:Int)<(GH name).least\/(args.length:Int)>(GH name).most then 2 else bk v (GH name).kind args)
    else if op=4\/op=11\/op=12 then bk v 0 args
    else if op=15 then bk v 1 args
    else if op=10 then(if eqs name then eL v args else bk v 3 args)
    else bk v 3 args
   let e:=if e=0/\op=6/\dup names then 2 else e
   if e≠0 then(0,e)else(3,0)
def bk (v:Env) (kind:Int):List qe->Int
 | []=>0
 | x::l=>if(nY v x).2≠0 then(nY v x).2 else if kind≠0/\(nY v x).1≠kind then 3 else bk v kind l
def eL (v:Env):List qe->Int
 | x::y::_=>if(nY v x).2≠0 then(nY v x).2 else if(nY v y).2≠0 then(nY v y).2 else if(nY v x).1≠(nY v y).1 then 3 else 0
 | _=>0
end
end W
end
section
open Go Ax
namespace W
def qog (v:Env) (kind:Int) (x:qe):Option Int:=
 if(nY v x).2≠0 then some (nY v x).2 else if kind≠0/\(nY v x).1≠kind then some 3 else none
theorem qeg (v:Env) (kind:Int):∀ l:List qe,orE (vu (qog v kind) l) (some 0)=some (bk v kind l)
 | []=>rfl
 | x::l=>by
  have ih:=qeg v kind l;simp only[vu,qog,bk];by_cases h1:(nY v x).2=0
  ·by_cases h2:kind≠0/\(nY v x).1≠kind
   ·rw[if_neg (by simpa using h1),if_pos h2,if_neg (by simpa using h1),if_pos h2]; rfl
   rw[if_neg (by simpa using h1),if_neg h2,if_neg (by simpa using h1),if_neg h2];exact ih
  rw[if_pos h1,if_pos h1]; rfl
theorem NW {op:Int} {name:List UInt8} {val:Val} {names:List (List UInt8)} {args:List qe} (h:WfE (.mk op name val names args)):(op≠6->names=[])/\(op=10->args.length=2)/\∀ x∈args,WfE x:=by
 cases h with
 | mk h1 h2 h3 _=>exact⟨h1,h2,h3⟩
theorem gf {a b:Int} (h:¬a=b):(a==b)=false:=kbf.2 h
def dB:qe->Int×List UInt8×List qe
 | .mk op name _ _ args=>(op,name,args)
theorem mY (o:List (List UInt8)) (v:Env):∀ n:Nat,n<=137438953472 ->
  (∀ l kind,2 * uF l<n->(∀ x∈l,WfE x)->qV n l kind o v=some (bk v kind l)) /\
  (∀ x,2 * dC x+1<n->WfE x->zQ n x o v=some (nY v x)) /\
  (∀ x,2 * dC x<n->WfE x->(dB x).1=10->xc n x o v=some (if eqs (dB x).2.1 then eL v (dB x).2.2 else bk v 3 (dB x).2.2)):=by
 intro n
 induction n with
 | zero=>intro _; exact⟨fun _ _ h=>by omega,fun _ h=>by omega,fun _ h=>by omega⟩
 | succ n ih=>
  intro hn;obtain⟨iha,g,F⟩:=ih (by omega);refine⟨?_,?_,?_⟩
  ·intro l kind G hw
   have hlen:=xY l;simp only[qV,ng];have e:=zY (B:=uC n l (zQ n) o v kind) (fun k=>((k:Nat):Int)) (l:=l) (qog v kind) (rest:=some 0)
    (fun k x Q f=>by
     have H:=qL f;have hm:=gH (qw f);have I:=g x (by omega) (hw x (qw f));obtain⟨op,name,⟨a1,a2,a3,a4,a5,u⟩,names,args⟩:=x;simp only[uC,qu,qx H,kct,qf f,qc,I,fe,qog];generalize nY v _=r;obtain⟨kd,er⟩:=r;rw[qU (by omega)];by_cases h1:er=0
     ·subst h1
      by_cases h2:kind=0
      ·subst h2; simp[ji]
      by_cases h3:kd=kind
      ·subst h3; simp[ji]
      simp[h2,h3,ji]
     simp[h1,ji])
    (fun Q=>by simp only[uC,qu,qm,kcf]) (n:=n) (by omega)
   exact Eq.trans e (qeg v kind l)
  ·intro x f hw
   obtain⟨op,name,⟨a1,a2,a3,a4,a5,u⟩,names,args⟩:=x;obtain⟨R,O,w⟩:=NW hw;have t:2 * uF args<n/\names.length<n:=by
    have:=xi names;have h0:=xY args;simp only[dC]at f;omega
   have J:=UF t.2 (by omega);have a:=fun kind=>iha args kind t.1 w
   have k2:∀ e:Int,xd n op names e=some (let e:=if e=0/\op=6/\dup names then 2 else e; if e≠0 then(0,e)else(3,0)):=by
    intro e;simp only[xd,gC,J];by_cases h1:e=0
    ·subst h1
     by_cases h2:op=6
     ·subst h2
      cases dup names<;>simp
     ·simp[h2,gf h2,ji]
    simp[h1,gf h1,ji]
   have k4:xH n (qV n) args o v op names (xc n) name a1 a2 a3 a4 a5 u=xH n (qV n) args o v op names (xc n) name a1 a2 a3 a4 a5 u:=rfl;simp only[zQ,bC,xH,HS,qc,qu,a,k2,nY,zE];by_cases h2:op=2
   ·subst h2
    by_cases H:va v name 0=0<;>simp[H,ji]
   by_cases y:op=14
   ·subst y; simp[ji]
   by_cases z:op=13
   ·subst z
    by_cases P:(args.length:Int)<(GH name).least\/(args.length:Int)>(GH name).most
    ·simp[P,k2,ji]
    simp[P,k2,ji]
   by_cases A:op=10
   ·subst A
    have:=F (.mk 10 name (.mk a1 a2 a3 a4 a5 u) names args) (by omega) hw rfl;by_cases he:eqs name=true<;>simp[this,dB,k2,he,ji]
   by_cases h4:op=4
   ·subst h4; simp[ji]
   by_cases C:op=11
   ·subst C; simp[ji]
   by_cases D:op=12
   ·subst D; simp[ji]
   by_cases E:op=15
   ·subst E; simp[ji]
   simp[h2,y,z,A,h4,C,D,E,ji]
  intro x f hw b;obtain⟨op,name,⟨a1,a2,a3,a4,a5,u⟩,names,args⟩:=x;obtain⟨R,O,w⟩:=NW hw;have b:op=10:=b;have G:=O b;subst b;obtain⟨p,S,rfl⟩:=List.exists_cons_of_length_pos (l:=args) (by omega);obtain⟨q,T,rfl⟩:=List.exists_cons_of_length_pos (l:=S) (by simp at G; omega);have K:T=[]:=by simpa using G
  subst K;have t:2 * uF [p,q]<n:=by
   simp only[dC]at f;omega
  have hp:=g p (by simp only[uF]at t; omega) (w p (by simp));have U:=g q (by simp only[uF]at t; omega) (w q (by simp));have a:=iha [p,q] 3 t w;obtain⟨op1,i,⟨V,X,Y,Z,b5,b6⟩,c,j⟩:=p;obtain⟨L,m,⟨c1,c2,c3,c4,c5,c6⟩,d,s⟩:=q;simp only[xc,bB,dB,a,nq,oh,qc,hp,U,eL,eqs];generalize nY v (.mk op1 i (.mk V X Y Z b5 b6) c j)=r at *;generalize nY v (.mk L m (.mk c1 c2 c3 c4 c5 c6) d s)=r2 at *;obtain⟨kd,er⟩:=r;obtain⟨M,N⟩:=r2;cases(name==[61])<;>cases(name==[60,62])<;>simp[ji]<;>(by_cases h1:er=0<;>by_cases h2:N=0<;>by_cases h3:kd=M<;>simp[h1,h2,h3])
end W
end
section
open Go Ax
namespace W
theorem qcs (name:List UInt8):0<=(GH name).kind:=by
 by_cases h1:name=[115,105,122,101]; · subst h1; decide
 by_cases h2:name=[97,98,115]; · subst h2; decide
 by_cases h3:name=[104,101,97,100]; · subst h3; decide
 by_cases h4:name=[108,97,115,116]; · subst h4; decide
 by_cases b:name=[116,101,120,116]; · subst b; decide
 by_cases c:name=[99,111,97,108,101,115,99,101]; · subst c; decide
 by_cases d:name=[107,101,121,115]; · subst d; decide
 by_cases e:name=[108,97,98,101,108,115]; · subst e; decide
 by_cases f:name=[116,121,112,101]; · subst f; decide
 by_cases a:name=[114,97,110,103,101]; · subst a; decide
 simp only[GH,cL,vq,kbf.2 h1,kbf.2 h2,kbf.2 h3,kbf.2 h4,kbf.2 b,kbf.2 c,kbf.2 d,kbf.2 e,kbf.2 f,kbf.2 a,kcf,jW]
 decide
theorem Qz (v:Env):∀ n:Nat,n<=137438953472 ->
  (∀ l kind,0<=kind->v.length+2 * uF l<n->(∀ x∈l,WfE x)->gz n (uS v) l kind=some (bk v kind l)) /\
  (∀ x,v.length+2 * dC x+1<n->WfE x->∃ k,mF n (uS v) x=some (k,(nY v x).2)/\((nY v x).2=0->k=(nY v x).1)):=by
 intro n
 induction n with
 | zero=>intro _; exact⟨fun _ _ _ h=>by omega,fun _ h=>by omega⟩
 | succ n ih=>
  intro hn;obtain⟨iha,d⟩:=ih (by omega);refine⟨?_,?_⟩
  ·intro l kind w G hw
   have hlen:=xY l;simp only[gz,Fb];have e:=zY (B:=sY n l (mF n) (v.map (·.1)) (v.map (·.2)) kind) (fun k=>((k:Nat):Int)) (l:=l) (qog v kind) (rest:=some 0)
    (fun k x X u=>by
     have H:=qL u;have hm:=gH (qw u);obtain⟨kd,I,f⟩:=d x (by omega) (hw x (qw u));obtain⟨op,name,⟨a1,a2,a3,a4,a5,Y⟩,names,args⟩:=x;simp only[sY,qu,qx H,kct,qf u,qc,I,qog];generalize nY v _=r at *;obtain⟨J,er⟩:=r;rw[qU (by omega)];by_cases h1:er=0
     ·subst h1
      obtain rfl:=f rfl;by_cases h2:kind=0
      ·subst h2; simp[ji]
      have K:0<kind:=by omega
      by_cases h3:kd=kind
      ·subst h3; simp[ji]
      simp[h2,K,h3,ji]
     simp[h1,ji])
    (fun X=>by simp only[sY,qu,qm,kcf]) (n:=n) (by omega)
   exact Eq.trans e (qeg v kind l)
  intro x u hw;obtain⟨op,name,⟨a1,a2,a3,a4,a5,Y⟩,names,args⟩:=x;obtain⟨Z,w2,L⟩:=NW hw;have F:v.length+2 * uF args<n/\names.length<n:=by
   have:=xi names;have w:=xY args;simp only[dC]at u;omega
  have M:=Cs F.2 (by omega);have f:=vW (n:=n) (v:=v) (by omega) (by omega) name;have a:=fun kind w=>iha args kind w F.1 L
  have w:=a 0 (by omega); have h1:=a 1 (by omega); have h3:=a 3 (by omega); have hc:=a (GH name).kind (qcs name);simp only[mF,VY,pt,vN,St,qc,qu,w,h1,h3,hc,f,M,nY];by_cases h2:op=2
  ·subst h2
   by_cases H:zE v name=0<;>simp[H,ji]
  by_cases y:op=14
  ·subst y; simp[ji]
  by_cases z:op=13
  ·subst z
   by_cases A:(args.length:Int)<(GH name).least\/(args.length:Int)>(GH name).most
   ·simp[A,ji]
   by_cases hz:bk v (GH name).kind args=0<;>simp[A,hz,ji]
  by_cases g:op=10
  ·have G:=w2 g
   subst g;obtain⟨p,l1,rfl⟩:=List.exists_cons_of_length_pos (l:=args) (by omega);obtain⟨q,l2,rfl⟩:=List.exists_cons_of_length_pos (l:=l1) (by simp at G; omega);have N:l2=[]:=by simpa using G
   subst N;obtain⟨O,hp,i⟩:=d p (by simp only[uF]at F; omega) (L p (by simp));obtain⟨U,V,j⟩:=d q (by simp only[uF]at F; omega) (L q (by simp));obtain⟨op1,m,⟨b1,b2,b3,b4,b5,b6⟩,b,o⟩:=p;obtain⟨P,s,⟨c1,c2,c3,c4,c5,c6⟩,c,t⟩:=q;rcases r1:nY v (.mk op1 m (.mk b1 b2 b3 b4 b5 b6) b o)with ⟨kd,er⟩;rcases r2:nY v (.mk P s (.mk c1 c2 c3 c4 c5 c6) c t)with ⟨J,Q⟩;rw[r1]at hp i;rw[r2]at V j;simp only[nq,oh,qc,hp,V,bk,eL,eqs,r1,r2];simp only at i j;by_cases e1:er=0
   ·obtain rfl:=i e1
    by_cases e2:Q=0
    ·obtain rfl:=j e2
     by_cases e3:O=U<;>cases(name==[61])<;>cases(name==[60,62])<;>simp[e1,e2,e3,ji]<;>(by_cases e4:O=3<;>by_cases e5:U=3<;>simp_all)
    cases(name==[61])<;>cases(name==[60,62])<;>simp[e1,e2,ji]<;>(by_cases e4:O=3<;>simp_all)
   ·cases(name==[61])<;>cases(name==[60,62])<;>simp[e1,ji]
  by_cases R:op=6
  ·subst R
   by_cases hz:bk v 3 args=0<;>cases S:dup names<;>simp[hz,S,qD,ji]
  have T:=Z R;subst T;have S:dup []=false:=rfl;by_cases h4:op=4
  ·subst h4; by_cases hz:bk v 0 args=0<;>simp[hz,ji]
  by_cases C:op=11
  ·subst C; by_cases hz:bk v 0 args=0<;>simp[hz,ji]
  by_cases D:op=12
  ·subst D; by_cases hz:bk v 0 args=0<;>simp[hz,ji]
  by_cases E:op=15
  ·subst E; by_cases hz:bk v 1 args=0<;>simp[hz,ji]
  by_cases hz:bk v 3 args=0<;>simp[h2,y,z,g,h4,C,D,E,R,hz,S,qD,ji]
end W
end
section
open Go Ax
namespace W
structure EnvOk (v:Env):Prop where
 kinds:∀ e∈v,0<e.2
 names:∀ e∈v,e.1≠[]
 nodup:(v.map (·.1)).Nodup
abbrev vV (v:Env):List (List UInt8):=v.map (·.1)
theorem Dx {s:List UInt8} {k:Int}:∀ {v:Env},Xq s v=some k->(s,k)∈v
 | [],h=>by simp[Xq]at h
 | (s',k')::v,h=>by
  simp only[Xq]at h;by_cases a:s=s'
  ·subst a; simp at h; subst h; simp
  have:(s==s')=false:=kbf.2 a;simp only[this,kcf]at h;exact List.mem_cons_of_mem _ (Dx h)
theorem lV {s:List UInt8}:∀ {v:Env},Xq s v=none->s ∉ v.map (·.1)
 | [],_=>by simp
 | (s',k')::v,h=>by
  simp only[Xq]at h;by_cases a:s=s'
  ·subst a; simp at h
  have:(s==s')=false:=kbf.2 a;simp only[this,kcf]at h;simp only[jl,jg,not_or];exact⟨a,lV h⟩
theorem Bu {v:Env} (h:EnvOk v) (s:List UInt8):0<=zE v s:=by
 unfold zE va;cases hm:Xq s v with
 | none=>simp
 | some k=>have:=h.kinds _ (Dx hm); simp at this ⊢; omega
theorem lM {v:Env} (h:EnvOk v) {s:List UInt8} (hz:zE v s=0):Xq s v=none:=by
 unfold zE va at hz;cases hm:Xq s v with
 | none=>rfl
 | some k=>rw[hm]at hz; have:=h.kinds _ (Dx hm); simp at this hz; omega
theorem Dt {v:Env} (h:EnvOk v):zE v []=0:=by
 unfold zE va;cases hm:Xq [] v with
 | none=>rfl
 | some k=>exact absurd rfl (h.names _ (Dx hm))
theorem lX {s:List UInt8} {k:Int}:∀ {v:Env},Xq s v=some k->db s k v=v
 | [],h=>by simp[Xq]at h
 | (s',k')::v,h=>by
  simp only[Xq]at h;by_cases a:s=s'
  ·subst a; simp at h; subst h; simp[db]
  have:(s==s')=false:=kbf.2 a;simp only[this,kcf]at h;simp only[db,this,kcf,lX h]
def nu (v:Env) (s:List UInt8) (k:Int):Env:=if s=[]\/zE v s≠0 then v else v++[(s,k)]
theorem DP {v:Env} (h:EnvOk v) (s:List UInt8) {k:Int} (f:0<k):EnvOk (nu v s k):=by
 unfold nu;split
 ·exact h
 rename_i c;simp only[not_or,Decidable.not_not]at c;refine⟨fun e he=>?_,fun e he=>?_,?_⟩
 ·rcases jz.1 he with he|he
  ·exact h.kinds e he
  simp at he; subst he; exact f
 ·rcases jz.1 he with he|he
  ·exact h.names e he
  simp at he; subst he; exact c.1
 rw[ka,List.nodup_append];refine⟨h.nodup,by simp,?_⟩;intro a g b d;simp at d;subst d;exact fun e=>lV (lM h c.2) (e ▸ g)
theorem Fa (v:Env) (s:List UInt8) (k:Int):(nu v s k).length<=v.length+1:=by
 unfold nu;split<;>simp
theorem Rp:EnvOk []:=⟨by simp,by simp,by simp⟩
theorem qac {m b:Nat} (h:m<=137438953472) (a:b<=1024):decide (m * b<=140737488355328)=true:=by
 refine kdt ?_;have:m * b<=137438953472 * 1024:=Nat.mul_le_mul h a;omega
theorem nO {n:Nat} {v:Env} (h:EnvOk v) (f:v.length<n) (g:n<=137438953472) {s:List UInt8} (d:s≠[]) {k:Int} (e:zE v s=0\/zE v s=k) (c:k≠0) :
  xb n s k (vV v) v=some (vV (nu v s k),nu v s k):=by
 unfold xb;by_cases hz:zE v s=0
 ·have b:va v s 0=0:=hz
  have hw:nu v s k=v++[(s,k)]:=by unfold nu; rw[if_neg (by simp[d,hz])]
  rw[hw];simp only[b,kbs,kct,vY,qbn _ _ _ (lM h hz),ka,jl,jO];rw[zH (qac (by simp; omega) (by omega))]
 have b:(va v s 0==0)=false:=kbf.2 hz;have a:zE v s=k:=e.resolve_left hz;have hw:nu v s k=v:=by unfold nu; rw[if_pos (.inr hz)]
 rw[hw];have hm:Xq s v=some k:=by
  unfold zE va at a;cases hm:Xq s v with
  | none=>rw[hm]at a; simp at a; exact absurd a.symm c
  | some k'=>rw[hm]at a; simp at a; rw[a]
 simp only[b,kcf,vY,lX hm]
theorem Zs {n:Nat} {v:Env} (h:EnvOk v) (d:v.length<n) (e:n<=137438953472) (s:List UInt8) (k:Int):fr n (uS v) s k=some (uS (nu v s k)):=by
 unfold fr;have b:=vW d e s;have f:=Bu h s;simp only[b];by_cases c:s=[]
 ·subst c; simp[nu]
 have a:(s==[])=false:=kbf.2 c;by_cases hz:zE v s=0
 ·have hw:nu v s k=v++[(s,k)]:=by unfold nu; rw[if_neg (by simp[c,hz])]
  rw[hw];simp only[a,hz,jp,zg,qc,kcf];rw[kdf (by omega)];simp only[kcf];rw[zH (qac (by simp; omega) (by omega)),zH (qac (by simp; omega) (by omega)),zH (qac (by simp; omega) (by omega)),zH (qac (by simp; omega) (by omega))];simp[uS]
 have hw:nu v s k=v:=by unfold nu; rw[if_pos (.inr hz)]
 rw[hw];simp only[a,jp,zg,qc,kcf];rw[kdt (by omega)];rfl
def tg (v:Env) (keys:List (List UInt8)) (vals:List qe):Int:=
 if bk v 3 vals≠0 then bk v 3 vals else if dup keys then 2 else 0
theorem UE {n:Nat} {o:List (List UInt8)} {v:Env} {keys:List (List UInt8)} {vals:List qe} (h1:2 * uF vals<n) (h2:keys.length<n) (a:n<=137438953472) (hw:∀ x∈vals,WfE x) :
  gb n keys vals o v=some (tg v keys vals):=by
 unfold gb;rw[(mY o v n a).1 vals 3 h1 hw,UF h2 a];unfold tg;by_cases hz:bk v 3 vals=0<;>cases b:dup keys<;>simp[hz,ji]
theorem Cu {n:Nat} {v:Env} {keys:List (List UInt8)} {vals:List qe} (h1:v.length+2 * uF vals<n) (h2:keys.length<n) (b:n<=137438953472) (hw:∀ x∈vals,WfE x) :
  tY n (uS v) keys vals=some (tg v keys vals):=by
 unfold tY;have a:=(Qz v n b).1 vals 3 (by omega) h1 hw;simp only[uS]at a;simp only[a,Cs h2 b,rW];unfold tg;by_cases hz:bk v 3 vals=0<;>cases c:dup keys<;>simp[hz,qD,ji]
end W
end
section
open Go Ax
namespace W
theorem Dl {A R T:Type} (I:Nat->T->Prop) {f:T->A->R ⊕ T}:∀ (l:List A) (k:Nat) (t a:T),(∀ j x t a,l[j]? =some x->I (k+j) t->f t x=.inr a->I (k+j+1) a)->I k t->uT f t l=.inr a->I (k+l.length) a
 | [],k,t,a,_,hi,h=>by simp only[uT,Sum.inr.injEq]at h; subst h; exact hi
 | x::l,k,t,a,hs,hi,h=>by
  simp only[uT]at h;cases b:f t x with
  | inl r=>rw[b]at h; cases h
  | inr t1=>
   rw[b]at h;have h1:=hs 0 x t t1 rfl hi b;have:=Dl I l (k+1) t1 a (fun j y u d e hu c=>by
    have:=hs (j+1) y u d (by simpa using e) (by rw[show k+(j+1)=k+1+j by omega]; exact hu) c;rw[show k+(j+1)+1=k+1+j+1 by omega]at this;exact this) h1 h
   rw[ja,show k+(l.length+1)=k+1+l.length by omega];exact this
theorem zd {A:Type} (f:A->Nat):∀ {l:List A} {x:A},x∈l->f x<=(l.map f).sum
 | y::l,x,h=>by
  rcases jg.1 h with rfl|h
  ·simp
  have:=zd f h; simp; omega
theorem zc {A:Type} (f:A->Nat) (a:∀ x,1<=f x):∀ l:List A,l.length<=(l.map f).sum
 | []=>by simp
 | x::l=>by have:=zc f a l; have:=a x; simp; omega
theorem QB {A:Type} (f:A->Nat):∀ {l:List A} {k:Nat} {x:A},l[k]? =some x->((l.take k).map f).sum+f x<=(l.map f).sum
 | [],_,_,h=>by simp at h
 | y::l,0,x,h=>by simp at h; subst h; simp
 | y::l,k+1,x,h=>by
  have:=QB f (l:=l) (k:=k) (x:=x) (by simpa using h);simp only[List.take_succ_cons,jl,jB]; omega
theorem tN {A:Type} (f:A->Nat) {l:List A} {k:Nat} {x:A} (h:l[k]? =some x):((l.take (k+1)).map f).sum=((l.take k).map f).sum+f x:=by
 rw[List.take_succ,h]; simp
def fK (d:qt):Nat:=1+d.var_.length+sS d.labels+sS d.keys+uF d.vals
def bW (d:qy):Nat:=1+d.var_.length+d.type_.length+sS d.keys+uF d.vals
def dA (p:zx):Nat:=1+(p.nodes.map fK).sum+(p.edges.map bW).sum
structure WfP (p:zx):Prop where
 len:p.nodes.length=p.edges.length+1
 nodes:∀ d∈p.nodes,∀ x∈d.vals,WfE x
 edges:∀ d∈p.edges,∀ x∈d.vals,WfE x
 ks:∀ d∈p.nodes,d.keys.length=d.vals.length
@[simp] theorem zJ (l:List qt):(qt.rows l).length=l.length:=by simp[qt.rows]
@[simp] theorem uL (l:List qy):(qy.rows l).length=l.length:=by simp[qy.rows]
@[simp] theorem zL (l:List zx):(zx.rows l).length=l.length:=by simp[zx.rows]
abbrev Out:=(Int×Env) ⊕ Env
def Uh (vy:Bool) (ahead v:Env) (d:qy):Out:=
 if zE v d.var_≠0\/(vy=true/\(d.type_=[]\/d.dir=2))then .inl (2,v)
 else if tg ahead d.keys d.vals≠0 then .inl (tg ahead d.keys d.vals,v)
 else .inr (nu v d.var_ 2)
def Cl (vy:Bool) (ahead v:Env) (d:qt):Out:=
 if zE v d.var_≠0/\zE v d.var_≠1 then .inl (3,v)
 else if zE v d.var_=1/\vy=true/\0<d.labels.length+d.keys.length then .inl (2,v)
 else if tg ahead d.keys d.vals≠0 then .inl (tg ahead d.keys d.vals,v)
 else .inr (nu v d.var_ 1)
def tS (vy:Bool) (ahead v:Env):Option qy×qt->Out
 | (none,d)=>Cl vy ahead v d
 | (some e,d)=>match Uh vy ahead v e with
  | .inl r=>.inl r
  | .inr v'=>Cl vy ahead v' d
def cb (p:zx):List (Option qy×qt):=(none::p.edges.map some).zip p.nodes
def Zz (vy:Bool) (ahead v:Env) (p:zx):Out:=uT (tS vy ahead) v (cb p)
def tK (vy:Bool) (ahead v:Env) (l:List zx):Out:=uT (Zz vy ahead) v l
theorem NQ {p:zx} (h:WfP p):(cb p).length=p.nodes.length:=by
 simp[cb,h.len]
theorem GV {p:zx} {k:Nat} {a:Option qy} {d:qt} (h:(cb p)[k]? =some (a,d)) :
  p.nodes[k]? =some d/\(k=0->a=none)/\(∀ j,k=j+1->∃ e,a=some e/\p.edges[j]? =some e):=by
 unfold cb at h;rw[List.getElem?_zip_eq_some]at h;refine⟨h.2,fun e=>?_,fun j e=>?_⟩
 ·subst e; simpa using h.1.symm
 subst e;have h1:=h.1;simp only[je,List.getElem?_map,Option.map_eq_some_iff]at h1;obtain⟨x,b,rfl⟩:=h1;exact⟨x,rfl,b⟩
theorem qa2 {vy:Bool} {ahead v v':Env} {d:qy} (h:EnvOk v) (e:Uh vy ahead v d=.inr v'):EnvOk v'/\v'.length<=v.length+1:=by
 unfold Uh at e;split at e
 ·cases e
 split at e
 ·cases e
 cases e; exact⟨DP h _ (by decide),Fa _ _ _⟩
theorem qbq {vy:Bool} {ahead v v':Env} {d:qt} (h:EnvOk v) (e:Cl vy ahead v d=.inr v'):EnvOk v'/\v'.length<=v.length+1:=by
 unfold Cl at e;split at e
 ·cases e
 split at e
 ·cases e
 split at e
 ·cases e
 cases e; exact⟨DP h _ (by decide),Fa _ _ _⟩
theorem TY {vy:Bool} {ahead v v':Env} {x:Option qy×qt} (h:EnvOk v) (e:tS vy ahead v x=.inr v'):EnvOk v'/\v'.length<=v.length+2:=by
 obtain⟨a,d⟩:=x;cases a with
 | none=>have:=qbq h e; exact⟨this.1,by omega⟩
 | some ed=>
  simp only[tS]at e;cases he:Uh vy ahead v ed with
  | inl r=>rw[he]at e; cases e
  | inr v1=>
   rw[he]at e;have h1:=qa2 h he;have h2:=qbq h1.1 e;exact⟨h2.1,by omega⟩
theorem qjz {vy:Bool} {ahead v v':Env} {p:zx} (hp:WfP p) (h:EnvOk v) (e:Zz vy ahead v p=.inr v'):EnvOk v'/\v'.length<=v.length+2 * dA p:=by
 have:=Dl (fun k t=>EnvOk t/\t.length<=v.length+2 * k) (cb p) 0 v v' (fun j x t c _ a b=>by
  have:=TY a.1 b;exact⟨this.1,by omega⟩) ⟨h,by omega⟩ e
 rw[NQ hp]at this;have d:=zc fK (fun x=>by unfold fK; omega) p.nodes
 unfold dA;exact⟨this.1,by omega⟩
def qiu:Out->Int×List (List UInt8)×Env
 | .inl (e,v)=>(e,vV v,v)
 | .inr v=>(0,vV v,v)
theorem qe5 {vy:Bool} {ahead v:Env} {d:qy} {r:Int×Env} (e:Uh vy ahead v d=.inl r):r.1≠0:=by
 unfold Uh at e;split at e
 ·cases e; simp
 split at e
 ·rename_i h; cases e; exact h
 cases e
theorem Mr {n:Nat} {v ahead:Env} (h:EnvOk v) (f:n<=137438953472) {d:qy} (vy:Bool) (h1:v.length+2 * bW d<n) (hw:∀ x∈d.vals,WfE x) :
  cO n d vy (vV v) v (vV ahead) ahead=some (qiu (Uh vy ahead v d)):=by
 obtain⟨var,type,dir,keys,vals⟩:=d;unfold bW at h1;have:=xi keys;simp only at h1 hw;have hp:=UE (n:=n) (o:=vV ahead) (v:=ahead) (keys:=keys) (vals:=vals) (by omega) (by omega) f hw;unfold cO;simp only[hp,qc,gB,Uh];by_cases a:zE v var=0
 ·have b:va v var 0=0:=a
  simp only[b,a];have g:var≠[]->xb n var 2 (vV v) v=some (vV (nu v var 2),nu v var 2):=fun c=>nO h (by omega) f c (.inl a) (by decide)
  cases vy<;>by_cases i:type=[]<;>by_cases j:dir=2<;>by_cases hz:tg ahead keys vals=0<;>by_cases c:var=[] <;>
   simp[i,j,hz,c,ji,qiu,nu]<;>(try (have:=g c; simp[nu,c,a]at this; simp[this,a]))
 have e:¬ va v var 0=0:=a;have b:(va v var 0 != 0)=true:=by simpa using e
 simp[b,a,qiu]
theorem PL {n:Nat} {v:Env} (h:EnvOk v) (s:List UInt8):bf n s (vV v) v=some (decide (zE v s≠0),if zE v s≠0/\zE v s≠1 then 3 else 0):=by
 unfold bf;have b:zE v s=va v s 0:=rfl;by_cases a:s=[]
 ·subst a
  simp[Dt h]
 rw[← b];by_cases hz:zE v s=0<;>by_cases h1:zE v s=1<;>simp[a,hz,h1,ji]
def goP (k:Nat) (a:Int×List (List UInt8)×Env->Option (Int×List (List UInt8)×Env)) (o:Out):Option (Int×List (List UInt8)×Env):=
 qgv (match o with|.inl (e,v)=>(.inl (e,vV v,v):(Int×List (List UInt8)×Env) ⊕ Env)|.inr v=>.inr v) fun v=>a (((k+1:Nat):Int),vV v,v)
theorem Mt {n:Nat} {v ahead:Env} (h:EnvOk v) (l:n<=137438953472) {d:qt} (vy:Bool) (h1:v.length+2 * fK d<n) (hw:∀ x∈d.vals,WfE x) {k:Nat} (s:k<n) (m:Int×List (List UInt8)×Env->Option (Int×List (List UInt8)×Env)) :
  vJ n d.var_ vy d.labels d.keys d.vals (vV ahead) ahead m (k:Int) (vV v,v)=goP k m (Cl vy ahead v d):=by
 obtain⟨var,labels,keys,vals⟩:=d;unfold fK at h1;have:=xi keys;have:=xi labels;simp only at h1 hw;have hp:=UE (n:=n) (o:=vV ahead) (v:=ahead) (keys:=keys) (vals:=vals) (by omega) (by omega) l hw;have c:kwr .i64 ((labels.length:Int)+(keys.length:Int))=((labels.length+keys.length:Nat):Int):=by rw[UW (by omega) (by omega)]; omega
 have i:decide (((labels.length+keys.length:Nat):Int)>0)=decide (0<labels.length+keys.length):=by
  by_cases p:0<labels.length+keys.length
  ·rw[kdt p,kdt (by omega)]
  rw[kdf p,kdf (by omega)]
 simp only[vJ,PL h,qc,qn,c,i,uQ,hp,uR,uP,Cl,goP];rw[qU (by omega)];have q:var≠[]->zE v var=0\/zE v var=1->xb n var 1 (vV v) v=some (vV (nu v var 1),nu v var 1):=fun a j=>nO h (by omega) l a j (by decide)
 by_cases hz:zE v var=0
 ·by_cases a:var=[]
  ·subst a
   by_cases f:tg ahead keys vals=0<;>simp[hz,f,nu,ji]
  have b:=q a (.inl hz);by_cases f:tg ahead keys vals=0<;>simp[hz,f,a,b,ji]
 by_cases g:zE v var=1
 ·have a:var≠[]:=fun e=>by subst e; rw[Dt h]at g; cases g
  have b:=q a (.inr g);cases vy<;>by_cases f:tg ahead keys vals=0<;>by_cases r:0<labels.length+keys.length<;>simp[g,f,a,b,r,ji]
 ·simp[hz,g,ji]
end W
end
section
open Go Ax
namespace W
theorem qnr {p:zx} (hp:WfP p) {k:Nat} {x:Option qy×qt} (h:(cb p)[k]? =some x):x.2∈p.nodes/\∀ e,x.1=some e->e∈p.edges:=by
 obtain⟨b,d⟩:=x;obtain⟨h1,h2,h3⟩:=GV h;refine⟨qw h1,fun e he=>?_⟩;cases k with
 | zero=>have:=h2 rfl; rw[this]at he; cases he
 | succ j=>
  obtain⟨c,a,hm⟩:=h3 j rfl;simp only at he;rw[a]at he;cases he;exact qw hm
theorem VH (x:qt):1<=fK x:=by unfold fK; omega
theorem Nh (x:qy):1<=bW x:=by unfold bW; omega
theorem qlu (k:Nat) (a:Int×List (List UInt8)×Env->Option (Int×List (List UInt8)×Env)) (o:Out) :
  goP k a o=qgv (match o with|.inl (e,v)=>(.inl (e,vV v,v):(Int×List (List UInt8)×Env) ⊕ Env)|.inr v=>.inr v) fun v=>a (((k+1:Nat):Int),vV v,v):=rfl
def toP (o:Out):(Int×List (List UInt8)×Env) ⊕ Env:=match o with|.inl (e,v)=>.inl (e,vV v,v)|.inr v=>.inr v
theorem QW {A R R' T:Type} (g:R->R') (f:T->A->R ⊕ T) (a:T->A->R' ⊕ T) (h:∀ t x,a t x=(match f t x with|.inl r=>.inl (g r)|.inr t=>.inr t)) :
  ∀ (l:List A) (t:T),uT a t l=(match uT f t l with|.inl r=>.inl (g r)|.inr t=>.inr t)
 | [],t=>rfl
 | x::l,t=>by
  simp only[uT,h];cases f t x with
  | inl r=>rfl
  | inr t'=>exact QW g f a h l t'
theorem Mu {n:Nat} {v ahead:Env} (h:EnvOk v) (s:n<=137438953472) {p:zx} (hp:WfP p) (vy:Bool) (h1:v.length+2 * dA p<n) :
  cQ n p vy (vV v) v (vV ahead) ahead=some (qiu (Zz vy ahead v p)):=by
 obtain⟨nodes,edges⟩:=p;have w:=NQ hp;have D:=zc fK VH nodes;have E:nodes.length+1<=dA ⟨nodes,edges⟩:=by unfold dA; simp only; omega
 unfold cQ;have e:=xZ (B:=ub n nodes edges vy (vV ahead) ahead) (fun k (t:Env)=>((k:Int),vV t,t)) (fun k t=>EnvOk t/\t.length<=v.length+2 * k) (l:=cb ⟨nodes,edges⟩)
  (fun t x=>toP (tS vy ahead t x)) (rest:=fun t=>some (0,vV t,t))
  (fun k x t y o b=>by
   have F:=qnr hp o;obtain⟨U,d⟩:=x;obtain⟨g1,g2,g3⟩:=GV o;simp only at g1 g2 g3;have G:=qL g1;have V:=zd fK (qw g1);have H:fK d+1<=dA ⟨nodes,edges⟩:=by unfold dA; simp only; omega
   have I:=QB fK g1;have J:=zc fK VH (nodes.take k);have K:(nodes.take k).length=k:=by simp; omega
   have L:k+fK d+1<=dA ⟨nodes,edges⟩:=by unfold dA; simp only; omega
   have a:=fun(v':Env) (M:EnvOk v') (N:v'.length<=t.length+1)=>Mt (ahead:=ahead) M s vy (d:=d) (by have:=b.2; omega) (hp.nodes d (qw g1)) (k:=k) (by omega) y;have O:d=⟨d.var_,d.labels,d.keys,d.vals⟩:=rfl;simp only[ub,zJ,qx G,kct,qf g1,qc];cases k with
   | zero=>
    have:=g2 rfl;subst this;rw[show decide (((0:Nat):Int)>0)=false from rfl,kcf];rw[a t b.1 (by omega),qlu];unfold toP;rfl
   | succ j=>
    obtain⟨m,rfl,he⟩:=g3 j rfl;have P:=zd bW (qw he);have Q:=QB bW he;have z:=zc bW Nh (edges.take j);have R:(edges.take j).length=j:=by have:=qL he; simp; omega
    have S:j+1+j+bW m+1<=dA ⟨nodes,edges⟩:=by unfold dA; simp only; omega
    rw[show decide (((j+1:Nat):Int)>0)=true from kdt (by omega),kct];have q:kwr .i64 (((j+1:Nat):Int) - 1)=((j:Nat):Int):=by rw[UW (by omega) (by omega)]; omega
    rw[q,qf he,qc];have c:=Mr (ahead:=ahead) b.1 s vy (d:=m) (by have:=b.2; omega) (hp.edges m (qw he));simp only[c,qc,tS];cases A:Uh vy ahead t m with
    | inl r=>
     obtain⟨er,v'⟩:=r;have f:=qe5 A;simp only at f;simp[qiu,toP,f,ji]
    | inr v'=>
     have g:=qa2 b.1 A;simp only[qiu,toP];rw[show((0:Int) != 0)=false from rfl,kcf];rw[a v' g.1 g.2,qlu])
  (fun k x t T o b i=>by
   have:tS vy ahead t x=.inr T:=by
    unfold toP at i;cases C:tS vy ahead t x with
    | inl r=>rw[C]at i; cases i
    | inr u=>rw[C]at i; cases i; rfl
   have:=TY b.1 this;exact⟨this.1,by have:=b.2; omega⟩)
  (fun t y b=>by
   rw[w];simp only[ub,zJ,qm,kcf]) (n:=n) (by rw[w]; show nodes.length<n; omega) (t0:=v) ⟨h,by simp⟩
 refine Eq.trans e ?_;rw[QW (fun(r:Int×Env)=>(r.1,vV r.2,r.2)) (tS vy ahead) _ (fun t x=>by unfold toP; cases tS vy ahead t x<;>rfl)]
 unfold Zz;cases uT (tS vy ahead) v (cb ⟨nodes,edges⟩)<;>rfl
theorem Mp {n:Nat} {v:Env} (h:EnvOk v) (p:v.length<n) (q:n<=137438953472):cM n (vV v) v=some (vV v,v):=by
 unfold cM;have s:∀ (k:Nat) (x:List UInt8×Int),v[k]? =some x->zE v x.1=x.2:=fun k x a=>by
  have:∀ {v:Env},(v.map (·.1)).Nodup->x∈v->Xq x.1 v=some x.2:=by
   clear a;intro v
   induction v with
   | nil=>intro _ h; cases h
   | cons y v ih=>
    intro f hm;simp only[jl,List.nodup_cons]at f;rcases jg.1 hm with rfl|c
    ·obtain⟨z,xv⟩:=x
     simp[Xq]
    have g:x.1≠y.1:=fun e=>f.1 (by rw[← e]; exact List.mem_map.2 ⟨x,c,rfl⟩)
    obtain⟨A,C⟩:=y;simp only[Xq,kbf.2 g,kcf];exact ih f.2 c
  unfold zE va;rw[this h.nodup (qw a)];rfl
 have j:∀ (k:Nat) (x:List UInt8×Int),v[k]? =some x->EnvOk (v.take k)/\zE (v.take k) x.1=0:=fun k x a=>by
  have t:(v.take k++v.drop k)=v:=List.take_append_drop k v;have b:=h.nodup;rw[← t,ka,List.nodup_append]at b;refine⟨⟨fun e he=>h.kinds e (List.mem_of_mem_take he),fun e he=>h.names e (List.mem_of_mem_take he),b.1⟩,?_⟩
  unfold zE va;cases hm:Xq x.1 (v.take k)with
  | none=>rfl
  | some y=>
   have h1:x.1∈(v.take k).map (·.1):=List.mem_map.2 ⟨_,Dx hm,rfl⟩
   have h2:x.1∈(v.drop k).map (·.1):=by
    refine List.mem_map.2 ⟨x,?_,rfl⟩;refine List.mem_of_getElem? (i:=0) ?_;rw[jE];simpa using a
   exact absurd rfl (b.2.2 _ h1 _ h2)
 have:=bY (B:=vZ n (vV v) v) (fun k=>((k:Int),vV (v.take k),v.take k)) v.length (r:=some (vV v,v))
  (fun k d u=>by
   obtain⟨x,a⟩:∃ x,v[k]? =some x:=⟨v[k],jf d⟩;have h1:(vV v)[k]? =some x.1:=by simp[a]
   obtain⟨l,hz⟩:=j k x a;have m:va v x.1 0=x.2:=s k x a;have o:=h.kinds x (qw a);have w:=nO l (n:=n) (by simp; omega) q (h.names x (qw a)) (k:=x.2) (.inl hz) (by omega);simp only[vZ,qn,jm,qx d,kct,qf h1,qc,m,w];rw[qU (by omega)];have hw:nu (v.take k) x.1 x.2=v.take (k+1):=by
    unfold nu;rw[if_neg (by simp[h.names x (qw a),hz]),List.take_succ,a];rfl
   rw[hw])
  (fun u=>by simp only[vZ,qn,jm,qm,kcf,List.take_length]) p
 simpa using this
end W
end
section
open Go Ax
namespace W
def Un (l:List zx):Nat:=1+(l.map dA).sum
theorem qbw (p:zx):1<=dA p:=by unfold dA; omega
theorem EO {vy:Bool} {ahead v:Env} {l:List zx} (hp:∀ p∈l,WfP p) (h:EnvOk v) :
  ∀ (k:Nat) (x:zx) (t a:Env),l[k]? =some x->(EnvOk t/\t.length<=v.length+2 * ((l.take k).map dA).sum)->Zz vy ahead t x=.inr a->EnvOk a/\a.length<=v.length+2 * ((l.take (k+1)).map dA).sum:=by
 intro k x t a b c d;have:=qjz (hp x (qw b)) c.1 d;rw[tN dA b];exact⟨this.1,by omega⟩
theorem NJ {vy:Bool} {ahead v v':Env} {l:List zx} (hp:∀ p∈l,WfP p) (h:EnvOk v) (e:tK vy ahead v l=.inr v'):EnvOk v'/\v'.length<=v.length+2 * Un l:=by
 have:=Dl (fun k t=>EnvOk t/\t.length<=v.length+2 * ((l.take k).map dA).sum) l 0 v v' (fun j x t b c a d=>by
  simp only[jy]at a ⊢;exact EO hp h j x t b c a d) ⟨h,by simp⟩ e
 simp only[jy,List.take_length]at this;unfold Un;exact⟨this.1,by omega⟩
theorem HU {n:Nat} {v:Env} (h:EnvOk v) (o:n<=137438953472) {l:List zx} (hp:∀ p∈l,WfP p) (vy:Bool) (h1:v.length+2 * Un l<n) :
  vU n l vy (vV v) v=some (qiu (tK vy v v l)):=by
 have hlen:=zc dA qbw l;unfold vU;unfold Un at h1;rw[Mp h (by omega) o,qc];have e:=xZ (B:=vK n l vy (vV v) v) (fun k (t:Env)=>((k:Int),vV t,t)) (fun k t=>EnvOk t/\t.length<=v.length+2 * ((l.take k).map dA).sum) (l:=l)
  (fun t x=>toP (Zz vy v t x)) (rest:=fun t=>some (0,vV t,t))
  (fun k x t z f g=>by
   have A:=qL f;have E:=QB dA f;have j:=Mu (ahead:=v) g.1 o (hp x (qw f)) vy (by have:=g.2; omega);obtain⟨nodes,edges⟩:=x;simp only[vK,zL,qx A,kct,qf f,qc,j];rw[qU (by omega)];cases C:Zz vy v t ⟨nodes,edges⟩with
   | inl r=>
    obtain⟨er,v'⟩:=r;have m:er≠0:=by
     have:∀ (l:List (Option qy×qt)) (u:Env),uT (tS vy v) u l=.inl (er,v')->er≠0:=by
      intro l
      induction l with
      | nil=>intro u h; cases h
      | cons y l ih=>
       intro u hu;simp only[uT]at hu;cases b:tS vy v u y with
       | inr u'=>rw[b]at hu; exact ih u' hu
       | inl r=>
        rw[b]at hu;cases hu;obtain⟨D,d⟩:=y;have a:∀ w:Env,Cl vy v w d=.inl (er,v')->er≠0:=by
         intro w hw;unfold Cl at hw;split at hw
         ·cases hw; simp
         split at hw
         ·cases hw; simp
         split at hw
         ·rename_i hz; cases hw; exact hz
         cases hw
        cases D with
        | none=>exact a u b
        | some ed=>
         simp only[tS]at b;cases c:Uh vy v u ed with
         | inl r=>rw[c]at b; cases b; exact qe5 c
         | inr w=>rw[c]at b; exact a w b
     exact this _ _ C
    simp[qiu,toP,m,ji]
   | inr v'=>simp[qiu,toP])
  (fun k x t q f g i=>by
   have:Zz vy v t x=.inr q:=by
    unfold toP at i;cases s:Zz vy v t x with
    | inl r=>rw[s]at i; cases i
    | inr u=>rw[s]at i; cases i; rfl
   exact EO hp h k x t q f g this)
  (fun t z g=>by simp only[vK,zL,qm,kcf]) (n:=n) (by omega) (t0:=v) ⟨h,by simp⟩
 refine Eq.trans e ?_;rw[QW (fun(r:Int×Env)=>(r.1,vV r.2,r.2)) (Zz vy v) _ (fun t x=>by unfold toP; cases Zz vy v t x<;>rfl)]
 unfold tK;cases uT (Zz vy v) v l<;>rfl
def toR (o:Out):(qQ×Int) ⊕ Env:=match o with|.inl (e,v)=>.inl (uS v,e)|.inr v=>.inr v
def qrh:Out->qQ×Int
 | .inl (e,v)=>(uS v,e)
 | .inr v=>(uS v,0)
theorem Sx {n:Nat} {v ahead:Env} (h:EnvOk v) (e:n<=137438953472) {l:List zx} {i:Nat} {p:zx} (t:l[i]? =some p) {k:Nat} {d:qt} (o:p.nodes[k]? =some d) (vy:Bool)
  (h1:v.length+ahead.length+2 * fK d<n) (A:k<n) (hw:∀ x∈d.vals,WfE x) (c:Int×List (List UInt8)×List Int->Option (qQ×Int)) :
  dQ n l (i:Int) (k:Int) vy (ahead.map (·.1)) (ahead.map (·.2)) c (v.map (·.1),v.map (·.2))=qgv (toR (Cl vy ahead v d)) fun v'=>c (((k+1:Nat):Int),v'.map (·.1),v'.map (·.2)):=by
 obtain⟨nodes,edges⟩:=p;obtain⟨var,labels,keys,vals⟩:=d;unfold fK at h1;have u:=xi keys;have w:=xi labels;simp only at h1 hw o;have hp:=Cu (n:=n) (v:=ahead) (keys:=keys) (vals:=vals) (by omega) (by omega) e hw;have f:=vW (n:=n) (v:=v) (by omega) e var;have a:=Zs (n:=n) h (by omega) e var 1;have b:kwr .i64 ((labels.length:Int)+(keys.length:Int))=((labels.length+keys.length:Nat):Int):=by rw[UW (by omega) (by omega)]; omega
 have g:decide (((labels.length+keys.length:Nat):Int)>0)=decide (0<labels.length+keys.length):=by
  by_cases q:0<labels.length+keys.length
  ·rw[kdt q,kdt (by omega)]
  rw[kdf q,kdf (by omega)]
 have y:=Bu h var;have k15:dR n (v.map (·.1)) (v.map (·.2)) vy labels keys (ahead.map (·.1)) (ahead.map (·.2)) vals var c (k:Int) (zE v var)=qgv (toR (Cl vy ahead v ⟨var,labels,keys,vals⟩)) fun v'=>c (((k+1:Nat):Int),v'.map (·.1),v'.map (·.2)):=by
  simp only[dR,qn,b,g,hp,a,qc,Cl,uS];rw[qU (by omega)];by_cases hz:zE v var=0
  ·by_cases j:tg ahead keys vals=0<;>simp[hz,j,toR,ji]
  by_cases r:zE v var=1
  ·cases vy<;>by_cases j:tg ahead keys vals=0<;>by_cases z:0<labels.length+keys.length<;>simp[r,j,z,toR,ji]
  have:1<zE v var:=by omega
  simp[hz,r,this,toR,ji]
 simp only[dQ,qf t,qf o,qc,f];by_cases s:var=[]
 ·subst s
  rw[Dt h]at k15;simpa using k15
 have m:(var==[])=false:=kbf.2 s;simp only[m,jp,kct];exact k15
end W
end
section
open Go Ax
namespace W
theorem SB {n:Nat} {v ahead:Env} (h:EnvOk v) (s:n<=137438953472) {l:List zx} {i:Nat} {p:zx} (D:l[i]? =some p) (hp:WfP p) {k:Nat} {x:Option qy×qt} (t:(cb p)[k]? =some x) (vy:Bool)
  (h1:v.length+2+ahead.length+2 * dA p<n) (u w:Int×List (List UInt8)×List Int->Option (qQ×Int)) :
  ds n l (i:Int) vy (ahead.map (·.1)) (ahead.map (·.2)) u w ((k:Int),v.map (·.1),v.map (·.2))=qgv (toR (tS vy ahead v x)) fun v'=>w (((k+1:Nat):Int),v'.map (·.1),v'.map (·.2)):=by
 obtain⟨N,d⟩:=x;obtain⟨g1,g2,g3⟩:=GV t;have E:=qL g1;have O:=zd fK (qw g1);have G:=zc fK VH p.nodes;have H:fK d+1<=dA p:=by unfold dA; omega
 have y:p.nodes.length+1<=dA p:=by unfold dA; omega
 have f:=fun(v':Env) (b:EnvOk v') (I:v'.length<=v.length+1)=>Sx (n:=n) (ahead:=ahead) b s D g1 vy (by omega) (by omega) (hp.nodes d (qw g1)) w;obtain⟨nodes,edges⟩:=p;simp only at g1 g3 E y;simp only[ds,qf D,qc,zJ,qx E,kct];cases k with
 | zero=>
  have:=g2 rfl;subst this;rw[show decide (((0:Nat):Int)>0)=false from rfl,kcf];rw[f v h (by omega)];rfl
 | succ j=>
  obtain⟨z,rfl,he⟩:=g3 j rfl;have J:=zd bW (qw he);have o:bW z+1<=dA ⟨nodes,edges⟩:=by unfold dA; simp only; omega
  have q:=hp.edges z (qw he);rw[show decide (((j+1:Nat):Int)>0)=true from kdt (by omega),kct];have A:kwr .i64 (((j+1:Nat):Int) - 1)=((j:Nat):Int):=by rw[UW (by omega) (by omega)]; omega
  obtain⟨var,type,dir,keys,vals⟩:=z;rw[A,qf he,qc];unfold bW at o;have K:=xi keys;simp only at o q;have g:=Cu (n:=n) (v:=ahead) (keys:=keys) (vals:=vals) (by omega) (by omega) s q;have B:=vW (n:=n) (v:=v) (by omega) s var;have m:=Zs (n:=n) h (by omega) s var 2;have L:=Bu h var;simp only[g,B,m,qc,tS];have r:zE v var≠0\/(vy=true/\(type=[]\/dir=2))->Uh vy ahead v ⟨var,type,dir,keys,vals⟩=.inl (2,v):=fun c=>by unfold Uh; rw[if_pos c]
  by_cases c:zE v var≠0\/(vy=true/\(type=[]\/dir=2))
  ·rw[r c]
   have hcond:(bif(bif !(var==[])then decide (zE v var>0)else false)then true else bif vy then(bif type==[]then true else dir==2)else false)=true:=by
    rcases c with c|⟨rfl,c⟩
    ·have b:var≠[]:=fun e=>by subst e; exact c (Dt h)
     have:0<zE v var:=by omega
     simp[b,this]
    rcases c with rfl|rfl
    ·simp[ji]
    simp[ji]
   have C:(qD (!(var==[])) (some (zE v var)))=some (if var=[]then default else zE v var):=by
    by_cases b:var=[]
    ·subst b; rfl
    rw[kbf.2 b,if_neg b]; rfl
   rw[C,qc];have a:(bif(bif !(var==[])then decide ((if var=[]then default else zE v var)>0)else false)then true else bif vy then(bif type==[]then true else dir==2)else false)=true:=by
    by_cases b:var=[]
    ·subst b; simpa using hcond
    simpa[b]using hcond
   rw[a,kct];rfl
  simp only[not_or,Decidable.not_not]at c;have M:Uh vy ahead v ⟨var,type,dir,keys,vals⟩=if tg ahead keys vals≠0 then .inl (tg ahead keys vals,v)else .inr (nu v var 2):=by
   unfold Uh;rw[if_neg (by simp only[not_or,Decidable.not_not]; exact c)]
  rw[M];have C:(qD (!(var==[])) (some (zE v var)))=some (if var=[]then default else zE v var):=by
   by_cases b:var=[]
   ·subst b; rfl
   rw[kbf.2 b,if_neg b]; rfl
  rw[C,qc];have a:(bif(bif !(var==[])then decide ((if var=[]then default else zE v var)>0)else false)then true else bif vy then(bif type==[]then true else dir==2)else false)=false:=by
   have h2:vy=true->¬(type=[]\/dir=2):=fun hm t=>c.2 ⟨hm,t⟩
   cases vy with
   | false=>by_cases b:var=[]<;>simp[b,c.1]
   | true=>
    have:=h2 rfl;simp only[not_or]at this;by_cases b:var=[]<;>simp[b,c.1,this.1,this.2,ji]
  rw[a,kcf];by_cases F:tg ahead keys vals=0
  ·simp only[F]
   rw[show((0:Int) != 0)=false from rfl,kcf,if_neg (by simp)];have:=f (nu v var 2) (DP h var (by decide)) (Fa _ _ _);exact this
  simp[F,toR,ji]
theorem PD {n:Nat} {v:Env} (h:EnvOk v) (s:n<=137438953472) {l:List zx} (hp:∀ p∈l,WfP p) (vy:Bool) (h1:2 * v.length+4 * Un l<n) :
  sJ n (uS v) l vy=some (qrh (tK vy v v l)):=by
 have hlen:=zc dA qbw l;unfold sJ;unfold Un at h1;have e:=xZ (B:=mG n l vy (v.map (·.1)) (v.map (·.2))) (fun k (t:Env)=>((k:Int),t.map (·.1),t.map (·.2))) (fun k t=>EnvOk t/\t.length<=v.length+2 * ((l.take k).map dA).sum) (l:=l)
  (fun t x=>toR (Zz vy v t x)) (rest:=fun t=>some (uS t,0))
  (fun k x t g b c=>by
   have z:=qL b;have G:=QB dA b;have i:=NQ (hp x (qw b));have A:=zc fK VH x.nodes;have C:x.nodes.length+1<=dA x:=by unfold dA; omega
   have m:=hp x (qw b);have inner:=xZ (B:=ds n l (k:Int) vy (v.map (·.1)) (v.map (·.2)) g) (fun j (u:Env)=>((j:Int),u.map (·.1),u.map (·.2))) (fun j u=>EnvOk u/\u.length<=t.length+2 * j) (l:=cb x)
    (fun u y=>toR (tS vy v u y)) (rest:=fun u=>g (((k+1:Nat):Int),u.map (·.1),u.map (·.2)))
    (fun j y u d o hu=>by
     have D:=qL o;rw[i]at D;have E:u.length+2+v.length+2 * dA x<n:=by
      have:=hu.2; have:=c.2;omega
     exact SB hu.1 s b m o vy E g d)
    (fun j y u F o hu a=>by
     have:tS vy v u y=.inr F:=by
      unfold toR at a;cases f:tS vy v u y with
      | inl r=>rw[f]at a; cases a
      | inr w=>rw[f]at a; cases a; rfl
     have:=TY hu.1 this;exact⟨this.1,by have:=hu.2; omega⟩)
    (fun u d hu=>by
     obtain⟨nodes,edges⟩:=x;rw[i];simp only[ds,qf b,qc,zJ,qm,kcf];rw[qU (by omega)]) (n:=n) (by rw[i]; omega) (t0:=t) ⟨c.1,by simp⟩
   simp only[mG,zL,qx z,kct];refine Eq.trans inner ?_;rw[QW (fun(r:Int×Env)=>(uS r.2,r.1)) (tS vy v) _ (fun t x=>by unfold toR; cases tS vy v t x<;>rfl)]
   unfold Zz toR;cases uT (tS vy v) t (cb x)<;>rfl)
  (fun k x t q b c a=>by
   have:Zz vy v t x=.inr q:=by
    unfold toR at a;cases f:Zz vy v t x with
    | inl r=>rw[f]at a; cases a
    | inr u=>rw[f]at a; cases a; rfl
   exact EO hp h k x t q b c this)
  (fun t g c=>by simp only[mG,zL,qm,kcf]) (n:=n) (by omega) (t0:=v) ⟨h,by simp⟩
 refine Eq.trans e ?_;rw[QW (fun(r:Int×Env)=>(uS r.2,r.1)) (Zz vy v) _ (fun t x=>by unfold toR; cases Zz vy v t x<;>rfl)]
 unfold tK;cases uT (Zz vy v) v l<;>rfl
end W
end
section
open Go Ax
namespace W
@[simp] theorem XN (l:List xM):(xM.rows l).length=l.length:=by simp[xM.rows]
@[simp] theorem XY (l:List qS):(qS.rows l).length=l.length:=by simp[qS.rows]
@[simp] theorem Uy (l:List qj):(qj.rows l).length=l.length:=by simp[qj.rows]
theorem qe9 (E:Int) (h:(if E≠0 then((0:Int),E)else(3,0)).2=0):0<(if E≠0 then((0:Int),E)else(3,0)).1:=by
 by_cases hz:E=0
 ·simp[hz]
 rw[if_pos hz]at h; exact absurd h hz
theorem qi6 {v:Env} (h:EnvOk v) {x:qe} (e:(nY v x).2=0):0<(nY v x).1:=by
 obtain⟨op,name,val,names,args⟩:=x;have c:=Bu h name;simp only[nY]at e ⊢;by_cases h2:op=2
 ·subst h2
  by_cases b:zE v name=0
  ·simp[b]at e
  simp[b]; omega
 by_cases a:op=14
 ·subst a; simp at e
 simp only[h2,a,if_false]at e ⊢;exact qe9 _ e
def cnt:List UInt8:=[99,111,117,110,116]
def US (v:Env) (x:qe):Int×Int:=
 if(dB x).1≠14 then nY v x
 else
  let e:=bk v (if(dB x).2.1=cnt then 0 else 3) (dB x).2.2
  if e≠0 then(0,e)else(3,0)
theorem qbc {v:Env} (h:EnvOk v) {x:qe} (e:(US v x).2=0):0<(US v x).1:=by
 unfold US at e ⊢;split
 ·rename_i h1; rw[if_pos h1]at e; exact qi6 h e
 rename_i h1;rw[if_neg h1]at e;exact qe9 _ e
theorem Ms {n:Nat} {o:List (List UInt8)} {v:Env} {x:qe} (h1:2 * dC x+1<n) (c:n<=137438953472) (hw:WfE x):cP n x o v=some (US v x):=by
 have e:=(mY o v n c).2.1 x h1 hw;obtain⟨op,name,⟨a1,a2,a3,a4,a5,g⟩,names,args⟩:=x;obtain⟨h,i,f⟩:=NW hw;have a:=fun kind=>(mY o v n c).1 args kind (by simp only[dC]at h1; omega) f;unfold cP;simp only[e,a,gD,qc,US,dB,cnt];by_cases b:op=14
 ·subst b
  by_cases d:name=[99,111,117,110,116]
  ·by_cases hz:bk v 0 args=0<;>simp[d,hz,ji]
  by_cases hz:bk v 3 args=0<;>simp[d,hz,ji]
 simp[b,ji]
def xC (ck:Int) (v m:Env) (it:xM):Int ⊕ Env:=
 if(US v it.e).2≠0 then .inl (US v it.e).2
 else if ck=9/\(US v it.e).1≠3 then .inl 3
 else if zE m it.as_≠0 then .inl 2
 else .inr (nu m it.as_ (US v it.e).1)
def dc (m:Env) (s:qS):Option Int:=if bk m 3 [s.e]≠0 then some (bk m 3 [s.e])else none
def GU (v:Env) (c:qd):Int×Env:=
 match uT (xC c.kind v) [] c.items with
 | .inl e=>(e,[])
 | .inr m=>match vu (dc m) c.order with
  | some e=>(e,[])
  | none=>
   if bk [] 3 c.skip≠0 then(bk [] 3 c.skip,[])
   else if bk [] 3 c.limit≠0 then(bk [] 3 c.limit,[])
   else(bk m 3 c.where_,m)
theorem Bs {ck:Int} {v m a:Env} {it:xM} (b:EnvOk v) (h:EnvOk m) (e:xC ck v m it=.inr a):EnvOk a/\a.length<=m.length+1:=by
 unfold xC at e;split at e
 ·cases e
 rename_i hz;split at e
 ·cases e
 split at e
 ·cases e
 cases e; exact⟨DP h _ (qbc b (by simpa using hz)),Fa _ _ _⟩
theorem qbd {ck:Int} {v m:Env} {l:List xM} (b:EnvOk v) (e:uT (xC ck v) [] l=.inr m):EnvOk m/\m.length<=l.length:=by
 have:=Dl (fun k t=>EnvOk t/\t.length<=k) l 0 [] m (fun j x t d _ a c=>by
  have:=Bs b a.1 c;exact⟨this.1,by have:=a.2; omega⟩) ⟨Rp,by simp⟩ e
 simpa using this
def ZI (i:xM):Nat:=1+i.as_.length+dC i.e
def fY (s:qS):Nat:=1+dC s.e
def fW (s:qj):Nat:=1+s.var_.length+s.key.length+s.label.length+dC s.e
def vh (c:qd):Nat:=1+Un c.paths+uF c.where_+dC c.e+c.var_.length+(c.items.map ZI).sum+(c.order.map fY).sum+uF c.skip+uF c.limit+(c.sets.map fW).sum+sS c.vars
structure WfRows (c:qd):Prop where
 items:∀ i∈c.items,WfE i.e/\i.as_≠[]
 order:∀ s∈c.order,WfE s.e
 skip:∀ x∈c.skip,WfE x
 limit:∀ x∈c.limit,WfE x
 wher:∀ x∈c.where_,WfE x
def qrn:qN->Int
 | .o0 e=>e
 | .o1 e _ _=>e
theorem qbb {ck:Int} {v m:Env} {it:xM} {e:Int} (h:xC ck v m it=.inl e):e≠0:=by
 unfold xC at h;split at h
 ·rename_i hz; cases h; exact hz
 split at h
 ·cases h; decide
 split at h
 ·cases h; decide
 cases h
theorem Mv {n:Nat} {v:Env} (Q:EnvOk v) (p:n<=137438953472) {c:qd} (hw:WfRows c) (h1:2 * vh c<n) :
  ∃ r,cR n c (vV v) v=some r/\qrn r=(GU v c).1/\((GU v c).1=0->r=.o1 0 (vV (GU v c).2) (GU v c).2):=by
 obtain⟨kind,paths,wher,⟨Z,G,⟨e1,e2,e3,e4,e5,e6⟩,D,H⟩,var,items,R,order,skip,limit,sets,vars,detach⟩:=c;obtain⟨S,T,U,V,X⟩:=hw;simp only[vh]at h1 S T U V X;have hli:=zc ZI (fun x=>by unfold ZI; omega) items
 have hlo:=zc fY (fun x=>by unfold fY; omega) order
 unfold cR;have tail:∀ (m:Env),∃ r,qo (xe n order (vV m) m skip limit wher) n (0:Int)=some r /\
   (match vu (dc m) order with
    | some e=>r=.o0 e
    | none=>if bk [] 3 skip≠0 then r=.o0 (bk [] 3 skip)else if bk [] 3 limit≠0 then r=.o0 (bk [] 3 limit)else r=.o1 (bk m 3 wher) (vV m) m):=by
  intro m;have E:=(mY [] ([]:Env) n p).1 skip 3 (by omega) U;have hl:=(mY [] ([]:Env) n p).1 limit 3 (by omega) V;have I:=(mY (vV m) m n p).1 wher 3 (by omega) X;have l3:qo (xI n skip limit wher (vV m) m) n ((0:Int),([]:List (List UInt8)))=some (if bk [] 3 skip≠0 then .o0 (bk [] 3 skip)else if bk [] 3 limit≠0 then .o0 (bk [] 3 limit)else .o1 (bk m 3 wher) (vV m) m):=by
   obtain⟨Y,rfl⟩:∃ Y,n=Y+3:=⟨n - 3,by have:=xY skip; have:=xY limit; omega⟩;rw[qO];have z0:(Sb zX [skip,limit]).length=2:=rfl;simp only[xI,z0];rw[show decide ((0:Int)<((2:Nat):Int))=true from rfl,kct,nq,qc,E,qc];by_cases hz:bk [] 3 skip=0
   ·simp only[hz]
    rw[show((0:Int) != 0)=false from rfl,kcf,show kwr .i64 ((0:Int)+1)=1 from rfl,qO];simp only[xI,z0];rw[show decide ((1:Int)<((2:Nat):Int))=true from rfl,kct,oh,qc,hl,qc];by_cases b:bk [] 3 limit=0
    ·simp only[b]
     rw[show((0:Int) != 0)=false from rfl,kcf,show kwr .i64 ((1:Int)+1)=2 from rfl,qO];simp only[xI,z0];rw[show decide ((2:Int)<((2:Nat):Int))=false from rfl,kcf,I,qc];simp
    simp[b,ji]
   simp[hz,ji]
  have e:=zY (B:=xe n order (vV m) m skip limit wher) (fun k=>((k:Nat):Int)) (l:=order) (fun s=>(dc m s).map qN.o0) (rest:=qo (xI n skip limit wher (vV m) m) n ((0:Int),([]:List (List UInt8))))
   (fun k x J f=>by
    have K:=qL f;have hm:=zd fY (qw f);have L:=(mY (vV m) m n p).1 [x.e] 3 (by have:fY x=1+dC x.e:=rfl; simp only[uF]; omega) (by intro y d; simp at d; subst d; exact T x (qw f));obtain⟨⟨op,name,⟨a1,a2,a3,a4,a5,M⟩,names,args⟩,down⟩:=x;simp only[xe,XY,qx K,kct,qf f,qc,L,dc];rw[qU (by omega)];by_cases hz:bk m 3 [.mk op name (.mk a1 a2 a3 a4 a5 M) names args]=0<;>simp[hz,ji])
   (fun J=>by simp only[xe,XY,qm,kcf]) (n:=n) (by omega)
  have key:∀ l:List qS,vu (fun s=>(dc m s).map qN.o0) l=(vu (dc m) l).map qN.o0:=by
   intro l
   induction l with
   | nil=>rfl
   | cons x l ih=>
    simp only[vu];cases dc m x with
    | some r=>rfl
    | none=>exact ih
  rw[key,l3]at e;have e':qo (xe n order (vV m) m skip limit wher) n (0:Int)=_:=e;rw[e'];cases vu (dc m) order with
  | some r=>exact⟨_,rfl,rfl⟩
  | none=>
   refine⟨_,rfl,?_⟩;simp only;split
   ·rfl
   split<;>rfl
 have e:=xZ (B:=vm n items (vV v) v kind order skip limit wher) (fun k (t:Env)=>((k:Int),vV t,t)) (fun k t=>EnvOk t/\t.length<=k) (l:=items)
  (fun t x=>match xC kind v t x with|.inl e=>.inl (qN.o0 e)|.inr N=>.inr N) (rest:=fun t=>qo (xe n order (vV t) t skip limit wher) n (0:Int))
  (fun k x t J f q=>by
   have K:=qL f;have hm:=zd ZI (qw f);have g:=S x (qw f);have z:=Ms (o:=vV v) (v:=v) (n:=n) (x:=x.e) (by have:ZI x=1+x.as_.length+dC x.e:=rfl; omega) p g.1;have a:=fun e=>qbc Q (x:=x.e) e
   obtain⟨⟨op,name,⟨a1,a2,a3,a4,a5,M⟩,names,args⟩,nm⟩:=x;simp only at z g a;simp only[vm,XN,qx K,kct,qf f,qc,z,xC];rw[qU (by omega)];rcases hI:US v (.mk op name (.mk a1 a2 a3 a4 a5 M) names args)with ⟨kd,er⟩;rw[hI]at a;simp only at a ⊢;by_cases hz:er=0
   ·have hp:=a hz
    have O:zE t nm=va t nm 0:=rfl;rw[← O];by_cases A:kind=9/\kd≠3
    ·simp[hz,A,ji]
    by_cases i:zE t nm=0
    ·have hb:=nO q.1 (n:=n) (by have:=q.2; omega) p g.2 (k:=kd) (.inl i) (by omega)
     have j:(bif kind==9 then kd != 3 else false)=false:=by
      by_cases C:kind=9
      ·have:kd=3:=Decidable.byContradiction fun x=>A ⟨C,x⟩
       simp[this]
      simp[C]
     rw[j,if_neg A];simp[hz,i,hb]
    have j:(bif kind==9 then kd != 3 else false)=false:=by
     by_cases C:kind=9
     ·have:kd=3:=Decidable.byContradiction fun x=>A ⟨C,x⟩
      simp[this]
     simp[C]
    rw[j,if_neg A];simp[hz,i,ji]
   simp[hz,ji])
  (fun k x t N f q F=>by
   have:xC kind v t x=.inr N:=by
    cases E:xC kind v t x with
    | inl r=>rw[E]at F; cases F
    | inr u=>rw[E]at F; cases F; rfl
   have:=Bs Q q.1 this;exact⟨this.1,by have:=q.2; omega⟩)
  (fun t J q=>by simp only[vm,XN,qm,kcf]) (n:=n) (by omega) (t0:=[]) ⟨Rp,by simp⟩
 have e':qo (vm n items (vV v) v kind order skip limit wher) n ((0:Int),([]:List (List UInt8)),([]:List (List UInt8×Int)))=_:=e;simp only[e'];rw[QW qN.o0 (xC kind v) _ (fun t x=>by cases xC kind v t x<;>rfl)]
 simp only[GU];cases hF:uT (xC kind v) [] items with
 | inl er=>
  refine⟨_,rfl,rfl,fun hz=>?_⟩;have:∀ (l:List xM) (u:Env),uT (xC kind v) u l=.inl er->er≠0:=by
   intro l
   induction l with
   | nil=>intro u h; cases h
   | cons y l ih=>
    intro u hu;simp only[uT]at hu;cases d:xC kind v u y with
    | inr u'=>rw[d]at hu; exact ih u' hu
    | inl r=>rw[d]at hu; cases hu; exact qbb d
  exact absurd hz (this _ _ hF)
 | inr m=>
  obtain⟨r,hr,hm⟩:=tail m;refine⟨r,hr,?_⟩;simp only;cases P:vu (dc m) order with
  | some er=>
   rw[P]at hm;simp only at hm;subst hm;refine⟨rfl,fun hz=>?_⟩;have:∀ l:List qS,vu (dc m) l=some er->er≠0:=by
    intro l
    induction l with
    | nil=>intro h; cases h
    | cons y l ih=>
     intro hu;simp only[vu]at hu;cases d:dc m y with
     | none=>rw[d]at hu; exact ih hu
     | some r=>
      rw[d]at hu;cases hu;unfold dc at d;split at d
      ·rename_i hq; cases d; exact hq
      cases d
   exact absurd hz (this _ P)
  | none=>
   rw[P]at hm;simp only at hm ⊢;by_cases hz:bk [] 3 skip=0
   ·rw[if_neg (by simpa using hz)]at hm ⊢
    by_cases b:bk [] 3 limit=0
    ·rw[if_neg (by simpa using b)]at hm ⊢
     subst hm;exact⟨rfl,fun w=>by simp only at w; rw[w]⟩
    rw[if_pos (by simpa using b)]at hm ⊢;subst hm;exact⟨rfl,fun w=>absurd w b⟩
   rw[if_pos (by simpa using hz)]at hm ⊢;subst hm;exact⟨rfl,fun w=>absurd w hz⟩
end W
end
section
open Go Ax
namespace W
theorem qba {v:Env} {op:Int} {name:List UInt8} {val:Val} {names:List (List UInt8)} {args:List qe} (h:op≠14):US v (.mk op name val names args)=nY v (.mk op name val names args):=if_pos h
theorem Dp {v:Env} {name:List UInt8} {val:Val} {names:List (List UInt8)} {args:List qe}:US v (.mk 14 name val names args)=if bk v (if name=cnt then 0 else 3) args≠0 then(0,bk v (if name=cnt then 0 else 3) args)else(3,0):=by
 unfold US;rw[if_neg (by simp[dB])];rfl
theorem eu {n:Nat} {v t:Env} (q:EnvOk v) (g:EnvOk t) (h:n<=137438953472) (r:t.length+1<n) {kind:Int} {items:List xM} {k:Nat} {x:xM} (l:items[k]? =some x) (s:k<n) (i:Int×List (List UInt8)×List Int->Option (qQ×Int)) {kd er:Int}
  (he:er=(US v x.e).2) (a:er=0->kd=(US v x.e).1) :
  pw n (t.map (·.1)) (t.map (·.2)) kind items (k:Int) i (kd,er)=qgv (match xC kind v t x with|.inl e=>(.inl (uS t,e):(qQ×Int) ⊕ Env)|.inr c=>.inr c) fun c=>i (((k+1:Nat):Int),c.map (·.1),c.map (·.2)):=by
 obtain⟨⟨op,name,⟨a1,a2,a3,a4,a5,u⟩,names,args⟩,nm⟩:=x;simp only at he a;have m:=vW (n:=n) (v:=t) (by omega) h nm;have o:=Zs (n:=n) g (by omega) h nm kd;have p:=Bu g nm;simp only[pw,qf l,qc,m,o,xC];rw[qU (by omega)];rw[← he];by_cases hz:er=0
 ·rw[← a hz]
  by_cases d:kind=9/\kd≠3
  ·simp[hz,d,ji]
  have f:(bif kind==9 then kd != 3 else false)=false:=by
   by_cases j:kind=9
   ·have:kd=3:=Decidable.byContradiction fun x=>d ⟨j,x⟩
    simp[this]
   simp[j]
  rw[f,if_neg d];by_cases b:zE t nm=0
  ·simp[hz,b]
  have:0<zE t nm:=by omega
  simp[hz,b,this]
 simp[hz,ji]
theorem Sy {n:Nat} {v:Env} (J:EnvOk v) (g:n<=137438953472) {c:qd} (hw:WfRows c) (h1:v.length+4 * vh c<n) :
  ∃ w,Vq n (uS v) c=some (w,(GU v c).1)/\((GU v c).1=0->w=uS (GU v c).2):=by
 obtain⟨kind,paths,wher,⟨eop,K,⟨e1,e2,e3,e4,e5,e6⟩,E,L⟩,var,items,S,order,skip,limit,sets,vars,detach⟩:=c;obtain⟨T,U,V,X,Y⟩:=hw;simp only[vh]at h1 T U V X Y;have hli:=zc ZI (fun x=>by unfold ZI; omega) items
 have hlo:=zc fY (fun x=>by unfold fY; omega) order
 unfold Vq;have tail:∀ (m:Env),m.length<=items.length->qo (cF n order (m.map (·.1)) (m.map (·.2)) skip limit wher) n (0:Int) =
   some (uS m,match vu (dc m) order with
    | some e=>e
    | none=>if bk [] 3 skip≠0 then bk [] 3 skip else if bk [] 3 limit≠0 then bk [] 3 limit else bk m 3 wher):=by
  intro m hm;have o:=(Qz ([]:Env) n g).1 skip 3 (by omega) (by simp only[jc]; omega) V;have Z:=(Qz ([]:Env) n g).1 limit 3 (by omega) (by simp only[jc]; omega) X;have p:=(Qz m n g).1 wher 3 (by omega) (by omega) Y;simp only[uS,jO]at o Z p;have e:=zY (B:=cF n order (m.map (·.1)) (m.map (·.2)) skip limit wher) (fun k=>((k:Nat):Int)) (l:=order) (fun s=>(dc m s).map fun e=>(uS m,e)) (rest:=some (uS m,if bk [] 3 skip≠0 then bk [] 3 skip else if bk [] 3 limit≠0 then bk [] 3 limit else bk m 3 wher))
   (fun k x F b=>by
    have M:=qL b;have hmm:=zd fY (qw b);have q:=(Qz m n g).1 [x.e] 3 (by omega) (by have:fY x=1+dC x.e:=rfl; simp only[uF]; omega) (by intro y a; simp at a; subst a; exact U x (qw b));obtain⟨⟨op,name,⟨a1,a2,a3,a4,a5,a6⟩,names,args⟩,down⟩:=x;simp only[uS]at q;simp only[cF,XY,qx M,kct,qf b,qc,q,dc];rw[qU (by omega)];by_cases hz:bk m 3 [.mk op name (.mk a1 a2 a3 a4 a5 a6) names args]=0<;>simp[hz,ji])
   (fun F=>by
    simp only[cF,XY,qm,kcf,o,Z,p,qc,rX,rY];by_cases hz:bk [] 3 skip=0<;>by_cases N:bk [] 3 limit=0<;>simp[hz,N,ji]) (n:=n) (by omega)
  have key:∀ l:List qS,vu (fun s=>(dc m s).map fun e=>(uS m,e)) l=(vu (dc m) l).map fun e=>(uS m,e):=by
   intro l
   induction l with
   | nil=>rfl
   | cons x l ih=>
    simp only[vu];cases dc m x with
    | some r=>rfl
    | none=>exact ih
  rw[key]at e;refine Eq.trans e ?_;cases vu (dc m) order<;>rfl
 have e:=xZ (B:=bK n items (v.map (·.1)) (v.map (·.2)) kind order skip limit wher) (fun k (t:Env)=>((k:Int),t.map (·.1),t.map (·.2))) (fun k t=>EnvOk t/\t.length<=k) (l:=items)
  (fun t x=>match xC kind v t x with|.inl e=>(.inl (uS t,e):(qQ×Int) ⊕ Env)|.inr i=>.inr i) (rest:=fun t=>qo (cF n order (t.map (·.1)) (t.map (·.2)) skip limit wher) n (0:Int))
  (fun k x t F b j=>by
   have M:=qL b;have hm:=zd ZI (qw b);have O:ZI x=1+x.as_.length+dC x.e:=rfl;have z:=(T x (qw b)).1;have k8:=fun kd er he P=>eu J j.1 g (by have:=j.2; omega) (kind:=kind) b (by omega) F (kd:=kd) (er:=er) he P
   obtain⟨kd,A,Q⟩:=(Qz v n g).2 x.e (by omega) z;obtain⟨⟨op,name,⟨a1,a2,a3,a4,a5,a6⟩,names,args⟩,nm⟩:=x;obtain⟨u1,u2,u3⟩:=NW z;simp only[dC]at O;have f:=fun kk G=>(Qz v n g).1 args kk G (by omega) u3;have G:=f 0 (by omega); have h3:=f 3 (by omega);simp only[uS]at G h3 A;simp only[bK,XN,qx M,kct,qf b,qc,A,tv,G,h3];by_cases d:op=14
   ·subst d
    by_cases H:name=cnt
    ·subst H
     rw[kbs,kct,show(cnt==[99,111,117,110,116])=true from rfl,kct];refine k8 3 _ ?_ ?_
     ·rw[Dp,if_pos rfl]; by_cases hz:bk v 0 args=0<;>simp[hz]
     intro hz; rw[Dp,if_pos rfl]; simp[hz]
    rw[kbs,kct,show(name==[99,111,117,110,116])=false from kbf.2 H,kcf];refine k8 3 _ ?_ ?_
    ·rw[Dp,if_neg H]; by_cases hz:bk v 3 args=0<;>simp[hz]
    intro hz; rw[Dp,if_neg H]; simp[hz]
   rw[kbf.2 d,kcf];refine k8 kd _ ?_ ?_
   ·rw[qba d]
   intro hz; rw[qba d]; exact Q hz)
  (fun k x t i b j I=>by
   have:xC kind v t x=.inr i:=by
    cases o:xC kind v t x with
    | inl r=>rw[o]at I; cases I
    | inr u=>rw[o]at I; cases I; rfl
   have:=Bs J j.1 this;exact⟨this.1,by have:=j.2; omega⟩)
  (fun t F j=>by simp only[bK,XN,qm,kcf]) (n:=n) (by omega) (t0:=[]) ⟨Rp,by simp⟩
 have e':qo (bK n items (v.map (·.1)) (v.map (·.2)) kind order skip limit wher) n ((0:Int),([]:List (List UInt8)),([]:List Int))=_:=e
 simp only[uS,e'];have outc:∀ (l:List xM) (u:Env),(∃ er w,uT (xC kind v) u l=.inl er/\uT (fun t x=>match xC kind v t x with|.inl e=>(.inl (uS t,e):(qQ×Int) ⊕ Env)|.inr i=>.inr i) u l=.inl (w,er)) \/
   (∃ m,uT (xC kind v) u l=.inr m/\uT (fun t x=>match xC kind v t x with|.inl e=>(.inl (uS t,e):(qQ×Int) ⊕ Env)|.inr i=>.inr i) u l=.inr m):=by
  intro l
  induction l with
  | nil=>intro u; exact .inr ⟨u,rfl,rfl⟩
  | cons y l ih=>
   intro u;simp only[uT];cases a:xC kind v u y with
   | inl er=>exact .inl ⟨er,_,rfl,rfl⟩
   | inr u'=>exact ih u'
 simp only[GU];rcases outc items []with ⟨er,w,h2,h3⟩|⟨m,h2,h3⟩
 ·rw[h2,h3]
  refine⟨w,rfl,fun hz=>?_⟩;have:∀ (l:List xM) (u:Env),uT (xC kind v) u l=.inl er->er≠0:=by
   intro l
   induction l with
   | nil=>intro u h; cases h
   | cons y l ih=>
    intro u hu;simp only[uT]at hu;cases a:xC kind v u y with
    | inr u'=>rw[a]at hu; exact ih u' hu
    | inl r=>rw[a]at hu; cases hu; exact qbb a
  exact absurd hz (this _ _ h2)
 rw[h2,h3];have hm:=qbd J h2;simp only[tJ];rw[tail m hm.2];refine⟨uS m,?_,fun hz=>?_⟩
 ·cases vu (dc m) order with
  | some e=>rfl
  | none=>
   by_cases C:bk [] 3 skip=0<;>by_cases D:bk [] 3 limit=0<;>simp[C,D]
 cases R:vu (dc m) order with
 | some e=>
  rw[R]at hz;have:∀ l:List qS,vu (dc m) l=some e->e≠0:=by
   intro l
   induction l with
   | nil=>intro h; cases h
   | cons y l ih=>
    intro hu;simp only[vu]at hu;cases a:dc m y with
    | none=>rw[a]at hu; exact ih hu
    | some r=>
     rw[a]at hu;cases hu;unfold dc at a;split at a
     ·rename_i hq; cases a; exact hq
     cases a
  exact absurd hz (this _ R)
 | none=>
  rw[R]at hz;simp only at hz ⊢;split at hz
  ·rename_i C; exact absurd hz C
  rename_i C;split at hz
  ·rename_i D; exact absurd hz D
  rename_i D; rw[if_neg C,if_neg D]
end W
end
section
open Go Ax
namespace W
structure WfSet (ck:Int) (s:qj):Prop where
 some_:ck=6/\s.key≠[]->WfE s.e/\(dB s.e).1≠0
 none_:¬ (ck=6/\s.key≠[])->(dB s.e).1=0
def qeb (ck:Int) (v:Env) (s:qj):Option Int:=
 if zE v s.var_=0 then some 2
 else if zE v s.var_=3\/(zE v s.var_=2/\s.label≠[])then some 3
 else if(ck=6/\s.key≠[])/\bk v 3 [s.e]≠0 then some (bk v 3 [s.e])
 else none
def aE (ck:Int) (v:Env) (l:List qj):Int:=(vu (qeb ck v) l).getD 0
def Ls (v:Env) (s:List UInt8):Option Int:=if zE v s=0 then some 2 else if zE v s=3 then some 3 else none
def lu (v:Env) (l:List (List UInt8)):Int:=(vu (Ls v) l).getD 0
theorem Mw {n:Nat} {o:List (List UInt8)} {v:Env} (t:n<=137438953472) {ck:Int} {l:List qj} (hw:∀ s∈l,WfSet ck s) (h1:2 * (l.map fW).sum+6<n):cS n l o v=some (aE ck v l):=by
 have C:=zc fW (fun x=>by unfold fW; omega) l
 unfold cS;have e:=zY (B:=uc n l v o) (fun k=>((k:Nat):Int)) (l:=l) (qeb ck v) (rest:=some 0)
  (fun k x u m=>by
   have w:=qL m;have hm:=zd fW (qw m);have d:=hw x (qw m);have z:fW x=1+x.var_.length+x.key.length+x.label.length+dC x.e:=rfl;have c:=fun(f:WfE x.e)=>(mY o v n t).1 [x.e] 3 (by simp only[uF]; omega) (by intro y r; simp at r; subst r; exact f);obtain⟨var,key,label,⟨op,name,⟨a1,a2,a3,a4,a5,A⟩,names,args⟩⟩:=x;simp only at d c;have p:zE v var=va v var 0:=rfl;simp only[uc,Uy,qx w,kct,qf m,qc,gE,qeb,← p];rw[qU (by omega)];by_cases i:zE v var=0
   ·simp[i]
   by_cases b:zE v var=3\/(zE v var=2/\label≠[])
   ·have g:(bif zE v var==3 then true else bif zE v var==2 then !(label==[])else false)=true:=by
     rcases b with b|⟨b,q⟩
     ·simp[b]
     simp[b,q]
    rw[kbf.2 i,kcf,g,kct,if_neg i,if_pos b];rfl
   have g:(bif zE v var==3 then true else bif zE v var==2 then !(label==[])else false)=false:=by
    simp only[not_or,not_and,Decidable.not_not]at b;by_cases h2:zE v var=2
    ·simp[h2,b.2 h2]
    simp[b.1,h2]
   rw[kbf.2 i,kcf,g,kcf,if_neg i,if_neg b];by_cases j:ck=6/\key≠[]
   ·obtain⟨f,a⟩:=d.some_ j
    have a:op≠0:=a;rw[c f];by_cases hz:bk v 3 [.mk op name (.mk a1 a2 a3 a4 a5 A) names args]=0
    ·simp[a,hz,ji]
    simp[a,hz,j.1,j.2,ji]
   have a:op=0:=d.none_ j;rw[if_neg (fun h=>j h.1)]
   simp[a])
  (fun u=>by simp only[uc,Uy,qm,kcf]) (n:=n) (by omega)
 refine Eq.trans e ?_;unfold aE;cases vu (qeb ck v) l<;>rfl
theorem Mq {n:Nat} {o:List (List UInt8)} {v:Env} (g:n<=137438953472) {l:List (List UInt8)} (h1:l.length<n):cN n l o v=some (lu v l):=by
 unfold cN;have e:=zY (B:=ua n l v) (fun k=>((k:Nat):Int)) (l:=l) (Ls v) (rest:=some 0)
  (fun k x d b=>by
   have f:=qL b;have a:zE v x=va v x 0:=rfl;simp only[ua,qn,qx f,kct,qf b,qc,Ls,← a];rw[qU (by omega)];by_cases c:zE v x=0
   ·simp[c]
   by_cases h3:zE v x=3
   ·simp[h3]
   simp[c,h3,ji])
  (fun d=>by simp only[ua,qn,qm,kcf]) (n:=n) h1
 refine Eq.trans e ?_;unfold lu;cases vu (Ls v) l<;>rfl
theorem SA {n:Nat} {v:Env} (q:n<=137438953472) {ck:Int} {l:List qj} (hw:∀ s∈l,WfSet ck s) (h1:v.length+2 * (l.map fW).sum+6<n):qo (fL n l (v.map (·.1)) (v.map (·.2)) ck) n (0:Int)=some (uS v,aE ck v l):=by
 have E:=zc fW (fun x=>by unfold fW; omega) l
 have e:=zY (B:=fL n l (v.map (·.1)) (v.map (·.2)) ck) (fun k=>((k:Nat):Int)) (l:=l) (fun s=>(qeb ck v s).map fun e=>(uS v,e)) (rest:=some (uS v,0))
  (fun k x w m=>by
   have z:=qL m;have hm:=zd fW (qw m);have g:=hw x (qw m);have A:fW x=1+x.var_.length+x.key.length+x.label.length+dC x.e:=rfl;have b:=fun(c:WfE x.e)=>(Qz v n q).1 [x.e] 3 (by omega) (by simp only[uF]; omega) (by intro y t; simp at t; subst t; exact c);obtain⟨var,key,label,⟨op,name,⟨a1,a2,a3,a4,a5,C⟩,names,args⟩⟩:=x;simp only[uS]at g b;have i:=vW (n:=n) (v:=v) (by omega) q var;simp only[uS]at i;simp only[fL,Uy,qx z,kct,sm,qf m,qc,i,sn,so,bZ,qeb];rw[qU (by omega)];by_cases j:zE v var=0
   ·simp[j]
   by_cases a:zE v var=3\/(zE v var=2/\label≠[])
   ·have d:(bif zE v var==3 then true else bif zE v var==2 then !(label==[])else false)=true:=by
     rcases a with a|⟨a,o⟩
     ·simp[a]
     simp[a,o]
    rw[kbf.2 j,kcf,d,kct,if_neg j,if_pos a];rfl
   have d:(bif zE v var==3 then true else bif zE v var==2 then !(label==[])else false)=false:=by
    simp only[not_or,not_and,Decidable.not_not]at a;by_cases h2:zE v var=2
    ·simp[h2,a.2 h2]
    simp[a.1,h2]
   rw[kbf.2 j,kcf,d,kcf,if_neg j,if_neg a];by_cases f:ck=6/\key≠[]
   ·obtain⟨c,D⟩:=g.some_ f
    rw[b c];have p:(bif ck==6 then !(key==[])else false)=true:=by simp[f.1,f.2]
    rw[p,kct];by_cases hz:bk v 3 [.mk op name (.mk a1 a2 a3 a4 a5 C) names args]=0
    ·simp[hz]
    simp[hz,f.1,f.2,ji]
   have p:(bif ck==6 then !(key==[])else false)=false:=by
    by_cases u:ck=6
    ·have:key=[]:=Decidable.byContradiction fun x=>f ⟨u,x⟩
     simp[this]
    simp[u]
   rw[if_neg (fun h=>f h.1),p,kcf]
   rfl)
  (fun w=>by simp only[fL,Uy,qm,kcf]) (n:=n) (by omega)
 refine Eq.trans e ?_;have key:∀ l:List qj,vu (fun s=>(qeb ck v s).map fun e=>(uS v,e)) l=(vu (qeb ck v) l).map fun e=>(uS v,e):=by
  intro l
  induction l with
  | nil=>rfl
  | cons x l ih=>
   simp only[vu];cases qeb ck v x with
   | some r=>rfl
   | none=>exact ih
 rw[key];unfold aE;cases vu (qeb ck v) l<;>rfl
theorem Sv {n:Nat} {v:Env} (d:n<=137438953472) {l:List (List UInt8)} (h1:v.length+l.length<n):qo (fM n l (v.map (·.1)) (v.map (·.2))) n (0:Int)=some (uS v,lu v l):=by
 have e:=zY (B:=fM n l (v.map (·.1)) (v.map (·.2))) (fun k=>((k:Nat):Int)) (l:=l) (fun s=>(Ls v s).map fun e=>(uS v,e)) (rest:=some (uS v,0))
  (fun k x f b=>by
   have g:=qL b;have a:=vW (n:=n) (v:=v) (by omega) d x;simp only[uS]at a;simp only[fM,qn,qx g,kct,su,qf b,qc,a,sv,Ls];rw[qU (by omega)];by_cases c:zE v x=0
   ·simp[c]
   by_cases h3:zE v x=3
   ·simp[h3]
   simp[c,h3,ji])
  (fun f=>by simp only[fM,qn,qm,kcf]) (n:=n) (by omega)
 refine Eq.trans e ?_;have key:∀ l:List (List UInt8),vu (fun s=>(Ls v s).map fun e=>(uS v,e)) l=(vu (Ls v) l).map fun e=>(uS v,e):=by
  intro l
  induction l with
  | nil=>rfl
  | cons x l ih=>
   simp only[vu];cases Ls v x with
   | some r=>rfl
   | none=>exact ih
 rw[key];unfold lu;cases vu (Ls v) l<;>rfl
end W
end
section
open Go Ax
namespace W
def eg (o:Out):Int×Env:=match o with
 | .inl r=>r
 | .inr m=>(0,m)
def Dk (l:List zx):List UInt8:=match l with
 | ⟨d::_,_⟩::_=>d.var_
 | _=>[]
def gm (v:Env) (c:qd):Int×Env:=
 if c.kind=1 then match tK false v v c.paths with
  | .inl r=>r
  | .inr m=>(bk m 3 c.where_,m)
 else if c.kind=2 then(if bk v 3 [c.e]≠0 then(bk v 3 [c.e],v)else if zE v c.var_≠0 then(2,v)else(0,nu v c.var_ 3))
 else if c.kind=4 then eg (tK true v v c.paths)
 else if c.kind=5 then(if zE v (Dk c.paths)≠0 then(2,v)else eg (tK true v v c.paths))
 else if c.kind=6\/c.kind=7 then(aE c.kind v c.sets,v)
 else if c.kind=8 then(lu v c.vars,v)
 else GU v c
structure WfC (c:qd):Prop where
 paths:∀ p∈c.paths,WfP p
 wher:∀ x∈c.where_,WfE x
 un:c.kind=2->WfE c.e/\c.var_≠[]
 merge:c.kind=5->∃ p,c.paths=[p]
 sets:c.kind=6\/c.kind=7->∀ s∈c.sets,WfSet c.kind s
 rows:c.kind=3\/c.kind=9->WfRows c
 kind:1<=c.kind/\c.kind<=9
theorem qkc {v:Env} {c:qd} (a:EnvOk v) (e:(GU v c).1=0):EnvOk (GU v c).2/\(GU v c).2.length<=c.items.length:=by
 unfold GU;cases b:uT (xC c.kind v) [] c.items with
 | inl er=>exact⟨Rp,by simp⟩
 | inr m=>
  have:=qbd a b;simp only;cases vu (dc m) c.order with
  | some e=>exact⟨Rp,by simp⟩
  | none=>
   simp only;split
   ·exact⟨Rp,by simp⟩
   split
   ·exact⟨Rp,by simp⟩
   exact this
theorem qgw {vy:Bool} {v:Env} {l:List zx} (hp:∀ p∈l,WfP p) (h:EnvOk v) (e:(eg (tK vy v v l)).1=0) (a:∀ r,tK vy v v l=.inl r->r.1≠0):EnvOk (eg (tK vy v v l)).2/\(eg (tK vy v v l)).2.length<=v.length+2 * Un l:=by
 cases b:tK vy v v l with
 | inl r=>rw[b]at e; exact absurd e (a r b)
 | inr m=>exact NJ hp h b
theorem VK {vy:Bool} {ahead:Env}:∀ {l:List zx} {v:Env} {r:Int×Env},uT (Zz vy ahead) v l=.inl r->r.1≠0:=by
 have b:∀ {w:Env} {d:qt} {r:Int×Env},Cl vy ahead w d=.inl r->r.1≠0:=by
  intro w d r hw;unfold Cl at hw;split at hw
  ·cases hw; simp
  split at hw
  ·cases hw; simp
  split at hw
  ·rename_i hz; cases hw; exact hz
  cases hw
 have c:∀ {u:Env} {y:Option qy×qt} {r:Int×Env},tS vy ahead u y=.inl r->r.1≠0:=by
  intro u y r a;obtain⟨g,d⟩:=y;cases g with
  | none=>exact b a
  | some ed=>
   simp only[tS]at a;cases e:Uh vy ahead u ed with
   | inl r'=>rw[e]at a; cases a; exact qe5 e
   | inr w=>rw[e]at a; exact b a
 have f:∀ {l:List (Option qy×qt)} {u:Env} {r:Int×Env},uT (tS vy ahead) u l=.inl r->r.1≠0:=by
  intro l
  induction l with
  | nil=>intro u r h; cases h
  | cons y l ih=>
   intro u r hu;simp only[uT]at hu;cases a:tS vy ahead u y with
   | inr u'=>rw[a]at hu; exact ih hu
   | inl r'=>rw[a]at hu; cases hu; exact c a
 intro l
 induction l with
 | nil=>intro v r h; cases h
 | cons p l ih=>
  intro v r hu;simp only[uT]at hu;cases a:Zz vy ahead v p with
  | inr u'=>rw[a]at hu; exact ih hu
  | inl r'=>rw[a]at hu; cases hu; exact f a
theorem RC {v:Env} {c:qd} (a:EnvOk v) (hw:WfC c) (e:(gm v c).1=0):EnvOk (gm v c).2/\(gm v c).2.length<=v.length+2 * vh c:=by
 have i:Un c.paths+1<=vh c:=by unfold vh; omega
 have j:=zc ZI (fun x=>by unfold ZI; omega) c.items
 have k:c.items.length<=vh c:=by unfold vh; omega
 unfold gm at e ⊢;by_cases h1:c.kind=1
 ·rw[if_pos h1]at e ⊢
  cases b:tK false v v c.paths with
  | inl r=>rw[b]at e; exact absurd e (VK b)
  | inr m=>have:=NJ hw.paths a b; exact⟨this.1,by simp only; omega⟩
 rw[if_neg h1]at e ⊢;by_cases h2:c.kind=2
 ·rw[if_pos h2]at e ⊢
  split
  ·exact⟨a,by simp only; omega⟩
  split
  ·exact⟨a,by simp only; omega⟩
  exact⟨DP a _ (by decide),by have:=Fa v c.var_ 3; simp only; omega⟩
 rw[if_neg h2]at e ⊢;by_cases h4:c.kind=4
 ·rw[if_pos h4]at e ⊢
  have:=qgw hw.paths a e (fun r d=>VK d)
  exact⟨this.1,by omega⟩
 rw[if_neg h4]at e ⊢;by_cases f:c.kind=5
 ·rw[if_pos f]at e ⊢
  split
  ·exact⟨a,by simp only; omega⟩
  rename_i l;rw[if_neg l]at e;have:=qgw hw.paths a e (fun r d=>VK d)
  exact⟨this.1,by omega⟩
 rw[if_neg f]at e ⊢;by_cases g:c.kind=6\/c.kind=7
 ·rw[if_pos g]; exact⟨a,by simp only; omega⟩
 rw[if_neg g]at e ⊢;by_cases h:c.kind=8
 ·rw[if_pos h]; exact⟨a,by simp only; omega⟩
 rw[if_neg h]at e ⊢;have:=qkc a e;exact⟨this.1,by omega⟩
def qip:qI->Int
 | .o0 e _ _=>e
 | .o1 e _ _=>e
 | .o2 e _ _ _ _=>e
def qlr:qI->Option (List (List UInt8)×Env)
 | .o0 _ _ _=>none
 | .o1 _ a b=>some (a,b)
 | .o2 _ _ _ a b=>some (a,b)
theorem qj8 (o:Out):qiu o=((eg o).1,vV (eg o).2,(eg o).2):=by cases o<;>rfl
theorem qj9 (o:Out):qrh o=(uS (eg o).2,(eg o).1):=by cases o<;>rfl
theorem Ec {n:Nat} {v:Env} (I:EnvOk v) (A:n<=137438953472) {c:qd} (hw:WfC c) (h1:2 * v.length+8 * vh c<n) :
  ∃ r,ff n c (vV v) v=some r/\qip r=(gm v c).1/\((gm v c).1=0->qlr r=some (vV (gm v c).2,(gm v c).2)):=by
 have D:=fun h=>Mv I A (c:=c) (hw.rows h) (by omega)
 have U:=xi c.vars;have V:vh c=1+Un c.paths+uF c.where_+dC c.e+c.var_.length+(c.items.map ZI).sum+(c.order.map fY).sum+uF c.skip+uF c.limit+(c.sets.map fW).sum+sS c.vars:=rfl;have g:=fun vy=>HU I A hw.paths vy (by omega)
 have i:=fun h=>Mw (o:=vV v) (v:=v) A (hw.sets h) (by omega)
 have j:=Mq (n:=n) (o:=vV v) (v:=v) A (l:=c.vars) (by omega);have E:=fun m=>(mY (vV m) m n A).1 c.where_ 3 (by omega) hw.wher;have F:=fun(J:WfE c.e)=>(mY (vV v) v n A).1 [c.e] 3 (by simp only[uF]; omega) (by intro y M; simp at M; subst M; exact J);obtain⟨kind,paths,wher,⟨G,q,⟨N,O,P,Q,R,S⟩,f,s⟩,var,items,T,order,skip,limit,sets,vars,detach⟩:=c;have X:=hw.kind;have x:=hw.merge;have z:=hw.un;simp only at g i j E F X x z h1;unfold ff;simp only[uu,g,j,qc,qj8];unfold gm;simp only;by_cases k1:kind=1
 ·subst k1
  rw[kbs,kct,if_pos rfl];cases Y:tK false v v paths with
  | inl r=>
   have H:=VK Y;simp only[eg];rw[show(r.1 != 0)=true from by simpa using H,kct];exact⟨_,rfl,rfl,fun h=>absurd h H⟩
  | inr m=>
   simp only[eg];rw[show((0:Int) != 0)=false from rfl,kcf,E m,qc];exact⟨_,rfl,rfl,fun _=>rfl⟩
 rw[kbf.2 k1,kcf,if_neg k1];by_cases k2:kind=2
 ·subst k2
  obtain⟨Z,u2⟩:=z rfl;rw[kbs,kct,if_pos rfl,F Z,qc];have t:zE v var=va v var 0:=rfl;by_cases hz:bk v 3 [.mk G q (.mk N O P Q R S) f s]=0
  ·rw[hz]
   by_cases u:zE v var=0
   ·have hb:=nO I (n:=n) (by omega) A u2 (k:=3) (.inl u) (by decide)
    rw[← t,u,hb];exact⟨_,rfl,by simp[qip],fun _=>by simp[qlr]⟩
   rw[← t];simp only[show((0:Int) != 0)=false from rfl,kcf];rw[show(zE v var != 0)=true from by simpa using u,kct];exact⟨_,rfl,by simp[qip,u],fun h=>by simp[u]at h⟩
  rw[show(bk v 3 [.mk G q (.mk N O P Q R S) f s] != 0)=true from by simpa using hz,kct];exact⟨_,rfl,by simp[qip,hz],fun h=>by simp[hz]at h⟩
 rw[kbf.2 k2,kcf,if_neg k2];by_cases k4:kind=4
 ·subst k4
  rw[kbs,kct,if_pos rfl];exact⟨_,rfl,rfl,fun _=>rfl⟩
 rw[kbf.2 k4,kcf,if_neg k4];by_cases k5:kind=5
 ·subst k5
  obtain⟨p,rfl⟩:=x rfl;have K:=hw.paths p (by simp);obtain⟨nodes,edges⟩:=p;have hlen:=K.len;simp only at hlen;obtain⟨d,w,rfl⟩:=List.exists_cons_of_length_pos (l:=nodes) (by omega);obtain⟨C,dl,dk,B⟩:=d;rw[kbs,kct,if_pos rfl,nq,qc,nq,qc];have t:zE v C=va v C 0:=rfl;rw[← t];have L:Dk [⟨⟨C,dl,dk,B⟩::w,edges⟩]=C:=rfl;rw[L];by_cases u:zE v C=0
  ·rw[u,show((0:Int) != 0)=false from rfl,kcf,if_neg (by simp)]
   exact⟨_,rfl,rfl,fun _=>rfl⟩
  rw[show(zE v C != 0)=true from by simpa using u,kct,if_pos u];exact⟨_,rfl,rfl,fun h=>by simp at h⟩
 rw[kbf.2 k5,kcf,if_neg k5];by_cases k6:kind=6
 ·subst k6
  rw[kbs,kct,kct,i (.inl rfl),qc,if_pos (.inl rfl)];exact⟨_,rfl,rfl,fun h=>by simp only[qip]at h; simp[qlr]⟩
 rw[kbf.2 k6,kcf];by_cases k7:kind=7
 ·subst k7
  rw[kbs,kct,i (.inr rfl),qc,if_pos (.inr rfl)];exact⟨_,rfl,rfl,fun h=>by simp[qlr]⟩
 rw[kbf.2 k7,kcf,if_neg (by rintro(h|h); exact k6 h; exact k7 h)];by_cases k8:kind=8
 ·subst k8
  rw[kbs,kct,if_pos rfl];exact⟨_,rfl,rfl,fun h=>by simp[qlr]⟩
 rw[kbf.2 k8,kcf,if_neg k8];obtain⟨r,hr,he,hz⟩:=D (by show kind=3\/kind=9; omega);rw[hr,qc];cases r with
 | o0 e=>exact⟨_,rfl,he,fun h=>by have:=hz h; cases this⟩
 | o1 e a b=>
  refine⟨_,rfl,he,fun h=>?_⟩;have:=hz h;cases this;rfl
end W
end
section
open Go Ax
namespace W
theorem Mi {n:Nat} {v:Env} (z:EnvOk v) (t:n<=137438953472) {c:qd} (hw:WfC c) (h1:2 * v.length+8 * vh c<n) :
  ∃ w,QH n (uS v) c=some (w,(gm v c).1)/\((gm v c).1=0->w=uS (gm v c).2):=by
 have E:=fun h=>Sy z t (c:=c) (hw.rows h) (by omega)
 have hnl:=xi c.vars;have hcb:vh c=1+Un c.paths+uF c.where_+dC c.e+c.var_.length+(c.items.map ZI).sum+(c.order.map fY).sum+uF c.skip+uF c.limit+(c.sets.map fW).sum+sS c.vars:=rfl;have b:=fun vy=>PD z t hw.paths vy (by omega)
 have f:=fun h=>SA (v:=v) t (hw.sets h) (by omega)
 have g:=Sv (n:=n) (v:=v) t (l:=c.vars) (by omega);have F:=fun(m:Env) (hm:m.length<=v.length+2 * Un c.paths)=>(Qz m n t).1 c.where_ 3 (by omega) (by omega) hw.wher;have G:=fun(J:WfE c.e)=>(Qz v n t).1 [c.e] 3 (by omega) (by simp only[uF]; omega) (by intro y P; simp at P; subst P; exact J);have A:=fun s=>vW (n:=n) (v:=v) (by omega) t s
 have i:=fun s k=>Zs (n:=n) z (by omega) t s k
 obtain⟨kind,paths,wher,⟨H,j,⟨Q,R,S,T,U,V⟩,a,o⟩,var,items,X,order,skip,limit,sets,vars,detach⟩:=c;have hk:=hw.kind;have u:=hw.merge;have x:=hw.un;simp only[uS]at b f g F G hk u x h1 A i;unfold QH;simp only[nF,nD,nE,tu,b,g,A,i,qc,qj9,uS];unfold gm;simp only;by_cases k1:kind=1
 ·subst k1
  rw[kbs,kct,if_pos rfl];cases Y:tK false v v paths with
  | inl r=>
   have I:=VK Y;simp only[eg];rw[show(r.1==0)=false from kbf.2 I,kcf];exact⟨_,rfl,fun h=>absurd h I⟩
  | inr m=>
   simp only[eg];have hm:=NJ hw.paths z Y;rw[show((0:Int)==0)=true from rfl,kct,F m hm.2,qc];exact⟨_,rfl,fun _=>rfl⟩
 rw[kbf.2 k1,kcf,if_neg k1];by_cases k2:kind=2
 ·subst k2
  obtain⟨u1,u2⟩:=x rfl;rw[kbs,kct,if_pos rfl,G u1,qc];have K:=Bu z var;by_cases hz:bk v 3 [.mk H j (.mk Q R S T U V) a o]=0
  ·rw[hz]
   by_cases D:zE v var=0
   ·simp only[kbs,zg,qc,kct,D]
    exact⟨_,rfl,fun _=>rfl⟩
   have:0<zE v var:=by omega
   simp only[kbs,zg,qc,kct];rw[kdt this,kct];exact⟨uS (nu v var 3),by simp[D,uS],fun h=>by simp[D]at h⟩
  have L:(bk v 3 [.mk H j (.mk Q R S T U V) a o]==0)=false:=kbf.2 hz;simp only[L,fU,qc,kcf];exact⟨uS (nu v var 3),by simp[hz,uS],fun h=>by simp[hz]at h⟩
 rw[kbf.2 k2,kcf,if_neg k2];by_cases k4:kind=4
 ·subst k4
  rw[kbs,kct,if_pos rfl];exact⟨_,rfl,fun _=>rfl⟩
 rw[kbf.2 k4,kcf,if_neg k4];by_cases k5:kind=5
 ·subst k5
  obtain⟨p,rfl⟩:=u rfl;have M:=hw.paths p (by simp);obtain⟨nodes,edges⟩:=p;have hlen:=M.len;simp only at hlen;obtain⟨d,q,rfl⟩:=List.exists_cons_of_length_pos (l:=nodes) (by omega);obtain⟨B,dl,dk,C⟩:=d;rw[kbs,kct,if_pos rfl,nq,qc,nq,qc];have N:Dk [⟨⟨B,dl,dk,C⟩::q,edges⟩]=B:=rfl;have K:=Bu z B;rw[N];by_cases Z:B=[]
  ·subst Z
   rw[Dt z,if_neg (by simp)];exact⟨_,rfl,fun _=>rfl⟩
  have O:(!(B==[]))=true:=by simp[Z]
  simp only[A];rw[O,zg,qc,kct];by_cases D:zE v B=0
  ·rw[D,show decide ((0:Int)>0)=false from rfl,kcf,if_neg (by simp)]
   exact⟨_,rfl,fun _=>rfl⟩
  have:0<zE v B:=by omega
  rw[kdt this,kct,if_pos D];exact⟨_,rfl,fun h=>by simp at h⟩
 rw[kbf.2 k5,kcf,if_neg k5];by_cases k6:kind=6
 ·subst k6
  rw[kbs,kct,kct,f (.inl rfl),if_pos (.inl rfl)];exact⟨_,rfl,fun h=>rfl⟩
 rw[kbf.2 k6,kcf];by_cases k7:kind=7
 ·subst k7
  rw[kbs,kct,f (.inr rfl),if_pos (.inr rfl)];exact⟨_,rfl,fun h=>rfl⟩
 rw[kbf.2 k7,kcf,if_neg (by rintro(h|h); exact k6 h; exact k7 h)];by_cases k8:kind=8
 ·subst k8
  rw[kbs,kct,if_pos rfl];exact⟨_,rfl,fun h=>rfl⟩
 rw[kbf.2 k8,kcf,if_neg k8];obtain⟨w,hr,hz⟩:=E (by show kind=3\/kind=9; omega);simp only[uS]at hr hz;rw[hr,qc];exact⟨_,rfl,hz⟩
end W
end
section
open Go Ax
namespace W
theorem qm0 {v:Env} (h:EnvOk v) {x:List UInt8×Int} (d:x∈v):zE v x.1=x.2:=by
 have:∀ {v:Env},(v.map (·.1)).Nodup->x∈v->Xq x.1 v=some x.2:=by
  clear d h;intro v
  induction v with
  | nil=>intro _ h; cases h
  | cons y v ih=>
   intro b hm;simp only[jl,List.nodup_cons]at b;rcases jg.1 hm with rfl|a
   ·obtain⟨f,xv⟩:=x
    simp[Xq]
   have c:x.1≠y.1:=fun e=>b.1 (by rw[← e]; exact List.mem_map.2 ⟨x,a,rfl⟩)
   obtain⟨g,i⟩:=y;simp only[Xq,kbf.2 c,kcf];exact ih b.2 a
 unfold zE va;rw[this h.nodup d];rfl
@[simp] theorem zA (l:List qd):(qd.rows l).length=l.length:=by simp[qd.rows]
def sN (v:Env) (c:qd):Int ⊕ Env:=if(gm v c).1≠0 then .inl (gm v c).1 else .inr (gm v c).2
def xq (l:List qd):Nat:=(l.map vh).sum
theorem sD (c:qd):1<=vh c:=by unfold vh; omega
def uM (may:Bool) (cl:List qd) (at_:Int):List (List UInt8)×List Int×Int:=
 if may=false\/at_<0\/(cl.length:Int)<at_ then([],[],20)
 else match uT sN [] (cl.take at_.toNat)with
  | .inl e=>([],[],e)
  | .inr v=>(v.map (·.1),v.map (·.2),0)
theorem lr {l:List qd} (hw:∀ c∈l,WfC c):∀ (k:Nat) (x:qd) (t a:Env),l[k]? =some x->(EnvOk t/\t.length<=2 * ((l.take k).map vh).sum)->sN t x=.inr a->EnvOk a/\a.length<=2 * ((l.take (k+1)).map vh).sum:=by
 intro k x t a d e b;unfold sN at b;split at b
 ·cases b
 rename_i hz;cases b;have:=RC e.1 (hw x (qw d)) (by simpa using hz);rw[tN vh d];exact⟨this.1,by omega⟩
theorem HR {n:Nat} (K:n<=137438953472) {cl:List qd} {may:Bool} (L:pZ n ⟨cl⟩=some may) (hw:may=true->∀ c∈cl,WfC c) (h1:8 * xq cl+8<n) (at_:Int) :
  bQ n ⟨cl⟩ at_=some (uM may cl at_):=by
 unfold xq at h1;have hlen:=zc vh sD cl;unfold bQ uM;simp only[L,qc,zA];by_cases i:may=false\/at_<0\/(cl.length:Int)<at_
 ·rw[if_pos i]
  have:(bif bif !may then true else decide (at_<0)then true else decide (at_>(cl.length:Int)))=true:=by
   rcases i with rfl|i|i
   ·rfl
   ·simp[i,ji]
   have:at_>(cl.length:Int):=i;simp[this,ji]
  rw[this];rfl
 rw[if_neg i];simp only[not_or,Bool.not_eq_false,Int.not_lt]at i;obtain⟨hm,M,Y⟩:=i;subst hm;have hw:=hw rfl;obtain⟨m,rfl⟩:=Int.eq_ofNat_of_zero_le M;have D:m<=cl.length:=by omega
 rw[show(bif bif !true then true else decide ((m:Int)<0)then true else decide ((m:Int)>(cl.length:Int)))=false from by
  simp only[jq,kcf];rw[kdf (by omega),kdf (by omega)]; rfl]
 rw[kcf,natI_nat,qc,zz D];have v:∀ c∈cl.take m,WfC c:=fun c i=>hw c (List.mem_of_mem_take i)
 have E:(cl.take m).length=m:=by simp; omega
 have N:((cl.take m).map vh).sum<=(cl.map vh).sum:=by
  have h:cl.take m++cl.drop m=cl:=List.take_append_drop m cl;have:((cl.take m++cl.drop m).map vh).sum=((cl.take m).map vh).sum+((cl.drop m).map vh).sum:=by rw[ka,List.sum_append]
  rw[h]at this;omega
 have e:=xZ (B:=gU n cl m) (fun k (t:Env)=>((k:Int),vV t,t)) (fun k t=>EnvOk t/\t.length<=2 * (((cl.take m).take k).map vh).sum) (l:=cl.take m)
  (fun t c=>match sN t c with|.inl e=>(.inl ([],[],e):(List (List UInt8)×List Int×Int) ⊕ Env)|.inr z=>.inr z) (rest:=fun t=>some (t.map (·.1),t.map (·.2),0))
  (fun k x t O j p=>by
   have A:=qL j;have P:=QB vh j;obtain⟨r,Q,he,hz⟩:=Ec p.1 K (v x (qw j)) (by have:=p.2; omega);have F:(cl.take m)[k]? =some x:=j;obtain⟨kind,paths,wher,⟨G,q,⟨R,S,T,U,V,X⟩,o,s⟩,var,items,w,order,skip,limit,sets,vars,detach⟩:=x;simp only[gU,zA,qx A,kct,qf F,qc,Q];rw[qU (by omega)];unfold sN;by_cases h:(gm t ⟨kind,paths,wher,⟨G,q,⟨R,S,T,U,V,X⟩,o,s⟩,var,items,w,order,skip,limit,sets,vars,detach⟩).1=0
   ·have g:=hz h
    clear hz;rw[if_neg (by simpa using h)];cases r with
    | o0 e a b=>simp[qlr]at g
    | o1 e a b=>
     simp only[qip]at he;simp only[qlr,Option.some.injEq,Prod.mk.injEq]at g;rw[h]at he;subst he;rw[g.1,g.2];rfl
    | o2 e a b c d=>
     simp only[qip]at he;simp only[qlr,Option.some.injEq,Prod.mk.injEq]at g;rw[h]at he;subst he;rw[g.1,g.2];rfl
   rw[if_pos h];cases r with
   | o0 e a b=>simp only[qip]at he; rw[← he]at h ⊢; simp[h,ji]
   | o1 e a b=>simp only[qip]at he; rw[← he]at h ⊢; simp[h,ji]
   | o2 e a b c d=>simp only[qip]at he; rw[← he]at h ⊢; simp[h,ji])
  (fun k x t z j p C=>by
   have:sN t x=.inr z:=by
    cases J:sN t x with
    | inl r=>rw[J]at C; cases C
    | inr u=>rw[J]at C; cases C; rfl
   exact lr v k x t z j p this)
  (fun t O p=>by
   have H:=p.2;rw[List.take_length]at H;simp only[gU,zA,qm,kcf];have:=bY (B:=cr n (vV t) t) (fun k=>((t.map (·.2)).take k,(k:Int))) t.length (r:=some (t.map (·.1),t.map (·.2),0))
    (fun k A I=>by
     obtain⟨x,j⟩:∃ x,t[k]? =some x:=⟨t[k],jf A⟩;have h1:(vV t)[k]? =some x.1:=by simp[j]
     have y:=qm0 p.1 (qw j);unfold zE at y;simp only[cr,qn,jm,qx A,kct,qf h1,qc,y];rw[zH (qac (by simp; omega) (by omega)),qU (by omega)];have:(t.map (·.2)).take (k+1)=(t.map (·.2)).take k++[x.2]:=by rw[List.take_succ]; simp[j]
     rw[this])
    (fun I=>by
     simp only[cr,qn,jm,qm,kcf];rw[show(t.map (·.2)).take t.length=t.map (·.2)from by rw[← jm (f:=fun x:List UInt8×Int=>x.2)]; exact List.take_length]) (n:=n) (by omega)
   simpa using this) (n:=n) (by rw[E]; omega) (t0:=[]) ⟨Rp,by simp⟩
 have e':qo (gU n cl m) n ((0:Int),([]:List (List UInt8)),([]:List (List UInt8×Int)))=_:=e;simp only[jV];refine Eq.trans e' ?_;rw[QW (fun(e:Int)=>(([]:List (List UInt8)),([]:List Int),e)) sN _ (fun t x=>by cases sN t x<;>rfl)]
 cases uT sN [] (cl.take m)<;>rfl
theorem PC {n:Nat} (D:n<=137438953472) {cl:List qd} {may:Bool} (E:QF n ⟨cl⟩=some may) (hw:may=true->∀ c∈cl,WfC c) (h1:8 * xq cl+8<n) (at_:Int) :
  sI n ⟨cl⟩ at_=some (uM may cl at_):=by
 unfold xq at h1;have hlen:=zc vh sD cl;unfold sI uM;simp only[E,qc,zA];by_cases a:may=false\/at_<0\/(cl.length:Int)<at_
 ·rw[if_pos a]
  have:(bif bif !may then true else decide (at_<0)then true else decide (at_>(cl.length:Int)))=true:=by
   rcases a with rfl|a|a
   ·rfl
   ·simp[a,ji]
   have:at_>(cl.length:Int):=a;simp[this,ji]
  rw[this];rfl
 rw[if_neg a];simp only[not_or,Bool.not_eq_false,Int.not_lt]at a;obtain⟨hm,F,Q⟩:=a;subst hm;have hw:=hw rfl;obtain⟨m,rfl⟩:=Int.eq_ofNat_of_zero_le F;have G:m<=cl.length:=by omega
 rw[show(bif bif !true then true else decide ((m:Int)<0)then true else decide ((m:Int)>(cl.length:Int)))=false from by
  simp only[jq,kcf];rw[kdf (by omega),kdf (by omega)]; rfl]
 rw[kcf];have j:∀ c∈cl.take m,WfC c:=fun c a=>hw c (List.mem_of_mem_take a)
 have d:(cl.take m).length=m:=by simp; omega
 have H:((cl.take m).map vh).sum<=(cl.map vh).sum:=by
  have f:cl.take m++cl.drop m=cl:=List.take_append_drop m cl;have:((cl.take m++cl.drop m).map vh).sum=((cl.take m).map vh).sum+((cl.drop m).map vh).sum:=by rw[ka,List.sum_append]
  rw[f]at this;omega
 have e:=xZ (B:=dq n (m:Int) cl) (fun k (t:Env)=>((k:Int),t.map (·.1),t.map (·.2))) (fun k t=>EnvOk t/\t.length<=2 * (((cl.take m).take k).map vh).sum) (l:=cl.take m)
  (fun t c=>match sN t c with|.inl e=>(.inl ([],[],e):(List (List UInt8)×List Int×Int) ⊕ Env)|.inr q=>.inr q) (rest:=fun t=>some (t.map (·.1),t.map (·.2),0))
  (fun k x t I g o=>by
   have v:=qL g;rw[d]at v;have J:=QB vh g;obtain⟨w,A,hz⟩:=Mi o.1 D (j x (qw g)) (by have:=o.2; omega);have y:cl[k]? =some x:=by rw[jF,if_pos v]at g; exact g
   obtain⟨kind,paths,wher,⟨z,h,⟨K,L,M,N,O,P⟩,b,i⟩,var,items,p,order,skip,limit,sets,vars,detach⟩:=x;simp only[uS]at A hz;simp only[dq,qx v,kct,qf y,qc,A];rw[qU (by omega)];unfold sN;by_cases f:(gm t ⟨kind,paths,wher,⟨z,h,⟨K,L,M,N,O,P⟩,b,i⟩,var,items,p,order,skip,limit,sets,vars,detach⟩).1=0
   ·rw[if_neg (by simpa using f),hz f,f]
    rfl
   rw[if_pos f];obtain⟨wn,wk⟩:=w;simp[f,ji])
  (fun k x t q g o s=>by
   have:sN t x=.inr q:=by
    cases C:sN t x with
    | inl r=>rw[C]at s; cases s
    | inr u=>rw[C]at s; cases s; rfl
   exact lr j k x t q g o this)
  (fun t I o=>by
   rw[d];simp only[dq,qm,kcf]) (n:=n) (by rw[d]; omega) (t0:=[]) ⟨Rp,by simp⟩
 have e':qo (dq n (m:Int) cl) n ((0:Int),([]:List (List UInt8)),([]:List Int))=_:=e;simp only[jV];refine Eq.trans e' ?_;rw[QW (fun(e:Int)=>(([]:List (List UInt8)),([]:List Int),e)) sN _ (fun t x=>by cases sN t x<;>rfl)]
 cases uT sN [] (cl.take m)<;>rfl
end W
end
section
open Go Ax
namespace W
def upB (b:UInt8):UInt8:=if 97<=b.toNat/\b.toNat<=122 then UInt8.ofNat (b.toNat - 32)else b
set_option maxRecDepth 100000 in
theorem qpy:∀ m:Fin 256,97<=m.val/\m.val<=122->u8I (kwr .u8 ((m.val:Int) - 32))=some (UInt8.ofNat (m.val - 32)):=by decide
theorem qhy (b:UInt8) (h:97<=b.toNat/\b.toNat<=122):u8I (kwr .u8 ((b.toNat:Int) - 32))=some (upB b):=by
 have:=qpy ⟨b.toNat,b.toNat_lt⟩ h;unfold upB;rw[if_pos h];exact this
theorem qnt (b:UInt8):u8I (b.toNat:Int)=some b:=by
 unfold u8I;have:=b.toNat_lt;rw[if_pos (by omega)];simp
def nt (s:List UInt8):List UInt8:=s.map upB
theorem qmt (b:UInt8):(bif decide ((b.toNat:Int)≥97)then decide ((b.toNat:Int)<=122)else false)=decide (97<=b.toNat/\b.toNat<=122):=by
 by_cases h1:97<=b.toNat<;>by_cases h2:b.toNat<=122
 ·rw[kdt (by omega:(b.toNat:Int)≥97),kdt (by omega:(b.toNat:Int)<=122),kdt ⟨h1,h2⟩]; rfl
 ·rw[kdt (by omega:(b.toNat:Int)≥97),kdf (by omega:¬ (b.toNat:Int)<=122),kdf (by omega:¬ (97<=b.toNat/\b.toNat<=122))]; rfl
 ·rw[kdf (by omega:¬ (b.toNat:Int)≥97),kdf (by omega:¬ (97<=b.toNat/\b.toNat<=122))]; rfl
 rw[kdf (by omega:¬ (b.toNat:Int)≥97),kdf (by omega:¬ (97<=b.toNat/\b.toNat<=122))]; rfl
theorem Pu {n:Nat} {s:List UInt8} (h:s.length<n) (i:n<=137438953472):ZR n s=some (nt s):=by
 unfold ZR;have:=bY (B:=mu n s) (fun k=>((s.take k).map upB,(k:Int))) s.length (r:=some (nt s))
  (fun k d f=>by
   obtain⟨b,e⟩:∃ b,s[k]? =some b:=⟨s[k],jf d⟩;have g:(s.take (k+1)).map upB=(s.take k).map upB++[upB b]:=by rw[List.take_succ,e]; simp
   simp only[mu,qx d,kct,qf e,qc,qmt];rw[g];have c:decide ((qT ((s.take k).map upB++[upB b])).length * 1<=140737488355328)=true:=qac (by simp; omega) (by omega);by_cases a:97<=b.toNat/\b.toNat<=122
   ·rw[kdt a,kct]
    simp only[mq,qhy b a,qc];rw[zH c,qU (by omega)]
   rw[kdf a,kcf];have hu:upB b=b:=by unfold upB; rw[if_neg a]
   rw[hu]at c ⊢;simp only[mq,qnt,qc];rw[zH c,qU (by omega)])
  (fun f=>by simp only[mu,qm,kcf,List.take_length]; rfl) h
 simpa using this
theorem PJ {n:Nat} {s:List UInt8} (h:s.length<n) (l:n<=137438953472):Qc n s=some (nt s):=by
 unfold Qc;have:=bY (B:=mR n s) (fun k=>((k:Int),(s.take k).map upB++s.drop k)) s.length (r:=some (nt s))
  (fun k c i=>by
   obtain⟨b,e⟩:∃ b,s[k]? =some b:=⟨s[k],jf c⟩;have f:s.drop k=b::s.drop (k+1):=by rw[jo c]; rw[jf c]at e; cases e; rfl
   have a:((s.take k).map upB).length=k:=by simp; omega
   have g:((s.take k).map upB++s.drop k)[k]? =some b:=by rw[List.getElem?_append_right (by omega),a,f]; simp
   have hlen:k<((s.take k).map upB++s.drop k).length:=(jH.1 g).1;have j:(s.take (k+1)).map upB++s.drop (k+1)=(s.take k).map upB++(upB b::s.drop (k+1)):=by rw[List.take_succ,e]; simp
   simp only[mR,qx c,kct,natI_nat,qc];rw[zz hlen,g,qc,qmt,j];by_cases d:97<=b.toNat/\b.toNat<=122
   ·rw[kdt d,kct,zz hlen,qhy b d,qc,zz hlen]
    simp only[mQ];rw[qU (by omega),f];rw[List.set_append_right _ _ (by omega),a,Nat.sub_self];rfl
   rw[kdf d,kcf];have hu:upB b=b:=by unfold upB; rw[if_neg d]
   simp only[mQ];rw[qU (by omega),f,hu])
  (fun i=>by simp only[mR,qm,kcf,List.take_length,List.drop_length,List.append_nil]; rfl) h
 simpa using this
def TI (b:UInt8):Bool:=decide (97<=b.toNat/\b.toNat<=122)||decide (65<=b.toNat/\b.toNat<=90)||decide (b.toNat=95)
def ec (b:UInt8):Bool:=decide (48<=b.toNat/\b.toNat<=57)
def Uq (s:List UInt8):Bool:=match s with
 | []=>false
 | b::l=>decide (l.length<64)&&TI b&&l.all fun c=>TI c||ec c
theorem ZQ (n:Nat) (b:UInt8):ny n (b.toNat:Int)=some (TI b):=by
 unfold ny TI;rw[qmt];congr 1;by_cases a:97<=b.toNat/\b.toNat<=122
 ·simp[a]
 by_cases h1:65<=b.toNat/\b.toNat<=90
 ·rw[kdf a,kdt h1,kdt (by omega:(b.toNat:Int)≥65),kdt (by omega:(b.toNat:Int)<=90)]; rfl
 have:(bif decide ((b.toNat:Int)≥65)then decide ((b.toNat:Int)<=90)else false)=false:=by
  by_cases h2:65<=b.toNat
  ·rw[kdt (by omega:(b.toNat:Int)≥65),kdf (by omega:¬ (b.toNat:Int)<=90)]; rfl
  rw[kdf (by omega:¬ (b.toNat:Int)≥65)]; rfl
 rw[kdf a,this,kdf h1];by_cases h3:b.toNat=95
 ·simp[h3]
 have c:((b.toNat:Int)==95)=false:=kbf.2 (by omega);simp only[Bool.or_false,Bool.false_or,kcf];rw[c,kdf h3]
theorem Pr (n:Nat) (b:UInt8):ZP n (b.toNat:Int)=some (ec b):=by
 unfold ZP ec;congr 1;by_cases h1:48<=b.toNat<;>by_cases h2:b.toNat<=57
 ·rw[kdt (by omega:(b.toNat:Int)≥48),kdt (by omega:(b.toNat:Int)<=57),kdt ⟨h1,h2⟩]; rfl
 ·rw[kdt (by omega:(b.toNat:Int)≥48),kdf (by omega:¬ (b.toNat:Int)<=57),kdf (by omega:¬ (48<=b.toNat/\b.toNat<=57))]; rfl
 ·rw[kdf (by omega:¬ (b.toNat:Int)≥48),kdf (by omega:¬ (48<=b.toNat/\b.toNat<=57))]; rfl
 rw[kdf (by omega:¬ (b.toNat:Int)≥48),kdf (by omega:¬ (48<=b.toNat/\b.toNat<=57))]; rfl
theorem BF {n:Nat} {s:List UInt8} (h:s.length<n) (m:n<=137438953472):ZE n s=some (Uq s):=by
 unfold ZE;cases s with
 | nil=>rfl
 | cons b l=>
  by_cases d:l.length<64
  ·have a:(bif decide ((((b::l).length:Nat):Int)<1)then true else decide ((((b::l).length:Nat):Int)>64))=false:=by
    rw[kdf (by simp; omega),kdf (by simp; omega)]; rfl
   simp only[a,jp,zg,nq,qc,ZQ,kcf,Uq];rw[kdt d];cases g:TI b with
   | false=>rfl
   | true=>
    simp only[jq,kcf,Bool.true_and];have e:=zY (B:=pf n (b::l)) (fun k=>((k:Nat):Int)) (l:=b::l) (fun c=>if(TI c||ec c)=true then none else some false) (rest:=some true)
     (fun k x i f=>by
      have j:=qL f;simp only[pf,qx j,kct,qf f,qc,ZQ];rw[qU (by omega)];cases h1:TI x with
      | true=>simp
      | false=>
       simp only[jp,zg,qc,Pr,kct];cases ec x<;>simp)
     (fun i=>by simp only[pf,qm,kcf]) (n:=n) h
    refine Eq.trans e ?_;have key:∀ l:List UInt8,vu (R:=Bool) (fun c=>if(TI c||ec c)=true then none else some false) l=if(l.all fun c=>TI c||ec c)=true then none else some false:=by
     intro l
     induction l with
     | nil=>rfl
     | cons c l ih=>
      simp only[vu,jw,ih];by_cases a:(TI c||ec c)=true<;>simp only[a,if_true,Bool.true_and,Bool.not_eq_true]<;>simp_all
    rw[key];simp only[jw,g,Bool.true_or,Bool.true_and];cases(l.all fun c=>TI c||ec c)<;>rfl
  ·have a:(bif decide ((((b::l).length:Nat):Int)<1)then true else decide ((((b::l).length:Nat):Int)>64))=true:=by
    rw[kdf (by simp; omega),kdt (by simp; omega)]; rfl
   simp only[a,jq,fU,qc,kct,Uq];rw[kdf d];rfl
end W
end
section
open Go Ax
namespace W
theorem qlt {l:List UInt8} {i:Nat} {b:UInt8} (h:l[i]? =some b):(⟨l.toArray⟩:ByteArray).get! i=b:=by
 have a:=(jH.1 h).1;have:(⟨l.toArray⟩:ByteArray).get! i=l.toArray[i]!:=rfl;rw[this];simp[getElem!_def,h]
theorem qhd {l:List UInt8} {i:Nat} {b:UInt8} (h:l[i]? =some b) (a:b.toNat<128):qP l i=b.toNat/\xG l i=i+1:=by
 unfold qP xG Utf8.decode;simp only[Nat.add_zero,qlt h];rw[if_pos (by omega)];exact⟨rfl,rfl⟩
theorem qnm {l:List UInt8} {i:Nat} {b:UInt8} (h:l[i]? =some b) (a:¬ b.toNat<128):128<=qP l i:=by
 unfold qP Utf8.decode;simp only[Nat.add_zero,qlt h];rw[if_neg (by omega)];have he:128<=Utf8.runeError:=by decide
 split
 ·split
  ·simp only; omega
  exact he
 split
 ·split
  ·rename_i h1
   simp only[jj,kde,ge_iff_le]at h1;simp only; omega
  exact he
 split
 ·split
  ·rename_i h1
   simp only[jj,kde,ge_iff_le]at h1;simp only; omega
  exact he
 exact he
def Rj (k:Nat) (b:UInt8):Bool:=!TI b&&(k==0||!ec b)
def Hw:Nat->List UInt8->Bool
 | _,[]=>true
 | k,b::l=>!Rj k b&&Hw (k+1) l
theorem NG:∀ (l:List UInt8) (k:Nat),Hw (k+1) l=l.all fun c=>TI c||ec c
 | [],k=>rfl
 | b::l,k=>by
  simp only[Hw,jw,NG l (k+1),Rj];rw[show((k+1==0)=false)from rfl];cases TI b<;>cases ec b<;>rfl
theorem qjp (l:List UInt8):(Hw 0 l&&(!(l==[])&&decide (l.length<=64)))=Uq l:=by
 cases l with
 | nil=>rfl
 | cons b l=>
  simp only[Hw,NG,Uq,Rj,kbs,Bool.true_or,Bool.and_true,Bool.not_not];have h1:(!((b::l)==[]))=true:=rfl;have h2:decide ((b::l).length<=64)=decide (l.length<64):=by
   by_cases h:l.length<64
   ·rw[kdt h,kdt (by simp; omega)]
   rw[kdf h,kdf (by simp; omega)]
  rw[h1,h2,Bool.true_and];cases TI b<;>cases decide (l.length<64)<;>simp
theorem qhc {l:List UInt8} {k:Nat} {b:UInt8} (h:l[k]? =some b) :
  (bif !(bif(bif(bif decide (((qP l k:Nat):Int)≥97)then decide (((qP l k:Nat):Int)<=122)else false)then true else(bif decide (((qP l k:Nat):Int)≥65)then decide (((qP l k:Nat):Int)<=90)else false))then true else(((qP l k:Nat):Int)==95))then(bif(bif(((k:Nat):Int)==0)then true else decide (((qP l k:Nat):Int)<48))then true else decide (((qP l k:Nat):Int)>57))else false)=Rj k b:=by
 by_cases e:b.toNat<128
 ·rw[(qhd h e).1]
  have f:=ZQ 0 b;unfold ny at f;rw[Option.some.inj f];have hz:(((k:Nat):Int)==0)=(k==0):=by
   by_cases d:k=0
   ·subst d; rfl
   rw[kbf.2 d,kbf.2 (by omega)]
  rw[hz];unfold Rj ec;cases g:TI b with
  | true=>rfl
  | false=>
   simp only[jp,kct,Bool.true_and];cases d:(k==0)with
   | true=>rfl
   | false=>
    simp only[kcf,Bool.false_or];by_cases h1:b.toNat<48
    ·rw[kdt (by omega:(b.toNat:Int)<48),kdf (by omega:¬ (48<=b.toNat/\b.toNat<=57))]; rfl
    by_cases h2:57<b.toNat
    ·rw[kdf (by omega:¬ (b.toNat:Int)<48),kdt (by omega:(b.toNat:Int)>57),kdf (by omega:¬ (48<=b.toNat/\b.toNat<=57))]; rfl
    rw[kdf (by omega:¬ (b.toNat:Int)<48),kdf (by omega:¬ (b.toNat:Int)>57),kdt (by omega:(48<=b.toNat/\b.toNat<=57))]; rfl
 have i:=qnm h e;have a:Rj k b=true:=by
  unfold Rj TI ec;rw[kdf (by omega:¬ (97<=b.toNat/\b.toNat<=122)),kdf (by omega:¬ (65<=b.toNat/\b.toNat<=90)),kdf (by omega:¬ b.toNat=95),kdf (by omega:¬ (48<=b.toNat/\b.toNat<=57))];cases(k==0)<;>rfl
 rw[a];generalize qP l k=c at *;rw[kdf (by omega:¬ (c:Int)<=122),kdf (by omega:¬ (c:Int)<=90),kbf.2 (by omega:¬ (c:Int)=95),kdt (by omega:(c:Int)>57)];cases decide ((c:Int)≥97)<;>cases decide ((c:Int)≥65)<;>cases((k:Int)==0)<;>cases decide ((c:Int)<48)<;>rfl
theorem Vf {n:Nat} {l:List UInt8} (h:l.length<n):nP n l=some (Uq l):=by
 unfold nP;have main:∀ (suf:List UInt8) (k m:Nat),(∀ j,suf[j]? =l[k+j]?)->k+suf.length=l.length->suf.length<m->qo (mS n l) m k=some (Hw k suf&&(!(l==[])&&decide (l.length<=64))):=by
  intro suf
  induction suf with
  | nil=>
   intro k m c d hm;obtain⟨m,rfl⟩:=jk (by omega:m≠0);have:k=l.length:=by simpa using d
   subst this;rw[qO];simp only[mS];rw[kdf (jS _),kcf];have:decide (((l.length:Nat):Int)<=64)=decide (l.length<=64):=by
    by_cases h:l.length<=64
    ·rw[kdt h,kdt (by omega)]
    rw[kdf h,kdf (by omega)]
   rw[this];simp only[Hw,Bool.true_and];cases(l==[])<;>rfl
  | cons b suf ih=>
   intro k m c d hm;obtain⟨m,rfl⟩:=jk (by omega:m≠0);have e:l[k]? =some b:=by have:=c 0; simpa using this.symm
   have f:=qL e;rw[qO];simp only[mS];rw[kdt f,kct,qhc e];simp only[Hw];cases g:Rj k b with
   | true=>rfl
   | false=>
    have a:b.toNat<128:=Decidable.byContradiction fun i=>by
     have:Rj k b=true:=by
      unfold Rj TI ec;rw[kdf (by omega:¬ (97<=b.toNat/\b.toNat<=122)),kdf (by omega:¬ (65<=b.toNat/\b.toNat<=90)),kdf (by omega:¬ b.toNat=95),kdf (by omega:¬ (48<=b.toNat/\b.toNat<=57))];cases(k==0)<;>rfl
     rw[this]at g;cases g
    rw[kcf,kct,(qhd e a).2,ih (k+1) m (fun j=>by have:=c (j+1); rw[show k+1+j=k+(j+1) by omega]; simpa using this) (by simp at d; omega) (by simp at hm; omega)]
    rfl
 have:=main l 0 n (fun j=>by simp) (by simp) h
 rw[qjp]at this;exact this
def Wd:List (List UInt8)->List UInt8
 | []=>[32]
 | x::ws=>32::(x++Wd ws)
theorem qee:∀ ws,∃ t,Wd ws=32::t
 | []=>⟨[],rfl⟩
 | x::ws=>⟨_,rfl⟩
theorem ql9:∀ (w x r t:List UInt8),32 ∉ w->32 ∉ x->(w++32::r) <+: (x++32::t)->w=x
 | [],[],_,_,_,_,_=>rfl
 | [],b::x,r,t,_,hx,h=>by
  simp only[jv,List.cons_append,List.cons_prefix_cons]at h;exact absurd (h.1 ▸ List.mem_cons_self) hx
 | a::w,[],r,t,hw,_,h=>by
  simp only[jv,List.cons_append,List.cons_prefix_cons]at h;exact absurd (h.1 ▸ List.mem_cons_self) hw
 | a::w,b::x,r,t,hw,hx,h=>by
  simp only[List.cons_append,List.cons_prefix_cons]at h;rw[h.1,ql9 w x r t (fun hm=>hw (List.mem_cons_of_mem _ hm)) (fun hm=>hx (List.mem_cons_of_mem _ hm)) h.2]
theorem qgr:∀ (ws:List (List UInt8)) (w:List UInt8),(∀ x∈ws,32 ∉ x)->32 ∉ w->∀ j,(32::(w++[32])) <+: (Wd ws).drop j->w∈ws
 | [],w,_,_,j,h=>by
  have:=h.length_le;simp[Wd]at this;omega
 | x::ws,w,hws,hw,j,h=>by
  cases j with
  | zero=>
   simp only[Wd,List.drop_zero,List.cons_prefix_cons,true_and]at h;obtain⟨t,b⟩:=qee ws;rw[b]at h;rw[ql9 w x [] t hw (hws x (by simp)) h];simp
  | succ j=>
   simp only[Wd,List.drop_succ_cons]at h;by_cases a:j<x.length
   ·rw[List.drop_append_of_le_length (by omega),jo a,List.cons_append,List.cons_prefix_cons]at h
    exact absurd (by rw[h.1]; exact List.getElem_mem a) (hws x (by simp))
   rw[List.drop_append,List.drop_eq_nil_of_le (by omega),jv]at h;exact List.mem_cons_of_mem _ (qgr ws w (fun y c=>hws y (List.mem_cons_of_mem _ c)) hw _ h)
theorem qgj:∀ (ws:List (List UInt8)) (w:List UInt8),w∈ws->∃ j,j<=(Wd ws).length/\(32::(w++[32])) <+: (Wd ws).drop j
 | x::ws,w,h=>by
  rcases jg.1 h with rfl|h
  ·obtain⟨t,a⟩:=qee ws
   refine⟨0,jT _,?_⟩;simp only[Wd,List.drop_zero,a];exact⟨t,by simp⟩
  obtain⟨j,b,hp⟩:=qgj ws w h;refine⟨x.length+j+1,by simp[Wd]; omega,?_⟩;simp only[Wd,List.drop_succ_cons];rw[List.drop_append,List.drop_eq_nil_of_le (by omega),jv,Nat.add_sub_cancel_left];exact hp
theorem ll {ws:List (List UInt8)} {w:List UInt8} (a:∀ x∈ws,32 ∉ x) (hw:32 ∉ w):Lib.contains (Wd ws) (32::(w++[32]))=ws.contains w:=by
 unfold Lib.contains;rcases Lib.index_spec (Wd ws) (32::(w++[32]))with ⟨h1,h2⟩|⟨i,h1,_,h2,_⟩
 ·rw[h1]
  have:¬ w∈ws:=fun hm=>by
   obtain⟨j,b,hp⟩:=qgj ws w hm;have:=h2 j b;unfold Lib.occAt at this;rw[List.isPrefixOf_iff_prefix.2 hp]at this;cases this
  have h3:ws.contains w=false:=by simpa using this
  rw[h3];rfl
 rw[h1];unfold Lib.occAt at h2;have:=qgr ws w a hw i (List.isPrefixOf_iff_prefix.1 h2);have h3:ws.contains w=true:=by simpa using this
 rw[h3];exact kdt (by omega)
end W
end
section
open Go Ax
set_option maxRecDepth 4000
namespace W
def Hb:List (List UInt8):=[([77,65,84,67,72]:List UInt8),([87,72,69,82,69]:List UInt8),([85,78,87,73,78,68]:List UInt8),([65,83]:List UInt8),([87,73,84,72]:List UInt8),([67,82,69,65,84,69]:List UInt8),([77,69,82,71,69]:List UInt8),([83,69,84]:List UInt8),([82,69,77,79,86,69]:List UInt8),([68,69,76,69,84,69]:List UInt8),([68,69,84,65,67,72]:List UInt8),([82,69,84,85,82,78]:List UInt8),([68,73,83,84,73,78,67,84]:List UInt8),([79,82,68,69,82]:List UInt8),([66,89]:List UInt8),([65,83,67]:List UInt8),([68,69,83,67]:List UInt8),([83,75,73,80]:List UInt8),([76,73,77,73,84]:List UInt8),([65,78,68]:List UInt8),([79,82]:List UInt8),([88,79,82]:List UInt8),([78,79,84]:List UInt8),([73,78]:List UInt8),([73,83]:List UInt8),([78,85,76,76]:List UInt8),([84,82,85,69]:List UInt8),([70,65,76,83,69]:List UInt8)]
theorem qks:∀ x∈Hb,(32:UInt8) ∉ x:=by decide
theorem qkt:([32,77,65,84,67,72,32,87,72,69,82,69,32,85,78,87,73,78,68,32,65,83,32,87,73,84,72,32,67,82,69,65,84,69,32,77,69,82,71,69,32,83,69,84,32,82,69,77,79,86,69,32,68,69,76,69,84,69,32,68,69,84,65,67,72,32,82,69,84,85,82,78,32,68,73,83,84,73,78,67,84,32,79,82,68,69,82,32,66,89,32,65,83,67,32,68,69,83,67,32,83,75,73,80,32,76,73,77,73,84,32,65,78,68,32,79,82,32,88,79,82,32,78,79,84,32,73,78,32,73,83,32,78,85,76,76,32,84,82,85,69,32,70,65,76,83,69,32]:List UInt8)=Wd Hb:=by kernel_rfl
theorem qpx {b:UInt8} (h:(TI b||ec b)=true):upB b≠32:=by
 intro a;unfold upB at a;split at a
 ·rename_i c
  have:=congrArg UInt8.toNat a;rw[UInt8.toNat_ofNat']at this;simp at this;omega
 subst a
 revert h
 decide
theorem qjo {s:List UInt8} (h:Uq s=true):32 ∉ nt s:=by
 intro hm;unfold nt at hm;obtain⟨b,a,he⟩:=List.mem_map.1 hm;refine qpx ?_ he;cases s with
 | nil=>cases a
 | cons c s=>
  simp only[Uq,jj,List.all_eq_true]at h;rcases jg.1 a with rfl|a
  ·simp[h]
  exact(by simpa using h.2 b a)
theorem qhz (s:List UInt8):(nt s).length=s.length:=by simp[nt]
def xl (s:List UInt8):Bool:=Uq s&&!(Hb.contains (nt s))
theorem Sp {n:Nat} {s:List UInt8} (h:s.length<n) (h2:28<n) (d:n<=137438953472) :
  Vm n s=some (if Hb.contains (nt s)then(nt s,true)else([],false)):=by
 unfold Vm;rw[show Uc n=some Hb from rfl,qc,Pu h d,qc];have g:Hb.length=28:=rfl;refine Eq.trans (zY (B:=ph n Hb (nt s)) (fun k=>(k:Int)) (l:=Hb) (fun w=>if w=nt s then some (nt s,true)else none) (rest:=some ([],false)) ?_ ?_ (by omega)) ?_
 ·intro k x e c
  have f:=qL c;unfold ph;rw[qn,qx f,kct,qf c,qc,qU (by omega)];by_cases hw:x=nt s
  ·subst hw
   simp
  rw[if_neg hw,kbf.2 hw];rfl
 ·intro e
  unfold ph;rw[qn,qm];rfl
 have:∀ l:List (List UInt8),vu (fun w=>if w=nt s then some (nt s,true)else none) l=if l.contains (nt s)then some (nt s,true)else none:=by
  intro l
  induction l with
  | nil=>rfl
  | cons a l ih=>
   simp only[vu,ih];by_cases b:a=nt s
   ·subst b
    simp
   rw[if_neg b];have:(a::l).contains (nt s)=l.contains (nt s):=by
    rw[List.contains_cons,kbf.2 (Ne.symm b),Bool.false_or]
   rw[this]
 rw[this];cases Hb.contains (nt s)<;>rfl
theorem fl {n:Nat} {s:List UInt8} (h:s.length<n) (h2:28<n) (a:n<=137438953472):uU n s=some (xl s):=by
 unfold uU;rw[Sp h h2 a,qc];unfold xl;cases Hb.contains (nt s)<;>simp[BF h a]<;>cases Uq s<;>rfl
theorem Gt (n:Nat) {a:List UInt8} (b:List UInt8) (h:a.length<4294967281):np n a b=some (Lib.contains a b):=zz h
theorem qge {P Q:Prop} [Decidable P] [Decidable Q] (hp:P) (a:Q) {b:Bool} {o:Option Bool} {w:Bool} (c:b=true->o=some w) (x:List UInt8) :
  chk (bif !(!b)then decide P else true) (chk (bif !(!b)then decide Q else true) (bnd (qD (!(!b)) o) fun d=>bif(bif !b then true else !d)then some (([]:List UInt8),false)else some (x,true)))=some (if b&&w then(x,true)else([],false)):=by
 cases b with
 | false=>simp
 | true=>simp[hp,a,c rfl]; cases w<;>rfl
theorem lO {n:Nat} {s c:List UInt8} (h:s.length<n) (a:n<=137438953472) (i:c.length=148) (b:Uq s=true->Lib.contains c (32::(nt s++[32]))=Hb.contains (nt s)) :
  (bnd (Qc n s) fun d=>
 bnd (nP n s) fun e=>
 chk (bif(!(!e))then decide (((([32]:List UInt8).length+d.length:Nat):Int)<=xr)else true) (
 chk (bif(!(!e))then decide ((((([32]:List UInt8)++d).length+([32]:List UInt8).length:Nat):Int)<=xr)else true) (
 bnd (qD (!(!e)) (np n c ((([32]:List UInt8)++d)++([32]:List UInt8)))) fun f=>
 bif(bif(!e)then true else(!f))then(
 some (([]:List UInt8),false))
 else(
 some (d,true)))))=some (if xl s||!(Uq s)then([],false)else(nt s,true)):=by
 rw[PJ h a,qc,Vf h,qc];have hu:=qhz s;have j:(s.length:Int)+2<=xr:=by unfold xr; omega
 have h1:((([32]:List UInt8).length+(nt s).length:Nat):Int)<=xr:=by
  rw[show([32]:List UInt8).length=1 from rfl,hu]; generalize xr=m at *; omega
 have h2:(((([32]:List UInt8)++(nt s)).length+([32]:List UInt8).length:Nat):Int)<=xr:=by
  rw[jb,show([32]:List UInt8).length=1 from rfl,hu]; generalize xr=m at *; omega
 refine(qge h1 h2 (w:=Hb.contains (nt s)) (fun g=>?_) (nt s)).trans ?_
 ·rw[Gt n _ (by omega),show([32]++nt s++[32]:List UInt8)=32::(nt s++[32]) by simp,b g]
 unfold xl;cases Uq s<;>cases Hb.contains (nt s)<;>rfl
set_option maxRecDepth 100000 in
theorem qji:([32,77,65,84,67,72,32,87,72,69,82,69,32,85,78,87,73,78,68,32,65,83,32,87,73,84,72,32,67,82,69,65,84,69,32,77,69,82,71,69,32,83,69,84,32,82,69,77,79,86,69,32,68,69,76,69,84,69,32,68,69,84,65,67,72,32,82,69,84,85,82,78,32,68,73,83,84,73,78,67,84,32,79,82,68,69,82,32,66,89,32,65,83,67,32,68,69,83,67,32,83,75,73,80,32,76,73,77,73,84,32,65,78,68,32,79,82,32,88,79,82,32,78,79,84,32,73,78,32,73,83,32,78,85,76,76,32,84,82,85,69,32,70,65,76,83,69,32]:List UInt8).length=148:=by kernel_rfl
set_option maxRecDepth 100000 in
theorem SE {n:Nat} {s:List UInt8} (h:s.length<n) (a:n<=137438953472) :
  Fe n s=some (if xl s||!(Uq s)then([],false)else(nt s,true)):=
 lO h a qji (fun b=>(congrArg (fun c=>Lib.contains c (32::(nt s++[32]))) qkt).trans (ll qks (qjo b)))
theorem gY {n:Nat} {s:List UInt8} (h:s.length<n) (b:n<=137438953472):vP n s=some (xl s):=by
 unfold vP;rw[SE h b,qc];cases a:Uq s<;>cases hp:xl s<;>simp[Vf h,a]<;>simp[xl,a]at hp
end W
end
section
open Go Ax
namespace W
theorem qh2 {k:Nat} (h:k+1<=1152921504606846976):kwr .i64 (((k+1:Nat):Int) - 1)=((k:Nat):Int):=by
 rw[UW (by omega) (by omega)]; omega
theorem qnb (x:List UInt8):(decide (((x.length:Nat):Int)<1))=(x==[]):=by
 cases x with
 | nil=>rfl
 | cons a x=>simp; omega
theorem qkp (n:Nat) (ks:List (List UInt8)) (c d:Int) (l:List Val) (g:Val->Int->Int->Option (Int×Bool)) (o:n<=137438953472):∀ m k:Nat,k<=ks.length->ks.length - k<m->ks.length<n ->
  ∃ b,qo (fQ n ks) m (k:Int)=some b/\qo (uG n ks c l g d) m (k:Int)=bif b then bx n l g d c ()else some (kwr .i64 (c+1),false):=by
 intro m
 induction m with
 | zero=>intro k _ h; omega
 | succ m ih=>
  intro k p hm e;rw[qO,qO];by_cases he:k=ks.length
  ·subst he
   refine⟨true,?_,?_⟩
   ·simp only[fQ,qn,qm,kcf]
   simp only[uG,qn,qm,kcf,kct]
  have a:k<ks.length:=by omega
  obtain⟨x,f⟩:∃ x,ks[k]? =some x:=⟨_,jf a⟩;obtain⟨b,h1,h2⟩:=ih (k+1) (by omega) (by omega) e;rw[← qU (by omega)]at h1 h2;simp only[fQ,uG,qn,qx a,kct,qf f,qc,qnb];cases q:x==[]with
  | true=>exact⟨false,by simp,by simp⟩
  | false=>
   simp only[jp,zg,qc,kcf];cases r:decide (((x.length:Nat):Int)>64)with
   | true=>exact⟨false,by simp,by simp⟩
   | false=>
    cases k with
    | zero=>
     refine⟨b,?_,?_⟩
     ·simpa using h1
     simpa using h2
    | succ k=>
     have i:decide ((((k+1:Nat):Int))>0)=true:=kdt (by omega);obtain⟨y,j⟩:∃ y,ks[k]? =some y:=⟨_,jf (by omega)⟩;simp only[i,jp,Bool.and_true,zg,qh2 (show k+1<=1152921504606846976 by omega),qf j,qc,kct,kcf,To];cases Op.bytesLess y x with
     | false=>exact⟨false,by simp,by simp⟩
     | true=>exact⟨b,by simpa using h1,by simpa using h2⟩
theorem vD:∀ l:List Val,l.length<br l
 | []=>by simp[br]
 | x::l=>by have:=vD l; simp only[br,ja]; omega
theorem vM:∀ {l:List Val} {x:Val},x∈l->tm x+2<=br l
 | y::l,x,h=>by
  simp only[br];rcases jg.1 h with rfl|h
  ·have:=vD l; omega
  have:=vM h; omega
theorem qkq (n:Nat) (l:List Val) (g e:Val->Int->Int->Option (Int×Bool)) (d:Int) (q:n<=137438953472)
  (j:∀ v∈l,∀ d c,∃ r,g v d c=some r/\e v d c=some r):∀ m k:Nat,∀ c:Int,k<=l.length->l.length - k<m->l.length<n ->
  ∃ r,qo (gG n l g d) m (c,true,(k:Int))=some r/\qo (fk n l e d) m (c,(k:Int))=some r:=by
 intro m
 induction m with
 | zero=>intro k _ _ h; omega
 | succ m ih=>
  intro k c s hm o;rw[qO,qO];by_cases he:k=l.length
  ·subst he
   refine⟨(c,true),?_,?_⟩
   ·simp only[gG,ze,qm,kcf]
   simp only[fk,ze,qm,kcf]
  have a:k<l.length:=by omega
  obtain⟨x,f⟩:∃ x,l[k]? =some x:=⟨_,jf a⟩;obtain⟨⟨i,b⟩,h1,h2⟩:=j x (qw f) (kwr .i64 (d - 1)) c;obtain⟨x1,x2,t,u,w,y⟩:=x;simp only[gG,fk,ze,qx a,kct,qf f,qc,h1,h2];rw[qU (by omega)];cases b with
  | true=>
   obtain⟨r,h3,h4⟩:=ih (k+1) i (by omega) (by omega) o;exact⟨r,h3,by simpa using h4⟩
  | false=>
   refine⟨(i,false),?_,by simp⟩;obtain⟨m,rfl⟩:∃ p,m=p+1:=⟨m - 1,by omega⟩;rw[qO];simp only[gG,Bool.cond_self,kcf]
theorem qmk (n:Nat) {a:Int} (b:a<=7) (f:Bool) (i:Int) (j:List UInt8) (e:List Val) (o:List (List UInt8)):QD n ⟨a,f,i,j,e,o⟩=ta n ⟨a,f,i,j,e,o⟩:=by
 simp only[ta,QD];have e6:decide (a≥6)=(a==6||a==7):=by
  rw[Bool.eq_iff_iff]; simp; omega
 have e5:decide ((((Val.rows e).length:Nat):Int)>0)=!((((Val.rows e).length:Nat):Int)==0):=by
  generalize (Val.rows e).length=m;cases m with
  | zero=>rfl
  | succ m=>rw[kdt (by omega),kbf.2 (by omega)]; rfl
 have a1:(bif(a != 1)then f else false)=!(bif(a==1)then true else !f):=by
  rw[bne]; cases(a==1)<;>cases f<;>rfl
 have a2:(bif(bif(bif(a != 2)then(a != 6)else false)then(a != 7)else false)then(i != 0)else false)=!(bif(bif(a==2)then true else decide (a≥6))then true else(i==0)):=by
  rw[e6,bne,bne,bne,bne]; cases(a==2)<;>cases(a==6)<;>cases(a==7)<;>cases(i==0)<;>rfl
 have a3:(bif(a != 3)then(!(j==([]:List UInt8)))else false)=!(bif(a==3)then true else(j==([]:List UInt8))):=by
  rw[bne]; cases(a==3)<;>cases(j==([]:List UInt8))<;>rfl
 have a4:(bif(bif(a != 4)then(a != 5)else false)then decide ((((Val.rows e).length:Nat):Int)>0)else false)=!(bif(bif(a==4)then true else(a==5))then true else((((Val.rows e).length:Nat):Int)==0)):=by
  rw[e5,bne,bne]; cases(a==4)<;>cases(a==5)<;>cases((((Val.rows e).length:Nat):Int)==0)<;>rfl
 rw[a1,a2,a3,a4];generalize (bif(a==1)then true else !f)=A;generalize (bif(bif(a==2)then true else decide (a≥6))then true else(i==0))=B;generalize (bif(a==3)then true else(j==([]:List UInt8)))=C;generalize (bif(bif(a==4)then true else(a==5))then true else((((Val.rows e).length:Nat):Int)==0))=D;cases A<;>cases B<;>cases C<;>cases D<;>rfl
theorem sR:∀ n:Nat,n<=137438953472->∀ v d c,tm v<n->∃ r,cW n v d c=some r/\uO n v d c=some r:=by
 intro n
 induction n with
 | zero=>intro _ _ _ _ h; omega
 | succ n ih=>
  intro F v d c y;obtain⟨a,j,i,o,e,f⟩:=v;have z:br e<n/\f.length<n:=by
   have:=xi f;simp only[sS]at this;simp only[tm]at y;have H:=vD e;omega
  have I:=vD e;have A:∀ v∈e,∀ d c,∃ r,cW n v d c=some r/\uO n v d c=some r:=fun v hm d c=>ih (by omega) v d c (by have:=vM hm; omega)
  have b:∀ c,∃ r,qo (gG n e (cW n) d) n (c,true,(0:Int))=some r/\qo (fk n e (uO n) d) n (c,(0:Int))=some r:=fun c=>
   qkq n e _ _ d (by omega) A n 0 c (by omega) (by omega) (by omega)
  obtain⟨x,p,q⟩:=qkp n f c d e (uO n) (by omega) n 0 (by omega) (by omega) z.2;obtain⟨r,g,k⟩:=b (kwr .i64 (c+1));simp only[cW,uO,Zr,ZD,XA];generalize hC:kwr .i64 (c+1)=C at *;have s:∃ G:Bool,(bif(bif(bif(decide (d<1))then true else(decide (C>4096)))then true else(decide (a<0)))then true else(decide (a>7)))=G /\
    (bif(bif(bif(decide (C>4096))then true else(decide (d<1)))then true else(decide (a<0)))then true else(decide (a>7)))=G/\(G=false->a<=7):=by
   refine⟨_,rfl,?_,?_⟩
   ·cases decide (C>4096)<;>cases decide (d<1)<;>rfl
   cases decide (C>4096)<;>cases decide (d<1)<;>cases decide (a<0)<;>simp
  obtain⟨G,t,u,w⟩:=s;rw[t,u];cases G with
  | true=>exact⟨(C,false),by simp,by simp⟩
  | false=>
   have D:=w rfl;rw[qmk n D];obtain⟨B,E⟩:∃ B,ta n ⟨a,j,i,o,e,f⟩=some B:=⟨_,rfl⟩;rw[E];have e6:decide (a≥6)=(bif(a==6)then true else(a==7)):=by
    rw[Bool.eq_iff_iff]; simp; omega
   rw[e6];cases B with
   | false=>exact⟨(C,false),by simp,by simp⟩
   | true=>
    simp only[jp,jq,zg,qc,kcf,kct];cases J:(bif(bif(a==6)then true else(a==7))then decide (i<1)else false)with
    | true=>exact⟨(C,false),by simp,by simp⟩
    | false=>
     cases K:(a==5)with
     | false=>
      refine⟨r,?_,?_⟩
      ·simpa using g
      simpa[bx,hC]using k
     | true=>
      cases L:((((qi f).length:Nat):Int) != (((Val.rows e).length:Nat):Int))with
      | true=>exact⟨(C,false),by simp,by simp⟩
      | false=>
       simp only[jp,Bool.and_true,zg,kcf,kct];have l:qo (fQ n f) n (0:Int)=some x:=p;have m:qo (uG n f c e (uO n) d) n (0:Int)=_:=q;rw[l,m,qc];cases x with
       | true=>
        refine⟨r,?_,?_⟩
        ·simpa using g
        simpa[bx,hC]using k
       | false=>exact⟨(C,false),by simp,by simp⟩
theorem Tp {n:Nat} (a:n<=137438953472) {v:Val} (d:tm v<n):∃ b:Bool,tD n v=some (bif b then 0 else 20)/\nv n v=some b:=by
 obtain⟨x1,x2,e,f,g,h⟩:=v;obtain⟨⟨c,b⟩,h1,h2⟩:=sR n a _ 32 0 d;refine⟨b,?_,?_⟩
 ·simp only[tD,h1,qc]
  cases b<;>rfl
 ·simp only[nv,h2,qc]
end W
end
section
open Go Ax
namespace W
theorem Cz {A:Type} {B:(Int->Option Bool)->Int->Option Bool} {l l':List A} (hlen:l.length=l'.length)
  (step:∀ (k:Nat) x y c,l[k]? =some x->l'[k]? =some y->∃ b,(b=true↔x=y)/\B c (k:Int)=bif b then c ((k+1:Nat):Int)else some false)
  (a:∀ c,B c (l.length:Int)=some true) {n:Nat} (f:l.length<n):∃ b,qo B n 0=some b/\(b=true↔l=l'):=by
 have main:∀ m k:Nat,k<=l.length->l.length - k<m->∃ b,qo B m (k:Int)=some b/\(b=true↔l.drop k=l'.drop k):=by
  intro m
  induction m with
  | zero=>intro k _ h; omega
  | succ m ih=>
   intro k g hm;rw[qO];by_cases he:k=l.length
   ·subst he
    exact⟨true,a _,by rw[List.drop_length,hlen,List.drop_length]; simp⟩
   have h1:k<l.length:=by omega
   have h2:k<l'.length:=by omega
   obtain⟨b,d,e⟩:=step k _ _ (qo B m) (jf h1) (jf h2);rw[e,jo h1,jo h2,List.cons.injEq,← d];cases b with
   | false=>exact⟨false,rfl,by simp⟩
   | true=>
    obtain⟨b,h3,h4⟩:=ih (k+1) (by omega) (by omega);exact⟨b,h3,by simpa using h4⟩
 obtain⟨b,h1,h2⟩:=main n 0 (by omega) (by omega);exact⟨b,h1,by simpa using h2⟩
theorem Qk {a b:Nat}:((((a:Nat):Int) != ((b:Nat):Int))=true)↔a≠b:=by simp[Int.natCast_inj]
theorem Qe {n:Nat} {x y:List (List UInt8)} (h:x.length<n) (j:n<=137438953472):∃ b,zK n x y=some b/\(b=true↔x=y):=by
 unfold zK;by_cases c:x.length=y.length
 ·have:((((qi x).length:Nat):Int) != (((qi y).length:Nat):Int))=false:=by simp[c]
  rw[this,kcf];refine Cz c (fun k a b f d g=>⟨a==b,beq_iff_eq,?_⟩) (fun f=>by simp only[xp,qn,qm,kcf]) h
  have i:=qL d;simp only[xp,qn,qx i,kct,qf d,qf g,qc];rw[qU (by omega)];cases a==b<;>rfl
 ·have:((((qi x).length:Nat):Int) != (((qi y).length:Nat):Int))=true:=by rw[qn,qn]; exact Qk.2 c
  rw[this];exact⟨false,rfl,by simp; intro e; exact c (congrArg _ e)⟩
theorem xt {n:Nat} {x y:List (List UInt8)} (h:x.length<n) (j:n<=137438953472):∃ b,qY n x y=some b/\(b=true↔x=y):=by
 unfold qY;by_cases c:x.length=y.length
 ·have:((((qi x).length:Nat):Int) != (((qi y).length:Nat):Int))=false:=by simp[c]
  rw[this,kcf];refine Cz c (fun k a b f d g=>⟨a==b,beq_iff_eq,?_⟩) (fun f=>by simp only[cy,qn,qm,kcf]) h
  have i:=qL d;simp only[cy,qn,qx i,kct,qf d,qf g,qc];rw[qU (by omega)]
  first|(cases a==b<;>rfl)|(cases h:a==b<;>simp[h,bne])
 ·have:((((qi x).length:Nat):Int) != (((qi y).length:Nat):Int))=true:=by rw[qn,qn]; exact Qk.2 c
  rw[this];exact⟨false,rfl,by simp; intro e; exact c (congrArg _ e)⟩
theorem aB {x1 d:Int} {x2 e:Bool} {f g:Int} {h c:List UInt8} {m i:List (List UInt8)} {n j:List Val} {N L:Option Bool} {a b:Bool} (o:N=some a) (p:a=true↔m=i) (q:L=some b) (s:b=true↔n=j) :
  ∃ r,(bnd (qD (bif(bif(bif(x1==d)then(x2==e)else false)then(f==g)else false)then(h==c)else false) N) fun k=>
   bnd (qD (bif(bif(bif(bif(x1==d)then(x2==e)else false)then(f==g)else false)then(h==c)else false)then k else false) L) fun l=>
   some (bif(bif(bif(bif(bif(x1==d)then(x2==e)else false)then(f==g)else false)then(h==c)else false)then k else false)then l else false))=some r /\
  (r=true↔Val.mk x1 x2 f h n m=Val.mk d e g c j i):=by
 subst o q;have e1:(x1==d)=true↔x1=d:=beq_iff_eq;have e2:(x2==e)=true↔x2=e:=beq_iff_eq;have e3:(f==g)=true↔f=g:=beq_iff_eq;have e4:(h==c)=true↔h=c:=beq_iff_eq;rw[Val.mk.injEq,← e1,← e2,← e3,← e4,← s,← p];cases(x1==d)<;>cases(x2==e)<;>cases(f==g)<;>cases(h==c)<;>cases a<;>cases b<;>exact⟨_,rfl,by simp⟩
theorem DC:∀ n:Nat,n<=137438953472->(∀ v w,tm v<n->∃ b,dF n v w=some b/\(b=true↔v=w))/\(∀ l l',br l<n->∃ b,ug n l l'=some b/\(b=true↔l=l')):=by
 intro n
 induction n with
 | zero=>intro _; exact⟨fun _ _ h=>by omega,fun _ _ h=>by omega⟩
 | succ n ih=>
  intro L;obtain⟨z,A⟩:=ih (by omega);refine⟨fun v w H=>?_,fun l l' M=>?_⟩
  ·obtain⟨i,m,o,p,c,d⟩:=v
   obtain⟨q,s,t,j,f,g⟩:=w;have x:br c<n/\d.length<n:=by
    have:=xi d;simp only[sS]at this;simp only[tm]at H;have N:=vD c;omega
   obtain⟨a,B,C⟩:=xt (y:=g) x.2 (by omega);obtain⟨b,D,E⟩:=A c f x.1;simp only[dF,VU];exact aB B C D E
  have hlen:=vD l;simp only[ug,tn];by_cases u:l.length=l'.length
  ·have:((((Val.rows l).length:Nat):Int) != (((Val.rows l').length:Nat):Int))=false:=by simp[u]
   rw[this,kcf];refine Cz u (fun k a b I F x=>?_) (fun I=>by simp only[dG,ze,qm,kcf]) (by omega)
   have J:=qL F;obtain⟨r,K,G⟩:=z a b (by have:=vM (qw F); omega);refine⟨r,G,?_⟩;obtain⟨i,m,o,p,c,d⟩:=a;obtain⟨q,s,t,j,f,g⟩:=b;simp only[dG,ze,qx J,kct,qf F,qf x,qc,K];rw[qU (by omega)];cases r<;>rfl
  ·have:((((Val.rows l).length:Nat):Int) != (((Val.rows l').length:Nat):Int))=true:=by rw[ze,ze]; exact Qk.2 u
   rw[this];exact⟨false,rfl,by simp; intro e; exact u (congrArg _ e)⟩
theorem Fy:∀ n:Nat,n<=137438953472->(∀ v w,tm v<n->∃ b,fw n v w=some b/\(b=true↔v=w))/\(∀ l l',br l<n->∃ b,qh n l l'=some b/\(b=true↔l=l')):=by
 intro n
 induction n with
 | zero=>intro _; exact⟨fun _ _ h=>by omega,fun _ _ h=>by omega⟩
 | succ n ih=>
  intro L;obtain⟨z,A⟩:=ih (by omega);refine⟨fun v w H=>?_,fun l l' M=>?_⟩
  ·obtain⟨i,m,o,p,c,d⟩:=v
   obtain⟨q,s,t,j,f,g⟩:=w;have x:br c<n/\d.length<n:=by
    have:=xi d;simp only[sS]at this;simp only[tm]at H;have N:=vD c;omega
   obtain⟨a,B,C⟩:=Qe (y:=g) x.2 (by omega);obtain⟨b,D,E⟩:=A c f x.1;simp only[fw,Zq];exact aB B C D E
  have hlen:=vD l;simp only[qh,qM];by_cases u:l.length=l'.length
  ·have:((((Val.rows l).length:Nat):Int) != (((Val.rows l').length:Nat):Int))=false:=by simp[u]
   rw[this,kcf];refine Cz u (fun k a b I F x=>?_) (fun I=>by simp only[qz,ze,qm,kcf]) (by omega)
   have J:=qL F;obtain⟨r,K,G⟩:=z a b (by have:=vM (qw F); omega);refine⟨r,G,?_⟩;obtain⟨i,m,o,p,c,d⟩:=a;obtain⟨q,s,t,j,f,g⟩:=b;simp only[qz,ze,qx J,kct,qf F,qf x,qc,K];rw[qU (by omega)];cases r<;>rfl
  ·have:((((Val.rows l).length:Nat):Int) != (((Val.rows l').length:Nat):Int))=true:=by rw[ze,ze]; exact Qk.2 u
   rw[this];exact⟨false,rfl,by simp; intro e; exact u (congrArg _ e)⟩
end W
end
section
open Go Ax
namespace W
def dgB (m:Nat):UInt8:=UInt8.ofNat (48+m)
def qcz (m:Nat):List UInt8:=if h:m<10 then[dgB m]else qcz (m / 10)++[dgB (m % 10)]
theorem GJ {m:Nat} (h:m<10):qcz m=[dgB m]:=by rw[qcz,dif_pos h]
theorem Tq {m:Nat} (h:¬ m<10):qcz m=qcz (m / 10)++[dgB (m % 10)]:=by rw[qcz,dif_neg h]
theorem XK:∀ (d m:Nat),m<10 ^ (d+1)->(qcz m).length<=d+1/\1<=(qcz m).length
 | 0,m,h=>by rw[GJ (by simpa using h)]; simp
 | d+1,m,h=>by
  by_cases hm:m<10
  ·rw[GJ hm]; simp
  rw[Tq hm,jb];have:=XK d (m / 10) (by rw[Nat.div_lt_iff_lt_mul (by decide)]; rw[Nat.pow_succ]at h; exact h);simp only[ja,jc];omega
def qbr (i:Int):List UInt8:=if i<0 then 45::qcz (-i).toNat else qcz i.toNat
theorem qe0 {m:Nat} (h:m<10):(dgB m).toNat=48+m:=by
 unfold dgB;rw[UInt8.toNat_ofNat'];omega
theorem qmd {m:Nat} (h:m<10):u8I ((48+m:Nat):Int)=some (dgB m):=by
 rw[← qe0 h]; exact TZ _
theorem p19:(10:Nat) ^ 19=10000000000000000000:=by decide
theorem qbs {i:Int} (a:-9223372036854775808<=i) (h1:i<=9223372036854775807):(qbr i).length<=20:=by
 unfold qbr;split
 ·have:=(XK 18 (-i).toNat (by rw[p19]; omega)).1
  simp only[ja]; omega
 have:=(XK 18 i.toNat (by rw[p19]; omega)).1;omega
theorem qme (z:Int) (a:0<=z) (h1:z<256):kwr .u8 z=z:=by
 show z % (2 ^ 8:Int)=z;omega
theorem qak (z:Int) (a:0<=z) (h1:z<18446744073709551616):kwr .u64 z=z:=by
 show z % (2 ^ 64:Int)=z;omega
theorem qpw (z:Int) (a:-9223372036854775808<=z) (h1:z<0):kwr .u64 (0 - kwr .u64 z) = -z:=by
 show(0 - z % (2 ^ 64:Int)) % (2 ^ 64:Int) = -z;omega
theorem da {a b:Nat} (h:a+b<=137438953472):decide (((a+b:Nat):Int)<=xr)=true:=kdt (by unfold xr; omega)
theorem qg2:∀ (d:Nat) (m:Nat) (f:Nat),d<=18->m<10 ^ (d+1)->m<=9223372036854775807->d+1<=f->cd f (m:Int)=some (qcz m):=by
 intro d
 induction d with
 | zero=>
  intro m f c hm e g;obtain⟨f,rfl⟩:=jk (by omega:f≠0);have hm:m<10:=by simpa using hm
  simp only[cd,tV];rw[show(((m:Nat):Int) == -9223372036854775808)=false from by rw[kbf]; omega,kcf,kdf (by omega:¬ (m:Int)<0),kcf];rw[show Int.tmod (m:Int) 10=((m % 10:Nat):Int)from by rw[Int.ofNat_tmod]; rfl,Nat.mod_eq_of_lt hm,Hc _ (by omega) (by omega),qme _ (by omega) (by omega)];rw[show(48:Int)+(m:Int)=((48+m:Nat):Int)from by simp,qmd hm,qc,kdt (by omega:(m:Int)<10),kct,GJ hm]
 | succ d ih=>
  intro m f c hm e g;obtain⟨f,rfl⟩:=jk (by omega:f≠0);have h:m % 10<10:=Nat.mod_lt _ (by decide);simp only[cd,tV];rw[show(((m:Nat):Int) == -9223372036854775808)=false from by rw[kbf]; omega,kcf,kdf (by omega:¬ (m:Int)<0),kcf];rw[show Int.tmod (m:Int) 10=((m % 10:Nat):Int)from by rw[Int.ofNat_tmod]; rfl,Hc _ (by omega) (by omega),qme _ (by omega) (by omega)];rw[show(48:Int)+((m % 10:Nat):Int)=((48+m % 10:Nat):Int)from by simp,qmd h,qc];by_cases a:m<10
  ·rw[kdt (by omega:(m:Int)<10),kct,Nat.mod_eq_of_lt a,GJ a]
  have b:m / 10<10 ^ (d+1):=by rw[Nat.div_lt_iff_lt_mul (by decide)]; rw[Nat.pow_succ]at hm; exact hm
  rw[kdf (by omega:¬ (m:Int)<10),kcf,show Int.tdiv (m:Int) 10=((m / 10:Nat):Int)from by rw[Int.ofNat_tdiv]; rfl,Hc _ (by omega) (by omega),ih (m / 10) f (by omega) b (by omega) (by omega),qc];have i:=(XK d (m / 10) b).1;rw[zH (da (by simp only[ja,jc]; omega)),Tq a]
theorem qj0 {f:Nat} (c:400<=f) {i:Int} (d:-9223372036854775808<=i) (h1:i<=9223372036854775807):cd f i=some (qbr i):=by
 by_cases a:i<0
 ·by_cases b:i = -9223372036854775808
  ·subst b
   obtain⟨f,rfl⟩:=jk (by omega:f≠0);rw[show qbr (-9223372036854775808)=[45,57,50,50,51,51,55,50,48,51,54,56,53,52,55,55,53,56,48,56]from by
    unfold qbr;rw[if_pos (by decide)];have e:(-(-9223372036854775808:Int)).toNat=9223372036854775808:=by decide
    rw[e]
    iterate 18 rw[Tq (by decide)]
    rw[GJ (by decide)];rfl]
   rfl
  obtain⟨f,rfl⟩:=jk (by omega:f≠0);simp only[cd,tV];rw[show(i == -9223372036854775808)=false from by rw[kbf]; exact b,kcf,kdt a,kct,Hc _ (by omega) (by omega)];rw[show(0:Int) - i=(((-i).toNat:Nat):Int)from by omega,qg2 18 (-i).toNat f (by omega) (by rw[p19]; omega) (by omega) (by omega),qc];have hlen:=(XK 18 (-i).toNat (by rw[p19]; omega)).1;rw[zH (da (by simp only[ja,jc]; omega))];unfold qbr;rw[if_pos a];rfl
 rw[show i=((i.toNat:Nat):Int)from by omega,qg2 18 i.toNat f (by omega) (by rw[p19]; omega) (by omega) (by omega)];unfold qbr;rw[if_neg (by omega),jV]
theorem LN {A:Type}:∀ (b:List A) (k:Nat) (x:A),k<b.length->(b.set k x).drop k=x::b.drop (k+1)
 | [],_,_,h=>by simp at h
 | a::b,0,x,_=>rfl
 | a::b,k+1,x,h=>by simpa using LN b k x (by simpa using h)
theorem ql6 {n a:Nat} {b:List UInt8} (c:a<20) (d:b.length=20):pQ n ((a:Int),b)=some (b.drop a):=by
 unfold pQ;simp only;rw[natI_nat,qc,zH (kdt c),zH (kdt (by omega))];rw[List.take_of_length_le (by rw[jN]; omega)]
theorem qmo {m:Nat} (h:m<10):([(48:UInt8),(49:UInt8),(50:UInt8),(51:UInt8),(52:UInt8),(53:UInt8),(54:UInt8),(55:UInt8),(56:UInt8),(57:UInt8)]:List UInt8)[m]? =some (dgB m):=by
 have:m=0\/m=1\/m=2\/m=3\/m=4\/m=5\/m=6\/m=7\/m=8\/m=9:=by omega
 rcases this with rfl|rfl|rfl|rfl|rfl|rfl|rfl|rfl|rfl|rfl<;>rfl
def qkg (i:Int):List UInt8:=if i<0 then[45]else[]
theorem qbt (n:Nat) (i:Int):∀ (d m a f:Nat) (b:List UInt8),m<10 ^ (d+1)->d<=18->m<=9223372036854775808->(qcz m).length+(qkg i).length<=a->a<=20->b.length=20->d+1<=f ->
  qo (pR n i) f ((a:Int),(m:Int),b)=some (qkg i++qcz m++b.drop a):=by
 intro d;have g:∀ (m a:Nat) (b:List UInt8) (q:Int×Int×List UInt8->Option (List UInt8)),m<=9223372036854775808->1<=a->a<=20->b.length=20->(m<10->1+(qkg i).length<=a) ->
   pR n i q ((a:Int),(m:Int),b)=(if m<10 then some (qkg i++dgB (m % 10)::b.drop a)else q (((a - 1:Nat):Int),((m / 10:Nat):Int),b.set (a - 1) (dgB (m % 10)))):=by
  intro m a b q hm j h k l;have s:m % 10<10:=Nat.mod_lt _ (by decide);simp only[pR];rw[show Int.tmod (m:Int) 10=((m % 10:Nat):Int)from by rw[Int.ofNat_tmod]; rfl,natI_nat,qc,zH (kdt s),qmo s,qc];rw[UW (by omega) (by omega),show(a:Int) - 1=((a - 1:Nat):Int)from by omega,natI_nat,qc,zH (kdt (by omega)),TZ,qc,zH (kdt (by omega))];have o:(b.set (a - 1) (dgB (m % 10))).length=20:=by rw[List.length_set]; exact k
  have p:(b.set (a - 1) (dgB (m % 10))).drop (a - 1)=dgB (m % 10)::b.drop a:=by
   rw[LN b (a - 1) _ (by omega),show a - 1+1=a from by omega]
  by_cases c:m<10
  ·have l:=l c
   rw[kdt (by omega:(m:Int)<10),kct,if_pos c];unfold qkg at l ⊢;by_cases e:i<0
   ·rw[kdt e,kct,if_pos e]
    rw[if_pos e]at l;simp only[ja,jc]at l;rw[UW (by omega) (by omega),show((a - 1:Nat):Int) - 1=((a - 2:Nat):Int)from by omega,natI_nat,qc,zH (kdt (by omega)),show u8I (45:Int)=some 45 from rfl,qc,zH (kdt (by omega))];rw[ql6 (by omega) (by rw[List.length_set]; exact o),LN _ (a - 2) _ (by omega),show a - 2+1=a - 1 from by omega,p];rfl
   rw[kdf e,kcf,if_neg e,ql6 (by omega) o,p];rfl
  rw[kdf (by omega:¬ (m:Int)<10),kcf,if_neg c,show Int.tdiv (m:Int) 10=((m / 10:Nat):Int)from by rw[Int.ofNat_tdiv]; rfl,qak _ (by omega) (by omega)]
 induction d with
 | zero=>
  intro m a f b hm t r j h k u;obtain⟨f,rfl⟩:=jk (by omega:f≠0);have hm:m<10:=by simpa using hm
  rw[GJ hm]at j ⊢;simp only[ja,jc]at j;rw[qO,g m a b _ r (by omega) h k (fun _=>by omega),if_pos hm,Nat.mod_eq_of_lt hm]
  simp
 | succ d ih=>
  intro m a f b hm t r j h k u;obtain⟨f,rfl⟩:=jk (by omega:f≠0);have h1:=(XK (d+1) m hm).2;rw[qO,g m a b _ r (by omega) h k (fun c=>by rw[GJ c]at j; simpa using j)]
  by_cases c:m<10
  ·rw[if_pos c,GJ c,Nat.mod_eq_of_lt c]; simp
  have v:m / 10<10 ^ (d+1):=by rw[Nat.div_lt_iff_lt_mul (by decide)]; rw[Nat.pow_succ]at hm; exact hm
  rw[Tq c]at j ⊢;simp only[jb,ja,jc]at j;rw[if_neg c,ih (m / 10) (a - 1) f _ v (by omega) (by omega) (by omega) (by omega) (by rw[List.length_set]; exact k) (by omega),LN b (a - 1) _ (by omega),show a - 1+1=a from by omega];simp
theorem qju {f:Nat} (e:400<=f) {i:Int} (d:-9223372036854775808<=i) (h1:i<=9223372036854775807):Qd f i=some (qbr i):=by
 unfold Qd Ff;have c:(List.replicate 20 (0:UInt8)).length=20:=by simp
 have b:(List.replicate 20 (0:UInt8)).drop 20=[]:=rfl;by_cases a:i<0
 ·rw[kdt a,kct,qc,qpw i d a,show -i=(((-i).toNat:Nat):Int)from by omega]
  have hlen:=(XK 18 (-i).toNat (by rw[p19]; omega)).1;have:=qbt f i 18 (-i).toNat 20 f (List.replicate 20 0) (by rw[p19]; omega) (by omega) (by omega) (by unfold qkg; rw[if_pos a]; simp only[ja,jc]; omega) (by omega) c (by omega);rw[b]at this;refine this.trans ?_;unfold qkg qbr;rw[if_pos a,if_pos a];simp
 rw[kdf a,kcf,qc,qak i (by omega) (by omega)];have hlen:=(XK 18 i.toNat (by rw[p19]; omega)).1;have:=qbt f i 18 i.toNat 20 f (List.replicate 20 0) (by rw[p19]; omega) (by omega) (by omega) (by unfold qkg; rw[if_neg a]; simp only[jc]; omega) (by omega) c (by omega);rw[b]at this;rw[show i=((i.toNat:Nat):Int)from by omega]at this ⊢;rw[jV]at this;refine this.trans ?_;unfold qkg qbr;rw[if_neg (by omega),if_neg (by omega),jV];simp
end W
end
section
open Go Ax
namespace W
def ctB (b:UInt8):Bool:=decide (128<=b.toNat/\b.toNat<192)
def rI:List UInt8->Nat
 | []=>0
 | c::t=>
  if c.toNat<128 then 1
  else if c.toNat<194\/244<c.toNat then 0
  else match t with
   | []=>0
   | d::t2=>
    if ctB d=false then 0
    else if c.toNat<224 then 2
    else match t2 with
     | []=>0
     | e::t3=>
      if ctB e=false\/(c.toNat=224/\d.toNat<160)\/(c.toNat=237/\160<=d.toNat)then 0
      else if c.toNat<240 then 3
      else match t3 with
       | []=>0
       | f::_=>if ctB f=false\/(c.toNat=240/\d.toNat<144)\/(c.toNat=244/\144<=d.toNat)then 0 else 4
theorem ZM (c:UInt8) (t:List UInt8):rI (c::t)=if c.toNat<128 then 1
  else if c.toNat<194\/244<c.toNat then 0
  else match t with
   | []=>0
   | d::t2=>
    if ctB d=false then 0
    else if c.toNat<224 then 2
    else match t2 with
     | []=>0
     | e::t3=>
      if ctB e=false\/(c.toNat=224/\d.toNat<160)\/(c.toNat=237/\160<=d.toNat)then 0
      else if c.toNat<240 then 3
      else match t3 with
       | []=>0
       | f::_=>if ctB f=false\/(c.toNat=240/\d.toNat<144)\/(c.toNat=244/\144<=d.toNat)then 0 else 4:=rfl
def eY (s:List UInt8):Nat×Nat:=
 let at' (k:Nat):Nat:=((s[k]?).getD 0).toNat
 let cont (k:Nat):Bool:=decide (k<s.length)&&at' k / 64==2
 let b0:=at' 0
 if b0<0x80 then(b0,1)
 else if b0 / 32==6&&cont 1 then
  let c:=(b0 % 32) * 64+at' 1 % 64
  if c≥0x80 then(c,2)else(Utf8.runeError,1)
 else if b0 / 16==14&&cont 1&&cont 2 then
  let c:=(b0 % 16) * 4096+(at' 1 % 64) * 64+at' 2 % 64
  if c≥0x800&&Utf8.valid c then(c,3)else(Utf8.runeError,1)
 else if b0 / 8==30&&cont 1&&cont 2&&cont 3 then
  let c:=(b0 % 8) * 262144+(at' 1 % 64) * 4096+(at' 2 % 64) * 64+at' 3 % 64
  if c≥0x10000&&Utf8.valid c then(c,4)else(Utf8.runeError,1)
 else(Utf8.runeError,1)
theorem qlq (l:List UInt8) (i:Nat):Utf8.decode ⟨l.toArray⟩ i=eY (l.drop i):=by
 have h1:∀ k,((⟨l.toArray⟩:ByteArray).get! (i+k)).toNat=(((l.drop i)[k]?).getD 0).toNat:=fun k=>by
  have:(⟨l.toArray⟩:ByteArray).get! (i+k)=l.toArray[i+k]!:=rfl;rw[this,jE];congr 1;cases h:l[i+k]? with
  | none=>simp[getElem!_def,h]; rfl
  | some b=>simp[getElem!_def,h]
 have h2:∀ k,decide (i+k<(⟨l.toArray⟩:ByteArray).size)=decide (k<(l.drop i).length):=fun k=>by
  rw[ByteArray.size_mk_toArray,jN];exact decide_eq_decide.2 (by omega)
 unfold Utf8.decode eY;simp only[h1,h2]
theorem qkm {r:Nat} (h:r<55296):Utf8.valid (r:Int)=true:=by
 unfold Utf8.valid;simp only[jP,jj,kde]
 left; omega
theorem qb9 {r:Nat} (h1:57344<=r) (h2:r<=1114111):Utf8.valid (r:Int)=true:=by
 unfold Utf8.valid;simp only[jP,jj,kde]
 right; omega
theorem ia {r:Nat} (h:(55296<=r/\r<57344)\/1114111<r):Utf8.valid (r:Int)=false:=by
 unfold Utf8.valid;simp only[Bool.or_eq_false_iff,Bool.and_eq_false_iff,decide_eq_false_iff_not];omega
theorem sO {b:UInt8}:ctB b=true↔b.toNat / 64=2:=by
 unfold ctB;rw[kde];omega
theorem qmn {c:UInt8} {t:List UInt8} (h:c.toNat<128):eY (c::t)=(c.toNat,1):=by
 unfold eY;simp only[jd,jW];rw[if_pos h]
theorem qo4 {c d:UInt8} {t:List UInt8} (h1:194<=c.toNat) (h2:c.toNat<224) (a:ctB d=true):eY (c::d::t)=((c.toNat % 32) * 64+d.toNat % 64,2):=by
 have a:=sO.1 a;unfold eY;simp only[jd,je,jW,ja];rw[if_neg (by omega),if_pos (by simp only[jj,beq_iff_eq,kde]; omega),if_pos (by omega)]
theorem qo5 {c d e:UInt8} {t:List UInt8} (h1:224<=c.toNat) (h2:c.toNat<240) (a:ctB d=true) (he:ctB e=true) (f:¬ (c.toNat=224/\d.toNat<160)) (g:¬ (c.toNat=237/\160<=d.toNat)) :
  eY (c::d::e::t)=((c.toNat % 16) * 4096+(d.toNat % 64) * 64+e.toNat % 64,3):=by
 have a:=sO.1 a;have he:=sO.1 he;unfold eY;simp only[jd,je,jW,ja];rw[if_neg (by omega),if_neg (by simp only[jj,beq_iff_eq,kde]; omega),if_pos (by simp only[jj,beq_iff_eq,kde]; omega)];rw[if_pos];rw[jj,kde];refine⟨by omega,?_⟩;by_cases b:(c.toNat % 16) * 4096+(d.toNat % 64) * 64+e.toNat % 64<55296
 ·exact qkm b
 exact qb9 (by omega) (by omega)
theorem qo6 {c d e f:UInt8} {t:List UInt8} (h1:240<=c.toNat) (h2:c.toNat<245) (a:ctB d=true) (he:ctB e=true) (b:ctB f=true) (g:¬ (c.toNat=240/\d.toNat<144)) (h:¬ (c.toNat=244/\144<=d.toNat)) :
  eY (c::d::e::f::t)=((c.toNat % 8) * 262144+(d.toNat % 64) * 4096+(e.toNat % 64) * 64+f.toNat % 64,4):=by
 have a:=sO.1 a;have he:=sO.1 he;have b:=sO.1 b;unfold eY;simp only[jd,je,jW,ja];rw[if_neg (by omega),if_neg (by simp only[jj,beq_iff_eq,kde]; omega),if_neg (by simp only[jj,beq_iff_eq,kde]; omega),if_pos (by simp only[jj,beq_iff_eq,kde]; omega)];rw[if_pos];rw[jj,kde];exact⟨by omega,qb9 (by omega) (by omega)⟩
theorem qo3 {c:UInt8} {t:List UInt8} (n:128<=c.toNat) (g:rI (c::t)=0):eY (c::t)=(65533,1):=by
 have k:=c.toNat_lt;have he:Utf8.runeError=65533:=rfl;unfold eY;simp only[jd,je,jW,ja,he];rw[if_neg (by omega)];rw[ZM,if_neg (by omega)]at g;split
 ·
  rename_i h1;simp only[jj,beq_iff_eq,kde]at h1;split
  ·rename_i h2
   exfalso;cases t with
   | nil=>simp at h1
   | cons d t=>
    simp only[jd,jW]at h1 h2;rw[if_neg (by omega)]at g;simp only[sO.2 h1.2.2,jR,if_false]at g;rw[if_pos (by omega)]at g;cases g
  ·rfl
 split
 ·rename_i l h1
  simp only[jj,beq_iff_eq,kde]at h1;split
  ·rename_i h2
   exfalso;rw[jj,kde]at h2;cases t with
   | nil=>simp at h1
   | cons d t=>
    cases t with
    | nil=>simp at h1
    | cons e t=>
     simp only[jd,je,jW]at h1 h2;rw[if_neg (by omega)]at g;simp only[sO.2 h1.1.2.2,sO.2 h1.2.2,jR,if_false,false_or]at g;rw[if_neg (by omega)]at g;have i:=h2.2;rw[if_neg (by
      rintro(⟨a,b⟩|⟨a,b⟩)
      ·omega
      rw[ia (by left; omega)]at i; cases i),if_pos (by omega)]at g
     cases g
  ·rfl
 split
 ·rename_i m l h1
  simp only[jj,beq_iff_eq,kde]at h1;split
  ·rename_i h2
   exfalso;rw[jj,kde]at h2;cases t with
   | nil=>simp at h1
   | cons d t=>
    cases t with
    | nil=>simp at h1
    | cons e t=>
     cases t with
     | nil=>simp at h1
     | cons f t=>
      simp only[jd,je,jW]at h1 h2;have i:=h2.2;have j:¬ 244<c.toNat:=fun h=>by
       rw[ia (by right; omega)]at i; cases i
      rw[if_neg (by omega)]at g;simp only[sO.2 h1.1.1.2.2,sO.2 h1.1.2.2,sO.2 h1.2.2,jR,if_false,false_or]at g;rw[if_neg (by omega),if_neg (by omega),if_neg (by omega),if_neg (by
       rintro(⟨a,b⟩|⟨a,b⟩)
       ·omega
       rw[ia (by right; omega)]at i; cases i)]at g
      cases g
  ·rfl
 rfl
theorem qah (n:Nat) {l:List UInt8} {i:Nat} (h:l.length<=137438953472):tW n l (i:Int)=some (match l[i]? with|some b=>ctB b|none=>false):=by
 unfold tW;cases a:l[i]? with
 | none=>
  have c:l.length<=i:=List.getElem?_eq_none_iff.1 a;rw[kdf (by omega:¬ (i:Int)<((l.length:Nat):Int))];rfl
 | some b=>
  have c:=qL a;rw[qx c];simp only[qf a,zg,qc,kct];unfold ctB;by_cases h1:128<=b.toNat
  ·rw[kdt (by omega:(b.toNat:Int)≥128)]
   simp only[zg,qc,kct];exact congrArg some (decide_eq_decide.2 (by omega))
  rw[kdf (by omega:¬ (b.toNat:Int)≥128)];simp only[qD,kcf,qc];rw[kdf (by omega)]
theorem qnp (n:Nat) {l:List UInt8} {i:Nat} (h:l.length<=137438953472) (B:i<=l.length):Vk n l (i:Int)=some ((rI (l.drop i):Nat):Int):=by
 unfold Vk;by_cases he:i=l.length
 ·rw[kdt (by omega:(i:Int)≥((l.length:Nat):Int)),kct,List.drop_eq_nil_of_le (by omega)]
  rfl
 rw[kdf (by omega:¬ (i:Int)≥((l.length:Nat):Int)),kcf];have w:=jf (show i<l.length by omega);have z:l.drop i=l[i]::l.drop (i+1):=jo (by omega);generalize l[i]=c at w z;have t1:=qah n (i:=i+1) h;have t2:=qah n (i:=i+2) h;have t3:=qah n (i:=i+3) h;have g1:l[i+1]? =(l.drop (i+1))[0]?:=by rw[jE]
 have g2:l[i+2]? =(l.drop (i+1))[1]?:=by rw[jE]
 have g3:l[i+3]? =(l.drop (i+1))[2]?:=by rw[jE]
 rw[g1]at t1;rw[g2]at t2;rw[g3]at t3;rw[z];have w1:kwr .i64 ((i:Int)+1)=((i+1:Nat):Int):=qU (by omega);have w2:kwr .i64 ((i:Int)+2)=((i+2:Nat):Int):=by rw[UW (by omega) (by omega)]; omega
 have w3:kwr .i64 ((i:Int)+3)=((i+3:Nat):Int):=by rw[UW (by omega) (by omega)]; omega
 simp only[qf w,qc,w1,w2,w3,t1,t2,t3];generalize hT:l.drop (i+1)=t at *;rw[ZM];by_cases k:c.toNat<128
 ·rw[kdt (by omega:(c.toNat:Int)<128),kct,if_pos k]; rfl
 rw[kdf (by omega:¬ (c.toNat:Int)<128),kcf,if_neg k];by_cases g:c.toNat<194\/244<c.toNat
 ·rw[if_pos g]
  have:(bif decide ((c.toNat:Int)<194)then true else decide ((c.toNat:Int)>244))=true:=by
   rcases g with h|h
   ·rw[kdt (by omega:(c.toNat:Int)<194)]; rfl
   rw[kdt (by omega:(c.toNat:Int)>244)]; cases decide ((c.toNat:Int)<194)<;>rfl
  rw[this]; rfl
 rw[if_neg g];have:(bif decide ((c.toNat:Int)<194)then true else decide ((c.toNat:Int)>244))=false:=by
  rw[kdf (by omega:¬ (c.toNat:Int)<194),kdf (by omega:¬ (c.toNat:Int)>244)]; rfl
 rw[this];simp only[jp,zg,qc,kcf];cases t with
 | nil=>rfl
 | cons d t=>
  simp only[jd,je];cases A:ctB d with
  | false=>rfl
  | true=>
   simp only[jq,kcf,jR,if_false];have u:l[i+1]? =some d:=by rw[g1]; rfl
   by_cases m:c.toNat<224
   ·rw[kdt (by omega:(c.toNat:Int)<224),kct,if_pos m]; rfl
   rw[kdf (by omega:¬ (c.toNat:Int)<224),kcf,if_neg m,qf u,qc];cases t with
   | nil=>rfl
   | cons e t=>
    simp only[jd,je];have C:∀ (x y:Bool) (p q r s:Prop) [Decidable p] [Decidable q] [Decidable r] [Decidable s],True:=fun _ _ _ _ _ _=>trivial
    have v:(bif bif !ctB e then true else bif((c.toNat:Int)==224)then decide ((d.toNat:Int)<160)else false then true else bif((c.toNat:Int)==237)then decide ((d.toNat:Int)≥160)else false)=decide (ctB e=false\/(c.toNat=224/\d.toNat<160)\/(c.toNat=237/\160<=d.toNat)):=by
     cases ctB e with
     | false=>simp
     | true=>
      by_cases a:c.toNat=224
      ·have a2:((c.toNat:Int)==224)=true:=by rw[beq_iff_eq]; omega
       have a3:((c.toNat:Int)==237)=false:=by rw[kbf]; omega
       rw[a2,a3];simp only[jq,kcf,kct];by_cases b:d.toNat<160
       ·rw[kdt (by omega:(d.toNat:Int)<160),kdt (.inr (.inl ⟨a,b⟩))]; rfl
       rw[kdf (by omega:¬ (d.toNat:Int)<160),kdf (by rintro(h|⟨h,j⟩|⟨h,j⟩)<;>first|cases h; done|omega)]; rfl
      have a2:((c.toNat:Int)==224)=false:=by rw[kbf]; omega
      rw[a2];simp only[jq,kcf];by_cases b:c.toNat=237
      ·have b2:((c.toNat:Int)==237)=true:=by rw[beq_iff_eq]; omega
       rw[b2,kct];exact decide_eq_decide.2 ⟨fun h=>.inr (.inr ⟨b,by omega⟩),fun h=>by rcases h with h|⟨h,j⟩|⟨h,j⟩<;>first|cases h; done|omega⟩
      have b2:((c.toNat:Int)==237)=false:=by rw[kbf]; omega
      rw[b2,kcf,kdf (by rintro(h|⟨h,j⟩|⟨h,j⟩)<;>first|cases h; done|omega)]
    rw[v];by_cases hz:ctB e=false\/(c.toNat=224/\d.toNat<160)\/(c.toNat=237/\160<=d.toNat)
    ·rw[kdt hz,kct,if_pos hz]; rfl
    rw[kdf hz,kcf,if_neg hz];by_cases o:c.toNat<240
    ·rw[kdt (by omega:(c.toNat:Int)<240),kct,if_pos o]; rfl
    rw[kdf (by omega:¬ (c.toNat:Int)<240),kcf,if_neg o];cases t with
    | nil=>rfl
    | cons f t=>
     simp only[jd];have v:(bif bif !ctB f then true else bif((c.toNat:Int)==240)then decide ((d.toNat:Int)<144)else false then true else bif((c.toNat:Int)==244)then decide ((d.toNat:Int)≥144)else false)=decide (ctB f=false\/(c.toNat=240/\d.toNat<144)\/(c.toNat=244/\144<=d.toNat)):=by
      cases ctB f with
      | false=>simp
      | true=>
       by_cases a:c.toNat=240
       ·have a2:((c.toNat:Int)==240)=true:=by rw[beq_iff_eq]; omega
        have a3:((c.toNat:Int)==244)=false:=by rw[kbf]; omega
        rw[a2,a3];simp only[jq,kcf,kct];by_cases b:d.toNat<144
        ·rw[kdt (by omega:(d.toNat:Int)<144),kdt (.inr (.inl ⟨a,b⟩))]; rfl
        rw[kdf (by omega:¬ (d.toNat:Int)<144),kdf (by rintro(h|⟨h,j⟩|⟨h,j⟩)<;>first|cases h; done|omega)]; rfl
       have a2:((c.toNat:Int)==240)=false:=by rw[kbf]; omega
       rw[a2];simp only[jq,kcf];by_cases b:c.toNat=244
       ·have b2:((c.toNat:Int)==244)=true:=by rw[beq_iff_eq]; omega
        rw[b2,kct];exact decide_eq_decide.2 ⟨fun h=>.inr (.inr ⟨b,by omega⟩),fun h=>by rcases h with h|⟨h,j⟩|⟨h,j⟩<;>first|cases h; done|omega⟩
       have b2:((c.toNat:Int)==244)=false:=by rw[kbf]; omega
       rw[b2,kcf,kdf (by rintro(h|⟨h,j⟩|⟨h,j⟩)<;>first|cases h; done|omega)]
     rw[v];by_cases hz:ctB f=false\/(c.toNat=240/\d.toNat<144)\/(c.toNat=244/\144<=d.toNat)
     ·rw[kdt hz,kct,if_pos hz]; rfl
     rw[kdf hz,kcf,if_neg hz]; rfl
end W
end
section
open Go Ax
namespace W
def qoj (x:Nat):UInt8:=([48,49,50,51,52,53,54,55,56,57,97,98,99,100,101,102]:List UInt8).getD x 0
def lA (c:UInt8):List UInt8:=[qoj (c.toNat / 16),qoj (c.toNat % 16)]
def qbx:List UInt8->List UInt8
 | []=>[]
 | c::t=>
  if rI (c::t)=0\/c.toNat=127 then 92::120::lA c
  else if c.toNat=39\/c.toNat=92 then[92,c]
  else if c.toNat=10 then[92,110]
  else if c.toNat=9 then[92,116]
  else if c.toNat=13 then[92,114]
  else if c.toNat<32 then 92::120::lA c
  else(c::t).take (rI (c::t))
theorem By (c:UInt8) (t:List UInt8):qbx (c::t)=if rI (c::t)=0\/c.toNat=127 then 92::120::lA c
  else if c.toNat=39\/c.toNat=92 then[92,c]
  else if c.toNat=10 then[92,110]
  else if c.toNat=9 then[92,116]
  else if c.toNat=13 then[92,114]
  else if c.toNat<32 then 92::120::lA c
  else(c::t).take (rI (c::t)):=rfl
def LQ (s:List UInt8):Nat:=if rI s=0 then 1 else rI s
def Xl:Nat->List UInt8->List UInt8
 | 0,_=>[]
 | _+1,[]=>[]
 | g+1,c::t=>qbx (c::t)++Xl g ((c::t).drop (LQ (c::t)))
theorem RU (g:Nat):Xl g []=[]:=by cases g<;>rfl
def GQ (s:List UInt8):List UInt8:=39::(Xl s.length s++[39])
theorem LO (s:List UInt8):rI s<=4/\rI s<=s.length:=by
 cases s with
 | nil=>exact⟨by decide,by decide⟩
 | cons c t=>
  rw[ZM];split
  ·exact⟨by decide,by simp only[ja]; omega⟩
  split
  ·exact⟨by decide,by omega⟩
  cases t with
  | nil=>exact⟨jT _,jT _⟩
  | cons d t=>
   simp only;split
   ·exact⟨by decide,by omega⟩
   split
   ·exact⟨by decide,by simp only[ja]; omega⟩
   cases t with
   | nil=>exact⟨jT _,jT _⟩
   | cons e t=>
    simp only;split
    ·exact⟨by decide,by omega⟩
    split
    ·exact⟨by decide,by simp only[ja]; omega⟩
    cases t with
    | nil=>exact⟨jT _,jT _⟩
    | cons f t=>
     simp only;split
     ·exact⟨by decide,by omega⟩
     exact⟨by decide,by simp only[ja]; omega⟩
theorem LP {c:UInt8} {t:List UInt8} (h:c.toNat<128):rI (c::t)=1:=by rw[ZM,if_pos h]
theorem qhr {c:UInt8} {t:List UInt8}:1<=LQ (c::t)/\LQ (c::t)<=(c::t).length:=by
 have:=(LO (c::t)).2;unfold LQ;split
 ·simp
 omega
theorem qdf (s:List UInt8):(qbx s).length<=4:=by
 cases s with
 | nil=>simp[qbx]
 | cons c t=>
  have:=(LO (c::t)).1;have a:(lA c).length=2:=rfl;rw[By]
  repeat' split
  all_goals simp only[ja,jc,ju,a]
  all_goals omega
theorem RT:∀ (g:Nat) (s:List UInt8),(Xl g s).length<=4 * g
 | 0,s=>by simp[Xl]
 | g+1,[]=>by simp[Xl]
 | g+1,c::t=>by
  have h1:=qdf (c::t);have h2:=RT g ((c::t).drop (LQ (c::t)));simp only[Xl,jb];omega
theorem og:∀ m:Fin 256,Vl 0 ((m.val:Nat):Int)=some [qoj (m.val / 16),qoj (m.val % 16)] /\
  idx ([48,49,50,51,52,53,54,55,56,57,97,98,99,100,101,102]:List UInt8) (Int.fdiv ((m.val:Nat):Int) (2 ^ (min (Int.toNat (4:Int)) (kbt .u8))))=some (qoj (m.val / 16)) /\
  idx ([48,49,50,51,52,53,54,55,56,57,97,98,99,100,101,102]:List UInt8) (kwr .u8 (((js (kbt .u8) ((m.val:Nat):Int) &&& js (kbt .u8) (15:Int)).toNat:Nat):Int))=some (qoj (m.val % 16)):=by decide +kernel
theorem qlv (n:Nat) (c:UInt8):Vl n ((c.toNat:Nat):Int)=some (lA c):=(og ⟨c.toNat,c.toNat_lt⟩).1
theorem qbv:(∀ x:Fin 32,u8I (kwr .u8 (((js (kbt .u8) (192:Int) ||| js (kbt .u8) ((x.val:Nat):Int)).toNat:Nat):Int))=some (UInt8.ofNat (192+x.val))) /\
  (∀ x:Fin 16,u8I (kwr .u8 (((js (kbt .u8) (224:Int) ||| js (kbt .u8) ((x.val:Nat):Int)).toNat:Nat):Int))=some (UInt8.ofNat (224+x.val))) /\
  (∀ x:Fin 8,u8I (kwr .u8 (((js (kbt .u8) (240:Int) ||| js (kbt .u8) ((x.val:Nat):Int)).toNat:Nat):Int))=some (UInt8.ofNat (240+x.val))) /\
  (∀ y:Fin 256,u8I (kwr .u8 (((js (kbt .u8) (128:Int) ||| js (kbt .u8) (kwr .u8 (((js (kbt .u8) ((y.val:Nat):Int) &&& js (kbt .u8) (63:Int)).toNat:Nat):Int))).toNat:Nat):Int))=some (UInt8.ofNat (128+y.val % 64))):=by decide +kernel
theorem qrq {x:Nat} (h:x<32):u8I (kwr .u8 (((js (kbt .u8) (192:Int) ||| js (kbt .u8) ((x:Nat):Int)).toNat:Nat):Int))=some (UInt8.ofNat (192+x)):=qbv.1 ⟨x,h⟩
theorem qrr {x:Nat} (h:x<16):u8I (kwr .u8 (((js (kbt .u8) (224:Int) ||| js (kbt .u8) ((x:Nat):Int)).toNat:Nat):Int))=some (UInt8.ofNat (224+x)):=qbv.2.1 ⟨x,h⟩
theorem qrs {x:Nat} (h:x<8):u8I (kwr .u8 (((js (kbt .u8) (240:Int) ||| js (kbt .u8) ((x:Nat):Int)).toNat:Nat):Int))=some (UInt8.ofNat (240+x)):=qbv.2.2.1 ⟨x,h⟩
theorem qok {y:Nat} (h:y<256):u8I (kwr .u8 (((js (kbt .u8) (128:Int) ||| js (kbt .u8) (kwr .u8 (((js (kbt .u8) ((y:Nat):Int) &&& js (kbt .u8) (63:Int)).toNat:Nat):Int))).toNat:Nat):Int))=some (UInt8.ofNat (128+y % 64)):=qbv.2.2.2 ⟨y,h⟩
theorem fdn (r k:Nat):Int.fdiv (r:Int) ((k:Nat):Int)=((r / k:Nat):Int):=by
 rw[Int.fdiv_eq_ediv_of_nonneg _ (by omega)]; rfl
theorem fd6 (r:Nat):Int.fdiv (r:Int) (2 ^ (min (Int.toNat (6:Int)) (kbt .i32)))=((r / 64:Nat):Int):=fdn r 64
theorem qrd (r:Nat):Int.fdiv (r:Int) (2 ^ (min (Int.toNat (12:Int)) (kbt .i32)))=((r / 4096:Nat):Int):=fdn r 4096
theorem qro (r:Nat):Int.fdiv (r:Int) (2 ^ (min (Int.toNat (18:Int)) (kbt .i32)))=((r / 262144:Nat):Int):=fdn r 262144
theorem u8w (r:Nat):kwr .u8 (r:Int)=((r % 256:Nat):Int):=by
 show(r:Int) % (2 ^ 8:Int)=_;omega
theorem qri {r:Nat} (h:r<4294967296):kwr .u32 (r:Int)=(r:Int):=by
 show(r:Int) % (2 ^ 32:Int)=_;omega
theorem bOf {m:Nat} {c:UInt8} (h:m=c.toNat):UInt8.ofNat m=c:=by subst h; exact UInt8.ofNat_toNat
theorem qai (l:List UInt8) (i k:Nat):(l.take (i+k)).drop i=(l.drop i).take k:=by
 rw[List.drop_take,Nat.add_sub_cancel_left]
section
variable {n:Nat} {l:List UInt8} (hl:8 * l.length+64<=137438953472)
include hl
theorem qj2:∀ (g i f:Nat) (acc:List UInt8),i<=l.length->l.length - i<=g->l.length - i<f->acc.length+4 * (l.length - i)<=4 * l.length+16 ->
  qo (vL n l) f (acc,(i:Int))=some (acc++(Xl g (l.drop i)++[39])):=by
 intro g
 induction g with
 | zero=>
  intro i f acc A E F G;obtain⟨f,rfl⟩:=jk (by omega:f≠0);have:i=l.length:=by omega
  subst this;rw[qO];generalize qo (vL n l) f=nx;unfold vL
  dsimp only
  rw[qm,kcf];rw[zH (da (by simp only[ja,jc]; omega))];rfl
 | succ g ih=>
  intro i f acc A E F G;obtain⟨f,rfl⟩:=jk (by omega:f≠0);rw[qO];by_cases he:i=l.length
  ·subst he
   rw[List.drop_length,RU];generalize qo (vL n l) f=nx;unfold vL
   dsimp only
   rw[qm,kcf];rw[zH (da (by simp only[ja,jc]; omega))];rfl
  have q:i<l.length:=by omega
  have H:=jf q;have s:l.drop i=l[i]::l.drop (i+1):=jo q;have u:=qnp n (l:=l) (i:=i) (by omega) A;have B:=qhr (c:=l[i]) (t:=l.drop (i+1));have b:=LO (l[i]::l.drop (i+1));have a:∀ (p:List UInt8) (j:Nat),p.length<=4->j=i+LQ (l[i]::l.drop (i+1))->qo (vL n l) f (acc++p,(j:Int))=some (acc++(p++Xl g ((l[i]::l.drop (i+1)).drop (LQ (l[i]::l.drop (i+1))))++[39])):=by
   intro p j hp I;subst I;have hlen:(l[i]::l.drop (i+1)).length=l.length - i:=by rw[← s,jN]
   rw[ih (i+LQ (l[i]::l.drop (i+1))) f (acc++p) (by omega) (by omega) (by omega) (by rw[jb]; omega)];rw[← s,List.drop_drop];simp
  rw[s]at u;rw[s,Xl];have hlen:(l[i]::l.drop (i+1)).length=l.length - i:=by rw[← s,jN]
  have v:∀ k,(l.take (i+k)).drop i=(l[i]::l.drop (i+1)).take k:=fun k=>by rw[qai,s]
  generalize l[i]=c at *;generalize l.drop (i+1)=t at *;generalize qo (vL n l) f=nx at a ⊢;unfold vL
  dsimp only[uh]
  rw[qx q,kct,u,qc,qf H,qc];rw[By];have d:∀ k:Nat,k<=4->kwr .i64 ((i:Int)+((k:Nat):Int))=((i+k:Nat):Int):=fun k J=>by rw[UW (by omega) (by omega)]; omega
  have w:(lA c).length=2:=rfl;by_cases o:rI (c::t)=0\/c.toNat=127
  ·rw[if_pos o]
   have r:(bif((rI (c::t):Nat):Int)==0 then true else((c.toNat:Nat):Int)==127)=true:=by
    rcases o with h|h
    ·rw[h]; rfl
    rw[h]; cases(((rI (c::t):Nat):Int)==0)<;>rfl
   have e:LQ (c::t)=1:=by
    unfold LQ;rcases o with h|h
    ·rw[if_pos h]
    rw[LP (by omega)]; rfl
   rw[r,kct,zH (da (by simp only[ja,jc]; omega)),qlv,qc,zH (da (by simp only[jb,ja,jc]; omega))];rw[show kwr .i64 ((i:Int)+1)=((i+1:Nat):Int)from d 1 (by omega)];rw[show(acc++[92,120])++lA c=acc++(92::120::lA c)from by simp,a _ (i+1) (by simp[w]) (by rw[e])]
  rw[if_neg o];simp only[not_or]at o;obtain⟨o,C⟩:=o;have e:LQ (c::t)=rI (c::t):=by unfold LQ; rw[if_neg o]
  have r:(bif((rI (c::t):Nat):Int)==0 then true else((c.toNat:Nat):Int)==127)=false:=by
   rw[show(((rI (c::t):Nat):Int)==0)=false from by rw[kbf]; omega,show(((c.toNat:Nat):Int)==127)=false from by rw[kbf]; omega]; rfl
  rw[r,kcf];by_cases m:c.toNat=39\/c.toNat=92
  ·rw[if_pos m]
   have h1:rI (c::t)=1:=LP (by omega);have r:(bif((c.toNat:Nat):Int)==39 then true else((c.toNat:Nat):Int)==92)=true:=by
    rcases m with h|h<;>rw[h]<;>rfl
   rw[r,kct,zH (da (by simp only[ja,jc]; omega)),show kwr .i64 ((i:Int)+1)=((i+1:Nat):Int)from d 1 (by omega),natI_nat,qc,natI_nat,qc,zH (kdt ⟨by omega,by omega⟩),v 1];rw[show(c::t).take 1=[c]from rfl,zH (da (by simp only[jb,ja,jc]; omega)),d _ b.1];rw[show(acc++[92])++[c]=acc++[92,c]from by simp,a _ (i+rI (c::t)) (by simp) (by rw[e])]
  rw[if_neg m];simp only[not_or]at m;have r:(bif((c.toNat:Nat):Int)==39 then true else((c.toNat:Nat):Int)==92)=false:=by
   rw[show(((c.toNat:Nat):Int)==39)=false from by rw[kbf]; omega,show(((c.toNat:Nat):Int)==92)=false from by rw[kbf]; omega]; rfl
  rw[r,kcf];by_cases x:c.toNat=10
  ·rw[if_pos x,show(((c.toNat:Nat):Int)==10)=true from by rw[beq_iff_eq]; omega,kct,zH (da (by simp only[ja,jc]; omega)),d _ b.1,a _ (i+rI (c::t)) (by simp) (by rw[e])]
  rw[if_neg x,show(((c.toNat:Nat):Int)==10)=false from by rw[kbf]; omega,kcf];by_cases D:c.toNat=9
  ·rw[if_pos D,show(((c.toNat:Nat):Int)==9)=true from by rw[beq_iff_eq]; omega,kct,zH (da (by simp only[ja,jc]; omega)),d _ b.1,a _ (i+rI (c::t)) (by simp) (by rw[e])]
  rw[if_neg D,show(((c.toNat:Nat):Int)==9)=false from by rw[kbf]; omega,kcf];by_cases y:c.toNat=13
  ·rw[if_pos y,show(((c.toNat:Nat):Int)==13)=true from by rw[beq_iff_eq]; omega,kct,zH (da (by simp only[ja,jc]; omega)),d _ b.1,a _ (i+rI (c::t)) (by simp) (by rw[e])]
  rw[if_neg y,show(((c.toNat:Nat):Int)==13)=false from by rw[kbf]; omega,kcf];by_cases z:c.toNat<32
  ·rw[if_pos z,kdt (by omega:((c.toNat:Nat):Int)<32),kct,zH (da (by simp only[ja,jc]; omega)),qlv,qc,zH (da (by simp only[jb,ja,jc]; omega)),d _ b.1]
   rw[show(acc++[92,120])++lA c=acc++(92::120::lA c)from by simp,a _ (i+rI (c::t)) (by simp[w]) (by rw[e])]
  rw[if_neg z,kdf (by omega:¬ ((c.toNat:Nat):Int)<32),kcf,d _ b.1,natI_nat,qc,natI_nat,qc,zH (kdt ⟨by omega,by omega⟩),v,zH (da (by rw[ju]; omega))];rw[a _ (i+rI (c::t)) (by rw[ju]; omega) (by rw[e])]
theorem NK (a:l.length<n):nz n l=some (GQ l):=by
 unfold nz GQ;have:=qj2 (n:=n) hl l.length 0 n [39] (by omega) (by omega) (by omega) (by simp only[ja,jc]; omega);exact this
end
end W
end
section
open Go Ax
namespace W
theorem qgz (n:Nat) (s p:List UInt8):gj n s p=some (decide (p.length<=s.length)&&s.take p.length==p):=by
 unfold gj vg;by_cases h:p.length<=s.length
 ·rw[kdt (by omega:((s.length:Nat):Int)≥((p.length:Nat):Int)),kdt h]
  simp only[natI_nat,zg,qc,kct];rw[zH (kdt h)];rfl
 rw[kdf (by omega:¬ ((s.length:Nat):Int)≥((p.length:Nat):Int)),kdf h];rfl
theorem qi4 {c:UInt8} {t:List UInt8} {k:Nat} (a:rI (c::t)=k+2):∃ r:Nat,eY (c::t)=(r,k+2)/\128<=r/\r<=1114111/\194<=c.toNat /\
  ((k=0/\r<=2047/\(c::t).take 2=[UInt8.ofNat (192+r / 64 % 256),UInt8.ofNat (128+r % 256 % 64)]) \/
   (k=1/\2048<=r/\r<=65535/\(r<55296\/57343<r)/\(c::t).take 3=[UInt8.ofNat (224+r / 4096 % 256),UInt8.ofNat (128+r / 64 % 256 % 64),UInt8.ofNat (128+r % 256 % 64)]/\(r=65533->(c::t).take 3=[239,191,189])) \/
   (k=2/\65536<=r/\(c::t).take 4=[UInt8.ofNat (240+r / 262144 % 256),UInt8.ofNat (128+r / 4096 % 256 % 64),UInt8.ofNat (128+r / 64 % 256 % 64),UInt8.ofNat (128+r % 256 % 64)])):=by
 rw[ZM]at a;split at a
 ·omega
 rename_i s;split at a
 ·omega
 rename_i u;cases t with
 | nil=>cases a
 | cons d t=>
  simp only at a;split at a
  ·omega
  rename_i b;simp only[Bool.not_eq_false]at b;have A:=sO.1 b;have v:=d.toNat_lt;split at a
  ·rename_i i
   obtain rfl:k=0:=by omega
   refine⟨_,qo4 (by omega) i b,by omega,by omega,by omega,.inl ⟨rfl,by omega,?_⟩⟩;rw[bOf (c:=c) (by omega),bOf (c:=d) (by omega)];rfl
  rename_i i;cases t with
  | nil=>cases a
  | cons e t=>
   simp only at a;split at a
   ·omega
   rename_i g;simp only[not_or,Bool.not_eq_false]at g;obtain⟨m,w,x⟩:=g;have he:=sO.1 m;have y:=e.toNat_lt;split at a
   ·rename_i j
    obtain rfl:k=1:=by omega
    refine⟨_,qo5 (by omega) j b m w x,by omega,by omega,by omega,.inr (.inl ⟨rfl,by omega,by omega,by omega,?_,fun h=>?_⟩)⟩
    ·rw[bOf (c:=c) (by omega),bOf (c:=d) (by omega),bOf (c:=e) (by omega)]
     rfl
    have e1:c=239:=jU.1 (by show c.toNat=239; omega);have e2:d=191:=jU.1 (by show d.toNat=191; omega);have e3:e=189:=jU.1 (by show e.toNat=189; omega);rw[e1,e2,e3];rfl
   rename_i j;cases t with
   | nil=>cases a
   | cons f t=>
    simp only at a;split at a
    ·omega
    rename_i g;simp only[not_or,Bool.not_eq_false]at g;obtain⟨o,p,q⟩:=g;have B:=sO.1 o;have z:=f.toNat_lt;obtain rfl:k=2:=by omega
    refine⟨_,qo6 (by omega) (by omega) b m o p q,by omega,by omega,by omega,.inr (.inr ⟨rfl,by omega,?_⟩)⟩;rw[bOf (c:=c) (by omega),bOf (c:=d) (by omega),bOf (c:=e) (by omega),bOf (c:=f) (by omega)];rfl
theorem qki {t:List UInt8}:rI ((239:UInt8)::191::189::t)=3:=rfl
theorem qqs {s:List UInt8} (h:s.length<=137438953472):decide ((qT s).length * 1<=140737488355328)=true:=kdt (by rw[lh]; omega)
section
variable {n:Nat} {l:List UInt8} (hl:8 * l.length+64<=137438953472)
include hl
theorem qhl:∀ (g i f:Nat) (acc:List UInt8),i<=l.length->l.length - i<=g->l.length - i<f->acc.length+4 * (l.length - i)<=4 * l.length+16 ->
  qo (uv n l) f (acc,i)=some (acc++(Xl g (l.drop i)++[39])):=by
 intro g;have G:∀ (acc:List UInt8) (O:List UInt8×Nat->Option (List UInt8)),acc.length<=4 * l.length+16->uv n l O (acc,l.length)=some (acc++[39]):=by
  intro acc O ha;unfold uv
  dsimp only
  rw[kdf (jS _),kcf,zH (qqs (by rw[jb]; simp only[ja,jc]; omega))]
 induction g with
 | zero=>
  intro i f acc hi hg hf ha;obtain⟨f,rfl⟩:=jk (by omega:f≠0);have:i=l.length:=by omega
  subst this;rw[qO,G acc _ (by omega)];rfl
 | succ g ih=>
  intro i f acc hi hg hf ha;obtain⟨f,rfl⟩:=jk (by omega:f≠0);rw[qO];by_cases he:i=l.length
  ·subst he
   rw[List.drop_length,RU,G acc _ (by omega)];rfl
  have y:i<l.length:=by omega
  have hx:=jf y;have H:l.drop i=l[i]::l.drop (i+1):=jo y;have hstp:=qhr (c:=l[i]) (t:=l.drop (i+1));have P:=LO (l[i]::l.drop (i+1));have hlen:(l[i]::l.drop (i+1)).length=l.length - i:=by rw[← H,jN]
  have q:∀ (p:List UInt8) (j:Nat),p.length<=4->j=i+LQ (l[i]::l.drop (i+1))->qo (uv n l) f (acc++p,j)=some (acc++(p++Xl g ((l[i]::l.drop (i+1)).drop (LQ (l[i]::l.drop (i+1))))++[39])):=by
   intro p j hp hj;subst hj;rw[ih (i+LQ (l[i]::l.drop (i+1))) f (acc++p) (by omega) (by omega) (by omega) (by rw[jb]; omega)];rw[← H,List.drop_drop];simp
  have I:qP l i=(eY (l[i]::l.drop (i+1))).1:=by unfold qP; rw[qlq,H]
  have J:xG l i=i+(eY (l[i]::l.drop (i+1))).2:=by unfold xG; rw[qlq,H]
  have z:=qgz n (l.drop i) [239,191,189];rw[H]at z ⊢;rw[Xl];generalize hcc:l[i]=c at *;generalize htt:l.drop (i+1)=t at *;generalize qo (uv n l) f=O at q ⊢;have hhl:(lA c).length=2:=rfl;have L:=c.toNat_lt;have w:∀ p:List UInt8,p.length<=8->decide ((qT (acc++p)).length * 1<=140737488355328)=true:=fun p hp=>qqs (by rw[jb]; omega)
  have Q:=(og ⟨c.toNat,L⟩).2.1;have R:=(og ⟨c.toNat,L⟩).2.2;simp only at Q R;have A:∀ j,j=i+LQ (c::t)->(chk (decide ((qT (acc++([92,120]:List UInt8))).length * 1<=140737488355328)) (
    bnd (idx ([48,49,50,51,52,53,54,55,56,57,97,98,99,100,101,102]:List UInt8) (Int.fdiv ((c.toNat:Nat):Int) (2 ^ (min (Int.toNat (4:Int)) (kbt .u8))))) fun a=>
    chk (decide ((qT ((acc++([92,120]:List UInt8))++[a])).length * 1<=140737488355328)) (
    bnd (idx ([48,49,50,51,52,53,54,55,56,57,97,98,99,100,101,102]:List UInt8) (kwr .u8 (((js (kbt .u8) ((c.toNat:Nat):Int) &&& js (kbt .u8) (15:Int)).toNat:Nat):Int))) fun m=>
    chk (decide ((qT (((acc++([92,120]:List UInt8))++[a])++[m])).length * 1<=140737488355328)) (
    O ((((acc++([92,120]:List UInt8))++[a])++[m]),j)))))=some (acc++(92::120::lA c++Xl g ((c::t).drop (LQ (c::t)))++[39])):=by
   intro j hj;rw[zH (w _ (by simp)),Q,qc,jt,zH (w _ (by simp)),R,qc,jt,zH (w _ (by simp))];exact q (92::120::lA c) j (by simp[hhl]) hj
  unfold uv
  dsimp only
  rw[kdt y,kct,kct,I,J,By];have S:idx l ((i:Nat):Int)=some c:=qf hx;by_cases D:rI (c::t)=0
  ·
   have u:128<=c.toNat:=Decidable.byContradiction fun h=>by rw[LP (by omega)]at D; cases D
   have hnp:(decide ((([239,191,189]:List UInt8).length)<=(c::t).length)&&(c::t).take (([239,191,189]:List UInt8).length)==([239,191,189]:List UInt8))=false:=by
    cases x:(decide ((([239,191,189]:List UInt8).length)<=(c::t).length)&&(c::t).take (([239,191,189]:List UInt8).length)==([239,191,189]:List UInt8))with
    | false=>rfl
    | true=>
     exfalso;simp only[jj,kde,beq_iff_eq]at x;have e:=x.2
     match t,x.1 with
     | d::e'::t',_=>
      simp only[ja,jc,List.take_succ_cons,List.take_zero,List.cons.injEq,and_true]at e;obtain⟨rfl,rfl,rfl⟩:=e;rw[qki]at D;cases D
   have s:LQ (c::t)=1:=by unfold LQ; rw[if_pos D]
   rw[if_pos (.inl D),qo3 u D];simp only;rw[show(bif(((65533:Nat):Int)==92)then true else(((65533:Nat):Int)==39))=false from rfl,kcf,show(((65533:Nat):Int)==10)=false from rfl,kcf,show(((65533:Nat):Int)==9)=false from rfl,kcf,show(((65533:Nat):Int)==13)=false from rfl,kcf];rw[show((!(bif decide (((65533:Nat):Int)<32)then true else(((65533:Nat):Int)==127)))&&(((65533:Nat):Int)==65533))=true from rfl,natI_nat,zg,qc,kct,zH (kdt hi),H,z,hnp,zg,qc];rw[show(bif(bif decide (((65533:Nat):Int)<32)then true else(((65533:Nat):Int)==127))then true else(bif(((65533:Nat):Int)==65533)then(!false)else false))=true from rfl,kct,S,qc];exact A _ (by rw[s])
  by_cases u:c.toNat<128
  ·have h1:rI (c::t)=1:=LP u
   have s:LQ (c::t)=1:=by unfold LQ; rw[if_neg D,h1]
   have hu:kwr .u32 ((c.toNat:Nat):Int)=((c.toNat:Nat):Int):=qri (by omega);have T:u8I (kwr .u8 ((c.toNat:Nat):Int))=some c:=by rw[u8w,Nat.mod_eq_of_lt L]; exact TZ c
   rw[qmn u];simp only;rw[hu];by_cases M:c.toNat=39\/c.toNat=92
   ·rw[if_neg (by omega),if_pos M]
    rw[show(bif(((c.toNat:Nat):Int)==92)then true else(((c.toNat:Nat):Int)==39))=true from by rcases M with h|h<;>rw[h]<;>rfl,kct,zH (w _ (by simp)),kdt (by omega:((c.toNat:Nat):Int)<=127),kct,T,qc,jt,zH (w _ (by simp))]
    exact q [92,c] _ (by simp) (by rw[s])
   simp only[not_or]at M;rw[show(bif(((c.toNat:Nat):Int)==92)then true else(((c.toNat:Nat):Int)==39))=false from by
    rw[show(((c.toNat:Nat):Int)==92)=false from by rw[kbf]; omega,show(((c.toNat:Nat):Int)==39)=false from by rw[kbf]; omega]; rfl,kcf]
   by_cases v:c.toNat=10
   ·rw[if_neg (by omega),if_neg (by omega),if_pos v,show(((c.toNat:Nat):Int)==10)=true from by rw[v]; rfl,kct,zH (w _ (by simp))]
    exact q [92,110] _ (by simp) (by rw[s])
   rw[show(((c.toNat:Nat):Int)==10)=false from by rw[kbf]; omega,kcf];by_cases U:c.toNat=9
   ·rw[if_neg (by omega),if_neg (by omega),if_neg v,if_pos U,show(((c.toNat:Nat):Int)==9)=true from by rw[U]; rfl,kct,zH (w _ (by simp))]
    exact q [92,116] _ (by simp) (by rw[s])
   rw[show(((c.toNat:Nat):Int)==9)=false from by rw[kbf]; omega,kcf];by_cases E:c.toNat=13
   ·rw[if_neg (by omega),if_neg (by omega),if_neg v,if_neg U,if_pos E,show(((c.toNat:Nat):Int)==13)=true from by rw[E]; rfl,kct,zH (w _ (by simp))]
    exact q [92,114] _ (by simp) (by rw[s])
   rw[show(((c.toNat:Nat):Int)==13)=false from by rw[kbf]; omega,kcf];have F:(((c.toNat:Nat):Int)==65533)=false:=by rw[kbf]; omega
   rw[F,Bool.and_false];simp only[qD,kcf,qc];rw[zH (by rfl:true=true)];by_cases N:c.toNat<32\/c.toNat=127
   ·rw[show(bif(bif decide (((c.toNat:Nat):Int)<32)then true else(((c.toNat:Nat):Int)==127))then true else false)=true from by
     rcases N with h|h
     ·rw[kdt (by omega:((c.toNat:Nat):Int)<32)]; rfl
     rw[h]; rfl,kct,S,qc]
    have hpc:(if rI (c::t)=0\/c.toNat=127 then 92::120::lA c
      else if c.toNat=39\/c.toNat=92 then[92,c]
      else if c.toNat=10 then[92,110]
      else if c.toNat=9 then[92,116]
      else if c.toNat=13 then[92,114]
      else if c.toNat<32 then 92::120::lA c
      else(c::t).take (rI (c::t)))=92::120::lA c:=by
     by_cases V:c.toNat=127
     ·rw[if_pos (.inr V)]
     rw[if_neg (by omega),if_neg (by omega),if_neg v,if_neg U,if_neg E,if_pos (by omega)]
    rw[hpc];exact A _ (by rw[s])
   simp only[not_or]at N;rw[show(bif(bif decide (((c.toNat:Nat):Int)<32)then true else(((c.toNat:Nat):Int)==127))then true else false)=false from by
    rw[kdf (by omega:¬ ((c.toNat:Nat):Int)<32),show(((c.toNat:Nat):Int)==127)=false from by rw[kbf]; omega]; rfl,kcf]
   rw[kdt (by omega:((c.toNat:Nat):Int)<=127),kct,T,qc,zH (w _ (by simp))];rw[if_neg (by omega),if_neg (by omega),if_neg v,if_neg U,if_neg E,if_neg N.1,h1];exact q [c] _ (by simp) (by rw[s])
  
  have h1:rI (c::t)≠1:=fun h=>by
   rw[ZM,if_neg u]at h;split at h
   ·cases h
   split at h
   ·cases h
   split at h
   ·cases h
   split at h
   ·cases h
   split at h
   ·cases h
   split at h
   ·cases h
   split at h
   ·cases h
   split at h
   ·cases h
   split at h<;>cases h
  obtain⟨k,hk⟩:∃ k,rI (c::t)=k+2:=⟨rI (c::t) - 2,by omega⟩;obtain⟨r,hr,hr128,hrm,hc194,B⟩:=qi4 hk;have s:LQ (c::t)=k+2:=by unfold LQ; rw[if_neg D,hk]
  have hu:kwr .u32 ((r:Nat):Int)=((r:Nat):Int):=qri (by omega);rw[hr];simp only;rw[hu];rw[if_neg (by omega),if_neg (by omega),if_neg (by omega),if_neg (by omega),if_neg (by omega),if_neg (by omega),hk];rw[show(bif(((r:Nat):Int)==92)then true else(((r:Nat):Int)==39))=false from by
   rw[show(((r:Nat):Int)==92)=false from by rw[kbf]; omega,show(((r:Nat):Int)==39)=false from by rw[kbf]; omega]; rfl,kcf,show(((r:Nat):Int)==10)=false from by rw[kbf]; omega,kcf,show(((r:Nat):Int)==9)=false from by rw[kbf]; omega,kcf,show(((r:Nat):Int)==13)=false from by rw[kbf]; omega,kcf]
  have X:(bif decide (((r:Nat):Int)<32)then true else(((r:Nat):Int)==127))=false:=by
   rw[kdf (by omega:¬ ((r:Nat):Int)<32),show(((r:Nat):Int)==127)=false from by rw[kbf]; omega]; rfl
  rw[X];have hgo:∀ (K:Option (List UInt8)) (C:UInt8->Option (List UInt8)),(bnd (qD ((!false)&&(((r:Nat):Int)==65533)) (LL ((i:Nat):Int))) fun b=>
    chk (bif((!false)&&(((r:Nat):Int)==65533))then decide (b<=l.length)else true) (
    bnd (qD ((!false)&&(((r:Nat):Int)==65533)) (gj n (l.drop b) ([239,191,189]:List UInt8))) fun o=>
    bif(bif false then true else(bif(((r:Nat):Int)==65533)then(!o)else false))then(bnd (idx l ((i:Nat):Int)) C)else K))=K:=by
   intro K C;by_cases F:r=65533
   ·have hp3:(decide ((([239,191,189]:List UInt8).length)<=(c::t).length)&&(c::t).take (([239,191,189]:List UInt8).length)==([239,191,189]:List UInt8))=true:=by
     rcases B with ⟨_,h,_⟩|⟨hk1,_,_,_,_,h⟩|⟨_,h,_⟩
     ·omega
     ·have h3:=h F
      have Y:=P.2;rw[hk,hk1]at Y;simp only[jj,kde,beq_iff_eq];exact⟨Y,h3⟩
     omega
    subst F;rw[show((!false)&&(((65533:Nat):Int)==65533))=true from rfl,natI_nat,zg,qc,kct,zH (kdt hi),H,z,hp3,zg,qc];rfl
   have:(((r:Nat):Int)==65533)=false:=by rw[kbf]; omega
   rw[this];rfl
  rw[hgo];rw[kdf (by omega:¬ ((r:Nat):Int)<=127),kcf];rcases B with ⟨rfl,Z,x⟩|⟨rfl,Z,hr2,hr3,x,_⟩|⟨rfl,Z,x⟩
  ·rw[kdt (by omega:((r:Nat):Int)<=2047),kct,fd6,u8w (r / 64),qrq (by omega),qc,u8w r,qok (by omega),qc,zH (w _ (by simp))]
   have:=q ((c::t).take 2) (i+(0+2)) (by rw[ju]; omega) (by rw[s]);rw[x]at this;rw[show(c::t).take (0+2)=[UInt8.ofNat (192+r / 64 % 256),UInt8.ofNat (128+r % 256 % 64)]from x];exact this
  ·rw[kdf (by omega:¬ ((r:Nat):Int)<=2047),kcf]
   have hk6:fP n l i acc O true=some (acc++((c::t).take (1+2)++Xl g ((c::t).drop (LQ (c::t)))++[39])):=by
    unfold fP;rw[kct,kdt y,kct,I,J,hr]
    dsimp only
    rw[qrd,u8w (r / 4096),qrr (by omega),qc,fd6,u8w (r / 64),qok (by omega),qc,u8w r,qok (by omega),qc,zH (w _ (by simp))];have:=q ((c::t).take 3) (i+(1+2)) (by rw[ju]; omega) (by rw[s]);rw[x]at this;rw[show(c::t).take (1+2)=[UInt8.ofNat (224+r / 4096 % 256),UInt8.ofNat (128+r / 64 % 256 % 64),UInt8.ofNat (128+r % 256 % 64)]from x];exact this
   by_cases hs:r<55296
   ·rw[kdt (by omega:((r:Nat):Int)<55296),kct]
    exact hk6
   rw[kdf (by omega:¬ ((r:Nat):Int)<55296),kcf,kdt (by omega:(57343:Int)<((r:Nat):Int)),kct,kdt (by omega:((r:Nat):Int)<=65535)];exact hk6
  rw[kdf (by omega:¬ ((r:Nat):Int)<=2047),kcf,kdf (by omega:¬ ((r:Nat):Int)<55296),kcf,kdt (by omega:(57343:Int)<((r:Nat):Int)),kct,kdf (by omega:¬ ((r:Nat):Int)<=65535)];unfold fP;rw[kcf,kdt y,kct,I,J,hr]
  dsimp only
  rw[hu,kdt (by omega:((r:Nat):Int)>65535),kct,kdt (by omega:((r:Nat):Int)<=1114111),kct];rw[qro,u8w (r / 262144),qrs (by omega),qc,qrd,u8w (r / 4096),qok (by omega),qc,fd6,u8w (r / 64),qok (by omega),qc,u8w r,qok (by omega),qc,zH (w _ (by simp))];have:=q ((c::t).take 4) (i+(2+2)) (by rw[ju]; omega) (by rw[s]);rw[x]at this;rw[show(c::t).take (2+2)=[UInt8.ofNat (240+r / 262144 % 256),UInt8.ofNat (128+r / 4096 % 256 % 64),UInt8.ofNat (128+r / 64 % 256 % 64),UInt8.ofNat (128+r % 256 % 64)]from x];exact this
theorem EY (a:l.length<n):bA n l=some (GQ l):=by
 unfold bA GQ;rw[zH (qqs (by simp))];have:=qhl (n:=n) hl l.length 0 n [39] (by omega) (by omega) (by omega) (by simp only[ja,jc]; omega);exact this
end
end W
end
section
open Go Ax
namespace W
def Xp (s:List UInt8):Bool:=bif(!(s==([]:List UInt8)))then decide (((s.length:Nat):Int)<=64)else false
theorem zD (n:Nat) (s:List UInt8):bT n s=some (Xp s):=rfl
theorem zU (n:Nat) (s:List UInt8):gx n s=some (Xp s):=by
 unfold gx Xp;cases s with
 | nil=>rfl
 | cons a s=>rw[kdt (by simp only[ja]; omega)]; rfl
def qio (a:List UInt8):Bool:=(bif(bif(bif(bif(a==([99,111,117,110,116]:List UInt8))then true else(a==([115,117,109]:List UInt8)))then true else(a==([109,105,110]:List UInt8)))then true else(a==([109,97,120]:List UInt8)))then true else(a==([99,111,108,108,101,99,116]:List UInt8)))
theorem zt (n:Nat) (s:List UInt8):nA n s=some (qio s):=rfl
theorem zb (n:Nat) (s:List UInt8):fE n s=some (qio s):=by
 unfold fE xW qio;generalize (s==([99,111,117,110,116]:List UInt8))=a;generalize (s==([115,117,109]:List UInt8))=b;generalize (s==([109,105,110]:List UInt8))=c;generalize (s==([109,97,120]:List UInt8))=d;generalize (s==([99,111,108,108,101,99,116]:List UInt8))=e;cases a<;>cases b<;>cases c<;>cases d<;>cases e<;>rfl
def ql0 (s:List UInt8):Int:=(rz 0 s).getD 0
theorem zG (n:Nat) (s:List UInt8):rz n s=some (ql0 s):=rfl
theorem xg (n:Nat) (s:List UInt8):ZS n s=some (ql0 s):=by
 by_cases h1:s=[79,82]; · subst h1; rfl
 by_cases h2:s=[88,79,82]; · subst h2; rfl
 by_cases h3:s=[65,78,68]; · subst h3; rfl
 by_cases h4:s=[61]; · subst h4; rfl
 by_cases g:s=[60,62]; · subst g; rfl
 by_cases h:s=[60]; · subst h; rfl
 by_cases i:s=[60,61]; · subst i; rfl
 by_cases j:s=[62]; · subst j; rfl
 by_cases k:s=[62,61]; · subst k; rfl
 by_cases a:s=[73,78]; · subst a; rfl
 by_cases b:s=[43]; · subst b; rfl
 by_cases c:s=[45]; · subst c; rfl
 by_cases d:s=[42]; · subst d; rfl
 by_cases e:s=[47]; · subst e; rfl
 by_cases f:s=[37]; · subst f; rfl
 simp only[ql0,rz,jW,qgk,ZS,ui,rT,mA,kbf.2 h1,kbf.2 h2,kbf.2 h3,kbf.2 h4,kbf.2 g,kbf.2 h,kbf.2 i,kbf.2 j,kbf.2 k,kbf.2 a,kbf.2 b,kbf.2 c,kbf.2 d,kbf.2 e,kbf.2 f,kcf];rfl
theorem qna (n:Nat) {e:Int} (h:e<0) (f:Bool) (g:Int) (i:List UInt8) (j:List Val) (k:List (List UInt8)) (d c:Int):uO (n+1) ⟨e,f,g,i,j,k⟩ d c=some (kwr .i64 (c+1),false):=by
 simp only[uO,ZD,kdt h];have:∀ a b d:Bool,(bif(bif(bif a then true else b)then true else true)then true else d)=true:=by decide
 rw[this];rfl
def qjj (a b:Int):Bool:=bif(bif(decide (a<=1))then true else(bif(a==2)then(decide (b≥0))else false))then true else(a==3)
theorem ql1 {n:Nat} (c:n<=137438953472) {a:Int} {f:Bool} {e:Int} {g:List UInt8} {i:List Val} {j:List (List UInt8)} (d:tm ⟨a,f,e,g,i,j⟩<n) :
  ∃ b:Bool,nQ n ⟨a,f,e,g,i,j⟩=some (b&&qjj a e)/\nv n ⟨a,f,e,g,i,j⟩=some b/\(b=true->0<=a):=by
 obtain⟨b,h1,h2⟩:=Tp c d;refine⟨b,?_,h2,?_⟩
 ·simp only[nQ,h1,qc]
  unfold qjj;cases b<;>rfl
 ·intro h
  apply Decidable.byContradiction;intro k;obtain⟨n,rfl⟩:∃ m,n=m+1:=⟨n - 1,by omega⟩;simp only[nv,qna n (show a<0 by omega),qc,Option.some.injEq]at h2;rw[h]at h2;cases h2
theorem qm6 {x1:Int} (h:0<=x1) (a:Int):(bif(bif(bif(x1==(0:Int))then true else(x1==(1:Int)))then true else(bif(x1==(2:Int))then(decide (a≥(0:Int)))else false))then true else(x1==(3:Int)))=qjj x1 a:=by
 unfold qjj;have:decide (x1<=1)=(bif(x1==(0:Int))then true else(x1==(1:Int))):=by
  rw[Bool.eq_iff_iff]; simp; omega
 rw[this]
theorem qmz (n:Nat) (name:List UInt8) (args:List qe) (ks:List (List UInt8)) (f:n<=137438953472) (h:ks.length<n) :
  qo (dp n ks name args) n (0:Int)=some (ks.all Xp&&(name==[]&&args.length==ks.length)):=by
 have e:=zY (B:=dp n ks name args) (fun k=>((k:Nat):Int)) (l:=ks) (fun s=>if Xp s then none else some false) (rest:=some (name==[]&&args.length==ks.length))
  (fun k x c b=>by
   have d:=qL b;simp only[dp,qn,qx d,kct,qf b,qc,zU];rw[qU (by omega)];cases Xp x<;>rfl)
  (fun c=>by
   simp only[dp,qn,qu,qm,kcf];have:(((args.length:Nat):Int)==((ks.length:Nat):Int))=(args.length==ks.length):=by
    rw[Bool.eq_iff_iff]; simp[Int.natCast_inj]
   rw[this];cases name==[]<;>rfl) h
 refine Eq.trans e ?_;have:∀ l:List (List UInt8),∀ r:Bool,orE (vu (fun s=>if Xp s then none else some false) l) (some r)=some (l.all Xp&&r):=by
  intro l r
  induction l with
  | nil=>rfl
  | cons a l ih=>
   simp only[vu,jw];cases Xp a with
   | true=>simpa using ih
   | false=>rfl
 exact this ks _
end W
end
section
open Go Ax
namespace W
def arS (k:Int) (L:Int):Bool:=bif decide (k≥0)then L==k else true
theorem qab {n:Nat} (q:n<=137438953472) (r:28<n) {op:Int} {name:List UInt8} {a1:Int} {a2:Bool} {a3:Int} {a4:List UInt8} {a5:List Val} {t:List (List UInt8)} {names:List (List UInt8)} {args:List qe}
  (D:tm ⟨a1,a2,a3,a4,a5,t⟩<n) (hname:name.length<n) (hnames:names.length<n) :
  ∃ k ok b,zu n ⟨op,name,⟨a1,a2,a3,a4,a5,t⟩,names,args⟩=some (k,ok)/\xn n ⟨op,name,⟨a1,a2,a3,a4,a5,t⟩,names,args⟩=some b /\
   b=(ok&&arS k (args.length:Int)&&(bif op==6 then names.all Xp else true)):=by
 have c:=gY (s:=name) hname q;have d:=fl (s:=name) hname r q;by_cases h1:op=1
 ·subst h1
  obtain⟨m,u,v,w⟩:=ql1 q D;simp only[zu,xn,qu,u,v];cases E:name==[]with
  | false=>exact⟨0,false,false,rfl,rfl,rfl⟩
  | true=>
   refine⟨0,m&&qjj a1 a3,(args.length:Int)==0&&(m&&qjj a1 a3),rfl,?_,?_⟩
   ·cases e:((args.length:Nat):Int)==0 with
    | false=>rfl
    | true=>
     cases m with
     | false=>rfl
     | true=>
      have:=qm6 (w rfl) a3;simp only[kbs,kct,zg,qc,this,Bool.true_and]
   show _=(m&&qjj a1 a3&&((args.length:Int)==0)&&true);rw[Bool.and_true,Bool.and_comm]
 by_cases h2:op=2
 ·subst h2
  simp only[Int.reduceBEq,kct,kcf,zu,zf,qW,xn,zC,zq,qu,qn,zD,zU,zG,xg,zb,zt,c,d,qc];refine⟨0,xl name,_,rfl,?_,rfl⟩;show _=some (xl name&&(((args.length:Nat):Int)==0)&&true);cases((args.length:Nat):Int)==0<;>cases xl name<;>rfl
 by_cases h3:op=3
 ·subst h3
  simp only[Int.reduceBEq,kct,kcf,zu,zf,qW,xn,zC,zq,qu,qn,zD,zU,zG,xg,zb,zt,c,d,qc];refine⟨0,xl name,_,rfl,?_,rfl⟩;show _=some (xl name&&(((args.length:Nat):Int)==0)&&true);cases((args.length:Nat):Int)==0<;>cases xl name<;>rfl
 by_cases h4:op=4
 ·subst h4
  simp only[Int.reduceBEq,kct,kcf,zu,zf,qW,xn,zC,zq,qu,qn,zD,zU,zG,xg,zb,zt,c,d,qc];refine⟨1,Xp name,_,rfl,?_,rfl⟩;show _=some (Xp name&&(((args.length:Nat):Int)==1)&&true);cases((args.length:Nat):Int)==1<;>cases Xp name<;>rfl
 by_cases y:op=5
 ·subst y
  simp only[Int.reduceBEq,kct,kcf,zu,zf,qW,xn,zC,zq,qu,qn,zD,zU,zG,xg,zb,zt,c,d,qc];refine⟨-1,name==[],_,rfl,?_,rfl⟩;show _=some ((name==[])&&true&&true);cases name==[]<;>rfl
 by_cases z:op=6
 ·subst z
  simp only[Int.reduceBEq,kct,kcf,zu,zf,qW,xn,zC,zq,qu,qn,zD,zU,zG,xg,zb,zt,c,d,qc];refine⟨(names.length:Int),name==[],_,rfl,qmz n name args names q hnames,?_⟩;have e1:arS (names.length:Int) (args.length:Int)=(args.length==names.length):=by
   unfold arS;rw[kdt (by omega),kct,Bool.eq_iff_iff]; simp[Int.natCast_inj]
  rw[e1];cases names.all Xp<;>cases name==[]<;>cases args.length==names.length<;>rfl
 by_cases A:op=7
 ·subst A
  simp only[Int.reduceBEq,kct,kcf,zu,zf,qW,xn,zC,zq,qu,qn,zD,zU,zG,xg,zb,zt,c,d,qc];refine⟨2,name==[],_,rfl,?_,rfl⟩;show _=some ((name==[])&&(((args.length:Nat):Int)==2)&&true);cases((args.length:Nat):Int)==2<;>cases name==[]<;>rfl
 by_cases B:op=8
 ·subst B
  simp only[Int.reduceBEq,kct,kcf,zu,zf,qW,xn,zC,zq,qu,qn,zD,zU,zG,xg,zb,zt,c,d,qc];refine⟨1,name==[],_,rfl,?_,rfl⟩;show _=some ((name==[])&&(((args.length:Nat):Int)==1)&&true);cases((args.length:Nat):Int)==1<;>cases name==[]<;>rfl
 by_cases C:op=9
 ·subst C
  simp only[Int.reduceBEq,kct,kcf,zu,zf,qW,xn,zC,zq,qu,qn,zD,zU,zG,xg,zb,zt,c,d,qc];refine⟨1,name==[],_,rfl,?_,rfl⟩;show _=some ((name==[])&&(((args.length:Nat):Int)==1)&&true);cases((args.length:Nat):Int)==1<;>cases name==[]<;>rfl
 by_cases f:op=11
 ·subst f
  simp only[Int.reduceBEq,kct,kcf,zu,zf,qW,xn,zC,zq,qu,qn,zD,zU,zG,xg,zb,zt,c,d,qc];refine⟨1,name==[],_,rfl,?_,rfl⟩;show _=some ((name==[])&&(((args.length:Nat):Int)==1)&&true);cases((args.length:Nat):Int)==1<;>cases name==[]<;>rfl
 by_cases g:op=12
 ·subst g
  simp only[Int.reduceBEq,kct,kcf,zu,zf,qW,xn,zC,zq,qu,qn,zD,zU,zG,xg,zb,zt,c,d,qc];refine⟨1,name==[],_,rfl,?_,rfl⟩;show _=some ((name==[])&&(((args.length:Nat):Int)==1)&&true);cases((args.length:Nat):Int)==1<;>cases name==[]<;>rfl
 by_cases i:op=10
 ·subst i
  simp only[Int.reduceBEq,kct,kcf,zu,zf,qW,xn,zC,zq,qu,qn,zD,zU,zG,xg,zb,zt,c,d,qc];refine⟨2,decide (ql0 name>0),_,rfl,?_,rfl⟩;show _=some (decide (ql0 name>0)&&(((args.length:Nat):Int)==2)&&true);cases((args.length:Nat):Int)==2 with
  | false=>cases decide (ql0 name>0)<;>rfl
  | true=>
   show some (decide (ql0 name>0))=_;rw[Bool.and_true,Bool.and_true]
 by_cases j:op=13
 ·subst j
  simp only[Int.reduceBEq,kct,kcf,zu,zf,qW,xn,zC,zq,qu,qn,zD,zU,zG,xg,zb,zt,c,d,qc];refine⟨-1,xl name&&!(qio name),xl name&&!(qio name),?_,?_,?_⟩
  ·cases xl name<;>rfl
  ·cases xl name<;>rfl
  show _=((xl name&&!(qio name))&&true&&true);cases xl name&&!(qio name)<;>rfl
 by_cases o:op=14
 ·subst o
  simp only[Int.reduceBEq,kct,kcf,zu,zf,qW,xn,zC,zq,qu,qn,zD,zU,zG,xg,zb,zt,c,d,qc];cases e:((args.length:Nat):Int)==0 with
  | true=>
   refine⟨0,name==[99,111,117,110,116],name==[99,111,117,110,116],rfl,?_,?_⟩
   ·have:(((args.length:Nat):Int)==1)=false:=by
     have:=beq_iff_eq.1 e;rw[this]; rfl
    rw[this];cases name==[99,111,117,110,116]<;>rfl
   ·show _=((name==[99,111,117,110,116])&&(((args.length:Nat):Int)==0)&&true)
    rw[e];cases name==[99,111,117,110,116]<;>rfl
  | false=>
   refine⟨1,qio name,_,rfl,?_,rfl⟩;show _=some (qio name&&(((args.length:Nat):Int)==1)&&true);cases((args.length:Nat):Int)==1<;>cases qio name<;>rfl
 by_cases p:op=15
 ·subst p
  simp only[Int.reduceBEq,kct,kcf,zu,zf,qW,xn,zC,zq,qu,qn,zD,zU,zG,xg,zb,zt,c,d,qc];have e15:∀ X:Option qe,(((args.length:Nat):Int)==1)=true->∃ x,idx args 0=some x:=by
   intro _ h;cases args with
   | nil=>cases h
   | cons x l=>exact⟨x,rfl⟩
  cases e:((args.length:Nat):Int)==1 with
  | false=>
   refine⟨1,false,false,?_,?_,?_⟩
   ·cases Xp name<;>rfl
   ·rfl
   rfl
  | true=>
   obtain⟨x,F⟩:=e15 none e;obtain⟨a,x2,⟨H,I,J,K,L,M⟩,N,G⟩:=x;rw[F];refine⟨1,Xp name&&(a==2),_,?_,?_,rfl⟩
   ·cases Xp name<;>rfl
   show _=some (Xp name&&(a==2)&&(((args.length:Nat):Int)==1)&&true);rw[e];cases Xp name with
   | false=>rfl
   | true=>
    show some (a==2)=_;rw[Bool.and_true,Bool.and_true,Bool.true_and]
 simp only[kbf.2 h1,kbf.2 h2,kbf.2 h3,kbf.2 h4,kbf.2 y,kbf.2 z,kbf.2 A,kbf.2 B,kbf.2 C,kbf.2 i,kbf.2 f,kbf.2 g,kbf.2 j,kbf.2 o,kbf.2 p,kcf,zu,zf,qW,xn,zC,zq,qu,qn,zD,zU,zG,xg,zb,zt,c,d,qc];exact⟨0,false,false,rfl,rfl,rfl⟩
end W
end
section
open Go Ax
namespace W
theorem qov (k L:Int):(bif decide (k≥0)then L != k else false)=!(arS k L):=by
 unfold arS;cases decide (k≥0)with
 | false=>rfl
 | true=>rfl
theorem qdl {k L:Int} {D ok X S q nm A r:Bool} {op1:Bool} (b:nm=false->A=true) :
  (bnd (some (k,ok)) fun⟨a,c⟩=>
   bnd (qD ((!(bif(bif(!c)then true else D)then true else(bif decide (a≥0)then L != a else false)))&&X) (some S)) fun e=>
   bif(bif(bif(bif(bif(!c)then true else D)then true else(bif decide (a≥0)then L != a else false))then true else(bif X then(!e)else false))then true else(bif !q then nm else false))then some false else some (A&&r))
   = some (!D&&(ok&&arS k L&&(bif q then A else true))&&(!X||S)&&!(bif !q then nm else false)&&r) /\
  (bnd (qD (!D) (some (ok&&arS k L&&(bif q then A else true)))) fun a=>
   bnd (qD ((!(bif D then true else(!a)))&&X) (some S)) fun c=>
   bif(bif(bif(bif D then true else(!a))then true else(bif X then(!c)else false))then true else(bif !q then nm else false))then some false else some r)
   = some (!D&&(ok&&arS k L&&(bif q then A else true))&&(!X||S)&&!(bif !q then nm else false)&&r):=by
 simp only[qc,qov];generalize arS k L=ar;cases nm with
 | false=>
  have:=b rfl;subst this;cases D<;>cases ok<;>cases X<;>cases S<;>cases q<;>cases ar<;>cases r<;>exact⟨rfl,rfl⟩
 | true=>cases D<;>cases ok<;>cases X<;>cases S<;>cases q<;>cases A<;>cases ar<;>cases r<;>exact⟨rfl,rfl⟩
def De:Val:=⟨0,false,0,[],[],[]⟩
theorem qcr (n:Nat) (l:List qe) (g f:qe->Int->Option Bool) (d:Int) (t:n<=137438953472)
  (i:∀ x∈l,∃ b,g x (kwr .i64 (d - 1))=some b/\f x (kwr .i64 (d - 1))=some b/\(b=true->WfE x)):∀ m k:Nat,k<=l.length->l.length - k<m->l.length<n ->
  ∃ r,qo (fa n l g d) m (k:Int)=some r/\qo (bH n l f d) m (k:Int)=some r/\(r=true->∀ x∈l.drop k,WfE x):=by
 intro m
 induction m with
 | zero=>intro k _ h; omega
 | succ m ih=>
  intro k u hm j;rw[qO,qO];by_cases he:k=l.length
  ·subst he
   refine⟨true,?_,?_,?_⟩
   ·simp only[fa,qu,qm,kcf]
   ·simp only[bH,qu,qm,kcf]
   intro _ x c;rw[List.drop_length]at c;cases c
  ·have a:k<l.length:=by omega
   have c:=jf a;rw[jo a];generalize l[k]=x at c;obtain⟨b,h1,h2,h3⟩:=i x (qw c);obtain⟨r,h4,o,p⟩:=ih (k+1) (by omega) (by omega) j;obtain⟨x1,x2,⟨v,w,z,A,B,C⟩,D,q⟩:=x;simp only[fa,bH,qu,qx a,kct,qf c,qc,h1,h2];rw[qU (by omega)];cases b with
   | false=>exact⟨false,rfl,rfl,fun h=>by cases h⟩
   | true=>
    refine⟨r,h4,o,fun s y e=>?_⟩;rcases jg.1 e with rfl|e
    ·exact h3 rfl
    exact p s y e
theorem qda (n:Nat) (ks:List (List UInt8)) (args:List qe) (g:qe->Int->Option Bool) (d:Int) (j:n<=137438953472) (h:ks.length<n) {r:Bool}
  (c:qo (fa n args g d) n (0:Int)=some r):qo (gZ n ks args g d) n (0:Int)=some (ks.all Xp&&r):=by
 have e:=zY (B:=gZ n ks args g d) (fun k=>((k:Nat):Int)) (l:=ks) (fun s=>if Xp s then none else some false) (rest:=some r)
  (fun k x f b=>by
   have i:=qL b;simp only[gZ,qn,qx i,kct,qf b,qc,zD];rw[qU (by omega)];cases Xp x<;>rfl)
  (fun f=>by
   simp only[gZ,qn,qm,kcf,c]) h
 refine Eq.trans e ?_;have:∀ l:List (List UInt8),∀ r:Bool,orE (vu (fun s=>if Xp s then none else some false) l) (some r)=some (l.all Xp&&r):=by
  intro l r
  induction l with
  | nil=>rfl
  | cons a l ih=>
   simp only[vu,jw];cases Xp a with
   | true=>simpa using ih
   | false=>rfl
 exact this ks _
theorem qka:∀ n:Nat,n<=137438953472->∀ x d,40+dC x<n->∃ b,zT n x d=some b/\pj n x d=some b/\(b=true->WfE x):=by
 intro n
 induction n with
 | zero=>intro _ _ _ h; omega
 | succ n ih=>
  intro T x d M;obtain⟨op,name,⟨a1,a2,a3,a4,a5,s⟩,names,args⟩:=x;have e:40+uF args<n/\names.length<n/\name.length<n/\tm ⟨a1,a2,a3,a4,a5,s⟩<n:=by
   have:=xi names;have U:=xY args;simp only[dC]at M;omega
  have V:=xY args;obtain⟨k,ok,b,c,t,u⟩:=qab (n:=n) (op:=op) (name:=name) (args:=args) (by omega) (by omega) e.2.2.2 e.2.2.1 e.2.1;obtain⟨s1,f,v⟩:=(Fy n (by omega)).1 ⟨a1,a2,a3,a4,a5,s⟩ De e.2.2.2;obtain⟨s2,g,w⟩:=(DC n (by omega)).1 ⟨a1,a2,a3,a4,a5,s⟩ De e.2.2.2;have i:s2=s1:=by
   rw[Bool.eq_iff_iff,w,v]
  subst i;obtain⟨r,y,z,B⟩:=qcr n args (zT n) (pj n) d (by omega) (fun x hm=>ih (by omega) x _ (by have:=gH hm; omega)) n 0 (by omega) (by omega) (by omega)
  have C:=qda n names args (zT n) d (by omega) e.2.1 y;have j:qo (bH n args (pj n) d) n (0:Int)=some r:=z;unfold De at f g;have N:decide ((((qi names).length:Nat):Int)>0)=false->names.all Xp=true:=by
   intro h;cases names with
   | nil=>rfl
   | cons a l=>rw[qn]at h; simp at h
  obtain⟨O,P⟩:=qdl (k:=k) (L:=(((qe.rows args).length:Nat):Int)) (D:=decide (d<1)) (ok:=ok) (X:=op != 1) (S:=s2) (q:=op==6) (nm:=decide ((((qi names).length:Nat):Int)>0)) (A:=names.all Xp) (r:=r) (op1:=true) N;refine⟨_,Eq.trans ?_ O,Eq.trans ?_ P,?_⟩
  ·simp only[zT,rS]
   rw[c,f,C];rfl
  ·simp only[pj,VX]
   rw[t,g,j,u,← qu args];rfl
  intro h;simp only[jj]at h;obtain⟨⟨⟨⟨_,⟨E,F⟩,_⟩,_⟩,K⟩,Q⟩:=h;refine .mk (fun o=>?_) (fun G=>?_) (fun x hm=>B Q x hm) (fun h1=>?_)
  ·cases names with
   | nil=>rfl
   | cons a l=>
    rw[kbf.2 o,kdt (by rw[qn]; simp only[ja]; omega)]at K;cases K
  ·subst G
   have:zu n ⟨10,name,⟨a1,a2,a3,a4,a5,s⟩,names,args⟩=some (2,decide (ql0 name>0)):=rfl;rw[this,Option.some.injEq,Prod.mk.injEq]at c;obtain⟨rfl,_⟩:=c;have h2:((((qe.rows args).length:Nat):Int)==2)=true:=F;have h3:=beq_iff_eq.1 h2;rw[qu]at h3;omega
  subst h1;subst E;obtain⟨m,H,_,I⟩:=ql1 (by omega) e.2.2.2;simp only[zu,H]at c;cases p:name==[]with
  | false=>rw[p]at c; cases c
  | true=>
   rw[p]at c;have J:(m&&qjj a1 a3)=true:=(Prod.mk.inj (Option.some.inj c)).2;rw[jj]at J;refine⟨I J.1,?_⟩;have o:=J.2;unfold qjj at o;show a1<=3;by_cases R:a1<=3
   ·exact R
   rw[kdf (by omega),kbf.2 (by omega),kbf.2 (by omega)]at o;cases o
end W
end
section
open Go Ax
namespace W
theorem qG {A R:Type} (a:A) (k:A->Option R):bnd (some a) k=k a:=by
 generalize h:some a=o;cases h;rfl
theorem ql {A:Type} (a b:A):(bif true then a else b)=a:=by
 generalize h:true=o;cases h;rfl
theorem qk {A:Type} (a b:A):(bif false then a else b)=b:=by
 generalize h:false=o;cases h;rfl
def CB (s:List UInt8):List UInt8:=bif xl s then s else GQ s
def qmh (s:List UInt8):List UInt8:=bif Uq s then s else GQ s
theorem EP (s:List UInt8):(GQ s).length<=4 * s.length+2:=by
 have:=RT s.length s;simp only[GQ,ja,jb,jc]; omega
theorem Fo (s:List UInt8):(CB s).length<=4 * s.length+2:=by
 unfold CB;have:=EP s;cases xl s with
 | true=>simp only[kct]; omega
 | false=>exact this
theorem ib (s:List UInt8):(qmh s).length<=4 * s.length+2:=by
 unfold qmh;have:=EP s;cases Uq s with
 | true=>simp only[kct]; omega
 | false=>exact this
section
variable {n:Nat} (hn:n<=137438953472)
include hn
theorem VP {s:List UInt8} (h:s.length<n) (a:s.length<=1073741824):dt n s=some (CB s):=by
 unfold dt CB;rw[gY h (by omega),qc,EY (by omega) h];cases xl s<;>rfl
theorem ER {s:List UInt8} (h:s.length<n) (a:s.length<=1073741824) (h2:28<n):QE n s=some (CB s):=by
 unfold QE CB;rw[fl h h2 (by omega),qc,NK (by omega) h];cases xl s<;>rfl
theorem qkh {s:List UInt8} (h:s.length<n) (a:s.length<=1073741824):Vw n s=some (qmh s):=by
 unfold Vw qmh;rw[Vf h,qc,EY (by omega) h];cases Uq s<;>rfl
theorem qni {s:List UInt8} (h:s.length<n) (a:s.length<=1073741824):Gc n s=some (qmh s):=by
 unfold Gc qmh;rw[BF h (by omega),qc,NK (by omega) h];cases Uq s<;>rfl
end
theorem lE (sep x:List UInt8):∀ a:List (List UInt8),Lib.join (a++[x]) sep=if a=[]then x else Lib.join a sep++sep++x
 | []=>by simp[Lib.join,List.intercalate]
 | [y]=>by simp[Lib.join,List.intercalate]
 | y::z::a=>by
  have:=lE sep x (z::a);simp only[Lib.join,List.intercalate,List.cons_append,List.intersperse_cons₂,List.flatten_cons]at this ⊢;rw[this];simp
theorem Fl (sep:List UInt8) (b:sep.length=2):∀ a:List (List UInt8),(Lib.join a sep).length<=(a.map fun x=>x.length+2).sum
 | []=>by simp[Lib.join,List.intercalate]
 | [y]=>by simp[Lib.join,List.intercalate]
 | y::z::a=>by
  have:=Fl sep b (z::a);simp only[Lib.join,List.intercalate,List.intersperse_cons₂,List.flatten_cons,jb,jl,jB]at this ⊢;omega
mutual
def UT:Val->List UInt8
 | .mk k b i s l ks=>
  if k=1 then(bif b then[116,114,117,101]else[102,97,108,115,101])
  else if k=2 then qbr i
  else if k=3 then GQ s
  else if k=6 then[35,110]++qbr i
  else if k=7 then[35,101]++qbr i
  else if k=4 then([91]++Lib.join (gq k ks l) [44,32])++[93]
  else if k=5 then([123]++Lib.join (gq k ks l) [44,32])++[125]
  else[110,117,108,108]
def gq (k:Int):List (List UInt8)->List Val->List (List UInt8)
 | _,[]=>[]
 | ks,v::l=>(bif k==5 then(qmh (ks.headD [])++[58,32])++UT v else UT v)::gq k ks.tail l
end
inductive ShOk:Val->Prop where
 | mk {k:Int} {b:Bool} {i:Int} {s:List UInt8} {l:List Val} {ks:List (List UInt8)} (h1:k=5->l.length<=ks.length) (h2:k=4\/k=5->∀ x∈l,ShOk x):ShOk (.mk k b i s l ks)
theorem Fw (k:Int):∀ (l:List Val) (ks:List (List UInt8)),(gq k ks l).length=l.length
 | [],_=>rfl
 | _::l,ks=>by simp[gq,Fw k l]
theorem Fv (k:Int):∀ (l:List Val) (ks:List (List UInt8)) (i:Nat) (x:Val),l[i]? =some x->(gq k ks l)[i]? =some (bif k==5 then(qmh ((ks[i]?).getD [])++[58,32])++UT x else UT x)
 | v::l,ks,0,x,h=>by
  cases h;simp only[gq,jd];cases ks<;>rfl
 | v::l,ks,i+1,x,h=>by
  simp only[gq,je];rw[Fv k l ks.tail i x (by simpa using h),List.getElem?_tail]
end W
end
section
open Go Ax
namespace W
theorem qjt {i:Int} (h:isz i<1099511627776):(qbr i).length<=20:=by
 have h:=qly h;exact qbs h.1 h.2
mutual
theorem DF:∀ v:Val,tm v<1099511627776->(UT v).length<=24 * tm v
 | .mk k b i s l ks,h=>by
  simp only[tm]at h ⊢;have h1:=qjt (i:=i) (by omega);have h2:=EP s;have h3:=ZL k l ks (by omega);have h4:=Fl [44,32] rfl (gq k ks l);have h5:(ks.map fun k=>1+k.length).sum=sS ks:=rfl
  rw[h5]at h ⊢;unfold UT;split
  ·cases b<;>simp only[kct,kcf,ja,jc]<;>omega
  split
  ·omega
  split
  ·omega
  split
  ·simp only[jb,ja,jc]; omega
  split
  ·simp only[jb,ja,jc]; omega
  split
  ·simp only[jb,ja,jc]; omega
  split
  ·simp only[jb,ja,jc]; omega
  simp only[ja,jc]; omega
theorem ZL (k:Int):∀ (l:List Val) (ks:List (List UInt8)),br l<1099511627776->((gq k ks l).map fun x=>x.length+2).sum<=24 * br l+4 * sS ks
 | [],ks,_=>by simp[gq]
 | v::l,ks,h=>by
  simp only[br]at h ⊢;have h1:=DF v (by omega);have h2:=ZL k l ks.tail (by omega);have h3:=ib (ks.headD []);have h4:1 * (ks.headD []).length+sS ks.tail<=sS ks:=by
   cases ks with
   | nil=>simp[sS]
   | cons a ks=>simp[sS]
  simp only[gq,jl,jB];cases k==5 with
  | true=>simp only[kct,jb,ja,jc]; omega
  | false=>simp only[kcf]; omega
end
theorem GX {A:Type} {l:List A} {i:Nat} {x:A} (h:l[i]? =some x):l.take i++[x]=l.take (i+1):=by rw[List.take_succ,h]; rfl
theorem aL {A:Type} (f:A->Nat):∀ (l:List A) (i:Nat),((l.take i).map f).sum<=(l.map f).sum
 | [],i=>by simp
 | x::l,0=>by simp
 | x::l,i+1=>by have:=aL f l i; simp only[List.take_succ_cons,jl,jB]; omega
def qqu (x1:Int) (t:List UInt8):List UInt8:=bif x1==5 then([123]++t)++[125]else([91]++t)++[93]
section
variable {n:Nat} (hn:n<=137438953472) {x1:Int} {l:List Val} {ks:List (List UInt8)} (hsz:400+(br l+sS ks)<=n) (hb:br l+sS ks<=1073741824) (hk:x1=4\/x1=5)
include hn hsz hb hk
theorem Se {g:Val->Option (List UInt8)} (h:∀ v∈l,g v=some (UT v)) (j:x1=5->l.length<=ks.length) :
  qo (mU n l g x1 ks) n (([]:List (List UInt8)),(0:Int))=some (qqu x1 (Lib.join (gq x1 ks l) [44,32])):=by
 have t:=ZL x1 l ks (by omega);have u:=Fl [44,32] rfl (gq x1 ks l);have w:=vD l;have hlen:=Fw x1 l ks;refine bY (fun i=>((gq x1 ks l).take i,((i:Nat):Int))) l.length (fun i f m=>?_) (fun m=>?_) (by omega)
 ·obtain⟨x,b⟩:∃ x,l[i]? =some x:=⟨_,jf f⟩
  have hp:=Fv x1 l ks i x b;have c:=h x (qw b);have o:=vM (qw b);have p:=DF x (by omega);obtain⟨a1,a2,a3,a4,a5,z⟩:=x;simp only[mU,ze,qn,qx f,ql,qf b,qG,c];rcases hk with rfl|rfl
  ·simp only[Int.reduceBEq,qk,ql,mT]at hp ⊢
   rw[GX hp,zz (by rw[qn,ju]; omega),qU (by omega)]
  have a:i<ks.length:=by have:=j rfl; omega
  obtain⟨y,d⟩:∃ y,ks[i]? =some y:=⟨_,jf a⟩;have q:1+y.length<=sS ks:=zd (fun k=>1+k.length) (qw d)
  have r:=ib y;rw[d]at hp;simp only[BEq.rfl,ql,mT,qx a,qf d,qG,qkh hn (s:=y) (by omega) (by omega),jW]at hp ⊢;rw[zz (by unfold xr; simp only[ja,jc]; omega),zz (by unfold xr; simp only[jb,ja,jc]; omega),GX hp,zz (by rw[qn,ju]; omega),qU (by omega)]
 have e:(gq x1 ks l).take l.length=gq x1 ks l:=List.take_of_length_le (by omega);simp only[mU,ze,qm,qk,e,Qv];rw[zz (by omega),zz (by omega)];simp only[qG];rcases hk with rfl|rfl
 ·simp only[Int.reduceBEq,qk]
  rw[zz (by unfold xr; simp only[ja,jc]; omega),zz (by unfold xr; simp only[jb,ja,jc]; omega)];rfl
 simp only[BEq.rfl,ql];rw[zz (by unfold xr; simp only[ja,jc]; omega),zz (by unfold xr; simp only[jb,ja,jc]; omega)];rfl
omit hk in
theorem qft (k:Int) {i:Nat} {p:List UInt8} (hp:(gq k ks l)[i]? =some p) :
  (Lib.join ((gq k ks l).take i) [44,32]).length<=24 * (br l+sS ks)/\p.length<=24 * (br l+sS ks)/\Lib.join ((gq k ks l).take (i+1)) [44,32]=(bif decide ((i:Int)>0)then Lib.join ((gq k ks l).take i) [44,32]++[44,32]else Lib.join ((gq k ks l).take i) [44,32])++p:=by
 have hs:=ZL k l ks (by omega);have hj:=Fl [44,32] rfl ((gq k ks l).take i);have ht:=aL (fun x=>x.length+2) (gq k ks l) i
 have hm:p.length+2<=_:=zd (fun x=>x.length+2) (qw hp)
 refine⟨by omega,by omega,?_⟩;rw[← GX hp,lE];cases i with
 | zero=>simp[Lib.join,List.intercalate]
 | succ i=>
  have hlt:=qL hp;rw[if_neg (by intro h; have:=congrArg List.length h; rw[ju,jc]at this; omega),kdt (by omega)];simp
omit hk in
theorem qg4 {g:Val->Option (List UInt8)} (hg:∀ v∈l,g v=some (UT v)) :
  qo (bF n l g) n (([]:List UInt8),(0:Int))=some (qqu 4 (Lib.join (gq 4 ks l) [44,32])):=by
 have hs:=ZL 4 l ks (by omega);have hj:=Fl [44,32] rfl (gq 4 ks l);have hl:=vD l;have hlen:=Fw 4 l ks;refine bY (fun i=>(Lib.join ((gq 4 ks l).take i) [44,32],((i:Nat):Int))) l.length (fun i hi nx=>?_) (fun nx=>?_) (by omega)
 ·obtain⟨x,hx⟩:∃ x,l[i]? =some x:=⟨_,jf hi⟩
  have hp:=Fv 4 l ks i x hx;have hgx:=hg x (qw hx);obtain⟨q1,q2,q3⟩:=qft hn hsz hb 4 hp;obtain⟨a1,a2,a3,a4,a5,a6⟩:=x;simp only[Int.reduceBEq,qk]at q2 q3;simp only[bF,tq,ze,qx hi,ql,qf hx,qG,hgx,q3];cases decide (((i:Nat):Int)>0)with
  | true=>
   simp only[ql];rw[zz (by unfold xr; simp only[ja,jc]; omega),zz (by unfold xr; simp only[jb,ja,jc]; omega),qU (by omega)]
  | false=>
   simp only[qk];rw[zz (by unfold xr; omega),qU (by omega)]
 have e:(gq 4 ks l).take l.length=gq 4 ks l:=List.take_of_length_le (by omega);show bF n l g nx (Lib.join (List.take l.length (gq 4 ks l)) [44,32],((l.length:Nat):Int))=_;rw[e];simp only[bF,ze,qm,qk];rw[zz (by unfold xr; simp only[ja,jc]; omega),zz (by unfold xr; simp only[jb,ja,jc]; omega)];rfl
omit hk in
theorem qg5 {g:Val->Option (List UInt8)} (hg:∀ v∈l,g v=some (UT v)) (hL:l.length<=ks.length) :
  qo (bG n l ks g) n (([]:List UInt8),(0:Int))=some (qqu 5 (Lib.join (gq 5 ks l) [44,32])):=by
 have hs:=ZL 5 l ks (by omega);have hj:=Fl [44,32] rfl (gq 5 ks l);have hl:=vD l;have hlen:=Fw 5 l ks;refine bY (fun i=>(Lib.join ((gq 5 ks l).take i) [44,32],((i:Nat):Int))) l.length (fun i hi nx=>?_) (fun nx=>?_) (by omega)
 ·obtain⟨x,hx⟩:∃ x,l[i]? =some x:=⟨_,jf hi⟩
  have hp:=Fv 5 l ks i x hx;have hgx:=hg x (qw hx);have hik:i<ks.length:=by omega
  obtain⟨y,hy⟩:∃ y,ks[i]? =some y:=⟨_,jf hik⟩;have hyl:1+y.length<=sS ks:=zd (fun k=>1+k.length) (qw hy)
  have hyk:=ib y;have hvx:=vM (qw hx);have hxl:=DF x (by omega);obtain⟨q1,q2,q3⟩:=qft hn hsz hb 5 hp;obtain⟨a1,a2,a3,a4,a5,a6⟩:=x;simp only[BEq.rfl,ql,hy,jW]at q2 q3;simp only[bG,tt,ze,qx hi,ql,qf hx,qf hy,qG,hgx,q3,qni hn (s:=y) (by omega) (by omega)];cases decide (((i:Nat):Int)>0)with
  | true=>
   simp only[ql];rw[zz (by unfold xr; simp only[ja,jc]; omega)];rw[zz (by unfold xr; simp only[jb,ja,jc]; omega)];rw[zz (by unfold xr; simp only[jb,ja,jc]; omega)];rw[zz (by unfold xr; simp only[jb,ja,jc]; omega),qU (by omega)];simp only[jt]
  | false=>
   simp only[qk];rw[zz (by unfold xr; omega)];rw[zz (by unfold xr; simp only[jb,ja,jc]; omega)];rw[zz (by unfold xr; simp only[jb,ja,jc]; omega),qU (by omega)];simp only[jt]
 have e:(gq 5 ks l).take l.length=gq 5 ks l:=List.take_of_length_le (by omega);show bG n l ks g nx (Lib.join (List.take l.length (gq 5 ks l)) [44,32],((l.length:Nat):Int))=_;rw[e];simp only[bG,ze,qm,qk];rw[zz (by unfold xr; simp only[ja,jc]; omega),zz (by unfold xr; simp only[jb,ja,jc]; omega)];rfl
end
theorem qhk:∀ n:Nat,n<=137438953472->∀ v:Val,ShOk v->tm v<=1073741824->401+tm v<=n->bS n v=some (UT v)/\pg n v=some (UT v):=by
 intro n
 induction n with
 | zero=>intro _ v _ _ h; omega
 | succ n ih=>
  intro hn v j d hsz;obtain⟨k,b,i,s,l,ks⟩:=v;have e:401+(1+isz i+s.length+br l+sS ks)<=n+1:=hsz;have g:1+isz i+s.length+br l+sS ks<=1073741824:=d;have a:=qly (i:=i) (by omega);have h1:=qbs a.1 a.2;have t1:=qju (f:=n) (by omega) a.1 a.2;have t2:=qj0 (f:=n) (by omega) a.1 a.2;have t3:bA n s=some (GQ s):=EY (by omega) (by omega);have t4:nz n s=some (GQ s):=NK (by omega) (by omega);cases j with
  | mk hv1 hv2=>
  simp only[bS,pg,Xv,VW];unfold UT;by_cases k1:k=1
  ·subst k1; cases b<;>exact⟨rfl,rfl⟩
  by_cases k2:k=2
  ·subst k2
   simp only[Int.reduceBEq,ql,qk,t1,t2,qG];exact⟨rfl,rfl⟩
  by_cases k3:k=3
  ·subst k3
   simp only[Int.reduceBEq,ql,qk,t3,t4,qG];exact⟨rfl,rfl⟩
  by_cases k6:k=6
  ·subst k6
   simp only[Int.reduceBEq,ql,qk,t1,t2,qG];rw[zz (by unfold xr; simp only[ja,jc]; omega)];exact⟨rfl,rfl⟩
  by_cases k7:k=7
  ·subst k7
   simp only[Int.reduceBEq,ql,qk,t1,t2,qG];rw[zz (by unfold xr; simp only[ja,jc]; omega)];exact⟨rfl,rfl⟩
  have m:=vD l;by_cases k4:k=4
  ·subst k4
   have c:∀ v∈l,bS n v=some (UT v)/\pg n v=some (UT v):=fun v hm=>ih (by omega) v (hv2 (.inl rfl) v hm) (by have:=vM hm; omega) (by have:=vM hm; omega)
   refine⟨?_,?_⟩
   ·exact Se (ks:=ks) (x1:=4) (l:=l) (by omega) (by omega) (by omega) (.inl rfl) (fun v hm=>(c v hm).1) hv1
   exact qg4 (ks:=ks) (l:=l) (by omega) (by omega) (by omega) (fun v hm=>(c v hm).2)
  by_cases k5:k=5
  ·subst k5
   have c:∀ v∈l,bS n v=some (UT v)/\pg n v=some (UT v):=fun v hm=>ih (by omega) v (hv2 (.inr rfl) v hm) (by have:=vM hm; omega) (by have:=vM hm; omega)
   refine⟨?_,?_⟩
   ·exact Se (ks:=ks) (x1:=5) (l:=l) (by omega) (by omega) (by omega) (.inr rfl) (fun v hm=>(c v hm).1) hv1
   exact qg5 (ks:=ks) (l:=l) (by omega) (by omega) (by omega) (fun v hm=>(c v hm).2) (hv1 rfl)
  simp only[kbf.2 k1,kbf.2 k2,kbf.2 k3,kbf.2 k4,kbf.2 k5,kbf.2 k6,kbf.2 k7,qk,if_neg k1,if_neg k2,if_neg k3,if_neg k4,if_neg k5,if_neg k6,if_neg k7];exact⟨rfl,trivial⟩
end W
end
section
open Go Ax
namespace W
theorem qiz:∀ a b:List UInt8,Op.bytesLess a b=decide (a<b)
 | [],[]=>by simp[Op.bytesLess]
 | [],_::_=>by simp[Op.bytesLess]
 | _::_,[]=>by simp[Op.bytesLess]
 | x::xs,y::ys=>by
  have ih:=qiz xs ys;simp only[Op.bytesLess,ih];by_cases h:x<y
  ·simp[h,List.cons_lt_cons_iff]
  by_cases h2:x=y
  ·subst h2; simp[List.cons_lt_cons_iff]
  simp[h,h2,List.cons_lt_cons_iff]
theorem GF {a b c:List UInt8} (h:a<b) (d:b<c):a<c:=List.lt_trans h d
theorem bl (a:List UInt8):¬ a<a:=List.lt_irrefl a
theorem qem {a b:List UInt8}:¬ a<b↔b<=a:=List.not_lt
def Hj (ks:List (List UInt8)):Prop:=∀ (i:Nat) (x y:List UInt8),ks[i]? =some x->ks[i+1]? =some y->x<y
theorem Hj.lt {ks:List (List UInt8)} (h:Hj ks):∀ (d i:Nat) (x y:List UInt8),ks[i]? =some x->ks[i+d+1]? =some y->x<y
 | 0,i,x,y,hx,hy=>h i x y hx hy
 | d+1,i,x,y,hx,hy=>by
  have a:=qL hy;obtain⟨z,hz⟩:∃ z,ks[i+d+1]? =some z:=⟨_,jf (by omega)⟩;exact GF (h.lt d i x z hx hz) (h _ z y hz (by rw[← hy]; congr 1))
theorem Hj.lt' {ks:List (List UInt8)} (h:Hj ks) {i j:Nat} {x y:List UInt8} (a:i<j) (b:ks[i]? =some x) (c:ks[j]? =some y):x<y:=by
 obtain⟨d,rfl⟩:=Nat.exists_eq_add_of_lt a;exact h.lt d i x y b c
theorem Fh {A R:Type} {o:Option A} {k:A->Option R} {r:R} (h:bnd o k=some r):∃ a,o=some a/\k a=some r:=by
 cases o with
 | none=>cases h
 | some a=>exact⟨a,rfl,h⟩
theorem qpe {v:Val} (h:kd v<=3):ShOk v:=by
 obtain⟨k,b,i,s,l,ks⟩:=v;have h:k<=3:=h;exact .mk (fun e=>by omega) fun e=>by omega
end W
end
section
open Go Ax Go.RowKit
namespace W
set_option maxRecDepth 10000
theorem qkf {A:Type} {l:List A} {i:Nat} {x:A} (h:l[i]? =some x):l.set i x=l:=by
 obtain⟨a,e⟩:=jH.1 h;subst e;exact List.set_getElem_self a
theorem qey:∀ n:Nat,n<=137438953472->∀ v:Val,tm v<n->fu n v=some v:=by
 intro n
 induction n with
 | zero=>intro _ _ h; omega
 | succ n ih=>
  intro hn v q;obtain⟨e,f,g,o,c,d⟩:=v;have t:br c<n/\d.length<n:=by
   have:=xi d;simp only[sS]at this;simp only[tm]at q;omega
  have u:=vD c;have a:∀ k:Nat,(Val.rows (List.replicate k (Val.mk (0:Int) false (0:Int) ([]:List UInt8) ([]:List Val) ([]:List (List UInt8))))).length=k:=fun k=>by simp
  have loop:∀ (m i:Nat),i<=c.length->c.length - i<m->qo (bh n c.length (fu n) d e f g o) m ((i:Int),c)=some (Val.mk e f g o c d):=by
   intro m
   induction m with
   | zero=>intro i _ h; omega
   | succ m ihm=>
    intro i w hm;rw[qO];generalize qo (bh n c.length (fu n) d e f g o) m=nx at ihm ⊢;unfold bh;simp only[a];by_cases j:i<c.length
    ·obtain⟨x,p⟩:∃ x,c[i]? =some x:=⟨_,jf j⟩
     have r:=ih (by omega) x (by have:=vM (List.mem_of_getElem? p); omega);obtain⟨a1,a2,a3,a4,a5,y⟩:=x;rw[kdt (show(i:Int)<(c.length:Int) by omega)];simp only[kct,W.natI_nat,qc,kdt j,qo0,p,r];rw[qU (by omega),qkf p];exact ihm (i+1) (by omega) (by omega)
    rw[kdf (show ¬ (i:Int)<(c.length:Int) by omega)];simp only[kcf];rw[zz (by simp[qi]; omega)]
  simp only[fu,Zp,ze,W.natI_nat,qc,List.length_replicate,decide_true,qo0];rw[zz (by omega)];exact loop n 0 (jT _) (by omega)
theorem qj1:∀ n:Nat,n<=137438953472->∀ v:Val,tm v<n->pe n v=some v:=by
 intro n
 induction n with
 | zero=>intro _ _ h; omega
 | succ n ih=>
  intro hn v p;obtain⟨e,f,g,m,c,d⟩:=v;have t:br c<n/\d.length<n:=by
   have:=xi d;simp only[sS]at this;simp only[tm]at p;omega
  have u:=vD c;simp only[pe,VT];refine bY (B:=bD n c (pe n) d e f g m) (fun i=>(c.take i,((i:Nat):Int))) c.length (fun i j o=>?_) (fun o=>?_) (by omega)
  ·obtain⟨x,a⟩:∃ x,c[i]? =some x:=⟨_,jf j⟩
   have q:=ih (by omega) x (by have:=vM (qw a); omega);have r:=GX a;obtain⟨a1,a2,a3,a4,a5,w⟩:=x;simp only[bD,ze,qx j,kct,qf a,qG,q];rw[r,zz (by rw[ju]; omega),qU (by omega)]
  show bD n c (pe n) d e f g m o (c.take c.length,((c.length:Nat):Int))=_;rw[List.take_length];unfold bD;simp only[ze,qm,kcf];rw[zz (by rw[qn]; omega)]
theorem qeo {R:Type} {B:(Int×Int->Option R)->Int×Int->Option R} (P:Nat->Bool) (len:Nat) (hmono:∀ a b,a<=b->b<len->P b=true->P a=true)
  (g:∀ i j:Nat,i<j->j<=len->∀ c,B c ((i:Int),(j:Int))=bif P ((i+j) / 2)then c ((((i+j) / 2+1:Nat):Int),(j:Int))else c ((i:Int),(((i+j) / 2:Nat):Int)))
  {rest:Nat->Option R} (he:∀ i:Nat,i<=len->∀ c,B c ((i:Int),(i:Int))=rest i) {n:Nat} (hn:len<n) :
  ∃ i:Nat,i<=len/\(∀ a,a<i->P a=true)/\(∀ a,i<=a->a<len->P a=false)/\qo B n ((0:Int),(len:Int))=rest i:=by
 have key:∀ (m i j:Nat),i<=j->j<=len->j - i<m->(∀ a,a<i->P a=true)->(∀ a,j<=a->a<len->P a=false) ->
   ∃ q:Nat,q<=len/\(∀ a,a<q->P a=true)/\(∀ a,q<=a->a<len->P a=false)/\qo B m ((i:Int),(j:Int))=rest q:=by
  intro m
  induction m with
  | zero=>intro i j _ _ h; omega
  | succ m ih=>
   intro i j o d hm h1 h2;rw[qO];by_cases h:i=j
   ·subst h
    exact⟨i,d,h1,h2,he i d _⟩
   rw[g i j (by omega) d];cases hp:P ((i+j) / 2)with
   | true=>
    exact ih _ _ (by omega) d (by omega) (fun a f=>hmono a _ (by omega) (by omega) hp) h2
   | false=>
    refine ih _ _ (by omega) (by omega) (by omega) h1 fun a f e=>?_;cases p:P a with
    | false=>rfl
    | true=>rw[hmono _ a f e p]at hp; cases hp
 exact key n 0 len (jT _) (jx _) (by omega) (fun a h=>by omega) fun a h r=>by omega
theorem qq2 (z:Int) (a:0<=z) (h1:z<18446744073709551616):kwr .u64 z=z:=qak z a h1
theorem qqx {i j:Nat} (h:i+j<=1152921504606846976):kwr .i64 (Int.fdiv (kwr .u64 (kwr .i64 ((i:Int)+(j:Int)))) (2 ^ (min (Int.toNat (1:Int)) IntKind.u64.bits)))=(((i+j) / 2:Nat):Int):=by
 rw[UW (i:=(i:Int)+(j:Int)) (by omega) (by omega),qq2 _ (by omega) (by omega)];have e:((i:Int)+(j:Int))=((i+j:Nat):Int):=by omega
 have:=fdn (i+j) 2;rw[e,show((2:Int) ^ (min (Int.toNat (1:Int)) IntKind.u64.bits))=((2:Nat):Int)from rfl,this,UW (by omega) (by omega)]
def Hl:Val×Bool:=(Val.mk (0:Int) false (0:Int) ([]:List UInt8) ([]:List Val) ([]:List (List UInt8)),false)
def qa7 (k:Int) (l:List Val) (ks:List (List UInt8)) (key:List UInt8):Val×Bool:=
 if k=5/\key∈ks then(match l[ks.idxOf key]? with|some v=>(v,true)|none=>Hl)else Hl
theorem qa8 {ks:List (List UInt8)} {key:List UInt8} (h:Hj ks) {i:Nat} (a:ks[i]? =some key):ks.idxOf key=i:=by
 have hm:key∈ks:=qw a;have c:=List.idxOf_lt_length_of_mem hm;have he:ks[ks.idxOf key]? =some key:=by rw[jf c,List.getElem_idxOf]
 rcases Nat.lt_trichotomy (ks.idxOf key) i with h1|h1|h1
 ·exact absurd (h.lt' h1 he a) (bl _)
 ·exact h1
 exact absurd (h.lt' h1 a he) (bl _)
section
variable {n:Nat} (hn:n<=137438953472) {k:Int} {b:Bool} {i:Int} {s:List UInt8} {l:List Val} {ks:List (List UInt8)} (hsz:tm (.mk k b i s l ks)<n) (hk:ks.length=l.length) (hr:Hj ks)
include hn hsz hk hr
theorem qg3 (key:List UInt8):ZO n (.mk k b i s l ks) key=some (qa7 k l ks key):=by
 have r:br l<n:=by simp only[tm]at hsz; omega
 have t:=vD l;unfold ZO;by_cases d:k=5
 ·subst d
  have e:=zY (B:=bw n ks 5 key l) (fun k=>((k:Nat):Int)) (l:=ks) (fun x=>if x=key then some (qa7 5 l ks key)else none) (rest:=some Hl)
   (fun j x o a=>by
    have p:=qL a;obtain⟨v,f⟩:∃ v,l[j]? =some v:=⟨_,jf (by omega)⟩;have q:=qj1 n (by omega) v (by have:=vM (qw f); omega);have g:=f;obtain⟨a1,a2,a3,a4,a5,u⟩:=v;simp only[bw,qn,qx p,kct,BEq.rfl,qf a,qc];by_cases c:x=key
    ·subst c
     rw[if_pos rfl,BEq.rfl,kct,qf f,qc];simp only[q,qc,qjv];unfold qa7;rw[if_pos ⟨rfl,qw a⟩,qa8 hr a,g]
    rw[if_neg c,kbf.2 c,kcf,qU (by omega)];rfl)
   (fun o=>by simp only[bw,qn,qm,kcf]; rfl) (n:=n) (by omega)
  refine Eq.trans e ?_;have key2:∀ suf:List (List UInt8),vu (fun x=>if x=key then some (qa7 5 l ks key)else none) suf=if key∈suf then some (qa7 5 l ks key)else none:=by
   intro suf
   induction suf with
   | nil=>rfl
   | cons x suf ih=>
    simp only[vu];by_cases a:x=key
    ·subst a; simp
    rw[if_neg a];simp only[ih,jg,Ne.symm a,false_or]
  rw[key2];by_cases hm:key∈ks
  ·rw[if_pos hm]; rfl
  rw[if_neg hm];show some Hl=_;unfold qa7;rw[if_neg (fun h=>hm h.2)]
 obtain⟨n,rfl⟩:∃ m,n=m+1:=⟨n - 1,by omega⟩;show qo (bw (n+1) ks k key l) (n+1) (0:Int)=_;rw[qO];simp only[bw,kbf.2 d,Bool.cond_self,kcf];unfold qa7;rw[if_neg (fun h=>d h.1)]
 rfl
theorem aO (key:List UInt8):sM n (.mk k b i s l ks) key=some (qa7 k l ks key):=by
 have K:br l<n:=by simp only[tm]at hsz; omega
 have L:=vD l;have f:∀ x:List UInt8,dY n x key=some (Op.bytesLess x key):=fun x=>by simp[dY,cK]
 obtain⟨q,M,C,D,E⟩:=qeo (B:=zp n ks key) (fun j=>decide (∃ x,ks[j]? =some x/\x<key)) ks.length
  (fun a c r A hp=>by
   obtain⟨x,e,g⟩:=kod hp;rcases Nat.lt_or_eq_of_le r with h|rfl
   ·obtain⟨y,m⟩:∃ y,ks[a]? =some y:=⟨_,jf (by omega)⟩
    exact kdt ⟨y,m,GF (hr.lt' h m e) g⟩
   exact hp)
  (fun i j t o F=>by
   obtain⟨x,e⟩:∃ x,ks[(i+j) / 2]? =some x:=⟨_,jf (by omega)⟩;simp only[zp,qx t,kct,qqx (show i+j<=1152921504606846976 by omega),qf e,qc,f,qiz];have:(decide (∃ y,ks[(i+j) / 2]? =some y/\y<key))=decide (x<key):=by
    rw[Bool.eq_iff_iff,decide_eq_true_iff,decide_eq_true_iff,e];exact⟨fun⟨y,m,h⟩=>by cases m; exact h,fun h=>⟨x,rfl,h⟩⟩
   rw[this,qU (by omega)])
  (rest:=fun q=>some ((q:Int),(match ks[q]? with|some x=>x==key|none=>false)))
  (fun i N F=>by
   simp only[zp,qm,kcf,qn];by_cases h:i=ks.length
   ·subst h
    simp[fU]
   have p:i<ks.length:=by omega
   obtain⟨x,e⟩:∃ x,ks[i]? =some x:=⟨_,jf p⟩;simp only[qx p,zg,qf e,qc,e,Bool.true_and,kct];cases G:x==key with
   | true=>simp[fU]
   | false=>simp[gF])
  (n:=n) (by omega)
 have H:zR n ks key=some ((q:Int),(match ks[q]? with|some x=>x==key|none=>false)):=by
  unfold zR;rw[qn];exact E
 unfold sM;simp only[H,qc];have d:(match ks[q]? with|some x=>x==key|none=>false)=decide (key∈ks):=by
  rw[Bool.eq_iff_iff,decide_eq_true_iff]
  constructor
  ·intro h
   cases e:ks[q]? with
   | none=>rw[e]at h; cases h
   | some x=>
    rw[e]at h;have:=beq_iff_eq.1 h;subst this;exact qw e
  intro h;obtain⟨j,o⟩:=List.getElem?_of_mem h;have I:=qL o;have:j=q:=by
   rcases Nat.lt_trichotomy j q with h1|h1|h1
   ·obtain⟨x,e,g⟩:=kod (C j h1)
    rw[o]at e; cases e;exact absurd g (bl _)
   ·exact h1
   obtain⟨y,m⟩:∃ y,ks[q]? =some y:=⟨_,jf (by omega)⟩;have:=of_decide_eq_false (D q (jx _) (by omega));exact absurd ⟨y,m,hr.lt' h1 m o⟩ this
  subst this;rw[o]; simp
 rw[d];unfold qa7;by_cases hm:key∈ks
 ·rw[kdt hm]
  by_cases u:k=5
  ·subst u
   obtain⟨j,o⟩:=List.getElem?_of_mem hm;have e:ks[q]? =some key:=by
    rw[kdt hm]at d;cases e:ks[q]? with
    | none=>rw[e]at d; cases d
    | some x=>rw[e]at d; rw[beq_iff_eq.1 d]
   have J:=qL e;obtain⟨v,w⟩:∃ v,l[q]? =some v:=⟨_,jf (by omega)⟩;have A:=qey n (by omega) v (by have:=vM (qw w); omega);rw[if_pos ⟨rfl,hm⟩,qa8 hr e,w];obtain⟨a1,a2,a3,a4,a5,O⟩:=v;have z:decide ((q:Int)≥(((Val.rows l).length:Nat):Int))=false:=kdf (by rw[ze]; omega);simp only[jq,bne_self_eq_false,kcf,z,qf w,qc,A]
  have:(k != 5)=true:=by simpa using u
  rw[if_neg (fun h=>u h.1),this]
  rfl
 rw[kdf hm,if_neg (fun h=>hm h.2)]
 rfl
end
end W
end
section
open Go Ax
namespace W
def Rm (s:List UInt8):List (List UInt8)->List (List UInt8)
 | []=>[s]
 | x::l=>if x<s then x::Rm s l else if x=s then x::l else s::x::l
abbrev Up (L:List (List UInt8)):Prop:=L.Pairwise (· < ·)
theorem LF (s y:List UInt8):∀ L,y∈Rm s L↔y=s\/y∈L
 | []=>by simp[Rm]
 | x::l=>by
  unfold Rm;have:=LF s y l;split
  ·simp only[jg,this]
   constructor
   ·rintro(h|h|h)
    ·exact .inr (.inl h)
    ·exact .inl h
    exact .inr (.inr h)
   rintro(h|h|h)
   ·exact .inr (.inl h)
   ·exact .inl h
   exact .inr (.inr h)
  split
  ·rename_i h; subst h
   simp
  simp
theorem Ul (s:List UInt8):∀ L,(Rm s L).length<=L.length+1
 | []=>by simp[Rm]
 | x::l=>by
  have:=Ul s l;unfold Rm;split
  ·simp only[ja]; omega
  split
  ·simp
  simp
theorem GL (s:List UInt8):∀ L,Up L->Up (Rm s L)
 | [],_=>by simp[Rm]
 | x::l,h=>by
  have h:=List.pairwise_cons.1 h;unfold Rm;split
  ·rename_i c
   refine List.pairwise_cons.2 ⟨fun y a=>?_,GL s l h.2⟩;rcases(LF s y l).1 a with rfl|a
   ·exact c
   exact h.1 y a
  split
  ·exact List.pairwise_cons.2 h
  rename_i h1 h2;have b:s<x:=by
   rcases Std.le_iff_lt_or_eq.1 (qem.1 h1)with h3|h3
   ·exact h3
   exact absurd h3.symm h2
  refine List.pairwise_cons.2 ⟨fun y a=>?_,List.pairwise_cons.2 h⟩;rcases jg.1 a with rfl|a
  ·exact b
  exact GF b (h.1 y a)
theorem lC {s x:List UInt8} {l:List (List UInt8)} (b:s<x) (h:Up (x::l)):∀ y∈x::l,y≠s:=fun y a e=>by
 subst e;rcases jg.1 a with rfl|a
 ·exact bl _ b
 exact bl _ (GF b ((List.pairwise_cons.1 h).1 _ a))
section
variable {n:Nat} (hn:n<=137438953472)
include hn
theorem Du {L:List (List UInt8)} (z:Up L) (h:L.length+2<n) (s:List UInt8):ZW n L s true=some (Rm s L):=by
 have key:∀ (suf:List (List UInt8)) (k m:Nat) (acc:List (List UInt8)),(∀ j,suf[j]? =L[k+j]?)->k+suf.length=L.length->suf.length<m->acc.length<=k+1 ->
   (Up suf->acc.length<=k->qo (uj n L s) m (acc,false,(k:Int))=some (acc++Rm s suf))/\((∀ y∈suf,y≠s)->qo (uj n L s) m (acc,true,(k:Int))=some (acc++suf)):=by
  intro suf
  induction suf with
  | nil=>
   intro k m acc p q hm A;obtain⟨m,rfl⟩:∃ r,m=r+1:=⟨m - 1,by simp at hm; omega⟩;have:k=L.length:=by simpa using q
   subst this;simp only[qO];refine⟨fun _ B=>?_,fun _=>?_⟩
   ·unfold uj dT
    simp only[qn,qm,qk,jp,ql];rw[zz (by rw[jb,ja,jc]; omega)];rfl
   unfold uj dT;simp only[qn,qm,qk,jq,List.append_nil]
  | cons x suf ih=>
   intro k m acc p q hm A;obtain⟨m,rfl⟩:∃ r,m=r+1:=⟨m - 1,by simp at hm; omega⟩;have t:L[k]? =some x:=by have:=p 0; simpa using this.symm
   have c:=qL t;have u:∀ j,suf[j]? =L[k+1+j]?:=fun j=>by
    have:=p (j+1);rw[show k+(j+1)=k+1+j by omega]at this;simpa using this
   simp only[ja]at q hm;have f:=fun acc=>ih (k+1) m acc u (by omega) (by omega)
   have k9:∀ (out:List (List UInt8)) (d:Bool) (o:List (List UInt8)×Bool×Int->Option (List (List UInt8))),out.length<=k+1->mH n L (k:Int) s o (out,d)=o ((if x=s then out else out++[x]),d,((k+1:Nat):Int)):=by
    intro out d o C;unfold mH sa;simp only[qf t,qG];by_cases a:x=s
    ·subst a
     simp only[BEq.rfl,jq,qk,if_true];rw[qU (by omega)]
    rw[kbf.2 a,jp,ql,if_neg a,zz (by rw[qn,jb,ja,jc]; omega),qU (by omega)]
   simp only[qO];clear ih;generalize qo (uj n L s) m=o at f ⊢;refine⟨fun hu B=>?_,fun g=>?_⟩
   ·have i:=List.pairwise_cons.1 hu
    unfold uj;simp only[qn,qx c,ql,jp,zg,qf t,qG,qiz];unfold Rm;by_cases b:x<s
    ·rw[kdt b,if_pos b,jq,qk,k9 _ _ _ (by omega),if_neg (by rintro rfl; exact bl _ b),(f (acc++[x]) (by rw[jb,ja,jc]; omega)).1 i.2 (by rw[jb,ja,jc]; omega)]
     simp
    rw[kdf b,if_neg b,jp,ql,zz (by rw[jb,ja,jc]; omega),k9 _ _ _ (by rw[jb,ja,jc]; omega)];by_cases a:x=s
    ·subst a
     rw[if_pos rfl,if_pos rfl,(f (acc++[x]) (by rw[jb,ja,jc]; omega)).2 (fun y l e=>by subst e; exact bl _ (i.1 _ l))]
     simp
    have v:s<x:=by
     rcases Std.le_iff_lt_or_eq.1 (qem.1 b)with h3|h3
     ·exact h3
     exact absurd h3.symm a
    rw[if_neg a,if_neg a];rw[(f (acc++[s]++[x]) (by simp only[jb,ja,jc]; omega)).2 (fun y l=>lC v hu y (List.mem_cons_of_mem _ l))]
    simp
   unfold uj;simp only[qn,qx c,ql,jq,fU,qG,qk];by_cases w:acc.length<=k+1
   ·rw[k9 _ _ _ w,if_neg (g x (by simp))]
    rw[(f (acc++[x]) (by rw[jb,ja,jc]; omega)).2 (fun y l=>g y (List.mem_cons_of_mem _ l))]
    simp
   omega
 have:=(key L 0 n [] (fun j=>by simp) (by simp) (by omega) (by simp)).1 z (by simp)
 unfold ZW;simpa using this
end
def Ck (l:List (List UInt8)) (m:List (List UInt8×Int)):List (List UInt8×Int):=l.foldl (fun m s=>db s 1 m) m
def Xg (l:List (List UInt8)) (L:List (List UInt8)):List (List UInt8):=l.foldl (fun L s=>Rm s L) L
theorem fT (a b:List (List UInt8)) (m:List (List UInt8×Int)):Ck (a++b) m=Ck b (Ck a m):=by simp[Ck]
theorem dw (a b L:List (List UInt8)):Xg (a++b) L=Xg b (Xg a L):=by simp[Xg]
theorem Zf:∀ l L,Up L->Up (Xg l L)
 | [],_,h=>h
 | s::l,L,h=>Zf l _ (GL s L h)
theorem tG:∀ l L,(Xg l L).length<=L.length+l.length
 | [],_=>by simp[Xg]
 | s::l,L=>by
  have h1:=tG l (Rm s L);have h2:=Ul s L;simp only[Xg,List.foldl_cons,ja]at h1 ⊢;omega
structure MarkR (m:List (List UInt8×Int)) (L:List (List UInt8)):Prop where
 up:Up L
 nd:(m.map (·.1)).Nodup
 mem:∀ x,x∈m.map (·.1)↔x∈L
theorem MarkR.nil:MarkR [] []:=⟨.nil,.nil,fun _=>Iff.rfl⟩
theorem NC (s:List UInt8) (v:Int):∀ m:List (List UInt8×Int),(db s v m).map (·.1)=if s∈m.map (·.1)then m.map (·.1)else m.map (·.1)++[s]
 | []=>rfl
 | (k,w)::m=>by
  have ih:=NC s v m;by_cases h:s=k
  ·subst h
   simp[db]
  simp only[db,kbf.2 h,kcf,jl,ih,jg,h,false_or];split<;>simp
theorem MarkR.step {m:List (List UInt8×Int)} {L:List (List UInt8)} (h:MarkR m L) (s:List UInt8):MarkR (db s 1 m) (Rm s L):=by
 refine⟨GL s L h.up,?_,fun x=>?_⟩
 ·rw[NC]
  split
  ·exact h.nd
  rename_i c;exact List.nodup_append.2 ⟨h.nd,by simp,fun a f b d=>by simp at d; subst d; intro e; subst e; exact c f⟩
 rw[NC,LF,← h.mem];split
 ·rename_i c
  constructor
  ·exact .inr
  rintro(rfl|h)
  ·exact c
  exact h
 rw[jz,jA]; exact Or.comm
theorem MarkR.adds:∀ {l:List (List UInt8)} {m:List (List UInt8×Int)} {L:List (List UInt8)},MarkR m L->MarkR (Ck l m) (Xg l L)
 | [],_,_,h=>h
 | s::l,_,_,h=>MarkR.adds (l:=l) (h.step s)
theorem qkj {L:List (List UInt8)} (h:Up L):Qn L=L:=by
 unfold Qn;refine List.mergeSort_of_pairwise (h.imp fun h=>?_);exact kdt (Std.le_of_lt h)
theorem MarkR.list {m:List (List UInt8×Int)} {L:List (List UInt8)} (h:MarkR m L):Qn (m.map (·.1))=L/\m.length=L.length:=by
 have a:L.Nodup:=h.up.imp fun h e=>by subst e; exact bl _ h
 have p:(m.map (·.1)).Perm L:=(List.perm_ext_iff_of_nodup h.nd a).2 h.mem
 exact⟨by rw[Sc p,qkj h.up],by simpa using p.length_eq⟩
theorem MarkR.list_eq {n:Nat} {m:List (List UInt8×Int)} {L:List (List UInt8)} (h:MarkR m L) (a:L.length<=137438953472):cq n m=some L:=by
 unfold cq;rw[zz (by have:=h.list.2; omega)];have e:(m.map fun e=>e.1)=m.map (·.1):=rfl
 rw[e,qb5,h.list.1]
end W
end
section
open Go Ax
namespace W
def opX:qe->Int|.mk op _ _ _ _=>op
def qrj:qe->Val|.mk _ _ v _ _=>v
def qgl:qe->List UInt8|.mk _ s _ _ _=>s
def qd7:Val->List UInt8->Val×Bool|.mk k _ _ _ l ks,key=>qa7 k l ks key
def QV (params:Val) (x:qe):Option Val:=if opX x=1 then some (qrj x)else if opX x=3 then(if(qd7 params (qgl x)).2=true then some (qd7 params (qgl x)).1 else none)else none
def Zo (l k:List UInt8) (v:Val):List UInt8:=(((([73,58]++CB l)++[46])++CB k)++[61])++UT v
def Zy (params:Val) (d:qt):List UInt8:=match d.labels with
 | []=>[65]
 | l0::_=>(vu (fun e=>(QV params e.2).map (Zo l0 e.1)) (d.keys.zip d.vals)).getD ([76,58]++CB l0)
structure VOk (n:Nat) (v:Val):Prop where
 ok:ShOk v
 big:tm v<=1073741824
 fuel:401+tm v<=n
structure PGood (n:Nat) (params:Val):Prop where
 get1:∀ key,sM n params key=some (qd7 params key)
 get2:∀ key,ZO n params key=some (qd7 params key)
 ok:∀ key,(qd7 params key).2=true->VOk n (qd7 params key).1
section
variable {n:Nat} (hn:n<=137438953472)
include hn
theorem Fs {l k:List UInt8} {v:Val} (e:400<n) (f:l.length<n) (g:k.length<n) (a:l.length<=1073741824) (b:k.length<=1073741824) (d:VOk n v) :
  bP n l k v=some (Zo l k v)/\nK n l k v=some (Zo l k v):=by
 obtain⟨s1,s2⟩:=qhk n hn v d.ok d.big d.fuel;have i:=DF v (by have:=d.big; omega);have j:=d.big;have l1:=Fo l;have l2:=Fo k;obtain⟨a1,a2,a3,a4,a5,h⟩:=v;have c:∀ (K:Option (List UInt8)),chk (decide (((([73,58]:List UInt8).length+(CB l).length:Nat):Int)<=xr)) K=K:=fun K=>zz (by unfold xr; simp only[ja,jc]; omega)
 have c2:∀ (K:Option (List UInt8)),chk (decide ((((([73,58]:List UInt8)++CB l).length+([46]:List UInt8).length:Nat):Int)<=xr)) K=K:=fun K=>zz (by unfold xr; simp only[jb,ja,jc]; omega)
 have c3:∀ (K:Option (List UInt8)),chk (decide (((((([73,58]:List UInt8)++CB l)++([46]:List UInt8)).length+(CB k).length:Nat):Int)<=xr)) K=K:=fun K=>zz (by unfold xr; simp only[jb,ja,jc]; omega)
 have c4:∀ (K:Option (List UInt8)),chk (decide ((((((([73,58]:List UInt8)++CB l)++([46]:List UInt8))++CB k).length+([61]:List UInt8).length:Nat):Int)<=xr)) K=K:=fun K=>zz (by unfold xr; simp only[jb,ja,jc]; omega)
 have c5:∀ (K:Option (List UInt8)),chk (decide (((((((([73,58]:List UInt8)++CB l)++([46]:List UInt8))++CB k)++([61]:List UInt8)).length+(UT (.mk a1 a2 a3 a4 a5 h)).length:Nat):Int)<=xr)) K=K:=fun K=>zz (by unfold xr; simp only[jb,ja,jc]; omega)
 refine⟨?_,?_⟩
 ·unfold bP
  dsimp only
  rw[VP hn f a,qc,c,c2,VP hn g b,qc,c3,c4,s1,qc,c5];rfl
 unfold nK
 dsimp only
 rw[ER hn f a (by omega),qc,c,c2,ER hn g b (by omega),qc,c3,c4,s2,qc,c5];rfl
theorem qi9 {params:Val} (hp:PGood n params) (x:qe):∃ r:Val×Bool,pJ n x params=some r/\(r.2=true->QV params x=some r.1)/\(r.2=false->QV params x=none):=by
 have g:=hp.get1 (qgl x);obtain⟨o,s,v,a,gs⟩:=x;unfold QV;generalize hg:qd7 params (qgl (.mk o s v a gs))=q at g;obtain⟨a1,a2,a3,a4,a5,w⟩:=v;obtain⟨b,c,d,e,f,i⟩:=params;obtain⟨⟨j,k,l,m,p,t⟩,u⟩:=q;replace g:sM n (.mk b c d e f i) s=_:=g;by_cases h1:o=1
 ·subst h1
  exact⟨_,rfl,fun _=>rfl,fun h=>by cases h⟩
 by_cases h3:o=3
 ·subst h3
  refine⟨(.mk j k l m p t,u),by simp only[pJ,Int.reduceBEq,kct,kcf,g,qc],fun h=>?_,fun h=>?_⟩
  ·simp only at h
   subst h;rfl
  simp only at h;subst h;rfl
 refine⟨Hl,by simp only[Hl,pJ,kbf.2 h1,kbf.2 h3,kcf],fun h=>(by cases h),fun _=>?_⟩;show(if o=1 then _ else if o=3 then _ else none)=none;rw[if_neg h1,if_neg h3]
structure NOk (n:Nat) (d:qt):Prop where
 ks:d.keys.length=d.vals.length
 lit:∀ x∈d.vals,opX x=1->VOk n (qrj x)
 labs:∀ l∈d.labels,l.length<=1073741824/\l.length<n
 keys:∀ k∈d.keys,k.length<=1073741824/\k.length<n
 len:d.vals.length+400<n
theorem ad {params:Val} (hp:PGood n params) {d:qt} (Q:NOk n d):nN n d params=some (Zy params d)/\Vt n d params=some (Zy params d):=by
 obtain⟨dv,labs,keys,vals⟩:=d;obtain⟨L,A,x,c,hlen⟩:=Q;simp only at L A x c hlen;have R:=hp;obtain⟨g,i,m,p,t,u⟩:=params;unfold Zy;cases labs with
 | nil=>exact⟨rfl,rfl⟩
 | cons l0 labs=>
  simp only;have a:=x l0 (by simp);have hz:(keys.zip vals).length=vals.length:=by rw[List.length_zip]; omega
  have y:∀ {j:Nat} {e:List UInt8×qe},(keys.zip vals)[j]? =some e->keys[j]? =some e.1/\vals[j]? =some e.2:=fun h=>List.getElem?_zip_eq_some.1 h
  have C:((((qi (l0::labs)).length:Nat):Int)==0)=false:=by
   rw[qn];exact kbf.2 (by simp only[ja]; omega)
  have D:∀ (K:Option (List UInt8)),chk (decide (((([76,58]:List UInt8).length+(CB l0).length:Nat):Int)<=xr)) K=K:=fun K=>zz (by have:=Fo l0; unfold xr; simp only[ja,jc]; omega)
  have fin:∀ f:List UInt8×qe->Option (List UInt8),orE (vu f (keys.zip vals)) (some ([76,58]++CB l0))=some ((vu f (keys.zip vals)).getD ([76,58]++CB l0)):=fun f=>by cases vu f (keys.zip vals)<;>rfl
  have good:∀ (e:List UInt8×qe) (j:Nat) (v:Val),(keys.zip vals)[j]? =some e->QV (.mk g i m p t u) e.2=some v->VOk n v:=by
   intro e j v E b;unfold QV at b;split at b
   ·rename_i S
    cases b;exact A _ (qw (y E).2) S
   split at b
   ·split at b
    ·rename_i T
     cases b;exact hp.ok _ T
    cases b
   ·cases b
  refine⟨?_,?_⟩
  ·unfold nN
   dsimp only
   rw[C,kcf];refine(zY (B:=ba n vals g i m p t u (l0::labs) keys) (fun k=>((k:Nat):Int)) (l:=keys.zip vals) (fun e=>(QV (.mk g i m p t u) e.2).map (Zo l0 e.1)) (rest:=some ([76,58]++CB l0)) (fun j e M E=>?_) (fun M=>?_) (n:=n) (by omega)).trans (fin _)
   ·obtain⟨h1,h2⟩:=y E
    have F:=qL h2;obtain⟨r,P,G,H⟩:=qi9 hn hp e.2;have w:=good e j r.1 E;have z:=c e.1 (qw h1);obtain⟨U,⟨o,s,⟨a1,a2,a3,a4,a5,I⟩,J,gs⟩⟩:=e;obtain⟨⟨V,X,Y,Z,q5,q6⟩,N⟩:=r;simp only at h1 h2 P G H w z;simp only[ba,qu,qx F,ql,qf h2,qf h1,qG,nq,P];cases N with
    | true=>
     rw[G rfl,kct,(Fs hn (by omega) a.2 z.2 a.1 z.1 (w (G rfl))).1];rfl
    | false=>
     rw[H rfl,kcf,qU (by omega)];rfl
   rw[hz];simp only[ba,qu,qm,qk,nq,qG,VP hn a.2 a.1];rw[D]
  unfold Vt
  dsimp only
  rw[C,kcf];refine(zY (B:=pz n vals (l0::labs) keys g i m p t u) (fun k=>((k:Nat):Int)) (l:=keys.zip vals) (fun e=>(QV (.mk g i m p t u) e.2).map (Zo l0 e.1)) (rest:=some ([76,58]++CB l0)) (fun j e M E=>?_) (fun M=>?_) (n:=n) (by omega)).trans (fin _)
  ·obtain⟨h1,h2⟩:=y E
   have F:=qL h2;have w:=fun v=>good e j v E
   have z:=c e.1 (qw h1);have O:=hp.get2 (qgl e.2);obtain⟨U,⟨o,s,⟨a1,a2,a3,a4,a5,I⟩,J,gs⟩⟩:=e;simp only at h1 h2 w z;replace O:ZO n (.mk g i m p t u) s=some (qd7 (.mk g i m p t u) s):=O;simp only[pz,tz,qu,qx F,ql,qf h2,qf h1,qG,nq];by_cases o1:o=1
   ·subst o1
    have b:QV (.mk g i m p t u) (.mk 1 s (.mk a1 a2 a3 a4 a5 I) J gs)=some (.mk a1 a2 a3 a4 a5 I):=rfl;rw[b,BEq.rfl,kct,(Fs hn (by omega) a.2 z.2 a.1 z.1 (w _ b)).2];rfl
   by_cases o3:o=3
   ·subst o3
    have b:QV (.mk g i m p t u) (.mk 3 s (.mk a1 a2 a3 a4 a5 I) J gs)=if(qd7 (.mk g i m p t u) s).2=true then some (qd7 (.mk g i m p t u) s).1 else none:=rfl;rw[show((3:Int)==1)=false from rfl,kcf,BEq.rfl,kct,O];generalize qd7 (.mk g i m p t u) s=q at b ⊢;obtain⟨⟨V,X,Y,Z,q5,q6⟩,N⟩:=q;simp only[qG];cases N with
    | true=>
     rw[if_pos rfl]at b;rw[b,kct,(Fs hn (by omega) a.2 z.2 a.1 z.1 (w _ b)).2];rfl
    | false=>
     rw[if_neg (by simp)]at b;rw[b,kcf,qU (by omega)];rfl
   have b:QV (.mk g i m p t u) (.mk o s (.mk a1 a2 a3 a4 a5 I) J gs)=none:=by
    show(if o=1 then _ else if o=3 then _ else none)=none;rw[if_neg o1,if_neg o3]
   rw[b,kbf.2 o1,kcf,kbf.2 o3,kcf,qU (by omega)];rfl
  rw[hz];simp only[pz,qu,qm,qk,nq,qG,tZ,ER hn a.2 a.1 (show 28<n by omega)];rw[D];rfl
end
end W
end
section
open Go Ax
namespace W
theorem Dj (v:List UInt8) {f:List UInt8->Option Bool} (a:∀ x,f x=if x=v then some true else none):∀ l:List (List UInt8),orE (vu f l) (some false)=some (l.contains v)
 | []=>rfl
 | x::l=>by
  have ih:=Dj v a l;simp only[vu,a x];by_cases h:x=v
  ·subst h; simp
  have:(v==x)=false:=kbf.2 (Ne.symm h);simp only[if_neg h,List.contains_cons,this,Bool.false_or];exact ih
section
variable {n:Nat} (hn:n<=137438953472)
include hn
theorem oe {b:List (List UInt8)} (h:b.length<n) (v:List UInt8):rZ n b v=some (b.contains v):=by
 unfold rZ;refine(zY (B:=fC n b v) (fun k=>((k:Nat):Int)) (l:=b) (fun x=>if x=v then some true else none) (rest:=some false) (fun j x e d=>?_) (fun e=>?_) (n:=n) h).trans (Dj v (fun _=>rfl) b)
 ·have a:=qL d
  simp only[fC,qn,qx a,kct,qf d,qc];by_cases c:x=v
  ·subst c; simp
  rw[kbf.2 c,if_neg c,kcf,qU (by omega)];rfl
 simp only[fC,qn,qm,kcf]
theorem eS {b:List (List UInt8)} (h:b.length<n) (v:List UInt8):zP n b v=some (b.contains v):=by
 unfold zP uf;have key:∀ (suf:List (List UInt8)) (k m:Nat),(∀ j,suf[j]? =b[k+j]?)->k+suf.length=b.length->suf.length<m->∃ i:Int,qo (zB n b v) m (k:Int)=some i/\decide (i≥0)=suf.contains v:=by
  intro suf
  induction suf with
  | nil=>
   intro k m a c hm;obtain⟨m,rfl⟩:∃ d,m=d+1:=⟨m - 1,by simp at hm; omega⟩;have:k=b.length:=by simpa using c
   subst this;refine⟨-1,?_,rfl⟩;rw[qO];simp only[zB,qn,qm,kcf]
  | cons x suf ih=>
   intro k m a c hm;obtain⟨m,rfl⟩:∃ d,m=d+1:=⟨m - 1,by simp at hm; omega⟩;have f:b[k]? =some x:=by have:=a 0; simpa using this.symm
   have e:=qL f;simp only[ja]at c hm;obtain⟨i,h1,h2⟩:=ih (k+1) m (fun j=>by
    have:=a (j+1);rw[show k+(j+1)=k+1+j by omega]at this;simpa using this) (by omega) (by omega)
   rw[qO];simp only[zB,qn,qx e,kct,qf f,qc,List.contains_cons];cases g:v==x with
   | true=>exact⟨(k:Int),rfl,by rw[Bool.true_or]; exact kdt (Int.natCast_nonneg k)⟩
   | false=>
    refine⟨i,?_,by rw[Bool.false_or]; exact h2⟩;rw[kcf,qU (by omega)];exact h1
 obtain⟨i,h1,h2⟩:=key b 0 n (fun j=>by simp) (by simp) h
 have h1:qo (zB n b v) n (0:Int)=some i:=h1;rw[h1,qc,h2]
end
def LC:Option qy->List (List UInt8)
 | none=>[]
 | some e=>[if e.type_=[]then[88]else[84,58]++CB e.type_]
def XU (params:Val) (b:List (List UInt8)) (d:qt):List (List UInt8):=if d.var_=[]\/b.contains d.var_=false then[Zy params d]else[]
def sG (params:Val) (b:List (List UInt8)) (s:Option qy×qt):List (List UInt8):=LC s.1++XU params b s.2
def dd (params:Val):List (List UInt8)->List (Option qy×qt)->List (List UInt8)
 | _,[]=>[]
 | b,s::l=>sG params b s++dd params (b++[s.2.var_]) l
def de (l:List (Option qy×qt)):List (List UInt8):=l.map fun s=>s.2.var_
def df (params:Val):List (List UInt8)->List zx->List (List UInt8)
 | _,[]=>[]
 | b,p::l=>dd params b (cb p)++df params (b++de (cb p)) l
theorem HE (params:Val) (b:List (List UInt8)) (s:Option qy×qt):(sG params b s).length<=2:=by
 obtain⟨e,d⟩:=s;unfold sG XU LC;cases e<;>dsimp only<;>repeat' split
 all_goals simp
theorem GP (params:Val):∀ (l:List (Option qy×qt)) (b:List (List UInt8)),(dd params b l).length<=2 * l.length
 | [],_=>by simp[dd]
 | s::l,b=>by
  have h1:=HE params b s;have h2:=GP params l (b++[s.2.var_]);simp only[dd,jb,ja]; omega
theorem sQ {A R T:Type} (f:T->A->T):∀ (l:List A) (t:T),uT (R:=R) (fun t x=>.inr (f t x)) t l=.inr (l.foldl f t)
 | [],_=>rfl
 | x::l,t=>sQ f l (f t x)
theorem Ez {S:Type} (params:Val) (add:List (List UInt8)->S->S) (c:∀ a b s,add (a++b) s=add b (add a s)) (d:∀ s,add [] s=s):∀ (l:List (Option qy×qt)) (b:List (List UInt8)) (m:S),
  l.foldl (fun(t:List (List UInt8)×S) s=>(t.1++[s.2.var_],add (sG params t.1 s) t.2)) (b,m)=(b++de l,add (dd params b l) m)
 | [],b,m=>by simp[de,dd,d]
 | s::l,b,m=>by
  rw[List.foldl_cons,Ez params add c d l];simp only[de,dd,jl,c,jt,List.singleton_append]
structure POk (n:Nat) (p:zx):Prop where
 len:p.nodes.length=p.edges.length+1
 nodes:∀ d∈p.nodes,NOk n d
 edges:∀ e∈p.edges,e.type_.length<=1073741824/\e.type_.length<n
section
variable {n:Nat} (hn:n<=137438953472) (h400:400<n) {params:Val} (hp:PGood n params)
include hn h400 hp
theorem aN {R:Type} {t:List UInt8} (h:t.length<=1073741824/\t.length<n) (K:Option R):chk (decide (((([84,58]:List UInt8).length+(CB t).length:Nat):Int)<=xr)) K=K:=
 zz (by have:=Fo t; unfold xr; simp only[ja,jc]; omega)
theorem TL {p:zx} (u:POk n p) {b:List (List UInt8)} (O:b.length+p.nodes.length+1<n) (I:b.length+p.nodes.length<=1099511627776) (E:List (List UInt8)×Int×List (List UInt8×Int)->Option (List (List UInt8×Int))) (i:Int) (m:List (List UInt8×Int)) :
  (match params with|⟨f,g,h,j,o,q⟩=>qo (xU n p.nodes p.edges f g h j o q E i) n (b,(0:Int),m))=E (b++de (cb p),kwr .i64 (i+1),Ck (dd params b (cb p)) m):=by
 have A:=hp;obtain⟨f,g,h,j,o,q⟩:=params;have G:(cb p).length=p.nodes.length:=by simp[cb,u.len]
 have e:=xZ (B:=xU n p.nodes p.edges f g h j o q E i) (fun k (t:List (List UInt8)×List (List UInt8×Int))=>(t.1,((k:Nat):Int),t.2)) (fun k t=>t.1.length=b.length+k) (l:=cb p)
  (fun t s=>.inr (t.1++[s.2.var_],Ck (sG (.mk f g h j o q) t.1 s) t.2)) (rest:=fun t=>E (t.1,kwr .i64 (i+1),t.2))
  (fun k s t w J F=>by
   obtain⟨P,d⟩:=s;obtain⟨s1,s2,K⟩:=GV J;obtain⟨t1,t2⟩:=t;simp only at F;have C:=qL s1;have L:=u.nodes d (qw s1);have D:=(ad hn A L).1;have hw:∀ x:List (List UInt8)×Int×List (List UInt8×Int)->Option (List (List UInt8×Int)),∀ y,vX n t1 d.var_ x (k:Int) y=x (t1++[d.var_],((k+1:Nat):Int),y):=fun x y=>by
    unfold vX;rw[zz (by rw[qn,jb,ja,jc]; omega),qU (by omega)]
   have k14:∀ y,vk n d.var_ t1 d.labels d.keys d.vals f g h j o q w (k:Int) y=w (t1++[d.var_],((k+1:Nat):Int),Ck (XU (.mk f g h j o q) t1 d) y):=fun y=>by
    unfold vk XU;rw[eS hn (show t1.length<n by omega)];by_cases z:d.var_=[]
    ·rw[if_pos (.inl z),z]
     simp only[BEq.rfl,jq,fU,qG,ql];have c:nN n ⟨[],d.labels,d.keys,d.vals⟩ (.mk f g h j o q)=some (Zy (.mk f g h j o q) d):=by rw[← z]; exact D
     rw[c,qc,← z,hw];rfl
    rw[kbf.2 z];simp only[jp,zg,qG,qk];cases Q:t1.contains d.var_ with
    | false=>
     rw[if_pos (.inr rfl),jp,kct];have c:nN n ⟨d.var_,d.labels,d.keys,d.vals⟩ (.mk f g h j o q)=some (Zy (.mk f g h j o q) d):=D;rw[c,qc,hw];rfl
    | true=>
     rw[if_neg (by simp[z]),jq,kcf,hw];rfl
   simp only[tJ];unfold sG;obtain⟨v,R,ks,vs⟩:=d;simp only at k14;cases k with
   | zero=>
    obtain rfl:=s2 rfl;simp only[xU,zJ,qx C,ql,qf s1,qG];rw[show decide ((((0:Nat):Int))>0)=false from rfl,kcf,k14];rfl
   | succ k=>
    obtain⟨e,rfl,he⟩:=K k rfl;have r:=u.edges e (qw he);have M:decide ((((k+1:Nat):Int))>0)=true:=kdt (by omega);obtain⟨S,N,T,U,V⟩:=e;simp only at r;simp only[xU,zJ,qx C,ql,qf s1,qG,M,qh2 (show k+1<=1152921504606846976 by omega),qf he,LC];by_cases H:N=[]
    ·subst H
     rw[BEq.rfl,kct,k14,fT];rfl
    rw[kbf.2 H,kcf,VP hn r.2 r.1,qc,aN hn h400 A r,k14,fT,if_neg H];rfl)
  (fun k s t X _ F e=>by
   cases e;simp only[jb,ja,jc]at F ⊢;omega)
  (fun t w F=>by
   rw[G];simp only[xU,zJ,qm,kcf]) (n:=n) (by omega) (t0:=(b,m)) rfl
 rw[sQ,Ez _ Ck (fun a b s=>fT a b s) (fun _=>rfl)]at e
 exact e
theorem av {l:List zx} {p:zx} {q:Nat} (C:l[q]? =some p) (u:POk n p) {b:List (List UInt8)} (N:b.length+p.nodes.length+1<n) (E:b.length+p.nodes.length<=1099511627776) (D:List (List UInt8)×List (List UInt8)×Int->Option (List (List UInt8))) {L:List (List UInt8)} (O:Up L) (P:L.length+2 * p.nodes.length+4<n) :
  (match params with|⟨f,g,h,i,j,m⟩=>qo (ft n l (q:Int) f g h i j m D) n (L,b,(0:Int)))=D (Xg (dd params b (cb p)) L,b++de (cb p),kwr .i64 ((q:Int)+1)):=by
 have A:=hp;obtain⟨f,g,h,i,j,m⟩:=params;have F:(cb p).length=p.nodes.length:=by simp[cb,u.len]
 have e:=xZ (B:=ft n l (q:Int) f g h i j m D) (fun k (t:List (List UInt8)×List (List UInt8))=>(t.2,t.1,((k:Nat):Int))) (fun k t=>t.1.length=b.length+k/\Up t.2/\t.2.length<=L.length+2 * k) (l:=cb p)
  (fun t s=>.inr (t.1++[s.2.var_],Xg (sG (.mk f g h i j m) t.1 s) t.2)) (rest:=fun t=>D (t.2,t.1,kwr .i64 ((q:Int)+1)))
  (fun k s t c Q z=>by
   obtain⟨V,d⟩:=s;obtain⟨s1,s2,J⟩:=GV Q;obtain⟨t1,t2⟩:=t;obtain⟨z,hu,G⟩:=z;simp only at z hu G;have w:=qL s1;have R:=u.nodes d (qw s1);have y:=(ad hn A R).2;have hw:∀ x:List (List UInt8)×List (List UInt8)×Int->Option (List (List UInt8)),∀ o,dW n t1 d.var_ x (k:Int) o=x (o,t1++[d.var_],((k+1:Nat):Int)):=fun x o=>by
    unfold dW;rw[zz (by rw[qn,jb,ja,jc]; omega),qU (by omega)]
   have k25:∀ o,Up o->o.length+3<n->dV n l (q:Int) (k:Int) t1 f g h i j m c o=c (Xg (XU (.mk f g h i j m) t1 d) o,t1++[d.var_],((k+1:Nat):Int)):=fun o hm S=>by
    unfold dV XU uY;obtain⟨K,M⟩:=p;obtain⟨v,X,ks,vs⟩:=d;simp only at s1 hw y;simp only[qf C,qf s1,qG];rw[oe hn (show t1.length<n by omega)];by_cases H:v=[]
    ·subst H
     rw[if_pos (.inl rfl)];simp only[BEq.rfl,jq,fU,qG,ql];rw[y,qc,Du hn hm (by omega),qc,qc,hw];rfl
    rw[kbf.2 H];simp only[jp,zg,qG,qk];cases Y:t1.contains v with
    | false=>
     rw[if_pos (.inr rfl),jp,kct,y,qc,Du hn hm (by omega),qc,qc,hw];rfl
    | true=>
     rw[if_neg (by simp[H]),jq,kcf,hw];rfl
   simp only[tJ];unfold sG;obtain⟨K,M⟩:=p;simp only at w s1 J N E P;cases k with
   | zero=>
    obtain rfl:=s2 rfl;simp only[ft,qf C,qG,zJ,qx w,ql];rw[show decide ((((0:Nat):Int))>0)=false from rfl,kcf,k25 _ hu (by omega)];rfl
   | succ k=>
    obtain⟨e,rfl,he⟩:=J k rfl;have r:=u.edges e (qw he);have T:decide ((((k+1:Nat):Int))>0)=true:=kdt (by omega);have k27:∀ s:List UInt8,dX n t2 l (q:Int) ((k+1:Nat):Int) t1 f g h i j m c s=c (Xg (XU (.mk f g h i j m) t1 d) (Rm s t2),t1++[d.var_],((k+1+1:Nat):Int)):=fun s=>by
     unfold dX uY;rw[Du hn hu (by omega),qc,qc,k25 _ (GL _ _ hu) (by have:=Ul s t2; omega)]
    obtain⟨Z,U,e3,e4,e5⟩:=e;simp only at r;simp only[ft,qf C,qG,zJ,qx w,ql,T,qh2 (show k+1<=1152921504606846976 by omega),qf he,LC];by_cases I:U=[]
    ·subst I
     rw[BEq.rfl,jq,kcf,k27,dw];rfl
    unfold Qb;rw[kbf.2 I,jp,kct,ER hn r.2 r.1 (by omega),qc,aN hn h400 A r,qc,k27,dw,if_neg I];rfl)
  (fun k s t t' _ z e=>by
   cases e;have h1:=HE (.mk f g h i j m) t.1 s;have h2:=tG (sG (.mk f g h i j m) t.1 s) t.2;refine⟨?_,Zf _ _ z.2.1,?_⟩
   ·simp only[jb,ja,jc]; omega
   simp only; omega)
  (fun t c z=>by
   rw[F];obtain⟨K,M⟩:=p;simp only[ft,qf C,qG,zJ,qm,qk]) (n:=n) (by omega) (t0:=(b,L)) ⟨rfl,O,by simp⟩
 rw[sQ,Ez _ Xg (fun a b s=>dw a b s) (fun _=>rfl)]at e
 exact e
end
end W
end
section
open Go Ax
namespace W
theorem Fm {n:Nat} (a:n<=137438953472) {x:qe} (c:40+dC x<n):∃ b,zT n x 32=some b/\uk n x=some b/\(b=true->WfE x):=by
 obtain⟨b,h1,h2,h3⟩:=qka n a x 32 c;obtain⟨x1,x2,⟨e,f,g,h,i,j⟩,k,d⟩:=x;exact⟨b,h1,by simp only[uk,h2,qc],h3⟩
theorem oV (n:Nat) (keys:List (List UInt8)) (vals:List qe) (f:n<=137438953472) (hlen:keys.length=vals.length) (o:40+uF vals<n):∀ m k:Nat,k<=keys.length->keys.length - k<m ->
  ∃ r,qo (uD n keys vals) m (k:Int)=some r/\qo (fy n keys vals) m (k:Int)=some r/\(r=true->∀ x∈vals.drop k,WfE x):=by
 have p:=xY vals;intro m
 induction m with
 | zero=>intro k _ h; omega
 | succ m ih=>
  intro k q hm;rw[qO,qO];by_cases he:k=keys.length
  ·subst he
   refine⟨true,?_,?_,?_⟩
   ·simp only[uD,qn,qm,kcf]
   ·simp only[fy,qn,qm,kcf]
   intro _ x a;rw[hlen,List.drop_length]at a;cases a
  ·have d:k<keys.length:=by omega
   have e:k<vals.length:=by omega
   have c:=jf d;have a:=jf e;rw[jo e];generalize vals[k]=x at a;generalize keys[k]=s at c;obtain⟨b,h1,h2,h3⟩:=Fm f (x:=x) (by have:=gH (qw a); omega);obtain⟨r,h4,g,i⟩:=ih (k+1) (by omega) (by omega);obtain⟨x1,x2,⟨t,u,v,w,z,A⟩,B,j⟩:=x;simp only[uD,fy,qn,qx d,kct,qf a,qf c,qc,zD,zU];rw[qU (by omega)];cases Xp s with
   | false=>exact⟨false,rfl,rfl,fun h=>by cases h⟩
   | true=>
    simp only[jq,jp,zg,qc,h1,h2,kcf];cases b with
    | false=>exact⟨false,rfl,rfl,fun h=>by cases h⟩
    | true=>
     refine⟨r,h4,g,fun l y c=>?_⟩;rcases jg.1 c with rfl|c
     ·exact h3 rfl
     exact i l y c
theorem an {n:Nat} (c:n<=137438953472) {keys:List (List UInt8)} {vals:List qe} (f:keys.length<n) (d:40+uF vals<n) :
  ∃ b,fI n ⟨keys,vals⟩=some b/\mC n keys vals=some b/\(b=true->keys.length=vals.length/\∀ x∈vals,WfE x):=by
 simp only[fI,mC];by_cases a:keys.length=vals.length
 ·have:((((qi keys).length:Nat):Int) != (((qe.rows vals).length:Nat):Int))=false:=by simp[a]
  rw[this,kcf,kcf];obtain⟨r,h1,h2,h3⟩:=oV n keys vals c a d n 0 (by omega) (by omega);exact⟨r,h1,h2,fun e=>⟨a,h3 e⟩⟩
 have:((((qi keys).length:Nat):Int) != (((qe.rows vals).length:Nat):Int))=true:=by rw[qn,qu]; exact Qk.2 a
 rw[this,kct,kct];exact⟨false,rfl,rfl,fun h=>by cases h⟩
theorem LM {n:Nat} (f:n<=137438953472) {d:qt} (h:42+fK d<n) (c:Int->Option Bool) (k:Int) :
  ∃ b,vO n d=some b/\qo (gQ n d.labels d.var_ d.keys d.vals c k) n (0:Int)=(bif b then c (kwr .i64 (k+1))else some false)/\(b=true->d.keys.length=d.vals.length/\∀ x∈d.vals,WfE x):=by
 obtain⟨var,labels,keys,vals⟩:=d;unfold fK at h;simp only at h ⊢;have o:=xi labels;have p:=xi keys;obtain⟨b,h1,h2,h3⟩:=an f (keys:=keys) (vals:=vals) (by omega) (by omega);have g:=gY (s:=var) (n:=n) (by omega) f;have i:=fl (s:=var) (n:=n) (by omega) (by omega) f;have fold:∀ (l:List (List UInt8)) (r:Option Bool),orE (vu (fun s=>if Xp s then none else some false) l) r=bif l.all Xp then r else some false:=by
  intro l r
  induction l with
  | nil=>rfl
  | cons a l ih=>
   simp only[vu,jw];cases Xp a with
   | true=>simpa using ih
   | false=>rfl
 have e1:=zY (B:=gh n labels var keys vals) (fun k=>((k:Nat):Int)) (l:=labels) (fun s=>if Xp s then none else some false) (rest:=some ((bif var==[]then true else xl var)&&b))
  (fun k x c e=>by
   have j:=qL e;simp only[gh,qn,qx j,kct,qf e,qc,zD];rw[qU (by omega)];cases Xp x<;>rfl)
  (fun c=>by
   simp only[gh,qn,qm,kcf,g,h1];cases var==[]<;>cases xl var<;>rfl) (n:=n) (by omega)
 have e2:=zY (B:=gQ n labels var keys vals c k) (fun k=>((k:Nat):Int)) (l:=labels) (fun s=>if Xp s then none else some false) (rest:=bif((bif var==[]then true else xl var)&&b)then c (kwr .i64 (k+1))else some false)
  (fun k x c e=>by
   have j:=qL e;simp only[gQ,qn,qx j,kct,qf e,qc,zU];rw[qU (by omega)];cases Xp x<;>rfl)
  (fun c=>by
   simp only[gQ,qn,qm,kcf,i,h2];cases var==[]<;>cases xl var<;>cases b<;>rfl) (n:=n) (by omega)
 refine⟨labels.all Xp&&((bif var==[]then true else xl var)&&b),?_,?_,?_⟩
 ·simp only[vO]
  refine Eq.trans e1 ?_;rw[fold];cases labels.all Xp<;>rfl
 ·refine Eq.trans e2 ?_
  rw[fold];cases labels.all Xp<;>rfl
 ·intro m
  simp only[jj]at m;exact h3 m.2.2
end W
end
