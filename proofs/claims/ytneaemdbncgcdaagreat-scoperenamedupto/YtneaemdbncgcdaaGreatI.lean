/- A part of the proof: the plain law. -/
import Derived.Test.YtneaemdbncgcdaaGreatB
import Derived.Test.YtneaemdbncgcdaaGreatH
set_option linter.unusedVariables false
set_option linter.unusedSimpArgs false
set_option linter.unnecessarySimpa false
set_option linter.deprecated false
set_option linter.unusedSectionVars false
set_option linter.constructorNameAsVariable false
section
open Go Ax
namespace W
section
variable {K V:Type} [BEq K] [LawfulBEq K]
theorem q7c (k s:K) (v:V):∀ m:List (K×V),qqx s (qch k v m)=if s==k then some v else qqx s m
 | []=>by
  simp only[qch,qqx]
  cases s==k<;>rfl
 | (k',v')::m=>by
  by_cases h:k=k'
  ·subst h
   simp only[qch,beq_self_eq_true,cond_true,qqx]
   cases s==k<;>rfl
  ·have h':(k==k')=false:=beq_eq_false_iff_ne.2 h
   simp only[qch,h',cond_false,qqx,q7c k s v m]
   by_cases hs:s=k'
   ·subst hs
    have:(s==k)=false:=beq_eq_false_iff_ne.2 fun e=>h e.symm
    simp[this]
   ·have:(s==k')=false:=beq_eq_false_iff_ne.2 hs
    simp[this]
theorem zdn (k:K) (v:V):∀ m:List (K×V),(qch k v m).length=if q2n m k then m.length else m.length+1
 | []=>rfl
 | (k',v')::m=>by
  by_cases h:k=k'
  ·subst h
   simp[qch,q2n,qqx]
  ·have h':(k==k')=false:=beq_eq_false_iff_ne.2 h
   have:=zdn k v m
   simp only[qch,q2n,qqx,h',cond_false,List.length_cons]at this ⊢
   rw[this]
   by_cases hh:(qqx k m).isSome=true<;>simp[hh]
theorem zia (k s:K) (v:V) (m:List (K×V)):q2n (qch k v m) s=(s==k||q2n m s):=by
 simp only[q2n,q7c]
 cases s==k<;>rfl
theorem ze9 (k s:K) (v d:V) (m:List (K×V)):qdj (qch k v m) s d=if s==k then v else qdj m s d:=by
 simp only[qdj,q7c]
 cases s==k<;>rfl
theorem zc8 (k:K) (v:V):∀ m:List (K×V),qqx k m=none→qch k v m=m++[(k,v)]
 | [],_=>rfl
 | (k',v')::m,h=>by
  by_cases hk:k=k'
  ·subst hk
   simp[qqx]at h
  ·have h':(k==k')=false:=beq_eq_false_iff_ne.2 hk
   simp only[qqx,h',cond_false]at h
   simp only[qch,h',cond_false,zc8 k v m h,List.cons_append]
end
def zig:List (List UInt8)→List (List UInt8)→Bool
 | _,[]=>false
 | pre,x::l=>pre.contains x||zig (pre++[x]) l
def dup (l:List (List UInt8)):Bool:=zig [] l
def zk6 (m:List (List UInt8×Int)):List (List UInt8)→List (List UInt8×Int)
 | []=>m
 | x::l=>zk6 (qch x (IntKind.i64.wrap (qdj m x 0+1)) m) l
theorem zdc:∀ (l pre:List (List UInt8)) (m:List (List UInt8×Int)),(∀ s,q2n m s=pre.contains s) →
  (zk6 m l).length≤m.length+l.length∧((zk6 m l).length<m.length+l.length↔zig pre l=true)
 | [],pre,m,_=>by simp[zk6,zig]
 | x::l,pre,m,h=>by
  have h':∀ s,q2n (qch x (IntKind.i64.wrap (qdj m x 0+1)) m) s=(pre++[x]).contains s:=fun s=>by
   rw[zia,h s]
   simp only[List.contains_eq_mem,List.mem_append,List.mem_singleton]
   by_cases hs:s=x<;>simp[hs]
  have ih:=zdc l (pre++[x]) _ h'
  simp only[zk6,zig,zdn,h x]at ih ⊢
  cases hx:pre.contains x with
  | true=>
   simp only[hx,if_true]at ih
   simp only[List.length_cons,Bool.true_or,iff_true]
   omega
  | false=>
   simp only[hx]at ih
   simp only[List.length_cons,Bool.false_or]
   constructor
   ·have:=ih.1; simp at this; omega
   ·rw[← ih.2]; simp; omega
theorem quc {n:Nat} {l:List (List UInt8)} (h:l.length<n) (hn:n≤1073741824):qll n l=some (dup l):=by
 unfold qll
 have e:=ql9 (B:=qhg n l) (fun k (m:List (List UInt8×Int))=>((k:Int),m)) (fun _ _=>True) (l:=l) (R:=Bool)
  (fun m x=>.inr (qch x (IntKind.i64.wrap (qdj m x 0+1)) m)) (rest:=fun m=>some (decide (m.length<l.length)))
  (fun k x m nx hx _=>by
   have hk:=qcg hx
   simp only[qhg,qax,qbk hk,cond_true,qao hx,qai,zft]
   rw[qcq (by omega)])
  (fun _ _ _ _ _ _ _=>trivial)
  (fun m nx _=>by
   simp only[qhg,qax,qaw,cond_false]
   congr 1
   by_cases hm:m.length<l.length
   ·rw[decide_eq_true hm,decide_eq_true (by omega)]
   ·rw[decide_eq_false hm,decide_eq_false (by omega)]) h (t0:=[]) trivial
 have key:∀ (l:List (List UInt8)) (m:List (List UInt8×Int)),qdt (R:=Bool) (fun m x=>.inr (qch x (IntKind.i64.wrap (qdj m x 0+1)) m)) m l=.inr (zk6 m l):=by
  intro l
  induction l with
  | nil=>intro m; rfl
  | cons x l ih=>intro m; exact ih _
 rw[key]at e
 refine Eq.trans e ?_
 have:=(zdc l [] [] (fun s=>rfl)).2
 simp only[List.length_nil,Nat.zero_add]at this
 refine congrArg some ?_
 unfold dup
 cases hd:zig [] l with
 | true=>exact decide_eq_true (this.2 hd)
 | false=>exact decide_eq_false (fun h=>by rw[this.1 h]at hd; cases hd)
theorem qxd {n:Nat} {l:List (List UInt8)} (h:l.length<n) (hn:n≤1073741824):qts n l=some (dup l):=by
 unfold qts
 have inner:∀ (k:Nat) (x:List UInt8) (nx:Int→Option Bool),l[k]? =some x→qmd n l nx (k:Int)=(if(l.take k).contains x then some true else nx ((k+1:Nat):Int)):=by
  intro k x nx hx
  have hk:=qcg hx
  simp only[qmd,qax,qbk hk,cond_true]
  have e:=qda (B:=qon n (k:Int) l nx) (fun j=>((j:Nat):Int)) (l:=l.take k) (fun y=>if y==x then some true else none) (rest:=nx ((k+1:Nat):Int))
   (fun j y nx2 hy=>by
    have hj:j<k:=by have:=qcg hy; simp at this; omega
    have hy':l[j]? =some y:=by rw[List.getElem?_take,if_pos hj]at hy; exact hy
    simp only[qon,qbk hj,cond_true,qao hx,qao hy',qai]
    rw[qcq (by omega),BEq.comm]
    cases y==x<;>rfl)
   (fun nx2=>by
    have:(l.take k).length=k:=by simp; omega
    rw[this]
    simp only[qon,qaw,cond_false]
    rw[qcq (by omega)]) (n:=n) (by simp; omega)
  refine Eq.trans e ?_
  have key:∀ p:List (List UInt8),qej (R:=Bool) (fun y=>if y==x then some true else none) p=if p.contains x then some true else none:=by
   intro p
   induction p with
   | nil=>rfl
   | cons y p ih=>
    simp only[qej,List.contains_cons,ih]
    by_cases hy:y=x
    ·subst hy; simp
    ·have h1:(y==x)=false:=by simpa using hy
     have h2:(x==y)=false:=by simpa using fun e=>hy e.symm
     simp[h1,h2]
  rw[key]
  cases(l.take k).contains x<;>rfl
 have main:∀ (suf:List (List UInt8)) (k m:Nat),(∀ j,suf[j]? =l[k+j]?)→k+suf.length=l.length→suf.length<m→qas (qmd n l) m (k:Int)=some (zig (l.take k) suf):=by
  intro suf
  induction suf with
  | nil=>
   intro k m hs hk hm
   obtain⟨m,rfl⟩:=Nat.exists_eq_succ_of_ne_zero (by omega:m≠0)
   have:k=l.length:=by simpa using hk
   subst this
   rw[qci]
   simp only[qmd,qax,qaw,cond_false,zig]
  | cons x suf ih=>
   intro k m hs hk hm
   obtain⟨m,rfl⟩:=Nat.exists_eq_succ_of_ne_zero (by omega:m≠0)
   have hx:l[k]? =some x:=by have:=hs 0; simpa using this.symm
   rw[qci,inner k x _ hx]
   simp only[zig]
   split
   ·rename_i hc; rw[hc,Bool.true_or]
   ·rename_i hc
    have hc:(l.take k).contains x=false:=by simpa using hc
    rw[hc,Bool.false_or,ih (k+1) m (fun j=>by have:=hs (j+1); rw[show k+1+j=k+(j+1) by omega]; simpa using this) (by simp at hk; omega) (by simp at hm; omega)]
    have:l.take (k+1)=l.take k++[x]:=by rw[List.take_succ,hx]; rfl
    rw[this]
 have:=main l 0 n (fun j=>by simp) (by simp) h
 simpa[dup]using this
abbrev Env:=List (List UInt8×Int)
def qb5 (v:Env) (s:List UInt8):Int:=qdj v s 0
abbrev qfe (v:Env):qbc:=⟨v.map (·.1),v.map (·.2)⟩
theorem qel {n:Nat} {v:Env} (h:v.length<n) (hn:n≤1073741824) (s:List UInt8):qec n (qfe v) s=some (qb5 v s):=by
 unfold qec
 have e:=qda (B:=qlf n (v.map (·.1)) s (v.map (·.2))) (fun j=>((j:Nat):Int)) (l:=v) (fun x=>if x.1==s then some x.2 else none) (rest:=some 0)
  (fun k x nx hx=>by
   have hk:=qcg hx
   have h1:(v.map (·.1))[k]? =some x.1:=by simp[hx]
   have h2:(v.map (·.2))[k]? =some x.2:=by simp[hx]
   simp only[qlf,qax,List.length_map,qbk hk,cond_true,qao h1,qao h2,qai]
   rw[qcq (by omega)]
   cases x.1==s<;>rfl)
  (fun nx=>by
   simp only[qlf,qax,List.length_map,qaw,cond_false]) h
 refine Eq.trans e ?_
 have key:∀ v:Env,qej (R:=Int) (fun x=>if x.1==s then some x.2 else none) v=qqx s v:=by
  intro v
  induction v with
  | nil=>rfl
  | cons x v ih=>
   obtain⟨k,y⟩:=x
   simp only[qej,qqx,ih]
   rw[BEq.comm]
   cases s==k<;>rfl
 rw[key]
 unfold qb5 qdj
 cases qqx s v<;>rfl
end W
end
