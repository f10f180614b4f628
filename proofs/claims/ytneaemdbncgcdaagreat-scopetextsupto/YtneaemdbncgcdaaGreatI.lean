/- A part of the proof: the plain law. -/
import Derived.Test.YtneaemdbncgcdaaGreatB
import Derived.Test.YtneaemdbncgcdaaGreatH
set_option linter.unusedVariables false
set_option linter.unusedSimpArgs false
set_option linter.unnecessarySimpa false
set_option linter.deprecated false
set_option linter.unusedSectionVars false
set_option linter.constructorNameAsVariable false
section
open Go Ax
namespace W
section
variable {K V:Type} [BEq K] [LawfulBEq K]
theorem za0 (k s:K) (v:V):∀ m:List (K×V),qst s (qco k v m)=if s==k then some v else qst s m
 | []=>by
  simp only[qco,qst]
  cases s==k<;>rfl
 | (k',v')::m=>by
  by_cases h:k=k'
  ·subst h
   simp only[qco,beq_self_eq_true,cond_true,qst]
   cases s==k<;>rfl
  ·have h':(k==k')=false:=beq_eq_false_iff_ne.2 h
   simp only[qco,h',cond_false,qst,za0 k s v m]
   by_cases hs:s=k'
   ·subst hs
    have:(s==k)=false:=beq_eq_false_iff_ne.2 fun e=>h e.symm
    simp[this]
   ·have:(s==k')=false:=beq_eq_false_iff_ne.2 hs
    simp[this]
theorem zfv (k:K) (v:V):∀ m:List (K×V),(qco k v m).length=if q4t m k then m.length else m.length+1
 | []=>rfl
 | (k',v')::m=>by
  by_cases h:k=k'
  ·subst h
   simp[qco,q4t,qst]
  ·have h':(k==k')=false:=beq_eq_false_iff_ne.2 h
   have:=zfv k v m
   simp only[qco,q4t,qst,h',cond_false,List.length_cons]at this ⊢
   rw[this]
   by_cases hh:(qst k m).isSome=true<;>simp[hh]
theorem zlw (k s:K) (v:V) (m:List (K×V)):q4t (qco k v m) s=(s==k||q4t m s):=by
 simp only[q4t,za0]
 cases s==k<;>rfl
theorem zjz (k s:K) (v d:V) (m:List (K×V)):qd0 (qco k v m) s d=if s==k then v else qd0 m s d:=by
 simp only[qd0,za0]
 cases s==k<;>rfl
theorem zfw (k:K) (v:V):∀ m:List (K×V),qst k m=none->qco k v m=m++[(k,v)]
 | [],_=>rfl
 | (k',v')::m,h=>by
  by_cases hk:k=k'
  ·subst hk
   simp[qst]at h
  ·have h':(k==k')=false:=beq_eq_false_iff_ne.2 hk
   simp only[qst,h',cond_false]at h
   simp only[qco,h',cond_false,zfw k v m h,List.cons_append]
end
def zlg:List (List UInt8)->List (List UInt8)->Bool
 | _,[]=>false
 | pre,x::l=>pre.contains x||zlg (pre++[x]) l
def dup (l:List (List UInt8)):Bool:=zlg [] l
def zox (m:List (List UInt8×Int)):List (List UInt8)->List (List UInt8×Int)
 | []=>m
 | x::l=>zox (qco x (IntKind.i64.wrap (qd0 m x 0+1)) m) l
theorem zfh:∀ (l pre:List (List UInt8)) (m:List (List UInt8×Int)),(∀ s,q4t m s=pre.contains s) ->
  (zox m l).length<=m.length+l.length/\((zox m l).length<m.length+l.length↔zlg pre l=true)
 | [],pre,m,_=>by simp[zox,zlg]
 | x::l,pre,m,h=>by
  have h':∀ s,q4t (qco x (IntKind.i64.wrap (qd0 m x 0+1)) m) s=(pre++[x]).contains s:=fun s=>by
   rw[zlw,h s]
   simp only[List.contains_eq_mem,List.mem_append,List.mem_singleton]
   by_cases hs:s=x<;>simp[hs]
  have ih:=zfh l (pre++[x]) _ h'
  simp only[zox,zlg,zfv,h x]at ih ⊢
  cases hx:pre.contains x with
  | true=>
   simp only[hx,if_true]at ih
   simp only[List.length_cons,Bool.true_or,iff_true]
   omega
  | false=>
   simp only[hx]at ih
   simp only[List.length_cons,Bool.false_or]
   constructor
   ·have:=ih.1; simp at this; omega
   ·rw[← ih.2]; simp; omega
theorem qv1 {n:Nat} {l:List (List UInt8)} (h:l.length<n) (hn:n<=1073741824):qnt n l=some (dup l):=by
 unfold qnt
 have e:=qoq (B:=qib n l) (fun k (m:List (List UInt8×Int))=>((k:Int),m)) (fun _ _=>True) (l:=l) (R:=Bool)
  (fun m x=>.inr (qco x (IntKind.i64.wrap (qd0 m x 0+1)) m)) (rest:=fun m=>some (decide (m.length<l.length)))
  (fun k x m nx hx _=>by
   have hk:=qcm hx
   simp only[qib,qay,qbf hk,cond_true,qal hx,qac,zj8]
   rw[qb8 (by omega)])
  (fun _ _ _ _ _ _ _=>trivial)
  (fun m nx _=>by
   simp only[qib,qay,qaz,cond_false]
   congr 1
   by_cases hm:m.length<l.length
   ·rw[decide_eq_true hm,decide_eq_true (by omega)]
   ·rw[decide_eq_false hm,decide_eq_false (by omega)]) h (t0:=[]) trivial
 have key:∀ (l:List (List UInt8)) (m:List (List UInt8×Int)),qdo (R:=Bool) (fun m x=>.inr (qco x (IntKind.i64.wrap (qd0 m x 0+1)) m)) m l=.inr (zox m l):=by
  intro l
  induction l with
  | nil=>intro m; rfl
  | cons x l ih=>intro m; exact ih _
 rw[key]at e
 refine Eq.trans e ?_
 have:=(zfh l [] [] (fun s=>rfl)).2
 simp only[List.length_nil,Nat.zero_add]at this
 refine congrArg some ?_
 unfold dup
 cases hd:zlg [] l with
 | true=>exact decide_eq_true (this.2 hd)
 | false=>exact decide_eq_false (fun h=>by rw[this.1 h]at hd; cases hd)
theorem qyv {n:Nat} {l:List (List UInt8)} (h:l.length<n) (hn:n<=1073741824):qq1 n l=some (dup l):=by
 unfold qq1
 have inner:∀ (k:Nat) (x:List UInt8) (nx:Int->Option Bool),l[k]? =some x->qjc n l nx (k:Int)=(if(l.take k).contains x then some true else nx ((k+1:Nat):Int)):=by
  intro k x nx hx
  have hk:=qcm hx
  simp only[qjc,qay,qbf hk,cond_true]
  have e:=qds (B:=qlx n (k:Int) l nx) (fun j=>((j:Nat):Int)) (l:=l.take k) (fun y=>if y==x then some true else none) (rest:=nx ((k+1:Nat):Int))
   (fun j y nx2 hy=>by
    have hj:j<k:=by have:=qcm hy; simp at this; omega
    have hy':l[j]? =some y:=by rw[List.getElem?_take,if_pos hj]at hy; exact hy
    simp only[qlx,qbf hj,cond_true,qal hx,qal hy',qac]
    rw[qb8 (by omega),BEq.comm]
    cases y==x<;>rfl)
   (fun nx2=>by
    have:(l.take k).length=k:=by simp; omega
    rw[this]
    simp only[qlx,qaz,cond_false]
    rw[qb8 (by omega)]) (n:=n) (by simp; omega)
  refine Eq.trans e ?_
  have key:∀ p:List (List UInt8),qew (R:=Bool) (fun y=>if y==x then some true else none) p=if p.contains x then some true else none:=by
   intro p
   induction p with
   | nil=>rfl
   | cons y p ih=>
    simp only[qew,List.contains_cons,ih]
    by_cases hy:y=x
    ·subst hy; simp
    ·have h1:(y==x)=false:=by simpa using hy
     have h2:(x==y)=false:=by simpa using fun e=>hy e.symm
     simp[h1,h2]
  rw[key]
  cases(l.take k).contains x<;>rfl
 have main:∀ (suf:List (List UInt8)) (k m:Nat),(∀ j,suf[j]? =l[k+j]?)->k+suf.length=l.length->suf.length<m->qap (qjc n l) m (k:Int)=some (zlg (l.take k) suf):=by
  intro suf
  induction suf with
  | nil=>
   intro k m hs hk hm
   obtain⟨m,rfl⟩:=Nat.exists_eq_succ_of_ne_zero (by omega:m≠0)
   have:k=l.length:=by simpa using hk
   subst this
   rw[qa0]
   simp only[qjc,qay,qaz,cond_false,zlg]
  | cons x suf ih=>
   intro k m hs hk hm
   obtain⟨m,rfl⟩:=Nat.exists_eq_succ_of_ne_zero (by omega:m≠0)
   have hx:l[k]? =some x:=by have:=hs 0; simpa using this.symm
   rw[qa0,inner k x _ hx]
   simp only[zlg]
   split
   ·rename_i hc; rw[hc,Bool.true_or]
   ·rename_i hc
    have hc:(l.take k).contains x=false:=by simpa using hc
    rw[hc,Bool.false_or,ih (k+1) m (fun j=>by have:=hs (j+1); rw[show k+1+j=k+(j+1) by omega]; simpa using this) (by simp at hk; omega) (by simp at hm; omega)]
    have:l.take (k+1)=l.take k++[x]:=by rw[List.take_succ,hx]; rfl
    rw[this]
 have:=main l 0 n (fun j=>by simp) (by simp) h
 simpa[dup]using this
abbrev Env:=List (List UInt8×Int)
def qcb (v:Env) (s:List UInt8):Int:=qd0 v s 0
abbrev qfy (v:Env):qa6:=⟨v.map (·.1),v.map (·.2)⟩
theorem qe4 {n:Nat} {v:Env} (h:v.length<n) (hn:n<=1073741824) (s:List UInt8):qd2 n (qfy v) s=some (qcb v s):=by
 unfold qd2
 have e:=qds (B:=qho n (v.map (·.1)) s (v.map (·.2))) (fun j=>((j:Nat):Int)) (l:=v) (fun x=>if x.1==s then some x.2 else none) (rest:=some 0)
  (fun k x nx hx=>by
   have hk:=qcm hx
   have h1:(v.map (·.1))[k]? =some x.1:=by simp[hx]
   have h2:(v.map (·.2))[k]? =some x.2:=by simp[hx]
   simp only[qho,qay,List.length_map,qbf hk,cond_true,qal h1,qal h2,qac]
   rw[qb8 (by omega)]
   cases x.1==s<;>rfl)
  (fun nx=>by
   simp only[qho,qay,List.length_map,qaz,cond_false]) h
 refine Eq.trans e ?_
 have key:∀ v:Env,qew (R:=Int) (fun x=>if x.1==s then some x.2 else none) v=qst s v:=by
  intro v
  induction v with
  | nil=>rfl
  | cons x v ih=>
   obtain⟨k,y⟩:=x
   simp only[qew,qst,ih]
   rw[BEq.comm]
   cases s==k<;>rfl
 rw[key]
 unfold qcb qd0
 cases qst s v<;>rfl
end W
end
