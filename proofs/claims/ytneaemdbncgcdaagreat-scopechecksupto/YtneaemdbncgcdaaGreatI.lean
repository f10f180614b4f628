/- A part of the proof of ScopeChecksUptoSaid: the plain law. -/
import Derived.Test.YtneaemdbncgcdaaGreatB
import Derived.Test.YtneaemdbncgcdaaGreatH
set_option linter.unusedVariables false
set_option linter.unusedSimpArgs false
set_option linter.unnecessarySimpa false
set_option linter.deprecated false
set_option linter.unusedSectionVars false
set_option linter.constructorNameAsVariable false
section
open Go Ax
namespace W
section
variable {K V:Type} [BEq K] [LawfulBEq K]
theorem q6y (k s:K) (v:V):∀ m:List (K×V),qrv s (qcg k v m)=if s==k then some v else qrv s m
 | []=>by
  simp only[qcg,qrv]
  cases s==k<;>rfl
 | (k',v')::m=>by
  by_cases h:k=k'
  ·subst h
   simp only[qcg,beq_self_eq_true,cond_true,qrv]
   cases s==k<;>rfl
  ·have h':(k==k')=false:=beq_eq_false_iff_ne.2 h
   simp only[qcg,h',cond_false,qrv,q6y k s v m]
   by_cases hs:s=k'
   ·subst hs
    have:(s==k)=false:=beq_eq_false_iff_ne.2 fun e=>h e.symm
    simp[this]
   ·have:(s==k')=false:=beq_eq_false_iff_ne.2 hs
    simp[this]
theorem zb7 (k:K) (v:V):∀ m:List (K×V),(qcg k v m).length=if q13 m k then m.length else m.length+1
 | []=>rfl
 | (k',v')::m=>by
  by_cases h:k=k'
  ·subst h
   simp[qcg,q13,qrv]
  ·have h':(k==k')=false:=beq_eq_false_iff_ne.2 h
   have:=zb7 k v m
   simp only[qcg,q13,qrv,h',cond_false,List.length_cons]at this ⊢
   rw[this]
   by_cases hh:(qrv k m).isSome=true<;>simp[hh]
theorem zgs (k s:K) (v:V) (m:List (K×V)):q13 (qcg k v m) s=(s==k||q13 m s):=by
 simp only[q13,q6y]
 cases s==k<;>rfl
theorem zfi (k s:K) (v d:V) (m:List (K×V)):qdn (qcg k v m) s d=if s==k then v else qdn m s d:=by
 simp only[qdn,q6y]
 cases s==k<;>rfl
theorem zb2 (k:K) (v:V):∀ m:List (K×V),qrv k m=none→qcg k v m=m++[(k,v)]
 | [],_=>rfl
 | (k',v')::m,h=>by
  by_cases hk:k=k'
  ·subst hk
   simp[qrv]at h
  ·have h':(k==k')=false:=beq_eq_false_iff_ne.2 hk
   simp only[qrv,h',cond_false]at h
   simp only[qcg,h',cond_false,zb2 k v m h,List.cons_append]
end
def zho:List (List UInt8)→List (List UInt8)→Bool
 | _,[]=>false
 | pre,x::l=>pre.contains x||zho (pre++[x]) l
def dup (l:List (List UInt8)):Bool:=zho [] l
def zjg (m:List (List UInt8×Int)):List (List UInt8)→List (List UInt8×Int)
 | []=>m
 | x::l=>zjg (qcg x (IntKind.i64.wrap (qdn m x 0+1)) m) l
theorem zch:∀ (l pre:List (List UInt8)) (m:List (List UInt8×Int)),(∀ s,q13 m s=pre.contains s) →
  (zjg m l).length≤m.length+l.length∧((zjg m l).length<m.length+l.length↔zho pre l=true)
 | [],pre,m,_=>by simp[zjg,zho]
 | x::l,pre,m,h=>by
  have h':∀ s,q13 (qcg x (IntKind.i64.wrap (qdn m x 0+1)) m) s=(pre++[x]).contains s:=fun s=>by
   rw[zgs,h s]
   simp only[List.contains_eq_mem,List.mem_append,List.mem_singleton]
   by_cases hs:s=x<;>simp[hs]
  have ih:=zch l (pre++[x]) _ h'
  simp only[zjg,zho,zb7,h x]at ih ⊢
  cases hx:pre.contains x with
  | true=>
   simp only[hx,if_true]at ih
   simp only[List.length_cons,Bool.true_or,iff_true]
   omega
  | false=>
   simp only[hx]at ih
   simp only[List.length_cons,Bool.false_or]
   constructor
   ·have:=ih.1; simp at this; omega
   ·rw[← ih.2]; simp; omega
theorem qty {n:Nat} {l:List (List UInt8)} (h:l.length<n) (hn:n≤1073741824):qll n l=some (dup l):=by
 unfold qll
 have e:=ql1 (B:=qg6 n l) (fun k (m:List (List UInt8×Int))=>((k:Int),m)) (fun _ _=>True) (l:=l) (R:=Bool)
  (fun m x=>.inr (qcg x (IntKind.i64.wrap (qdn m x 0+1)) m)) (rest:=fun m=>some (decide (m.length<l.length)))
  (fun k x m nx hx _=>by
   have hk:=qcn hx
   simp only[qg6,qa0,qbz hk,cond_true,qaq hx,qaj,zem]
   rw[qcz (by omega)])
  (fun _ _ _ _ _ _ _=>trivial)
  (fun m nx _=>by
   simp only[qg6,qa0,qay,cond_false]
   congr 1
   by_cases hm:m.length<l.length
   ·rw[decide_eq_true hm,decide_eq_true (by omega)]
   ·rw[decide_eq_false hm,decide_eq_false (by omega)]) h (t0:=[]) trivial
 have key:∀ (l:List (List UInt8)) (m:List (List UInt8×Int)),qe0 (R:=Bool) (fun m x=>.inr (qcg x (IntKind.i64.wrap (qdn m x 0+1)) m)) m l=.inr (zjg m l):=by
  intro l
  induction l with
  | nil=>intro m; rfl
  | cons x l ih=>intro m; exact ih _
 rw[key]at e
 refine Eq.trans e ?_
 have:=(zch l [] [] (fun s=>rfl)).2
 simp only[List.length_nil,Nat.zero_add]at this
 refine congrArg some ?_
 unfold dup
 cases hd:zho [] l with
 | true=>exact decide_eq_true (this.2 hd)
 | false=>exact decide_eq_false (fun h=>by rw[this.1 h]at hd; cases hd)
theorem qw0 {n:Nat} {l:List (List UInt8)} (h:l.length<n) (hn:n≤1073741824):qof n l=some (dup l):=by
 unfold qof
 have inner:∀ (k:Nat) (x:List UInt8) (nx:Int→Option Bool),l[k]? =some x→qh4 n l nx (k:Int)=(if(l.take k).contains x then some true else nx ((k+1:Nat):Int)):=by
  intro k x nx hx
  have hk:=qcn hx
  simp only[qh4,qa0,qbz hk,cond_true]
  have e:=qc9 (B:=qj0 n (k:Int) l nx) (fun j=>((j:Nat):Int)) (l:=l.take k) (fun y=>if y==x then some true else none) (rest:=nx ((k+1:Nat):Int))
   (fun j y nx2 hy=>by
    have hj:j<k:=by have:=qcn hy; simp at this; omega
    have hy':l[j]? =some y:=by rw[List.getElem?_take,if_pos hj]at hy; exact hy
    simp only[qj0,qbz hj,cond_true,qaq hx,qaq hy',qaj]
    rw[qcz (by omega),BEq.comm]
    cases y==x<;>rfl)
   (fun nx2=>by
    have:(l.take k).length=k:=by simp; omega
    rw[this]
    simp only[qj0,qay,cond_false]
    rw[qcz (by omega)]) (n:=n) (by simp; omega)
  refine Eq.trans e ?_
  have key:∀ p:List (List UInt8),qex (R:=Bool) (fun y=>if y==x then some true else none) p=if p.contains x then some true else none:=by
   intro p
   induction p with
   | nil=>rfl
   | cons y p ih=>
    simp only[qex,List.contains_cons,ih]
    by_cases hy:y=x
    ·subst hy; simp
    ·have h1:(y==x)=false:=by simpa using hy
     have h2:(x==y)=false:=by simpa using fun e=>hy e.symm
     simp[h1,h2]
  rw[key]
  cases(l.take k).contains x<;>rfl
 have main:∀ (suf:List (List UInt8)) (k m:Nat),(∀ j,suf[j]? =l[k+j]?)→k+suf.length=l.length→suf.length<m→qas (qh4 n l) m (k:Int)=some (zho (l.take k) suf):=by
  intro suf
  induction suf with
  | nil=>
   intro k m hs hk hm
   obtain⟨m,rfl⟩:=Nat.exists_eq_succ_of_ne_zero (by omega:m≠0)
   have:k=l.length:=by simpa using hk
   subst this
   rw[qci]
   simp only[qh4,qa0,qay,cond_false,zho]
  | cons x suf ih=>
   intro k m hs hk hm
   obtain⟨m,rfl⟩:=Nat.exists_eq_succ_of_ne_zero (by omega:m≠0)
   have hx:l[k]? =some x:=by have:=hs 0; simpa using this.symm
   rw[qci,inner k x _ hx]
   simp only[zho]
   split
   ·rename_i hc; rw[hc,Bool.true_or]
   ·rename_i hc
    have hc:(l.take k).contains x=false:=by simpa using hc
    rw[hc,Bool.false_or,ih (k+1) m (fun j=>by have:=hs (j+1); rw[show k+1+j=k+(j+1) by omega]; simpa using this) (by simp at hk; omega) (by simp at hm; omega)]
    have:l.take (k+1)=l.take k++[x]:=by rw[List.take_succ,hx]; rfl
    rw[this]
 have:=main l 0 n (fun j=>by simp) (by simp) h
 simpa[dup]using this
abbrev Env:=List (List UInt8×Int)
def qcc (v:Env) (s:List UInt8):Int:=qdn v s 0
abbrev qfc (v:Env):qaz:=⟨v.map (·.1),v.map (·.2)⟩
theorem qek {n:Nat} {v:Env} (h:v.length<n) (hn:n≤1073741824) (s:List UInt8):qdh n (qfc v) s=some (qcc v s):=by
 unfold qdh
 have e:=qc9 (B:=qgq n (v.map (·.1)) s (v.map (·.2))) (fun j=>((j:Nat):Int)) (l:=v) (fun x=>if x.1==s then some x.2 else none) (rest:=some 0)
  (fun k x nx hx=>by
   have hk:=qcn hx
   have h1:(v.map (·.1))[k]? =some x.1:=by simp[hx]
   have h2:(v.map (·.2))[k]? =some x.2:=by simp[hx]
   simp only[qgq,qa0,List.length_map,qbz hk,cond_true,qaq h1,qaq h2,qaj]
   rw[qcz (by omega)]
   cases x.1==s<;>rfl)
  (fun nx=>by
   simp only[qgq,qa0,List.length_map,qay,cond_false]) h
 refine Eq.trans e ?_
 have key:∀ v:Env,qex (R:=Int) (fun x=>if x.1==s then some x.2 else none) v=qrv s v:=by
  intro v
  induction v with
  | nil=>rfl
  | cons x v ih=>
   obtain⟨k,y⟩:=x
   simp only[qex,qrv,ih]
   rw[BEq.comm]
   cases s==k<;>rfl
 rw[key]
 unfold qcc qdn
 cases qrv s v<;>rfl
end W
end
