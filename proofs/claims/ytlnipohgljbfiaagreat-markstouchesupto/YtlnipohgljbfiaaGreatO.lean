/- A part of the proof: the plain law. -/
import Derived.Test.YtlnipohgljbfiaaGreatB
set_option linter.unusedVariables false
set_option linter.unusedSimpArgs false
set_option linter.unnecessarySimpa false
set_option linter.deprecated false
set_option linter.unusedSectionVars false
set_option linter.constructorNameAsVariable false
open Go.IntKind renaming wrap->kwr,bits->kbt
open Nat renaming exists_eq_succ_of_ne_zero->jj
section
open Go Ax
namespace W
abbrev lim:Nat:=137438953472
section
variable {A R S T:Type}
@[simp] theorem qc (a:A) (k:A->Option R):bnd (some a) k=k a:=rfl
@[simp] theorem qo0 (k:Option R):chk true k=k:=rfl
theorem zH {b:Bool} {k:Option R} (h:b=true):chk b k=k:=by subst h; rfl
theorem zz {p:Prop} [Decidable p] {k:Option R} (h:p):chk (decide p) k=k:=zH (kdt h)
@[simp] theorem zg [Inhabited A] (o:Option A):qD true o=o:=rfl
@[simp] theorem fU [Inhabited A] (o:Option A):qD false o=some default:=rfl
theorem qO (B:(S->Option R)->S->Option R) (n:Nat) (s:S):qo B (n+1) s=B (qo B n) s:=rfl
theorem qf {l:List A} {i:Nat} {x:A} (h:l[i]? =some x):idx l (i:Int)=some x:=by
 unfold idx;rw[if_pos (Int.natCast_nonneg i)];simpa using h
@[simp] theorem nq (x:A) (l:List A):idx (x::l) (0:Int)=some x:=rfl
@[simp] theorem oh (x y:A) (l:List A):idx (x::y::l) (1:Int)=some y:=rfl
@[simp] theorem natI_nat (n:Nat):LL (n:Int)=some n:=by
 unfold LL;rw[if_pos (Int.natCast_nonneg n)];simp
theorem qU {k:Nat} (h:k<=1152921504606846976):kwr .i64 ((k:Int)+1)=((k+1:Nat):Int):=by
 rw[Hc _ (by omega) (by omega)]; omega
theorem UW {i:Int} (a:-1152921504606846976<=i) (h1:i<=1152921504606846976):kwr .i64 i=i:=Hc _ (by omega) (by omega)
theorem bY {B:(S->Option R)->S->Option R} (st:Nat->S) (m:Nat) {r:Option R} (c:∀ k,k<m->∀ a,B a (st k)=a (st (k+1))) (he:∀ a,B a (st m)=r) {n:Nat} (b:m<n):qo B n (st 0)=r:=by
 have key:∀ (d k n:Nat),k+d=m->d<n->qo B n (st k)=r:=by
  intro d
  induction d with
  | zero=>
   intro k n e b;obtain⟨n,rfl⟩:=jj (by omega:n≠0);have:k=m:=by omega
   subst this;exact he _
  | succ d ih=>
   intro k n e b;obtain⟨n,rfl⟩:=jj (by omega:n≠0);rw[qO,c k (by omega)];exact ih (k+1) n (by omega) (by omega)
 exact key m 0 n (by omega) b
def orE (o k:Option R):Option R:=match o with|some r=>some r|none=>k
def qgv (o:R ⊕ T) (k:T->Option R):Option R:=match o with|.inl r=>some r|.inr t=>k t
@[simp] theorem qjv (r:R) (k:Option R):orE (some r) k=some r:=rfl
@[simp] theorem qqa (k:Option R):orE none k=k:=rfl
@[simp] theorem qrf (r:R) (k:T->Option R):qgv (.inl r) k=some r:=rfl
@[simp] theorem tJ (t:T) (k:T->Option R):qgv (.inr t) k=k t:=rfl
def uT (f:T->A->R ⊕ T):T->List A->R ⊕ T
 | t,[]=>.inr t
 | t,x::l=>match f t x with
  | .inl r=>.inl r
  | .inr t'=>uT f t' l
theorem xZ {B:(S->Option R)->S->Option R} (mk:Nat->T->S) (I:Nat->T->Prop) {l:List A} (f:T->A->R ⊕ T) {rest:T->Option R}
  (i:∀ (k:Nat) (x:A) (t:T) (c:S->Option R),l[k]? =some x->I k t->B c (mk k t)=qgv (f t x) fun b=>c (mk (k+1) b))
  (m:∀ (k:Nat) (x:A) (t b:T),l[k]? =some x->I k t->f t x=.inr b->I (k+1) b)
  (he:∀ (t:T) (c:S->Option R),I l.length t->B c (mk l.length t)=rest t) {n:Nat} (d:l.length<n) {t0:T} (o:I 0 t0) :
  qo B n (mk 0 t0)=qgv (uT f t0 l) rest:=by
 have key:∀ (suf:List A) (k n:Nat) (t:T),(∀ j,suf[j]? =l[k+j]?)->k+suf.length=l.length->suf.length<n->I k t->qo B n (mk k t)=qgv (uT f t suf) rest:=by
  intro suf
  induction suf with
  | nil=>
   intro k n t a g d e;obtain⟨n,rfl⟩:=jj (by omega:n≠0);have:k=l.length:=by simpa using g
   subst this;rw[qO,he t _ e];rfl
  | cons x suf ih=>
   intro k n t a g d e;obtain⟨n,rfl⟩:=jj (by omega:n≠0);have h:l[k]? =some x:=by have:=a 0; simpa using this.symm
   rw[qO,i k x t _ h e];simp only[uT];cases p:f t x with
   | inl r=>rfl
   | inr b=>
    simp only[tJ];refine ih (k+1) n b (fun j=>?_) (by simp at g; omega) (by simp at d; omega) (m k x t b h e p);have:=a (j+1);rw[show k+1+j=k+(j+1) by omega];simpa using this
 exact key l 0 n t0 (fun j=>by simp) (by simp) d o
def vu (f:A->Option R):List A->Option R
 | []=>none
 | x::l=>match f x with
  | some r=>some r
  | none=>vu f l
theorem zY {B:(S->Option R)->S->Option R} (mk:Nat->S) {l:List A} (f:A->Option R) {rest:Option R}
  (b:∀ (k:Nat) (x:A) (a:S->Option R),l[k]? =some x->B a (mk k)=orE (f x) (a (mk (k+1))))
  (he:∀ (a:S->Option R),B a (mk l.length)=rest) {n:Nat} (c:l.length<n) :
  qo B n (mk 0)=orE (vu f l) rest:=by
 have h:=xZ (B:=B) (fun k (_:Unit)=>mk k) (fun _ _=>True) (l:=l) (fun _ x=>match f x with|some r=>.inl r|none=>.inr ()) (rest:=fun _=>rest)
  (fun k x _ a d _=>by rw[b k x a d]; cases f x<;>rfl) (fun _ _ _ _ _ _ _=>trivial) (fun _ a _=>he a) c (t0:=()) trivial
 rw[h];have key:∀ l:List A,uT (T:=Unit) (fun _ x=>match f x with|some r=>.inl r|none=>.inr ()) () l=(match vu f l with|some r=>.inl r|none=>.inr ()):=by
  intro l
  induction l with
  | nil=>rfl
  | cons x l ih=>
   simp only[uT,vu];cases f x with
   | some r=>rfl
   | none=>exact ih
 rw[key];cases vu f l<;>rfl
end
theorem qL {A:Type} {l:List A} {k:Nat} {x:A} (h:l[k]? =some x):k<l.length:=(List.getElem?_eq_some_iff.1 h).1
theorem qw {A:Type} {l:List A} {k:Nat} {x:A} (h:l[k]? =some x):x∈l:=List.mem_of_getElem? h
@[simp] theorem qn (l:List (List UInt8)):(qi l).length=l.length:=by simp[qi]
@[simp] theorem qms (k:IntKind) (l:List Int):(zF k l).length=l.length:=by simp[zF]
@[simp] theorem lh (l:List UInt8):(qT l).length=l.length:=by simp[qT]
@[simp] theorem ze (l:List Val):(Val.rows l).length=l.length:=by rw[rows_eq]; simp
theorem qx {k m:Nat} (h:k<m):decide ((k:Int)<(m:Int))=true:=kdt (by omega)
theorem qm {m:Nat}:decide ((m:Int)<(m:Int))=false:=kdf (by omega)
end W
end
