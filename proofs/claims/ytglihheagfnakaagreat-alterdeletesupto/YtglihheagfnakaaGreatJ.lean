/- A part of the proof: the plain law. -/
import Derived.Test.YtglihheagfnakaaGreatRows
import Derived.Shelf.Vars
import Derived.Deep.DeepHandedRow
import Derived.ChangeMaps5
import Derived.LaidLaws
import Derived.OpenShut
import Derived.Test.YtglihheagfnakaaGreatB
import Derived.Test.YtglihheagfnakaaGreatC
import Derived.Test.YtglihheagfnakaaGreatD
import Derived.Test.YtglihheagfnakaaGreatE
import Derived.Test.YtglihheagfnakaaGreatF
import Derived.Test.YtglihheagfnakaaGreatH
import Derived.Test.YtglihheagfnakaaGreatI
set_option linter.unusedVariables false
set_option linter.unusedSimpArgs false
set_option linter.unnecessarySimpa false
set_option linter.deprecated false
set_option linter.unusedSectionVars false
set_option linter.constructorNameAsVariable false
open Go.IntKind renaming wrap->kwr,bits->kbt
open List renaming length_cons->ja,getElem?_eq_getElem->jf,mem_cons->jg,map_cons->jk,drop_eq_getElem_cons->jn,length_take->jt,all_cons->jv,mem_append->jy,mem_singleton->jz,sum_cons->jA,getElem?_eq_some_iff->jG,map_nil->jN
open Bool renaming and_eq_true->ji,not_false->jo,not_true->jp
open Nat renaming exists_eq_succ_of_ne_zero->jj,le_refl->jw,zero_le->jR
section
open Go Ax
namespace W
theorem eJ {m b:Nat} (h:m<=1099511627776) (a:b<=128):decide (m * b<=140737488355328)=true:=by
 refine kdt ?_
 calc m * b<=1099511627776 * 128:=Nat.mul_le_mul h a
  _<=140737488355328:=by decide
open Go Ax
section
variable {A R S T:Type}
@[simp] theorem xO (a:A) (k:A->Option R):bnd (some a) k=k a:=rfl
@[simp] theorem aa (k:Option R):chk true k=k:=rfl
theorem MO {b:Bool} {k:Option R} (h:b=true):chk b k=k:=by subst h; rfl
theorem dE {p:Prop} [Decidable p] {k:Option R} (h:p):chk (decide p) k=k:=MO (kdt h)
@[simp] theorem nS [Inhabited A] (o:Option A):qE true o=o:=rfl
@[simp] theorem Rs [Inhabited A] (o:Option A):qE false o=some default:=rfl
theorem vT (B:(S->Option R)->S->Option R) (n:Nat) (s:S):qC B (n+1) s=B (qC B n) s:=rfl
theorem uy {l:List A} {i:Nat} {x:A} (h:l[i]? =some x):idx l (i:Int)=some x:=by
 unfold idx;rw[if_pos (Int.natCast_nonneg i)];simpa using h
@[simp] theorem Nb (x:A) (l:List A):idx (x::l) (0:Int)=some x:=rfl
@[simp] theorem eh (x y:A) (l:List A):idx (x::y::l) (1:Int)=some y:=rfl
@[simp] theorem natI_nat (n:Nat):rZ (n:Int)=some n:=by
 unfold rZ;rw[if_pos (Int.natCast_nonneg n)];simp
theorem vm {k:Nat} (h:k<=1152921504606846976):kwr .i64 ((k:Int)+1)=((k+1:Nat):Int):=by
 rw[ME _ (by omega) (by omega)]; omega
theorem TQ {i:Int} (a:-1152921504606846976<=i) (b:i<=1152921504606846976):kwr .i64 i=i:=ME _ (by omega) (by omega)
theorem Xk {B:(S->Option R)->S->Option R} (st:Nat->S) (m:Nat) {r:Option R} (b:∀ k,k<m->∀ a,B a (st k)=a (st (k+1))) (he:∀ a,B a (st m)=r) {n:Nat} (hn:m<n):qC B n (st 0)=r:=by
 have key:∀ (d k n:Nat),k+d=m->d<n->qC B n (st k)=r:=by
  intro d
  induction d with
  | zero=>
   intro k n c hn;obtain⟨n,rfl⟩:=jj (by omega:n≠0);have:k=m:=by omega
   subst this;exact he _
  | succ d ih=>
   intro k n c hn;obtain⟨n,rfl⟩:=jj (by omega:n≠0);rw[vT,b k (by omega)];exact ih (k+1) n (by omega) (by omega)
 exact key m 0 n (by omega) hn
def orE (o k:Option R):Option R:=match o with|some r=>some r|none=>k
def az (o:R ⊕ T) (k:T->Option R):Option R:=match o with|.inl r=>some r|.inr t=>k t
@[simp] theorem aV (r:R) (k:Option R):orE (some r) k=some r:=rfl
@[simp] theorem aU (k:Option R):orE none k=k:=rfl
@[simp] theorem eZ (r:R) (k:T->Option R):az (.inl r) k=some r:=rfl
@[simp] theorem aA (t:T) (k:T->Option R):az (.inr t) k=k t:=rfl
def NM (f:T->A->R ⊕ T):T->List A->R ⊕ T
 | t,[]=>.inr t
 | t,x::l=>match f t x with
  | .inl r=>.inl r
  | .inr t'=>NM f t' l
theorem RV {B:(S->Option R)->S->Option R} (mk:Nat->T->S) (I:Nat->T->Prop) {l:List A} (f:T->A->R ⊕ T) {rest:T->Option R}
  (h:∀ (k:Nat) (x:A) (t:T) (c:S->Option R),l[k]? =some x->I k t->B c (mk k t)=az (f t x) fun b=>c (mk (k+1) b))
  (i:∀ (k:Nat) (x:A) (t b:T),l[k]? =some x->I k t->f t x=.inr b->I (k+1) b)
  (he:∀ (t:T) (c:S->Option R),I l.length t->B c (mk l.length t)=rest t) {n:Nat} (hn:l.length<n) {t0:T} (m:I 0 t0) :
  qC B n (mk 0 t0)=az (NM f t0 l) rest:=by
 have key:∀ (suf:List A) (k n:Nat) (t:T),(∀ j,suf[j]? =l[k+j]?)->k+suf.length=l.length->suf.length<n->I k t->qC B n (mk k t)=az (NM f t suf) rest:=by
  intro suf
  induction suf with
  | nil=>
   intro k n t a e hn d;obtain⟨n,rfl⟩:=jj (by omega:n≠0);have:k=l.length:=by simpa using e
   subst this;rw[vT,he t _ d];rfl
  | cons x suf ih=>
   intro k n t a e hn d;obtain⟨n,rfl⟩:=jj (by omega:n≠0);have g:l[k]? =some x:=by have:=a 0; simpa using this.symm
   rw[vT,h k x t _ g d];simp only[NM];cases o:f t x with
   | inl r=>rfl
   | inr b=>
    simp only[aA];refine ih (k+1) n b (fun j=>?_) (by simp at e; omega) (by simp at hn; omega) (i k x t b g d o);have:=a (j+1);rw[show k+1+j=k+(j+1) by omega];simpa using this
 exact key l 0 n t0 (fun j=>by simp) (by simp) hn m
def DJ (f:A->Option R):List A->Option R
 | []=>none
 | x::l=>match f x with
  | some r=>some r
  | none=>DJ f l
theorem HB {B:(S->Option R)->S->Option R} (mk:Nat->S) {l:List A} (f:A->Option R) {rest:Option R}
  (b:∀ (k:Nat) (x:A) (a:S->Option R),l[k]? =some x->B a (mk k)=orE (f x) (a (mk (k+1))))
  (he:∀ (a:S->Option R),B a (mk l.length)=rest) {n:Nat} (hn:l.length<n) :
  qC B n (mk 0)=orE (DJ f l) rest:=by
 have h:=RV (B:=B) (fun k (_:Unit)=>mk k) (fun _ _=>True) (l:=l) (fun _ x=>match f x with|some r=>.inl r|none=>.inr ()) (rest:=fun _=>rest)
  (fun k x _ a c _=>by rw[b k x a c]; cases f x<;>rfl) (fun _ _ _ _ _ _ _=>trivial) (fun _ a _=>he a) hn (t0:=()) trivial
 rw[h];have key:∀ l:List A,NM (T:=Unit) (fun _ x=>match f x with|some r=>.inl r|none=>.inr ()) () l=(match DJ f l with|some r=>.inl r|none=>.inr ()):=by
  intro l
  induction l with
  | nil=>rfl
  | cons x l ih=>
   simp only[NM,DJ];cases f x with
   | some r=>rfl
   | none=>exact ih
 rw[key];cases DJ f l<;>rfl
end
theorem ZF {A:Type} {l:List A} {k:Nat} {x:A} (h:l[k]? =some x):k<l.length:=(jG.1 h).1
theorem FI {A:Type} {l:List A} {k:Nat} {x:A} (h:l[k]? =some x):x∈l:=List.mem_of_getElem? h
@[simp] theorem zP (l:List (List UInt8)):(qi l).length=l.length:=by simp[qi]
@[simp] theorem iM (k:IntKind) (l:List Int):(Rx k l).length=l.length:=by simp[Rx]
@[simp] theorem PF (l:List UInt8):(qp l).length=l.length:=by simp[qp]
@[simp] theorem zw (l:List Val):(Val.rows l).length=l.length:=by rw[rows_eq]; simp
theorem nP {k m:Nat} (h:k<m):decide ((k:Int)<(m:Int))=true:=kdt (by omega)
theorem ft {m:Nat}:decide ((m:Int)<(m:Int))=false:=kdf (by omega)
open Go Ax
def isz (i:Int):Nat:=if -9223372036854775808<=i/\i<=9223372036854775807 then 1 else 1099511627776
theorem ic {i:Int} (h:IntKind.i64.min<=i/\i<=IntKind.i64.max):isz i=1:=by
 have a:IntKind.i64.min = -9223372036854775808:=by decide
 have b:IntKind.i64.max=9223372036854775807:=by decide
 unfold isz;rw[if_pos]; omega
theorem ak {i:Int} (h:isz i<1099511627776):-9223372036854775808<=i/\i<=9223372036854775807:=by
 unfold isz at h;split at h
 ·assumption
 omega
def kd:Val->Int
 | .mk k _ _ _ _ _=>k
mutual
def tP:Val->Nat
 | .mk _ _ i s l ks=>1+isz i+s.length+uT l+(ks.map fun k=>1+k.length).sum
def uT:List Val->Nat
 | []=>1
 | v::l=>1+tP v+uT l
end
def QU (l:List (List UInt8)):Nat:=(l.map fun k=>1+k.length).sum
theorem gl (l:List (List UInt8)):l.length<=QU l:=by
 induction l with
 | nil=>simp[QU]
 | cons x l ih=>simp only[QU,jk,jA,ja]at ih ⊢; omega
@[simp] theorem TY (l:List qd):(qd.rows l).length=l.length:=by rw[qd.rows_eq]; simp
open Go Ax
open Go Ax
def upB (b:UInt8):UInt8:=if 97<=b.toNat/\b.toNat<=122 then UInt8.ofNat (b.toNat - 32)else b
set_option maxRecDepth 100000 in
theorem aI:∀ m:Fin 256,97<=m.val/\m.val<=122->u8I (kwr .u8 ((m.val:Int) - 32))=some (UInt8.ofNat (m.val - 32)):=by decide
theorem lB (b:UInt8) (h:97<=b.toNat/\b.toNat<=122):u8I (kwr .u8 ((b.toNat:Int) - 32))=some (upB b):=by
 have:=aI ⟨b.toNat,b.toNat_lt⟩ h;unfold upB;rw[if_pos h];exact this
theorem lz (b:UInt8):u8I (b.toNat:Int)=some b:=by
 unfold u8I;have:=b.toNat_lt;rw[if_pos (by omega)];simp
def Qd (s:List UInt8):List UInt8:=s.map upB
theorem aj (b:UInt8):(bif decide ((b.toNat:Int)≥97)then decide ((b.toNat:Int)<=122)else false)=decide (97<=b.toNat/\b.toNat<=122):=by
 by_cases a:97<=b.toNat<;>by_cases c:b.toNat<=122
 ·rw[kdt (by omega:(b.toNat:Int)≥97),kdt (by omega:(b.toNat:Int)<=122),kdt ⟨a,c⟩]; rfl
 ·rw[kdt (by omega:(b.toNat:Int)≥97),kdf (by omega:¬ (b.toNat:Int)<=122),kdf (by omega:¬ (97<=b.toNat/\b.toNat<=122))]; rfl
 ·rw[kdf (by omega:¬ (b.toNat:Int)≥97),kdf (by omega:¬ (97<=b.toNat/\b.toNat<=122))]; rfl
 rw[kdf (by omega:¬ (b.toNat:Int)≥97),kdf (by omega:¬ (97<=b.toNat/\b.toNat<=122))]; rfl
theorem Cn {n:Nat} {s:List UInt8} (h:s.length<n) (hn:n<=1099511627776):nr n s=some (Qd s):=by
 unfold nr;have:=Xk (B:=gD n s) (fun k=>((s.take k).map upB,(k:Int))) s.length (r:=some (Qd s))
  (fun k d f=>by
   obtain⟨b,e⟩:∃ b,s[k]? =some b:=⟨s[k],jf d⟩;have g:(s.take (k+1)).map upB=(s.take k).map upB++[upB b]:=by rw[List.take_succ,e]; simp
   simp only[gD,nP d,kct,uy e,xO,aj];rw[g];have c:decide ((qp ((s.take k).map upB++[upB b])).length * 1<=140737488355328)=true:=eJ (by simp; omega) (by omega);by_cases a:97<=b.toNat/\b.toNat<=122
   ·rw[kdt a,kct]
    simp only[gC,lB b a,xO];rw[MO c,vm (by omega)]
   rw[kdf a,kcf];have hu:upB b=b:=by unfold upB; rw[if_neg a]
   rw[hu]at c ⊢;simp only[gC,lz,xO];rw[MO c,vm (by omega)])
  (fun f=>by simp only[gD,ft,kcf,List.take_length]; rfl) h
 simpa using this
def RT (b:UInt8):Bool:=decide (97<=b.toNat/\b.toNat<=122)||decide (65<=b.toNat/\b.toNat<=90)||decide (b.toNat=95)
def SQ (b:UInt8):Bool:=decide (48<=b.toNat/\b.toNat<=57)
def RZ (s:List UInt8):Bool:=match s with
 | []=>false
 | b::l=>decide (l.length<64)&&RT b&&l.all fun c=>RT c||SQ c
theorem Qm (n:Nat) (b:UInt8):uU n (b.toNat:Int)=some (RT b):=by
 unfold uU RT;rw[aj];congr 1;by_cases a:97<=b.toNat/\b.toNat<=122
 ·simp[a]
 by_cases d:65<=b.toNat/\b.toNat<=90
 ·rw[kdf a,kdt d,kdt (by omega:(b.toNat:Int)≥65),kdt (by omega:(b.toNat:Int)<=90)]; rfl
 have:(bif decide ((b.toNat:Int)≥65)then decide ((b.toNat:Int)<=90)else false)=false:=by
  by_cases f:65<=b.toNat
  ·rw[kdt (by omega:(b.toNat:Int)≥65),kdf (by omega:¬ (b.toNat:Int)<=90)]; rfl
  rw[kdf (by omega:¬ (b.toNat:Int)≥65)]; rfl
 rw[kdf a,this,kdf d];by_cases e:b.toNat=95
 ·simp[e]
 have c:((b.toNat:Int)==95)=false:=kbf.2 (by omega);simp only[Bool.or_false,Bool.false_or,kcf];rw[c,kdf e]
theorem Cm (n:Nat) (b:UInt8):uZ n (b.toNat:Int)=some (SQ b):=by
 unfold uZ SQ;congr 1;by_cases a:48<=b.toNat<;>by_cases c:b.toNat<=57
 ·rw[kdt (by omega:(b.toNat:Int)≥48),kdt (by omega:(b.toNat:Int)<=57),kdt ⟨a,c⟩]; rfl
 ·rw[kdt (by omega:(b.toNat:Int)≥48),kdf (by omega:¬ (b.toNat:Int)<=57),kdf (by omega:¬ (48<=b.toNat/\b.toNat<=57))]; rfl
 ·rw[kdf (by omega:¬ (b.toNat:Int)≥48),kdf (by omega:¬ (48<=b.toNat/\b.toNat<=57))]; rfl
 rw[kdf (by omega:¬ (b.toNat:Int)≥48),kdf (by omega:¬ (48<=b.toNat/\b.toNat<=57))]; rfl
theorem BS {n:Nat} {s:List UInt8} (h:s.length<n) (hn:n<=1099511627776):sd n s=some (RZ s):=by
 unfold sd;cases s with
 | nil=>rfl
 | cons b l=>
  by_cases d:l.length<64
  ·have a:(bif decide ((((b::l).length:Nat):Int)<1)then true else decide ((((b::l).length:Nat):Int)>64))=false:=by
    rw[kdf (by simp; omega),kdf (by simp; omega)]; rfl
   simp only[a,jo,nS,Nb,xO,Qm,kcf,RZ];rw[kdt d];cases g:RT b with
   | false=>rfl
   | true=>
    simp only[jp,kcf,Bool.true_and];have e:=HB (B:=fB n (b::l)) (fun k=>((k:Nat):Int)) (l:=b::l) (fun c=>if(RT c||SQ c)=true then none else some false) (rest:=some true)
     (fun k x i f=>by
      have j:=ZF f;simp only[fB,nP j,kct,uy f,xO,Qm];rw[vm (by omega)];cases m:RT x with
      | true=>simp
      | false=>
       simp only[jo,nS,xO,Cm,kct];cases SQ x<;>simp)
     (fun i=>by simp only[fB,ft,kcf]) (n:=n) h
    refine Eq.trans e ?_;have key:∀ l:List UInt8,DJ (R:=Bool) (fun c=>if(RT c||SQ c)=true then none else some false) l=if(l.all fun c=>RT c||SQ c)=true then none else some false:=by
     intro l
     induction l with
     | nil=>rfl
     | cons c l ih=>
      simp only[DJ,jv,ih];by_cases a:(RT c||SQ c)=true<;>simp only[a,if_true,Bool.true_and,Bool.not_eq_true]<;>simp_all
    rw[key];simp only[jv,g,Bool.true_or,Bool.true_and];cases(l.all fun c=>RT c||SQ c)<;>rfl
  ·have a:(bif decide ((((b::l).length:Nat):Int)<1)then true else decide ((((b::l).length:Nat):Int)>64))=true:=by
    rw[kdf (by simp; omega),kdt (by simp; omega)]; rfl
   simp only[a,jp,Rs,xO,kct,RZ];rw[kdf d];rfl
open Go Ax
open Go Ax
def Lk:List (List UInt8):=[([77,65,84,67,72]:List UInt8),([87,72,69,82,69]:List UInt8),([85,78,87,73,78,68]:List UInt8),([65,83]:List UInt8),([87,73,84,72]:List UInt8),([67,82,69,65,84,69]:List UInt8),([77,69,82,71,69]:List UInt8),([83,69,84]:List UInt8),([82,69,77,79,86,69]:List UInt8),([68,69,76,69,84,69]:List UInt8),([68,69,84,65,67,72]:List UInt8),([82,69,84,85,82,78]:List UInt8),([68,73,83,84,73,78,67,84]:List UInt8),([79,82,68,69,82]:List UInt8),([66,89]:List UInt8),([65,83,67]:List UInt8),([68,69,83,67]:List UInt8),([83,75,73,80]:List UInt8),([76,73,77,73,84]:List UInt8),([65,78,68]:List UInt8),([79,82]:List UInt8),([88,79,82]:List UInt8),([78,79,84]:List UInt8),([73,78]:List UInt8),([73,83]:List UInt8),([78,85,76,76]:List UInt8),([84,82,85,69]:List UInt8),([70,65,76,83,69]:List UInt8)]
def iv (s:List UInt8):Bool:=RZ s&&!(Lk.contains (Qd s))
theorem BW {n:Nat} {s:List UInt8} (h:s.length<n) (f:28<n) (hn:n<=1099511627776) :
  na n s=some (if Lk.contains (Qd s)then(Qd s,true)else([],false)):=by
 unfold na;rw[show tc n=some Lk from rfl,xO,Cn h hn,xO];have g:Lk.length=28:=rfl;refine Eq.trans (HB (B:=fC n Lk (Qd s)) (fun k=>(k:Int)) (l:=Lk) (fun w=>if w=Qd s then some (Qd s,true)else none) (rest:=some ([],false)) ?_ ?_ (by omega)) ?_
 ·intro k x d c
  have e:=ZF c;unfold fC;rw[zP,nP e,kct,uy c,xO,vm (by omega)];by_cases hw:x=Qd s
  ·subst hw
   simp
  rw[if_neg hw,kbf.2 hw];rfl
 ·intro d
  unfold fC;rw[zP,ft];rfl
 have:∀ l:List (List UInt8),DJ (fun w=>if w=Qd s then some (Qd s,true)else none) l=if l.contains (Qd s)then some (Qd s,true)else none:=by
  intro l
  induction l with
  | nil=>rfl
  | cons a l ih=>
   simp only[DJ,ih];by_cases b:a=Qd s
   ·subst b
    simp
   rw[if_neg b];have:(a::l).contains (Qd s)=l.contains (Qd s):=by
    rw[List.contains_cons,kbf.2 (Ne.symm b),Bool.false_or]
   rw[this]
 rw[this];cases Lk.contains (Qd s)<;>rfl
theorem Cp {n:Nat} {s:List UInt8} (h:s.length<n) (a:28<n) (hn:n<=1099511627776):vD n s=some (iv s):=by
 unfold vD;rw[BW h a hn,xO];unfold iv;cases Lk.contains (Qd s)<;>simp[BS h hn]<;>cases RZ s<;>rfl
open Go Ax
theorem Pg {k:Nat} (h:k+1<=1152921504606846976):kwr .i64 (((k+1:Nat):Int) - 1)=((k:Nat):Int):=by
 rw[TQ (by omega) (by omega)]; omega
theorem lf (x:List UInt8):(decide (((x.length:Nat):Int)<1))=(x==[]):=by
 cases x with
 | nil=>rfl
 | cons a x=>simp; omega
theorem TI (n:Nat) (ks:List (List UInt8)) (c d:Int) (l:List Val) (g:Val->Int->Int->Option (Int×Bool)) (hn:n<=1099511627776):∀ m k:Nat,k<=ks.length->ks.length - k<m->ks.length<n ->
  ∃ b,qC (xR n ks) m (k:Int)=some b/\qC (fa n ks c l g d) m (k:Int)=bif b then gY n l g d c ()else some (kwr .i64 (c+1),false):=by
 intro m
 induction m with
 | zero=>intro k _ h; omega
 | succ m ih=>
  intro k q hm i;rw[vT,vT];by_cases he:k=ks.length
  ·subst he
   refine⟨true,?_,?_⟩
   ·simp only[xR,zP,ft,kcf]
   simp only[fa,zP,ft,kcf,kct]
  have a:k<ks.length:=by omega
  obtain⟨x,j⟩:∃ x,ks[k]? =some x:=⟨_,jf a⟩;obtain⟨b,e,f⟩:=ih (k+1) (by omega) (by omega) i;rw[← vm (by omega)]at e f;simp only[xR,fa,zP,nP a,kct,uy j,xO,lf];cases r:x==[]with
  | true=>exact⟨false,by simp,by simp⟩
  | false=>
   simp only[jo,nS,xO,kcf];cases s:decide (((x.length:Nat):Int)>64)with
   | true=>exact⟨false,by simp,by simp⟩
   | false=>
    cases k with
    | zero=>
     refine⟨b,?_,?_⟩
     ·simpa using e
     simpa using f
    | succ k=>
     have o:decide ((((k+1:Nat):Int))>0)=true:=kdt (by omega);obtain⟨y,p⟩:∃ y,ks[k]? =some y:=⟨_,jf (by omega)⟩;simp only[o,jo,Bool.and_true,nS,Pg (show k+1<=1152921504606846976 by omega),uy p,xO,kct,kcf,MK];cases Op.bytesLess y x with
     | false=>exact⟨false,by simp,by simp⟩
     | true=>exact⟨b,by simpa using e,by simpa using f⟩
theorem vY:∀ l:List Val,l.length<uT l
 | []=>by simp[uT]
 | x::l=>by have:=vY l; simp only[uT,ja]; omega
theorem cf:∀ {l:List Val} {x:Val},x∈l->tP x+2<=uT l
 | y::l,x,h=>by
  simp only[uT];rcases jg.1 h with rfl|h
  ·have:=vY l; omega
  have:=cf h; omega
theorem TJ (n:Nat) (l:List Val) (g e:Val->Int->Int->Option (Int×Bool)) (d:Int) (hn:n<=1099511627776)
  (i:∀ v∈l,∀ d c,∃ r,g v d c=some r/\e v d c=some r):∀ m k:Nat,∀ c:Int,k<=l.length->l.length - k<m->l.length<n ->
  ∃ r,qC (xS n l g d) m (c,true,(k:Int))=some r/\qC (gZ n l e d) m (c,(k:Int))=some r:=by
 intro m
 induction m with
 | zero=>intro k _ _ h; omega
 | succ m ih=>
  intro k c u hm j;rw[vT,vT];by_cases he:k=l.length
  ·subst he
   refine⟨(c,true),?_,?_⟩
   ·simp only[xS,zw,ft,kcf]
   simp only[gZ,zw,ft,kcf]
  have a:k<l.length:=by omega
  obtain⟨x,f⟩:∃ x,l[k]? =some x:=⟨_,jf a⟩;obtain⟨⟨c2,b⟩,o,p⟩:=i x (FI f) (kwr .i64 (d - 1)) c;obtain⟨w,y,z,B,C,D⟩:=x;simp only[xS,gZ,zw,nP a,kct,uy f,xO,o,p];rw[vm (by omega)];cases b with
  | true=>
   obtain⟨r,q,s⟩:=ih (k+1) c2 (by omega) (by omega) j;exact⟨r,q,by simpa using s⟩
  | false=>
   refine⟨(c2,false),?_,by simp⟩;obtain⟨m,rfl⟩:∃ t,m=t+1:=⟨m - 1,by omega⟩;rw[vT];simp only[xS,Bool.cond_self,kcf]
theorem iF (n:Nat) {q:Int} (a:q<=7) (E:Bool) (F:Int) (G:List UInt8) (u:List Val) (H:List (List UInt8)):bS n ⟨q,E,F,G,u,H⟩=vP n ⟨q,E,F,G,u,H⟩:=by
 simp only[vP,bS];have e6:decide (q≥6)=(q==6||q==7):=by
  rw[Bool.eq_iff_iff]; simp; omega
 have e5:decide ((((Val.rows u).length:Nat):Int)>0)=!((((Val.rows u).length:Nat):Int)==0):=by
  generalize (Val.rows u).length=m;cases m with
  | zero=>rfl
  | succ m=>rw[kdt (by omega),kbf.2 (by omega)]; rfl
 have a1:(bif(q != 1)then E else false)=!(bif(q==1)then true else !E):=by
  rw[bne]; cases(q==1)<;>cases E<;>rfl
 have a2:(bif(bif(bif(q != 2)then(q != 6)else false)then(q != 7)else false)then(F != 0)else false)=!(bif(bif(q==2)then true else decide (q≥6))then true else(F==0)):=by
  rw[e6,bne,bne,bne,bne]; cases(q==2)<;>cases(q==6)<;>cases(q==7)<;>cases(F==0)<;>rfl
 have a3:(bif(q != 3)then(!(G==([]:List UInt8)))else false)=!(bif(q==3)then true else(G==([]:List UInt8))):=by
  rw[bne]; cases(q==3)<;>cases(G==([]:List UInt8))<;>rfl
 have a4:(bif(bif(q != 4)then(q != 5)else false)then decide ((((Val.rows u).length:Nat):Int)>0)else false)=!(bif(bif(q==4)then true else(q==5))then true else((((Val.rows u).length:Nat):Int)==0)):=by
  rw[e5,bne,bne]; cases(q==4)<;>cases(q==5)<;>cases((((Val.rows u).length:Nat):Int)==0)<;>rfl
 rw[a1,a2,a3,a4];generalize (bif(q==1)then true else !E)=A;generalize (bif(bif(q==2)then true else decide (q≥6))then true else(F==0))=B;generalize (bif(q==3)then true else(G==([]:List UInt8)))=C;generalize (bif(bif(q==4)then true else(q==5))then true else((((Val.rows u).length:Nat):Int)==0))=D;cases A<;>cases B<;>cases C<;>cases D<;>rfl
theorem QT:∀ n:Nat,n<=1099511627776->∀ v d c,tP v<n->∃ r,xJ n v d c=some r/\gX n v d c=some r:=by
 intro n
 induction n with
 | zero=>intro _ _ _ _ h; omega
 | succ n ih=>
  intro hn v d c t;obtain⟨q,F,E,H,u,D⟩:=v;have w:uT u<n/\D.length<n:=by
   have:=gl D;simp only[QU]at this;simp only[tP]at t;have I:=vY u;omega
  have J:=vY u;have x:∀ v∈u,∀ d c,∃ r,xJ n v d c=some r/\gX n v d c=some r:=fun v hm d c=>ih (by omega) v d c (by have:=cf hm; omega)
  have a:∀ c,∃ r,qC (xS n u (xJ n) d) n (c,true,(0:Int))=some r/\qC (gZ n u (gX n) d) n (c,(0:Int))=some r:=fun c=>
   TJ n u _ _ d (by omega) x n 0 c (by omega) (by omega) (by omega)
  obtain⟨s,i,j⟩:=TI n D c d u (gX n) (by omega) n 0 (by omega) (by omega) w.2;obtain⟨r,b,e⟩:=a (kwr .i64 (c+1));simp only[xJ,gX,fy,Za,vA];generalize hC:kwr .i64 (c+1)=C at *;have k:∃ G:Bool,(bif(bif(bif(decide (d<1))then true else(decide (C>4096)))then true else(decide (q<0)))then true else(decide (q>7)))=G /\
    (bif(bif(bif(decide (C>4096))then true else(decide (d<1)))then true else(decide (q<0)))then true else(decide (q>7)))=G/\(G=false->q<=7):=by
   refine⟨_,rfl,?_,?_⟩
   ·cases decide (C>4096)<;>cases decide (d<1)<;>rfl
   cases decide (C>4096)<;>cases decide (d<1)<;>cases decide (q<0)<;>simp
  obtain⟨G,m,o,p⟩:=k;rw[m,o];cases G with
  | true=>exact⟨(C,false),by simp,by simp⟩
  | false=>
   have y:=p rfl;rw[iF n y];obtain⟨B,z⟩:∃ B,vP n ⟨q,F,E,H,u,D⟩=some B:=⟨_,rfl⟩;rw[z];have e6:decide (q≥6)=(bif(q==6)then true else(q==7)):=by
    rw[Bool.eq_iff_iff]; simp; omega
   rw[e6];cases B with
   | false=>exact⟨(C,false),by simp,by simp⟩
   | true=>
    simp only[jo,jp,nS,xO,kcf,kct];cases K:(bif(bif(q==6)then true else(q==7))then decide (E<1)else false)with
    | true=>exact⟨(C,false),by simp,by simp⟩
    | false=>
     cases L:(q==5)with
     | false=>
      refine⟨r,?_,?_⟩
      ·simpa using b
      simpa[gY,hC]using e
     | true=>
      cases M:((((qi D).length:Nat):Int) != (((Val.rows u).length:Nat):Int))with
      | true=>exact⟨(C,false),by simp,by simp⟩
      | false=>
       simp only[jo,Bool.and_true,nS,kcf,kct];have f:qC (xR n D) n (0:Int)=some s:=i;have g:qC (fa n D c u (gX n) d) n (0:Int)=_:=j;rw[f,g,xO];cases s with
       | true=>
        refine⟨r,?_,?_⟩
        ·simpa using b
        simpa[gY,hC]using e
       | false=>exact⟨(C,false),by simp,by simp⟩
theorem SO {n:Nat} (hn:n<=1099511627776) {v:Val} (a:tP v<n):∃ b:Bool,gj n v=some (bif b then 0 else 20)/\fS n v=some b:=by
 obtain⟨f,g,h,i,j,k⟩:=v;obtain⟨⟨c,b⟩,d,e⟩:=QT n hn _ 32 0 a;refine⟨b,?_,?_⟩
 ·simp only[gj,d,xO]
  cases b<;>rfl
 ·simp only[fS,e,xO]
open Go Ax
theorem Rc {A:Type} {B:(Int->Option Bool)->Int->Option Bool} {l l':List A} (hlen:l.length=l'.length)
  (step:∀ (k:Nat) x y c,l[k]? =some x->l'[k]? =some y->∃ b,(b=true↔x=y)/\B c (k:Int)=bif b then c ((k+1:Nat):Int)else some false)
  (a:∀ c,B c (l.length:Int)=some true) {n:Nat} (hn:l.length<n):∃ b,qC B n 0=some b/\(b=true↔l=l'):=by
 have main:∀ m k:Nat,k<=l.length->l.length - k<m->∃ b,qC B m (k:Int)=some b/\(b=true↔l.drop k=l'.drop k):=by
  intro m
  induction m with
  | zero=>intro k _ h; omega
  | succ m ih=>
   intro k o hm;rw[vT];by_cases he:k=l.length
   ·subst he
    exact⟨true,a _,by rw[List.drop_length,hlen,List.drop_length]; simp⟩
   have d:k<l.length:=by omega
   have e:k<l'.length:=by omega
   obtain⟨b,f,g⟩:=step k _ _ (qC B m) (jf d) (jf e);rw[g,jn d,jn e,List.cons.injEq,← f];cases b with
   | false=>exact⟨false,rfl,by simp⟩
   | true=>
    obtain⟨b,i,j⟩:=ih (k+1) (by omega) (by omega);exact⟨b,i,by simpa using j⟩
 obtain⟨b,d,e⟩:=main n 0 (by omega) (by omega);exact⟨b,d,by simpa using e⟩
theorem DW {a b:Nat}:((((a:Nat):Int) != ((b:Nat):Int))=true)↔a≠b:=by simp[Int.natCast_inj]
theorem uf {n:Nat} {x y:List (List UInt8)} (h:x.length<n) (hn:n<=1099511627776):∃ b,zF n x y=some b/\(b=true↔x=y):=by
 unfold zF;by_cases c:x.length=y.length
 ·have:((((qi x).length:Nat):Int) != (((qi y).length:Nat):Int))=false:=by simp[c]
  rw[this,kcf];refine Rc c (fun k a b f d g=>⟨a==b,beq_iff_eq,?_⟩) (fun f=>by simp only[ug,zP,ft,kcf]) h
  have i:=ZF d;simp only[ug,zP,nP i,kct,uy d,uy g,xO];rw[vm (by omega)]
  first|(cases a==b<;>rfl)|(cases h:a==b<;>simp[h,bne])
 ·have:((((qi x).length:Nat):Int) != (((qi y).length:Nat):Int))=true:=by rw[zP,zP]; exact DW.2 c
  rw[this];exact⟨false,rfl,by simp; intro e; exact c (congrArg _ e)⟩
theorem Sn {d e:Int} {f g:Bool} {h i:Int} {j c:List UInt8} {q k:List (List UInt8)} {s m:List Val} {N L:Option Bool} {a b:Bool} (t:N=some a) (u:a=true↔q=k) (v:L=some b) (w:b=true↔s=m) :
  ∃ r,(bnd (qE (bif(bif(bif(d==e)then(f==g)else false)then(h==i)else false)then(j==c)else false) N) fun o=>
   bnd (qE (bif(bif(bif(bif(d==e)then(f==g)else false)then(h==i)else false)then(j==c)else false)then o else false) L) fun p=>
   some (bif(bif(bif(bif(bif(d==e)then(f==g)else false)then(h==i)else false)then(j==c)else false)then o else false)then p else false))=some r /\
  (r=true↔Val.mk d f h j s q=Val.mk e g i c m k):=by
 subst t v;have e1:(d==e)=true↔d=e:=beq_iff_eq;have e2:(f==g)=true↔f=g:=beq_iff_eq;have e3:(h==i)=true↔h=i:=beq_iff_eq;have e4:(j==c)=true↔j=c:=beq_iff_eq;rw[Val.mk.injEq,← e1,← e2,← e3,← e4,← w,← u];cases(d==e)<;>cases(f==g)<;>cases(h==i)<;>cases(j==c)<;>cases a<;>cases b<;>exact⟨_,rfl,by simp⟩
theorem Np:∀ n:Nat,n<=1099511627776->(∀ v w,tP v<n->∃ b,uE n v w=some b/\(b=true↔v=w))/\(∀ l l',uT l<n->∃ b,xP n l l'=some b/\(b=true↔l=l')):=by
 intro n
 induction n with
 | zero=>intro _; exact⟨fun _ _ h=>by omega,fun _ _ h=>by omega⟩
 | succ n ih=>
  intro hn;obtain⟨f,g⟩:=ih (by omega);refine⟨fun v w t=>?_,fun l l' I=>?_⟩
  ·obtain⟨E,G,H,J,q,u⟩:=v
   obtain⟨K,M,O,F,C,D⟩:=w;have d:uT q<n/\u.length<n:=by
    have:=gl u;simp only[QU]at this;simp only[tP]at t;have L:=vY q;omega
   obtain⟨a,i,j⟩:=uf (y:=D) d.2 (by omega);obtain⟨b,m,o⟩:=g q C d.1;simp only[uE,sQ];exact Sn i j m o
  have hlen:=vY l;simp only[xP,cW];by_cases c:l.length=l'.length
  ·have:((((Val.rows l).length:Nat):Int) != (((Val.rows l').length:Nat):Int))=false:=by simp[c]
   rw[this,kcf];refine Rc c (fun k a b x p d=>?_) (fun x=>by simp only[uF,zw,ft,kcf]) (by omega)
   have z:=ZF p;obtain⟨r,B,s⟩:=f a b (by have:=cf (FI p); omega);refine⟨r,s,?_⟩;obtain⟨E,G,H,J,q,u⟩:=a;obtain⟨K,M,O,F,C,D⟩:=b;simp only[uF,zw,nP z,kct,uy p,uy d,xO,B];rw[vm (by omega)];cases r<;>rfl
  ·have:((((Val.rows l).length:Nat):Int) != (((Val.rows l').length:Nat):Int))=true:=by rw[zw,zw]; exact DW.2 c
   rw[this];exact⟨false,rfl,by simp; intro e; exact c (congrArg _ e)⟩
open Go Ax
open Go Ax
open Go Ax
theorem Eg {A:Type} (f:A->Nat):∀ {l:List A} {x:A},x∈l->f x<=(l.map f).sum
 | y::l,x,h=>by
  rcases jg.1 h with rfl|h
  ·simp
  have:=Eg f h; simp; omega
theorem MA {A:Type} (f:A->Nat) (a:∀ x,1<=f x):∀ l:List A,l.length<=(l.map f).sum
 | []=>by simp
 | x::l=>by have:=MA f a l; have:=a x; simp; omega
@[simp] theorem ir (l:List qe):(qe.rows l).length=l.length:=by simp[qe.rows]
@[simp] theorem TW (l:List qg):(qg.rows l).length=l.length:=by simp[qg.rows]
@[simp] theorem iu (l:List zU):(zU.rows l).length=l.length:=by simp[zU.rows]
open Go Ax
open Go Ax
open Go Ax
open Go Ax
open Go Ax
open Go Ax
@[simp] theorem SG (l:List qy):(qy.rows l).length=l.length:=by simp[qy.rows]
open Go Ax
open Go Ax
open Go Ax
open Go Ax
theorem iL {A:Type} {B:(Int->Option Bool)->Int->Option Bool} {l l':List A} {e:Bool} (hlen:l.length=l'.length)
  (step:∀ (k:Nat) x y c,l[k]? =some x->l'[k]? =some y->∃ b,(b=true↔x=y)/\B c (k:Int)=bif b then c ((k+1:Nat):Int)else some false)
  (a:∀ c,B c (l.length:Int)=some e) {n:Nat} (hn:l.length<n):∃ b,qC B n 0=some b/\(b=true↔l=l'/\e=true):=by
 have main:∀ m k:Nat,k<=l.length->l.length - k<m->∃ b,qC B m (k:Int)=some b/\(b=true↔l.drop k=l'.drop k/\e=true):=by
  intro m
  induction m with
  | zero=>intro k _ h; omega
  | succ m ih=>
   intro k p hm;rw[vT];by_cases he:k=l.length
   ·subst he
    exact⟨e,a _,by rw[List.drop_length,hlen,List.drop_length]; simp⟩
   have d:k<l.length:=by omega
   have f:k<l'.length:=by omega
   obtain⟨b,g,i⟩:=step k _ _ (qC B m) (jf d) (jf f);rw[i,jn d,jn f,List.cons.injEq,← g];cases b with
   | false=>exact⟨false,rfl,by simp⟩
   | true=>
    obtain⟨b,j,o⟩:=ih (k+1) (by omega) (by omega);exact⟨b,j,by simpa using o⟩
 obtain⟨b,d,f⟩:=main n 0 (by omega) (by omega);exact⟨b,d,by simpa using f⟩
open Go Ax
theorem ly (z:Int) (a:0<=z) (b:z<18446744073709551616):kwr .u64 z=z:=by
 show z % (2 ^ 64:Int)=z;omega
open Go Ax
open Go Ax
theorem oW (r k:Nat):Int.fdiv (r:Int) ((k:Nat):Int)=((r / k:Nat):Int):=by
 rw[Int.fdiv_eq_ediv_of_nonneg _ (by omega)]; rfl
open Go Ax
open Go Ax
theorem cH {A R:Type} (a:A) (k:A->Option R):bnd (some a) k=k a:=by
 generalize h:some a=o;cases h;rfl
theorem xA {A:Type} (a b:A):(bif true then a else b)=a:=by
 generalize h:true=o;cases h;rfl
theorem zC {A:Type} (a b:A):(bif false then a else b)=b:=by
 generalize h:false=o;cases h;rfl
open Go Ax
theorem Ld {A:Type} {l:List A} {i:Nat} {x:A} (h:l[i]? =some x):l.take i++[x]=l.take (i+1):=by rw[List.take_succ,h]; rfl
open Go Ax
theorem lY:∀ a b:List UInt8,Op.bytesLess a b=decide (a<b)
 | [],[]=>by simp[Op.bytesLess]
 | [],_::_=>by simp[Op.bytesLess]
 | _::_,[]=>by simp[Op.bytesLess]
 | x::xs,y::ys=>by
  have ih:=lY xs ys;simp only[Op.bytesLess,ih];by_cases h:x<y
  ·simp[h,List.cons_lt_cons_iff]
  by_cases c:x=y
  ·subst c; simp[List.cons_lt_cons_iff]
  simp[h,c,List.cons_lt_cons_iff]
theorem PJ {a b c:List UInt8} (h:a<b) (d:b<c):a<c:=List.lt_trans h d
def MH (ks:List (List UInt8)):Prop:=∀ (i:Nat) (x y:List UInt8),ks[i]? =some x->ks[i+1]? =some y->x<y
theorem MH.lt {ks:List (List UInt8)} (h:MH ks):∀ (d i:Nat) (x y:List UInt8),ks[i]? =some x->ks[i+d+1]? =some y->x<y
 | 0,i,x,y,hx,hy=>h i x y hx hy
 | d+1,i,x,y,hx,hy=>by
  have a:=ZF hy;obtain⟨z,hz⟩:∃ z,ks[i+d+1]? =some z:=⟨_,jf (by omega)⟩;exact PJ (h.lt d i x z hx hz) (h _ z y hz (by rw[← hy]; congr 1))
open Go Ax Go.RowKit
set_option maxRecDepth 10000
theorem TD {A:Type} {l:List A} {i:Nat} {x:A} (h:l[i]? =some x):l.set i x=l:=by
 obtain⟨a,e⟩:=jG.1 h;subst e;exact List.set_getElem_self a
theorem iI:∀ n:Nat,n<=1099511627776->∀ v:Val,tP v<n->xh n v=some v:=by
 intro n
 induction n with
 | zero=>intro _ _ h; omega
 | succ n ih=>
  intro hn v d;obtain⟨C,D,E,F,q,u⟩:=v;have f:uT q<n/\u.length<n:=by
   have:=gl u;simp only[QU]at this;simp only[tP]at d;omega
  have g:=vY q;have a:∀ k:Nat,(Val.rows (List.replicate k (Val.mk (0:Int) false (0:Int) ([]:List UInt8) ([]:List Val) ([]:List (List UInt8))))).length=k:=fun k=>by simp
  have loop:∀ (m i:Nat),i<=q.length->q.length - i<m->qC (vz n q.length (xh n) u C D E F) m ((i:Int),q)=some (Val.mk C D E F q u):=by
   intro m
   induction m with
   | zero=>intro i _ h; omega
   | succ m ihm=>
    intro i j hm;rw[vT];generalize qC (vz n q.length (xh n) u C D E F) m=nx at ihm ⊢;unfold vz;simp only[a];by_cases b:i<q.length
    ·obtain⟨x,c⟩:∃ x,q[i]? =some x:=⟨_,jf b⟩
     have e:=ih (by omega) x (by have:=cf (List.mem_of_getElem? c); omega);obtain⟨o,a2,a3,a4,a5,p⟩:=x;rw[kdt (show(i:Int)<(q.length:Int) by omega)];simp only[kct,W.natI_nat,xO,kdt b,aa,c,e];rw[vm (by omega),TD c];exact ihm (i+1) (by omega) (by omega)
    rw[kdf (show ¬ (i:Int)<(q.length:Int) by omega)];simp only[kcf];rw[dE (by simp[qi]; omega)]
  simp only[xh,fx,zw,W.natI_nat,xO,List.length_replicate,decide_true,aa];rw[dE (by omega)];exact loop n 0 (jR _) (by omega)
theorem Tw:∀ n:Nat,n<=1099511627776->∀ v:Val,tP v<n->fA n v=some v:=by
 intro n
 induction n with
 | zero=>intro _ _ h; omega
 | succ n ih=>
  intro hn v d;obtain⟨C,D,E,F,q,u⟩:=v;have g:uT q<n/\u.length<n:=by
   have:=gl u;simp only[QU]at this;simp only[tP]at d;omega
  have j:=vY q;simp only[fA,sP];refine Xk (B:=uX n q (fA n) u C D E F) (fun i=>(q.take i,((i:Nat):Int))) q.length (fun i b c=>?_) (fun c=>?_) (by omega)
  ·obtain⟨x,a⟩:∃ x,q[i]? =some x:=⟨_,jf b⟩
   have e:=ih (by omega) x (by have:=cf (FI a); omega);have f:=Ld a;obtain⟨k,a2,a3,a4,a5,m⟩:=x;simp only[uX,zw,nP b,kct,uy a,cH,e];rw[f,dE (by rw[jt]; omega),vm (by omega)]
  show uX n q (fA n) u C D E F c (q.take q.length,((q.length:Nat):Int))=_;rw[List.take_length];unfold uX;simp only[zw,ft,kcf];rw[dE (by rw[zP]; omega)]
theorem iG {R:Type} {B:(Int×Int->Option R)->Int×Int->Option R} (P:Nat->Bool) (len:Nat) (hmono:∀ a b,a<=b->b<len->P b=true->P a=true)
  (o:∀ i j:Nat,i<j->j<=len->∀ c,B c ((i:Int),(j:Int))=bif P ((i+j) / 2)then c ((((i+j) / 2+1:Nat):Int),(j:Int))else c ((i:Int),(((i+j) / 2:Nat):Int)))
  {rest:Nat->Option R} (he:∀ i:Nat,i<=len->∀ c,B c ((i:Int),(i:Int))=rest i) {n:Nat} (hn:len<n) :
  ∃ i:Nat,i<=len/\(∀ a,a<i->P a=true)/\(∀ a,i<=a->a<len->P a=false)/\qC B n ((0:Int),(len:Int))=rest i:=by
 have key:∀ (m i j:Nat),i<=j->j<=len->j - i<m->(∀ a,a<i->P a=true)->(∀ a,j<=a->a<len->P a=false) ->
   ∃ q:Nat,q<=len/\(∀ a,a<q->P a=true)/\(∀ a,q<=a->a<len->P a=false)/\qC B m ((i:Int),(j:Int))=rest q:=by
  intro m
  induction m with
  | zero=>intro i j _ _ h; omega
  | succ m ih=>
   intro i j p d hm f g;rw[vT];by_cases h:i=j
   ·subst h
    exact⟨i,d,f,g,he i d _⟩
   rw[o i j (by omega) d];cases hp:P ((i+j) / 2)with
   | true=>
    exact ih _ _ (by omega) d (by omega) (fun a k=>hmono a _ (by omega) (by omega) hp) g
   | false=>
    refine ih _ _ (by omega) (by omega) (by omega) f fun a k e=>?_;cases r:P a with
    | false=>rfl
    | true=>rw[hmono _ a k e r]at hp; cases hp
 exact key n 0 len (jR _) (jw _) (by omega) (fun a h=>by omega) fun a h s=>by omega
theorem eK (z:Int) (a:0<=z) (b:z<18446744073709551616):kwr .u64 z=z:=ly z a b
theorem eY {i j:Nat} (h:i+j<=1152921504606846976):kwr .i64 (Int.fdiv (kwr .u64 (kwr .i64 ((i:Int)+(j:Int)))) (2 ^ (min (Int.toNat (1:Int)) IntKind.u64.bits)))=(((i+j) / 2:Nat):Int):=by
 rw[TQ (i:=(i:Int)+(j:Int)) (by omega) (by omega),eK _ (by omega) (by omega)];have e:((i:Int)+(j:Int))=((i+j:Nat):Int):=by omega
 have:=oW (i+j) 2;rw[e,show((2:Int) ^ (min (Int.toNat (1:Int)) IntKind.u64.bits))=((2:Nat):Int)from rfl,this,TQ (by omega) (by omega)]
open Go Ax
open Go Ax
open Go Ax
open Go Ax
open Go Ax
@[simp] theorem VL (l:List Node):(Node.rows l).length=l.length:=by simp[Node.rows]
@[simp] theorem Ze (l:List Edge):(Edge.rows l).length=l.length:=by simp[Edge.rows]
def mX (d:Node):Nat:=1+QU d.labels+QU d.keys+uT d.vals
def mA (e:Edge):Nat:=1+e.type_.length+QU e.keys+uT e.vals
def Xo (g:Graph):Nat:=(g.nodes.map mX).sum+(g.edges.map mA).sum
def oN {A:Type} (key:A->Int) (l:List A):Prop:=l.Pairwise fun a b=>key a<key b
def uB {A:Type} (key:A->Int) (l:List A) (id:Int):Option A:=l.find? fun d=>key d==id
section
variable {A:Type} {key:A->Int} {l:List A} {id:Int}
theorem oN.lt (h:oN key l) {i j:Nat} {x y:A} (a:i<j) (b:l[i]? =some x) (c:l[j]? =some y):key x<key y:=by
 obtain⟨d,e1⟩:=jG.1 b;obtain⟨e,e2⟩:=jG.1 c;have:=List.pairwise_iff_getElem.1 h i j d e a;rw[e1,e2]at this;exact this
theorem Gj {d:A} (h:uB key l id=some d):d∈l/\key d=id:=
 ⟨List.mem_of_find?_eq_some h,by simpa using List.find?_some h⟩
theorem lv (h:oN key l) {i:Nat} {d:A} (b:l[i]? =some d) (g:key d=id):uB key l id=some d:=by
 cases f:uB key l id with
 | none=>exact absurd g (by simpa using List.find?_eq_none.1 f d (FI b))
 | some e=>
  obtain⟨hm,he⟩:=Gj f;obtain⟨j,c⟩:=List.getElem?_of_mem hm;rcases Nat.lt_trichotomy i j with a|a|a
  ·have:=h.lt a b c; omega
  ·subst a; rw[b]at c; exact c.symm
  have:=h.lt a c b; omega
theorem Sp (h:∀ (i:Nat) (d:A),l[i]? =some d->key d≠id):uB key l id=none:=
 List.find?_eq_none.2 fun d a=>by
  obtain⟨i,b⟩:=List.getElem?_of_mem a;simpa using h i d b
theorem lZ (o:oN key l) {B:(Int×Int->Option (Int×Bool))->Int×Int->Option (Int×Bool)}
  (w:∀ (i j:Nat) (x:A) e,i<j->j<=l.length->l[(i+j) / 2]? =some x->B e ((i:Int),(j:Int))=bif decide (key x<id)then e ((((i+j) / 2+1:Nat):Int),(j:Int))else e ((i:Int),(((i+j) / 2:Nat):Int)))
  (he:∀ (i:Nat) e,i<=l.length->B e ((i:Int),(i:Int))=some ((i:Int),match l[i]? with|some x=>decide (key x=id)|none=>false)) {n:Nat} (hn:l.length<n) :
  ∃ i:Nat,qC B n ((0:Int),((l.length:Nat):Int))=some ((i:Int),(uB key l id).isSome)/\∀ d,uB key l id=some d->l[i]? =some d:=by
 obtain⟨q,G,p,v,z⟩:=iG (B:=B) (fun a=>match l[a]? with|some x=>decide (key x<id)|none=>false) l.length
  (fun a c r C hp=>by
   obtain⟨x,b⟩:∃ x,l[c]? =some x:=⟨_,jf C⟩;obtain⟨y,g⟩:∃ y,l[a]? =some y:=⟨_,jf (by omega)⟩;simp only[b,kde]at hp;simp only[g,kde];rcases Nat.lt_or_eq_of_le r with h|rfl
   ·have:=o.lt h g b; omega
   rw[b]at g; cases g; exact hp)
  (fun i j s k e=>by
   obtain⟨x,b⟩:∃ x,l[(i+j) / 2]? =some x:=⟨_,jf (by omega)⟩;rw[w i j x e s k b,b])
  (rest:=fun i=>some ((i:Int),match l[i]? with|some x=>decide (key x=id)|none=>false)) (fun i f e=>he i e f) hn
 refine⟨q,?_,fun d D=>?_⟩
 ·rw[z]
  congr 2;cases m:l[q]? with
  | none=>
   rw[Sp fun i d f=>?_]
   ·rfl
   have E:=ZF f;have:=p i (by have:=List.getElem?_eq_none_iff.1 m; omega);simp only[f,kde]at this;omega
  | some x=>
   by_cases b:key x=id
   ·rw[lv o m b]; simp[b]
   have t:=ZF m;have u:=v q (jw _) t;simp only[m,decide_eq_false_iff_not]at u;rw[Sp fun i d f=>?_]
   ·simp[b]
   rcases Nat.lt_trichotomy i q with h|h|h
   ·have:=p i h
    simp only[f,kde]at this;omega
   ·subst h; rw[m]at f; cases f; exact b
   have:=o.lt h m f; omega
 obtain⟨hm,H⟩:=Gj D;obtain⟨j,k⟩:=List.getElem?_of_mem hm;have F:=ZF k;have:j=q:=by
  rcases Nat.lt_trichotomy j q with h|h|h
  ·have:=p j h
   simp only[k,kde]at this;omega
  ·exact h
  obtain⟨y,g⟩:∃ y,l[q]? =some y:=⟨_,jf (by omega)⟩;have u:=v q (jw _) (by omega);simp only[g,decide_eq_false_iff_not]at u;have:=o.lt h g k;omega
 subst this;exact k
end
theorem Bp (n:Nat) (x y:Int):vf n x y=some (if x<y then -1 else if y<x then 1 else 0):=by
 unfold vf uK;simp only[bne_self_eq_false,cH,zC];by_cases h:x<y
 ·rw[if_pos h,kdt h,kct]
 rw[if_neg h,kdf h,kcf];by_cases a:y<x
 ·rw[if_pos a,kdt (show x>y from a),kct]
 rw[if_neg a,kdf (show ¬ x>y from a),kcf]
theorem TU (x y:Int):decide ((if x<y then(-1:Int)else if y<x then 1 else 0)<0)=decide (x<y):=by
 rw[decide_eq_decide];split
 ·omega
 split<;>omega
theorem TT (x y:Int):((if x<y then(-1:Int)else if y<x then 1 else 0)==0)=decide (x=y):=by
 rw[Bool.eq_iff_iff,beq_iff_eq,decide_eq_true_iff];split
 ·omega
 split<;>omega
section
variable {n:Nat} (hn:n<=1099511627776)
include hn
theorem Hb {ks:List (List UInt8)} {vs:List Val} (h:uT vs<n) (f:ks.length<=n):vO n ks vs=some (ks,vs):=by
 have g:=vY vs;unfold vO;rw[zw,natI_nat,xO,dE (by omega)];refine Xk (B:=xn n vs ks) (fun i=>(vs.take i,((i:Nat):Int))) vs.length (fun i b c=>?_) (fun c=>?_) (by omega)
 ·obtain⟨x,a⟩:∃ x,vs[i]? =some x:=⟨_,jf b⟩
  have d:=iI n hn x (by have:=cf (FI a); omega);have e:=Ld a;obtain⟨j,a2,a3,a4,a5,k⟩:=x;simp only[xn,zw,nP b,kct,uy a,cH,d];rw[e,dE (by rw[jt]; omega),vm (by omega)]
 show xn n vs ks c (vs.take vs.length,((vs.length:Nat):Int))=_;rw[List.take_length];unfold xn;simp only[zw,ft,kcf];rw[dE (by rw[zP]; omega)]
theorem Rp (d:Node):d.labels.length<=mX d/\d.keys.length<=mX d/\uT d.vals<mX d:=by
 have a:=gl d.labels;have b:=gl d.keys;unfold mX;omega
theorem Rk (d:Edge):d.type_.length<=mA d/\d.keys.length<=mA d/\uT d.vals<mA d:=by
 have a:=gl d.keys;unfold mA;omega
theorem LQ {d:Node} (h:mX d<n):xF n d=some d:=by
 obtain⟨b,c,e⟩:=Rp hn d;have a:=Hb hn (ks:=d.keys) (vs:=d.vals) (by omega) (by omega);obtain⟨i,l,ks,vs⟩:=d;simp only at b a;unfold xF;simp only;rw[dE (by rw[zP]; omega),a,xO]
theorem LP {d:Edge} (h:mA d<n):xD n d=some d:=by
 obtain⟨e,f,g⟩:=Rk hn d;have c:=Hb hn (ks:=d.keys) (vs:=d.vals) (by omega) (by omega);obtain⟨i,a,b,t,ks,vs⟩:=d;simp only at c;unfold xD;simp only;rw[c,xO]
end
section
variable {n:Nat} (hn:n<=1099511627776)
include hn
theorem HS {a b:Node} (h:mX a<n):∃ r,fY n a b=some r/\(r=true↔a=b):=by
 obtain⟨g1,g2,g3⟩:=Rp hn a;obtain⟨u,D,E,F⟩:=a;obtain⟨C,G,H,J⟩:=b;simp only at g1 g2 g3;obtain⟨p,hp,c⟩:=uf (x:=D) (y:=G) (n:=n) (by omega) hn;obtain⟨q,g,d⟩:=uf (x:=E) (y:=H) (n:=n) (by omega) hn;obtain⟨s,i,f⟩:=(Np n hn).2 F J (by omega);have e:(u==C)=true↔u=C:=beq_iff_eq;unfold fY;simp only[hp,g,i];rw[Node.mk.injEq,← e,← c,← d,← f];cases(u==C)<;>cases p<;>cases q<;>cases s<;>exact⟨_,rfl,by simp⟩
theorem HR {a b:Edge} (h:mA a<n):∃ r,fX n a b=some r/\(r=true↔a=b):=by
 obtain⟨g1,g2,g3⟩:=Rk hn a;obtain⟨u,C,D,E,K,M⟩:=a;obtain⟨F,G,H,J,O,Q⟩:=b;simp only at g1 g2 g3;obtain⟨q,e,c⟩:=uf (x:=K) (y:=O) (n:=n) (by omega) hn;obtain⟨s,f,d⟩:=(Np n hn).2 M Q (by omega);have e1:(u==F)=true↔u=F:=beq_iff_eq;have e2:(C==G)=true↔C=G:=beq_iff_eq;have e3:(D==H)=true↔D=H:=beq_iff_eq;have e4:(E==J)=true↔E=J:=beq_iff_eq;unfold fX;simp only[e,f];rw[Edge.mk.injEq,← e1,← e2,← e3,← e4,← c,← d];cases(u==F)<;>cases(C==G)<;>cases(D==H)<;>cases(E==J)<;>cases q<;>cases s<;>exact⟨_,rfl,by simp⟩
theorem Ef {l l':List Edge} (h:l.length<n) (i:∀ d∈l,mA d<n):∃ r,fh n l l'=some r/\(r=true↔l=l'):=by
 unfold fh;rw[Ze,Ze];by_cases c:l.length=l'.length
 ·rw[c,bne_self_eq_false,kcf]
  refine Rc c (fun k a b j f g=>?_) (fun j=>by simp only[um,Ze,ft,zC]) h
  have m:=ZF f;obtain⟨r,o,p⟩:=HR hn (b:=b) (i a (FI f));refine⟨r,p,?_⟩;obtain⟨q,s,t,u,v,w⟩:=a;obtain⟨x,y,z,B,C,D⟩:=b;simp only[um,Ze,nP m,xA,uy f,uy g,cH,o];rw[vm (by omega)];cases r<;>rfl
 ·rw[DW.2 c]
  exact⟨false,rfl,by simp; intro e; exact c (congrArg _ e)⟩
theorem Tx {g h:Graph} (t:g.nodes.length<n) (f:g.edges.length<n) (u:∀ d∈g.nodes,mX d<n) (i:∀ d∈g.edges,mA d<n):∃ r,sw n g h=some r/\(r=true↔g=h):=by
 obtain⟨l,m⟩:=g;obtain⟨l',v⟩:=h;obtain⟨s,s1,s2⟩:=Ef hn (l:=m) (l':=v) f i;simp only at t u;unfold sw;simp only[VL];by_cases c:l.length=l'.length
 ·rw[c,bne_self_eq_false,kcf]
  obtain⟨r,j,o⟩:=iL (e:=s) (l:=l) (l':=l') (B:=fG n l l' m v) c (fun k a b w p q=>by
    have x:=ZF p;obtain⟨r,j,o⟩:=HS hn (b:=b) (u a (FI p));refine⟨r,o,?_⟩;obtain⟨y,z,C,D⟩:=a;obtain⟨E,F,G,H⟩:=b;simp only[fG,VL,nP x,xA,uy p,uy q,cH,j];rw[vm (by omega)];cases r<;>rfl)
   (fun w=>by simp only[fG,VL,ft,zC,s1,cH]) t
  exact⟨r,j,by rw[o,s2]; simp⟩
 rw[DW.2 c];exact⟨false,rfl,by simp; intro e; exact absurd (congrArg _ e) c⟩
end
open Go Ax
theorem MY {g:Graph} {d:Node} (h:d∈g.nodes):mX d<=Xo g:=by
 have:=Eg mX h; unfold Xo; omega
theorem Hn {g:Graph} {d:Edge} (h:d∈g.edges):mA d<=Xo g:=by
 have:=Eg mA h; unfold Xo; omega
theorem ah {g:Graph}:g.nodes.length<=Xo g/\g.edges.length<=Xo g:=by
 have a:=MA mX (fun d=>by unfold mX; omega) g.nodes
 have b:=MA mA (fun d=>by unfold mA; omega) g.edges
 unfold Xo;omega
open Go Ax
theorem TH (v:Val):2<=tP v:=by
 obtain⟨k,b,i,s,l,ks⟩:=v;have:=vY l;simp only[tP]; omega
end W
end
section
open Go Go.Proofs Ax
namespace W
open Go.Proofs.YtglihheagfnakaaGreat
theorem dI:∀ l:List Val,uT l=(l.map fun x=>tP x+1).sum+1
 | []=>rfl
 | x::l=>by simp only[uT,jk,jA]; rw[dI l]; omega
def TK (e:Env):Nat:=QU e.names+2+uT e.vals
def lh (x:cG):Nat:=isz x.node+isz x.edge
def Nv (s:State):Nat:=Xo s.g+lh s.next
def Rn (a:Given):Nat:=TK a.v+Nv a.s+(tP a.params+2)
variable {Hd:Type} {enc:TypeId×Value->Hd} {w:World}
theorem Nr {c:Nat} {H:PH c}:∀ {a:List PV} {b:List PV} {x y:List Value},qU H a x->qU H b y->qU H (a++b) (x++y)
 | [],_,x,_,h,h'=>by
  have:x=[]:=by simpa[qU]using h
  subst this; exact h'
 | p::a,_,x,_,h,h'=>by
  simp only[qU]at h;obtain⟨v,vs,rfl,d,e⟩:=h;simp only[List.cons_append,qU];exact⟨_,_,rfl,d,Nr e h'⟩
theorem VJ {d:Nat} {H:PH d} {a b:List PV} {cs:List Value} {o z:Nat} (h:qU H a ((cs.drop o).take z)/\∀ u∈(cs.drop o).take z,u.oneCell'=true) (c:qU H b (cs.drop (o+z))/\∀ u∈cs.drop (o+z),u.oneCell'=true) :
  qU H (a++b) (cs.drop o)/\∀ u∈cs.drop o,u.oneCell'=true:=by
 have e:cs.drop o=(cs.drop o).take z++cs.drop (o+z):=by rw[← List.drop_drop,List.take_append_drop]
 refine⟨by rw[e]; exact Nr h.1 c.1,fun u hu=>?_⟩;rw[e]at hu;rcases jy.1 hu with hu|hu
 ·exact h.2 u hu
 exact c.2 u hu
theorem TV {a:Nat} {H:PH a} {cs:List Value} {z:Nat} (h:cs.length=z):qU H [] (cs.drop z)/\∀ u∈cs.drop z,u.oneCell'=true:=by
 have:cs.drop z=[]:=List.drop_eq_nil_of_le (by omega);rw[this];exact⟨rfl,fun u hu=>by cases hu⟩
theorem Nw {α:Type} {a:α->Nat}:∀ (l:List α) (elems:List (DataW Hd)),l.length=elems.length->(∀ (i:Nat) (d:DataW Hd) (v:α),elems[i]? =some d->l[i]? =some v->a v<=Rows.uptoBulk d)->(l.map a).sum<=Rows.uptoBulkAll elems
 | [],_,_,_=>jR _
 | v::l,[],h,_=>by simp at h
 | v::l,d::elems,h,hh=>by
  have:=Nw l elems (by simpa using h) fun i d v b c=>hh (i+1) d v (by simpa using b) (by simpa using c)
  have:=hh 0 d v rfl rfl;simp only[jk,jA,Rows.uptoBulkAll]; omega
theorem XV {α:Type} [Inhabited α] {P:Program} {t e:TypeId} {z n:Nat} {row:α->List PV} {f:α->Nat} {rws:List α->List (List PV)} (g:P.underlying t=some (.slice e)) (hz:P.cellsOf e=z) (c:1<=z)
  (a:∀ v,(row v).length=z) (i:∀ l,rws l=l.map row) (d:∀ m,m<n->gk enc P w e m row f Rows.uptoBulk):gk enc P w t n (fun l:List α=>[PV.sl (rws l)]) (fun l=>(l.map f).sum+1) Rows.uptoBulk:=by
 intro cs x h;obtain⟨l,v,rfl,o,r,b⟩:=NZ g hz c a d h;refine⟨l,?_,by simpa using o,?_⟩
 ·simp only[qU]
  exact⟨_,_,rfl,by rw[i]; exact r,rfl⟩
 rcases b with ⟨e,rfl⟩|⟨el,rest,e,j,k⟩
 ·rw[e]; simp[Rows.uptoBulk]
 rw[e];have:=Nw l el j k;simp only[Rows.uptoBulk]; omega
theorem rd3 (n:Nat):gk (α:=Int) enc Tryz.prog w 3 n (fun i=>[PV.int .i64 i]) (isz) Rows.uptoBulk:=by
 intro cs x h;obtain⟨k,e,rfl,hw⟩:=DataW.trod_int Tryz.underlying3 h;cases e;exact⟨k,by simp[qU,qu],by simp[Value.oneCell'],by simp only[Rows.uptoBulk]; exact Nat.le_of_eq (ic (by simpa[Lit.wf]using hw))⟩
theorem rd4 (n:Nat):gk (α:=Bool) enc Tryz.prog w 4 n (fun b=>[PV.bool b]) (fun _=>1) Rows.uptoBulk:=by
 intro cs x h;obtain⟨k,e,rfl⟩:=DataW.trod_bool Tryz.underlying4 h;cases e;exact⟨k,by simp[qU,qu],by simp[Value.oneCell'],by simp[Rows.uptoBulk]⟩
theorem rd2 (n:Nat):gk (α:=Int) enc Tryz.prog w 2 n (fun i=>[PV.int .i64 i]) (isz) Rows.uptoBulk:=by
 intro cs x h;obtain⟨k,e,rfl,hw⟩:=DataW.trod_int Tryz.underlying2 h;cases e;exact⟨k,by simp[qU,qu],by simp[Value.oneCell'],by simp only[Rows.uptoBulk]; exact Nat.le_of_eq (ic (by simpa[Lit.wf]using hw))⟩
theorem rd9 (n:Nat):gk (α:=List UInt8) enc Tryz.prog w 9 n (fun s=>[PV.str s]) (fun s=>1+s.length) Rows.uptoBulk:=by
 intro cs x h;obtain⟨s,e,rfl,_⟩:=DataW.trod_string Tryz.underlying9 h;cases e;exact⟨s.data.toList,by simp[qU,qu],by simp[Value.oneCell'],by simp[Rows.uptoBulk]; omega⟩
theorem lS (n:Nat):gk (α:=List (List UInt8)) enc Tryz.prog w 22 n (fun l=>[PV.sl (qi l)]) (fun l=>(l.map (fun s=>1+s.length)).sum+1) Rows.uptoBulk:=
 XV (α:=List UInt8) (z:=1) (rws:=qi) Tryz.underlying22 (by kernel_rfl) (by decide) (fun _=>rfl) (fun _=>rfl) (fun m hm=>rd9 m)
theorem od (n:Nat):gk (α:=Val) enc Tryz.prog w 35 n (Val.cells) (fun x=>tP x+1) Rows.uptoBulk:=by
 induction n using Nat.strongRecOn with
 | ind n ih=>
 intro cs x h;obtain⟨xs,m,rfl,rfl,b,e,a⟩:=DataW.trod_struct Tryz.underlying35 h;rw[show Tryz.prog.cellsOf 35=6 by kernel_rfl]at b;have d:xs.length=6:=e;obtain⟨c,f,k,p,q,A,rfl⟩:∃ c f k p q A,xs=[c,f,k,p,q,A]:=by
  match xs,d with
  | [c,f,k,p,q,A],_=>exact⟨c,f,k,p,q,A,rfl⟩
 have f0:=a 0 _ rfl;change DataW.trod enc Tryz.prog w 0 _ true m 3 ((cs.drop 0).take (Tryz.prog.cellsOf 3))=some c at f0;rw[show Tryz.prog.cellsOf 3=1 by kernel_rfl]at f0;obtain⟨v0,r0,g,i⟩:=rd3 m _ _ f0;have f1:=a 1 _ rfl;change DataW.trod enc Tryz.prog w 0 _ true m 4 ((cs.drop 1).take (Tryz.prog.cellsOf 4))=some f at f1;rw[show Tryz.prog.cellsOf 4=1 by kernel_rfl]at f1;obtain⟨v1,l,o,r⟩:=rd4 m _ _ f1;have f2:=a 2 _ rfl;change DataW.trod enc Tryz.prog w 0 _ true m 2 ((cs.drop 2).take (Tryz.prog.cellsOf 2))=some k at f2;rw[show Tryz.prog.cellsOf 2=1 by kernel_rfl]at f2;obtain⟨v2,s,t,u⟩:=rd2 m _ _ f2;have f3:=a 3 _ rfl;change DataW.trod enc Tryz.prog w 0 _ true m 9 ((cs.drop 3).take (Tryz.prog.cellsOf 9))=some p at f3;rw[show Tryz.prog.cellsOf 9=1 by kernel_rfl]at f3;obtain⟨v3,v,y,B⟩:=rd9 m _ _ f3;have f4:=a 4 _ rfl;change DataW.trod enc Tryz.prog w 0 _ true m 23 ((cs.drop 4).take (Tryz.prog.cellsOf 23))=some q at f4;rw[show Tryz.prog.cellsOf 23=1 by kernel_rfl]at f4;obtain⟨v4,C,D,E⟩:=(XV (α:=Val) (z:=6) (rws:=Val.rows) Tryz.underlying23 (by kernel_rfl) (by decide) (ma) (rows_eq) (fun j F=>ih j (Nat.lt_trans F (Nat.lt_succ_self _)))) _ _ f4
 have f5:=a 5 _ rfl;change DataW.trod enc Tryz.prog w 0 _ true m 22 ((cs.drop 5).take (Tryz.prog.cellsOf 22))=some A at f5;rw[show Tryz.prog.cellsOf 22=1 by kernel_rfl]at f5;obtain⟨v5,G,H,I⟩:=lS m _ _ f5;have key:=VJ ⟨r0,g⟩ (VJ ⟨l,o⟩ (VJ ⟨s,t⟩ (VJ ⟨v,y⟩ (VJ ⟨C,D⟩ (VJ ⟨G,H⟩ (TV b))))));rw[List.drop_zero]at key;refine⟨⟨v0,v1,v2,v3,v4,v5⟩,?_,key.2,?_⟩
 ·have key:=key.1
  exact key
 simp only[tP,Rows.uptoBulk,Rows.uptoBulkAll,jk,jN,dI,QU]
 try simp only[]at i r u B E I
 omega
theorem eE (n:Nat):gk (α:=List (Val)) enc Tryz.prog w 23 n (fun l=>[PV.sl (Val.rows l)]) (fun l=>(l.map (fun x=>tP x+1)).sum+1) Rows.uptoBulk:=
 XV (α:=Val) (z:=6) (rws:=Val.rows) Tryz.underlying23 (by kernel_rfl) (by decide) (ma) (rows_eq) (fun m hm=>od m)
theorem oy (n:Nat):gk (α:=Node) enc Tryz.prog w 88 n (Node.cells) (mX) Rows.uptoBulk:=by
 intro cs x h;obtain⟨xs,m,rfl,rfl,a,e,d⟩:=DataW.trod_struct Tryz.underlying88 h;rw[show Tryz.prog.cellsOf 88=4 by kernel_rfl]at a;have b:xs.length=4:=e;obtain⟨c,f,j,k,rfl⟩:∃ c f j k,xs=[c,f,j,k]:=by
  match xs,b with
  | [c,f,j,k],_=>exact⟨c,f,j,k,rfl⟩
 have f0:=d 0 _ rfl;change DataW.trod enc Tryz.prog w 0 _ true m 2 ((cs.drop 0).take (Tryz.prog.cellsOf 2))=some c at f0;rw[show Tryz.prog.cellsOf 2=1 by kernel_rfl]at f0;obtain⟨v0,r0,g,i⟩:=rd2 m _ _ f0;have f1:=d 1 _ rfl;change DataW.trod enc Tryz.prog w 0 _ true m 22 ((cs.drop 1).take (Tryz.prog.cellsOf 22))=some f at f1;rw[show Tryz.prog.cellsOf 22=1 by kernel_rfl]at f1;obtain⟨v1,l,o,p⟩:=lS m _ _ f1;have f2:=d 2 _ rfl;change DataW.trod enc Tryz.prog w 0 _ true m 22 ((cs.drop 2).take (Tryz.prog.cellsOf 22))=some j at f2;rw[show Tryz.prog.cellsOf 22=1 by kernel_rfl]at f2;obtain⟨v2,q,r,s⟩:=lS m _ _ f2;have f3:=d 3 _ rfl;change DataW.trod enc Tryz.prog w 0 _ true m 23 ((cs.drop 3).take (Tryz.prog.cellsOf 23))=some k at f3;rw[show Tryz.prog.cellsOf 23=1 by kernel_rfl]at f3;obtain⟨v3,t,u,v⟩:=eE m _ _ f3;have key:=VJ ⟨r0,g⟩ (VJ ⟨l,o⟩ (VJ ⟨q,r⟩ (VJ ⟨t,u⟩ (TV a))));rw[List.drop_zero]at key;refine⟨⟨v0,v1,v2,v3⟩,?_,key.2,?_⟩
 ·have key:=key.1
  exact key
 simp only[mX,Rows.uptoBulk,Rows.uptoBulkAll,jk,jN,dI,QU]
 try simp only[]at i p s v
 omega
theorem ow (n:Nat):gk (α:=Edge) enc Tryz.prog w 86 n (Edge.cells) (mA) Rows.uptoBulk:=by
 intro cs x h;obtain⟨xs,m,rfl,rfl,b,e,a⟩:=DataW.trod_struct Tryz.underlying86 h;rw[show Tryz.prog.cellsOf 86=6 by kernel_rfl]at b;have d:xs.length=6:=e;obtain⟨c,f,j,k,p,q,rfl⟩:∃ c f j k p q,xs=[c,f,j,k,p,q]:=by
  match xs,d with
  | [c,f,j,k,p,q],_=>exact⟨c,f,j,k,p,q,rfl⟩
 have f0:=a 0 _ rfl;change DataW.trod enc Tryz.prog w 0 _ true m 2 ((cs.drop 0).take (Tryz.prog.cellsOf 2))=some c at f0;rw[show Tryz.prog.cellsOf 2=1 by kernel_rfl]at f0;obtain⟨v0,r0,g,i⟩:=rd2 m _ _ f0;have f1:=a 1 _ rfl;change DataW.trod enc Tryz.prog w 0 _ true m 2 ((cs.drop 1).take (Tryz.prog.cellsOf 2))=some f at f1;rw[show Tryz.prog.cellsOf 2=1 by kernel_rfl]at f1;obtain⟨v1,l,o,r⟩:=rd2 m _ _ f1;have f2:=a 2 _ rfl;change DataW.trod enc Tryz.prog w 0 _ true m 2 ((cs.drop 2).take (Tryz.prog.cellsOf 2))=some j at f2;rw[show Tryz.prog.cellsOf 2=1 by kernel_rfl]at f2;obtain⟨v2,s,t,u⟩:=rd2 m _ _ f2;have f3:=a 3 _ rfl;change DataW.trod enc Tryz.prog w 0 _ true m 9 ((cs.drop 3).take (Tryz.prog.cellsOf 9))=some k at f3;rw[show Tryz.prog.cellsOf 9=1 by kernel_rfl]at f3;obtain⟨v3,v,y,z⟩:=rd9 m _ _ f3;have f4:=a 4 _ rfl;change DataW.trod enc Tryz.prog w 0 _ true m 22 ((cs.drop 4).take (Tryz.prog.cellsOf 22))=some p at f4;rw[show Tryz.prog.cellsOf 22=1 by kernel_rfl]at f4;obtain⟨v4,A,B,C⟩:=lS m _ _ f4;have f5:=a 5 _ rfl;change DataW.trod enc Tryz.prog w 0 _ true m 23 ((cs.drop 5).take (Tryz.prog.cellsOf 23))=some q at f5;rw[show Tryz.prog.cellsOf 23=1 by kernel_rfl]at f5;obtain⟨v5,D,E,F⟩:=eE m _ _ f5;have key:=VJ ⟨r0,g⟩ (VJ ⟨l,o⟩ (VJ ⟨s,t⟩ (VJ ⟨v,y⟩ (VJ ⟨A,B⟩ (VJ ⟨D,E⟩ (TV b))))));rw[List.drop_zero]at key;refine⟨⟨v0,v1,v2,v3,v4,v5⟩,?_,key.2,?_⟩
 ·have key:=key.1
  exact key
 simp only[mA,Rows.uptoBulk,Rows.uptoBulkAll,jk,jN,dI,QU]
 try simp only[]at i r u z C F
 omega
theorem om (n:Nat):gk (α:=List (Node)) enc Tryz.prog w 26 n (fun l=>[PV.sl (Node.rows l)]) (fun l=>(l.map (mX)).sum+1) Rows.uptoBulk:=
 XV (α:=Node) (z:=4) (rws:=Node.rows) Tryz.underlying26 (by kernel_rfl) (by decide) (zL.hz) (fun _=>rfl) (fun m hm=>oy m)
theorem oo (n:Nat):gk (α:=List (Edge)) enc Tryz.prog w 27 n (fun l=>[PV.sl (Edge.rows l)]) (fun l=>(l.map (mA)).sum+1) Rows.uptoBulk:=
 XV (α:=Edge) (z:=6) (rws:=Edge.rows) Tryz.underlying27 (by kernel_rfl) (by decide) (zD.hz) (fun _=>rfl) (fun m hm=>ow m)
theorem oq (n:Nat):gk (α:=Graph) enc Tryz.prog w 29 n (Graph.cells) (Xo) Rows.uptoBulk:=by
 intro cs x h;obtain⟨xs,m,rfl,rfl,a,d,e⟩:=DataW.trod_struct Tryz.underlying29 h;rw[show Tryz.prog.cellsOf 29=2 by kernel_rfl]at a;have b:xs.length=2:=d;obtain⟨c,f,rfl⟩:∃ c f,xs=[c,f]:=by
  match xs,b with
  | [c,f],_=>exact⟨c,f,rfl⟩
 have f0:=e 0 _ rfl;change DataW.trod enc Tryz.prog w 0 _ true m 26 ((cs.drop 0).take (Tryz.prog.cellsOf 26))=some c at f0;rw[show Tryz.prog.cellsOf 26=1 by kernel_rfl]at f0;obtain⟨v0,r0,g,i⟩:=om m _ _ f0;have f1:=e 1 _ rfl;change DataW.trod enc Tryz.prog w 0 _ true m 27 ((cs.drop 1).take (Tryz.prog.cellsOf 27))=some f at f1;rw[show Tryz.prog.cellsOf 27=1 by kernel_rfl]at f1;obtain⟨v1,j,k,l⟩:=oo m _ _ f1;have key:=VJ ⟨r0,g⟩ (VJ ⟨j,k⟩ (TV a));rw[List.drop_zero]at key;refine⟨⟨v0,v1⟩,?_,key.2,?_⟩
 ·have key:=key.1
  exact key
 simp only[Xo,Rows.uptoBulk,Rows.uptoBulkAll,jk,jN,dI,QU]
 try simp only[]at i l
 omega
theorem oh (n:Nat):gk (α:=Env) enc Tryz.prog w 25 n (Env.cells) (TK) Rows.uptoBulk:=by
 intro cs x h;obtain⟨xs,m,rfl,rfl,a,d,e⟩:=DataW.trod_struct Tryz.underlying25 h;rw[show Tryz.prog.cellsOf 25=2 by kernel_rfl]at a;have b:xs.length=2:=d;obtain⟨c,f,rfl⟩:∃ c f,xs=[c,f]:=by
  match xs,b with
  | [c,f],_=>exact⟨c,f,rfl⟩
 have f0:=e 0 _ rfl;change DataW.trod enc Tryz.prog w 0 _ true m 22 ((cs.drop 0).take (Tryz.prog.cellsOf 22))=some c at f0;rw[show Tryz.prog.cellsOf 22=1 by kernel_rfl]at f0;obtain⟨v0,r0,g,i⟩:=lS m _ _ f0;have f1:=e 1 _ rfl;change DataW.trod enc Tryz.prog w 0 _ true m 23 ((cs.drop 1).take (Tryz.prog.cellsOf 23))=some f at f1;rw[show Tryz.prog.cellsOf 23=1 by kernel_rfl]at f1;obtain⟨v1,j,k,l⟩:=eE m _ _ f1;have key:=VJ ⟨r0,g⟩ (VJ ⟨j,k⟩ (TV a));rw[List.drop_zero]at key;refine⟨⟨v0,v1⟩,?_,key.2,?_⟩
 ·have key:=key.1
  exact key
 simp only[TK,Rows.uptoBulk,Rows.uptoBulkAll,jk,jN,dI,QU]
 try simp only[]at i l
 omega
theorem ot (n:Nat):gk (α:=cG) enc Tryz.prog w 31 n (cG.cells) (lh) Rows.uptoBulk:=by
 intro cs x h;obtain⟨xs,m,rfl,rfl,a,d,e⟩:=DataW.trod_struct Tryz.underlying31 h;rw[show Tryz.prog.cellsOf 31=2 by kernel_rfl]at a;have b:xs.length=2:=d;obtain⟨c,f,rfl⟩:∃ c f,xs=[c,f]:=by
  match xs,b with
  | [c,f],_=>exact⟨c,f,rfl⟩
 have f0:=e 0 _ rfl;change DataW.trod enc Tryz.prog w 0 _ true m 2 ((cs.drop 0).take (Tryz.prog.cellsOf 2))=some c at f0;rw[show Tryz.prog.cellsOf 2=1 by kernel_rfl]at f0;obtain⟨v0,r0,g,i⟩:=rd2 m _ _ f0;have f1:=e 1 _ rfl;change DataW.trod enc Tryz.prog w 0 _ true m 2 ((cs.drop 1).take (Tryz.prog.cellsOf 2))=some f at f1;rw[show Tryz.prog.cellsOf 2=1 by kernel_rfl]at f1;obtain⟨v1,j,k,l⟩:=rd2 m _ _ f1;have key:=VJ ⟨r0,g⟩ (VJ ⟨j,k⟩ (TV a));rw[List.drop_zero]at key;refine⟨⟨v0,v1⟩,?_,key.2,?_⟩
 ·have key:=key.1
  exact key
 simp only[lh,Rows.uptoBulk,Rows.uptoBulkAll,jk,jN,dI,QU]
 try simp only[]at i l
 omega
theorem ou (n:Nat):gk (α:=State) enc Tryz.prog w 33 n (State.cells) (Nv) Rows.uptoBulk:=by
 intro cs x h;obtain⟨xs,m,rfl,rfl,a,d,e⟩:=DataW.trod_struct Tryz.underlying33 h;rw[show Tryz.prog.cellsOf 33=4 by kernel_rfl]at a;have b:xs.length=2:=d;obtain⟨c,f,rfl⟩:∃ c f,xs=[c,f]:=by
  match xs,b with
  | [c,f],_=>exact⟨c,f,rfl⟩
 have f0:=e 0 _ rfl;change DataW.trod enc Tryz.prog w 0 _ true m 29 ((cs.drop 0).take (Tryz.prog.cellsOf 29))=some c at f0;rw[show Tryz.prog.cellsOf 29=2 by kernel_rfl]at f0;obtain⟨v0,r0,p,g⟩:=oq m _ _ f0;have f1:=e 1 _ rfl;change DataW.trod enc Tryz.prog w 0 _ true m 31 ((cs.drop 2).take (Tryz.prog.cellsOf 31))=some f at f1;rw[show Tryz.prog.cellsOf 31=2 by kernel_rfl]at f1;obtain⟨v1,q,r,i⟩:=ot m _ _ f1;have bb0:=g;have bb1:=i;have key:=VJ ⟨r0,p⟩ (VJ ⟨q,r⟩ (TV a));rw[List.drop_zero]at key;refine⟨⟨v0,v1⟩,?_,key.2,?_⟩
 ·have key:=key.1
  obtain⟨j,k⟩:=v0;obtain⟨l,o⟩:=v1;exact key
 simp only[Nv,Rows.uptoBulk,Rows.uptoBulkAll,jk,jN,dI,QU]
 try simp only[]at g i
 omega
theorem ov (n:Nat):gk (α:=Given) enc Tryz.prog w 37 n (Given.cells) (Rn) Rows.uptoBulk:=by
 intro cs x h;obtain⟨xs,m,rfl,rfl,a,k,l⟩:=DataW.trod_struct Tryz.underlying37 h;rw[show Tryz.prog.cellsOf 37=12 by kernel_rfl]at a;have b:xs.length=3:=k;obtain⟨c,f,j,rfl⟩:∃ c f j,xs=[c,f,j]:=by
  match xs,b with
  | [c,f,j],_=>exact⟨c,f,j,rfl⟩
 have f0:=l 0 _ rfl;change DataW.trod enc Tryz.prog w 0 _ true m 25 ((cs.drop 0).take (Tryz.prog.cellsOf 25))=some c at f0;rw[show Tryz.prog.cellsOf 25=2 by kernel_rfl]at f0;obtain⟨v0,r0,B,o⟩:=oh m _ _ f0;have f1:=l 1 _ rfl;change DataW.trod enc Tryz.prog w 0 _ true m 33 ((cs.drop 2).take (Tryz.prog.cellsOf 33))=some f at f1;rw[show Tryz.prog.cellsOf 33=4 by kernel_rfl]at f1;obtain⟨v1,C,D,p⟩:=ou m _ _ f1;have f2:=l 2 _ rfl;change DataW.trod enc Tryz.prog w 0 _ true m 35 ((cs.drop 6).take (Tryz.prog.cellsOf 35))=some j at f2;rw[show Tryz.prog.cellsOf 35=6 by kernel_rfl]at f2;obtain⟨v2,E,F,q⟩:=od m _ _ f2;have bb0:=o;have bb1:=p;have bb2:=q;have key:=VJ ⟨r0,B⟩ (VJ ⟨C,D⟩ (VJ ⟨E,F⟩ (TV a)));rw[List.drop_zero]at key;refine⟨⟨v0,v1,v2⟩,?_,key.2,?_⟩
 ·have key:=key.1
  obtain⟨r,s⟩:=v0;obtain⟨⟨d,e⟩,⟨g,i⟩⟩:=v1;obtain⟨t,u,v,y,z,A⟩:=v2;exact key
 simp only[Rn,Rows.uptoBulk,Rows.uptoBulkAll,jk,jN,dI,QU]
 try simp only[]at o p q
 omega
end W
end
section
namespace W
open Go Go.Proofs Ax Go.RowKit Go.ChangeShapes Go.WideShapes Go.ChangeAt
open Go.Proofs.YtglihheagfnakaaGreat Go.ChangeMaps
theorem own:ownKnob Tryz.prog.godebug=none:=by kernel_rfl
theorem iT:laidOutB Tryz.prog=true:=by kernel_rfl
theorem root {W:World} (h:W.ShapedOpen Tryz.prog):∃ m,W.cell? ⟨0,0,none⟩=some (.int .i64 m):=
 cell_of_shapedOpen_int (zero:=#[.int .i64 0]) (t:=3) h (kod (by kernel_rfl)) (by kernel_rfl) rfl (by kernel_rfl) (by kernel_rfl) Tryz.underlying3
section
variable {Hd:Type} {enc:TypeId×Value->Hd} {W:World}
set_option maxRecDepth 100000 in
theorem Mv {v0:Value} {d0:DataW Hd} {p:List MemPlace} {b:Nat} (a:Value.okWide Tryz.prog W .any b 37 v0) (h:DataW.Trod enc Tryz.prog W 0 (fun _=>true) true 37 v0 d0 p) :
  ∃ s:Given,qu (Xh W) (.agg (XM.cells s)) v0/\Rn s<=Rows.uptoBulk d0:=by
 obtain⟨cs,rfl,_⟩:=okWide_struct Tryz.underlying37 a;obtain⟨fuel,h⟩:=h;obtain⟨v,r,_,c⟩:=ov fuel _ _ h;refine⟨v,?_,c⟩;simp only[qu];exact⟨cs.toList,by simp,r⟩
set_option maxRecDepth 100000 in
theorem Mw {v0:Value} {d0:DataW Hd} {p:List MemPlace} {b:Nat} (c:Value.okWide Tryz.prog W .any b 22 v0) (h:DataW.Trod enc Tryz.prog W 0 (fun _=>true) true 22 v0 d0 p) :
  ∃ l:List (List UInt8),qu (Xh W) (.sl (qi l)) v0/\QU l+1<=Rows.uptoBulk d0:=by
 obtain⟨a,len,cap,rfl⟩:=okWide_slice Tryz.underlying22 c;obtain⟨fuel,h⟩:=h;obtain⟨l,r,_,d⟩:=lS fuel _ _ h;refine⟨l,?_,d⟩;simp only[qU]at r;obtain⟨v,vs,e,f,_⟩:=r;cases e;exact f
set_option maxRecDepth 100000 in
theorem Pa {v0:Value} {d0:DataW Hd} {p:List MemPlace} {b:Nat} (a:Value.okWide Tryz.prog W .any b 4 v0) (h:DataW.Trod enc Tryz.prog W 0 (fun _=>true) true 4 v0 d0 p) :
  ∃ l:Bool,v0=.bool l:=by
 obtain⟨l,rfl⟩:=okWide_bool Tryz.underlying4 a;exact⟨l,rfl⟩
end
noncomputable def SD (os:Os):World:=World.holding Tryz.prog os ⟨#[],#[],[]⟩
abbrev VG:Value:=.agg #[.slice none 0 0,.slice none 0 0,.slice none 0 0,.slice none 0 0,.int .i64 0,.int .i64 0,.int .i64 0,.bool false,.int .i64 0,.string ⟨#[]⟩,.slice none 0 0,.slice none 0 0]
abbrev DG (H:Type):DataW H:=.agg [.agg [.nil,.nil],.agg [.agg [.nil,.nil],.agg [.lit (.int .i64 0),.lit (.int .i64 0)]],.agg [.lit (.int .i64 0),.lit (.bool false),.lit (.int .i64 0),.lit (.string []),.nil,.nil]]
end W
end
section
namespace W
open Go Go.Proofs Go.RowKit Go.ChangeShapes Go.WideShapes Go.ChangeAt
open Go.Proofs.YtglihheagfnakaaGreat Go.ChangeMaps
theorem ef {a b:Bool} (c:a=true) (d:b=true):(a&&b)=true:=by rw[c,d]; rfl
set_option maxHeartbeats 4000000 in
theorem ae:joinedFacts Tryz.pinned.checked.prog 3 Tryz.f3 (Rows.OpenSpec.upto Rows.alterDeletesSpec).bare Rows.alterDeletesUptoRow=true:=by
 unfold joinedFacts
 repeat' with_reducible refine ef ?_ ?_
 all_goals (as_aux_lemma=>kernel_rfl)
end W
end
section
open Go Ax
namespace W
def oM {R:Type} (N:Nat) (F:Nat->Option R) (Q:R->Prop):Prop:=∃ r,Q r/\∀ n,N<=n->n<=1099511627776->F n=some r
def zB {R S:Type} (N:Nat) (F:Nat->(S->Option R)->Option R) (QS:S->Prop) (Q:R->Prop):Prop:=
 (∃ s,QS s/\∀ n a,N<=n->n<=1099511627776->F n a=a s)\/∃ r,Q r/\∀ n a,N<=n->n<=1099511627776->F n a=some r
section
variable {R A S:Type} {N:Nat} {Q:R->Prop} {P:A->Prop} {QS:S->Prop}
theorem oM.one {r:R} (h:Q r):oM N (fun _=>some r) Q:=⟨r,h,fun _ _ _=>rfl⟩
theorem oM.of {F:Nat->Option R} {r:R} (e:∀ n,N<=n->n<=1099511627776->F n=some r) (h:Q r):oM N F Q:=⟨r,h,e⟩
theorem oM.bnd {F:Nat->Option A} {K:Nat->A->Option R} (h:oM N F P) (k:∀ a,P a->oM N (fun n=>K n a) Q):oM N (fun n=>Ax.bnd (F n) (K n)) Q:=by
 obtain⟨a,d,e⟩:=h;obtain⟨r,qr,f⟩:=k a d;exact⟨r,qr,fun n b c=>by show Ax.bnd (F n) (K n)=_; rw[e n b c]; exact f n b c⟩
theorem oM.chk {b:Bool} {K:Nat->Option R} (h:b=true) (k:oM N K Q):oM N (fun n=>Ax.chk b (K n)) Q:=by subst h; exact k
theorem oM.cond {b:Bool} {K L:Nat->Option R} (h:b=true->oM N K Q) (k:b=false->oM N L Q):oM N (fun n=>bif b then K n else L n) Q:=by
 cases b with
 | true=>exact h rfl
 | false=>exact k rfl
theorem oM.gs [Inhabited A] {g:Bool} {F:Nat->Option A} (h:g=true->oM N F P):oM N (fun n=>qE g (F n)) (fun a=>g=true->P a):=by
 cases g with
 | true=>
  obtain⟨a,b,c⟩:=h rfl;exact⟨a,fun _=>b,c⟩
 | false=>exact⟨default,fun h=>absurd h Bool.false_ne_true,fun _ _ _=>rfl⟩
theorem oM.mono {M:Nat} {F:Nat->Option R} {a:R->Prop} (h:oM N F Q) (b:N<=M) (c:∀ r,Q r->a r):oM M F a:=by
 obtain⟨r,qr,d⟩:=h;exact⟨r,c r qr,fun n e f=>d n (Nat.le_trans b e) f⟩
theorem oM.up {M:Nat} {F:Nat->Option R} (h:oM N F Q) (a:N<=M):oM M F Q:=h.mono a fun _ q=>q
theorem oM.imp {F:Nat->Option R} {a:R->Prop} (h:oM N F Q) (b:∀ r,Q r->a r):oM N F a:=h.mono (jw _) b
theorem oM.idx {l:List A} {i:Nat} {x:A} (h:l[i]? =some x) (p:P x):oM N (fun _=>Ax.idx l (i:Int)) P:=
 ⟨x,p,fun _ _ _=>by unfold Ax.idx; rw[if_pos (Int.natCast_nonneg i)]; simpa using h⟩
theorem oM.val {F:Nat->Option R} (h:oM N F Q) (b:N<=1099511627776) (d:R):Q ((F N).getD d)/\∀ n,N<=n->n<=1099511627776->F n=some ((F N).getD d):=by
 obtain⟨r,qr,a⟩:=h;have e:F N=some r:=a N (jw _) b;rw[e];exact⟨qr,a⟩
theorem oM.succ {F G:Nat->Option R} (e:∀ n,F (n+1)=G n) (h:oM N G Q):oM (N+1) F Q:=by
 obtain⟨r,qr,a⟩:=h;refine⟨r,qr,fun n b c=>?_⟩;obtain⟨m,rfl⟩:=jj (by omega:n≠0);rw[e];exact a m (by omega) (by omega)
theorem zB.next {s:S} (h:QS s):zB N (fun _ (a:S->Option R)=>a s) QS Q:=.inl ⟨s,h,fun _ _ _ _=>rfl⟩
theorem zB.one {r:R} (h:Q r):zB N (fun _ (_:S->Option R)=>some r) QS Q:=.inr ⟨r,h,fun _ _ _ _=>rfl⟩
theorem zB.tot {F:Nat->Option R} (h:oM N F Q):zB N (fun n (_:S->Option R)=>F n) QS Q:=by
 obtain⟨r,qr,a⟩:=h;exact .inr ⟨r,qr,fun n _ b c=>a n b c⟩
theorem zB.bnd {F:Nat->Option A} {K:Nat->(S->Option R)->A->Option R} (h:oM N F P) (k:∀ a,P a->zB N (fun n b=>K n b a) QS Q):zB N (fun n b=>Ax.bnd (F n) (K n b)) QS Q:=by
 obtain⟨a,g,f⟩:=h;rcases k a g with ⟨r,qr,e⟩|⟨r,qr,e⟩
 ·exact .inl ⟨r,qr,fun n b c d=>by show Ax.bnd (F n) (K n b)=_; rw[f n c d]; exact e n b c d⟩
 exact .inr ⟨r,qr,fun n b c d=>by show Ax.bnd (F n) (K n b)=_; rw[f n c d]; exact e n b c d⟩
theorem zB.chk {b:Bool} {K:Nat->(S->Option R)->Option R} (h:b=true) (k:zB N K QS Q):zB N (fun n a=>Ax.chk b (K n a)) QS Q:=by subst h; exact k
theorem zB.cond {b:Bool} {K L:Nat->(S->Option R)->Option R} (h:b=true->zB N K QS Q) (k:b=false->zB N L QS Q):zB N (fun n a=>bif b then K n a else L n a) QS Q:=by
 cases b with
 | true=>exact h rfl
 | false=>exact k rfl
theorem oM.loop {B:Nat->(S->Option R)->S->Option R} (I:Nat->S->Prop) (h:∀ m s,I m s->zB N (fun n l=>B n l s) (fun e=>∃ d,d<m/\I d e) Q) {m0:Nat} {f:S} (o:I m0 f) (t:m0<N) :
  oM N (fun n=>qC (B n) n f) Q:=by
 have key:∀ (M m:Nat),m<=M->∀ s,I m s->∃ r,Q r/\∀ n k,N<=n->n<=1099511627776->m<k->qC (B n) k s=some r:=by
  intro M
  induction M with
  | zero=>
   intro m hm s g;rcases h m s g with ⟨e,⟨d,i,_⟩,_⟩|⟨r,qr,c⟩
   ·omega
   refine⟨r,qr,fun n k a b j=>?_⟩;obtain⟨k,rfl⟩:=jj (by omega:k≠0);exact c n _ a b
  | succ M ih=>
   intro m hm s g;rcases h m s g with ⟨e,⟨d,i,p⟩,c⟩|⟨r,qr,c⟩
   ·obtain⟨r,qr,q⟩:=ih d (by omega) e p
    refine⟨r,qr,fun n k a b j=>?_⟩;obtain⟨k,rfl⟩:=jj (by omega:k≠0);exact(c n _ a b).trans (q n k a b (by omega))
   refine⟨r,qr,fun n k a b j=>?_⟩;obtain⟨k,rfl⟩:=jj (by omega:k≠0);exact c n _ a b
 obtain⟨r,qr,c⟩:=key m0 m0 (jw _) f o;exact⟨r,qr,fun n a b=>c n n a b (by omega)⟩
end
end W
end
section
open Go Ax
namespace W
def PG (v:Val):Bool:=(vP 0 v).getD false
theorem MJ (n:Nat) (v:Val):vP n v=some (PG v):=by cases v; rfl
def NS (ks:List (List UInt8)):Bool:=(vA (ks.length+1) ks).getD false
theorem uq {A:Type} {l:List A} {k:Nat} (h:k<l.length):l[k]? =some l[k]:=jf h
theorem RN (ks:List (List UInt8)) (d:ks.length<=1099511627775):oM (ks.length+1) (fun n=>vA n ks) (fun _=>True):=by
 unfold vA;refine oM.loop (fun m s=>∃ k:Nat,s=(k:Int)/\k+m=ks.length) ?_ ⟨0,rfl,by omega⟩ (Nat.lt_succ_self _);rintro m _ ⟨k,rfl,hm⟩;unfold xR;refine zB.cond (fun b=>?_) (fun _=>.one trivial);rw[zP]at b;have a:k<ks.length:=by have:=kod b; omega
 refine zB.bnd (oM.idx (uq a) (P:=fun _=>True) trivial) fun x _=>?_
 refine zB.bnd (P:=fun _=>True) ((oM.gs (P:=fun _=>True) fun c=>?_).imp fun _ _=>trivial) fun y _=>?_
 ·simp only[ji,kde]at c
  have:0<k:=by omega
  obtain⟨j,rfl⟩:∃ j,k=j+1:=⟨k - 1,by omega⟩;rw[Pg (by omega)];exact oM.idx (uq (by omega)) trivial
 refine zB.cond (fun _=>.one trivial) fun _=>?_;rw[vm (by omega)];exact .next ⟨m - 1,by omega,k+1,rfl,by omega⟩
theorem Tf {n:Nat} {ks:List (List UInt8)} (h:ks.length<n) (a:n<=1099511627776):vA n ks=some (NS ks):=
 ((RN ks (by omega)).val (by omega) false).2 n (by omega) a
mutual
def qZ:Val->Nat
 | .mk _ _ _ _ l _=>1+vW l
def vW:List Val->Nat
 | []=>0
 | v::l=>qZ v+vW l
end
def lj (k:Int) (b:Bool) (i:Int) (s:List UInt8) (l:List Val) (ks:List (List UInt8)):Bool:=
 !decide (k<0)&&!decide (k>7)&&PG (.mk k b i s l ks)&&!(decide (k≥6)&&decide (i<1))&&!(k==5&&(((ks.length:Nat):Int) != ((l.length:Nat):Int)||!NS ks))
mutual
def wfV:Val->Nat->Bool
 | .mk k b i s l ks,d=>decide (1<=d)&&lj k b i s l ks&&wfL l (d - 1)
def wfL:List Val->Nat->Bool
 | [],_=>true
 | v::l,d=>wfV v d&&wfL l d
end
theorem Zi:∀ a b:List Val,vW (a++b)=vW a+vW b
 | [],b=>by simp[vW]
 | v::a,b=>by simp only[List.cons_append,vW,Zi a b]; omega
theorem MD (d:Nat):∀ a b:List Val,wfL (a++b) d=(wfL a d&&wfL b d)
 | [],b=>by simp[wfL]
 | v::a,b=>by simp only[List.cons_append,wfL,MD d a b,Bool.and_assoc]
theorem lL (v:Val) (d:Nat):wfL [v] d=wfV v d:=by simp[wfL]
theorem BF (v:Val):vW [v]=qZ v:=by simp[vW]
theorem xM {A:Type} {l:List A} {k:Nat} (h:k<l.length):l.take (k+1)=l.take k++[l[k]]:=by
 rw[List.take_succ,jf h]; rfl
theorem RU (D P A B a G I E L b c e:Bool) (f:(!(bif(bif(bif D then true else P)then true else A)then true else B))=true->c=a)
  (d:(((!(bif(bif(bif(bif(bif D then true else P)then true else A)then true else B)then true else(!c))then true else(bif G then I else false)))&&E)&&(!L))=true->e=b) :
  (bif(bif(bif(bif(bif(bif D then true else P)then true else A)then true else B)then true else(!c))then true else(bif G then I else false))then true else(bif E then(bif L then true else(!e))else false)) =
   !(!D&&!P&&(!A&&!B&&a&&!(G&&I)&&!(E&&(L||!b)))):=by
 revert D P A B a G I E L b c e
 decide +kernel
def iE (v:Val) (d p:Nat) (r:Int×Bool):Prop:=r.2=(wfV v d&&decide (p+qZ v<=4096))/\(r.2=true->r.1=((p+qZ v:Nat):Int))
mutual
def hgt:Val->Nat
 | .mk _ _ _ _ l ks=>2+l.length+ks.length+ia l
def ia:List Val->Nat
 | []=>0
 | v::l=>max (hgt v) (ia l)
end
theorem MZ:∀ {l:List Val} {x:Val},x∈l->hgt x<=ia l
 | y::l,x,h=>by
  simp only[ia];rcases jg.1 h with rfl|h
  ·omega
  have:=MZ h; omega
theorem Tj:∀ (N:Nat) (v:Val) (d p:Nat),hgt v<=N->N<=1099511627776->d<=1000->p<=1000000->oM (hgt v) (fun n=>xJ n v d p) (iE v d p):=by
 intro N
 induction N with
 | zero=>intro v d p h; obtain⟨k,b,i,s,l,ks⟩:=v; simp only[hgt]at h; omega
 | succ N ih=>
  intro v d p K X Y hp;obtain⟨k,b,i,s,l,ks⟩:=v;have Z:hgt (.mk k b i s l ks)=2+l.length+ks.length+ia l:=by simp only[hgt]
  obtain⟨M,O⟩:∃ M,hgt (.mk k b i s l ks)=M+1:=⟨hgt (.mk k b i s l ks) - 1,by omega⟩;rw[O];refine oM.succ (G:=fun n=>fy n (xJ n) (.mk k b i s l ks) d p) (fun n=>rfl) ?_
  unfold fy
  dsimp only
  have hw:kwr .i64 ((p:Int)+1)=((p+1:Nat):Int):=vm (by omega);have kt:∀ n,M<=n->n<=1099511627776->vA n ks=some (NS ks):=fun n o g=>Tf (by omega) g
  rw[hw,zP,zw];have C:decide ((d:Int)<1)=!decide (1<=d):=by by_cases h:1<=d<;>simp[h]<;>omega
  have D:decide (((p+1:Nat):Int)>4096)=!decide (p+1<=4096):=by by_cases h:p+1<=4096<;>simp[h]<;>omega
  refine oM.bnd (oM.gs (P:=fun x=>x=PG (.mk k b i s l ks)) fun _=>.of (fun n _ _=>MJ n _) rfl) fun x9 R=>?_
  refine oM.bnd (oM.gs (P:=fun x=>x=NS ks) fun _=>.of kt rfl) fun S E=>?_
  have f:=RU _ _ _ _ _ _ _ _ _ _ _ _ R E;rw[f,C,D,Bool.not_not,Bool.not_not];have t:wfV (.mk k b i s l ks) d=(decide (1<=d)&&lj k b i s l ks&&wfL l (d - 1)):=by simp only[wfV]
  have u:qZ (.mk k b i s l ks)=1+vW l:=by simp only[qZ]
  refine oM.cond (fun a=>.one ⟨?_,fun h=>by cases h⟩) (fun a=>?_)
  ·have a:(decide (1<=d)&&decide (p+1<=4096)&&lj k b i s l ks)=false:=by rw[Bool.not_eq_true']at a; exact a
   rw[t,u];rw[eq_comm,Bool.and_eq_false_iff];simp only[Bool.and_eq_false_iff]at a;rcases a with (a|a)|a
   ·left; rw[a]; rfl
   ·right; have:=of_decide_eq_false a; exact kdf (by omega)
   left; rw[a,Bool.and_false,Bool.false_and]
  have a:(decide (1<=d)&&decide (p+1<=4096)&&lj k b i s l ks)=true:=by rw[Bool.not_eq_false']at a; exact a
  simp only[ji,kde]at a;obtain⟨⟨F,H⟩,hone⟩:=a;have w:wfV (.mk k b i s l ks) d=wfL l (d - 1):=by rw[t,hone,kdt F]; rfl
  refine(oM.loop (Q:=fun r:Int×Bool=>r.2=(wfL l (d - 1)&&decide (p+1+vW l<=4096))/\(r.2=true->r.1=((p+1+vW l:Nat):Int))) (fun m s=>∃ (j:Nat) (q:Int) (ok:Bool),s=(q,ok,((j:Nat):Int))/\j+m=l.length/\ok=(wfL (l.take j) (d - 1)&&decide (p+1+vW (l.take j)<=4096))/\(ok=true->q=((p+1+vW (l.take j):Nat):Int))) ?_ ⟨0,((p+1:Nat):Int),true,rfl,by omega,?_,?_⟩ (by omega:l.length<M)).imp ?_
  ·rintro m _ ⟨j,q,ok,rfl,hm,c,e⟩
   unfold xS
   dsimp only
   rw[zw];refine zB.cond (fun a=>?_) (fun a=>.one ?_)
   ·have y:j<l.length:=by
     cases ok with
     | true=>have:=kod (by simpa using a); omega
     | false=>simp at a
    have I:ok=true:=by
     cases ok with
     | true=>rfl
     | false=>simp at a
    subst I;have e:=e rfl;have z:=List.getElem_mem y;have T:=MZ z;have A:=xM y;refine zB.bnd (oM.idx (uq y) (P:=fun v=>v=l[j]) rfl) fun v K=>?_
    obtain⟨y1,y2,y3,y4,y5,y6⟩:=v
    dsimp only
    rw[K,show((d:Nat):Int) - 1=((d - 1:Nat):Int) by omega,TQ (by omega) (by omega)];have B:(wfL (l.take j) (d - 1)&&decide (p+1+vW (l.take j)<=4096))=true:=c.symm;simp only[ji,kde]at B;rw[e];refine zB.bnd (P:=iE l[j] (d - 1) (p+1+vW (l.take j))) ?_ fun r U=>?_
    ·exact(ih l[j] (d - 1) _ (by omega) (by omega) (by omega) (by omega)).up (by omega)
    obtain⟨V,J⟩:=r;obtain⟨o,g⟩:=U
    dsimp only at o g ⊢
    rw[vm (by omega)];refine .next ⟨m - 1,by omega,j+1,V,J,rfl,by omega,?_,?_⟩
    ·rw[o,A,MD,Zi,lL,BF,B.1,Bool.true_and,← Nat.add_assoc (p+1)]
    intro I;rw[g I,A,Zi,BF,← Nat.add_assoc (p+1)]
   have L:l=l.take j++l.drop j:=(List.take_append_drop j l).symm;have e1:wfL l (d - 1)=(wfL (l.take j) (d - 1)&&wfL (l.drop j) (d - 1)):=by rw[← MD,← L]
   have e2:vW l=vW (l.take j)+vW (l.drop j):=by rw[← Zi,← L]
   cases ok with
   | true=>
    have y:j=l.length:=by
     have:l.length<=j:=by simpa using a
     omega
    subst y;rw[List.take_length]at c e;exact⟨c,e⟩
   | false=>
    refine⟨?_,fun h=>by cases h⟩
    rw[e1,e2];have c:=c.symm;rw[eq_comm];simp only[Bool.and_eq_false_iff,decide_eq_false_iff_not]at c ⊢;rcases c with h|h
    ·exact .inl (.inl h)
    exact .inr (by omega)
  ·simp[wfL,vW,H]
  ·simp[vW]
  rintro⟨q,ok⟩ ⟨o,g⟩;unfold iE;rw[w,u,show p+(1+vW l)=p+1+vW l by omega];exact⟨o,g⟩
def RX (v:Val):Bool:=wfV v 32&&decide (qZ v<=4096)
theorem Ti {v:Val} {n:Nat} (h:hgt v<=n) (b:n<=1099511627776):∃ q,xJ n v 32 0=some (q,RX v):=by
 obtain⟨r,⟨a,_⟩,c⟩:=Tj (hgt v) v 32 0 (jw _) (by omega) (by omega) (by omega);refine⟨r.1,?_⟩;have:xJ n v ((32:Nat):Int) ((0:Nat):Int)=some r:=c n h b;rw[Nat.zero_add]at a;refine this.trans ?_;show some (r.1,r.2)=_;rw[a]; rfl
theorem PQ {v:Val} {n:Nat} (h:hgt v<=n) (a:n<=1099511627776):gj n v=some (bif RX v then 0 else 20):=by
 obtain⟨q,c⟩:=Ti h a;obtain⟨k,b,i,s,l,ks⟩:=v;unfold gj
 dsimp only
 rw[c,cH]
 dsimp only
 cases RX (.mk k b i s l ks)<;>rfl
theorem iN (i:Int):1<=isz i:=by unfold isz; split<;>omega
mutual
theorem Ru:∀ v:Val,hgt v<=tP v
 | .mk k b i s l ks=>by
  have:=Na l;have:=iN i;have hk:ks.length<=(ks.map fun k=>1+k.length).sum:=gl ks
  simp only[hgt,tP];omega
theorem Na:∀ l:List Val,l.length+ia l<=uT l
 | []=>by simp[ia,uT]
 | v::l=>by
  have:=Ru v;have:=Na l;simp only[ia,uT,ja];omega
end
theorem la {v:Val} {n:Nat} (h:tP v<n) (c:n<=1099511627776):fS n v=some (RX v):=by
 obtain⟨b,a,d⟩:=SO c h;have:=Ru v;rw[PQ (by omega) c]at a;rw[d];have a:=Option.some.inj a;cases b<;>cases e:RX v<;>rw[e]at a<;>first|rfl|exact absurd a (by decide)
end W
end
section
open Go Ax
namespace W
theorem RO (ks:List (List UInt8)) (z:ks.length<=1099511627775):oM (ks.length+1) (fun n=>vA n ks) (fun b=>b=true->∀ (i:Nat) (h:i<ks.length),ks[i].length<=64/\∀ (e:0<i),Op.bytesLess ks[i - 1] ks[i]=true):=by
 unfold vA;refine oM.loop (fun m s=>∃ k:Nat,s=(k:Int)/\k+m=ks.length/\∀ (i:Nat) (h:i<ks.length),i<k->ks[i].length<=64/\∀ (e:0<i),Op.bytesLess ks[i - 1] ks[i]=true) ?_ ⟨0,rfl,by omega,fun i _ h=>by omega⟩ (Nat.lt_succ_self _)
 rintro m _ ⟨k,rfl,hm,p⟩;unfold xR;refine zB.cond (fun a=>?_) (fun a=>.one fun _ i h=>p i h ?_)
 ·rw[zP]at a
  have f:k<ks.length:=by have:=kod a; omega
  refine zB.bnd (oM.idx (uq f) (P:=fun x=>x=ks[k]) rfl) fun x t=>?_
  subst t;refine zB.bnd (oM.gs (P:=fun y=>∀ e:0<k,y=ks[k - 1]) fun u=>?_) fun y g=>?_
  ·simp only[ji,kde]at u
   have:0<k:=by omega
   obtain⟨j,rfl⟩:∃ j,k=j+1:=⟨k - 1,by omega⟩;rw[Pg (by omega)];exact oM.idx (uq (by omega)) fun _=>rfl
  refine zB.cond (fun _=>.one fun h=>by cases h) fun a=>?_
  rw[vm (by omega)];refine .next ⟨m - 1,by omega,k+1,rfl,by omega,fun i v w=>?_⟩;by_cases d:i<k
  ·exact p i v d
  obtain rfl:i=k:=by omega
  cases c:(bif(ks[i]==([]:List UInt8))then true else(decide (((ks[i].length:Nat):Int)>(64:Int))))with
  | true=>rw[c]at a; cases a
  | false=>
   rw[c]at a g;rw[zC]at a;have o:ks[i].length<=64:=by
    cases q:ks[i]==([]:List UInt8)with
    | true=>rw[q]at c; cases c
    | false=>
     rw[q,zC]at c;have:=of_decide_eq_false c;omega
   refine⟨o,fun e=>?_⟩;have r:decide ((i:Int)>0)=true:=kdt (by omega);rw[r,xA]at a;rw[r]at g;rw[g rfl e]at a;simpa using a
 rw[zP]at a;have:=of_decide_eq_false a;omega
theorem NT {ks:List (List UInt8)} (a:ks.length<=1099511627775) (h:NS ks=true):(∀ k∈ks,k.length<=64)/\MH ks:=by
 have:=((RO ks a).val (by omega) false).1 h;refine⟨fun k hm=>?_,fun i x y c d=>?_⟩
 ·obtain⟨i,e,rfl⟩:=List.mem_iff_getElem.1 hm
  exact(this i e).1
 obtain⟨g,rfl⟩:=jG.1 c;obtain⟨f,rfl⟩:=jG.1 d;have:=(this (i+1) f).2 (by omega);rw[lY]at this;exact kod this
def okI (i:Int):Bool:=decide (-9223372036854775808<=i/\i<=9223372036854775807)
mutual
def smV:Val->Bool
 | .mk _ _ i s l _=>okI i&&decide (s.length<=1048576)&&smL l
def smL:List Val->Bool
 | []=>true
 | v::l=>smV v&&smL l
end
theorem Sr:∀ {l:List Val} {x:Val},smL l=true->x∈l->smV x=true
 | y::l,x,h,hm=>by
  simp only[smL,ji]at h;rcases jg.1 hm with rfl|hm
  ·exact h.1
  exact Sr h.2 hm
mutual
theorem aN:∀ (v:Val) (d e:Nat),d<=e->wfV v d=true->wfV v e=true
 | .mk k b i s l ks,d,e,hde,h=>by
  simp only[wfV,ji,kde]at h ⊢;exact⟨⟨by omega,h.1.2⟩,iC l (d - 1) (e - 1) (by omega) h.2⟩
theorem iC:∀ (l:List Val) (d e:Nat),d<=e->wfL l d=true->wfL l e=true
 | [],_,_,_,_=>rfl
 | v::l,d,e,hde,h=>by
  simp only[wfL,ji]at h ⊢;exact⟨aN v d e hde h.1,iC l d e hde h.2⟩
end
theorem SA {d:Nat}:∀ {l:List Val} {x:Val},wfL l d=true->x∈l->wfV x d=true
 | y::l,x,h,hm=>by
  simp only[wfL,ji]at h;rcases jg.1 hm with rfl|hm
  ·exact h.1
  exact SA h.2 hm
theorem BE:∀ {l:List Val} {x:Val},x∈l->qZ x<=vW l
 | y::l,x,hm=>by
  simp only[vW];rcases jg.1 hm with rfl|hm
  ·omega
  have:=BE hm; omega
theorem Sh (v:Val):1<=qZ v:=by cases v; simp only[qZ]; omega
theorem BD:∀ l:List Val,l.length<=vW l
 | []=>jR _
 | v::l=>by have:=BD l; have:=Sh v; simp only[vW,ja]; omega
structure VF (v:Val):Prop where
 may:RX v=true
 sm:smV v=true
section
variable {k:Int} {b:Bool} {i:Int} {s:List UInt8} {l:List Val} {ks:List (List UInt8)}
theorem VF.one (h:VF (.mk k b i s l ks)):lj k b i s l ks=true/\wfL l 31=true/\1+vW l<=4096:=by
 have:=h.may;simp only[RX,wfV,qZ,ji,kde]at this;exact⟨this.1.1.2,this.1.2,kod this.2⟩
theorem VF.child (h:VF (.mk k b i s l ks)) {x:Val} (a:x∈l):VF x:=by
 obtain⟨_,d,e⟩:=h.one;have:=BE a;have c:=h.sm;simp only[smV,ji]at c;refine⟨?_,Sr c.2 a⟩;simp only[RX,ji,kde];exact⟨aN x 31 32 (by omega) (SA d a),by omega⟩
theorem VF.int (h:VF (.mk k b i s l ks)):-9223372036854775808<=i/\i<=9223372036854775807:=by
 have a:=h.sm;simp only[smV,okI,ji,kde]at a;exact a.1.1
theorem VF.str (h:VF (.mk k b i s l ks)):s.length<=1048576:=by
 have a:=h.sm;simp only[smV,ji,kde]at a;exact a.1.2
theorem VF.len (h:VF (.mk k b i s l ks)):l.length<=4095:=by
 have:=h.one.2.2;have:=BD l;omega
theorem To (h:lj k b i s l ks=true):PG (.mk k b i s l ks)=true/\0<=k/\k<=7/\(k=5->ks.length=l.length/\NS ks=true):=by
 unfold lj at h;simp only[ji,Bool.not_eq_true',decide_eq_false_iff_not]at h;obtain⟨⟨⟨⟨d,f⟩,c⟩,g⟩,a⟩:=h;refine⟨c,by omega,by omega,fun e=>?_⟩;subst e;simp only[BEq.rfl,Bool.true_and,Bool.or_eq_false_iff,bne_eq_false_iff_eq,Bool.not_eq_false']at a;exact⟨by omega,a.2⟩
theorem PI (h:PG (.mk k b i s l ks)=true) (a:k≠5):ks=[]:=by
 have e:vP 0 (.mk k b i s l ks)=some true:=by rw[MJ,h]
 unfold vP at e;have e:=Option.some.inj e;rw[zP]at e;have:(k==5)=false:=by simpa using a
 rw[this,zC]at e;generalize (bif(bif(bif(bif(k==(1:Int))then true else(!b))then(bif(bif(k==(2:Int))then true else(decide (k≥(6:Int))))then true else(i==(0:Int)))else false)then(bif(k==(3:Int))then true else(s==([]:List UInt8)))else false)then _ else false)=c at e;cases c with
 | false=>cases e
 | true=>
  rw[xA]at e;have:((ks.length:Nat):Int)=0:=by simpa using e
  exact List.eq_nil_of_length_eq_zero (by omega)
theorem VF.keys (h:VF (.mk k b i s l ks)):ks.length<=l.length/\MH ks/\(∀ x∈ks,x.length<=64)/\(k=5->ks.length=l.length):=by
 obtain⟨f,_,_,g⟩:=To h.one.1;have j:=h.len;by_cases d:k=5
 ·obtain⟨e1,e2⟩:=g d
  obtain⟨a,c⟩:=NT (by omega) e2;exact⟨by omega,c,a,fun _=>e1⟩
 have e:=PI f d;subst e;exact⟨jR _,fun i x y h=>by simp at h,fun x h=>by simp at h,fun e=>absurd e d⟩
end
theorem Sb:∀ {ks:List (List UInt8)},(∀ x∈ks,x.length<=64)->(ks.map fun k=>1+k.length).sum<=65 * ks.length
 | [],_=>by simp
 | k::ks,h=>by
  have:=Sb (ks:=ks) fun x a=>h x (List.mem_cons_of_mem _ a)
  have:=h k List.mem_cons_self;simp only[jk,jA,ja];omega
mutual
theorem iA:∀ v:Val,VF v->tP v+70<=qZ v * 1048700
 | .mk k b i s l ks,h=>by
  have h1:=Sz l (fun x hx=>h.child hx)
  obtain⟨hk,_,h64,_⟩:=h.keys;have h2:=Sb h64;have h3:=h.str;have h4:isz i=1:=by unfold isz; rw[if_pos h.int]
  simp only[tP,qZ,Nat.add_mul];omega
theorem Sz:∀ l:List Val,(∀ x∈l,VF x)->uT l+65 * l.length<=1+vW l * 1048700
 | [],_=>by simp[uT,vW]
 | v::l,h=>by
  have:=iA v (h v List.mem_cons_self);have:=Sz l fun x hx=>h x (List.mem_cons_of_mem _ hx)
  simp only[uT,vW,ja,Nat.add_mul];omega
end
theorem VF.big {v:Val} (h:VF v):tP v<=4295475200:=by
 have c:=iA v h;have a:=h.may;simp only[RX,ji,kde]at a;have:qZ v * 1048700<=4096 * 1048700:=Nat.mul_le_mul_right _ a.2;omega
end W
end
section
open Go Ax Go.Proofs
namespace W
mutual
theorem iy:∀ v:Val,tP v<=1048576->smV v=true
 | .mk k b i s l ks,h=>by
  simp only[tP]at h;have h1:=Ss l (by omega);have h2:=ak (i:=i) (by omega);have hi:okI i=true:=kdt h2;have hs:s.length<=1048576:=by omega
  simp only[smV,h1,hi,kdt hs];rfl
theorem Ss:∀ l:List Val,uT l<=1048576->smL l=true
 | [],_=>rfl
 | v::l,h=>by
  simp only[uT]at h;simp only[smL,iy v (by omega),Ss l (by omega)];rfl
end
theorem lI {v:Val} (h:tP v<=1048576) (hm:RX v=true):VF v:=⟨hm,iy v h⟩
theorem ao {a:Nat} {k:Nat} {x:Bool} (h:(bif(((a:Nat):Int)==((k:Nat):Int))then x else false)=true):a=k/\x=true:=by
 cases b:(((a:Nat):Int)==((k:Nat):Int))with
 | true=>rw[b]at h; have:=eq_of_beq b; exact⟨by omega,h⟩
 | false=>rw[b]at h; cases h
theorem BG {v:Val} (a:tP v<=1048576):oM 34359738368 (fun n=>uY n v) (fun _=>True):=by
 have:∀ (N:Nat) (v:Val),tP v<=N->N<=1048576->oM (34359738368 - 1048576+N) (fun n=>uY n v) (fun _=>True):=by
  intro N
  induction N with
  | zero=>intro v h; have:=TH v; omega
  | succ N ih=>
   intro v o p;refine oM.succ (N:=34359738368 - 1048576+N) (G:=fun n=>bR n (uY n) v) (fun n=>rfl) ?_
   obtain⟨k,b,i,s,l,ks⟩:=v;have a:tP (.mk k b i s l ks)=1+isz i+s.length+uT l+(ks.map fun k=>1+k.length).sum:=by simp only[tP]
   have d:=vY l;unfold bR
   dsimp only
   refine oM.cond (fun _=>.one trivial) fun _=>?_;refine oM.loop (fun m st=>∃ j:Nat,st=((j:Nat):Int)/\j+m=l.length) ?_ ⟨0,rfl,by omega⟩ (by omega:l.length<34359738368 - 1048576+N);rintro m _ ⟨j,rfl,hm⟩;unfold bA;rw[zw];refine zB.cond (fun e=>?_) fun _=>.one trivial;have c:j<l.length:=by have:=kod e; omega
   have f:=cf (List.getElem_mem c);refine zB.bnd (oM.idx (uq c) (P:=fun x=>x=l[j]) rfl) fun x g=>?_
   obtain⟨q,r,t,u,w,y⟩:=x
   dsimp only
   rw[g];refine zB.bnd (ih l[j] (by omega) (by omega)) fun b _=>zB.cond (fun _=>.one trivial) fun _=>?_
   rw[vm (by omega)];exact .next ⟨m - 1,by omega,j+1,rfl,by omega⟩
 exact(this 1048576 v a (by decide)).up (by decide)
theorem DY {v:Val} (c:tP v<=1048576):oM 34359738368 (fun n=>fS n v) (fun b=>b=RX v):=.of (fun n d a=>la (by omega) a) rfl
theorem FU {l:List (List UInt8)} (e:l.length<=1048576):oM 34359738368 (fun n=>cN n l) (fun _=>True):=by
 unfold cN;refine oM.loop (fun m st=>∃ j:Nat,st=((j:Nat):Int)/\j+m=l.length) ?_ ⟨0,rfl,by omega⟩ (by omega:l.length<34359738368);rintro m _ ⟨j,rfl,hm⟩;unfold dn;rw[zP];refine zB.cond (fun c=>?_) fun _=>.one trivial;have a:j<l.length:=by have:=kod c; omega
 refine zB.bnd (oM.idx (uq a) (P:=fun _=>True) trivial) fun x _=>zB.bnd (P:=fun _=>True) (.of (fun n _ _=>rfl) trivial) fun b _=>?_
 refine zB.bnd (P:=fun _=>True) ((oM.gs (P:=fun _=>True) fun _=>oM.idx (uq a) trivial).imp fun _ _=>trivial) fun y _=>?_
 refine zB.bnd (P:=fun _=>True) ((oM.gs (P:=fun _=>True) fun d=>?_).imp fun _ _=>trivial) fun z _=>?_
 ·simp only[ji,kde]at d
  obtain⟨i,rfl⟩:∃ i,j=i+1:=⟨j - 1,by omega⟩;rw[Pg (by omega)];exact oM.idx (uq (show i<l.length by omega)) trivial
 refine zB.cond (fun _=>.one trivial) fun _=>?_;rw[vm (by omega)];exact .next ⟨m - 1,by omega,j+1,rfl,by omega⟩
theorem HO {v:Val} (a:tP v<=1048576):oM 34359738368 (fun n=>fW n v) (fun b=>b=true->VF v):=by
 have d:=DY a;have e:=BG a;have f:=lI a;obtain⟨k,b,i,s,l,ks⟩:=v;unfold fW
 dsimp only
 refine oM.bnd (oM.gs fun _=>d) fun x g=>oM.bnd (P:=fun _=>True) ((oM.gs fun _=>e).imp fun _ _=>trivial) fun y _=>.one fun he=>f ?_
 cases c:k != 0 with
 | false=>rw[c]at he; cases he
 | true=>
  rw[c]at he;cases x with
  | false=>cases he
  | true=>exact(g c).symm
theorem BH {ks:List (List UInt8)} {vs:List Val} (l:ks.length<=1048576) (u:uT vs<=1048576):oM 34359738368 (fun n=>dV n ks vs) (fun b=>b=true->ks.length=vs.length/\∀ v∈vs,VF v):=by
 have o:=vY vs;unfold dV;refine oM.loop (fun m st=>∃ j:Nat,st=((j:Nat):Int)/\j+m=vs.length/\∀ (i:Nat) (h:i<vs.length),i<j->VF vs[i]) ?_ ⟨0,rfl,by omega,fun i h a=>by omega⟩ (by omega:vs.length<34359738368)
 rintro m _ ⟨j,rfl,hm,g⟩;unfold bG;rw[zw,zP];refine zB.cond (fun c=>?_) fun c=>?_
 ·have d:j<vs.length:=by have:=kod c; omega
  have p:=cf (List.getElem_mem d);refine zB.bnd (oM.idx (uq d) (P:=fun x=>x=vs[j]) rfl) fun x q=>?_
  obtain⟨w,y,z,A,B,C⟩:=x
  dsimp only
  rw[q];refine zB.bnd (HO (by omega)) fun b r=>zB.cond (fun _=>.one fun h=>by cases h) fun f=>?_
  rw[vm (by omega)];refine .next ⟨m - 1,by omega,j+1,rfl,by omega,fun i a s=>?_⟩;by_cases e:i<j
  ·exact g i a e
  obtain rfl:i=j:=by omega
  exact r (by simpa using f)
 have d:j=vs.length:=by have:=of_decide_eq_false c; omega
 refine zB.bnd (P:=fun _=>True) ((oM.gs fun _=>FU l).imp fun _ _=>trivial) fun x _=>.one fun he=>?_
 have:=ao (k:=vs.length) he;refine⟨this.1,fun v t=>?_⟩;obtain⟨i,a,rfl⟩:=List.mem_iff_getElem.1 t;exact g i a (by omega)
theorem Sd {d:Node} (c:mX d<=1048576):oM 34359738368 (fun n=>dj n d) (fun b=>b=true->d.keys.length=d.vals.length/\∀ v∈d.vals,VF v):=by
 obtain⟨id,labels,keys,vals⟩:=d;have c:1+QU labels+QU keys+uT vals<=1048576:=c;have f:=gl labels;have g:=gl keys;unfold dj
 dsimp only
 refine oM.bnd (P:=fun _=>True) ((oM.gs fun _=>FU (by omega)).imp fun _ _=>trivial) fun x _=>oM.bnd (oM.gs fun _=>BH (ks:=keys) (vs:=vals) (by omega) (by omega)) fun y e=>.one fun he=>?_
 cases a:(bif(decide (id≥(1:Int)))then x else false)with
 | false=>rw[a]at he; cases he
 | true=>rw[a]at he; exact e a he
theorem PY {d:Edge} (c:mA d<=1048576):oM 34359738368 (fun n=>di n d) (fun b=>b=true->d.keys.length=d.vals.length/\∀ v∈d.vals,VF v):=by
 obtain⟨id,f,to,ty,keys,vals⟩:=d;have c:1+ty.length+QU keys+uT vals<=1048576:=c;have g:=gl keys;unfold di
 dsimp only
 refine oM.bnd (P:=fun _=>True) ((oM.gs (P:=fun _=>True) fun _=>.of (fun n _ _=>rfl) trivial).imp fun _ _=>trivial) fun x _=>oM.bnd (oM.gs fun _=>BH (ks:=keys) (vs:=vals) (by omega) (by omega)) fun y e=>.one fun he=>?_
 cases a:(bif(decide (id≥(1:Int)))then x else false)with
 | false=>rw[a]at he; cases he
 | true=>rw[a]at he; exact e a he
theorem HY {A:Type} {key:A->Int} {l:List A} {x:A} {id:Int} (h:uB key l id=none) (a:(key x==id)=false):uB key (l++[x]) id=none:=by
 unfold uB at *;rw[List.find?_append,h];simp[List.find?,a]
theorem My {A:Type} {key:A->Int} {l:List A} {x:A} {id:Int} (h:x∈l) (a:(key x==id)=true):(uB key l id).isSome=true:=by
 unfold uB;rw[List.find?_isSome];exact⟨x,h,a⟩
theorem tJ {l:List Node} (e:l.length<=1048576) (es:List Edge) (id:Int):oM 34359738368 (fun n=>uV n ⟨l,es⟩ id) (fun r=>(uB Node.id l id=none/\r = -1)\/((uB Node.id l id).isSome=true/\0<=r)):=by
 unfold uV
 dsimp only
 refine oM.loop (fun m st=>∃ j:Nat,st=((j:Nat):Int)/\j+m=l.length/\uB Node.id (l.take j) id=none) ?_ ⟨0,rfl,by omega,rfl⟩ (by omega:l.length<34359738368);rintro m _ ⟨j,rfl,hm,a⟩;unfold dk;rw[show(Node.rows l).length=l.length by simp[Node.rows]];refine zB.cond (fun b=>?_) fun b=>.one (.inl ⟨?_,rfl⟩)
 ·have c:j<l.length:=by have:=kod b; omega
  refine zB.bnd (oM.idx (uq c) (P:=fun x=>x=l[j]) rfl) fun x d=>?_
  obtain⟨f,g,h,i⟩:=x;refine zB.cond (fun he=>.one (.inr ⟨My (List.getElem_mem c) (by rw[← d]; exact he),Int.natCast_nonneg _⟩)) fun he=>?_;rw[vm (by omega)];refine .next ⟨m - 1,by omega,j+1,rfl,by omega,?_⟩;rw[xM c];exact HY a (by rw[← d]; exact he)
 have:l.take j=l:=List.take_of_length_le (by have:=of_decide_eq_false b; omega);rw[this]at a;exact a
theorem LR {l:List Edge} (f:l.length<=1048576) (e:List Node) (id:Int):oM 34359738368 (fun n=>bV n ⟨e,l⟩ id) (fun r=>(uB Edge.id l id=none/\r = -1)\/((uB Edge.id l id).isSome=true/\0<=r)):=by
 unfold bV
 dsimp only
 refine oM.loop (fun m st=>∃ j:Nat,st=((j:Nat):Int)/\j+m=l.length/\uB Edge.id (l.take j) id=none) ?_ ⟨0,rfl,by omega,rfl⟩ (by omega:l.length<34359738368);rintro m _ ⟨j,rfl,hm,a⟩;unfold dh;rw[show(Edge.rows l).length=l.length by simp[Edge.rows]];refine zB.cond (fun b=>?_) fun b=>.one (.inl ⟨?_,rfl⟩)
 ·have c:j<l.length:=by have:=kod b; omega
  refine zB.bnd (oM.idx (uq c) (P:=fun x=>x=l[j]) rfl) fun x d=>?_
  obtain⟨g,h,i,k,o,p⟩:=x;refine zB.cond (fun he=>.one (.inr ⟨My (List.getElem_mem c) (by rw[← d]; exact he),Int.natCast_nonneg _⟩)) fun he=>?_;rw[vm (by omega)];refine .next ⟨m - 1,by omega,j+1,rfl,by omega,?_⟩;rw[xM c];exact HY a (by rw[← d]; exact he)
 have:l.take j=l:=List.take_of_length_le (by have:=of_decide_eq_false b; omega);rw[this]at a;exact a
theorem Nx {A:Type} {key:A->Int} {l:List A} {k:Nat} (f:k<l.length) (h:oN key (l.take k)) (c:∀ n:0<k,key l[k - 1]<key l[k]):oN key (l.take (k+1)):=by
 rw[xM f];refine List.pairwise_append.2 ⟨h,List.pairwise_singleton _ _,fun a g b j=>?_⟩;rw[jz.1 j];obtain⟨i,d,rfl⟩:=List.mem_iff_getElem.1 g;have m:i<k:=by have:=List.length_take_le k l; rw[jt]at d; omega
 rw[List.getElem_take];have c:=c (by omega);by_cases e:i=k - 1
 ·subst e; exact c
 have hp:=List.pairwise_iff_getElem.1 h i (k - 1) d (by rw[jt]; omega) (by omega);rw[List.getElem_take,List.getElem_take]at hp;omega
theorem iK {b:Bool} {p q:Int} {A B:Option Node} (a:(bif(bif b then true else decide (p<0))then true else decide (q<0))=false)
  (d:(!b)=true->(A=none/\p = -1)\/(A.isSome=true/\0<=p)) (c:(!(bif b then true else decide (p<0)))=true->(B=none/\q = -1)\/(B.isSome=true/\0<=q)):A.isSome=true/\B.isSome=true:=by
 cases b with
 | true=>cases a
 | false=>
  rw[zC]at a c;rcases d rfl with ⟨_,h⟩|⟨e,hp⟩
  ·subst h; cases a
  rw[kdf (by omega:¬ p<0)]at a c;rw[zC]at a;rcases c rfl with ⟨_,h⟩|⟨f,_⟩
  ·subst h; cases a
  exact⟨e,f⟩
theorem Rq {nodes:List Node} {edges:List Edge} (E:Xo ⟨nodes,edges⟩<=1048576):oM 34359738368 (fun n=>Qw n ⟨nodes,edges⟩) (fun b=>b=true->oN Node.id nodes/\oN Edge.id edges/\(∀ d∈nodes,d.keys.length=d.vals.length/\∀ v∈d.vals,VF v)/\∀ d∈edges,d.keys.length=d.vals.length/\(∀ v∈d.vals,VF v)/\(uB Node.id nodes d.from_).isSome=true/\(uB Node.id nodes d.to).isSome=true):=by
 obtain⟨y,z⟩:=ah (g:=⟨nodes,edges⟩);have y:nodes.length<=Xo ⟨nodes,edges⟩:=y;have z:edges.length<=Xo ⟨nodes,edges⟩:=z;have G:∀ d∈nodes,mX d<=Xo ⟨nodes,edges⟩:=fun d a=>MY (g:=⟨nodes,edges⟩) a
 have H:∀ d∈edges,mA d<=Xo ⟨nodes,edges⟩:=fun d a=>Hn (g:=⟨nodes,edges⟩) a
 unfold Qw
 dsimp only
 refine oM.loop (fun m st=>∃ j:Nat,st=((j:Nat):Int)/\j+m=nodes.length/\oN Node.id (nodes.take j)/\∀ (i:Nat) (h:i<nodes.length),i<j->nodes[i].keys.length=nodes[i].vals.length/\∀ v∈nodes[i].vals,VF v) ?_ ⟨0,rfl,by omega,.nil,fun i h k=>by omega⟩ (by omega:nodes.length<34359738368)
 rintro m _ ⟨j,rfl,hm,I,Q⟩;unfold pj;rw[show(Node.rows nodes).length=nodes.length by simp[Node.rows]];refine zB.cond (fun a=>?_) fun a=>.tot ?_
 ·have r:j<nodes.length:=by have:=kod a; omega
  have l:=List.getElem_mem r;refine zB.bnd (oM.idx (uq r) (P:=fun x=>x=nodes[j]) rfl) fun x A=>?_
  obtain⟨c,f,o,s⟩:=x
  dsimp only
  rw[A];refine zB.bnd (Sd (by have:=G _ l; omega)) fun b E=>?_;refine zB.bnd (oM.gs (P:=fun x=>x=nodes[j]) fun _=>oM.idx (uq r) rfl) fun x B=>?_
  obtain⟨S,w2,w3,w4⟩:=x
  dsimp only
  refine zB.bnd (oM.gs (P:=fun x=>∀ C:0<j,x=nodes[j - 1]) fun J=>?_) fun x p=>?_
  ·simp only[ji,kde]at J
   obtain⟨i,rfl⟩:∃ i,j=i+1:=⟨j - 1,by omega⟩;rw[Pg (by omega)];exact oM.idx (uq (show i<nodes.length by omega)) fun _=>rfl
  obtain⟨F,T,U,V⟩:=x
  dsimp only
  refine zB.cond (fun _=>.one fun h=>by cases h) fun q=>?_
  rw[vm (by omega)];have t:b=true:=by cases b with
   | true=>rfl
   | false=>cases q
  subst t;refine .next ⟨m - 1,by omega,j+1,rfl,by omega,Nx r I fun C=>?_,fun i k K=>?_⟩
  ·have u:decide (((j:Nat):Int)>0)=true:=kdt (by omega)
   rw[u]at q B p;have e1:=B rfl;have e2:=p rfl C;rw[← e1,← e2];have:=of_decide_eq_false q;show F<S;omega
  by_cases e:i<j
  ·exact Q i k e
  obtain rfl:i=j:=by omega
  exact E rfl
 have L:j=nodes.length:=by have:=of_decide_eq_false a; omega
 subst L;rw[List.take_length]at I;have X:∀ d∈nodes,d.keys.length=d.vals.length/\∀ v∈d.vals,VF v:=fun d a=>by
  obtain⟨i,k,rfl⟩:=List.mem_iff_getElem.1 a;exact Q i k k
 refine oM.loop (fun m st=>∃ j:Nat,st=((j:Nat):Int)/\j+m=edges.length/\oN Edge.id (edges.take j)/\∀ (i:Nat) (h:i<edges.length),i<j->edges[i].keys.length=edges[i].vals.length/\(∀ v∈edges[i].vals,VF v)/\(uB Node.id nodes edges[i].from_).isSome=true/\(uB Node.id nodes edges[i].to).isSome=true) ?_ ⟨0,rfl,by omega,.nil,fun i h k=>by omega⟩ (by omega:edges.length<34359738368)
 rintro m _ ⟨j,rfl,hm,w,D⟩;unfold pk;rw[show(Edge.rows edges).length=edges.length by simp[Edge.rows]];refine zB.cond (fun a=>?_) fun a=>.one fun _=>?_
 ·have r:j<edges.length:=by have:=kod a; omega
  have l:=List.getElem_mem r;refine zB.bnd (oM.idx (uq r) (P:=fun x=>x=edges[j]) rfl) fun x A=>?_
  obtain⟨c,f,o,s,y5,y6⟩:=x
  dsimp only
  rw[A];refine zB.bnd (PY (by have:=H _ l; omega)) fun b E=>?_;refine zB.bnd (oM.gs (P:=fun x=>∀ C:0<j,x=edges[j - 1]) fun J=>?_) fun x p=>?_
  ·simp only[ji,kde]at J
   obtain⟨i,rfl⟩:∃ i,j=i+1:=⟨j - 1,by omega⟩;rw[Pg (by omega)];exact oM.idx (uq (show i<edges.length by omega)) fun _=>rfl
  obtain⟨F,T,U,V,u5,u6⟩:=x
  dsimp only
  refine zB.bnd (oM.gs fun _=>tJ (by omega) _ _) fun Y M=>zB.bnd (oM.gs fun _=>tJ (by omega) _ _) fun Z N=>?_
  refine zB.cond (fun _=>.one fun h=>by cases h) fun q=>?_
  rw[vm (by omega)];have t:b=true:=by cases b with
   | true=>rfl
   | false=>cases q
  subst t;refine .next ⟨m - 1,by omega,j+1,rfl,by omega,Nx r w fun C=>?_,fun i k K=>?_⟩
  ·have u:decide (((j:Nat):Int)>0)=true:=kdt (by omega)
   rw[u]at q p;have e2:=p rfl C;rw[← A,← e2];show F<c;cases R:decide (c<=F)with
   | true=>rw[R]at q; cases q
   | false=>have:=of_decide_eq_false R; omega
  ·by_cases e:i<j
   ·exact D i k e
   obtain rfl:i=j:=by omega
   obtain⟨q1,q2⟩:=E rfl;refine⟨q1,q2,?_⟩;rw[← A];exact iK q M N
 have O:j=edges.length:=by have:=of_decide_eq_false a; omega
 subst O;rw[List.take_length]at w;exact⟨I,w,X,fun d a=>by
  obtain⟨i,k,rfl⟩:=List.mem_iff_getElem.1 a;exact D i k k⟩
theorem Th {nodes:List Node} {edges:List Edge} (D:nodes.length<=1048576) (E:edges.length<=1048576):oM 34359738368 (fun n=>sv n ⟨nodes,edges⟩) (fun b=>b=true->(∀ d∈nodes,d.labels.length<=1000/\d.keys.length<=1000)/\∀ d∈edges,d.keys.length<=1000):=by
 unfold sv
 dsimp only
 refine oM.loop (fun m st=>∃ j:Nat,st=((j:Nat):Int)/\j+m=nodes.length/\∀ (i:Nat) (h:i<nodes.length),i<j->nodes[i].labels.length<=1000/\nodes[i].keys.length<=1000) ?_ ⟨0,rfl,by omega,fun i h a=>by omega⟩ (by omega:nodes.length<34359738368)
 rintro m _ ⟨j,rfl,hm,A⟩;unfold mO;rw[show(Node.rows nodes).length=nodes.length by simp[Node.rows]];refine zB.cond (fun k=>?_) fun k=>.tot ?_
 ·have r:j<nodes.length:=by have:=kod k; omega
  refine zB.bnd (oM.idx (uq r) (P:=fun x=>x=nodes[j]) rfl) fun x u=>?_
  obtain⟨f,c,g,o⟩:=x
  dsimp only
  rw[zP];refine zB.bnd (oM.gs (P:=fun x=>x=nodes[j]) fun _=>oM.idx (uq r) rfl) fun x p=>?_
  obtain⟨F,w2,B,G⟩:=x
  dsimp only
  rw[zP];refine zB.cond (fun _=>.one fun h=>by cases h) fun l=>?_
  rw[vm (by omega)];cases t:decide (((c.length:Nat):Int)>1000)with
  | true=>rw[t]at l; cases l
  | false=>
   rw[t,zC]at l;rw[t]at p;have e1:=p rfl;have a1:=of_decide_eq_false t;have a2:=of_decide_eq_false l;refine .next ⟨m - 1,by omega,j+1,rfl,by omega,fun i a v=>?_⟩;by_cases e:i<j
   ·exact A i a e
   obtain rfl:i=j:=by omega
   refine⟨?_,?_⟩
   ·rw[← u]; show c.length<=1000; omega
   rw[← e1]; show B.length<=1000; omega
 have w:j=nodes.length:=by have:=of_decide_eq_false k; omega
 subst w;have y:∀ d∈nodes,d.labels.length<=1000/\d.keys.length<=1000:=fun d k=>by
  obtain⟨i,a,rfl⟩:=List.mem_iff_getElem.1 k;exact A i a a
 refine oM.loop (fun m st=>∃ j:Nat,st=((j:Nat):Int)/\j+m=edges.length/\∀ (i:Nat) (h:i<edges.length),i<j->edges[i].keys.length<=1000) ?_ ⟨0,rfl,by omega,fun i h a=>by omega⟩ (by omega:edges.length<34359738368)
 rintro m _ ⟨j,rfl,hm,q⟩;unfold mP;rw[show(Edge.rows edges).length=edges.length by simp[Edge.rows]];refine zB.cond (fun k=>?_) fun k=>.one fun _=>⟨y,fun d z=>?_⟩
 ·have r:j<edges.length:=by have:=kod k; omega
  refine zB.bnd (oM.idx (uq r) (P:=fun x=>x=edges[j]) rfl) fun x u=>?_
  obtain⟨f,c,g,o,s,H⟩:=x
  dsimp only
  rw[zP];refine zB.cond (fun _=>.one fun h=>by cases h) fun l=>?_
  rw[vm (by omega)];have a1:=of_decide_eq_false l;refine .next ⟨m - 1,by omega,j+1,rfl,by omega,fun i a v=>?_⟩;by_cases e:i<j
  ·exact q i a e
  obtain rfl:i=j:=by omega
  rw[← u]; show s.length<=1000; omega
 have C:j=edges.length:=by have:=of_decide_eq_false k; omega
 obtain⟨i,a,rfl⟩:=List.mem_iff_getElem.1 z;exact q i a (by omega)
theorem NW {names:List (List UInt8)} {vals:List Val} (g:uT vals<=1048576):oM 34359738368 (fun n=>bW n ⟨names,vals⟩) (fun b=>b=true->names.length=vals.length/\∀ v∈vals,VF v):=by
 have l:=vY vals;unfold bW
 dsimp only
 refine oM.loop (fun m st=>∃ j:Nat,st=((j:Nat):Int)/\j+m=vals.length/\∀ (i:Nat) (h:i<vals.length),i<j->VF vals[i]) ?_ ⟨0,rfl,by omega,fun i h a=>by omega⟩ (by omega:vals.length<34359738368)
 rintro m _ ⟨j,rfl,hm,k⟩;unfold dp;rw[zw,zP];refine zB.cond (fun c=>?_) fun c=>.one fun he=>?_
 ·have d:j<vals.length:=by have:=kod c; omega
  have o:=cf (List.getElem_mem d);refine zB.bnd (oM.idx (uq d) (P:=fun x=>x=vals[j]) rfl) fun x p=>?_
  obtain⟨s,t,u,w,y,z⟩:=x
  dsimp only
  rw[p];refine zB.bnd (DY (by omega)) fun b q=>zB.cond (fun _=>.one fun h=>by cases h) fun f=>?_
  rw[vm (by omega)];refine .next ⟨m - 1,by omega,j+1,rfl,by omega,fun i a r=>?_⟩;by_cases e:i<j
  ·exact k i a e
  obtain rfl:i=j:=by omega
  refine lI (by omega) ?_;rw[← q]; simpa using f
 have d:j=vals.length:=by have:=of_decide_eq_false c; omega
 have:=eq_of_beq he;refine⟨by omega,fun v g=>?_⟩;obtain⟨i,a,rfl⟩:=List.mem_iff_getElem.1 g;exact k i a (by omega)
theorem Ea {v:Val} (c:tP v<=1048576):oM 34359738368 (fun n=>fi n v) (fun b=>b=true->VF v/\kd v=5):=by
 have d:=DY c;have e:=BG c;have f:=lI c;obtain⟨k,b,i,s,l,ks⟩:=v;unfold fi
 dsimp only
 refine oM.bnd (oM.gs fun _=>d) fun x g=>oM.bnd (P:=fun _=>True) ((oM.gs fun _=>e).imp fun _ _=>trivial) fun y _=>.one fun he=>?_
 cases a:k==5 with
 | false=>rw[a]at he; cases he
 | true=>
  rw[a]at he;cases x with
  | false=>cases he
  | true=>exact⟨f (g a).symm,eq_of_beq a⟩
end W
end
section
open Go Ax Go.Proofs
namespace W
theorem FM (l:List Node):(Node.rows l).length=l.length:=by simp[Node.rows]
theorem sH (l:List Edge):(Edge.rows l).length=l.length:=by simp[Edge.rows]
theorem sG {p:Prop} [Decidable p] (h:p):decide p=true:=kdt h
theorem fM {A:Type} {l:List A} {j:Nat} (h:¬ j<l.length):l.take j=l:=List.take_of_length_le (by omega)
theorem XL {ks:List (List UInt8)} {vs:List Val} (d:ks.length<=1048576) (c:uT vs<=1048576):oM 34359738368 (fun n=>uJ n ks vs) (fun r=>r=(ks,vs)):=by
 have f:=vY vs;unfold uJ;refine oM.chk (sG (by rw[zP]; omega)) ?_;refine oM.loop (fun m st=>∃ j:Nat,st=(vs.take j,((j:Nat):Int))/\j+m=vs.length) ?_ ⟨0,rfl,by omega⟩ (by omega:vs.length<34359738368);rintro m _ ⟨j,rfl,hm⟩;unfold gR
 dsimp only
 rw[zw];refine zB.cond (fun a=>?_) fun a=>.one ?_
 ·have b:j<vs.length:=by have:=kod a; omega
  have g:=cf (List.getElem_mem b);refine zB.bnd (oM.idx (uq b) (P:=fun x=>x=vs[j]) rfl) fun x e=>?_
  obtain⟨h,i,k,l,o,p⟩:=x
  dsimp only
  rw[e];refine zB.bnd (P:=fun r=>r=vs[j]) (.of (fun n d c=>Tw n c _ (by omega)) rfl) fun z hz=>?_
  obtain⟨q,z2,z3,z4,z5,s⟩:=z
  dsimp only
  rw[hz,← xM b];refine zB.chk (sG (by rw[zw,jt]; omega)) ?_;rw[vm (by omega)];exact .next ⟨m - 1,by omega,j+1,rfl,by omega⟩
 rw[fM (by have:=of_decide_eq_false a; omega)]
theorem Nj (d:Node):d.labels.length<=mX d/\d.keys.length<=mX d/\uT d.vals<mX d:=Rp (n:=0) (by omega) d
theorem MR (d:Edge):d.type_.length<=mA d/\d.keys.length<=mA d/\uT d.vals<mA d:=Rk (n:=0) (by omega) d
theorem NH {d:Node} (h:mX d<=1048576):oM 34359738368 (fun n=>xF n d) (fun r=>r=d):=.of (fun n b a=>LQ a (by omega)) rfl
theorem Bq {d:Edge} (h:mA d<=1048576):oM 34359738368 (fun n=>xD n d) (fun r=>r=d):=.of (fun n b a=>LP a (by omega)) rfl
theorem HT {d:Node} (h:mX d<=1048576):oM 34359738368 (fun n=>gG n d) (fun r=>r=d):=by
 obtain⟨a,a2,a3⟩:=Nj d;obtain⟨i,l,ks,vs⟩:=d;simp only at a a2 a3;unfold gG
 dsimp only
 refine oM.chk (sG (by rw[zP]; omega)) (oM.bnd (XL (ks:=ks) (vs:=vs) (by omega) (by omega)) fun r b=>.one ?_);subst b; rfl
theorem FR {d:Edge} (h:mA d<=1048576):oM 34359738368 (fun n=>uw n d) (fun r=>r=d):=by
 obtain⟨c,a2,a3⟩:=MR d;obtain⟨i,a,b,t,ks,vs⟩:=d;simp only at c a2 a3;unfold uw
 dsimp only
 refine oM.bnd (XL (ks:=ks) (vs:=vs) (by omega) (by omega)) fun r e=>.one ?_;subst e; rfl
theorem Pu {nodes:List Node} {edges:List Edge} (e:Xo ⟨nodes,edges⟩<=1048576):nodes.length<=1048576/\edges.length<=1048576/\(∀ d∈nodes,mX d<=1048576)/\∀ d∈edges,mA d<=1048576:=by
 obtain⟨b,c⟩:=ah (g:=⟨nodes,edges⟩);simp only at b c;exact⟨by omega,by omega,fun d a=>by have:=MY (g:=⟨nodes,edges⟩) a; omega,fun d a=>by have:=Hn (g:=⟨nodes,edges⟩) a; omega⟩
theorem Fy {g:Graph} (i:Xo g<=1048576):oM 34359738368 (fun n=>xV n g) (fun r=>r=g):=by
 obtain⟨nodes,edges⟩:=g;obtain⟨l,a2,a3,a4⟩:=Pu i;unfold xV
 dsimp only
 refine oM.loop (fun m st=>∃ j:Nat,st=(((j:Nat):Int),nodes.take j)/\j+m=nodes.length) ?_ ⟨0,rfl,by omega⟩ (by omega:nodes.length<34359738368);rintro m _ ⟨j,rfl,hm⟩;unfold uL
 dsimp only
 rw[FM];refine zB.cond (fun d=>?_) fun d=>.tot ?_
 ·have e:j<nodes.length:=by have:=kod d; omega
  refine zB.bnd (oM.idx (uq e) (P:=fun x=>x=nodes[j]) rfl) fun x h=>?_
  obtain⟨a,b,c,f⟩:=x
  dsimp only
  rw[h];refine zB.bnd (NH (a3 _ (List.getElem_mem e))) fun z hz=>?_;obtain⟨k,z2,z3,z4⟩:=z
  dsimp only
  rw[hz,← xM e];refine zB.chk (sG (by rw[FM,jt]; omega)) ?_;rw[vm (by omega)];exact .next ⟨m - 1,by omega,j+1,rfl,by omega⟩
 rw[fM (by have:=of_decide_eq_false d; omega)];refine oM.loop (fun m st=>∃ j:Nat,st=(((j:Nat):Int),edges.take j)/\j+m=edges.length) ?_ ⟨0,rfl,by omega⟩ (by omega:edges.length<34359738368);rintro m _ ⟨j,rfl,hm⟩;unfold uM
 dsimp only
 rw[sH];refine zB.cond (fun d=>?_) fun d=>.one ?_
 ·have e:j<edges.length:=by have:=kod d; omega
  refine zB.bnd (oM.idx (uq e) (P:=fun x=>x=edges[j]) rfl) fun x h=>?_
  obtain⟨a,b,c,f,o,p⟩:=x
  dsimp only
  rw[h];refine zB.bnd (Bq (a4 _ (List.getElem_mem e))) fun z hz=>?_;obtain⟨k,z2,z3,z4,z5,q⟩:=z
  dsimp only
  rw[hz,← xM e];refine zB.chk (sG (by rw[sH,jt]; omega)) ?_;rw[vm (by omega)];exact .next ⟨m - 1,by omega,j+1,rfl,by omega⟩
 rw[fM (by have:=of_decide_eq_false d; omega)]
theorem FQ {g:Graph} (i:Xo g<=1048576):oM 34359738368 (fun n=>dT n g) (fun r=>r=g):=by
 obtain⟨nodes,edges⟩:=g;obtain⟨l,a2,a3,a4⟩:=Pu i;unfold dT
 dsimp only
 refine oM.loop (fun m st=>∃ j:Nat,st=(((j:Nat):Int),nodes.take j)/\j+m=nodes.length) ?_ ⟨0,rfl,by omega⟩ (by omega:nodes.length<34359738368);rintro m _ ⟨j,rfl,hm⟩;unfold mL
 dsimp only
 rw[FM];refine zB.cond (fun d=>?_) fun d=>.tot ?_
 ·have e:j<nodes.length:=by have:=kod d; omega
  refine zB.bnd (oM.idx (uq e) (P:=fun x=>x=nodes[j]) rfl) fun x h=>?_
  obtain⟨a,b,c,f⟩:=x
  dsimp only
  rw[h];refine zB.bnd (HT (a3 _ (List.getElem_mem e))) fun z hz=>?_;obtain⟨k,z2,z3,z4⟩:=z
  dsimp only
  rw[hz,← xM e];refine zB.chk (sG (by rw[FM,jt]; omega)) ?_;rw[vm (by omega)];exact .next ⟨m - 1,by omega,j+1,rfl,by omega⟩
 rw[fM (by have:=of_decide_eq_false d; omega)];refine oM.loop (fun m st=>∃ j:Nat,st=(((j:Nat):Int),edges.take j)/\j+m=edges.length) ?_ ⟨0,rfl,by omega⟩ (by omega:edges.length<34359738368);rintro m _ ⟨j,rfl,hm⟩;unfold mM
 dsimp only
 rw[sH];refine zB.cond (fun d=>?_) fun d=>.one ?_
 ·have e:j<edges.length:=by have:=kod d; omega
  refine zB.bnd (oM.idx (uq e) (P:=fun x=>x=edges[j]) rfl) fun x h=>?_
  obtain⟨a,b,c,f,o,p⟩:=x
  dsimp only
  rw[h];refine zB.bnd (FR (a4 _ (List.getElem_mem e))) fun z hz=>?_;obtain⟨k,z2,z3,z4,z5,q⟩:=z
  dsimp only
  rw[hz,← xM e];refine zB.chk (sG (by rw[sH,jt]; omega)) ?_;rw[vm (by omega)];exact .next ⟨m - 1,by omega,j+1,rfl,by omega⟩
 rw[fM (by have:=of_decide_eq_false d; omega)]
def oQ (id:Int) (e:Edge):Bool:=e.from_==id||e.to==id
def oP (g:Graph) (id:Int):List Edge:=g.edges.filter (oQ id)
theorem tD {A:Type} (p:A->Bool) {l:List A} {j:Nat} (h:j<l.length):(l.take (j+1)).filter p=(l.take j).filter p++(if p l[j]then[l[j]]else[]):=by
 rw[xM h,List.filter_append];congr 1;by_cases hp:p l[j]=true<;>simp[hp]
theorem Zd {A:Type} (p:A->Bool) (l:List A) (j:Nat):((l.take j).filter p).length<=l.length:=by
 have a:=List.length_filter_le p (l.take j);have b:=List.length_take_le' j l;omega
theorem Fx {g:Graph} (p:Xo g<=1048576) (id:Int):oM 34359738368 (fun n=>ux n g id 2 []) (fun r=>r=oP g id):=by
 obtain⟨nodes,edges⟩:=g;obtain⟨q,a2,a3,a4⟩:=Pu p;unfold ux
 dsimp only
 refine oM.loop (fun m st=>∃ j:Nat,st=((edges.take j).filter (oQ id),((j:Nat):Int))/\j+m=edges.length) ?_ ⟨0,rfl,by omega⟩ (by omega:edges.length<34359738368);rintro m _ ⟨j,rfl,hm⟩;unfold fI
 dsimp only
 rw[sH];refine zB.cond (fun e=>?_) fun e=>.one ?_
 ·have h:j<edges.length:=by have:=kod e; omega
  have d:=tD (oQ id) h;have s:=Zd (oQ id) edges (j+1);refine zB.bnd (oM.idx (uq h) (P:=fun x=>x=edges[j]) rfl) fun x l=>?_
  rw[← l]at d;obtain⟨f,a,b,c,i,k⟩:=x
  dsimp only
  have e1:(bif(bif(bif((2:Int) != (1:Int))then(a==id)else false)then true else(bif((2:Int) != (0:Int))then(b==id)else false))then(bif(([]:List UInt8)==([]:List UInt8))then true else(c==([]:List UInt8)))else false)=oQ id ⟨f,a,b,c,i,k⟩:=by
   show(bif(bif(a==id)then true else(b==id))then true else false)=(a==id||b==id);cases(a==id)<;>cases(b==id)<;>rfl
  rw[e1];refine zB.cond (fun o=>?_) fun o=>?_
  ·rw[l]
   refine zB.bnd (Bq (a4 _ (List.getElem_mem h))) fun z hz=>?_;rw[o,if_pos rfl,l]at d;obtain⟨t,z2,z3,z4,z5,u⟩:=z
   dsimp only
   rw[hz,← d];refine zB.chk (sG (by rw[sH]; omega)) ?_;unfold vR;rw[vm (by omega)];exact .next ⟨m - 1,by omega,j+1,rfl,by omega⟩
  rw[o,if_neg (by simp),List.append_nil]at d;rw[← d];unfold vR;rw[vm (by omega)];exact .next ⟨m - 1,by omega,j+1,rfl,by omega⟩
 rw[fM (by have:=of_decide_eq_false e; omega)]; rfl
theorem FP {g:Graph} (p:Xo g<=1048576) (id:Int):oM 34359738368 (fun n=>cL n g id 2 []) (fun r=>r=oP g id):=by
 obtain⟨nodes,edges⟩:=g;obtain⟨q,a2,a3,a4⟩:=Pu p;unfold cL
 dsimp only
 refine oM.loop (fun m st=>∃ j:Nat,st=((edges.take j).filter (oQ id),((j:Nat):Int))/\j+m=edges.length) ?_ ⟨0,rfl,by omega⟩ (by omega:edges.length<34359738368);rintro m _ ⟨j,rfl,hm⟩;unfold dg
 dsimp only
 rw[sH];refine zB.cond (fun e=>?_) fun e=>.one ?_
 ·have h:j<edges.length:=by have:=kod e; omega
  have d:=tD (oQ id) h;have s:=Zd (oQ id) edges (j+1);refine zB.bnd (oM.idx (uq h) (P:=fun x=>x=edges[j]) rfl) fun x l=>?_
  rw[← l]at d;obtain⟨f,a,b,c,i,k⟩:=x
  dsimp only
  have e1:(bif(bif(bif(a==id)then true else(b==id))then(bif(([]:List UInt8)==([]:List UInt8))then true else(([]:List UInt8)==c))else false)then true else false)=oQ id ⟨f,a,b,c,i,k⟩:=by
   show(bif(bif(bif(a==id)then true else(b==id))then true else false)then true else false)=(a==id||b==id);cases(a==id)<;>cases(b==id)<;>rfl
  unfold gv gw;rw[show((2:Int)==(0:Int))=false from rfl,show((2:Int)==(1:Int))=false from rfl];simp only[zC];refine zB.cond (fun o=>?_) fun o=>?_
  ·rw[o]at e1
   rw[l];refine zB.bnd (FR (a4 _ (List.getElem_mem h))) fun z hz=>?_;rw[← e1,xA,if_pos rfl,l]at d;obtain⟨t,z2,z3,z4,z5,u⟩:=z
   dsimp only
   rw[hz,← d];refine zB.chk (sG (by rw[sH]; omega)) ?_;unfold ud;rw[vm (by omega)];exact .next ⟨m - 1,by omega,j+1,rfl,by omega⟩
  rw[o]at e1;rw[← e1,zC,if_neg (by simp),List.append_nil]at d;rw[← d];unfold ud;rw[vm (by omega)];exact .next ⟨m - 1,by omega,j+1,rfl,by omega⟩
 rw[fM (by have:=of_decide_eq_false e; omega)]; rfl
end W
end
section
open Go Ax Go.Proofs
namespace W
def offE (g:Graph) (id:Int):Graph:=⟨g.nodes,g.edges.filter fun e=>e.id != id⟩
def Lm (g:Graph) (id:Int):Graph×Int:=if(uB Edge.id g.edges id).isSome then(offE g id,0)else(⟨[],[]⟩,23)
def eC (g:Graph) (id:Int):Graph:=⟨g.nodes.filter fun e=>e.id != id,g.edges⟩
def cU (g:Graph) (id:Int):Graph×Int:=if(uB Node.id g.nodes id).isSome then(if oP g id=[]then(eC g id,0)else(⟨[],[]⟩,5))else(⟨[],[]⟩,23)
theorem Hj {A:Type} {key:A->Int} {l:List A} (hu:oN key l) {i:Nat} {d:A} (b:l[i]? =some d) {id:Int} (g:key d=id):l.take i++l.drop (i+1)=l.filter fun x=>key x != id:=by
 obtain⟨h,k⟩:=jG.1 b;have e:l=l.take i++d::l.drop (i+1):=by
  rw[← k,← jn h,List.take_append_drop]
 have c:∀ x∈l.take i,(key x != id)=true:=fun x f=>by
  obtain⟨j,a⟩:=List.getElem?_of_mem f;rw[List.getElem?_take]at a;split at a
  ·have:=hu.lt (by assumption) a b
   simp; omega
  cases a
 have hgt:∀ x∈l.drop (i+1),(key x != id)=true:=fun x f=>by
  obtain⟨j,a⟩:=List.getElem?_of_mem f;rw[List.getElem?_drop]at a;have:=hu.lt (by omega:i<i+1+j) b a;simp; omega
 conv=>rhs; rw[e];rw[List.filter_append,List.filter_cons,List.filter_eq_self.2 c,List.filter_eq_self.2 hgt,if_neg (by simp[g])]
structure sO (g:Graph):Prop where
 upN:oN Node.id g.nodes
 upE:oN Edge.id g.edges
 big:Xo g<=1048576
 ends:∀ e∈g.edges,(uB Node.id g.nodes e.from_).isSome=true/\(uB Node.id g.nodes e.to).isSome=true
theorem St {A:Type} (f:A->Nat) {a b:List A} (h:a.Sublist b):(a.map f).sum<=(b.map f).sum:=by
 induction h with
 | slnil=>exact jw _
 | cons x _ ih=>simp only[jk,jA]; omega
 | cons_cons x _ ih=>simp only[jk,jA]; omega
theorem MX {g h:Graph} (a:h.nodes.Sublist g.nodes) (b:h.edges.Sublist g.edges):Xo h<=Xo g:=by
 have:=St mX a;have:=St mA b;unfold Xo; omega
theorem sO.sub {g h:Graph} (a:sO g) (b:h.nodes.Sublist g.nodes) (c:h.edges.Sublist g.edges) (d:∀ e∈h.edges,(uB Node.id h.nodes e.from_).isSome=true/\(uB Node.id h.nodes e.to).isSome=true):sO h:=
 ⟨List.Pairwise.sublist b a.upN,List.Pairwise.sublist c a.upE,Nat.le_trans (MX b c) a.big,d⟩
theorem sO.offE {g:Graph} (a:sO g) (id:Int):sO (offE g id):=by
 obtain⟨nodes,edges⟩:=g;exact a.sub (List.Sublist.refl _) List.filter_sublist fun e he=>a.ends e (List.mem_filter.1 he).1
theorem Gf:sO ⟨[],[]⟩:=⟨.nil,.nil,jR _,fun e h=>by cases h⟩
theorem sO.cut {g:Graph} (a:sO g) (id:Int):sO (Lm g id).1:=by
 unfold Lm;split
 ·exact a.offE id
 exact Gf
theorem FY {l:List Node} {id x:Int} (h:(uB Node.id l x).isSome=true) (a:x≠id):(uB Node.id (l.filter fun e=>e.id != id) x).isSome=true:=by
 unfold uB at *;rw[List.find?_isSome]at *;obtain⟨d,b,he⟩:=h;exact⟨d,List.mem_filter.2 ⟨b,by have:=eq_of_beq he; simp[this,a]⟩,he⟩
theorem sO.drop {g:Graph} (a:sO g) {id:Int} (h:(cU g id).2=0):sO (cU g id).1:=by
 unfold cU at *;split
 ·split
  ·rename_i c
   obtain⟨nodes,edges⟩:=g;refine a.sub List.filter_sublist (List.Sublist.refl _) fun e he=>?_;have d:oQ id e=false:=by
    cases f:oQ id e with
    | false=>rfl
    | true=>
     have:e∈oP ⟨nodes,edges⟩ id:=List.mem_filter.2 ⟨he,f⟩;rw[c]at this; cases this
   have b:e.from_≠id/\e.to≠id:=by simpa[oQ]using d
   exact⟨FY (a.ends e he).1 b.1,FY (a.ends e he).2 b.2⟩
  exact Gf
 exact Gf
theorem eG {n:Nat} (v:n<=1099511627776) {l:List Edge} (hu:oN Edge.id l) (p:l.length<n) (id:Int) :
  ∃ i:Nat,za n l id=some ((i:Int),(uB Edge.id l id).isSome)/\∀ d,uB Edge.id l id=some d->l[i]? =some d:=by
 have c1:∀ d:Edge,zS n d id ()=some (if d.id<id then -1 else if id<d.id then 1 else 0):=fun d=>by
  obtain⟨i,a,b,c,e,f⟩:=d;simp only[zS,bH,cH,Bp]
 obtain⟨q,r,s⟩:=lZ hu (id:=id) (B:=qj n l id)
  (fun i j x t m w k=>by
   have o:=c1 x;obtain⟨u,a,b,c,e,f⟩:=x;simp only[qj,nP m,xA,eY (show i+j<=1152921504606846976 by omega),uy k,cH,o,TU];rw[vm (by omega)])
  (fun i t y=>by
   simp only[qj,ft,zC,sH];by_cases h:i=l.length
   ·subst h
    rw[ft,List.getElem?_eq_none (jw _)];rfl
   have g:i<l.length:=by omega
   obtain⟨x,k⟩:∃ x,l[i]? =some x:=⟨_,jf g⟩;have o:=c1 x;rw[k];obtain⟨u,a,b,c,e,f⟩:=x;simp only[nP g,nS,uy k,cH,o,TT,xA])
  p
 refine⟨q,?_,s⟩;unfold za qz;simp only[sH];rw[r,xO]
theorem eH {n:Nat} (t:n<=1099511627776) {l:List Node} (hu:oN Node.id l) (m:l.length<n) (id:Int) :
  ∃ i:Nat,qK n l id=some ((i:Int),(uB Node.id l id).isSome)/\∀ d,uB Node.id l id=some d->l[i]? =some d:=by
 have c1:∀ d:Node,zT n d id ()=some (if d.id<id then -1 else if id<d.id then 1 else 0):=fun d=>by
  obtain⟨i,a,b,c⟩:=d;simp only[zT,bJ,cH,Bp]
 obtain⟨q,o,p⟩:=lZ hu (id:=id) (B:=qm n l id)
  (fun i j x r g u f=>by
   have k:=c1 x;obtain⟨s,a,b,c⟩:=x;simp only[qm,nP g,xA,eY (show i+j<=1152921504606846976 by omega),uy f,cH,k,TU];rw[vm (by omega)])
  (fun i r v=>by
   simp only[qm,ft,zC,FM];by_cases h:i=l.length
   ·subst h
    rw[ft,List.getElem?_eq_none (jw _)];rfl
   have e:i<l.length:=by omega
   obtain⟨x,f⟩:∃ x,l[i]? =some x:=⟨_,jf e⟩;have k:=c1 x;rw[f];obtain⟨s,a,b,c⟩:=x;simp only[nP e,nS,uy f,cH,k,TT,xA])
  m
 refine⟨q,?_,p⟩;unfold qK qA;simp only[FM];rw[o,xO]
theorem oM.at{R:Type} {N n:Nat} {F:Nat->Option R} {r:R} (h:oM N F (fun x=>x=r)) (a:N<=n) (b:n<=1099511627776):F n=some r:=by
 obtain⟨x,rfl,c⟩:=h;exact c n a b
theorem MW {g:Graph} (b:sO g) (id:Int):oM 34359738368 (fun n=>gh n g id) (fun r=>r=Lm g id):=by
 obtain⟨nodes,edges⟩:=g;obtain⟨m,a2,a3,a4⟩:=Pu b.big;refine .of (fun n h c=>?_) rfl;obtain⟨i,f1,f2⟩:=eG c (l:=edges) b.upE (by omega) id;unfold gh Lm;simp only at f1 f2 ⊢;rw[f1,xO];cases e:uB Edge.id edges id with
 | none=>simp only[Option.isSome_none,jo,xA]; rfl
 | some d=>
  have f:=f2 d e;have j:=(jG.1 f).1;have k:=Hj (l:=edges) b.upE f (Gj e).2;have a:=(Fy (g:=W.offE ⟨nodes,edges⟩ id) (b.offE id).big).at h c;simp only[Option.isSome_some,jp,zC,if_true];rw[natI_nat,xO,xO,sH,dE ⟨rfl,by omega⟩,vm (by omega),natI_nat,xO,dE (by omega),k,dE (by have:=List.length_filter_le (fun x:Edge=>x.id != id) edges; rw[sH]; omega)]
  unfold W.offE at a ⊢;rw[a,xO]
theorem Rj {g:Graph} (a:sO g) (id:Int):oM 34359738368 (fun n=>uW n g id) (fun r=>r=cU g id):=by
 obtain⟨nodes,edges⟩:=g;obtain⟨p,a2,a3,a4⟩:=Pu a.big;refine .of (fun n h e=>?_) rfl;obtain⟨i,f1,f2⟩:=eH e (l:=nodes) a.upN (by omega) id;have f:=(Fx a.big id).at h e;unfold uW cU;simp only at f1 f2 ⊢;rw[f1,xO];cases j:uB Node.id nodes id with
 | none=>simp only[Option.isSome_none,jo,xA]; rfl
 | some d=>
  have k:=f2 d j;have m:=(jG.1 k).1;have o:=Hj (l:=nodes) a.upN k (Gj j).2;simp only[Option.isSome_some,jp,zC,if_true];rw[f,xO,sH];by_cases c:oP ⟨nodes,edges⟩ id=[]
  ·have b:=(Fy (g:=eC ⟨nodes,edges⟩ id) (Nat.le_trans (MX List.filter_sublist (List.Sublist.refl _)) a.big)).at h e
   rw[if_pos c,c];simp only[List.length_nil];rw[show decide ((((0:Nat):Nat):Int)>0)=false from rfl,zC,natI_nat,xO,xO,FM,dE ⟨rfl,by omega⟩,vm (by omega),natI_nat,xO,dE (by omega),o,dE (by have:=List.length_filter_le (fun x:Node=>x.id != id) nodes; rw[FM]; omega)]
   unfold eC at b ⊢;rw[b,xO]
  rw[if_neg c,kdt (by have:=List.length_pos_iff.2 c; omega),xA]
theorem Nq {g:Graph} (l:sO g) (id:Int):oM 34359738368 (fun n=>so n g id) (fun r=>r=Lm g id):=by
 obtain⟨nodes,edges⟩:=g;obtain⟨p,a2,a3,a4⟩:=Pu l.big;unfold so Lm
 dsimp only
 refine oM.bnd (LR a2 nodes id) fun r o=>oM.cond (fun a=>.one ?_) fun a=>oM.bnd (FQ l.big) fun x d=>?_
 ·rcases o with ⟨h,_⟩|⟨_,h⟩
  ·rw[h]; rfl
  have:=kod a; omega
 subst d;have b:(uB Edge.id edges id).isSome=true:=by
  rcases o with ⟨_,h⟩|⟨h,_⟩
  ·subst h; cases a
  exact h
 rw[if_pos b]
 dsimp only
 refine oM.loop (fun m st=>∃ j:Nat,st=(((j:Nat):Int),(edges.take j).filter fun e=>e.id != id)/\j+m=edges.length) ?_ ⟨0,rfl,by omega⟩ (by omega:edges.length<34359738368)
 rintro m _ ⟨j,rfl,hm⟩;unfold ph
 dsimp only
 rw[sH];refine zB.cond (fun a=>?_) fun a=>.one ?_
 ·have f:j<edges.length:=by have:=kod a; omega
  have c:=tD (fun e:Edge=>e.id != id) f
  have q:=Zd (fun e:Edge=>e.id != id) edges (j+1)
  refine zB.bnd (oM.idx (uq f) (P:=fun x=>x=edges[j]) rfl) fun x d=>?_
  rw[← d]at c;obtain⟨s,t,u,v,w,y⟩:=x
  dsimp only at c ⊢
  refine zB.cond (fun i=>?_) fun i=>?_
  ·rw[i,if_pos rfl]at c
   refine zB.bnd (oM.idx (uq f) (P:=fun x=>x=edges[j]) rfl) fun x k=>?_
   obtain⟨A,w2,B,C,D,E⟩:=x
   dsimp only
   rw[k];refine zB.bnd (FR (a4 _ (List.getElem_mem f))) fun z hz=>?_;obtain⟨F,z2,z3,z4,z5,G⟩:=z
   dsimp only
   rw[d,← hz]at c;rw[← c];refine zB.chk (sG (by rw[sH]; omega)) ?_;unfold cM;rw[vm (by omega)];exact .next ⟨m - 1,by omega,j+1,rfl,by omega⟩
  rw[i,if_neg (by simp),List.append_nil]at c;rw[← c];unfold cM;rw[vm (by omega)];exact .next ⟨m - 1,by omega,j+1,rfl,by omega⟩
 rw[fM (by have:=of_decide_eq_false a; omega)]; rfl
theorem Sj {g:Graph} (i:sO g) (id:Int):oM 34359738368 (fun n=>sq n g id) (fun r=>r=cU g id):=by
 obtain⟨nodes,edges⟩:=g;obtain⟨p,a2,a3,a4⟩:=Pu i.big;unfold sq cU
 dsimp only
 refine oM.bnd (tJ p edges id) fun r o=>oM.cond (fun a=>.one ?_) fun a=>oM.bnd (FP i.big id) fun x d=>?_
 ·rcases o with ⟨h,_⟩|⟨_,h⟩
  ·rw[h]; rfl
  have:=kod a; omega
 subst d;have b:(uB Node.id nodes id).isSome=true:=by
  rcases o with ⟨_,h⟩|⟨h,_⟩
  ·subst h; cases a
  exact h
 rw[if_pos b,sH];refine oM.cond (fun a=>.one ?_) fun a=>oM.bnd (FQ i.big) fun x d=>?_
 ·rw[if_neg]
  intro h;rw[h]at a;cases a
 ·subst d
  rw[if_pos (List.length_eq_zero_iff.1 (by have:=of_decide_eq_false a; omega))]
  dsimp only
  refine oM.loop (fun m st=>∃ j:Nat,st=(((j:Nat):Int),(nodes.take j).filter fun e=>e.id != id)/\j+m=nodes.length) ?_ ⟨0,rfl,by omega⟩ (by omega:nodes.length<34359738368)
  rintro m _ ⟨j,rfl,hm⟩;unfold mN
  dsimp only
  rw[FM];refine zB.cond (fun a=>?_) fun a=>.one ?_
  ·have f:j<nodes.length:=by have:=kod a; omega
   have c:=tD (fun e:Node=>e.id != id) f
   have q:=Zd (fun e:Node=>e.id != id) nodes (j+1)
   refine zB.bnd (oM.idx (uq f) (P:=fun x=>x=nodes[j]) rfl) fun x d=>?_
   rw[← d]at c;obtain⟨s,t,u,v⟩:=x
   dsimp only at c ⊢
   refine zB.cond (fun k=>?_) fun k=>?_
   ·rw[k,if_pos rfl]at c
    refine zB.bnd (oM.idx (uq f) (P:=fun x=>x=nodes[j]) rfl) fun x l=>?_
    obtain⟨w,w2,y,A⟩:=x
    dsimp only
    rw[l];refine zB.bnd (HT (a3 _ (List.getElem_mem f))) fun z hz=>?_;obtain⟨B,z2,z3,z4⟩:=z
    dsimp only
    rw[d,← hz]at c;rw[← c];refine zB.chk (sG (by rw[FM]; omega)) ?_;unfold fF;rw[vm (by omega)];exact .next ⟨m - 1,by omega,j+1,rfl,by omega⟩
   rw[k,if_neg (by simp),List.append_nil]at c;rw[← c];unfold fF;rw[vm (by omega)];exact .next ⟨m - 1,by omega,j+1,rfl,by omega⟩
  rw[fM (by have:=of_decide_eq_false a; omega)]; rfl
end W
end
section
open Go Ax Go.Proofs
namespace W
theorem zB.loop {R S T:Type} {N:Nat} {Q:R->Prop} {j:S->Prop} {B:Nat->(S->Option R)->(T->Option R)->T->Option R} (I:Nat->T->Prop)
  (h:∀ m t,I m t->zB N (fun n (a:T ⊕ S->Option R)=>B n (fun s=>a (.inr s)) (fun t=>a (.inl t)) t) (fun o=>match o with|.inl t'=>∃ f,f<m/\I f t'|.inr s=>j s) Q) {m0:Nat} {t0:T} (u:I m0 t0) (w:m0<N) :
  zB N (fun n a=>qC (B n a) n t0) j Q:=by
 have key:∀ (M m:Nat),m<=M->∀ t,I m t->(∃ s,j s/\∀ n a k,N<=n->n<=1099511627776->m<k->qC (B n a) k t=a s)\/∃ r,Q r/\∀ n a k,N<=n->n<=1099511627776->m<k->qC (B n a) k t=some r:=by
  intro M
  induction M with
  | zero=>
   intro m hm t l;rcases h m t l with ⟨o,g,d⟩|⟨r,qr,d⟩
   ·cases o with
    | inl t'=>obtain⟨f,p,_⟩:=g; omega
    | inr s=>
     refine .inl ⟨s,g,fun n a k b c i=>?_⟩;obtain⟨k,rfl⟩:=jj (by omega:k≠0);exact d n (Sum.elim (qC (B n a) k) a) b c
   refine .inr ⟨r,qr,fun n a k b c i=>?_⟩;obtain⟨k,rfl⟩:=jj (by omega:k≠0);exact d n (Sum.elim (qC (B n a) k) a) b c
  | succ M ih=>
   intro m hm t l;rcases h m t l with ⟨o,g,d⟩|⟨r,qr,d⟩
   ·cases o with
    | inl t'=>
     obtain⟨f,p,v⟩:=g;rcases ih f (by omega) t' v with ⟨s,q,e⟩|⟨r,qr,e⟩
     ·refine .inl ⟨s,q,fun n a k b c i=>?_⟩
      obtain⟨k,rfl⟩:=jj (by omega:k≠0);exact(d n (Sum.elim (qC (B n a) k) a) b c).trans (e n a k b c (by omega))
     refine .inr ⟨r,qr,fun n a k b c i=>?_⟩;obtain⟨k,rfl⟩:=jj (by omega:k≠0);exact(d n (Sum.elim (qC (B n a) k) a) b c).trans (e n a k b c (by omega))
    | inr s=>
     refine .inl ⟨s,g,fun n a k b c i=>?_⟩;obtain⟨k,rfl⟩:=jj (by omega:k≠0);exact d n (Sum.elim (qC (B n a) k) a) b c
   refine .inr ⟨r,qr,fun n a k b c i=>?_⟩;obtain⟨k,rfl⟩:=jj (by omega:k≠0);exact d n (Sum.elim (qC (B n a) k) a) b c
 rcases key m0 m0 (jw _) t0 u with ⟨s,q,d⟩|⟨r,qr,d⟩
 ·exact .inl ⟨s,q,fun n a b c=>d n a n b c (by omega)⟩
 exact .inr ⟨r,qr,fun n a b c=>d n a n b c (by omega)⟩
def vi:Val->Int
 | .mk _ _ i _ _ _=>i
abbrev lg:Val:=⟨0,false,0,[],[],[]⟩
def Ny (names:List (List UInt8)) (vals:List Val) (x:List UInt8):Val×Bool:=
 if x=[]then(lg,false)else match (names.zip vals).find? (fun p=>p.1==x)with
  | some p=>(p.2,true)
  | none=>(lg,false)
theorem TR {A B:Type} {a:List A} {b:List B} {j:Nat} (c:j<a.length) (d:j<b.length):(a.zip b).take (j+1)=(a.zip b).take j++[(a[j],b[j])]:=by
 rw[xM (by rw[List.length_zip]; omega),List.getElem_zip]
theorem Rv (l:List (List UInt8)) (x:List UInt8) (hl:l.length<=1048576):oM 34359738368 (fun n=>zY n l x) (fun r=>(x ∉ l/\r = -1)\/∃ j:Nat,r=((j:Nat):Int)/\l[j]? =some x/\x ∉ l.take j):=by
 unfold zY;refine oM.loop (fun m st=>∃ j:Nat,st=((j:Nat):Int)/\j+m=l.length/\x ∉ l.take j) ?_ ⟨0,rfl,by omega,by simp⟩ (by omega:l.length<34359738368);rintro m _ ⟨j,rfl,hm,a⟩;unfold xr;rw[zP];refine zB.cond (fun b=>?_) fun b=>.one ?_
 ·have c:j<l.length:=by have:=kod b; omega
  refine zB.bnd (oM.idx (uq c) (P:=fun y=>y=l[j]) rfl) fun y d=>?_
  subst d;refine zB.cond (fun he=>.one ?_) fun he=>?_
  ·exact .inr ⟨j,rfl,by rw[uq c,← eq_of_beq he],a⟩
  rw[vm (by omega)];refine .next ⟨m - 1,by omega,j+1,rfl,by omega,?_⟩;rw[xM c];intro h;rcases jy.1 h with h|h
  ·exact a h
  have:=jz.1 h;subst this;simp at he
 have:l.take j=l:=fM (by have:=of_decide_eq_false b; omega);rw[this]at a;exact .inl ⟨a,rfl⟩
theorem DK {names:List (List UInt8)} {vals:List Val} {x:List UInt8} (h:x ∉ names):(names.zip vals).find? (fun p=>p.1==x)=none:=by
 rw[List.find?_eq_none];rintro⟨a,b⟩ hp he;have:=(List.of_mem_zip hp).1;simp only[beq_iff_eq]at he;subst he;exact h this
theorem Fw:∀ {names:List (List UInt8)} {vals:List Val} {x:List UInt8} {j:Nat} {v:Val},names[j]? =some x->vals[j]? =some v->x ∉ names.take j->(names.zip vals).find? (fun p=>p.1==x)=some (x,v)
 | [],_,_,_,_,h,_,_=>by simp at h
 | a::names,[],_,_,_,_,h,_=>by simp at h
 | a::names,b::vals,x,0,v,h1,h2,_=>by
  simp only[List.getElem?_cons_zero,Option.some.injEq]at h1 h2;subst h1 h2;simp[List.find?]
 | a::names,b::vals,x,j+1,v,h1,h2,h3=>by
  simp only[List.getElem?_cons_succ]at h1 h2;simp only[List.take_succ_cons,jg,not_or]at h3;have ih:=Fw h1 h2 h3.2;have c:(a==x)=false:=by simpa using fun e=>h3.1 e.symm
  simp only[List.zip_cons_cons,List.find?,c,ih]
theorem PK {names:List (List UInt8)} {vals:List Val} (hl:names.length<=1048576) (he:names.length=vals.length) (x:List UInt8) (a:List Node) (b:List Edge) (c d e:Int) (f:Bool) (g:Int) (h:List UInt8) (i:List Val) (j:List (List UInt8)) :
  oM 34359738368 (fun n=>zX n x a b c d names vals e f g h i j) (fun r=>r=Ny names vals x):=by
 unfold zX Ny;refine oM.bnd (Rv names x hl) fun r s=>?_;by_cases o:x=[]
 ·subst o
  rw[if_pos rfl];exact .one rfl
 rw[if_neg o];have p:(x==([]:List UInt8))=false:=by simpa using o
 rw[p,zC];rcases s with ⟨m,rfl⟩|⟨q,rfl,m,t⟩
 ·rw[DK m]
  exact .one rfl
 have v:=(jG.1 m).1;have hv:=uq (l:=vals) (k:=q) (by omega);rw[Fw m hv t,zw,kdf (by omega:¬ ((q:Nat):Int)<0),zC,kdf (by omega:¬ ((q:Nat):Int)≥((vals.length:Nat):Int)),zC];refine oM.bnd (oM.idx hv (P:=fun y=>y=vals[q]) rfl) fun y u=>?_
 obtain⟨w,z,A,B,C,D⟩:=y;refine .one ?_;rw[← u]
theorem Rf {A:Type} {p:A->Bool} {l:List A} {x:A} (h:l.find? p=none) (a:p x=false):(l++[x]).find? p=none:=by
 rw[List.find?_append,h];simp[List.find?,a]
theorem Ty {names:List (List UInt8)} {vals:List Val} (hl:names.length<=1048576) (he:names.length=vals.length) (x:List UInt8):oM 34359738368 (fun n=>Qz n ⟨names,vals⟩ x) (fun r=>r=Ny names vals x):=by
 unfold Qz
 dsimp only
 refine oM.loop (fun m st=>∃ j:Nat,st=((j:Nat):Int)/\j+m=names.length/\(x≠[]->((names.zip vals).take j).find? (fun p=>p.1==x)=none)) ?_ ⟨0,rfl,by omega,fun _=>rfl⟩ (by omega:names.length<34359738368)
 rintro m _ ⟨j,rfl,hm,f⟩;unfold pr;rw[zP,zw,← he];refine zB.cond (fun c=>?_) fun c=>.one ?_
 ·have d:j<names.length:=by
   cases i:decide (((j:Nat):Int)<((names.length:Nat):Int))with
   | true=>have:=kod i; omega
   | false=>rw[i]at c; cases c
  have hz:=TR d (by omega:j<vals.length);refine zB.bnd (oM.idx (uq d) (P:=fun y=>y=names[j]) rfl) fun y g=>?_
  subst g;refine zB.cond (fun a=>?_) fun a=>?_
  ·have h:(names[j]==x)=true/\x≠[]:=by
    cases e:names[j]==x with
    | true=>rw[e,xA]at a; exact⟨rfl,by simpa using a⟩
    | false=>rw[e]at a; cases a
   refine zB.bnd (oM.idx (uq (l:=vals) (by omega:j<vals.length)) (P:=fun y=>y=vals[j]) rfl) fun y g=>?_
   obtain⟨k,o,q,s,t,u⟩:=y;refine .one ?_;unfold Ny;rw[if_neg h.2];have:(names.zip vals).find? (fun p=>p.1==x)=some (names[j],vals[j]):=by
    rw[← List.take_append_drop (j+1) (names.zip vals),hz,List.find?_append,List.find?_append,f h.2];simp[List.find?,h.1]
   rw[this]
   dsimp only
   rw[← g]
  rw[vm (by omega)];refine .next ⟨m - 1,by omega,j+1,rfl,by omega,fun b=>?_⟩;rw[hz];refine Rf (f b) ?_;cases e:names[j]==x with
  | false=>rfl
  | true=>
   rw[e,xA]at a;simp[b]at a
 have d:¬ j<names.length:=fun d=>by
  rw[kdt (by omega:((j:Nat):Int)<((names.length:Nat):Int))]at c;cases c
 unfold Ny;by_cases b:x=[]
 ·rw[if_pos b]
 rw[if_neg b];have:=f b;rw[fM (by rw[List.length_zip]; omega)]at this;rw[this]
def Zy (g:Graph) (l:List Edge):Graph:=l.foldl (fun g e=>(Lm g e.id).1) g
theorem tB:∀ {l:List Edge} {g:Graph},sO g->sO (Zy g l)
 | [],_,h=>h
 | e::l,g,h=>tB (l:=l) (h.cut e.id)
theorem Hc (g:Graph) {l:List Edge} {j:Nat} (h:j<l.length):Zy g (l.take (j+1))=(Lm (Zy g (l.take j)) l[j].id).1:=by
 unfold Zy;rw[xM h,List.foldl_append];rfl
theorem MQ:∀ (l:List Edge) (g:Graph),oN Edge.id l->(∀ e∈l,e∈g.edges)->Zy g l=⟨g.nodes,g.edges.filter fun x=>l.all fun e=>e.id != x.id⟩
 | [],g,_,_=>by
  show g=_;have:g.edges.filter (fun x=>List.all [] fun e:Edge=>e.id != x.id)=g.edges:=List.filter_eq_self.2 fun _ _=>rfl
  rw[this]
 | e::l,g,hu,hm=>by
  have b:(uB Edge.id g.edges e.id).isSome=true:=My (hm e List.mem_cons_self) (kbs e.id);have c:(Lm g e.id).1=offE g e.id:=by unfold Lm; rw[if_pos b]
  show Zy (Lm g e.id).1 l=_;rw[c,MQ l (offE g e.id) (List.pairwise_cons.1 hu).2 fun x a=>?_]
  ·unfold offE
   rw[List.filter_filter];congr 2;funext x;simp only[jv];rw[show(x.id != e.id)=(e.id != x.id)from by unfold bne; rw[BEq.comm],Bool.and_comm]
  refine List.mem_filter.2 ⟨hm x (List.mem_cons_of_mem _ a),?_⟩;have:=(List.pairwise_cons.1 hu).1 x a;simp; omega
theorem NC {g:Graph} (a:sO g) (id:Int):oP (Zy g (oP g id)) id=[]:=by
 rw[MQ (oP g id) g (List.Pairwise.sublist List.filter_sublist a.upE) fun e he=>(List.mem_filter.1 he).1];unfold oP;rw[List.filter_filter,List.filter_eq_nil_iff];intro x b h;rw[ji]at h;have:=List.all_eq_true.1 h.2 x (List.mem_filter.2 ⟨b,h.1⟩);simp at this
def lQ (g:Graph) (id:Int):Graph:=if(Lm g id).2=0 then(Lm g id).1 else g
def Gb (dt:Bool) (g:Graph) (id:Int):Int×Graph:=
 if dt then(0,let h:=Zy g (oP g id); if(cU h id).2=0 then(cU h id).1 else h)
 else if(cU g id).2=0 then(0,(cU g id).1)else if(cU g id).2=5 then(5,g)else(0,g)
def QO (dt:Bool) (g:Graph) (k i:Int):Int×Graph:=if k=7 then(0,lQ g i)else Gb dt g i
theorem Nn {g:Graph} (a:sO g) (id:Int):sO (lQ g id):=by
 unfold lQ;split
 ·exact a.cut id
 exact a
theorem HI {g:Graph} (a:sO g) (dt:Bool) (id:Int):sO (Gb dt g id).2:=by
 unfold Gb;split
 ·dsimp only
  split
  ·rename_i h; exact(tB a).drop h
  exact tB a
 split
 ·rename_i h; exact a.drop h
 split<;>exact a
theorem PX (g:Graph) (id:Int):(cU g id).2=0\/(cU g id).2=5\/(cU g id).2=23:=by
 unfold cU;split
 ·split
  ·exact .inl rfl
  exact .inr (.inl rfl)
 exact .inr (.inr rfl)
theorem MP (g:Graph) (id:Int):(Lm g id).2=0\/(Lm g id).2=23:=by
 unfold Lm;split
 ·exact .inl rfl
 exact .inr rfl
theorem Hh {g:Graph} (c:sO g) (id:Int):oM 34359738368 (fun n=>zV n id (g.nodes,g.edges)) (fun r=>r=if(cU g id).2=0 then(0,(cU g id).1.nodes,(cU g id).1.edges)else if(cU g id).2=5 then(5,g.nodes,g.edges)else(0,g.nodes,g.edges)):=by
 unfold zV
 dsimp only
 refine oM.bnd (Rj c id) fun x b=>?_;obtain⟨⟨d,e⟩,f⟩:=x
 dsimp only
 rw[← b]
 dsimp only
 have a:=PX g id;rw[← b]at a;simp only at a;unfold xy;rcases a with rfl|rfl|rfl
 ·exact .one rfl
 ·exact .one rfl
 exact .one rfl
theorem SR {g:Graph} (b:sO g) (v:Val) (dt:Bool) (c d:Int) (e:List (List UInt8)) (f:List Val) (g1:Int) (g2:Bool) (g3:Int) (g4:List UInt8) (g5:List Val) (g6:List (List UInt8)) :
  oM 34359738368 (fun n=>ve n v dt g.nodes g.edges c d e f g1 g2 g3 g4 g5 g6) (fun r=>r=((QO dt g (kd v) (vi v)).1,(QO dt g (kd v) (vi v)).2.nodes,(QO dt g (kd v) (vi v)).2.edges)):=by
 obtain⟨q,C,o,D,E,F⟩:=v;show oM 34359738368 _ (fun r=>r=((QO dt g q o).1,(QO dt g q o).2.nodes,(QO dt g q o).2.edges))
 unfold ve QO
 dsimp only
 refine oM.cond (fun p=>?_) fun p=>?_
 ·rw[if_pos (eq_of_beq p)]
  refine oM.bnd (MW b o) fun x w=>?_;obtain⟨⟨s,t⟩,u⟩:=x
  dsimp only
  unfold lQ xw;rw[← w];have k:=MP g o;rw[← w]at k;simp only at k;rcases k with rfl|rfl
  ·exact .one rfl
  exact .one rfl
 rw[if_neg (fun h=>by rw[h]at p; cases p)]
 refine oM.cond (fun i=>?_) fun i=>?_
 ·subst i
  refine oM.bnd (Fx b.big o) fun l hl=>?_;have hlen:l.length<=1048576:=by
   rw[hl];have G:=List.length_filter_le (oQ o) g.edges;have H:=(ah (g:=g)).2;have I:=b.big;unfold oP;omega
  refine oM.loop (fun m st=>∃ j:Nat,st=(((j:Nat):Int),(Zy g (l.take j)).nodes,(Zy g (l.take j)).edges)/\j+m=l.length) ?_ ⟨0,rfl,by omega⟩ (by omega:l.length<34359738368);rintro m _ ⟨j,rfl,hm⟩;unfold xU
  dsimp only
  rw[sH];refine zB.cond (fun y=>?_) fun y=>.tot ?_
  ·have B:j<l.length:=by have:=kod y; omega
   refine zB.bnd (oM.idx (uq B) (P:=fun x=>x=l[j]) rfl) fun x w=>?_
   have a:=Hc g B;rw[← w]at a;obtain⟨s,t,u,J,K,L⟩:=x
   dsimp only at a ⊢
   refine zB.bnd (MW (tB (l:=l.take j) b) s) fun z hz=>?_;obtain⟨⟨M,z2⟩,z3⟩:=z
   dsimp only
   rw[← hz]at a;rw[vm (by omega)];exact .next ⟨m - 1,by omega,j+1,by rw[a],by omega⟩
  rw[fM (by have:=of_decide_eq_false y; omega),hl];refine(Hh (tB (l:=oP g o) b) o).imp fun r A=>?_;rw[A];unfold Gb;simp only[if_true];have k:(cU (Zy g (oP g o)) o).2≠5:=by
   unfold cU;rw[NC b];split
   ·rw[if_pos rfl]; show(0:Int)≠5; decide
   decide
  rw[if_neg k];split<;>rfl
 subst i;refine(Hh b o).imp fun r A=>?_;rw[A];unfold Gb;simp only[Bool.false_eq_true,if_false];split
 ·rfl
 split<;>rfl
def iJ (rec:Graph->Int×Graph) (dt:Bool) (g:Graph) (k i:Int) (ok:Bool):Int×Graph:=
 if ok=true then(if k=6\/k=7 then(if(QO dt g k i).1=0 then rec (QO dt g k i).2 else((QO dt g k i).1,g))else(3,g))else(2,g)
def PU (names:List (List UInt8)) (vals:List Val) (dt:Bool):List (List UInt8)->Graph->Int×Graph
 | [],g=>(0,g)
 | x::l,g=>iJ (PU names vals dt l) dt g (kd (Ny names vals x).1) (vi (Ny names vals x).1) (Ny names vals x).2
def TX (a:cG) (r:Int×Graph):State×Int:=if r.1=0 then(⟨r.2,a⟩,0)else(⟨⟨[],[]⟩,⟨0,0⟩⟩,r.1)
theorem Fq (names:List (List UInt8)) (vals:List Val) (dt:Bool) (x:List UInt8) (l:List (List UInt8)) (g:Graph):PU names vals dt (x::l) g=iJ (PU names vals dt l) dt g (kd (Ny names vals x).1) (vi (Ny names vals x).1) (Ny names vals x).2:=rfl
theorem Hg {g:Graph} (a:sO g) (dt:Bool) (k i:Int):sO (QO dt g k i).2:=by
 unfold QO;split
 ·exact Nn a i
 exact HI a dt i
theorem NJ (dt:Bool) (g:Graph) (k i:Int):(QO dt g k i).1=0\/(QO dt g k i).1=5:=by
 unfold QO Gb;split
 ·exact .inl rfl
 split
 ·exact .inl rfl
 split
 ·exact .inl rfl
 split
 ·exact .inr rfl
 exact .inl rfl
theorem PW {names:List (List UInt8)} {vals:List Val} {dt:Bool}:∀ {l:List (List UInt8)} {g:Graph},sO g->sO (PU names vals dt l g).2
 | [],_,h=>h
 | x::l,g,h=>by
  rw[Fq];unfold iJ;split
  ·split
   ·split
    ·exact PW (Hg h dt _ _)
    exact h
   exact h
  exact h
theorem lE {names:List (List UInt8)} {vals:List Val} {x:List UInt8} (h:(Ny names vals x).2=false):(Ny names vals x).1=lg:=by
 unfold Ny at *;split at h
 ·rename_i a; rw[if_pos a]
 rename_i a;rw[if_neg a];split at h
 ·cases h
 rfl
section
variable {names:List (List UInt8)} {vals:List Val} (hl:names.length<=1048576) (he:names.length=vals.length) (hv:vals.length<=1048576) {vars:List (List UInt8)} (hb:vars.length<=1048576)
include hl he hv hb
theorem NI {g:Graph} (p:sO g) (dt:Bool) (e:cG):oM 34359738368 (fun n=>xQ n vars dt ⟨names,vals⟩ ⟨g,e⟩) (fun r=>r=TX e (PU names vals dt vars g)):=by
 obtain⟨nodes,edges⟩:=g;obtain⟨D,E⟩:=e;unfold xQ
 dsimp only
 refine oM.bnd (Fy p.big) fun x v=>?_;subst v
 dsimp only
 refine oM.chk (sG (by rw[zP]; omega)) (oM.chk (sG (by rw[zw]; omega)) ?_);refine oM.loop (fun m st=>∃ (j:Nat) (h:Graph),st=(((j:Nat):Int),h.nodes,h.edges,[],[])/\j+m=vars.length/\sO h/\PU names vals dt vars ⟨nodes,edges⟩=PU names vals dt (vars.drop j) h) ?_ ⟨0,⟨nodes,edges⟩,rfl,by omega,p,rfl⟩ (by omega:vars.length<34359738368);rintro m _ ⟨j,h,rfl,hm,q,a⟩;unfold vQ
 dsimp only
 rw[zP];refine zB.cond (fun f=>?_) fun f=>.one ?_
 ·have i:j<vars.length:=by have:=kod f; omega
  rw[jn i]at a;refine zB.bnd (oM.idx (uq i) (P:=fun y=>y=vars[j]) rfl) fun y A=>?_
  subst A;refine zB.bnd (PK hl he vars[j] _ _ _ _ _ _ _ _ _ _) fun z hz=>?_;obtain⟨⟨d,z2,z3,z4,z5,B⟩,C⟩:=z
  dsimp only
  have k:=lE (names:=names) (vals:=vals) (x:=vars[j]);rw[Fq,← hz]at a;rw[← hz]at k;change _=iJ _ dt h d z3 C at a;unfold iJ at a;simp only at k;refine zB.cond (fun l=>?_) fun l=>?_
  rotate_left
  ·subst l
   have:=k rfl;cases this;unfold xI xm;exact .one (by rw[a]; rfl)
  subst l;unfold xI;rw[if_pos rfl]at a;refine zB.cond (fun b=>?_) fun b=>?_
  ·have c:d=6\/d=7:=by
    cases s:d==(6:Int)with
    | true=>exact .inl (eq_of_beq s)
    | false=>rw[s,zC]at b; exact .inr (eq_of_beq b)
   rw[if_pos c]at a;refine zB.bnd (SR q ⟨d,z2,z3,z4,z5,B⟩ dt _ _ _ _ _ _ _ _ _ _) fun w hw=>?_;obtain⟨F,w2,G⟩:=w;simp only[kd,vi,Prod.mk.injEq]at hw;obtain⟨rfl,rfl,rfl⟩:=hw
   dsimp only
   unfold xm;have o:=Hg q dt d z3;rcases NJ dt h d z3 with t|u
   ·rw[if_pos t]at a
    rw[t];refine zB.cond (fun h=>by cases h) fun _=>?_
    rw[vm (by omega)];exact .next ⟨m - 1,by omega,j+1,_,rfl,by omega,o,a⟩
   rw[if_neg (by rw[u]; decide)]at a;rw[u]at a ⊢;exact .one (by rw[a]; rfl)
  have c:¬ (d=6\/d=7):=by
   rintro(rfl|rfl)
   ·cases b
   cases b
  rw[if_neg c]at a;unfold xm;exact .one (by rw[a]; rfl)
 have i:¬ j<vars.length:=by have:=of_decide_eq_false f; omega
 rw[List.drop_of_length_le (by omega)]at a;rw[a];rfl
theorem lu {g:Graph} (Z:sO g) (dt:Bool) (L:cG):oM 34359738368 (fun n=>cO n vars dt ⟨names,vals⟩ ⟨g,L⟩) (fun r=>r=TX L (PU names vals dt vars g)):=by
 obtain⟨nodes,edges⟩:=g;obtain⟨x7,x8⟩:=L;unfold cO
 dsimp only
 refine oM.loop (fun m st=>∃ (j:Nat) (h:Graph),st=(((j:Nat):Int),h.nodes,h.edges)/\j+m=vars.length/\sO h/\PU names vals dt vars ⟨nodes,edges⟩=PU names vals dt (vars.drop j) h) ?_ ⟨0,⟨nodes,edges⟩,rfl,by omega,Z,rfl⟩ (by omega:vars.length<34359738368);rintro m _ ⟨j,h,rfl,hm,v,a⟩;unfold dq
 dsimp only
 rw[zP];refine zB.cond (fun M=>?_) fun M=>.one ?_
 ·have N:j<vars.length:=by have:=kod M; omega
  rw[jn N]at a;refine zB.bnd (oM.idx (uq N) (P:=fun y=>y=vars[j]) rfl) fun y hy=>?_
  subst hy;refine zB.bnd (Ty hl he vars[j]) fun z hz=>?_;obtain⟨⟨A,z2,z3,z4,z5,z6⟩,O⟩:=z
  dsimp only
  rw[Fq,← hz]at a;change _=iJ _ dt h A z3 O at a;unfold iJ at a;refine zB.cond (fun D=>.one ?_) fun D=>?_
  ·have:O=false:=by simpa using D
   subst this;rw[a]; rfl
  have:O=true:=by simpa using D
  subst this;rw[if_pos rfl]at a;refine zB.cond (fun f=>.one ?_) fun f=>?_
  ·have i:¬ (A=6\/A=7):=by
    rintro(rfl|rfl)
    ·cases f
    cases f
   rw[if_neg i]at a;rw[a]; rfl
  have i:A=6\/A=7:=by
   by_cases Y:A=6
   ·exact .inl Y
   rw[show(A != (6:Int))=true by simpa using Y,xA]at f;exact .inr (by simpa using f)
  rw[if_pos i]at a;refine zB.cond (fun D=>?_) fun D=>?_
  ·rw[show QO dt h A z3=(0,lQ h z3)from if_pos (eq_of_beq D)]at a
   simp only[if_true]at a;refine zB.bnd (Nq v z3) fun w hw=>?_;obtain⟨⟨w1,w2⟩,w3⟩:=w
   dsimp only
   have b:=MP h z3;have k:=Nn v z3;unfold lQ at a k;rw[← hw]at b a k;simp only at b a k;unfold vw;rcases b with rfl|rfl
   ·simp only[if_true]at a k
    refine zB.cond (fun _=>?_) fun h=>by cases h
    rw[vm (by omega)];exact .next ⟨m - 1,by omega,j+1,_,rfl,by omega,k,a⟩
   rw[if_neg (by decide)]at a;refine zB.cond (fun h=>by cases h) fun _=>?_
   rw[vm (by omega)];exact .next ⟨m - 1,by omega,j+1,_,rfl,by omega,v,a⟩
  rw[show QO dt h A z3=Gb dt h z3 from if_neg (fun h=>by rw[h]at D; cases D)]at a
  refine zB.bnd (FP v.big z3) fun l p=>?_;have hll:l.length<=1048576:=by
   rw[p];have h1:=List.length_filter_le (oQ z3) h.edges;have h2:=(ah (g:=h)).2;have h3:=v.big;unfold oP;omega
  rw[sH];refine zB.bnd (oM.gs (P:=fun r=>(uB Node.id h.nodes z3=none/\r = -1)\/((uB Node.id h.nodes z3).isSome=true/\0<=r)) fun _=>tJ (by have:=(ah (g:=h)).1; have:=v.big; omega) _ _) fun r I=>?_
  refine zB.cond (fun b=>.one ?_) fun b=>?_
  ·have hp:(bif decide (((l.length:Nat):Int)>0)then !dt else false)=true:=by
    cases G:(bif decide (((l.length:Nat):Int)>0)then !dt else false)with
    | true=>rfl
    | false=>rw[G]at b; cases b
   have Q:=I hp;rw[hp,xA]at b;have hr0:=kod b;have R:dt=false:=by
    cases G:decide (((l.length:Nat):Int)>0)with
    | true=>rw[G,xA]at hp; simpa using hp
    | false=>rw[G]at hp; cases hp
   have S:l≠[]:=by
    intro e;rw[e]at hp;cases hp
   subst R;have J:(uB Node.id h.nodes z3).isSome=true:=by
    rcases Q with ⟨_,h⟩|⟨h,_⟩
    ·omega
    exact h
   have T:cU h z3=(⟨[],[]⟩,5):=by
    unfold cU;rw[if_pos J,if_neg (by rw[← p]; exact S)]
   have U:Gb false h z3=(5,h):=by
    unfold Gb;rw[T];rfl
   rw[U]at a;rw[a]; rfl
  have V:Gb dt h z3=(0,if(cU (Zy h l) z3).2=0 then(cU (Zy h l) z3).1 else Zy h l):=by
   cases dt with
   | true=>unfold Gb; rw[if_pos rfl,← p]
   | false=>
    have u:l=[]:=by
     by_cases u:l=[]
     ·exact u
     exfalso;have K:decide (((l.length:Nat):Int)>0)=true:=kdt (by have:=List.length_pos_iff.2 u; omega);have I:=I (by rw[K]; rfl);rw[K]at b;rcases I with ⟨J,_⟩|⟨_,F⟩
     ·obtain⟨e,l',rfl⟩:=List.exists_cons_of_ne_nil u
      have he:e∈oP h z3:=by rw[← p]; exact List.mem_cons_self
      obtain⟨X,d⟩:=List.mem_filter.1 he;have B:=v.ends e X;unfold oQ at d;rw[Bool.or_eq_true]at d;rcases d with d|d
      ·rw[eq_of_beq d,J]at B; cases B.1
      rw[eq_of_beq d,J]at B; cases B.2
     rw[show(bif(bif true then !false else false)then decide (r≥0)else false)=decide (r≥0)from rfl,kdt F]at b;cases b
    subst u;unfold Gb;rw[if_neg (by decide)];show _=((0:Int),if(cU h z3).2=0 then(cU h z3).1 else h);have K:(cU h z3).2≠5:=by
     unfold cU;rw[← p];split
     ·rw[if_pos rfl]; show(0:Int)≠5; decide
     decide
    rw[if_neg K];split<;>rfl
  have c:=HI v dt z3;rw[V]at a c;simp only[if_true]at a c;refine zB.loop (fun m2 t=>∃ q:Nat,t=(((q:Nat):Int),(Zy h (l.take q)).nodes,(Zy h (l.take q)).edges)/\q+m2=l.length) ?_ ⟨0,rfl,by omega⟩ (by omega:l.length<34359738368);rintro m2 _ ⟨q,rfl,G⟩;unfold dr
  dsimp only
  rw[sH];refine zB.cond (fun E=>?_) fun E=>?_
  ·have H:q<l.length:=by have:=kod E; omega
   refine zB.bnd (oM.idx (uq H) (P:=fun x=>x=l[q]) rfl) fun x hx=>?_
   have C:=Hc h H;rw[← hx]at C;obtain⟨o,y2,y3,y4,y5,y6⟩:=x
   dsimp only at C ⊢
   refine zB.bnd (Nq (tB (l:=l.take q) v) o) fun z hz=>?_;obtain⟨⟨A,z2⟩,z3⟩:=z
   dsimp only
   rw[← hz]at C;rw[vm (by omega)];exact zB.next (s:=Sum.inl _) ⟨m2 - 1,by omega,q+1,by rw[C],by omega⟩
  rw[fM (by have:=of_decide_eq_false E; omega)];refine zB.bnd (Sj (tB (l:=l) v) z3) fun z hz=>?_;obtain⟨⟨w1,w2⟩,w3⟩:=z
  dsimp only
  rw[← hz]at a c;simp only at a c;unfold vw;rw[vm (by omega)];refine zB.cond (fun F=>?_) fun F=>?_
  ·rw[if_pos (eq_of_beq F)]at a c
   exact zB.next (s:=Sum.inr _) ⟨m - 1,by omega,j+1,_,rfl,by omega,c,a⟩
  rw[if_neg (fun e=>by rw[e]at F; cases F)]at a c
  exact zB.next (s:=Sum.inr _) ⟨m - 1,by omega,j+1,_,rfl,by omega,c,a⟩
 have N:¬ j<vars.length:=by have:=of_decide_eq_false M; omega
 rw[List.drop_of_length_le (by omega)]at a;rw[a];rfl
end
end W
end
