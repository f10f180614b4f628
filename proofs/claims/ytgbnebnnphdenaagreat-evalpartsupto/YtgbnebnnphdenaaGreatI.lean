/- A part of the proof: the plain law. -/
import Derived.Test.YtgbnebnnphdenaaGreatRows
import Derived.Shelf.Vars
import Derived.Deep.DeepHandedRow
import Derived.ChangeMaps5
import Derived.LaidLaws
import Derived.OpenShut
import Derived.Lib.RuneCount
import Derived.Test.YtgbnebnnphdenaaGreatB
import Derived.Test.YtgbnebnnphdenaaGreatC
import Derived.Test.YtgbnebnnphdenaaGreatD
import Derived.Test.YtgbnebnnphdenaaGreatE
import Derived.Test.YtgbnebnnphdenaaGreatF
import Derived.Test.YtgbnebnnphdenaaGreatG
import Derived.Test.YtgbnebnnphdenaaGreatH
set_option linter.unusedVariables false
set_option linter.unusedSimpArgs false
set_option linter.unnecessarySimpa false
set_option linter.deprecated false
set_option linter.unusedSectionVars false
set_option linter.constructorNameAsVariable false
open Go.IntKind renaming wrap->kwr,bits->kbt
open List renaming length_cons->ja,length_append->jb,length_nil->jc,getElem?_cons_zero->jd,getElem?_cons_succ->je,getElem?_eq_getElem->jf,mem_cons->jg,map_cons->jk,length_map->jl,drop_eq_getElem_cons->jn,append_assoc->js,length_take->jt,all_cons->jv,mem_append->jy,mem_singleton->jz,sum_cons->jA,getElem?_eq_some_iff->jG,eq_nil_of_length_eq_zero->jI,length_drop->jM,map_nil->jN,map_append->jZ
open Bool renaming and_eq_true->ji,not_false->jo,not_true->jp,or_eq_true->jO,true_eq_false->jQ,or_eq_false_iff->jY
open Nat renaming exists_eq_succ_of_ne_zero->jj,le_refl->jw,lt_irrefl->jR,zero_le->jS
open BitVec renaming ofInt->jr
open UInt8 renaming toNat_inj->jT
open Option renaming getD_some->jV
section
open Go Ax
namespace W
def TV (_:Nat) (i:Int):Option (List UInt8):=some [([48,49,50,51,52,53,54,55,56,57,97,98,99,100,101,102]:List UInt8).getD (i.toNat / 16) 0,([48,49,50,51,52,53,54,55,56,57,97,98,99,100,101,102]:List UInt8).getD (i.toNat % 16) 0]
theorem ay {m b:Nat} (h:m<=1099511627776) (a:b<=128):decide (m * b<=140737488355328)=true:=by
 refine kdt ?_
 calc m * b<=1099511627776 * 128:=Nat.mul_le_mul h a
  _<=140737488355328:=by decide
open Go Ax
section
variable {A R S T:Type}
@[simp] theorem za (a:A) (k:A->Option R):bnd (some a) k=k a:=rfl
@[simp] theorem qds (k:Option R):chk true k=k:=rfl
theorem vH {b:Bool} {k:Option R} (h:b=true):chk b k=k:=by subst h; rfl
theorem XF {p:Prop} [Decidable p] {k:Option R} (h:p):chk (decide p) k=k:=vH (kdt h)
@[simp] theorem gL [Inhabited A] (o:Option A):qE true o=o:=rfl
@[simp] theorem Ls [Inhabited A] (o:Option A):qE false o=some default:=rfl
theorem zJ (B:(S->Option R)->S->Option R) (n:Nat) (s:S):qA B (n+1) s=B (qA B n) s:=rfl
theorem zG {l:List A} {i:Nat} {x:A} (h:l[i]? =some x):idx l (i:Int)=some x:=by
 unfold idx;rw[if_pos (Int.natCast_nonneg i)];simpa using h
@[simp] theorem Sd (x:A) (l:List A):idx (x::l) (0:Int)=some x:=rfl
@[simp] theorem qfp (x y:A) (l:List A):idx (x::y::l) (1:Int)=some y:=rfl
@[simp] theorem natI_nat (n:Nat):Qq (n:Int)=some n:=by
 unfold Qq;rw[if_pos (Int.natCast_nonneg n)];simp
theorem xW {k:Nat} (h:k<=1152921504606846976):kwr .i64 ((k:Int)+1)=((k+1:Nat):Int):=by
 rw[aQ _ (by omega) (by omega)]; omega
theorem RB {i:Int} (a:-1152921504606846976<=i) (h1:i<=1152921504606846976):kwr .i64 i=i:=aQ _ (by omega) (by omega)
theorem sE {B:(S->Option R)->S->Option R} (st:Nat->S) (m:Nat) {r:Option R} (c:∀ k,k<m->∀ a,B a (st k)=a (st (k+1))) (he:∀ a,B a (st m)=r) {n:Nat} (hn:m<n):qA B n (st 0)=r:=by
 have key:∀ (d k n:Nat),k+d=m->d<n->qA B n (st k)=r:=by
  intro d
  induction d with
  | zero=>
   intro k n hk hn;obtain⟨n,rfl⟩:=jj (by omega:n≠0);have:k=m:=by omega
   subst this;exact he _
  | succ d ih=>
   intro k n hk hn;obtain⟨n,rfl⟩:=jj (by omega:n≠0);rw[zJ,c k (by omega)];exact ih (k+1) n (by omega) (by omega)
 exact key m 0 n (by omega) hn
def orE (o k:Option R):Option R:=match o with|some r=>some r|none=>k
def qei (o:R ⊕ T) (k:T->Option R):Option R:=match o with|.inl r=>some r|.inr t=>k t
@[simp] theorem qfb (r:R) (k:Option R):orE (some r) k=some r:=rfl
@[simp] theorem qfa (k:Option R):orE none k=k:=rfl
@[simp] theorem qgg (r:R) (k:T->Option R):qei (.inl r) k=some r:=rfl
@[simp] theorem qej (t:T) (k:T->Option R):qei (.inr t) k=k t:=rfl
def Tb (f:T->A->R ⊕ T):T->List A->R ⊕ T
 | t,[]=>.inr t
 | t,x::l=>match f t x with
  | .inl r=>.inl r
  | .inr t'=>Tb f t' l
theorem lM {B:(S->Option R)->S->Option R} (mk:Nat->T->S) (I:Nat->T->Prop) {l:List A} (f:T->A->R ⊕ T) {rest:T->Option R}
  (h:∀ (k:Nat) (x:A) (t:T) (d:S->Option R),l[k]? =some x->I k t->B d (mk k t)=qei (f t x) fun c=>d (mk (k+1) c))
  (m:∀ (k:Nat) (x:A) (t c:T),l[k]? =some x->I k t->f t x=.inr c->I (k+1) c)
  (he:∀ (t:T) (d:S->Option R),I l.length t->B d (mk l.length t)=rest t) {n:Nat} (hn:l.length<n) {t0:T} (o:I 0 t0) :
  qA B n (mk 0 t0)=qei (Tb f t0 l) rest:=by
 have key:∀ (suf:List A) (k n:Nat) (t:T),(∀ j,suf[j]? =l[k+j]?)->k+suf.length=l.length->suf.length<n->I k t->qA B n (mk k t)=qei (Tb f t suf) rest:=by
  intro suf
  induction suf with
  | nil=>
   intro k n t a hk hn e;obtain⟨n,rfl⟩:=jj (by omega:n≠0);have:k=l.length:=by simpa using hk
   subst this;rw[zJ,he t _ e];rfl
  | cons x suf ih=>
   intro k n t a hk hn e;obtain⟨n,rfl⟩:=jj (by omega:n≠0);have g:l[k]? =some x:=by have:=a 0; simpa using this.symm
   rw[zJ,h k x t _ g e];simp only[Tb];cases p:f t x with
   | inl r=>rfl
   | inr c=>
    simp only[qej];refine ih (k+1) n c (fun j=>?_) (by simp at hk; omega) (by simp at hn; omega) (m k x t c g e p);have:=a (j+1);rw[show k+1+j=k+(j+1) by omega];simpa using this
 exact key l 0 n t0 (fun j=>by simp) (by simp) hn o
def Lq (f:A->Option R):List A->Option R
 | []=>none
 | x::l=>match f x with
  | some r=>some r
  | none=>Lq f l
theorem Ns {B:(S->Option R)->S->Option R} (mk:Nat->S) {l:List A} (f:A->Option R) {rest:Option R}
  (c:∀ (k:Nat) (x:A) (a:S->Option R),l[k]? =some x->B a (mk k)=orE (f x) (a (mk (k+1))))
  (he:∀ (a:S->Option R),B a (mk l.length)=rest) {n:Nat} (hn:l.length<n) :
  qA B n (mk 0)=orE (Lq f l) rest:=by
 have h:=lM (B:=B) (fun k (_:Unit)=>mk k) (fun _ _=>True) (l:=l) (fun _ x=>match f x with|some r=>.inl r|none=>.inr ()) (rest:=fun _=>rest)
  (fun k x _ a d _=>by rw[c k x a d]; cases f x<;>rfl) (fun _ _ _ _ _ _ _=>trivial) (fun _ a _=>he a) hn (t0:=()) trivial
 rw[h];have key:∀ l:List A,Tb (T:=Unit) (fun _ x=>match f x with|some r=>.inl r|none=>.inr ()) () l=(match Lq f l with|some r=>.inl r|none=>.inr ()):=by
  intro l
  induction l with
  | nil=>rfl
  | cons x l ih=>
   simp only[Tb,Lq];cases f x with
   | some r=>rfl
   | none=>exact ih
 rw[key];cases Lq f l<;>rfl
end
theorem py {A:Type} {l:List A} {k:Nat} {x:A} (h:l[k]? =some x):k<l.length:=(jG.1 h).1
theorem gM {A:Type} {l:List A} {k:Nat} {x:A} (h:l[k]? =some x):x∈l:=List.mem_of_getElem? h
@[simp] theorem zc (l:List (List UInt8)):(qi l).length=l.length:=by simp[qi]
@[simp] theorem Ua (k:IntKind) (l:List Int):(xO k l).length=l.length:=by simp[xO]
@[simp] theorem MN (l:List UInt8):(qx l).length=l.length:=by simp[qx]
@[simp] theorem qo (l:List Val):(Val.rows l).length=l.length:=by rw[rows_eq]; simp
theorem gg {k m:Nat} (h:k<m):decide ((k:Int)<(m:Int))=true:=kdt (by omega)
theorem xZ {m:Nat}:decide ((m:Int)<(m:Int))=false:=kdf (by omega)
open Go Ax
def isz (i:Int):Nat:=if -9223372036854775808<=i/\i<=9223372036854775807 then 1 else 1099511627776
theorem qai {i:Int} (h:IntKind.i64.min<=i/\i<=IntKind.i64.max):isz i=1:=by
 have h1:IntKind.i64.min = -9223372036854775808:=by decide
 have h2:IntKind.i64.max=9223372036854775807:=by decide
 unfold isz;rw[if_pos]; omega
theorem qd9 {i:Int} (h:isz i<1099511627776):-9223372036854775808<=i/\i<=9223372036854775807:=by
 unfold isz at h;split at h
 ·assumption
 omega
def kd:Val->Int
 | .mk k _ _ _ _ _=>k
mutual
def cn:Val->Nat
 | .mk _ _ i s l ks=>1+isz i+s.length+vk l+(ks.map fun k=>1+k.length).sum
def vk:List Val->Nat
 | []=>1
 | v::l=>1+cn v+vk l
end
def pb (l:List (List UInt8)):Nat:=(l.map fun k=>1+k.length).sum
theorem gb (l:List (List UInt8)):l.length<=pb l:=by
 induction l with
 | nil=>simp[pb]
 | cons x l ih=>simp only[pb,jk,jA,ja]at ih ⊢; omega
mutual
def cQ:qa->Nat
 | .mk _ name val names args=>1+name.length+cn val+pb names+cM args
def cM:List qa->Nat
 | []=>1
 | x::l=>1+cQ x+cM l
end
theorem dA:∀ l:List qa,l.length<cM l
 | []=>by simp[cM]
 | x::l=>by have:=dA l; simp only[cM,ja]; omega
theorem cN:∀ {l:List qa} {x:qa},x∈l->cQ x+2<=cM l
 | y::l,x,h=>by
  simp only[cM];rcases jg.1 h with rfl|h
  ·have:=dA l; omega
  have:=cN h; omega
@[simp] theorem zM (l:List qa):(qa.rows l).length=l.length:=by rw[qa.rows_eq]; simp
open Go Ax
open Go Ax
def upB (b:UInt8):UInt8:=if 97<=b.toNat/\b.toNat<=122 then UInt8.ofNat (b.toNat - 32)else b
set_option maxRecDepth 100000 in
theorem qex:∀ m:Fin 256,97<=m.val/\m.val<=122->u8I (kwr .u8 ((m.val:Int) - 32))=some (UInt8.ofNat (m.val - 32)):=by decide
theorem qct (b:UInt8) (h:97<=b.toNat/\b.toNat<=122):u8I (kwr .u8 ((b.toNat:Int) - 32))=some (upB b):=by
 have:=qex ⟨b.toNat,b.toNat_lt⟩ h;unfold upB;rw[if_pos h];exact this
theorem qcs (b:UInt8):u8I (b.toNat:Int)=some b:=by
 unfold u8I;have:=b.toNat_lt;rw[if_pos (by omega)];simp
def ZU (s:List UInt8):List UInt8:=s.map upB
theorem qd8 (b:UInt8):(bif decide ((b.toNat:Int)≥97)then decide ((b.toNat:Int)<=122)else false)=decide (97<=b.toNat/\b.toNat<=122):=by
 by_cases h1:97<=b.toNat<;>by_cases h2:b.toNat<=122
 ·rw[kdt (by omega:(b.toNat:Int)≥97),kdt (by omega:(b.toNat:Int)<=122),kdt ⟨h1,h2⟩]; rfl
 ·rw[kdt (by omega:(b.toNat:Int)≥97),kdf (by omega:¬ (b.toNat:Int)<=122),kdf (by omega:¬ (97<=b.toNat/\b.toNat<=122))]; rfl
 ·rw[kdf (by omega:¬ (b.toNat:Int)≥97),kdf (by omega:¬ (97<=b.toNat/\b.toNat<=122))]; rfl
 rw[kdf (by omega:¬ (b.toNat:Int)≥97),kdf (by omega:¬ (97<=b.toNat/\b.toNat<=122))]; rfl
theorem Dk {n:Nat} {s:List UInt8} (h:s.length<n) (hn:n<=1099511627776):rM n s=some (ZU s):=by
 unfold rM;have:=sE (B:=fF n s) (fun k=>((s.take k).map upB,(k:Int))) s.length (r:=some (ZU s))
  (fun k hk d=>by
   obtain⟨b,c⟩:∃ b,s[k]? =some b:=⟨s[k],jf hk⟩;have e:(s.take (k+1)).map upB=(s.take k).map upB++[upB b]:=by rw[List.take_succ,c]; simp
   simp only[fF,gg hk,kct,zG c,za,qd8];rw[e];have a:decide ((qx ((s.take k).map upB++[upB b])).length * 1<=140737488355328)=true:=ay (by simp; omega) (by omega);by_cases hl:97<=b.toNat/\b.toNat<=122
   ·rw[kdt hl,kct]
    simp only[fE,qct b hl,za];rw[vH a,xW (by omega)]
   rw[kdf hl,kcf];have hu:upB b=b:=by unfold upB; rw[if_neg hl]
   rw[hu]at a ⊢;simp only[fE,qcs,za];rw[vH a,xW (by omega)])
  (fun d=>by simp only[fF,xZ,kcf,List.take_length]; rfl) h
 simpa using this
def Md (b:UInt8):Bool:=decide (97<=b.toNat/\b.toNat<=122)||decide (65<=b.toNat/\b.toNat<=90)||decide (b.toNat=95)
def PO (b:UInt8):Bool:=decide (48<=b.toNat/\b.toNat<=57)
def BL (s:List UInt8):Bool:=match s with
 | []=>false
 | b::l=>decide (l.length<64)&&Md b&&l.all fun c=>Md c||PO c
theorem rK (n:Nat) (b:UInt8):gq n (b.toNat:Int)=some (Md b):=by
 unfold gq Md;rw[qd8];congr 1;by_cases a:97<=b.toNat/\b.toNat<=122
 ·simp[a]
 by_cases h1:65<=b.toNat/\b.toNat<=90
 ·rw[kdf a,kdt h1,kdt (by omega:(b.toNat:Int)≥65),kdt (by omega:(b.toNat:Int)<=90)]; rfl
 have:(bif decide ((b.toNat:Int)≥65)then decide ((b.toNat:Int)<=90)else false)=false:=by
  by_cases h2:65<=b.toNat
  ·rw[kdt (by omega:(b.toNat:Int)≥65),kdf (by omega:¬ (b.toNat:Int)<=90)]; rfl
  rw[kdf (by omega:¬ (b.toNat:Int)≥65)]; rfl
 rw[kdf a,this,kdf h1];by_cases h3:b.toNat=95
 ·simp[h3]
 have c:((b.toNat:Int)==95)=false:=kbf.2 (by omega);simp only[Bool.or_false,Bool.false_or,kcf];rw[c,kdf h3]
theorem Dj (n:Nat) (b:UInt8):fp n (b.toNat:Int)=some (PO b):=by
 unfold fp PO;congr 1;by_cases h1:48<=b.toNat<;>by_cases h2:b.toNat<=57
 ·rw[kdt (by omega:(b.toNat:Int)≥48),kdt (by omega:(b.toNat:Int)<=57),kdt ⟨h1,h2⟩]; rfl
 ·rw[kdt (by omega:(b.toNat:Int)≥48),kdf (by omega:¬ (b.toNat:Int)<=57),kdf (by omega:¬ (48<=b.toNat/\b.toNat<=57))]; rfl
 ·rw[kdf (by omega:¬ (b.toNat:Int)≥48),kdf (by omega:¬ (48<=b.toNat/\b.toNat<=57))]; rfl
 rw[kdf (by omega:¬ (b.toNat:Int)≥48),kdf (by omega:¬ (48<=b.toNat/\b.toNat<=57))]; rfl
theorem Hr {n:Nat} {s:List UInt8} (h:s.length<n) (hn:n<=1099511627776):Qc n s=some (BL s):=by
 unfold Qc;cases s with
 | nil=>rfl
 | cons b l=>
  by_cases hl:l.length<64
  ·have a:(bif decide ((((b::l).length:Nat):Int)<1)then true else decide ((((b::l).length:Nat):Int)>64))=false:=by
    rw[kdf (by simp; omega),kdf (by simp; omega)]; rfl
   simp only[a,jo,gL,Sd,za,rK,kcf,BL];rw[kdt hl];cases f:Md b with
   | false=>rfl
   | true=>
    simp only[jp,kcf,Bool.true_and];have e:=Ns (B:=cT n (b::l)) (fun k=>((k:Nat):Int)) (l:=b::l) (fun c=>if(Md c||PO c)=true then none else some false) (rest:=some true)
     (fun k x g d=>by
      have hk:=py d;simp only[cT,gg hk,kct,zG d,za,rK];rw[xW (by omega)];cases h1:Md x with
      | true=>simp
      | false=>
       simp only[jo,gL,za,Dj,kct];cases PO x<;>simp)
     (fun g=>by simp only[cT,xZ,kcf]) (n:=n) h
    refine Eq.trans e ?_;have key:∀ l:List UInt8,Lq (R:=Bool) (fun c=>if(Md c||PO c)=true then none else some false) l=if(l.all fun c=>Md c||PO c)=true then none else some false:=by
     intro l
     induction l with
     | nil=>rfl
     | cons c l ih=>
      simp only[Lq,jv,ih];by_cases a:(Md c||PO c)=true<;>simp only[a,if_true,Bool.true_and,Bool.not_eq_true]<;>simp_all
    rw[key];simp only[jv,f,Bool.true_or,Bool.true_and];cases(l.all fun c=>Md c||PO c)<;>rfl
  ·have a:(bif decide ((((b::l).length:Nat):Int)<1)then true else decide ((((b::l).length:Nat):Int)>64))=true:=by
    rw[kdf (by simp; omega),kdt (by simp; omega)]; rfl
   simp only[a,jp,Ls,za,kct,BL];rw[kdf hl];rfl
open Go Ax
theorem qag {l:List UInt8} {i:Nat} {b:UInt8} (h:l[i]? =some b):(⟨l.toArray⟩:ByteArray).get! i=b:=by
 have a:=(jG.1 h).1;have:(⟨l.toArray⟩:ByteArray).get! i=l.toArray[i]!:=rfl;rw[this];simp[getElem!_def,h]
theorem ao {l:List UInt8} {i:Nat} {b:UInt8} (h:l[i]? =some b) (a:b.toNat<128):qI l i=b.toNat/\zF l i=i+1:=by
 unfold qI zF Utf8.decode;simp only[Nat.add_zero,qag h];rw[if_pos (by omega)];exact⟨rfl,rfl⟩
theorem qcg {l:List UInt8} {i:Nat} {b:UInt8} (h:l[i]? =some b) (a:¬ b.toNat<128):128<=qI l i:=by
 unfold qI Utf8.decode;simp only[Nat.add_zero,qag h];rw[if_neg (by omega)];have he:128<=Utf8.runeError:=by decide
 split
 ·split
  ·simp only; omega
  exact he
 split
 ·split
  ·rename_i h1
   simp only[ji,kde,ge_iff_le]at h1;simp only; omega
  exact he
 split
 ·split
  ·rename_i h1
   simp only[ji,kde,ge_iff_le]at h1;simp only; omega
  exact he
 exact he
def Ep (k:Nat) (b:UInt8):Bool:=!Md b&&(k==0||!PO b)
def Fh:Nat->List UInt8->Bool
 | _,[]=>true
 | k,b::l=>!Ep k b&&Fh (k+1) l
theorem BN:∀ (l:List UInt8) (k:Nat),Fh (k+1) l=l.all fun c=>Md c||PO c
 | [],k=>rfl
 | b::l,k=>by
  simp only[Fh,jv,BN l (k+1),Ep];rw[show((k+1==0)=false)from rfl];cases Md b<;>cases PO b<;>rfl
theorem eZ (l:List UInt8):(Fh 0 l&&(!(l==[])&&decide (l.length<=64)))=BL l:=by
 cases l with
 | nil=>rfl
 | cons b l=>
  simp only[Fh,BN,BL,Ep,kbs,Bool.true_or,Bool.and_true,Bool.not_not];have h1:(!((b::l)==[]))=true:=rfl;have h2:decide ((b::l).length<=64)=decide (l.length<64):=by
   by_cases h:l.length<64
   ·rw[kdt h,kdt (by simp; omega)]
   rw[kdf h,kdf (by simp; omega)]
  rw[h1,h2,Bool.true_and];cases Md b<;>cases decide (l.length<64)<;>simp
theorem an {l:List UInt8} {k:Nat} {b:UInt8} (h:l[k]? =some b) :
  (bif !(bif(bif(bif decide (((qI l k:Nat):Int)≥97)then decide (((qI l k:Nat):Int)<=122)else false)then true else(bif decide (((qI l k:Nat):Int)≥65)then decide (((qI l k:Nat):Int)<=90)else false))then true else(((qI l k:Nat):Int)==95))then(bif(bif(((k:Nat):Int)==0)then true else decide (((qI l k:Nat):Int)<48))then true else decide (((qI l k:Nat):Int)>57))else false)=Ep k b:=by
 by_cases d:b.toNat<128
 ·rw[(ao h d).1]
  have hl:=rK 0 b;unfold gq at hl;rw[Option.some.inj hl];have hz:(((k:Nat):Int)==0)=(k==0):=by
   by_cases hk:k=0
   ·subst hk; rfl
   rw[kbf.2 hk,kbf.2 (by omega)]
  rw[hz];unfold Ep PO;cases e:Md b with
  | true=>rfl
  | false=>
   simp only[jo,kct,Bool.true_and];cases hk:(k==0)with
   | true=>rfl
   | false=>
    simp only[kcf,Bool.false_or];by_cases h1:b.toNat<48
    ·rw[kdt (by omega:(b.toNat:Int)<48),kdf (by omega:¬ (48<=b.toNat/\b.toNat<=57))]; rfl
    by_cases h2:57<b.toNat
    ·rw[kdf (by omega:¬ (b.toNat:Int)<48),kdt (by omega:(b.toNat:Int)>57),kdf (by omega:¬ (48<=b.toNat/\b.toNat<=57))]; rfl
    rw[kdf (by omega:¬ (b.toNat:Int)<48),kdf (by omega:¬ (b.toNat:Int)>57),kdt (by omega:(48<=b.toNat/\b.toNat<=57))]; rfl
 have hr:=qcg h d;have a:Ep k b=true:=by
  unfold Ep Md PO;rw[kdf (by omega:¬ (97<=b.toNat/\b.toNat<=122)),kdf (by omega:¬ (65<=b.toNat/\b.toNat<=90)),kdf (by omega:¬ b.toNat=95),kdf (by omega:¬ (48<=b.toNat/\b.toNat<=57))];cases(k==0)<;>rfl
 rw[a];generalize qI l k=c at *;rw[kdf (by omega:¬ (c:Int)<=122),kdf (by omega:¬ (c:Int)<=90),kbf.2 (by omega:¬ (c:Int)=95),kdt (by omega:(c:Int)>57)];cases decide ((c:Int)≥97)<;>cases decide ((c:Int)≥65)<;>cases((k:Int)==0)<;>cases decide ((c:Int)<48)<;>rfl
theorem Dy {n:Nat} {l:List UInt8} (h:l.length<n):sq n l=some (BL l):=by
 unfold sq;have main:∀ (suf:List UInt8) (k m:Nat),(∀ j,suf[j]? =l[k+j]?)->k+suf.length=l.length->suf.length<m->qA (fQ n l) m k=some (Fh k suf&&(!(l==[])&&decide (l.length<=64))):=by
  intro suf
  induction suf with
  | nil=>
   intro k m c hk hm;obtain⟨m,rfl⟩:=jj (by omega:m≠0);have:k=l.length:=by simpa using hk
   subst this;rw[zJ];simp only[fQ];rw[kdf (jR _),kcf];have:decide (((l.length:Nat):Int)<=64)=decide (l.length<=64):=by
    by_cases h:l.length<=64
    ·rw[kdt h,kdt (by omega)]
    rw[kdf h,kdf (by omega)]
   rw[this];simp only[Fh,Bool.true_and];cases(l==[])<;>rfl
  | cons b suf ih=>
   intro k m c hk hm;obtain⟨m,rfl⟩:=jj (by omega:m≠0);have d:l[k]? =some b:=by have:=c 0; simpa using this.symm
   have e:=py d;rw[zJ];simp only[fQ];rw[kdt e,kct,an d];simp only[Fh];cases f:Ep k b with
   | true=>rfl
   | false=>
    have a:b.toNat<128:=Decidable.byContradiction fun hn=>by
     have:Ep k b=true:=by
      unfold Ep Md PO;rw[kdf (by omega:¬ (97<=b.toNat/\b.toNat<=122)),kdf (by omega:¬ (65<=b.toNat/\b.toNat<=90)),kdf (by omega:¬ b.toNat=95),kdf (by omega:¬ (48<=b.toNat/\b.toNat<=57))];cases(k==0)<;>rfl
     rw[this]at f;cases f
    rw[kcf,kct,(ao d a).2,ih (k+1) m (fun j=>by have:=c (j+1); rw[show k+1+j=k+(j+1) by omega]; simpa using this) (by simp at hk; omega) (by simp at hm; omega)]
    rfl
 have:=main l 0 n (fun j=>by simp) (by simp) h
 rw[eZ]at this;exact this
open Go Ax
def NZ:List (List UInt8):=[([77,65,84,67,72]:List UInt8),([87,72,69,82,69]:List UInt8),([85,78,87,73,78,68]:List UInt8),([65,83]:List UInt8),([87,73,84,72]:List UInt8),([67,82,69,65,84,69]:List UInt8),([77,69,82,71,69]:List UInt8),([83,69,84]:List UInt8),([82,69,77,79,86,69]:List UInt8),([68,69,76,69,84,69]:List UInt8),([68,69,84,65,67,72]:List UInt8),([82,69,84,85,82,78]:List UInt8),([68,73,83,84,73,78,67,84]:List UInt8),([79,82,68,69,82]:List UInt8),([66,89]:List UInt8),([65,83,67]:List UInt8),([68,69,83,67]:List UInt8),([83,75,73,80]:List UInt8),([76,73,77,73,84]:List UInt8),([65,78,68]:List UInt8),([79,82]:List UInt8),([88,79,82]:List UInt8),([78,79,84]:List UInt8),([73,78]:List UInt8),([73,83]:List UInt8),([78,85,76,76]:List UInt8),([84,82,85,69]:List UInt8),([70,65,76,83,69]:List UInt8)]
def NB (s:List UInt8):Bool:=BL s&&!(NZ.contains (ZU s))
theorem Hv {n:Nat} {s:List UInt8} (h:s.length<n) (h2:28<n) (hn:n<=1099511627776) :
  rq n s=some (if NZ.contains (ZU s)then(ZU s,true)else([],false)):=by
 unfold rq;rw[show QK n=some NZ from rfl,za,Dk h hn,za];have hl:NZ.length=28:=rfl;refine Eq.trans (Ns (B:=cU n NZ (ZU s)) (fun k=>(k:Int)) (l:=NZ) (fun w=>if w=ZU s then some (ZU s,true)else none) (rest:=some ([],false)) ?_ ?_ (by omega)) ?_
 ·intro k x d c
  have hk:=py c;unfold cU;rw[zc,gg hk,kct,zG c,za,xW (by omega)];by_cases hw:x=ZU s
  ·subst hw
   simp
  rw[if_neg hw,kbf.2 hw];rfl
 ·intro d
  unfold cU;rw[zc,xZ];rfl
 have:∀ l:List (List UInt8),Lq (fun w=>if w=ZU s then some (ZU s,true)else none) l=if l.contains (ZU s)then some (ZU s,true)else none:=by
  intro l
  induction l with
  | nil=>rfl
  | cons a l ih=>
   simp only[Lq,ih];by_cases ha:a=ZU s
   ·subst ha
    simp
   rw[if_neg ha];have:(a::l).contains (ZU s)=l.contains (ZU s):=by
    rw[List.contains_cons,kbf.2 (Ne.symm ha),Bool.false_or]
   rw[this]
 rw[this];cases NZ.contains (ZU s)<;>rfl
theorem Vv {n:Nat} {s:List UInt8} (h:s.length<n) (h2:28<n) (hn:n<=1099511627776):vR n s=some (NB s):=by
 unfold vR;rw[Hv h h2 hn,za];unfold NB;cases NZ.contains (ZU s)<;>simp[Hr h hn]<;>cases BL s<;>rfl
open Go Ax
theorem RC {k:Nat} (h:k+1<=1152921504606846976):kwr .i64 (((k+1:Nat):Int) - 1)=((k:Nat):Int):=by
 rw[RB (by omega) (by omega)]; omega
theorem qb8 (x:List UInt8):(decide (((x.length:Nat):Int)<1))=(x==[]):=by
 cases x with
 | nil=>rfl
 | cons a x=>simp; omega
theorem oT (n:Nat) (ks:List (List UInt8)) (c d:Int) (l:List Val) (g:Val->Int->Int->Option (Int×Bool)) (hn:n<=1099511627776):∀ m k:Nat,k<=ks.length->ks.length - k<m->ks.length<n ->
  ∃ b,qA (vx n ks) m (k:Int)=some b/\qA (cy n ks c l g d) m (k:Int)=bif b then cw n l g d c ()else some (kwr .i64 (c+1),false):=by
 intro m
 induction m with
 | zero=>intro k _ h; omega
 | succ m ih=>
  intro k hk hm hl;rw[zJ,zJ];by_cases he:k=ks.length
  ·subst he
   refine⟨true,?_,?_⟩
   ·simp only[vx,zc,xZ,kcf]
   simp only[cy,zc,xZ,kcf,kct]
  have a:k<ks.length:=by omega
  obtain⟨x,e⟩:∃ x,ks[k]? =some x:=⟨_,jf a⟩;obtain⟨b,h1,h2⟩:=ih (k+1) (by omega) (by omega) hl;rw[← xW (by omega)]at h1 h2;simp only[vx,cy,zc,gg a,kct,zG e,za,qb8];cases o:x==[]with
  | true=>exact⟨false,by simp,by simp⟩
  | false=>
   simp only[jo,gL,za,kcf];cases p:decide (((x.length:Nat):Int)>64)with
   | true=>exact⟨false,by simp,by simp⟩
   | false=>
    cases k with
    | zero=>
     refine⟨b,?_,?_⟩
     ·simpa using h1
     simpa using h2
    | succ k=>
     have f:decide ((((k+1:Nat):Int))>0)=true:=kdt (by omega);obtain⟨y,j⟩:∃ y,ks[k]? =some y:=⟨_,jf (by omega)⟩;simp only[f,jo,Bool.and_true,gL,RC (show k+1<=1152921504606846976 by omega),zG j,za,kct,kcf,Ln];cases Op.bytesLess y x with
     | false=>exact⟨false,by simp,by simp⟩
     | true=>exact⟨b,by simpa using h1,by simpa using h2⟩
theorem xP:∀ l:List Val,l.length<vk l
 | []=>by simp[vk]
 | x::l=>by have:=xP l; simp only[vk,ja]; omega
theorem uZ:∀ {l:List Val} {x:Val},x∈l->cn x+2<=vk l
 | y::l,x,h=>by
  simp only[vk];rcases jg.1 h with rfl|h
  ·have:=xP l; omega
  have:=uZ h; omega
theorem oU (n:Nat) (l:List Val) (g e:Val->Int->Int->Option (Int×Bool)) (d:Int) (hn:n<=1099511627776)
  (o:∀ v∈l,∀ d c,∃ r,g v d c=some r/\e v d c=some r):∀ m k:Nat,∀ c:Int,k<=l.length->l.length - k<m->l.length<n ->
  ∃ r,qA (vy n l g d) m (c,true,(k:Int))=some r/\qA (cx n l e d) m (c,(k:Int))=some r:=by
 intro m
 induction m with
 | zero=>intro k _ _ h; omega
 | succ m ih=>
  intro k c hk hm hl;rw[zJ,zJ];by_cases he:k=l.length
  ·subst he
   refine⟨(c,true),?_,?_⟩
   ·simp only[vy,qo,xZ,kcf]
   simp only[cx,qo,xZ,kcf]
  have a:k<l.length:=by omega
  obtain⟨x,f⟩:∃ x,l[k]? =some x:=⟨_,jf a⟩;obtain⟨⟨j,b⟩,h1,h2⟩:=o x (gM f) (kwr .i64 (d - 1)) c;obtain⟨q,t,u,w,y,z⟩:=x;simp only[vy,cx,qo,gg a,kct,zG f,za,h1,h2];rw[xW (by omega)];cases b with
  | true=>
   obtain⟨r,h3,h4⟩:=ih (k+1) j (by omega) (by omega) hl;exact⟨r,h3,by simpa using h4⟩
  | false=>
   refine⟨(j,false),?_,by simp⟩;obtain⟨m,rfl⟩:∃ p,m=p+1:=⟨m - 1,by omega⟩;rw[zJ];simp only[vy,Bool.cond_self,kcf]
theorem qbd (n:Nat) {q:Int} (a:q<=7) (E:Bool) (F:Int) (G:List UInt8) (u:List Val) (H:List (List UInt8)):nI n ⟨q,E,F,G,u,H⟩=uM n ⟨q,E,F,G,u,H⟩:=by
 simp only[uM,nI];have e6:decide (q≥6)=(q==6||q==7):=by
  rw[Bool.eq_iff_iff]; simp; omega
 have e5:decide ((((Val.rows u).length:Nat):Int)>0)=!((((Val.rows u).length:Nat):Int)==0):=by
  generalize (Val.rows u).length=m;cases m with
  | zero=>rfl
  | succ m=>rw[kdt (by omega),kbf.2 (by omega)]; rfl
 have a1:(bif(q != 1)then E else false)=!(bif(q==1)then true else !E):=by
  rw[bne]; cases(q==1)<;>cases E<;>rfl
 have a2:(bif(bif(bif(q != 2)then(q != 6)else false)then(q != 7)else false)then(F != 0)else false)=!(bif(bif(q==2)then true else decide (q≥6))then true else(F==0)):=by
  rw[e6,bne,bne,bne,bne]; cases(q==2)<;>cases(q==6)<;>cases(q==7)<;>cases(F==0)<;>rfl
 have a3:(bif(q != 3)then(!(G==([]:List UInt8)))else false)=!(bif(q==3)then true else(G==([]:List UInt8))):=by
  rw[bne]; cases(q==3)<;>cases(G==([]:List UInt8))<;>rfl
 have a4:(bif(bif(q != 4)then(q != 5)else false)then decide ((((Val.rows u).length:Nat):Int)>0)else false)=!(bif(bif(q==4)then true else(q==5))then true else((((Val.rows u).length:Nat):Int)==0)):=by
  rw[e5,bne,bne]; cases(q==4)<;>cases(q==5)<;>cases((((Val.rows u).length:Nat):Int)==0)<;>rfl
 rw[a1,a2,a3,a4];generalize (bif(q==1)then true else !E)=A;generalize (bif(bif(q==2)then true else decide (q≥6))then true else(F==0))=B;generalize (bif(q==3)then true else(G==([]:List UInt8)))=C;generalize (bif(bif(q==4)then true else(q==5))then true else((((Val.rows u).length:Nat):Int)==0))=D;cases A<;>cases B<;>cases C<;>cases D<;>rfl
theorem XH:∀ n:Nat,n<=1099511627776->∀ v d c,cn v<n->∃ r,vg n v d c=some r/\cv n v d c=some r:=by
 intro n
 induction n with
 | zero=>intro _ _ _ _ h; omega
 | succ n ih=>
  intro hn v d c z;obtain⟨q,F,E,H,u,D⟩:=v;have I:vk u<n/\D.length<n:=by
   have:=gb D;simp only[pb]at this;simp only[cn]at z;have M:=xP u;omega
  have hl:=xP u;have J:∀ v∈u,∀ d c,∃ r,vg n v d c=some r/\cv n v d c=some r:=fun v hm d c=>ih (by omega) v d c (by have:=uZ hm; omega)
  have a:∀ c,∃ r,qA (vy n u (vg n) d) n (c,true,(0:Int))=some r/\qA (cx n u (cv n) d) n (c,(0:Int))=some r:=fun c=>
   oU n u _ _ d (by omega) J n 0 c (by omega) (by omega) (by omega)
  obtain⟨y,m,o⟩:=oT n D c d u (cv n) (by omega) n 0 (by omega) (by omega) I.2;obtain⟨r,e,f⟩:=a (kwr .i64 (c+1));simp only[vg,cv,cR,XQ,uj];generalize hC:kwr .i64 (c+1)=C at *;have p:∃ G:Bool,(bif(bif(bif(decide (d<1))then true else(decide (C>4096)))then true else(decide (q<0)))then true else(decide (q>7)))=G /\
    (bif(bif(bif(decide (C>4096))then true else(decide (d<1)))then true else(decide (q<0)))then true else(decide (q>7)))=G/\(G=false->q<=7):=by
   refine⟨_,rfl,?_,?_⟩
   ·cases decide (C>4096)<;>cases decide (d<1)<;>rfl
   cases decide (C>4096)<;>cases decide (d<1)<;>cases decide (q<0)<;>simp
  obtain⟨G,t,w,x⟩:=p;rw[t,w];cases G with
  | true=>exact⟨(C,false),by simp,by simp⟩
  | false=>
   have K:=x rfl;rw[qbd n K];obtain⟨B,L⟩:∃ B,uM n ⟨q,F,E,H,u,D⟩=some B:=⟨_,rfl⟩;rw[L];have e6:decide (q≥6)=(bif(q==6)then true else(q==7)):=by
    rw[Bool.eq_iff_iff]; simp; omega
   rw[e6];cases B with
   | false=>exact⟨(C,false),by simp,by simp⟩
   | true=>
    simp only[jo,jp,gL,za,kcf,kct];cases N:(bif(bif(q==6)then true else(q==7))then decide (E<1)else false)with
    | true=>exact⟨(C,false),by simp,by simp⟩
    | false=>
     cases h5:(q==5)with
     | false=>
      refine⟨r,?_,?_⟩
      ·simpa using e
      simpa[cw,hC]using f
     | true=>
      cases O:((((qi D).length:Nat):Int) != (((Val.rows u).length:Nat):Int))with
      | true=>exact⟨(C,false),by simp,by simp⟩
      | false=>
       simp only[jo,Bool.and_true,gL,kcf,kct];have g:qA (vx n D) n (0:Int)=some y:=m;have j:qA (cy n D c u (cv n) d) n (0:Int)=_:=o;rw[g,j,za];cases y with
       | true=>
        refine⟨r,?_,?_⟩
        ·simpa using e
        simpa[cw,hC]using f
       | false=>exact⟨(C,false),by simp,by simp⟩
theorem er {n:Nat} (hn:n<=1099511627776) {v:Val} (a:cn v<n):∃ b:Bool,uB n v=some (bif b then 0 else 20)/\gm n v=some b:=by
 obtain⟨d,e,f,g,h,j⟩:=v;obtain⟨⟨c,b⟩,h1,h2⟩:=XH n hn _ 32 0 a;refine⟨b,?_,?_⟩
 ·simp only[uB,h1,za]
  cases b<;>rfl
 ·simp only[gm,h2,za]
open Go Ax
theorem RV {A:Type} {B:(Int->Option Bool)->Int->Option Bool} {l a:List A} (hlen:l.length=a.length)
  (step:∀ (k:Nat) x y d,l[k]? =some x->a[k]? =some y->∃ b,(b=true↔x=y)/\B d (k:Int)=bif b then d ((k+1:Nat):Int)else some false)
  (c:∀ d,B d (l.length:Int)=some true) {n:Nat} (hn:l.length<n):∃ b,qA B n 0=some b/\(b=true↔l=a):=by
 have main:∀ m k:Nat,k<=l.length->l.length - k<m->∃ b,qA B m (k:Int)=some b/\(b=true↔l.drop k=a.drop k):=by
  intro m
  induction m with
  | zero=>intro k _ h; omega
  | succ m ih=>
   intro k hk hm;rw[zJ];by_cases he:k=l.length
   ·subst he
    exact⟨true,c _,by rw[List.drop_length,hlen,List.drop_length]; simp⟩
   have h1:k<l.length:=by omega
   have h2:k<a.length:=by omega
   obtain⟨b,e,f⟩:=step k _ _ (qA B m) (jf h1) (jf h2);rw[f,jn h1,jn h2,List.cons.injEq,← e];cases b with
   | false=>exact⟨false,rfl,by simp⟩
   | true=>
    obtain⟨b,h3,h4⟩:=ih (k+1) (by omega) (by omega);exact⟨b,h3,by simpa using h4⟩
 obtain⟨b,h1,h2⟩:=main n 0 (by omega) (by omega);exact⟨b,h1,by simpa using h2⟩
theorem LL {a b:Nat}:((((a:Nat):Int) != ((b:Nat):Int))=true)↔a≠b:=by simp[Int.natCast_inj]
theorem mL {n:Nat} {x y:List (List UInt8)} (h:x.length<n) (hn:n<=1099511627776):∃ b,zk n x y=some b/\(b=true↔x=y):=by
 unfold zk;by_cases hl:x.length=y.length
 ·have:((((qi x).length:Nat):Int) != (((qi y).length:Nat):Int))=false:=by simp[hl]
  rw[this,kcf];refine RV hl (fun k a b c ha d=>⟨a==b,beq_iff_eq,?_⟩) (fun c=>by simp only[zY,zc,xZ,kcf]) h
  have hk:=py ha;simp only[zY,zc,gg hk,kct,zG ha,zG d,za];rw[xW (by omega)];cases a==b<;>rfl
 ·have:((((qi x).length:Nat):Int) != (((qi y).length:Nat):Int))=true:=by rw[zc,zc]; exact LL.2 hl
  rw[this];exact⟨false,rfl,by simp; intro e; exact hl (congrArg _ e)⟩
theorem Uk {n:Nat} {x y:List (List UInt8)} (h:x.length<n) (hn:n<=1099511627776):∃ b,xS n x y=some b/\(b=true↔x=y):=by
 unfold xS;by_cases hl:x.length=y.length
 ·have:((((qi x).length:Nat):Int) != (((qi y).length:Nat):Int))=false:=by simp[hl]
  rw[this,kcf];refine RV hl (fun k a b c ha d=>⟨a==b,beq_iff_eq,?_⟩) (fun c=>by simp only[gp,zc,xZ,kcf]) h
  have hk:=py ha;simp only[gp,zc,gg hk,kct,zG ha,zG d,za];rw[xW (by omega)]
  first|(cases a==b<;>rfl)|(cases h:a==b<;>simp[h,bne])
 ·have:((((qi x).length:Nat):Int) != (((qi y).length:Nat):Int))=true:=by rw[zc,zc]; exact LL.2 hl
  rw[this];exact⟨false,rfl,by simp; intro e; exact hl (congrArg _ e)⟩
theorem NP {d e:Int} {f g:Bool} {h j:Int} {m c:List UInt8} {u o:List (List UInt8)} {v p:List Val} {N L:Option Bool} {a b:Bool} (w:N=some a) (ha:a=true↔u=o) (x:L=some b) (y:b=true↔v=p) :
  ∃ r,(bnd (qE (bif(bif(bif(d==e)then(f==g)else false)then(h==j)else false)then(m==c)else false) N) fun q=>
   bnd (qE (bif(bif(bif(bif(d==e)then(f==g)else false)then(h==j)else false)then(m==c)else false)then q else false) L) fun t=>
   some (bif(bif(bif(bif(bif(d==e)then(f==g)else false)then(h==j)else false)then(m==c)else false)then q else false)then t else false))=some r /\
  (r=true↔Val.mk d f h m v u=Val.mk e g j c p o):=by
 subst w x;have e1:(d==e)=true↔d=e:=beq_iff_eq;have e2:(f==g)=true↔f=g:=beq_iff_eq;have e3:(h==j)=true↔h=j:=beq_iff_eq;have e4:(m==c)=true↔m=c:=beq_iff_eq;rw[Val.mk.injEq,← e1,← e2,← e3,← e4,← y,← ha];cases(d==e)<;>cases(f==g)<;>cases(h==j)<;>cases(m==c)<;>cases a<;>cases b<;>exact⟨_,rfl,by simp⟩
theorem LW:∀ n:Nat,n<=1099511627776->(∀ v w,cn v<n->∃ b,xp n v w=some b/\(b=true↔v=w))/\(∀ l d,vk l<n->∃ b,gD n l d=some b/\(b=true↔l=d)):=by
 intro n
 induction n with
 | zero=>intro _; exact⟨fun _ _ h=>by omega,fun _ _ h=>by omega⟩
 | succ n ih=>
  intro hn;obtain⟨g,j⟩:=ih (by omega);refine⟨fun v w z=>?_,fun l d hl=>?_⟩
  ·obtain⟨E,G,H,J,q,u⟩:=v
   obtain⟨M,O,Q,F,C,D⟩:=w;have f:vk q<n/\u.length<n:=by
    have:=gb u;simp only[pb]at this;simp only[cn]at z;have I:=xP q;omega
   obtain⟨a,m,o⟩:=Uk (y:=D) f.2 (by omega);obtain⟨b,p,t⟩:=j q C f.1;simp only[xp,Qz];exact NP m o p t
  have hlen:=xP l;simp only[gD,bD];by_cases c:l.length=d.length
  ·have:((((Val.rows l).length:Nat):Int) != (((Val.rows d).length:Nat):Int))=false:=by simp[c]
   rw[this,kcf];refine RV c (fun k a b B ha f=>?_) (fun B=>by simp only[gW,qo,xZ,kcf]) (by omega)
   have hk:=py ha;obtain⟨r,hr,x⟩:=g a b (by have:=uZ (gM ha); omega);refine⟨r,x,?_⟩;obtain⟨E,G,H,J,q,u⟩:=a;obtain⟨M,O,Q,F,C,D⟩:=b;simp only[gW,qo,gg hk,kct,zG ha,zG f,za,hr];rw[xW (by omega)];cases r<;>rfl
  ·have:((((Val.rows l).length:Nat):Int) != (((Val.rows d).length:Nat):Int))=true:=by rw[qo,qo]; exact LL.2 c
   rw[this];exact⟨false,rfl,by simp; intro e; exact c (congrArg _ e)⟩
theorem Hk:∀ n:Nat,n<=1099511627776->(∀ v w,cn v<n->∃ b,ui n v w=some b/\(b=true↔v=w))/\(∀ l d,vk l<n->∃ b,qh n l d=some b/\(b=true↔l=d)):=by
 intro n
 induction n with
 | zero=>intro _; exact⟨fun _ _ h=>by omega,fun _ _ h=>by omega⟩
 | succ n ih=>
  intro hn;obtain⟨g,j⟩:=ih (by omega);refine⟨fun v w z=>?_,fun l d hl=>?_⟩
  ·obtain⟨E,G,H,J,q,u⟩:=v
   obtain⟨M,O,Q,F,C,D⟩:=w;have f:vk q<n/\u.length<n:=by
    have:=gb u;simp only[pb]at this;simp only[cn]at z;have I:=xP q;omega
   obtain⟨a,m,o⟩:=mL (y:=D) f.2 (by omega);obtain⟨b,p,t⟩:=j q C f.1;simp only[ui,pD];exact NP m o p t
  have hlen:=xP l;simp only[qh,qD];by_cases c:l.length=d.length
  ·have:((((Val.rows l).length:Nat):Int) != (((Val.rows d).length:Nat):Int))=false:=by simp[c]
   rw[this,kcf];refine RV c (fun k a b B ha f=>?_) (fun B=>by simp only[qt,qo,xZ,kcf]) (by omega)
   have hk:=py ha;obtain⟨r,hr,x⟩:=g a b (by have:=uZ (gM ha); omega);refine⟨r,x,?_⟩;obtain⟨E,G,H,J,q,u⟩:=a;obtain⟨M,O,Q,F,C,D⟩:=b;simp only[qt,qo,gg hk,kct,zG ha,zG f,za,hr];rw[xW (by omega)];cases r<;>rfl
  ·have:((((Val.rows l).length:Nat):Int) != (((Val.rows d).length:Nat):Int))=true:=by rw[qo,qo]; exact LL.2 c
   rw[this];exact⟨false,rfl,by simp; intro e; exact c (congrArg _ e)⟩
open Go Ax
open Go Ax
open Go Ax
theorem tY {A:Type} (f:A->Nat):∀ {l:List A} {x:A},x∈l->f x<=(l.map f).sum
 | y::l,x,h=>by
  rcases jg.1 h with rfl|h
  ·simp
  have:=tY f h; simp; omega
theorem tX {A:Type} (f:A->Nat) (a:∀ x,1<=f x):∀ l:List A,l.length<=(l.map f).sum
 | []=>by simp
 | x::l=>by have:=tX f a l; have:=a x; simp; omega
def Tn (d:qd):Nat:=1+d.var_.length+pb d.labels+pb d.keys+cM d.vals
def SX (d:qf):Nat:=1+d.var_.length+d.type_.length+pb d.keys+cM d.vals
def qdb (p:xN):Nat:=1+(p.nodes.map Tn).sum+(p.edges.map SX).sum
@[simp] theorem Ff (l:List qd):(qd.rows l).length=l.length:=by simp[qd.rows]
@[simp] theorem GX (l:List qf):(qf.rows l).length=l.length:=by simp[qf.rows]
@[simp] theorem Fi (l:List xN):(xN.rows l).length=l.length:=by simp[xN.rows]
open Go Ax
open Go Ax
open Go Ax
def qe7 (l:List xN):Nat:=1+(l.map qdb).sum
open Go Ax
def qd6 (i:xq):Nat:=1+i.as_.length+cQ i.e
def az (s:zw):Nat:=1+cQ s.e
def aC (s:qq):Nat:=1+s.var_.length+s.key.length+s.label.length+cQ s.e
def Pc (c:qv):Nat:=1+qe7 c.paths+cM c.where_+cQ c.e+c.var_.length+(c.items.map qd6).sum+(c.order.map az).sum+cM c.skip+cM c.limit+(c.sets.map aC).sum+pb c.vars
open Go Ax
open Go Ax
@[simp] theorem Vy (l:List qv):(qv.rows l).length=l.length:=by simp[qv.rows]
def iw (l:List qv):Nat:=(l.map Pc).sum
theorem ep (c:qv):1<=Pc c:=by unfold Pc; omega
open Go Ax
open Go Ax
open Go Ax
theorem nC {R:Type} {B:(Int×Int->Option R)->Int×Int->Option R} {len:Nat} (K:Int->Option R) (d:∀ k:Nat,k<len->∀ (acc:Int) (c:Int×Int->Option R),B c (acc,(k:Int))=K acc\/∃ a,B c (acc,(k:Int))=c (a,((k+1:Nat):Int)))
  (he:∀ (acc:Int) (c:Int×Int->Option R),B c (acc,(len:Int))=K acc) {n:Nat} (hn:len<n) (acc:Int):∃ a,qA B n (acc,(0:Int))=K a:=by
 have key:∀ (m k:Nat) (acc:Int),k<=len->len - k<m->∃ a,qA B m (acc,(k:Int))=K a:=by
  intro m
  induction m with
  | zero=>intro k _ _ h; omega
  | succ m ih=>
   intro k acc hk hm;rw[zJ];by_cases h:k=len
   ·subst h; exact⟨_,he _ _⟩
   rcases d k (by omega) acc (qA B m)with h|⟨a,h⟩
   ·exact⟨_,h⟩
   rw[h]; exact ih (k+1) a (by omega) (by omega)
 exact key n 0 acc (by omega) (by omega)
theorem lX:∀ n:Nat,n<=1099511627776->∀ v:Val,cn v<n->∃ r,cu n v=some r:=by
 intro n
 induction n with
 | zero=>intro _ v h; omega
 | succ n ih=>
  intro hn v d;obtain⟨f,g,j,m,q,o⟩:=v;have hl:=xP q;simp only[cn]at d;simp only[cu,sQ];obtain⟨a,h⟩:=nC (B:=fD n q (cu n)) (len:=q.length) some
   (fun k hk acc e=>by
    have c:=jf hk;generalize q[k]=y at c;obtain⟨r,hr⟩:=ih (by omega) y (by have:=uZ (gM c); omega);obtain⟨p,t,u,w,x,z⟩:=y
    right
    simp only[fD,qo,gg hk,kct,zG c,za,hr];rw[xW (by omega)];exact⟨_,rfl⟩)
   (fun acc e=>by simp only[fD,qo,xZ,kcf]) (n:=n) (by omega) 1
  exact⟨_,h⟩
theorem XP:∀ n:Nat,n<=1099511627776->∀ x:qa,cQ x<n->∀ m:Int,∃ r,uq n x m=some r:=by
 intro n
 induction n with
 | zero=>intro _ v h; omega
 | succ n ih=>
  intro hn x c m;obtain⟨g,j,⟨u,C,D,E,F,G⟩,o,q⟩:=x;have hl:=dA q;simp only[cQ]at c;obtain⟨p,hp⟩:=lX n (by omega) ⟨u,C,D,E,F,G⟩ (by omega);simp only[uq,sR,hp,za];obtain⟨a,h⟩:=nC (B:=fK n q m (uq n)) (len:=q.length) some
   (fun k hk acc e=>by
    have c:=jf hk;generalize q[k]=y at c;simp only[fK,zM,gg hk,kct];by_cases d:acc<m
    ·obtain⟨r,hr⟩:=ih (by omega) y (by have:=cN (gM c); omega) (kwr .i64 (m - acc))
     obtain⟨t,w,⟨z,H,I,J,K,L⟩,M,f⟩:=y
     right
     simp only[kdt d,kct,zG c,za,hr];rw[xW (by omega)];exact⟨_,rfl⟩
    left; rw[kdf d]; rfl)
   (fun acc e=>by simp only[fK,zM,xZ,kcf]) (n:=n) (by omega) _
  exact⟨_,h⟩
theorem pa {n:Nat} (hn:n<=1099511627776) {l:List qa} (h:cM l<n) (m:Int):∃ r,ua n l m=some r:=by
 have hl:=dA l;unfold ua;exact nC (B:=uN n l m) (len:=l.length) some
  (fun k hk acc d=>by
   have a:=jf hk;generalize l[k]=y at a;simp only[uN,zM,gg hk,kct];by_cases c:acc<m
   ·obtain⟨r,hr⟩:=XP n hn y (by have:=cN (gM a); omega) (kwr .i64 (m - acc))
    obtain⟨f,g,⟨j,o,p,q,t,u⟩,v,e⟩:=y
    right
    simp only[kdt c,kct,zG a,za,hr];rw[xW (by omega)];exact⟨_,rfl⟩
   left; rw[kdf c]; rfl)
  (fun acc d=>by simp only[uN,zM,xZ,kcf]) (n:=n) (by omega) 0
theorem lD {n:Nat} (hn:n<=1099511627776) {cl:List qv} (h:iw cl<n):∃ r,rN n ⟨cl⟩=some r:=by
 have hlen:=tX Pc ep cl;unfold iw at h;unfold rN;obtain⟨a,e⟩:=nC (B:=fG n cl) (len:=cl.length) (fun acc=>some (decide (acc≥3000)))
  (fun k hk acc t=>by
   have L:=jf hk;generalize cl[k]=c at L;have w:Pc c<n:=by have:=tY Pc (gM L); omega
   simp only[fG,Vy,gg hk,kct];by_cases m:acc<3000
   ·right
    have hp:=tX qdb (fun p=>by unfold qdb; omega) c.paths
    have x:=tX qd6 (fun p=>by unfold qd6; omega) c.items
    have X:=tX az (fun p=>by unfold az; omega) c.order
    have Y:=tX aC (fun p=>by unfold aC; omega) c.sets
    have mp:∀ p∈c.paths,qdb p<n:=fun p hm=>by have:=tY qdb hm; unfold Pc qe7 at w; omega
    have mi:∀ p∈c.items,cQ p.e<n:=fun p hm=>by have:=tY qd6 hm; have e:qd6 p=1+p.as_.length+cQ p.e:=rfl; unfold Pc at w; omega
    have mo:∀ p∈c.order,cQ p.e<n:=fun p hm=>by have:=tY az hm; have e:az p=1+cQ p.e:=rfl; unfold Pc at w; omega
    have ms:∀ p∈c.sets,cQ p.e<n:=fun p hm=>by have:=tY aC hm; have e:aC p=1+p.var_.length+p.key.length+p.label.length+cQ p.e:=rfl; unfold Pc at w; omega
    obtain⟨r1,h1⟩:=XP n hn c.e (by unfold Pc at w; omega) 3000;obtain⟨r2,h2⟩:=pa hn (l:=c.where_) (by unfold Pc at w; omega) 3000;obtain⟨r3,h3⟩:=pa hn (l:=c.skip) (by unfold Pc at w; omega) 3000;obtain⟨r4,h4⟩:=pa hn (l:=c.limit) (by unfold Pc at w; omega) 3000;unfold Pc qe7 at w;obtain⟨x1,D,x6,⟨x7,x8,⟨x9,Z,x11,x12,x13,x14⟩,x15,x16⟩,x17,C,x19,u,x21,x22,q,x24,x25⟩:=c;simp only at hp x X Y mp mi mo ms h1 h2 h3 h4 w;simp only[kdt m,kct,zG L,za,h1,h2,h3,h4];have L7:∀ acc:Int,∃ f,qA (uF n q t (k:Int)) n (acc,(0:Int))=t (f,((k+1:Nat):Int)):=fun acc=>nC (B:=uF n q t (k:Int)) (len:=q.length) (fun acc=>t (acc,((k+1:Nat):Int)))
     (fun j v acc g=>by
      have o:=jf v;generalize q[j]=y at o;simp only[uF,qq.rows,jl,gg v,kct];by_cases m:acc<3000
      ·obtain⟨r,hr⟩:=XP n hn y.e (ms y (gM o)) 3000
       obtain⟨P,z2,z3,⟨E,G,⟨H,J,M,O,Q,U⟩,V,F⟩⟩:=y;simp only at hr
       right
       simp only[kdt m,kct,zG o,za,hr];rw[xW (k:=j) (by omega)];exact⟨_,rfl⟩
      left; rw[kdf m,kcf,xW (by omega)])
     (fun acc g=>by
      simp only[uF,qq.rows,jl,xZ,kcf];rw[xW (by omega)]) (n:=n) (by omega) acc
    have L6:∀ acc:Int,∃ f,qA (uE n u q t (k:Int)) n (acc,(0:Int))=t (f,((k+1:Nat):Int)):=fun acc=>by
     obtain⟨a,ha⟩:=nC (B:=uE n u q t (k:Int)) (len:=u.length) (fun acc=>qA (uF n q t (k:Int)) n (acc,(0:Int)))
      (fun j v acc g=>by
       have o:=jf v;generalize u[j]=y at o;simp only[uE,zw.rows,jl,gg v,kct];by_cases m:acc<3000
       ·obtain⟨r,hr⟩:=XP n hn y.e (mo y (gM o)) 3000
        obtain⟨⟨E,G,⟨H,J,M,O,Q,U⟩,V,F⟩,P⟩:=y;simp only at hr
        right
        simp only[kdt m,kct,zG o,za,hr];rw[xW (k:=j) (by omega)];exact⟨_,rfl⟩
       left; rw[kdf m,kcf])
      (fun acc g=>by simp only[uE,zw.rows,jl,xZ,kcf]) (n:=n) (by omega) acc
     rw[ha]; exact L7 a
    have L5:∀ acc:Int,∃ f,qA (uD n C u q t (k:Int)) n (acc,(0:Int))=t (f,((k+1:Nat):Int)):=fun acc=>by
     obtain⟨a,ha⟩:=nC (B:=uD n C u q t (k:Int)) (len:=C.length) (fun acc=>qA (uE n u q t (k:Int)) n (acc,(0:Int)))
      (fun j v acc g=>by
       have o:=jf v;generalize C[j]=y at o;simp only[uD,xq.rows,jl,gg v,kct];by_cases m:acc<3000
       ·obtain⟨r,hr⟩:=XP n hn y.e (mi y (gM o)) 3000
        obtain⟨⟨E,G,⟨H,J,M,O,Q,U⟩,V,F⟩,P⟩:=y;simp only at hr
        right
        simp only[kdt m,kct,zG o,za,hr];rw[xW (k:=j) (by omega)];exact⟨_,rfl⟩
       left; rw[kdf m,kcf])
      (fun acc g=>by simp only[uD,xq.rows,jl,xZ,kcf]) (n:=n) (by omega) acc
     rw[ha]; exact L6 a
    have L2:∀ acc:Int,∃ f,qA (gE n D C u q t (k:Int)) n (acc,(0:Int))=t (f,((k+1:Nat):Int)):=fun acc=>by
     obtain⟨a,ha⟩:=nC (B:=gE n D C u q t (k:Int)) (len:=D.length) (fun acc=>qA (uD n C u q t (k:Int)) n (acc,(0:Int)))
      (fun j v acc g=>by
       have o:=jf v;generalize D[j]=p at o;have K:=mp p (gM o);simp only[gE,Fi,gg v,kct];by_cases m:acc<3000
       ·right
        rw[kdt m,kct];obtain⟨nodes,edges⟩:=p;unfold qdb at K;simp only at K;have hn1:=tX Tn (fun p=>by unfold Tn; omega) nodes
        have hn2:=tX SX (fun p=>by unfold SX; omega) edges
        obtain⟨b,N⟩:=nC (B:=fH n D (j:Int) g) (len:=nodes.length) (fun acc=>qA (gF n D (j:Int) g) n (acc,(0:Int)))
         (fun i x acc z=>by
          have hz:=jf x;generalize nodes[i]=d at hz;have I:Tn d<n:=by have:=tY Tn (gM hz); omega
          simp only[fH,zG o,za,Ff,gg x,kct];by_cases m:acc<3000
          ·obtain⟨r,hr⟩:=pa hn (l:=d.vals) (by unfold Tn at I; omega) 3000
           obtain⟨d1,d2,d3,d4⟩:=d;simp only at hr
           right
           simp only[kdt m,kct,zG hz,za,hr];rw[xW (k:=i) (by omega)];exact⟨_,rfl⟩
          left; rw[kdf m,kcf])
         (fun acc z=>by simp only[fH,zG o,za,Ff,xZ,kcf]) (n:=n) (by omega) acc
        rw[N];exact nC (B:=gF n D (j:Int) g) (len:=edges.length) (fun acc=>g (acc,((j+1:Nat):Int)))
         (fun i x acc z=>by
          have hz:=jf x;generalize edges[i]=d at hz;have I:SX d<n:=by have:=tY SX (gM hz); omega
          simp only[gF,zG o,za,GX,gg x,kct];by_cases m:acc<3000
          ·obtain⟨r,hr⟩:=pa hn (l:=d.vals) (by unfold SX at I; omega) 3000
           obtain⟨d1,d2,d3,d4,d5⟩:=d;simp only at hr
           right
           simp only[kdt m,kct,zG hz,za,hr];rw[xW (k:=i) (by omega)];exact⟨_,rfl⟩
          left; rw[kdf m,kcf,xW (by omega)])
         (fun acc z=>by
          simp only[gF,zG o,za,GX,xZ,kcf];rw[xW (by omega)]) (n:=n) (by omega) b
       left; rw[kdf m,kcf])
      (fun acc g=>by simp only[gE,Fi,xZ,kcf]) (n:=n) (by omega) acc
     rw[ha]; exact L5 a
    exact L2 _
   left; rw[kdf m]; rfl)
  (fun acc t=>by simp only[fG,Vy,xZ,kcf]) (n:=n) (by omega) 0
 exact⟨_,e⟩
open Go Ax
def dgB (m:Nat):UInt8:=UInt8.ofNat (48+m)
def TO (m:Nat):List UInt8:=if h:m<10 then[dgB m]else TO (m / 10)++[dgB (m % 10)]
theorem Bu {m:Nat} (h:m<10):TO m=[dgB m]:=by rw[TO,dif_pos h]
theorem iC {m:Nat} (h:¬ m<10):TO m=TO (m / 10)++[dgB (m % 10)]:=by rw[TO,dif_neg h]
theorem XW:∀ (d m:Nat),m<10 ^ (d+1)->(TO m).length<=d+1/\1<=(TO m).length
 | 0,m,h=>by rw[Bu (by simpa using h)]; simp
 | d+1,m,h=>by
  by_cases hm:m<10
  ·rw[Bu hm]; simp
  rw[iC hm,jb];have:=XW d (m / 10) (by rw[Nat.div_lt_iff_lt_mul (by decide)]; rw[Nat.pow_succ]at h; exact h);simp only[ja,jc];omega
def qef (i:Int):List UInt8:=if i<0 then 45::TO (-i).toNat else TO i.toNat
theorem p19:(10:Nat) ^ 19=10000000000000000000:=by decide
theorem oe {i:Int} (a:-9223372036854775808<=i) (h1:i<=9223372036854775807):(qef i).length<=20:=by
 unfold qef;split
 ·have:=(XW 18 (-i).toNat (by rw[p19]; omega)).1
  simp only[ja]; omega
 have:=(XW 18 i.toNat (by rw[p19]; omega)).1;omega
theorem Ma (z:Int) (a:0<=z) (h1:z<18446744073709551616):kwr .u64 z=z:=by
 show z % (2 ^ 64:Int)=z;omega
theorem qaw (z:Int) (a:-9223372036854775808<=z) (h1:z<0):kwr .u64 (0 - kwr .u64 z) = -z:=by
 show(0 - z % (2 ^ 64:Int)) % (2 ^ 64:Int) = -z;omega
theorem Cr {A:Type}:∀ (b:List A) (k:Nat) (x:A),k<b.length->(b.set k x).drop k=x::b.drop (k+1)
 | [],_,_,h=>by simp at h
 | a::b,0,x,_=>rfl
 | a::b,k+1,x,h=>by simpa using Cr b k x (by simpa using h)
theorem qaq {n a:Nat} {b:List UInt8} (ha:a<20) (c:b.length=20):da n ((a:Int),b)=some (b.drop a):=by
 unfold da;simp only;rw[natI_nat,za,vH (kdt ha),vH (kdt (by omega))];rw[List.take_of_length_le (by rw[jM]; omega)]
theorem qbj {m:Nat} (h:m<10):([(48:UInt8),(49:UInt8),(50:UInt8),(51:UInt8),(52:UInt8),(53:UInt8),(54:UInt8),(55:UInt8),(56:UInt8),(57:UInt8)]:List UInt8)[m]? =some (dgB m):=by
 have:m=0\/m=1\/m=2\/m=3\/m=4\/m=5\/m=6\/m=7\/m=8\/m=9:=by omega
 rcases this with rfl|rfl|rfl|rfl|rfl|rfl|rfl|rfl|rfl|rfl<;>rfl
def oG (i:Int):List UInt8:=if i<0 then[45]else[]
theorem Sn (n:Nat) (i:Int):∀ (d m a f:Nat) (b:List UInt8),m<10 ^ (d+1)->d<=18->m<=9223372036854775808->(TO m).length+(oG i).length<=a->a<=20->b.length=20->d+1<=f ->
  qA (db n i) f ((a:Int),(m:Int),b)=some (oG i++TO m++b.drop a):=by
 intro d;have g:∀ (m a:Nat) (b:List UInt8) (r:Int×Int×List UInt8->Option (List UInt8)),m<=9223372036854775808->1<=a->a<=20->b.length=20->(m<10->1+(oG i).length<=a) ->
   db n i r ((a:Int),(m:Int),b)=(if m<10 then some (oG i++dgB (m % 10)::b.drop a)else r (((a - 1:Nat):Int),((m / 10:Nat):Int),b.set (a - 1) (dgB (m % 10)))):=by
  intro m a b r hm ha h j o;have hr:m % 10<10:=Nat.mod_lt _ (by decide);simp only[db];rw[show Int.tmod (m:Int) 10=((m % 10:Nat):Int)from by rw[Int.ofNat_tmod]; rfl,natI_nat,za,vH (kdt hr),qbj hr,za];rw[RB (by omega) (by omega),show(a:Int) - 1=((a - 1:Nat):Int)from by omega,natI_nat,za,vH (kdt (by omega)),SC,za,vH (kdt (by omega))];have p:(b.set (a - 1) (dgB (m % 10))).length=20:=by rw[List.length_set]; exact j
  have q:(b.set (a - 1) (dgB (m % 10))).drop (a - 1)=dgB (m % 10)::b.drop a:=by
   rw[Cr b (a - 1) _ (by omega),show a - 1+1=a from by omega]
  by_cases c:m<10
  ·have o:=o c
   rw[kdt (by omega:(m:Int)<10),kct,if_pos c];unfold oG at o ⊢;by_cases e:i<0
   ·rw[kdt e,kct,if_pos e]
    rw[if_pos e]at o;simp only[ja,jc]at o;rw[RB (by omega) (by omega),show((a - 1:Nat):Int) - 1=((a - 2:Nat):Int)from by omega,natI_nat,za,vH (kdt (by omega)),show u8I (45:Int)=some 45 from rfl,za,vH (kdt (by omega))];rw[qaq (by omega) (by rw[List.length_set]; exact p),Cr _ (a - 2) _ (by omega),show a - 2+1=a - 1 from by omega,q];rfl
   rw[kdf e,kcf,if_neg e,qaq (by omega) p,q];rfl
  rw[kdf (by omega:¬ (m:Int)<10),kcf,if_neg c,show Int.tdiv (m:Int) 10=((m / 10:Nat):Int)from by rw[Int.ofNat_tdiv]; rfl,Ma _ (by omega) (by omega)]
 induction d with
 | zero=>
  intro m a f b hm u t ha h j v;obtain⟨f,rfl⟩:=jj (by omega:f≠0);have hm:m<10:=by simpa using hm
  rw[Bu hm]at ha ⊢;simp only[ja,jc]at ha;rw[zJ,g m a b _ t (by omega) h j (fun _=>by omega),if_pos hm,Nat.mod_eq_of_lt hm]
  simp
 | succ d ih=>
  intro m a f b hm u t ha h j v;obtain⟨f,rfl⟩:=jj (by omega:f≠0);have h1:=(XW (d+1) m hm).2;rw[zJ,g m a b _ t (by omega) h j (fun c=>by rw[Bu c]at ha; simpa using ha)]
  by_cases c:m<10
  ·rw[if_pos c,Bu c,Nat.mod_eq_of_lt c]; simp
  have w:m / 10<10 ^ (d+1):=by rw[Nat.div_lt_iff_lt_mul (by decide)]; rw[Nat.pow_succ]at hm; exact hm
  rw[iC c]at ha ⊢;simp only[jb,ja,jc]at ha;rw[if_neg c,ih (m / 10) (a - 1) f _ w (by omega) (by omega) (by omega) (by omega) (by rw[List.length_set]; exact j) (by omega),Cr b (a - 1) _ (by omega),show a - 1+1=a from by omega];simp
theorem og {f:Nat} (e:400<=f) {i:Int} (d:-9223372036854775808<=i) (h1:i<=9223372036854775807):bo f i=some (qef i):=by
 unfold bo gl;have hl:(List.replicate 20 (0:UInt8)).length=20:=by simp
 have c:(List.replicate 20 (0:UInt8)).drop 20=[]:=rfl;by_cases a:i<0
 ·rw[kdt a,kct,za,qaw i d a,show -i=(((-i).toNat:Nat):Int)from by omega]
  have hlen:=(XW 18 (-i).toNat (by rw[p19]; omega)).1;have:=Sn f i 18 (-i).toNat 20 f (List.replicate 20 0) (by rw[p19]; omega) (by omega) (by omega) (by unfold oG; rw[if_pos a]; simp only[ja,jc]; omega) (by omega) hl (by omega);rw[c]at this;refine this.trans ?_;unfold oG qef;rw[if_pos a,if_pos a];simp
 rw[kdf a,kcf,za,Ma i (by omega) (by omega)];have hlen:=(XW 18 i.toNat (by rw[p19]; omega)).1;have:=Sn f i 18 i.toNat 20 f (List.replicate 20 0) (by rw[p19]; omega) (by omega) (by omega) (by unfold oG; rw[if_neg a]; simp only[jc]; omega) (by omega) hl (by omega);rw[c]at this;rw[show i=((i.toNat:Nat):Int)from by omega]at this ⊢;rw[Int.toNat_natCast]at this;refine this.trans ?_;unfold oG qef;rw[if_neg (by omega),if_neg (by omega),Int.toNat_natCast];simp
open Go Ax
def ctB (b:UInt8):Bool:=decide (128<=b.toNat/\b.toNat<192)
def Qu:List UInt8->Nat
 | []=>0
 | c::t=>
  if c.toNat<128 then 1
  else if c.toNat<194\/244<c.toNat then 0
  else match t with
   | []=>0
   | d::t2=>
    if ctB d=false then 0
    else if c.toNat<224 then 2
    else match t2 with
     | []=>0
     | e::t3=>
      if ctB e=false\/(c.toNat=224/\d.toNat<160)\/(c.toNat=237/\160<=d.toNat)then 0
      else if c.toNat<240 then 3
      else match t3 with
       | []=>0
       | f::_=>if ctB f=false\/(c.toNat=240/\d.toNat<144)\/(c.toNat=244/\144<=d.toNat)then 0 else 4
theorem Qv (c:UInt8) (t:List UInt8):Qu (c::t)=if c.toNat<128 then 1
  else if c.toNat<194\/244<c.toNat then 0
  else match t with
   | []=>0
   | d::t2=>
    if ctB d=false then 0
    else if c.toNat<224 then 2
    else match t2 with
     | []=>0
     | e::t3=>
      if ctB e=false\/(c.toNat=224/\d.toNat<160)\/(c.toNat=237/\160<=d.toNat)then 0
      else if c.toNat<240 then 3
      else match t3 with
       | []=>0
       | f::_=>if ctB f=false\/(c.toNat=240/\d.toNat<144)\/(c.toNat=244/\144<=d.toNat)then 0 else 4:=rfl
def PN (s:List UInt8):Nat×Nat:=
 let at' (k:Nat):Nat:=((s[k]?).getD 0).toNat
 let cont (k:Nat):Bool:=decide (k<s.length)&&at' k / 64==2
 let b0:=at' 0
 if b0<0x80 then(b0,1)
 else if b0 / 32==6&&cont 1 then
  let c:=(b0 % 32) * 64+at' 1 % 64
  if c≥0x80 then(c,2)else(Utf8.runeError,1)
 else if b0 / 16==14&&cont 1&&cont 2 then
  let c:=(b0 % 16) * 4096+(at' 1 % 64) * 64+at' 2 % 64
  if c≥0x800&&Utf8.valid c then(c,3)else(Utf8.runeError,1)
 else if b0 / 8==30&&cont 1&&cont 2&&cont 3 then
  let c:=(b0 % 8) * 262144+(at' 1 % 64) * 4096+(at' 2 % 64) * 64+at' 3 % 64
  if c≥0x10000&&Utf8.valid c then(c,4)else(Utf8.runeError,1)
 else(Utf8.runeError,1)
theorem qad (l:List UInt8) (i:Nat):Utf8.decode ⟨l.toArray⟩ i=PN (l.drop i):=by
 have h1:∀ k,((⟨l.toArray⟩:ByteArray).get! (i+k)).toNat=(((l.drop i)[k]?).getD 0).toNat:=fun k=>by
  have:(⟨l.toArray⟩:ByteArray).get! (i+k)=l.toArray[i+k]!:=rfl;rw[this,List.getElem?_drop];congr 1;cases h:l[i+k]? with
  | none=>simp[getElem!_def,h]; rfl
  | some b=>simp[getElem!_def,h]
 have h2:∀ k,decide (i+k<(⟨l.toArray⟩:ByteArray).size)=decide (k<(l.drop i).length):=fun k=>by
  rw[ByteArray.size_mk_toArray,jM];exact decide_eq_decide.2 (by omega)
 unfold Utf8.decode PN;simp only[h1,h2]
theorem oQ {r:Nat} (h:r<55296):Utf8.valid (r:Int)=true:=by
 unfold Utf8.valid;simp only[jO,ji,kde]
 left; omega
theorem SG {r:Nat} (h1:57344<=r) (h2:r<=1114111):Utf8.valid (r:Int)=true:=by
 unfold Utf8.valid;simp only[jO,ji,kde]
 right; omega
theorem Mb {r:Nat} (h:(55296<=r/\r<57344)\/1114111<r):Utf8.valid (r:Int)=false:=by
 unfold Utf8.valid;simp only[jY,Bool.and_eq_false_iff,decide_eq_false_iff_not];omega
theorem bc {b:UInt8}:ctB b=true↔b.toNat / 64=2:=by
 unfold ctB;rw[kde];omega
theorem qbi {c:UInt8} {t:List UInt8} (h:c.toNat<128):PN (c::t)=(c.toNat,1):=by
 unfold PN;simp only[jd,jV];rw[if_pos h]
theorem qdv {c d:UInt8} {t:List UInt8} (h1:194<=c.toNat) (h2:c.toNat<224) (a:ctB d=true):PN (c::d::t)=((c.toNat % 32) * 64+d.toNat % 64,2):=by
 have a:=bc.1 a;unfold PN;simp only[jd,je,jV,ja];rw[if_neg (by omega),if_pos (by simp only[ji,beq_iff_eq,kde]; omega),if_pos (by omega)]
theorem qdw {c d e:UInt8} {t:List UInt8} (h1:224<=c.toNat) (h2:c.toNat<240) (a:ctB d=true) (he:ctB e=true) (g:¬ (c.toNat=224/\d.toNat<160)) (h:¬ (c.toNat=237/\160<=d.toNat)) :
  PN (c::d::e::t)=((c.toNat % 16) * 4096+(d.toNat % 64) * 64+e.toNat % 64,3):=by
 have a:=bc.1 a;have he:=bc.1 he;unfold PN;simp only[jd,je,jV,ja];rw[if_neg (by omega),if_neg (by simp only[ji,beq_iff_eq,kde]; omega),if_pos (by simp only[ji,beq_iff_eq,kde]; omega)];rw[if_pos];rw[ji,kde];refine⟨by omega,?_⟩;by_cases f:(c.toNat % 16) * 4096+(d.toNat % 64) * 64+e.toNat % 64<55296
 ·exact oQ f
 exact SG (by omega) (by omega)
theorem qdx {c d e f:UInt8} {t:List UInt8} (h1:240<=c.toNat) (h2:c.toNat<245) (a:ctB d=true) (he:ctB e=true) (g:ctB f=true) (h:¬ (c.toNat=240/\d.toNat<144)) (j:¬ (c.toNat=244/\144<=d.toNat)) :
  PN (c::d::e::f::t)=((c.toNat % 8) * 262144+(d.toNat % 64) * 4096+(e.toNat % 64) * 64+f.toNat % 64,4):=by
 have a:=bc.1 a;have he:=bc.1 he;have g:=bc.1 g;unfold PN;simp only[jd,je,jV,ja];rw[if_neg (by omega),if_neg (by simp only[ji,beq_iff_eq,kde]; omega),if_neg (by simp only[ji,beq_iff_eq,kde]; omega),if_pos (by simp only[ji,beq_iff_eq,kde]; omega)];rw[if_pos];rw[ji,kde];exact⟨by omega,SG (by omega) (by omega)⟩
theorem qdu {c:UInt8} {t:List UInt8} (r:128<=c.toNat) (g:Qu (c::t)=0):PN (c::t)=(65533,1):=by
 have o:=c.toNat_lt;have he:Utf8.runeError=65533:=rfl;unfold PN;simp only[jd,je,jV,ja,he];rw[if_neg (by omega)];rw[Qv,if_neg (by omega)]at g;split
 ·
  rename_i h1;simp only[ji,beq_iff_eq,kde]at h1;split
  ·rename_i h2
   exfalso;cases t with
   | nil=>simp at h1
   | cons d t=>
    simp only[jd,jV]at h1 h2;rw[if_neg (by omega)]at g;simp only[bc.2 h1.2.2,jQ,if_false]at g;rw[if_pos (by omega)]at g;cases g
  ·rfl
 split
 ·rename_i p h1
  simp only[ji,beq_iff_eq,kde]at h1;split
  ·rename_i h2
   exfalso;rw[ji,kde]at h2;cases t with
   | nil=>simp at h1
   | cons d t=>
    cases t with
    | nil=>simp at h1
    | cons e t=>
     simp only[jd,je,jV]at h1 h2;rw[if_neg (by omega)]at g;simp only[bc.2 h1.1.2.2,bc.2 h1.2.2,jQ,if_false,false_or]at g;rw[if_neg (by omega)]at g;have j:=h2.2;rw[if_neg (by
      rintro(⟨a,b⟩|⟨a,b⟩)
      ·omega
      rw[Mb (by left; omega)]at j; cases j),if_pos (by omega)]at g
     cases g
  ·rfl
 split
 ·rename_i q p h1
  simp only[ji,beq_iff_eq,kde]at h1;split
  ·rename_i h2
   exfalso;rw[ji,kde]at h2;cases t with
   | nil=>simp at h1
   | cons d t=>
    cases t with
    | nil=>simp at h1
    | cons e t=>
     cases t with
     | nil=>simp at h1
     | cons f t=>
      simp only[jd,je,jV]at h1 h2;have j:=h2.2;have m:¬ 244<c.toNat:=fun h=>by
       rw[Mb (by right; omega)]at j; cases j
      rw[if_neg (by omega)]at g;simp only[bc.2 h1.1.1.2.2,bc.2 h1.1.2.2,bc.2 h1.2.2,jQ,if_false,false_or]at g;rw[if_neg (by omega),if_neg (by omega),if_neg (by omega),if_neg (by
       rintro(⟨a,b⟩|⟨a,b⟩)
       ·omega
       rw[Mb (by right; omega)]at j; cases j)]at g
      cases g
  ·rfl
 rfl
open Go Ax
def qc8 (x:Nat):UInt8:=([48,49,50,51,52,53,54,55,56,57,97,98,99,100,101,102]:List UInt8).getD x 0
def iU (c:UInt8):List UInt8:=[qc8 (c.toNat / 16),qc8 (c.toNat % 16)]
def Ss:List UInt8->List UInt8
 | []=>[]
 | c::t=>
  if Qu (c::t)=0\/c.toNat=127 then 92::120::iU c
  else if c.toNat=39\/c.toNat=92 then[92,c]
  else if c.toNat=10 then[92,110]
  else if c.toNat=9 then[92,116]
  else if c.toNat=13 then[92,114]
  else if c.toNat<32 then 92::120::iU c
  else(c::t).take (Qu (c::t))
theorem BP (c:UInt8) (t:List UInt8):Ss (c::t)=if Qu (c::t)=0\/c.toNat=127 then 92::120::iU c
  else if c.toNat=39\/c.toNat=92 then[92,c]
  else if c.toNat=10 then[92,110]
  else if c.toNat=9 then[92,116]
  else if c.toNat=13 then[92,114]
  else if c.toNat<32 then 92::120::iU c
  else(c::t).take (Qu (c::t)):=rfl
def NR (s:List UInt8):Nat:=if Qu s=0 then 1 else Qu s
def ZG:Nat->List UInt8->List UInt8
 | 0,_=>[]
 | _+1,[]=>[]
 | g+1,c::t=>Ss (c::t)++ZG g ((c::t).drop (NR (c::t)))
theorem Ts (g:Nat):ZG g []=[]:=by cases g<;>rfl
def NJ (s:List UInt8):List UInt8:=39::(ZG s.length s++[39])
theorem LZ (s:List UInt8):Qu s<=4/\Qu s<=s.length:=by
 cases s with
 | nil=>exact⟨by decide,by decide⟩
 | cons c t=>
  rw[Qv];split
  ·exact⟨by decide,by simp only[ja]; omega⟩
  split
  ·exact⟨by decide,by omega⟩
  cases t with
  | nil=>exact⟨jS _,jS _⟩
  | cons d t=>
   simp only;split
   ·exact⟨by decide,by omega⟩
   split
   ·exact⟨by decide,by simp only[ja]; omega⟩
   cases t with
   | nil=>exact⟨jS _,jS _⟩
   | cons e t=>
    simp only;split
    ·exact⟨by decide,by omega⟩
    split
    ·exact⟨by decide,by simp only[ja]; omega⟩
    cases t with
    | nil=>exact⟨jS _,jS _⟩
    | cons f t=>
     simp only;split
     ·exact⟨by decide,by omega⟩
     exact⟨by decide,by simp only[ja]; omega⟩
theorem Sy {c:UInt8} {t:List UInt8} (h:c.toNat<128):Qu (c::t)=1:=by rw[Qv,if_pos h]
theorem qcm {c:UInt8} {t:List UInt8}:1<=NR (c::t)/\NR (c::t)<=(c::t).length:=by
 have:=(LZ (c::t)).2;unfold NR;split
 ·simp
 omega
theorem Tq (s:List UInt8):(Ss s).length<=4:=by
 cases s with
 | nil=>simp[Ss]
 | cons c t=>
  have:=(LZ (c::t)).1;have a:(iU c).length=2:=rfl;rw[BP]
  repeat' split
  all_goals simp only[ja,jc,jt,a]
  all_goals omega
theorem He:∀ (g:Nat) (s:List UInt8),(ZG g s).length<=4 * g
 | 0,s=>by simp[ZG]
 | g+1,[]=>by simp[ZG]
 | g+1,c::t=>by
  have h1:=Tq (c::t);have h2:=He g ((c::t).drop (NR (c::t)));simp only[ZG,jb];omega
theorem iV:∀ m:Fin 256,TV 0 ((m.val:Nat):Int)=some [qc8 (m.val / 16),qc8 (m.val % 16)] /\
  idx ([48,49,50,51,52,53,54,55,56,57,97,98,99,100,101,102]:List UInt8) (Int.fdiv ((m.val:Nat):Int) (2 ^ (min (Int.toNat (4:Int)) (kbt .u8))))=some (qc8 (m.val / 16)) /\
  idx ([48,49,50,51,52,53,54,55,56,57,97,98,99,100,101,102]:List UInt8) (kwr .u8 (((jr (kbt .u8) ((m.val:Nat):Int) &&& jr (kbt .u8) (15:Int)).toNat:Nat):Int))=some (qc8 (m.val % 16)):=by decide +kernel
theorem Sq:(∀ x:Fin 32,u8I (kwr .u8 (((jr (kbt .u8) (192:Int) ||| jr (kbt .u8) ((x.val:Nat):Int)).toNat:Nat):Int))=some (UInt8.ofNat (192+x.val))) /\
  (∀ x:Fin 16,u8I (kwr .u8 (((jr (kbt .u8) (224:Int) ||| jr (kbt .u8) ((x.val:Nat):Int)).toNat:Nat):Int))=some (UInt8.ofNat (224+x.val))) /\
  (∀ x:Fin 8,u8I (kwr .u8 (((jr (kbt .u8) (240:Int) ||| jr (kbt .u8) ((x.val:Nat):Int)).toNat:Nat):Int))=some (UInt8.ofNat (240+x.val))) /\
  (∀ y:Fin 256,u8I (kwr .u8 (((jr (kbt .u8) (128:Int) ||| jr (kbt .u8) (kwr .u8 (((jr (kbt .u8) ((y.val:Nat):Int) &&& jr (kbt .u8) (63:Int)).toNat:Nat):Int))).toNat:Nat):Int))=some (UInt8.ofNat (128+y.val % 64))):=by decide +kernel
theorem qgp {x:Nat} (h:x<32):u8I (kwr .u8 (((jr (kbt .u8) (192:Int) ||| jr (kbt .u8) ((x:Nat):Int)).toNat:Nat):Int))=some (UInt8.ofNat (192+x)):=Sq.1 ⟨x,h⟩
theorem qgq {x:Nat} (h:x<16):u8I (kwr .u8 (((jr (kbt .u8) (224:Int) ||| jr (kbt .u8) ((x:Nat):Int)).toNat:Nat):Int))=some (UInt8.ofNat (224+x)):=Sq.2.1 ⟨x,h⟩
theorem qgr {x:Nat} (h:x<8):u8I (kwr .u8 (((jr (kbt .u8) (240:Int) ||| jr (kbt .u8) ((x:Nat):Int)).toNat:Nat):Int))=some (UInt8.ofNat (240+x)):=Sq.2.2.1 ⟨x,h⟩
theorem qc9 {y:Nat} (h:y<256):u8I (kwr .u8 (((jr (kbt .u8) (128:Int) ||| jr (kbt .u8) (kwr .u8 (((jr (kbt .u8) ((y:Nat):Int) &&& jr (kbt .u8) (63:Int)).toNat:Nat):Int))).toNat:Nat):Int))=some (UInt8.ofNat (128+y % 64)):=Sq.2.2.2 ⟨y,h⟩
theorem fdn (r k:Nat):Int.fdiv (r:Int) ((k:Nat):Int)=((r / k:Nat):Int):=by
 rw[Int.fdiv_eq_ediv_of_nonneg _ (by omega)]; rfl
theorem fd6 (r:Nat):Int.fdiv (r:Int) (2 ^ (min (Int.toNat (6:Int)) (kbt .i32)))=((r / 64:Nat):Int):=fdn r 64
theorem qgc (r:Nat):Int.fdiv (r:Int) (2 ^ (min (Int.toNat (12:Int)) (kbt .i32)))=((r / 4096:Nat):Int):=fdn r 4096
theorem qgo (r:Nat):Int.fdiv (r:Int) (2 ^ (min (Int.toNat (18:Int)) (kbt .i32)))=((r / 262144:Nat):Int):=fdn r 262144
theorem u8w (r:Nat):kwr .u8 (r:Int)=((r % 256:Nat):Int):=by
 show(r:Int) % (2 ^ 8:Int)=_;omega
theorem qgl {r:Nat} (h:r<4294967296):kwr .u32 (r:Int)=(r:Int):=by
 show(r:Int) % (2 ^ 32:Int)=_;omega
theorem bOf {m:Nat} {c:UInt8} (h:m=c.toNat):UInt8.ofNat m=c:=by subst h; exact UInt8.ofNat_toNat
open Go Ax
theorem lZ (n:Nat) (s p:List UInt8):vX n s p=some (decide (p.length<=s.length)&&s.take p.length==p):=by
 unfold vX xy;by_cases h:p.length<=s.length
 ·rw[kdt (by omega:((s.length:Nat):Int)≥((p.length:Nat):Int)),kdt h]
  simp only[natI_nat,gL,za,kct];rw[vH (kdt h)];rfl
 rw[kdf (by omega:¬ ((s.length:Nat):Int)≥((p.length:Nat):Int)),kdf h];rfl
theorem eA {c:UInt8} {t:List UInt8} {k:Nat} (hk:Qu (c::t)=k+2):∃ r:Nat,PN (c::t)=(r,k+2)/\128<=r/\r<=1114111/\194<=c.toNat /\
  ((k=0/\r<=2047/\(c::t).take 2=[UInt8.ofNat (192+r / 64 % 256),UInt8.ofNat (128+r % 256 % 64)]) \/
   (k=1/\2048<=r/\r<=65535/\(r<55296\/57343<r)/\(c::t).take 3=[UInt8.ofNat (224+r / 4096 % 256),UInt8.ofNat (128+r / 64 % 256 % 64),UInt8.ofNat (128+r % 256 % 64)]/\(r=65533->(c::t).take 3=[239,191,189])) \/
   (k=2/\65536<=r/\(c::t).take 4=[UInt8.ofNat (240+r / 262144 % 256),UInt8.ofNat (128+r / 4096 % 256 % 64),UInt8.ofNat (128+r / 64 % 256 % 64),UInt8.ofNat (128+r % 256 % 64)])):=by
 rw[Qv]at hk;split at hk
 ·omega
 rename_i v;split at hk
 ·omega
 rename_i w;cases t with
 | nil=>cases hk
 | cons d t=>
  simp only at hk;split at hk
  ·omega
  rename_i a;simp only[Bool.not_eq_false]at a;have D:=bc.1 a;have x:=d.toNat_lt;split at hk
  ·rename_i j
   obtain rfl:k=0:=by omega
   refine⟨_,qdv (by omega) j a,by omega,by omega,by omega,.inl ⟨rfl,by omega,?_⟩⟩;rw[bOf (c:=c) (by omega),bOf (c:=d) (by omega)];rfl
  rename_i j;cases t with
  | nil=>cases hk
  | cons e t=>
   simp only at hk;split at hk
   ·omega
   rename_i g;simp only[not_or,Bool.not_eq_false]at g;obtain⟨o,y,z⟩:=g;have he:=bc.1 o;have B:=e.toNat_lt;split at hk
   ·rename_i m
    obtain rfl:k=1:=by omega
    refine⟨_,qdw (by omega) m a o y z,by omega,by omega,by omega,.inr (.inl ⟨rfl,by omega,by omega,by omega,?_,fun h=>?_⟩)⟩
    ·rw[bOf (c:=c) (by omega),bOf (c:=d) (by omega),bOf (c:=e) (by omega)]
     rfl
    have e1:c=239:=jT.1 (by show c.toNat=239; omega);have e2:d=191:=jT.1 (by show d.toNat=191; omega);have e3:e=189:=jT.1 (by show e.toNat=189; omega);rw[e1,e2,e3];rfl
   rename_i m;cases t with
   | nil=>cases hk
   | cons f t=>
    simp only at hk;split at hk
    ·omega
    rename_i g;simp only[not_or,Bool.not_eq_false]at g;obtain⟨p,q,u⟩:=g;have E:=bc.1 p;have C:=f.toNat_lt;obtain rfl:k=2:=by omega
    refine⟨_,qdx (by omega) (by omega) a o p q u,by omega,by omega,by omega,.inr (.inr ⟨rfl,by omega,?_⟩)⟩;rw[bOf (c:=c) (by omega),bOf (c:=d) (by omega),bOf (c:=e) (by omega),bOf (c:=f) (by omega)];rfl
theorem oJ {t:List UInt8}:Qu ((239:UInt8)::191::189::t)=3:=rfl
theorem qfk {s:List UInt8} (h:s.length<=137438953472):decide ((qx s).length * 1<=140737488355328)=true:=kdt (by rw[MN]; omega)
section
variable {n:Nat} {l:List UInt8} (hl:8 * l.length+64<=137438953472)
include hl
theorem ar:∀ (g i f:Nat) (acc:List UInt8),i<=l.length->l.length - i<=g->l.length - i<f->acc.length+4 * (l.length - i)<=4 * l.length+16 ->
  qA (vw n l) f (acc,i)=some (acc++(ZG g (l.drop i)++[39])):=by
 intro g;have J:∀ (acc:List UInt8) (U:List UInt8×Nat->Option (List UInt8)),acc.length<=4 * l.length+16->vw n l U (acc,l.length)=some (acc++[39]):=by
  intro acc U ha;unfold vw
  dsimp only
  rw[kdf (jR _),kcf,vH (qfk (by rw[jb]; simp only[ja,jc]; omega))]
 induction g with
 | zero=>
  intro i f acc hi hg hf ha;obtain⟨f,rfl⟩:=jj (by omega:f≠0);have:i=l.length:=by omega
  subst this;rw[zJ,J acc _ (by omega)];rfl
 | succ g ih=>
  intro i f acc hi hg hf ha;obtain⟨f,rfl⟩:=jj (by omega:f≠0);rw[zJ];by_cases he:i=l.length
  ·subst he
   rw[List.drop_length,Ts,J acc _ (by omega)];rfl
  have y:i<l.length:=by omega
  have hx:=jf y;have L:l.drop i=l[i]::l.drop (i+1):=jn y;have hstp:=qcm (c:=l[i]) (t:=l.drop (i+1));have V:=LZ (l[i]::l.drop (i+1));have hlen:(l[i]::l.drop (i+1)).length=l.length - i:=by rw[← L,jM]
  have a:∀ (p:List UInt8) (j:Nat),p.length<=4->j=i+NR (l[i]::l.drop (i+1))->qA (vw n l) f (acc++p,j)=some (acc++(p++ZG g ((l[i]::l.drop (i+1)).drop (NR (l[i]::l.drop (i+1))))++[39])):=by
   intro p j hp hj;subst hj;rw[ih (i+NR (l[i]::l.drop (i+1))) f (acc++p) (by omega) (by omega) (by omega) (by rw[jb]; omega)];rw[← L,List.drop_drop];simp
  have M:qI l i=(PN (l[i]::l.drop (i+1))).1:=by unfold qI; rw[qad,L]
  have N:zF l i=i+(PN (l[i]::l.drop (i+1))).2:=by unfold zF; rw[qad,L]
  have z:=lZ n (l.drop i) [239,191,189];rw[L]at z ⊢;rw[ZG];generalize hcc:l[i]=c at *;generalize htt:l.drop (i+1)=t at *;generalize qA (vw n l) f=U at a ⊢;have hhl:(iU c).length=2:=rfl;have O:=c.toNat_lt;have w:∀ p:List UInt8,p.length<=8->decide ((qx (acc++p)).length * 1<=140737488355328)=true:=fun p hp=>qfk (by rw[jb]; omega)
  have X:=(iV ⟨c.toNat,O⟩).2.1;have Y:=(iV ⟨c.toNat,O⟩).2.2;simp only at X Y;have B:∀ j,j=i+NR (c::t)->(chk (decide ((qx (acc++([92,120]:List UInt8))).length * 1<=140737488355328)) (
    bnd (idx ([48,49,50,51,52,53,54,55,56,57,97,98,99,100,101,102]:List UInt8) (Int.fdiv ((c.toNat:Nat):Int) (2 ^ (min (Int.toNat (4:Int)) (kbt .u8))))) fun q=>
    chk (decide ((qx ((acc++([92,120]:List UInt8))++[q])).length * 1<=140737488355328)) (
    bnd (idx ([48,49,50,51,52,53,54,55,56,57,97,98,99,100,101,102]:List UInt8) (kwr .u8 (((jr (kbt .u8) ((c.toNat:Nat):Int) &&& jr (kbt .u8) (15:Int)).toNat:Nat):Int))) fun D=>
    chk (decide ((qx (((acc++([92,120]:List UInt8))++[q])++[D])).length * 1<=140737488355328)) (
    U ((((acc++([92,120]:List UInt8))++[q])++[D]),j)))))=some (acc++(92::120::iU c++ZG g ((c::t).drop (NR (c::t)))++[39])):=by
   intro j hj;rw[vH (w _ (by simp)),X,za,js,vH (w _ (by simp)),Y,za,js,vH (w _ (by simp))];exact a (92::120::iU c) j (by simp[hhl]) hj
  unfold vw
  dsimp only
  rw[kdt y,kct,kct,M,N,BP];have Z:idx l ((i:Nat):Int)=some c:=zG hx;by_cases G:Qu (c::t)=0
  ·
   have o:128<=c.toNat:=Decidable.byContradiction fun h=>by rw[Sy (by omega)]at G; cases G
   have hnp:(decide ((([239,191,189]:List UInt8).length)<=(c::t).length)&&(c::t).take (([239,191,189]:List UInt8).length)==([239,191,189]:List UInt8))=false:=by
    cases x:(decide ((([239,191,189]:List UInt8).length)<=(c::t).length)&&(c::t).take (([239,191,189]:List UInt8).length)==([239,191,189]:List UInt8))with
    | false=>rfl
    | true=>
     exfalso;simp only[ji,kde,beq_iff_eq]at x;have e:=x.2
     match t,x.1 with
     | d::e'::t',_=>
      simp only[ja,jc,List.take_succ_cons,List.take_zero,List.cons.injEq,and_true]at e;obtain⟨rfl,rfl,rfl⟩:=e;rw[oJ]at G;cases G
   have m:NR (c::t)=1:=by unfold NR; rw[if_pos G]
   rw[if_pos (.inl G),qdu o G];simp only;rw[show(bif(((65533:Nat):Int)==92)then true else(((65533:Nat):Int)==39))=false from rfl,kcf,show(((65533:Nat):Int)==10)=false from rfl,kcf,show(((65533:Nat):Int)==9)=false from rfl,kcf,show(((65533:Nat):Int)==13)=false from rfl,kcf];rw[show((!(bif decide (((65533:Nat):Int)<32)then true else(((65533:Nat):Int)==127)))&&(((65533:Nat):Int)==65533))=true from rfl,natI_nat,gL,za,kct,vH (kdt hi),L,z,hnp,gL,za];rw[show(bif(bif decide (((65533:Nat):Int)<32)then true else(((65533:Nat):Int)==127))then true else(bif(((65533:Nat):Int)==65533)then(!false)else false))=true from rfl,kct,Z,za];exact B _ (by rw[m])
  by_cases o:c.toNat<128
  ·have h1:Qu (c::t)=1:=Sy o
   have m:NR (c::t)=1:=by unfold NR; rw[if_neg G,h1]
   have hu:kwr .u32 ((c.toNat:Nat):Int)=((c.toNat:Nat):Int):=qgl (by omega);have hu8:u8I (kwr .u8 ((c.toNat:Nat):Int))=some c:=by rw[u8w,Nat.mod_eq_of_lt O]; exact SC c
   rw[qbi o];simp only;rw[hu];by_cases P:c.toNat=39\/c.toNat=92
   ·rw[if_neg (by omega),if_pos P]
    rw[show(bif(((c.toNat:Nat):Int)==92)then true else(((c.toNat:Nat):Int)==39))=true from by rcases P with h|h<;>rw[h]<;>rfl,kct,vH (w _ (by simp)),kdt (by omega:((c.toNat:Nat):Int)<=127),kct,hu8,za,js,vH (w _ (by simp))]
    exact a [92,c] _ (by simp) (by rw[m])
   simp only[not_or]at P;rw[show(bif(((c.toNat:Nat):Int)==92)then true else(((c.toNat:Nat):Int)==39))=false from by
    rw[show(((c.toNat:Nat):Int)==92)=false from by rw[kbf]; omega,show(((c.toNat:Nat):Int)==39)=false from by rw[kbf]; omega]; rfl,kcf]
   by_cases v:c.toNat=10
   ·rw[if_neg (by omega),if_neg (by omega),if_pos v,show(((c.toNat:Nat):Int)==10)=true from by rw[v]; rfl,kct,vH (w _ (by simp))]
    exact a [92,110] _ (by simp) (by rw[m])
   rw[show(((c.toNat:Nat):Int)==10)=false from by rw[kbf]; omega,kcf];by_cases h9:c.toNat=9
   ·rw[if_neg (by omega),if_neg (by omega),if_neg v,if_pos h9,show(((c.toNat:Nat):Int)==9)=true from by rw[h9]; rfl,kct,vH (w _ (by simp))]
    exact a [92,116] _ (by simp) (by rw[m])
   rw[show(((c.toNat:Nat):Int)==9)=false from by rw[kbf]; omega,kcf];by_cases H:c.toNat=13
   ·rw[if_neg (by omega),if_neg (by omega),if_neg v,if_neg h9,if_pos H,show(((c.toNat:Nat):Int)==13)=true from by rw[H]; rfl,kct,vH (w _ (by simp))]
    exact a [92,114] _ (by simp) (by rw[m])
   rw[show(((c.toNat:Nat):Int)==13)=false from by rw[kbf]; omega,kcf];have I:(((c.toNat:Nat):Int)==65533)=false:=by rw[kbf]; omega
   rw[I,Bool.and_false];simp only[qE,kcf,za];rw[vH (by rfl:true=true)];by_cases Q:c.toNat<32\/c.toNat=127
   ·rw[show(bif(bif decide (((c.toNat:Nat):Int)<32)then true else(((c.toNat:Nat):Int)==127))then true else false)=true from by
     rcases Q with h|h
     ·rw[kdt (by omega:((c.toNat:Nat):Int)<32)]; rfl
     rw[h]; rfl,kct,Z,za]
    have hpc:(if Qu (c::t)=0\/c.toNat=127 then 92::120::iU c
      else if c.toNat=39\/c.toNat=92 then[92,c]
      else if c.toNat=10 then[92,110]
      else if c.toNat=9 then[92,116]
      else if c.toNat=13 then[92,114]
      else if c.toNat<32 then 92::120::iU c
      else(c::t).take (Qu (c::t)))=92::120::iU c:=by
     by_cases h127:c.toNat=127
     ·rw[if_pos (.inr h127)]
     rw[if_neg (by omega),if_neg (by omega),if_neg v,if_neg h9,if_neg H,if_pos (by omega)]
    rw[hpc];exact B _ (by rw[m])
   simp only[not_or]at Q;rw[show(bif(bif decide (((c.toNat:Nat):Int)<32)then true else(((c.toNat:Nat):Int)==127))then true else false)=false from by
    rw[kdf (by omega:¬ ((c.toNat:Nat):Int)<32),show(((c.toNat:Nat):Int)==127)=false from by rw[kbf]; omega]; rfl,kcf]
   rw[kdt (by omega:((c.toNat:Nat):Int)<=127),kct,hu8,za,vH (w _ (by simp))];rw[if_neg (by omega),if_neg (by omega),if_neg v,if_neg h9,if_neg H,if_neg Q.1,h1];exact a [c] _ (by simp) (by rw[m])
  
  have h1:Qu (c::t)≠1:=fun h=>by
   rw[Qv,if_neg o]at h;split at h
   ·cases h
   split at h
   ·cases h
   split at h
   ·cases h
   split at h
   ·cases h
   split at h
   ·cases h
   split at h
   ·cases h
   split at h
   ·cases h
   split at h
   ·cases h
   split at h<;>cases h
  obtain⟨k,hk⟩:∃ k,Qu (c::t)=k+2:=⟨Qu (c::t) - 2,by omega⟩;obtain⟨r,hr,hr128,hrm,hc194,F⟩:=eA hk;have m:NR (c::t)=k+2:=by unfold NR; rw[if_neg G,hk]
  have hu:kwr .u32 ((r:Nat):Int)=((r:Nat):Int):=qgl (by omega);rw[hr];simp only;rw[hu];rw[if_neg (by omega),if_neg (by omega),if_neg (by omega),if_neg (by omega),if_neg (by omega),if_neg (by omega),hk];rw[show(bif(((r:Nat):Int)==92)then true else(((r:Nat):Int)==39))=false from by
   rw[show(((r:Nat):Int)==92)=false from by rw[kbf]; omega,show(((r:Nat):Int)==39)=false from by rw[kbf]; omega]; rfl,kcf,show(((r:Nat):Int)==10)=false from by rw[kbf]; omega,kcf,show(((r:Nat):Int)==9)=false from by rw[kbf]; omega,kcf,show(((r:Nat):Int)==13)=false from by rw[kbf]; omega,kcf]
  have hlow:(bif decide (((r:Nat):Int)<32)then true else(((r:Nat):Int)==127))=false:=by
   rw[kdf (by omega:¬ ((r:Nat):Int)<32),show(((r:Nat):Int)==127)=false from by rw[kbf]; omega]; rfl
  rw[hlow];have hgo:∀ (K:Option (List UInt8)) (C:UInt8->Option (List UInt8)),(bnd (qE ((!false)&&(((r:Nat):Int)==65533)) (Qq ((i:Nat):Int))) fun u=>
    chk (bif((!false)&&(((r:Nat):Int)==65533))then decide (u<=l.length)else true) (
    bnd (qE ((!false)&&(((r:Nat):Int)==65533)) (vX n (l.drop u) ([239,191,189]:List UInt8))) fun E=>
    bif(bif false then true else(bif(((r:Nat):Int)==65533)then(!E)else false))then(bnd (idx l ((i:Nat):Int)) C)else K))=K:=by
   intro K C;by_cases I:r=65533
   ·have hp3:(decide ((([239,191,189]:List UInt8).length)<=(c::t).length)&&(c::t).take (([239,191,189]:List UInt8).length)==([239,191,189]:List UInt8))=true:=by
     rcases F with ⟨_,h,_⟩|⟨hk1,_,_,_,_,h⟩|⟨_,h,_⟩
     ·omega
     ·have h3:=h I
      have hle:=V.2;rw[hk,hk1]at hle;simp only[ji,kde,beq_iff_eq];exact⟨hle,h3⟩
     omega
    subst I;rw[show((!false)&&(((65533:Nat):Int)==65533))=true from rfl,natI_nat,gL,za,kct,vH (kdt hi),L,z,hp3,gL,za];rfl
   have:(((r:Nat):Int)==65533)=false:=by rw[kbf]; omega
   rw[this];rfl
  rw[hgo];rw[kdf (by omega:¬ ((r:Nat):Int)<=127),kcf];rcases F with ⟨rfl,hr1,x⟩|⟨rfl,hr1,hr2,hr3,x,_⟩|⟨rfl,hr1,x⟩
  ·rw[kdt (by omega:((r:Nat):Int)<=2047),kct,fd6,u8w (r / 64),qgp (by omega),za,u8w r,qc9 (by omega),za,vH (w _ (by simp))]
   have:=a ((c::t).take 2) (i+(0+2)) (by rw[jt]; omega) (by rw[m]);rw[x]at this;rw[show(c::t).take (0+2)=[UInt8.ofNat (192+r / 64 % 256),UInt8.ofNat (128+r % 256 % 64)]from x];exact this
  ·rw[kdf (by omega:¬ ((r:Nat):Int)<=2047),kcf]
   have hk6:uV n l i acc U true=some (acc++((c::t).take (1+2)++ZG g ((c::t).drop (NR (c::t)))++[39])):=by
    unfold uV;rw[kct,kdt y,kct,M,N,hr]
    dsimp only
    rw[qgc,u8w (r / 4096),qgq (by omega),za,fd6,u8w (r / 64),qc9 (by omega),za,u8w r,qc9 (by omega),za,vH (w _ (by simp))];have:=a ((c::t).take 3) (i+(1+2)) (by rw[jt]; omega) (by rw[m]);rw[x]at this;rw[show(c::t).take (1+2)=[UInt8.ofNat (224+r / 4096 % 256),UInt8.ofNat (128+r / 64 % 256 % 64),UInt8.ofNat (128+r % 256 % 64)]from x];exact this
   by_cases hs:r<55296
   ·rw[kdt (by omega:((r:Nat):Int)<55296),kct]
    exact hk6
   rw[kdf (by omega:¬ ((r:Nat):Int)<55296),kcf,kdt (by omega:(57343:Int)<((r:Nat):Int)),kct,kdt (by omega:((r:Nat):Int)<=65535)];exact hk6
  rw[kdf (by omega:¬ ((r:Nat):Int)<=2047),kcf,kdf (by omega:¬ ((r:Nat):Int)<55296),kcf,kdt (by omega:(57343:Int)<((r:Nat):Int)),kct,kdf (by omega:¬ ((r:Nat):Int)<=65535)];unfold uV;rw[kcf,kdt y,kct,M,N,hr]
  dsimp only
  rw[hu,kdt (by omega:((r:Nat):Int)>65535),kct,kdt (by omega:((r:Nat):Int)<=1114111),kct];rw[qgo,u8w (r / 262144),qgr (by omega),za,qgc,u8w (r / 4096),qc9 (by omega),za,fd6,u8w (r / 64),qc9 (by omega),za,u8w r,qc9 (by omega),za,vH (w _ (by simp))];have:=a ((c::t).take 4) (i+(2+2)) (by rw[jt]; omega) (by rw[m]);rw[x]at this;rw[show(c::t).take (2+2)=[UInt8.ofNat (240+r / 262144 % 256),UInt8.ofNat (128+r / 4096 % 256 % 64),UInt8.ofNat (128+r / 64 % 256 % 64),UInt8.ofNat (128+r % 256 % 64)]from x];exact this
theorem Hi (hn:l.length<n):bp n l=some (NJ l):=by
 unfold bp NJ;rw[vH (qfk (by simp))];have:=ar (n:=n) hl l.length 0 n [39] (by omega) (by omega) (by omega) (by simp only[ja,jc]; omega);exact this
end
open Go Ax
theorem zl {A R:Type} (a:A) (k:A->Option R):bnd (some a) k=k a:=by
 generalize h:some a=o;cases h;rfl
theorem zm {A:Type} (a b:A):(bif true then a else b)=a:=by
 generalize h:true=o;cases h;rfl
theorem qw {A:Type} (a b:A):(bif false then a else b)=b:=by
 generalize h:false=o;cases h;rfl
def qff (s:List UInt8):List UInt8:=bif BL s then s else NJ s
theorem Hf (s:List UInt8):(NJ s).length<=4 * s.length+2:=by
 have:=He s.length s;simp only[NJ,ja,jb,jc]; omega
theorem oS (s:List UInt8):(qff s).length<=4 * s.length+2:=by
 unfold qff;have:=Hf s;cases BL s with
 | true=>simp only[kct]; omega
 | false=>exact this
section
variable {n:Nat} (hn:n<=1099511627776)
include hn
theorem oH {s:List UInt8} (h:s.length<n) (a:s.length<=1073741824):Qj n s=some (qff s):=by
 unfold Qj qff;rw[Dy h,za,Hi (by omega) h];cases BL s<;>rfl
end
theorem Se (sep:List UInt8) (c:sep.length=2):∀ a:List (List UInt8),(Lib.join a sep).length<=(a.map fun x=>x.length+2).sum
 | []=>by simp[Lib.join,List.intercalate]
 | [y]=>by simp[Lib.join,List.intercalate]
 | y::z::a=>by
  have:=Se sep c (z::a);simp only[Lib.join,List.intercalate,List.intersperse_cons₂,List.flatten_cons,jb,jk,jA]at this ⊢;omega
open Go Ax
theorem NT {A:Type} {l:List A} {i:Nat} {x:A} (h:l[i]? =some x):l.take i++[x]=l.take (i+1):=by rw[List.take_succ,h]; rfl
open Go Ax
theorem PG:∀ a b:List UInt8,Op.bytesLess a b=decide (a<b)
 | [],[]=>by simp[Op.bytesLess]
 | [],_::_=>by simp[Op.bytesLess]
 | _::_,[]=>by simp[Op.bytesLess]
 | x::xs,y::ys=>by
  have ih:=PG xs ys;simp only[Op.bytesLess,ih];by_cases h:x<y
  ·simp[h,List.cons_lt_cons_iff]
  by_cases h2:x=y
  ·subst h2; simp[List.cons_lt_cons_iff]
  simp[h,h2,List.cons_lt_cons_iff]
theorem MR {a b c:List UInt8} (h:a<b) (d:b<c):a<c:=List.lt_trans h d
theorem GB (a:List UInt8):¬ a<a:=List.lt_irrefl a
def sz (ks:List (List UInt8)):Prop:=∀ (i:Nat) (x y:List UInt8),ks[i]? =some x->ks[i+1]? =some y->x<y
theorem sz.lt {ks:List (List UInt8)} (h:sz ks):∀ (d i:Nat) (x y:List UInt8),ks[i]? =some x->ks[i+d+1]? =some y->x<y
 | 0,i,x,y,hx,hy=>h i x y hx hy
 | d+1,i,x,y,hx,hy=>by
  have hl:=py hy;obtain⟨z,hz⟩:∃ z,ks[i+d+1]? =some z:=⟨_,jf (by omega)⟩;exact MR (h.lt d i x z hx hz) (h _ z y hz (by rw[← hy]; congr 1))
theorem sz.lt' {ks:List (List UInt8)} (h:sz ks) {i j:Nat} {x y:List UInt8} (a:i<j) (c:ks[i]? =some x) (e:ks[j]? =some y):x<y:=by
 obtain⟨d,rfl⟩:=Nat.exists_eq_add_of_lt a;exact h.lt d i x y c e
theorem RL {A R:Type} {o:Option A} {k:A->Option R} {r:R} (h:bnd o k=some r):∃ a,o=some a/\k a=some r:=by
 cases o with
 | none=>cases h
 | some a=>exact⟨a,rfl,h⟩
open Go Ax Go.RowKit
set_option maxRecDepth 10000
theorem oF {A:Type} {l:List A} {i:Nat} {x:A} (h:l[i]? =some x):l.set i x=l:=by
 obtain⟨a,e⟩:=jG.1 h;subst e;exact List.set_getElem_self a
theorem Bt:∀ n:Nat,n<=1099511627776->∀ v:Val,cn v<n->vf n v=some v:=by
 intro n
 induction n with
 | zero=>intro _ _ h; omega
 | succ n ih=>
  intro hn v e;obtain⟨C,D,E,F,q,u⟩:=v;have g:vk q<n/\u.length<n:=by
   have:=gb u;simp only[pb]at this;simp only[cn]at e;omega
  have hl:=xP q;have a:∀ k:Nat,(Val.rows (List.replicate k (Val.mk (0:Int) false (0:Int) ([]:List UInt8) ([]:List Val) ([]:List (List UInt8))))).length=k:=fun k=>by simp
  have loop:∀ (m i:Nat),i<=q.length->q.length - i<m->qA (fe n q.length (vf n) u C D E F) m ((i:Int),q)=some (Val.mk C D E F q u):=by
   intro m
   induction m with
   | zero=>intro i _ h; omega
   | succ m ihm=>
    intro i j hm;rw[zJ];generalize qA (fe n q.length (vf n) u C D E F) m=nx at ihm ⊢;unfold fe;simp only[a];by_cases c:i<q.length
    ·obtain⟨x,d⟩:∃ x,q[i]? =some x:=⟨_,jf c⟩
     have f:=ih (by omega) x (by have:=uZ (List.mem_of_getElem? d); omega);obtain⟨o,a2,a3,a4,a5,p⟩:=x;rw[kdt (show(i:Int)<(q.length:Int) by omega)];simp only[kct,W.natI_nat,za,kdt c,qds,d,f];rw[xW (by omega),oF d];exact ihm (i+1) (by omega) (by omega)
    rw[kdf (show ¬ (i:Int)<(q.length:Int) by omega)];simp only[kcf];rw[XF (by simp[qi]; omega)]
  simp only[vf,pz,qo,W.natI_nat,za,List.length_replicate,decide_true,qds];rw[XF (by omega)];exact loop n 0 (jS _) (by omega)
theorem ij {R:Type} {B:(Int×Int->Option R)->Int×Int->Option R} (P:Nat->Bool) (len:Nat) (hmono:∀ a b,a<=b->b<len->P b=true->P a=true)
  (f:∀ i j:Nat,i<j->j<=len->∀ c,B c ((i:Int),(j:Int))=bif P ((i+j) / 2)then c ((((i+j) / 2+1:Nat):Int),(j:Int))else c ((i:Int),(((i+j) / 2:Nat):Int)))
  {rest:Nat->Option R} (he:∀ i:Nat,i<=len->∀ c,B c ((i:Int),(i:Int))=rest i) {n:Nat} (hn:len<n) :
  ∃ i:Nat,i<=len/\(∀ a,a<i->P a=true)/\(∀ a,i<=a->a<len->P a=false)/\qA B n ((0:Int),(len:Int))=rest i:=by
 have key:∀ (m i j:Nat),i<=j->j<=len->j - i<m->(∀ a,a<i->P a=true)->(∀ a,j<=a->a<len->P a=false) ->
   ∃ q:Nat,q<=len/\(∀ a,a<q->P a=true)/\(∀ a,q<=a->a<len->P a=false)/\qA B m ((i:Int),(j:Int))=rest q:=by
  intro m
  induction m with
  | zero=>intro i j _ _ h; omega
  | succ m ih=>
   intro i j g d hm h1 h2;rw[zJ];by_cases h:i=j
   ·subst h
    exact⟨i,d,h1,h2,he i d _⟩
   rw[f i j (by omega) d];cases hp:P ((i+j) / 2)with
   | true=>
    exact ih _ _ (by omega) d (by omega) (fun a ha=>hmono a _ (by omega) (by omega) hp) h2
   | false=>
    refine ih _ _ (by omega) (by omega) (by omega) h1 fun a ha e=>?_;cases o:P a with
    | false=>rfl
    | true=>rw[hmono _ a ha e o]at hp; cases hp
 exact key n 0 len (jS _) (jw _) (by omega) (fun a h=>by omega) fun a h p=>by omega
theorem qf3 (z:Int) (a:0<=z) (h1:z<18446744073709551616):kwr .u64 z=z:=Ma z a h1
theorem qe8 {i j:Nat} (h:i+j<=1152921504606846976):kwr .i64 (Int.fdiv (kwr .u64 (kwr .i64 ((i:Int)+(j:Int)))) (2 ^ (min (Int.toNat (1:Int)) IntKind.u64.bits)))=(((i+j) / 2:Nat):Int):=by
 rw[RB (i:=(i:Int)+(j:Int)) (by omega) (by omega),qf3 _ (by omega) (by omega)];have e:((i:Int)+(j:Int))=((i+j:Nat):Int):=by omega
 have:=fdn (i+j) 2;rw[e,show((2:Int) ^ (min (Int.toNat (1:Int)) IntKind.u64.bits))=((2:Nat):Int)from rfl,this,RB (by omega) (by omega)]
def RJ:Val×Bool:=(Val.mk (0:Int) false (0:Int) ([]:List UInt8) ([]:List Val) ([]:List (List UInt8)),false)
def PS (k:Int) (l:List Val) (ks:List (List UInt8)) (key:List UInt8):Val×Bool:=
 if k=5/\key∈ks then(match l[ks.idxOf key]? with|some v=>(v,true)|none=>RJ)else RJ
theorem Sc {ks:List (List UInt8)} {key:List UInt8} (h:sz ks) {i:Nat} (a:ks[i]? =some key):ks.idxOf key=i:=by
 have hm:key∈ks:=gM a;have c:=List.idxOf_lt_length_of_mem hm;have he:ks[ks.idxOf key]? =some key:=by rw[jf c,List.getElem_idxOf]
 rcases Nat.lt_trichotomy (ks.idxOf key) i with h1|h1|h1
 ·exact absurd (h.lt' h1 he a) (GB _)
 ·exact h1
 exact absurd (h.lt' h1 a he) (GB _)
section
variable {n:Nat} (hn:n<=1099511627776) {k:Int} {b:Bool} {i:Int} {s:List UInt8} {l:List Val} {ks:List (List UInt8)} (hsz:cn (.mk k b i s l ks)<n) (hk:ks.length=l.length) (hr:sz ks)
include hn hsz hk hr
theorem aI (key:List UInt8):ur n (.mk k b i s l ks) key=some (PS k l ks key):=by
 have J:vk l<n:=by simp only[cn]at hsz; omega
 have hl:=xP l;have hless:∀ x:List UInt8,vT n x key=some (Op.bytesLess x key):=fun x=>by simp[vT,xl]
 obtain⟨q,K,z,C,D⟩:=ij (B:=qQ n ks key) (fun j=>decide (∃ x,ks[j]? =some x/\x<key)) ks.length
  (fun a c p w hp=>by
   obtain⟨x,e,f⟩:=kod hp;rcases Nat.lt_or_eq_of_le p with h|rfl
   ·obtain⟨y,g⟩:∃ y,ks[a]? =some y:=⟨_,jf (by omega)⟩
    exact kdt ⟨y,g,MR (hr.lt' h g e) f⟩
   exact hp)
  (fun i j r m E=>by
   obtain⟨x,e⟩:∃ x,ks[(i+j) / 2]? =some x:=⟨_,jf (by omega)⟩;simp only[qQ,gg r,kct,qe8 (show i+j<=1152921504606846976 by omega),zG e,za,hless,PG];have:(decide (∃ y,ks[(i+j) / 2]? =some y/\y<key))=decide (x<key):=by
    rw[Bool.eq_iff_iff,decide_eq_true_iff,decide_eq_true_iff,e];exact⟨fun⟨y,g,h⟩=>by cases g; exact h,fun h=>⟨x,rfl,h⟩⟩
   rw[this,xW (by omega)])
  (rest:=fun q=>some ((q:Int),(match ks[q]? with|some x=>x==key|none=>false)))
  (fun i L E=>by
   simp only[qQ,xZ,kcf,zc];by_cases h:i=ks.length
   ·subst h
    simp[Ls]
   have o:i<ks.length:=by omega
   obtain⟨x,e⟩:∃ x,ks[i]? =some x:=⟨_,jf o⟩;simp only[gg o,gL,zG e,za,e,Bool.true_and,kct];cases F:x==key with
   | true=>simp[Ls]
   | false=>simp[uh])
  (n:=n) (by omega)
 have G:qN n ks key=some ((q:Int),(match ks[q]? with|some x=>x==key|none=>false)):=by
  unfold qN;rw[zc];exact D
 unfold ur;simp only[G,za];have d:(match ks[q]? with|some x=>x==key|none=>false)=decide (key∈ks):=by
  rw[Bool.eq_iff_iff,decide_eq_true_iff]
  constructor
  ·intro h
   cases e:ks[q]? with
   | none=>rw[e]at h; cases h
   | some x=>
    rw[e]at h;have:=beq_iff_eq.1 h;subst this;exact gM e
  intro h;obtain⟨j,m⟩:=List.getElem?_of_mem h;have H:=py m;have:j=q:=by
   rcases Nat.lt_trichotomy j q with h1|h1|h1
   ·obtain⟨x,e,f⟩:=kod (z j h1)
    rw[m]at e; cases e;exact absurd f (GB _)
   ·exact h1
   obtain⟨y,g⟩:∃ y,ks[q]? =some y:=⟨_,jf (by omega)⟩;have:=of_decide_eq_false (C q (jw _) (by omega));exact absurd ⟨y,g,hr.lt' h1 g m⟩ this
  subst this;rw[m]; simp
 rw[d];unfold PS;by_cases hm:key∈ks
 ·rw[kdt hm]
  by_cases h5:k=5
  ·subst h5
   obtain⟨j,m⟩:=List.getElem?_of_mem hm;have e:ks[q]? =some key:=by
    rw[kdt hm]at d;cases e:ks[q]? with
    | none=>rw[e]at d; cases d
    | some x=>rw[e]at d; rw[beq_iff_eq.1 d]
   have I:=py e;obtain⟨v,t⟩:∃ v,l[q]? =some v:=⟨_,jf (by omega)⟩;have w:=Bt n (by omega) v (by have:=uZ (gM t); omega);rw[if_pos ⟨rfl,hm⟩,Sc hr e,t];obtain⟨M,a2,a3,a4,a5,N⟩:=v;have u:decide ((q:Int)≥(((Val.rows l).length:Nat):Int))=false:=kdf (by rw[qo]; omega);simp only[jp,bne_self_eq_false,kcf,u,zG t,za,w]
  have:(k != 5)=true:=by simpa using h5
  rw[if_neg (fun h=>h5 h.1),this]
  rfl
 rw[kdf hm,if_neg (fun h=>hm h.2)]
 rfl
end
open Go Ax
open Go Ax
open Go Ax
open Go Ax
open Go Ax
@[simp] theorem EJ (l:List Node):(Node.rows l).length=l.length:=by simp[Node.rows]
@[simp] theorem EH (l:List Edge):(Edge.rows l).length=l.length:=by simp[Edge.rows]
def Zm (d:Node):Nat:=1+pb d.labels+pb d.keys+vk d.vals
def Zl (e:Edge):Nat:=1+e.type_.length+pb e.keys+vk e.vals
def Bz (g:Graph):Nat:=(g.nodes.map Zm).sum+(g.edges.map Zl).sum
def UpI {A:Type} (key:A->Int) (l:List A):Prop:=l.Pairwise fun a b=>key a<key b
def Ce {A:Type} (key:A->Int) (l:List A) (id:Int):Option A:=l.find? fun d=>key d==id
section
variable {A:Type} {key:A->Int} {l:List A} {id:Int}
theorem UpI.lt (h:UpI key l) {i j:Nat} {x y:A} (a:i<j) (c:l[i]? =some x) (d:l[j]? =some y):key x<key y:=by
 obtain⟨h1,e⟩:=jG.1 c;obtain⟨h2,e2⟩:=jG.1 d;have:=List.pairwise_iff_getElem.1 h i j h1 h2 a;rw[e,e2]at this;exact this
theorem Cq {d:A} (h:Ce key l id=some d):d∈l/\key d=id:=
 ⟨List.mem_of_find?_eq_some h,by simpa using List.find?_some h⟩
theorem qch (h:UpI key l) {i:Nat} {d:A} (a:l[i]? =some d) (hk:key d=id):Ce key l id=some d:=by
 cases f:Ce key l id with
 | none=>exact absurd hk (by simpa using List.find?_eq_none.1 f d (gM a))
 | some e=>
  obtain⟨hm,he⟩:=Cq f;obtain⟨j,c⟩:=List.getElem?_of_mem hm;rcases Nat.lt_trichotomy i j with h1|h1|h1
  ·have:=h.lt h1 a c; omega
  ·subst h1; rw[a]at c; exact c.symm
  have:=h.lt h1 c a; omega
theorem aq (h:∀ (i:Nat) (d:A),l[i]? =some d->key d≠id):Ce key l id=none:=
 List.find?_eq_none.2 fun d a=>by
  obtain⟨i,c⟩:=List.getElem?_of_mem a;simpa using h i d c
theorem qdr (hl:UpI key l) {B:(Int×Int->Option (Int×Bool))->Int×Int->Option (Int×Bool)}
  (z:∀ (i j:Nat) (x:A) f,i<j->j<=l.length->l[(i+j) / 2]? =some x->B f ((i:Int),(j:Int))=bif decide (key x<id)then f ((((i+j) / 2+1:Nat):Int),(j:Int))else f ((i:Int),(((i+j) / 2:Nat):Int)))
  (he:∀ (i:Nat) f,i<=l.length->B f ((i:Int),(i:Int))=some ((i:Int),match l[i]? with|some x=>decide (key x=id)|none=>false)) {n:Nat} (hn:l.length<n) :
  ∃ i:Nat,qA B n ((0:Int),((l.length:Nat):Int))=some ((i:Int),(Ce key l id).isSome)/\∀ d,Ce key l id=some d->l[i]? =some d:=by
 obtain⟨q,H,r,w,C⟩:=ij (B:=B) (fun a=>match l[a]? with|some x=>decide (key x<id)|none=>false) l.length
  (fun a c t D hp=>by
   obtain⟨x,e⟩:∃ x,l[c]? =some x:=⟨_,jf D⟩;obtain⟨y,m⟩:∃ y,l[a]? =some y:=⟨_,jf (by omega)⟩;simp only[e,kde]at hp;simp only[m,kde];rcases Nat.lt_or_eq_of_le t with h|rfl
   ·have:=hl.lt h m e; omega
   rw[e]at m; cases m; exact hp)
  (fun i j u o f=>by
   obtain⟨x,e⟩:∃ x,l[(i+j) / 2]? =some x:=⟨_,jf (by omega)⟩;rw[z i j x f u o e,e])
  (rest:=fun i=>some ((i:Int),match l[i]? with|some x=>decide (key x=id)|none=>false)) (fun i g f=>he i f g) hn
 refine⟨q,?_,fun d E=>?_⟩
 ·rw[C]
  congr 2;cases p:l[q]? with
  | none=>
   rw[aq fun i d g=>?_]
   ·rfl
   have F:=py g;have:=r i (by have:=List.getElem?_eq_none_iff.1 p; omega);simp only[g,kde]at this;omega
  | some x=>
   by_cases e:key x=id
   ·rw[qch hl p e]; simp[e]
   have v:=py p;have h3:=w q (jw _) v;simp only[p,decide_eq_false_iff_not]at h3;rw[aq fun i d g=>?_]
   ·simp[e]
   rcases Nat.lt_trichotomy i q with h|h|h
   ·have:=r i h
    simp only[g,kde]at this;omega
   ·subst h; rw[p]at g; cases g; exact e
   have:=hl.lt h p g; omega
 obtain⟨hm,hk⟩:=Cq E;obtain⟨j,o⟩:=List.getElem?_of_mem hm;have G:=py o;have:j=q:=by
  rcases Nat.lt_trichotomy j q with h|h|h
  ·have:=r j h
   simp only[o,kde]at this;omega
  ·exact h
  obtain⟨y,m⟩:∃ y,l[q]? =some y:=⟨_,jf (by omega)⟩;have h3:=w q (jw _) (by omega);simp only[m,decide_eq_false_iff_not]at h3;have:=hl.lt h m o;omega
 subst this;exact o
end
theorem ED (n:Nat) (x y:Int):xd n x y=some (if x<y then -1 else if y<x then 1 else 0):=by
 unfold xd uO;simp only[bne_self_eq_false,zl,qw];by_cases h:x<y
 ·rw[if_pos h,kdt h,kct]
 rw[if_neg h,kdf h,kcf];by_cases h2:y<x
 ·rw[if_pos h2,kdt (show x>y from h2),kct]
 rw[if_neg h2,kdf (show ¬ x>y from h2),kcf]
theorem qac (x y:Int):decide ((if x<y then(-1:Int)else if y<x then 1 else 0)<0)=decide (x<y):=by
 rw[decide_eq_decide];split
 ·omega
 split<;>omega
theorem qab (x y:Int):((if x<y then(-1:Int)else if y<x then 1 else 0)==0)=decide (x=y):=by
 rw[Bool.eq_iff_iff,beq_iff_eq,decide_eq_true_iff];split
 ·omega
 split<;>omega
section
variable {n:Nat} (hn:n<=1099511627776)
include hn
theorem MW {ks:List (List UInt8)} {vs:List Val} (h:vk vs<n) (hk:ks.length<=n):fP n ks vs=some (ks,vs):=by
 have hl:=xP vs;unfold fP;rw[qo,natI_nat,za,XF (by omega)];refine sE (B:=vV n vs ks) (fun i=>(vs.take i,((i:Nat):Int))) vs.length (fun i c d=>?_) (fun d=>?_) (by omega)
 ·obtain⟨x,a⟩:∃ x,vs[i]? =some x:=⟨_,jf c⟩
  have e:=Bt n hn x (by have:=uZ (gM a); omega);have f:=NT a;obtain⟨g,a2,a3,a4,a5,j⟩:=x;simp only[vV,qo,gg c,kct,zG a,zl,e];rw[f,XF (by rw[jt]; omega),xW (by omega)]
 show vV n vs ks d (vs.take vs.length,((vs.length:Nat):Int))=_;rw[List.take_length];unfold vV;simp only[qo,xZ,kcf];rw[XF (by rw[zc]; omega)]
theorem qd5 (d:Node):d.labels.length<=Zm d/\d.keys.length<=Zm d/\vk d.vals<Zm d:=by
 have h1:=gb d.labels;have h2:=gb d.keys;unfold Zm;omega
theorem qd3 (d:Edge):d.type_.length<=Zl d/\d.keys.length<=Zl d/\vk d.vals<Zl d:=by
 have h2:=gb d.keys;unfold Zl;omega
theorem PM {d:Node} (h:Zm d<n):fA n d=some d:=by
 obtain⟨h1,h2,h3⟩:=qd5 hn d;have a:=MW hn (ks:=d.keys) (vs:=d.vals) (by omega) (by omega);obtain⟨i,l,ks,vs⟩:=d;simp only at h1 a;unfold fA;simp only;rw[XF (by rw[zc]; omega),a,za]
theorem PL {d:Edge} (h:Zl d<n):fz n d=some d:=by
 obtain⟨h1,h2,h3⟩:=qd3 hn d;have c:=MW hn (ks:=d.keys) (vs:=d.vals) (by omega) (by omega);obtain⟨i,a,b,t,ks,vs⟩:=d;simp only at c;unfold fz;simp only;rw[c,za]
def qbf:Node×Bool:=(Node.mk (0:Int) ([]:List (List UInt8)) ([]:List (List UInt8)) ([]:List Val),false)
def qbe:Edge×Bool:=(Edge.mk (0:Int) (0:Int) (0:Int) ([]:List UInt8) ([]:List (List UInt8)) ([]:List Val),false)
theorem Td {l:List Node} (hu:UpI Node.id l) (hl:l.length<n) (r:∀ d∈l,Zm d<n) (es:List Edge) (id:Int) :
  fk n ⟨l,es⟩ id=some (match Ce Node.id l id with|some d=>(d,true)|none=>qbf):=by
 have c1:∀ d:Node,xj n d id ()=some (if d.id<id then -1 else if id<d.id then 1 else 0):=fun d=>by
  obtain⟨i,a,b,c⟩:=d;simp only[xj,np,zl,ED]
 obtain⟨q,t,u⟩:=qdr hu (id:=id) (B:=qk n l id)
  (fun i j x v m y g=>by
   have e:=c1 x;obtain⟨o,a,b,c⟩:=x;simp only[qk,gg m,zm,qe8 (show i+j<=1152921504606846976 by omega),zG g,zl,e,qac];rw[xW (by omega)])
  (fun i v z=>by
   simp only[qk,xZ,qw,EJ];by_cases h:i=l.length
   ·subst h
    rw[xZ,List.getElem?_eq_none (jw _)];rfl
   have f:i<l.length:=by omega
   obtain⟨x,g⟩:∃ x,l[i]? =some x:=⟨_,jf f⟩;have e:=c1 x;rw[g];obtain⟨o,a,b,c⟩:=x;simp only[gg f,gL,zG g,zl,e,qab,zm])
  hl
 unfold fk xf qz;simp only[EJ];rw[t,za];cases w:Ce Node.id l id with
 | none=>rfl
 | some d=>
  have p:=u d w;have e:=PM hn (r d (gM p));obtain⟨o,a,b,c⟩:=d;simp only[Option.isSome_some,jp,qw,zG p,zl,e]
theorem Tc {l:List Edge} (hu:UpI Edge.id l) (hl:l.length<n) (u:∀ d∈l,Zl d<n) (v:List Node) (id:Int) :
  cG n ⟨v,l⟩ id=some (match Ce Edge.id l id with|some d=>(d,true)|none=>qbe):=by
 have c1:∀ d:Edge,xi n d id ()=some (if d.id<id then -1 else if id<d.id then 1 else 0):=fun d=>by
  obtain⟨i,a,b,c,e,f⟩:=d;simp only[xi,nn,zl,ED]
 obtain⟨q,w,y⟩:=qdr hu (id:=id) (B:=qj n l id)
  (fun i j x z p D o=>by
   have g:=c1 x;obtain⟨r,a,b,c,e,f⟩:=x;simp only[qj,gg p,zm,qe8 (show i+j<=1152921504606846976 by omega),zG o,zl,g,qac];rw[xW (by omega)])
  (fun i z E=>by
   simp only[qj,xZ,qw,EH];by_cases h:i=l.length
   ·subst h
    rw[xZ,List.getElem?_eq_none (jw _)];rfl
   have m:i<l.length:=by omega
   obtain⟨x,o⟩:∃ x,l[i]? =some x:=⟨_,jf m⟩;have g:=c1 x;rw[o];obtain⟨r,a,b,c,e,f⟩:=x;simp only[gg m,gL,zG o,zl,g,qab,zm])
  hl
 unfold cG xe qy;simp only[EH];rw[w,za];cases C:Ce Edge.id l id with
 | none=>rfl
 | some d=>
  have t:=y d C;have g:=PL hn (u d (gM t));obtain⟨r,a,b,c,e,f⟩:=d;simp only[Option.isSome_some,jp,qw,zG t,zl,g]
end
open Go Ax
theorem RZ {g:Graph} {d:Node} (h:d∈g.nodes):Zm d<=Bz g:=by
 have:=tY Zm h; unfold Bz; omega
theorem Nc {g:Graph} {d:Edge} (h:d∈g.edges):Zl d<=Bz g:=by
 have:=tY Zl h; unfold Bz; omega
theorem qgd {g:Graph}:g.nodes.length<=Bz g/\g.edges.length<=Bz g:=by
 have h1:=tX Zm (fun d=>by unfold Zm; omega) g.nodes
 have h2:=tX Zl (fun d=>by unfold Zl; omega) g.edges
 unfold Bz;omega
open Go Ax
section
variable {n:Nat} (hn:n<=1099511627776) (h400:2000000<n)
include hn h400
end
theorem Vg (v:Val):2<=cn v:=by
 obtain⟨k,b,i,s,l,ks⟩:=v;have:=xP l;simp only[cn]; omega
end W
end
section
open Go Go.Proofs Ax
namespace W
open Go.Proofs.YtgbnebnnphdenaaGreat
theorem nU:∀ l:List qa,cM l=(l.map fun x=>cQ x+1).sum+1
 | []=>rfl
 | x::l=>by simp only[cM,jk,jA]; rw[nU l]; omega
theorem nZ:∀ l:List Val,vk l=(l.map fun x=>cn x+1).sum+1
 | []=>rfl
 | x::l=>by simp only[vk,jk,jA]; rw[nZ l]; omega
def oV (e:Env):Nat:=pb e.names+2+vk e.vals
def ic (a:vK):Nat:=oV a.v+Bz a.g+(cn a.params+2)
variable {Hd:Type} {enc:TypeId×Value->Hd} {w:World}
theorem Su {H:PH}:∀ {a:List PV} {b:List PV} {x y:List Value},zz H a x->zz H b y->zz H (a++b) (x++y)
 | [],_,x,_,h,h'=>by
  have:x=[]:=by simpa[zz]using h
  subst this; exact h'
 | p::a,_,x,_,h,h'=>by
  simp only[zz]at h;obtain⟨v,vs,rfl,h1,h2⟩:=h;simp only[List.cons_append,zz];exact⟨_,_,rfl,h1,Su h2 h'⟩
theorem UY {H:PH} {a b:List PV} {cs:List Value} {o z:Nat} (h:zz H a ((cs.drop o).take z)/\∀ u∈(cs.drop o).take z,u.oneCell'=true) (c:zz H b (cs.drop (o+z))/\∀ u∈cs.drop (o+z),u.oneCell'=true) :
  zz H (a++b) (cs.drop o)/\∀ u∈cs.drop o,u.oneCell'=true:=by
 have e:cs.drop o=(cs.drop o).take z++cs.drop (o+z):=by rw[← List.drop_drop,List.take_append_drop]
 refine⟨by rw[e]; exact Su h.1 c.1,fun u hu=>?_⟩;rw[e]at hu;rcases jy.1 hu with hu|hu
 ·exact h.2 u hu
 exact c.2 u hu
theorem qbh {H:PH} {cs:List Value} {z:Nat} (h:cs.length=z):zz H [] (cs.drop z)/\∀ u∈cs.drop z,u.oneCell'=true:=by
 have:cs.drop z=[]:=List.drop_eq_nil_of_le (by omega);rw[this];exact⟨rfl,fun u hu=>by cases hu⟩
theorem SB {α:Type} {a:α->Nat}:∀ (l:List α) (elems:List (DataW Hd)),l.length=elems.length->(∀ (i:Nat) (d:DataW Hd) (v:α),elems[i]? =some d->l[i]? =some v->a v<=Rows.uptoBulk d)->(l.map a).sum<=Rows.uptoBulkAll elems
 | [],_,_,_=>jS _
 | v::l,[],h,_=>by simp at h
 | v::l,d::elems,h,hh=>by
  have:=SB l elems (by simpa using h) fun i d v b c=>hh (i+1) d v (by simpa using b) (by simpa using c)
  have:=hh 0 d v rfl rfl;simp only[jk,jA,Rows.uptoBulkAll]; omega
theorem Vb {α:Type} [Inhabited α] {P:Program} {t e:TypeId} {z n:Nat} {row:α->List PV} {f:α->Nat} {rws:List α->List (List PV)} (g:P.underlying t=some (.slice e)) (hz:P.cellsOf e=z) (c:1<=z)
  (a:∀ v,(row v).length=z) (i:∀ l,rws l=l.map row) (d:∀ m,m<n->fW enc P w e m row f Rows.uptoBulk):fW enc P w t n (fun l:List α=>[PV.sl (rws l)]) (fun l=>(l.map f).sum+1) Rows.uptoBulk:=by
 intro cs x h;obtain⟨l,v,rfl,o,r,b⟩:=Tw g hz c a d h;refine⟨l,?_,by simpa using o,?_⟩
 ·simp only[zz]
  exact⟨_,_,rfl,by rw[i]; exact r,rfl⟩
 rcases b with ⟨e,rfl⟩|⟨j,rest,e,hl,k⟩
 ·rw[e]; simp[Rows.uptoBulk]
 rw[e];have:=SB l j hl k;simp only[Rows.uptoBulk]; omega
theorem rd3 (n:Nat):fW (α:=Int) enc Tryz.prog w 3 n (fun i=>[PV.int .i64 i]) (isz) Rows.uptoBulk:=by
 intro cs x h;obtain⟨k,e,rfl,hw⟩:=DataW.trod_int Tryz.underlying3 h;cases e;exact⟨k,by simp[zz,qP],by simp[Value.oneCell'],by simp only[Rows.uptoBulk]; exact Nat.le_of_eq (qai (by simpa[Lit.wf]using hw))⟩
theorem rd4 (n:Nat):fW (α:=Bool) enc Tryz.prog w 4 n (fun b=>[PV.bool b]) (fun _=>1) Rows.uptoBulk:=by
 intro cs x h;obtain⟨k,e,rfl⟩:=DataW.trod_bool Tryz.underlying4 h;cases e;exact⟨k,by simp[zz,qP],by simp[Value.oneCell'],by simp[Rows.uptoBulk]⟩
theorem rd2 (n:Nat):fW (α:=Int) enc Tryz.prog w 2 n (fun i=>[PV.int .i64 i]) (isz) Rows.uptoBulk:=by
 intro cs x h;obtain⟨k,e,rfl,hw⟩:=DataW.trod_int Tryz.underlying2 h;cases e;exact⟨k,by simp[zz,qP],by simp[Value.oneCell'],by simp only[Rows.uptoBulk]; exact Nat.le_of_eq (qai (by simpa[Lit.wf]using hw))⟩
theorem rd9 (n:Nat):fW (α:=List UInt8) enc Tryz.prog w 9 n (fun s=>[PV.str s]) (fun s=>1+s.length) Rows.uptoBulk:=by
 intro cs x h;obtain⟨s,e,rfl,_⟩:=DataW.trod_string Tryz.underlying9 h;cases e;exact⟨s.data.toList,by simp[zz,qP],by simp[Value.oneCell'],by simp[Rows.uptoBulk]; omega⟩
theorem qdd (n:Nat):fW (α:=List (List UInt8)) enc Tryz.prog w 23 n (fun l=>[PV.sl (qi l)]) (fun l=>(l.map (fun s=>1+s.length)).sum+1) Rows.uptoBulk:=
 Vb (α:=List UInt8) (z:=1) (rws:=qi) Tryz.underlying23 (by kernel_rfl) (by decide) (fun _=>rfl) (fun _=>rfl) (fun m hm=>rd9 m)
theorem qfd (n:Nat):fW (α:=Val) enc Tryz.prog w 25 n (Val.cells) (fun x=>cn x+1) Rows.uptoBulk:=by
 induction n using Nat.strongRecOn with
 | ind n ih=>
 intro cs x h;obtain⟨xs,m,rfl,rfl,b,l,a⟩:=DataW.trod_struct Tryz.underlying25 h;rw[show Tryz.prog.cellsOf 25=6 by kernel_rfl]at b;have c:xs.length=6:=l;obtain⟨d,e,f,g,i,k,rfl⟩:∃ d e f g i k,xs=[d,e,f,g,i,k]:=by
  match xs,c with
  | [d,e,f,g,i,k],_=>exact⟨d,e,f,g,i,k,rfl⟩
 have f0:=a 0 _ rfl;change DataW.trod enc Tryz.prog w 0 _ true m 3 ((cs.drop 0).take (Tryz.prog.cellsOf 3))=some d at f0;rw[show Tryz.prog.cellsOf 3=1 by kernel_rfl]at f0;obtain⟨v0,r0,o,p⟩:=rd3 m _ _ f0;have f1:=a 1 _ rfl;change DataW.trod enc Tryz.prog w 0 _ true m 4 ((cs.drop 1).take (Tryz.prog.cellsOf 4))=some e at f1;rw[show Tryz.prog.cellsOf 4=1 by kernel_rfl]at f1;obtain⟨v1,q,r,s⟩:=rd4 m _ _ f1;have f2:=a 2 _ rfl;change DataW.trod enc Tryz.prog w 0 _ true m 2 ((cs.drop 2).take (Tryz.prog.cellsOf 2))=some f at f2;rw[show Tryz.prog.cellsOf 2=1 by kernel_rfl]at f2;obtain⟨v2,t,u,v⟩:=rd2 m _ _ f2;have f3:=a 3 _ rfl;change DataW.trod enc Tryz.prog w 0 _ true m 9 ((cs.drop 3).take (Tryz.prog.cellsOf 9))=some g at f3;rw[show Tryz.prog.cellsOf 9=1 by kernel_rfl]at f3;obtain⟨v3,y,A,B⟩:=rd9 m _ _ f3;have f4:=a 4 _ rfl;change DataW.trod enc Tryz.prog w 0 _ true m 22 ((cs.drop 4).take (Tryz.prog.cellsOf 22))=some i at f4;rw[show Tryz.prog.cellsOf 22=1 by kernel_rfl]at f4;obtain⟨v4,C,D,E⟩:=(Vb (α:=Val) (z:=6) (rws:=Val.rows) Tryz.underlying22 (by kernel_rfl) (by decide) (XD) (rows_eq) (fun j F=>ih j (Nat.lt_trans F (Nat.lt_succ_self _)))) _ _ f4
 have f5:=a 5 _ rfl;change DataW.trod enc Tryz.prog w 0 _ true m 23 ((cs.drop 5).take (Tryz.prog.cellsOf 23))=some k at f5;rw[show Tryz.prog.cellsOf 23=1 by kernel_rfl]at f5;obtain⟨v5,G,H,I⟩:=qdd m _ _ f5;have key:=UY ⟨r0,o⟩ (UY ⟨q,r⟩ (UY ⟨t,u⟩ (UY ⟨y,A⟩ (UY ⟨C,D⟩ (UY ⟨G,H⟩ (qbh b))))));rw[List.drop_zero]at key;refine⟨⟨v0,v1,v2,v3,v4,v5⟩,?_,key.2,?_⟩
 ·have key:=key.1
  exact key
 simp only[cn,Rows.uptoBulk,Rows.uptoBulkAll,jk,jN,nU,nZ,pb];simp only[]at p s v B E I;omega
theorem qgs (n:Nat):fW (α:=qa) enc Tryz.prog w 28 n (qa.cells) (fun x=>cQ x+1) Rows.uptoBulk:=by
 induction n using Nat.strongRecOn with
 | ind n ih=>
 intro cs x h;obtain⟨xs,m,rfl,rfl,a,k,b⟩:=DataW.trod_struct Tryz.underlying28 h;rw[show Tryz.prog.cellsOf 28=10 by kernel_rfl]at a;have c:xs.length=5:=k;obtain⟨d,e,f,g,i,rfl⟩:∃ d e f g i,xs=[d,e,f,g,i]:=by
  match xs,c with
  | [d,e,f,g,i],_=>exact⟨d,e,f,g,i,rfl⟩
 have f0:=b 0 _ rfl;change DataW.trod enc Tryz.prog w 0 _ true m 3 ((cs.drop 0).take (Tryz.prog.cellsOf 3))=some d at f0;rw[show Tryz.prog.cellsOf 3=1 by kernel_rfl]at f0;obtain⟨v0,r0,u,v⟩:=rd3 m _ _ f0;have f1:=b 1 _ rfl;change DataW.trod enc Tryz.prog w 0 _ true m 9 ((cs.drop 1).take (Tryz.prog.cellsOf 9))=some e at f1;rw[show Tryz.prog.cellsOf 9=1 by kernel_rfl]at f1;obtain⟨v1,y,A,B⟩:=rd9 m _ _ f1;have f2:=b 2 _ rfl;change DataW.trod enc Tryz.prog w 0 _ true m 25 ((cs.drop 2).take (Tryz.prog.cellsOf 25))=some f at f2;rw[show Tryz.prog.cellsOf 25=6 by kernel_rfl]at f2;obtain⟨v2,C,D,l⟩:=qfd m _ _ f2;have f3:=b 3 _ rfl;change DataW.trod enc Tryz.prog w 0 _ true m 23 ((cs.drop 8).take (Tryz.prog.cellsOf 23))=some g at f3;rw[show Tryz.prog.cellsOf 23=1 by kernel_rfl]at f3;obtain⟨v3,E,F,G⟩:=qdd m _ _ f3;have f4:=b 4 _ rfl;change DataW.trod enc Tryz.prog w 0 _ true m 26 ((cs.drop 9).take (Tryz.prog.cellsOf 26))=some i at f4;rw[show Tryz.prog.cellsOf 26=1 by kernel_rfl]at f4;obtain⟨v4,H,I,J⟩:=(Vb (α:=qa) (z:=10) (rws:=qa.rows) Tryz.underlying26 (by kernel_rfl) (by decide) (qa.width) (qa.rows_eq) (fun j K=>ih j (Nat.lt_trans K (Nat.lt_succ_self _)))) _ _ f4
 have bb2:=l;have key:=UY ⟨r0,u⟩ (UY ⟨y,A⟩ (UY ⟨C,D⟩ (UY ⟨E,F⟩ (UY ⟨H,I⟩ (qbh a)))));rw[List.drop_zero]at key;refine⟨⟨v0,v1,v2,v3,v4⟩,?_,key.2,?_⟩
 ·have key:=key.1
  obtain⟨o,p,q,r,s,t⟩:=v2;exact key
 simp only[cQ,Rows.uptoBulk,Rows.uptoBulkAll,jk,jN,nU,nZ,pb];simp only[]at v B l G J;omega
theorem qfx (n:Nat):fW (α:=List (Val)) enc Tryz.prog w 22 n (fun l=>[PV.sl (Val.rows l)]) (fun l=>(l.map (fun x=>cn x+1)).sum+1) Rows.uptoBulk:=
 Vb (α:=Val) (z:=6) (rws:=Val.rows) Tryz.underlying22 (by kernel_rfl) (by decide) (XD) (rows_eq) (fun m hm=>qfd m)
theorem qgy (n:Nat):fW (α:=Node) enc Tryz.prog w 99 n (Node.cells) (Zm) Rows.uptoBulk:=by
 intro cs x h;obtain⟨xs,m,rfl,rfl,a,i,g⟩:=DataW.trod_struct Tryz.underlying99 h;rw[show Tryz.prog.cellsOf 99=4 by kernel_rfl]at a;have b:xs.length=4:=i;obtain⟨c,d,e,f,rfl⟩:∃ c d e f,xs=[c,d,e,f]:=by
  match xs,b with
  | [c,d,e,f],_=>exact⟨c,d,e,f,rfl⟩
 have f0:=g 0 _ rfl;change DataW.trod enc Tryz.prog w 0 _ true m 2 ((cs.drop 0).take (Tryz.prog.cellsOf 2))=some c at f0;rw[show Tryz.prog.cellsOf 2=1 by kernel_rfl]at f0;obtain⟨v0,r0,j,k⟩:=rd2 m _ _ f0;have f1:=g 1 _ rfl;change DataW.trod enc Tryz.prog w 0 _ true m 23 ((cs.drop 1).take (Tryz.prog.cellsOf 23))=some d at f1;rw[show Tryz.prog.cellsOf 23=1 by kernel_rfl]at f1;obtain⟨v1,l,o,p⟩:=qdd m _ _ f1;have f2:=g 2 _ rfl;change DataW.trod enc Tryz.prog w 0 _ true m 23 ((cs.drop 2).take (Tryz.prog.cellsOf 23))=some e at f2;rw[show Tryz.prog.cellsOf 23=1 by kernel_rfl]at f2;obtain⟨v2,q,r,s⟩:=qdd m _ _ f2;have f3:=g 3 _ rfl;change DataW.trod enc Tryz.prog w 0 _ true m 22 ((cs.drop 3).take (Tryz.prog.cellsOf 22))=some f at f3;rw[show Tryz.prog.cellsOf 22=1 by kernel_rfl]at f3;obtain⟨v3,t,u,v⟩:=qfx m _ _ f3;have key:=UY ⟨r0,j⟩ (UY ⟨l,o⟩ (UY ⟨q,r⟩ (UY ⟨t,u⟩ (qbh a))));rw[List.drop_zero]at key;refine⟨⟨v0,v1,v2,v3⟩,?_,key.2,?_⟩
 ·have key:=key.1
  exact key
 simp only[Zm,Rows.uptoBulk,Rows.uptoBulkAll,jk,jN,nU,nZ,pb];simp only[]at k p s v;omega
theorem qfw (n:Nat):fW (α:=Edge) enc Tryz.prog w 101 n (Edge.cells) (Zl) Rows.uptoBulk:=by
 intro cs x h;obtain⟨xs,m,rfl,rfl,b,k,a⟩:=DataW.trod_struct Tryz.underlying101 h;rw[show Tryz.prog.cellsOf 101=6 by kernel_rfl]at b;have c:xs.length=6:=k;obtain⟨d,e,f,g,i,j,rfl⟩:∃ d e f g i j,xs=[d,e,f,g,i,j]:=by
  match xs,c with
  | [d,e,f,g,i,j],_=>exact⟨d,e,f,g,i,j,rfl⟩
 have f0:=a 0 _ rfl;change DataW.trod enc Tryz.prog w 0 _ true m 2 ((cs.drop 0).take (Tryz.prog.cellsOf 2))=some d at f0;rw[show Tryz.prog.cellsOf 2=1 by kernel_rfl]at f0;obtain⟨v0,r0,l,o⟩:=rd2 m _ _ f0;have f1:=a 1 _ rfl;change DataW.trod enc Tryz.prog w 0 _ true m 2 ((cs.drop 1).take (Tryz.prog.cellsOf 2))=some e at f1;rw[show Tryz.prog.cellsOf 2=1 by kernel_rfl]at f1;obtain⟨v1,p,q,r⟩:=rd2 m _ _ f1;have f2:=a 2 _ rfl;change DataW.trod enc Tryz.prog w 0 _ true m 2 ((cs.drop 2).take (Tryz.prog.cellsOf 2))=some f at f2;rw[show Tryz.prog.cellsOf 2=1 by kernel_rfl]at f2;obtain⟨v2,s,t,u⟩:=rd2 m _ _ f2;have f3:=a 3 _ rfl;change DataW.trod enc Tryz.prog w 0 _ true m 9 ((cs.drop 3).take (Tryz.prog.cellsOf 9))=some g at f3;rw[show Tryz.prog.cellsOf 9=1 by kernel_rfl]at f3;obtain⟨v3,v,y,z⟩:=rd9 m _ _ f3;have f4:=a 4 _ rfl;change DataW.trod enc Tryz.prog w 0 _ true m 23 ((cs.drop 4).take (Tryz.prog.cellsOf 23))=some i at f4;rw[show Tryz.prog.cellsOf 23=1 by kernel_rfl]at f4;obtain⟨v4,A,B,C⟩:=qdd m _ _ f4;have f5:=a 5 _ rfl;change DataW.trod enc Tryz.prog w 0 _ true m 22 ((cs.drop 5).take (Tryz.prog.cellsOf 22))=some j at f5;rw[show Tryz.prog.cellsOf 22=1 by kernel_rfl]at f5;obtain⟨v5,D,E,F⟩:=qfx m _ _ f5;have key:=UY ⟨r0,l⟩ (UY ⟨p,q⟩ (UY ⟨s,t⟩ (UY ⟨v,y⟩ (UY ⟨A,B⟩ (UY ⟨D,E⟩ (qbh b))))));rw[List.drop_zero]at key;refine⟨⟨v0,v1,v2,v3,v4,v5⟩,?_,key.2,?_⟩
 ·have key:=key.1
  exact key
 simp only[Zl,Rows.uptoBulk,Rows.uptoBulkAll,jk,jN,nU,nZ,pb];simp only[]at o r u z C F;omega
theorem qgu (n:Nat):fW (α:=List (Node)) enc Tryz.prog w 31 n (fun l=>[PV.sl (Node.rows l)]) (fun l=>(l.map (Zm)).sum+1) Rows.uptoBulk:=
 Vb (α:=Node) (z:=4) (rws:=Node.rows) Tryz.underlying31 (by kernel_rfl) (by decide) (Vs.hz) (fun _=>rfl) (fun m hm=>qgy m)
theorem qgv (n:Nat):fW (α:=List (Edge)) enc Tryz.prog w 32 n (fun l=>[PV.sl (Edge.rows l)]) (fun l=>(l.map (Zl)).sum+1) Rows.uptoBulk:=
 Vb (α:=Edge) (z:=6) (rws:=Edge.rows) Tryz.underlying32 (by kernel_rfl) (by decide) (GF.hz) (fun _=>rfl) (fun m hm=>qfw m)
theorem qgw (n:Nat):fW (α:=Graph) enc Tryz.prog w 34 n (Graph.cells) (Bz) Rows.uptoBulk:=by
 intro cs x h;obtain⟨xs,m,rfl,rfl,a,e,f⟩:=DataW.trod_struct Tryz.underlying34 h;rw[show Tryz.prog.cellsOf 34=2 by kernel_rfl]at a;have b:xs.length=2:=e;obtain⟨c,d,rfl⟩:∃ c d,xs=[c,d]:=by
  match xs,b with
  | [c,d],_=>exact⟨c,d,rfl⟩
 have f0:=f 0 _ rfl;change DataW.trod enc Tryz.prog w 0 _ true m 31 ((cs.drop 0).take (Tryz.prog.cellsOf 31))=some c at f0;rw[show Tryz.prog.cellsOf 31=1 by kernel_rfl]at f0;obtain⟨v0,r0,g,i⟩:=qgu m _ _ f0;have f1:=f 1 _ rfl;change DataW.trod enc Tryz.prog w 0 _ true m 32 ((cs.drop 1).take (Tryz.prog.cellsOf 32))=some d at f1;rw[show Tryz.prog.cellsOf 32=1 by kernel_rfl]at f1;obtain⟨v1,j,k,l⟩:=qgv m _ _ f1;have key:=UY ⟨r0,g⟩ (UY ⟨j,k⟩ (qbh a));rw[List.drop_zero]at key;refine⟨⟨v0,v1⟩,?_,key.2,?_⟩
 ·have key:=key.1
  exact key
 simp only[Bz,Rows.uptoBulk,Rows.uptoBulkAll,jk,jN,nU,nZ,pb];simp only[]at i l;omega
theorem qgt (n:Nat):fW (α:=Env) enc Tryz.prog w 30 n (Env.cells) (oV) Rows.uptoBulk:=by
 intro cs x h;obtain⟨xs,m,rfl,rfl,a,e,f⟩:=DataW.trod_struct Tryz.underlying30 h;rw[show Tryz.prog.cellsOf 30=2 by kernel_rfl]at a;have b:xs.length=2:=e;obtain⟨c,d,rfl⟩:∃ c d,xs=[c,d]:=by
  match xs,b with
  | [c,d],_=>exact⟨c,d,rfl⟩
 have f0:=f 0 _ rfl;change DataW.trod enc Tryz.prog w 0 _ true m 23 ((cs.drop 0).take (Tryz.prog.cellsOf 23))=some c at f0;rw[show Tryz.prog.cellsOf 23=1 by kernel_rfl]at f0;obtain⟨v0,r0,g,i⟩:=qdd m _ _ f0;have f1:=f 1 _ rfl;change DataW.trod enc Tryz.prog w 0 _ true m 22 ((cs.drop 1).take (Tryz.prog.cellsOf 22))=some d at f1;rw[show Tryz.prog.cellsOf 22=1 by kernel_rfl]at f1;obtain⟨v1,j,k,l⟩:=qfx m _ _ f1;have key:=UY ⟨r0,g⟩ (UY ⟨j,k⟩ (qbh a));rw[List.drop_zero]at key;refine⟨⟨v0,v1⟩,?_,key.2,?_⟩
 ·have key:=key.1
  exact key
 simp only[oV,Rows.uptoBulk,Rows.uptoBulkAll,jk,jN,nU,nZ,pb];simp only[]at i l;omega
theorem qgx (n:Nat):fW (α:=vK) enc Tryz.prog w 36 n (vK.cells) (ic) Rows.uptoBulk:=by
 intro cs x h;obtain⟨xs,m,rfl,rfl,a,f,g⟩:=DataW.trod_struct Tryz.underlying36 h;rw[show Tryz.prog.cellsOf 36=10 by kernel_rfl]at a;have b:xs.length=3:=f;obtain⟨c,d,e,rfl⟩:∃ c d e,xs=[c,d,e]:=by
  match xs,b with
  | [c,d,e],_=>exact⟨c,d,e,rfl⟩
 have f0:=g 0 _ rfl;change DataW.trod enc Tryz.prog w 0 _ true m 30 ((cs.drop 0).take (Tryz.prog.cellsOf 30))=some c at f0;rw[show Tryz.prog.cellsOf 30=2 by kernel_rfl]at f0;obtain⟨v0,r0,z,i⟩:=qgt m _ _ f0;have f1:=g 1 _ rfl;change DataW.trod enc Tryz.prog w 0 _ true m 34 ((cs.drop 2).take (Tryz.prog.cellsOf 34))=some d at f1;rw[show Tryz.prog.cellsOf 34=2 by kernel_rfl]at f1;obtain⟨v1,A,B,j⟩:=qgw m _ _ f1;have f2:=g 2 _ rfl;change DataW.trod enc Tryz.prog w 0 _ true m 25 ((cs.drop 4).take (Tryz.prog.cellsOf 25))=some e at f2;rw[show Tryz.prog.cellsOf 25=6 by kernel_rfl]at f2;obtain⟨v2,C,D,k⟩:=qfd m _ _ f2;have bb0:=i;have bb1:=j;have bb2:=k;have key:=UY ⟨r0,z⟩ (UY ⟨A,B⟩ (UY ⟨C,D⟩ (qbh a)));rw[List.drop_zero]at key;refine⟨⟨v0,v1,v2⟩,?_,key.2,?_⟩
 ·have key:=key.1
  obtain⟨l,o⟩:=v0;obtain⟨p,q⟩:=v1;obtain⟨r,s,t,u,v,y⟩:=v2;exact key
 simp only[ic,Rows.uptoBulk,Rows.uptoBulkAll,jk,jN,nU,nZ,pb];simp only[]at i j k;omega
end W
end
section
namespace W
open Go Go.Proofs Ax Go.RowKit Go.ChangeShapes Go.WideShapes Go.ChangeAt
open Go.Proofs.YtgbnebnnphdenaaGreat Go.ChangeMaps
theorem own:ownKnob Tryz.prog.godebug=none:=by kernel_rfl
theorem LH:laidOutB Tryz.prog=true:=by kernel_rfl
theorem root {W:World} (h:W.ShapedOpen Tryz.prog):∃ m,W.cell? ⟨0,0,none⟩=some (.int .i64 m):=
 cell_of_shapedOpen_int (zero:=#[.int .i64 0]) (t:=3) h (kod (by kernel_rfl)) (by kernel_rfl) rfl (by kernel_rfl) (by kernel_rfl) Tryz.underlying3
section
variable {Hd:Type} {enc:TypeId×Value->Hd} {W:World}
set_option maxRecDepth 100000 in
theorem rC {v0:Value} {d0:DataW Hd} {p:List MemPlace} {b:Nat} (a:Value.okWide Tryz.prog W .any b 28 v0) (h:DataW.Trod enc Tryz.prog W 0 (fun _=>true) true 28 v0 d0 p) :
  ∃ s:qa,qP (UC W) (.agg (zx.cells s)) v0/\cQ s+1<=Rows.uptoBulk d0:=by
 obtain⟨cs,rfl,_⟩:=okWide_struct Tryz.underlying28 a;obtain⟨fuel,h⟩:=h;obtain⟨v,r,_,c⟩:=qgs fuel _ _ h;refine⟨v,?_,c⟩;simp only[qP];exact⟨cs.toList,by simp,r⟩
set_option maxRecDepth 100000 in
theorem Zv {v0:Value} {d0:DataW Hd} {p:List MemPlace} {b:Nat} (a:Value.okWide Tryz.prog W .any b 36 v0) (h:DataW.Trod enc Tryz.prog W 0 (fun _=>true) true 36 v0 d0 p) :
  ∃ s:vK,qP (UC W) (.agg (Bp.cells s)) v0/\ic s<=Rows.uptoBulk d0:=by
 obtain⟨cs,rfl,_⟩:=okWide_struct Tryz.underlying36 a;obtain⟨fuel,h⟩:=h;obtain⟨v,r,_,c⟩:=qgx fuel _ _ h;refine⟨v,?_,c⟩;simp only[qP];exact⟨cs.toList,by simp,r⟩
end
noncomputable def ZI (os:Os):World:=World.holding Tryz.prog os ⟨#[],#[],[]⟩
abbrev VE:Value:=.agg #[.int .i64 0,.string ⟨#[]⟩,.int .i64 0,.bool false,.int .i64 0,.string ⟨#[]⟩,.slice none 0 0,.slice none 0 0,.slice none 0 0,.slice none 0 0]
abbrev DE (H:Type):DataW H:=.agg [.lit (.int .i64 0),.lit (.string []),.agg [.lit (.int .i64 0),.lit (.bool false),.lit (.int .i64 0),.lit (.string []),.nil,.nil],.nil,.nil]
abbrev VA:Value:=.agg #[.slice none 0 0,.slice none 0 0,.slice none 0 0,.slice none 0 0,.int .i64 0,.bool false,.int .i64 0,.string ⟨#[]⟩,.slice none 0 0,.slice none 0 0]
abbrev DA (H:Type):DataW H:=.agg [.agg [.nil,.nil],.agg [.nil,.nil],.agg [.lit (.int .i64 0),.lit (.bool false),.lit (.int .i64 0),.lit (.string []),.nil,.nil]]
end W
end
section
open Go Ax
namespace W
def Tot {R:Type} (N:Nat) (F:Nat->Option R) (Q:R->Prop):Prop:=∃ r,Q r/\∀ n,N<=n->n<=1099511627776->F n=some r
def zo {R S:Type} (N:Nat) (F:Nat->(S->Option R)->Option R) (QS:S->Prop) (Q:R->Prop):Prop:=
 (∃ s,QS s/\∀ n a,N<=n->n<=1099511627776->F n a=a s)\/∃ r,Q r/\∀ n a,N<=n->n<=1099511627776->F n a=some r
section
variable {R A S:Type} {N:Nat} {Q:R->Prop} {P:A->Prop} {QS:S->Prop}
theorem Tot.one {r:R} (h:Q r):Tot N (fun _=>some r) Q:=⟨r,h,fun _ _ _=>rfl⟩
theorem Tot.of {F:Nat->Option R} {r:R} (e:∀ n,N<=n->n<=1099511627776->F n=some r) (h:Q r):Tot N F Q:=⟨r,h,e⟩
theorem Tot.bnd {F:Nat->Option A} {K:Nat->A->Option R} (h:Tot N F P) (k:∀ a,P a->Tot N (fun n=>K n a) Q):Tot N (fun n=>Ax.bnd (F n) (K n)) Q:=by
 obtain⟨a,b,ha⟩:=h;obtain⟨r,qr,c⟩:=k a b;exact⟨r,qr,fun n h1 h2=>by show Ax.bnd (F n) (K n)=_; rw[ha n h1 h2]; exact c n h1 h2⟩
theorem Tot.chk {b:Bool} {K:Nat->Option R} (h:b=true) (k:Tot N K Q):Tot N (fun n=>Ax.chk b (K n)) Q:=by subst h; exact k
theorem Tot.cond {b:Bool} {K L:Nat->Option R} (h:b=true->Tot N K Q) (k:b=false->Tot N L Q):Tot N (fun n=>bif b then K n else L n) Q:=by
 cases b with
 | true=>exact h rfl
 | false=>exact k rfl
theorem Tot.gs [Inhabited A] {g:Bool} {F:Nat->Option A} (h:g=true->Tot N F P):Tot N (fun n=>qE g (F n)) (fun a=>g=true->P a):=by
 cases g with
 | true=>
  obtain⟨a,b,ha⟩:=h rfl;exact⟨a,fun _=>b,ha⟩
 | false=>exact⟨default,fun h=>absurd h Bool.false_ne_true,fun _ _ _=>rfl⟩
theorem Tot.mono {M:Nat} {F:Nat->Option R} {a:R->Prop} (h:Tot N F Q) (b:N<=M) (c:∀ r,Q r->a r):Tot M F a:=by
 obtain⟨r,qr,d⟩:=h;exact⟨r,c r qr,fun n h1 h2=>d n (Nat.le_trans b h1) h2⟩
theorem Tot.up {M:Nat} {F:Nat->Option R} (h:Tot N F Q) (a:N<=M):Tot M F Q:=h.mono a fun _ q=>q
theorem Tot.imp {F:Nat->Option R} {a:R->Prop} (h:Tot N F Q) (b:∀ r,Q r->a r):Tot N F a:=h.mono (jw _) b
theorem Tot.idx {l:List A} {i:Nat} {x:A} (h:l[i]? =some x) (p:P x):Tot N (fun _=>Ax.idx l (i:Int)) P:=
 ⟨x,p,fun _ _ _=>by unfold Ax.idx; rw[if_pos (Int.natCast_nonneg i)]; simpa using h⟩
theorem Tot.val {F:Nat->Option R} (h:Tot N F Q) (b:N<=1099511627776) (d:R):Q ((F N).getD d)/\∀ n,N<=n->n<=1099511627776->F n=some ((F N).getD d):=by
 obtain⟨r,qr,a⟩:=h;have e:F N=some r:=a N (jw _) b;rw[e];exact⟨qr,a⟩
theorem Tot.succ {F G:Nat->Option R} (e:∀ n,F (n+1)=G n) (h:Tot N G Q):Tot (N+1) F Q:=by
 obtain⟨r,qr,a⟩:=h;refine⟨r,qr,fun n h1 h2=>?_⟩;obtain⟨m,rfl⟩:=jj (by omega:n≠0);rw[e];exact a m (by omega) (by omega)
theorem zo.next {s:S} (h:QS s):zo N (fun _ (a:S->Option R)=>a s) QS Q:=.inl ⟨s,h,fun _ _ _ _=>rfl⟩
theorem zo.one {r:R} (h:Q r):zo N (fun _ (_:S->Option R)=>some r) QS Q:=.inr ⟨r,h,fun _ _ _ _=>rfl⟩
theorem zo.tot {F:Nat->Option R} (h:Tot N F Q):zo N (fun n (_:S->Option R)=>F n) QS Q:=by
 obtain⟨r,qr,a⟩:=h;exact .inr ⟨r,qr,fun n _ h1 h2=>a n h1 h2⟩
theorem zo.bnd {F:Nat->Option A} {K:Nat->(S->Option R)->A->Option R} (h:Tot N F P) (k:∀ a,P a->zo N (fun n b=>K n b a) QS Q):zo N (fun n b=>Ax.bnd (F n) (K n b)) QS Q:=by
 obtain⟨a,d,ha⟩:=h;rcases k a d with ⟨r,qr,c⟩|⟨r,qr,c⟩
 ·exact .inl ⟨r,qr,fun n b h1 h2=>by show Ax.bnd (F n) (K n b)=_; rw[ha n h1 h2]; exact c n b h1 h2⟩
 exact .inr ⟨r,qr,fun n b h1 h2=>by show Ax.bnd (F n) (K n b)=_; rw[ha n h1 h2]; exact c n b h1 h2⟩
theorem zo.chk {b:Bool} {K:Nat->(S->Option R)->Option R} (h:b=true) (k:zo N K QS Q):zo N (fun n a=>Ax.chk b (K n a)) QS Q:=by subst h; exact k
theorem zo.cond {b:Bool} {K L:Nat->(S->Option R)->Option R} (h:b=true->zo N K QS Q) (k:b=false->zo N L QS Q):zo N (fun n a=>bif b then K n a else L n a) QS Q:=by
 cases b with
 | true=>exact h rfl
 | false=>exact k rfl
theorem Tot.loop {B:Nat->(S->Option R)->S->Option R} (I:Nat->S->Prop) (h:∀ m s,I m s->zo N (fun n g=>B n g s) (fun c=>∃ b,b<m/\I b c) Q) {m0:Nat} {d:S} (i:I m0 d) (o:m0<N) :
  Tot N (fun n=>qA (B n) n d) Q:=by
 have key:∀ (M m:Nat),m<=M->∀ s,I m s->∃ r,Q r/\∀ n k,N<=n->n<=1099511627776->m<k->qA (B n) k s=some r:=by
  intro M
  induction M with
  | zero=>
   intro m hm s e;rcases h m s e with ⟨c,⟨b,f,_⟩,_⟩|⟨r,qr,a⟩
   ·omega
   refine⟨r,qr,fun n k h1 h2 h3=>?_⟩;obtain⟨k,rfl⟩:=jj (by omega:k≠0);exact a n _ h1 h2
  | succ M ih=>
   intro m hm s e;rcases h m s e with ⟨c,⟨b,f,j⟩,a⟩|⟨r,qr,a⟩
   ·obtain⟨r,qr,l⟩:=ih b (by omega) c j
    refine⟨r,qr,fun n k h1 h2 h3=>?_⟩;obtain⟨k,rfl⟩:=jj (by omega:k≠0);exact(a n _ h1 h2).trans (l n k h1 h2 (by omega))
   refine⟨r,qr,fun n k h1 h2 h3=>?_⟩;obtain⟨k,rfl⟩:=jj (by omega:k≠0);exact a n _ h1 h2
 obtain⟨r,qr,a⟩:=key m0 m0 (jw _) d i;exact⟨r,qr,fun n h1 h2=>a n n h1 h2 (by omega)⟩
end
end W
end
section
open Go Ax
namespace W
def PF (v:Val):Bool:=(uM 0 v).getD false
theorem RI (n:Nat) (v:Val):uM n v=some (PF v):=by cases v; rfl
def Rn (ks:List (List UInt8)):Bool:=(uj (ks.length+1) ks).getD false
theorem xG {A:Type} {l:List A} {k:Nat} (h:k<l.length):l[k]? =some l[k]:=jf h
theorem lx (ks:List (List UInt8)) (d:ks.length<=1099511627775):Tot (ks.length+1) (fun n=>uj n ks) (fun _=>True):=by
 unfold uj;refine Tot.loop (fun m s=>∃ k:Nat,s=(k:Int)/\k+m=ks.length) ?_ ⟨0,rfl,by omega⟩ (Nat.lt_succ_self _);rintro m _ ⟨k,rfl,hm⟩;unfold vx;refine zo.cond (fun b=>?_) (fun _=>.one trivial);rw[zc]at b;have a:k<ks.length:=by have:=kod b; omega
 refine zo.bnd (Tot.idx (xG a) (P:=fun _=>True) trivial) fun x _=>?_
 refine zo.bnd (P:=fun _=>True) ((Tot.gs (P:=fun _=>True) fun c=>?_).imp fun _ _=>trivial) fun y _=>?_
 ·simp only[ji,kde]at c
  have:0<k:=by omega
  obtain⟨j,rfl⟩:∃ j,k=j+1:=⟨k - 1,by omega⟩;rw[RC (by omega)];exact Tot.idx (xG (by omega)) trivial
 refine zo.cond (fun _=>.one trivial) fun _=>?_;rw[xW (by omega)];exact .next ⟨m - 1,by omega,k+1,rfl,by omega⟩
theorem eO {n:Nat} {ks:List (List UInt8)} (h:ks.length<n) (a:n<=1099511627776):uj n ks=some (Rn ks):=
 ((lx ks (by omega)).val (by omega) false).2 n (by omega) a
mutual
def zi:Val->Nat
 | .mk _ _ _ _ l _=>1+vJ l
def vJ:List Val->Nat
 | []=>0
 | v::l=>zi v+vJ l
end
def Me (k:Int) (b:Bool) (i:Int) (s:List UInt8) (l:List Val) (ks:List (List UInt8)):Bool:=
 !decide (k<0)&&!decide (k>7)&&PF (.mk k b i s l ks)&&!(decide (k≥6)&&decide (i<1))&&!(k==5&&(((ks.length:Nat):Int) != ((l.length:Nat):Int)||!Rn ks))
mutual
def wfV:Val->Nat->Bool
 | .mk k b i s l ks,d=>decide (1<=d)&&Me k b i s l ks&&wfL l (d - 1)
def wfL:List Val->Nat->Bool
 | [],_=>true
 | v::l,d=>wfV v d&&wfL l d
end
theorem Va:∀ a b:List Val,vJ (a++b)=vJ a+vJ b
 | [],b=>by simp[vJ]
 | v::a,b=>by simp only[List.cons_append,vJ,Va a b]; omega
theorem RA (d:Nat):∀ a b:List Val,wfL (a++b) d=(wfL a d&&wfL b d)
 | [],b=>by simp[wfL]
 | v::a,b=>by simp only[List.cons_append,wfL,RA d a b,Bool.and_assoc]
theorem qc4 (v:Val) (d:Nat):wfL [v] d=wfV v d:=by simp[wfL]
theorem Ha (v:Val):vJ [v]=zi v:=by simp[vJ]
theorem gA {A:Type} {l:List A} {k:Nat} (h:k<l.length):l.take (k+1)=l.take k++[l[k]]:=by
 rw[List.take_succ,jf h]; rfl
theorem lL (D P A B a G I E L b c e:Bool) (f:(!(bif(bif(bif D then true else P)then true else A)then true else B))=true->c=a)
  (d:(((!(bif(bif(bif(bif(bif D then true else P)then true else A)then true else B)then true else(!c))then true else(bif G then I else false)))&&E)&&(!L))=true->e=b) :
  (bif(bif(bif(bif(bif(bif D then true else P)then true else A)then true else B)then true else(!c))then true else(bif G then I else false))then true else(bif E then(bif L then true else(!e))else false)) =
   !(!D&&!P&&(!A&&!B&&a&&!(G&&I)&&!(E&&(L||!b)))):=by
 revert D P A B a G I E L b c e
 decide +kernel
def qa3 (v:Val) (d p:Nat) (r:Int×Bool):Prop:=r.2=(wfV v d&&decide (p+zi v<=4096))/\(r.2=true->r.1=((p+zi v:Nat):Int))
mutual
def hgt:Val->Nat
 | .mk _ _ _ _ l ks=>2+l.length+ks.length+TQ l
def TQ:List Val->Nat
 | []=>0
 | v::l=>max (hgt v) (TQ l)
end
theorem Sa:∀ {l:List Val} {x:Val},x∈l->hgt x<=TQ l
 | y::l,x,h=>by
  simp only[TQ];rcases jg.1 h with rfl|h
  ·omega
  have:=Sa h; omega
theorem iW {m:Nat}:∀ {l:List Val},(∀ x∈l,hgt x<=m)->TQ l<=m
 | [],_=>jS _
 | y::l,h=>by
  simp only[TQ];have:=h y List.mem_cons_self;have:=iW (l:=l) (fun x a=>h x (List.mem_cons_of_mem _ a))
  omega
theorem eT:∀ (N:Nat) (v:Val) (d p:Nat),hgt v<=N->N<=1099511627776->d<=1000->p<=1000000->Tot (hgt v) (fun n=>vg n v d p) (qa3 v d p):=by
 intro N
 induction N with
 | zero=>intro v d p h; obtain⟨k,b,i,s,l,ks⟩:=v; simp only[hgt]at h; omega
 | succ N ih=>
  intro v d p I T U hp;obtain⟨k,b,i,s,l,ks⟩:=v;have V:hgt (.mk k b i s l ks)=2+l.length+ks.length+TQ l:=by simp only[hgt]
  obtain⟨M,J⟩:∃ M,hgt (.mk k b i s l ks)=M+1:=⟨hgt (.mk k b i s l ks) - 1,by omega⟩;rw[J];refine Tot.succ (G:=fun n=>cR n (vg n) (.mk k b i s l ks) d p) (fun n=>rfl) ?_
  unfold cR
  dsimp only
  have hw:kwr .i64 ((p:Int)+1)=((p+1:Nat):Int):=xW (by omega);have kt:∀ n,M<=n->n<=1099511627776->uj n ks=some (Rn ks):=fun n h1 h2=>eO (by omega) h2
  rw[hw,zc,qo];have A:decide ((d:Int)<1)=!decide (1<=d):=by by_cases h:1<=d<;>simp[h]<;>omega
  have B:decide (((p+1:Nat):Int)>4096)=!decide (p+1<=4096):=by by_cases h:p+1<=4096<;>simp[h]<;>omega
  refine Tot.bnd (Tot.gs (P:=fun x=>x=PF (.mk k b i s l ks)) fun _=>.of (fun n _ _=>RI n _) rfl) fun X K=>?_
  refine Tot.bnd (Tot.gs (P:=fun x=>x=Rn ks) fun _=>.of kt rfl) fun L C=>?_
  have f:=lL _ _ _ _ _ _ _ _ _ _ _ _ K C;rw[f,A,B,Bool.not_not,Bool.not_not];have g:wfV (.mk k b i s l ks) d=(decide (1<=d)&&Me k b i s l ks&&wfL l (d - 1)):=by simp only[wfV]
  have o:zi (.mk k b i s l ks)=1+vJ l:=by simp only[zi]
  refine Tot.cond (fun a=>.one ⟨?_,fun h=>by cases h⟩) (fun a=>?_)
  ·have a:(decide (1<=d)&&decide (p+1<=4096)&&Me k b i s l ks)=false:=by rw[Bool.not_eq_true']at a; exact a
   rw[g,o];rw[eq_comm,Bool.and_eq_false_iff];simp only[Bool.and_eq_false_iff]at a;rcases a with (a|a)|a
   ·left; rw[a]; rfl
   ·right; have:=of_decide_eq_false a; exact kdf (by omega)
   left; rw[a,Bool.and_false,Bool.false_and]
  have a:(decide (1<=d)&&decide (p+1<=4096)&&Me k b i s l ks)=true:=by rw[Bool.not_eq_false']at a; exact a
  simp only[ji,kde]at a;obtain⟨⟨D,E⟩,hone⟩:=a;have t:wfV (.mk k b i s l ks) d=wfL l (d - 1):=by rw[g,hone,kdt D]; rfl
  refine(Tot.loop (Q:=fun r:Int×Bool=>r.2=(wfL l (d - 1)&&decide (p+1+vJ l<=4096))/\(r.2=true->r.1=((p+1+vJ l:Nat):Int))) (fun m s=>∃ (j:Nat) (q:Int) (ok:Bool),s=(q,ok,((j:Nat):Int))/\j+m=l.length/\ok=(wfL (l.take j) (d - 1)&&decide (p+1+vJ (l.take j)<=4096))/\(ok=true->q=((p+1+vJ (l.take j):Nat):Int))) ?_ ⟨0,((p+1:Nat):Int),true,rfl,by omega,?_,?_⟩ (by omega:l.length<M)).imp ?_
  ·rintro m _ ⟨j,q,ok,rfl,hm,c,e⟩
   unfold vy
   dsimp only
   rw[qo];refine zo.cond (fun a=>?_) (fun a=>.one ?_)
   ·have u:j<l.length:=by
     cases ok with
     | true=>have:=kod (by simpa using a); omega
     | false=>simp at a
    have F:ok=true:=by
     cases ok with
     | true=>rfl
     | false=>simp at a
    subst F;have e:=e rfl;have w:=List.getElem_mem u;have O:=Sa w;have y:=gA u;refine zo.bnd (Tot.idx (xG u) (P:=fun v=>v=l[j]) rfl) fun v I=>?_
    obtain⟨Y,Z,y3,y4,y5,y6⟩:=v
    dsimp only
    rw[I,show((d:Nat):Int) - 1=((d - 1:Nat):Int) by omega,RB (by omega) (by omega)];have z:(wfL (l.take j) (d - 1)&&decide (p+1+vJ (l.take j)<=4096))=true:=c.symm;simp only[ji,kde]at z;rw[e];refine zo.bnd (P:=qa3 l[j] (d - 1) (p+1+vJ (l.take j))) ?_ fun r R=>?_
    ·exact(ih l[j] (d - 1) _ (by omega) (by omega) (by omega) (by omega)).up (by omega)
    obtain⟨S,H⟩:=r;obtain⟨h1,h2⟩:=R
    dsimp only at h1 h2 ⊢
    rw[xW (by omega)];refine .next ⟨m - 1,by omega,j+1,S,H,rfl,by omega,?_,?_⟩
    ·rw[h1,y,RA,Va,qc4,Ha,z.1,Bool.true_and,← Nat.add_assoc (p+1)]
    intro F;rw[h2 F,y,Va,Ha,← Nat.add_assoc (p+1)]
   have hl:l=l.take j++l.drop j:=(List.take_append_drop j l).symm;have e1:wfL l (d - 1)=(wfL (l.take j) (d - 1)&&wfL (l.drop j) (d - 1)):=by rw[← RA,← hl]
   have e2:vJ l=vJ (l.take j)+vJ (l.drop j):=by rw[← Va,← hl]
   cases ok with
   | true=>
    have u:j=l.length:=by
     have:l.length<=j:=by simpa using a
     omega
    subst u;rw[List.take_length]at c e;exact⟨c,e⟩
   | false=>
    refine⟨?_,fun h=>by cases h⟩
    rw[e1,e2];have c:=c.symm;rw[eq_comm];simp only[Bool.and_eq_false_iff,decide_eq_false_iff_not]at c ⊢;rcases c with h|h
    ·exact .inl (.inl h)
    exact .inr (by omega)
  ·simp[wfL,vJ,E]
  ·simp[vJ]
  rintro⟨q,ok⟩ ⟨h1,h2⟩;unfold qa3;rw[t,o,show p+(1+vJ l)=p+1+vJ l by omega];exact⟨h1,h2⟩
def ZV (v:Val):Bool:=wfV v 32&&decide (zi v<=4096)
theorem eS {v:Val} {n:Nat} (h:hgt v<=n) (b:n<=1099511627776):∃ q,vg n v 32 0=some (q,ZV v):=by
 obtain⟨r,⟨a,_⟩,c⟩:=eT (hgt v) v 32 0 (jw _) (by omega) (by omega) (by omega);refine⟨r.1,?_⟩;have:vg n v ((32:Nat):Int) ((0:Nat):Int)=some r:=c n h b;rw[Nat.zero_add]at a;refine this.trans ?_;show some (r.1,r.2)=_;rw[a]; rfl
theorem Bs {v:Val} {n:Nat} (h:hgt v<=n) (a:n<=1099511627776):uB n v=some (bif ZV v then 0 else 20):=by
 obtain⟨q,c⟩:=eS h a;obtain⟨k,b,i,s,l,ks⟩:=v;unfold uB
 dsimp only
 rw[c,zl]
 dsimp only
 cases ZV (.mk k b i s l ks)<;>rfl
theorem iZ (i:Int):1<=isz i:=by unfold isz; split<;>omega
mutual
theorem PT:∀ v:Val,hgt v<=cn v
 | .mk k b i s l ks=>by
  have:=Sb l;have:=iZ i;have hk:ks.length<=(ks.map fun k=>1+k.length).sum:=gb ks
  simp only[hgt,cn];omega
theorem Sb:∀ l:List Val,l.length+TQ l<=vk l
 | []=>by simp[TQ,vk]
 | v::l=>by
  have:=PT v;have:=Sb l;simp only[TQ,vk,ja];omega
end
theorem Rr {v:Val} {n:Nat} (h:cn v<n) (a:n<=1099511627776):gm n v=some (ZV v):=by
 obtain⟨b,h1,h2⟩:=er a h;have:=PT v;rw[Bs (by omega) a]at h1;rw[h2];have h1:=Option.some.inj h1;cases b<;>cases c:ZV v<;>rw[c]at h1<;>first|rfl|exact absurd h1 (by decide)
end W
end
section
open Go Ax
namespace W
theorem ly (ks:List (List UInt8)) (z:ks.length<=1099511627775):Tot (ks.length+1) (fun n=>uj n ks) (fun b=>b=true->∀ (i:Nat) (h:i<ks.length),ks[i].length<=64/\∀ (e:0<i),Op.bytesLess ks[i - 1] ks[i]=true):=by
 unfold uj;refine Tot.loop (fun m s=>∃ k:Nat,s=(k:Int)/\k+m=ks.length/\∀ (i:Nat) (h:i<ks.length),i<k->ks[i].length<=64/\∀ (e:0<i),Op.bytesLess ks[i - 1] ks[i]=true) ?_ ⟨0,rfl,by omega,fun i _ h=>by omega⟩ (Nat.lt_succ_self _)
 rintro m _ ⟨k,rfl,hm,p⟩;unfold vx;refine zo.cond (fun a=>?_) (fun a=>.one fun _ i h=>p i h ?_)
 ·rw[zc]at a
  have f:k<ks.length:=by have:=kod a; omega
  refine zo.bnd (Tot.idx (xG f) (P:=fun x=>x=ks[k]) rfl) fun x t=>?_
  subst t;refine zo.bnd (Tot.gs (P:=fun y=>∀ e:0<k,y=ks[k - 1]) fun u=>?_) fun y g=>?_
  ·simp only[ji,kde]at u
   have:0<k:=by omega
   obtain⟨j,rfl⟩:∃ j,k=j+1:=⟨k - 1,by omega⟩;rw[RC (by omega)];exact Tot.idx (xG (by omega)) fun _=>rfl
  refine zo.cond (fun _=>.one fun h=>by cases h) fun a=>?_
  rw[xW (by omega)];refine .next ⟨m - 1,by omega,k+1,rfl,by omega,fun i v w=>?_⟩;by_cases d:i<k
  ·exact p i v d
  obtain rfl:i=k:=by omega
  cases c:(bif(ks[i]==([]:List UInt8))then true else(decide (((ks[i].length:Nat):Int)>(64:Int))))with
  | true=>rw[c]at a; cases a
  | false=>
   rw[c]at a g;rw[qw]at a;have o:ks[i].length<=64:=by
    cases q:ks[i]==([]:List UInt8)with
    | true=>rw[q]at c; cases c
    | false=>
     rw[q,qw]at c;have:=of_decide_eq_false c;omega
   refine⟨o,fun e=>?_⟩;have r:decide ((i:Int)>0)=true:=kdt (by omega);rw[r,zm]at a;rw[r]at g;rw[g rfl e]at a;simpa using a
 rw[zc]at a;have:=of_decide_eq_false a;omega
theorem Tj {ks:List (List UInt8)} (a:ks.length<=1099511627775) (h:Rn ks=true):(∀ k∈ks,k.length<=64)/\sz ks:=by
 have:=((ly ks a).val (by omega) false).1 h;refine⟨fun k hm=>?_,fun i x y c d=>?_⟩
 ·obtain⟨i,e,rfl⟩:=List.mem_iff_getElem.1 hm
  exact(this i e).1
 obtain⟨h1,rfl⟩:=jG.1 c;obtain⟨h2,rfl⟩:=jG.1 d;have:=(this (i+1) h2).2 (by omega);rw[PG]at this;exact kod this
def okI (i:Int):Bool:=decide (-9223372036854775808<=i/\i<=9223372036854775807)
mutual
def smV:Val->Bool
 | .mk _ _ i s l _=>okI i&&decide (s.length<=1048576)&&smL l
def smL:List Val->Bool
 | []=>true
 | v::l=>smV v&&smL l
end
theorem aw:∀ {l:List Val} {x:Val},smL l=true->x∈l->smV x=true
 | y::l,x,h,hm=>by
  simp only[smL,ji]at h;rcases jg.1 hm with rfl|hm
  ·exact h.1
  exact aw h.2 hm
theorem Sz:∀ {l:List Val},(∀ x∈l,smV x=true)->smL l=true
 | [],_=>rfl
 | y::l,h=>by
  simp only[smL,ji];exact⟨h y List.mem_cons_self,Sz fun x a=>h x (List.mem_cons_of_mem _ a)⟩
mutual
theorem qe0:∀ (v:Val) (d e:Nat),d<=e->wfV v d=true->wfV v e=true
 | .mk k b i s l ks,d,e,hde,h=>by
  simp only[wfV,ji,kde]at h ⊢;exact⟨⟨by omega,h.1.2⟩,qa0 l (d - 1) (e - 1) (by omega) h.2⟩
theorem qa0:∀ (l:List Val) (d e:Nat),d<=e->wfL l d=true->wfL l e=true
 | [],_,_,_,_=>rfl
 | v::l,d,e,hde,h=>by
  simp only[wfL,ji]at h ⊢;exact⟨qe0 v d e hde h.1,qa0 l d e hde h.2⟩
end
theorem aP {d:Nat}:∀ {l:List Val} {x:Val},wfL l d=true->x∈l->wfV x d=true
 | y::l,x,h,hm=>by
  simp only[wfL,ji]at h;rcases jg.1 hm with rfl|hm
  ·exact h.1
  exact aP h.2 hm
theorem EZ:∀ {l:List Val} {x:Val},x∈l->zi x<=vJ l
 | y::l,x,hm=>by
  simp only[vJ];rcases jg.1 hm with rfl|hm
  ·omega
  have:=EZ hm; omega
theorem lW (v:Val):1<=zi v:=by cases v; simp only[zi]; omega
theorem EY:∀ l:List Val,l.length<=vJ l
 | []=>jS _
 | v::l=>by have:=EY l; have:=lW v; simp only[vJ,ja]; omega
structure VF (v:Val):Prop where
 may:ZV v=true
 sm:smV v=true
section
variable {k:Int} {b:Bool} {i:Int} {s:List UInt8} {l:List Val} {ks:List (List UInt8)}
theorem VF.one (h:VF (.mk k b i s l ks)):Me k b i s l ks=true/\wfL l 31=true/\1+vJ l<=4096:=by
 have:=h.may;simp only[ZV,wfV,zi,ji,kde]at this;exact⟨this.1.1.2,this.1.2,kod this.2⟩
theorem VF.child (h:VF (.mk k b i s l ks)) {x:Val} (a:x∈l):VF x:=by
 obtain⟨_,h2,h3⟩:=h.one;have:=EZ a;have c:=h.sm;simp only[smV,ji]at c;refine⟨?_,aw c.2 a⟩;simp only[ZV,ji,kde];exact⟨qe0 x 31 32 (by omega) (aP h2 a),by omega⟩
theorem VF.int (h:VF (.mk k b i s l ks)):-9223372036854775808<=i/\i<=9223372036854775807:=by
 have a:=h.sm;simp only[smV,okI,ji,kde]at a;exact a.1.1
theorem VF.str (h:VF (.mk k b i s l ks)):s.length<=1048576:=by
 have a:=h.sm;simp only[smV,ji,kde]at a;exact a.1.2
theorem VF.len (h:VF (.mk k b i s l ks)):l.length<=4095:=by
 have:=h.one.2.2;have:=EY l;omega
theorem LR (h:Me k b i s l ks=true):PF (.mk k b i s l ks)=true/\0<=k/\k<=7/\(k=5->ks.length=l.length/\Rn ks=true):=by
 unfold Me at h;simp only[ji,Bool.not_eq_true',decide_eq_false_iff_not]at h;obtain⟨⟨⟨⟨h1,h2⟩,h3⟩,h4⟩,h5⟩:=h;refine⟨h3,by omega,by omega,fun e=>?_⟩;subst e;simp only[BEq.rfl,Bool.true_and,jY,bne_eq_false_iff_eq,Bool.not_eq_false']at h5;exact⟨by omega,h5.2⟩
theorem ig (h:PF (.mk k b i s l ks)=true) (h5:k≠5):ks=[]:=by
 have e:uM 0 (.mk k b i s l ks)=some true:=by rw[RI,h]
 unfold uM at e;have e:=Option.some.inj e;rw[zc]at e;have:(k==5)=false:=by simpa using h5
 rw[this,qw]at e;generalize (bif(bif(bif(bif(k==(1:Int))then true else(!b))then(bif(bif(k==(2:Int))then true else(decide (k≥(6:Int))))then true else(i==(0:Int)))else false)then(bif(k==(3:Int))then true else(s==([]:List UInt8)))else false)then _ else false)=c at e;cases c with
 | false=>cases e
 | true=>
  rw[zm]at e;have:((ks.length:Nat):Int)=0:=by simpa using e
  exact jI (by omega)
theorem VF.keys (h:VF (.mk k b i s l ks)):ks.length<=l.length/\sz ks/\(∀ x∈ks,x.length<=64)/\(k=5->ks.length=l.length):=by
 obtain⟨h1,_,_,h4⟩:=LR h.one.1;have hl:=h.len;by_cases h5:k=5
 ·obtain⟨d,e2⟩:=h4 h5
  obtain⟨a,c⟩:=Tj (by omega) e2;exact⟨by omega,c,a,fun _=>d⟩
 have e:=ig h1 h5;subst e;exact⟨jS _,fun i x y h=>by simp at h,fun x h=>by simp at h,fun e=>absurd e h5⟩
end
theorem lR:∀ {ks:List (List UInt8)},(∀ x∈ks,x.length<=64)->(ks.map fun k=>1+k.length).sum<=65 * ks.length
 | [],_=>by simp
 | k::ks,h=>by
  have:=lR (ks:=ks) fun x a=>h x (List.mem_cons_of_mem _ a)
  have:=h k List.mem_cons_self;simp only[jk,jA,ja];omega
mutual
theorem qay:∀ v:Val,VF v->cn v+70<=zi v * 1048700
 | .mk k b i s l ks,h=>by
  have h1:=aK l (fun x hx=>h.child hx)
  obtain⟨hk,_,h64,_⟩:=h.keys;have h2:=lR h64;have h3:=h.str;have h4:isz i=1:=by unfold isz; rw[if_pos h.int]
  simp only[cn,zi,Nat.add_mul];omega
theorem aK:∀ l:List Val,(∀ x∈l,VF x)->vk l+65 * l.length<=1+vJ l * 1048700
 | [],_=>by simp[vk,vJ]
 | v::l,h=>by
  have:=qay v (h v List.mem_cons_self);have:=aK l fun x hx=>h x (List.mem_cons_of_mem _ hx)
  simp only[vk,vJ,ja,Nat.add_mul];omega
end
theorem VF.big {v:Val} (h:VF v):cn v<=4295475200:=by
 have h1:=qay v h;have h2:=h.may;simp only[ZV,ji,kde]at h2;have:zi v * 1048700<=4096 * 1048700:=Nat.mul_le_mul_right _ h2.2;omega
end W
end
section
open Go Ax
namespace W
def VR (r:Val×Int):Prop:=r.2=0->VF r.1
abbrev Eu:Val:=Val.mk (0:Int) false (0:Int) ([]:List UInt8) ([]:List Val) ([]:List (List UInt8))
theorem UP (i:Int):okI (kwr .i64 i)=true:=by
 have h:=wrap_within IntKind.i64 i;have h1:IntKind.i64.min = -9223372036854775808:=by decide
 have h2:IntKind.i64.max=9223372036854775807:=by decide
 unfold okI;exact kdt (by omega)
theorem gC:VF Eu:=⟨by decide,by decide⟩
theorem VY (k:Int) (b:Bool) (i:Int) (s:List UInt8) (l:List Val) (ks:List (List UInt8)):PF (.mk k b i s l ks) =
  (bif(bif(bif(bif(bif(k==(1:Int))then true else(!b))then(bif(bif(k==(2:Int))then true else(decide (k≥(6:Int))))then true else(i==(0:Int)))else false)then(bif(k==(3:Int))then true else(s==([]:List UInt8)))else false)then(bif(bif(k==(4:Int))then true else(k==(5:Int)))then true else((((Val.rows l).length:Nat):Int)==(0:Int)))else false)then(bif(k==(5:Int))then true else((((qi ks).length:Nat):Int)==(0:Int)))else false):=rfl
theorem Rz {k:Int} {b:Bool} {i:Int} {s:List UInt8} (h1:Me k b i s [] []=true) (h2:okI i=true) (h3:s.length<=1048576):VF (.mk k b i s [] []):=by
 refine⟨?_,?_⟩
 ·simp only[ZV,wfV,wfL,zi,vJ,h1]; rfl
 simp only[smV,smL,h2,kdt h3]; rfl
theorem qcy (b:Bool):VF (.mk 1 b 0 [] [] []):=by cases b<;>exact Rz (by decide) (by decide) (by decide)
theorem Qx {i:Int} (h:okI i=true):VF (.mk 2 false i [] [] []):=by
 refine Rz ?_ h (by decide);unfold Me;rw[VY];rfl
theorem SI {s:List UInt8} (h:s.length<=1048576):VF (.mk 3 false 0 s [] []):=by
 refine Rz ?_ (by decide) h;unfold Me;rw[VY];rfl
theorem om (l:List Val):Me 4 false 0 [] l []=true:=by
 unfold Me;rw[VY];rfl
theorem aM {l:List Val} (h:∀ x∈l,VF x) (hw:wfL l 31=true) (hp:vJ l<=4095):VF (.mk 4 false 0 [] l []):=by
 refine⟨?_,?_⟩
 ·simp only[ZV,wfV,zi,om,hw,ji]
  exact⟨by decide,kdt (by omega)⟩
 simp only[smV,Sz fun x a=>(h x a).sm,Bool.and_true]
 decide
theorem qcz {l:List Val} (h:∀ x∈l,∃ i,okI i=true/\x=.mk 2 false i [] [] []) (hl:l.length<=4095):VF (.mk 4 false 0 [] l []):=by
 have a:∀ l:List Val,(∀ x∈l,∃ i,okI i=true/\x=.mk 2 false i [] [] [])->wfL l 31=true/\vJ l=l.length:=by
  intro l
  induction l with
  | nil=>intro _; exact⟨rfl,rfl⟩
  | cons v l ih=>
   intro h;obtain⟨i,_,rfl⟩:=h v List.mem_cons_self;obtain⟨h1,h2⟩:=ih fun x a=>h x (List.mem_cons_of_mem _ a)
   have h3:Me 2 false i [] [] []=true:=by unfold Me; rw[VY]; rfl
   simp only[wfL,wfV,h1,h3,vJ,zi,h2,ja];exact⟨by decide,by omega⟩
 obtain⟨h1,h2⟩:=a l h;refine aM (fun x hm=>?_) h1 (by omega);obtain⟨i,b,rfl⟩:=h x hm;exact Qx b
theorem qc0 {l:List Val} (h:∀ x∈l,∃ s:List UInt8,s.length<=1048576/\x=.mk 3 false 0 s [] []) (hl:l.length<=4095):VF (.mk 4 false 0 [] l []):=by
 have a:∀ l:List Val,(∀ x∈l,∃ s:List UInt8,s.length<=1048576/\x=.mk 3 false 0 s [] [])->wfL l 31=true/\vJ l=l.length:=by
  intro l
  induction l with
  | nil=>intro _; exact⟨rfl,rfl⟩
  | cons v l ih=>
   intro h;obtain⟨s,_,rfl⟩:=h v List.mem_cons_self;obtain⟨h1,h2⟩:=ih fun x a=>h x (List.mem_cons_of_mem _ a)
   have h3:Me 3 false 0 s [] []=true:=by unfold Me; rw[VY]; rfl
   simp only[wfL,wfV,h1,h3,vJ,zi,h2,ja];exact⟨by decide,by omega⟩
 obtain⟨h1,h2⟩:=a l h;refine aM (fun x hm=>?_) h1 (by omega);obtain⟨s,b,rfl⟩:=h x hm;exact SI b
def xB (v:Val):Any:=(qX 0 v).getD .nul
theorem MV {A:Type} (c:Bool) (a b:A):(bif c then some a else some b)=some (bif c then a else b):=by cases c<;>rfl
theorem uu (n:Nat) (v:Val):qX n v=some (xB v):=by
 obtain⟨k,b,i,s,l,ks⟩:=v;unfold xB qX
 dsimp only
 simp only[MV];rfl
theorem LU (k:Int) (b:Bool) (i:Int) (s:List UInt8) (l:List Val) (ks:List (List UInt8)) :
  (xB (.mk k b i s l ks)).is_b=(k==1)/\(xB (.mk k b i s l ks)).is_i=(k==2)/\(xB (.mk k b i s l ks)).is_s=(k==3)/\(xB (.mk k b i s l ks)).is_l=(k==4) /\
  (k=1->(xB (.mk k b i s l ks)).get_b=b)/\(k=2->(xB (.mk k b i s l ks)).get_i=i)/\(k=3->(xB (.mk k b i s l ks)).get_s=s)/\(k=4->(xB (.mk k b i s l ks)).get_l=l):=by
 unfold xB qX
 dsimp only
 by_cases a:k=0
 ·subst a; exact⟨rfl,rfl,rfl,rfl,fun h=>absurd h (by decide),fun h=>absurd h (by decide),fun h=>absurd h (by decide),fun h=>absurd h (by decide)⟩
 by_cases h1:k=1
 ·subst h1; exact⟨rfl,rfl,rfl,rfl,fun _=>rfl,fun h=>absurd h (by decide),fun h=>absurd h (by decide),fun h=>absurd h (by decide)⟩
 by_cases h2:k=2
 ·subst h2; exact⟨rfl,rfl,rfl,rfl,fun h=>absurd h (by decide),fun _=>rfl,fun h=>absurd h (by decide),fun h=>absurd h (by decide)⟩
 by_cases h3:k=3
 ·subst h3; exact⟨rfl,rfl,rfl,rfl,fun h=>absurd h (by decide),fun h=>absurd h (by decide),fun _=>rfl,fun h=>absurd h (by decide)⟩
 by_cases h4:k=4
 ·subst h4; exact⟨rfl,rfl,rfl,rfl,fun h=>absurd h (by decide),fun h=>absurd h (by decide),fun h=>absurd h (by decide),fun _=>rfl⟩
 have e:∀ j:Int,k≠j->(k==j)=false:=fun j h=>kbf.2 h
 simp only[e 0 a,e 1 h1,e 2 h2,e 3 h3,e 4 h4,qw,jV];exact⟨rfl,rfl,rfl,rfl,fun h=>absurd h h1,fun h=>absurd h h2,fun h=>absurd h h3,fun h=>absurd h h4⟩
theorem VF.open_l {v:Val} (h:VF v) (hl:(xB v).is_l=true):(xB v).get_l.length<=4095/\∀ x∈(xB v).get_l,VF x:=by
 obtain⟨k,b,i,s,l,ks⟩:=v;obtain⟨_,_,_,h4,_,_,_,g4⟩:=LU k b i s l ks;rw[h4]at hl;rw[g4 (eq_of_beq hl)];exact⟨h.len,fun x a=>h.child a⟩
theorem VF.open_s {v:Val} (h:VF v) (hl:(xB v).is_s=true):(xB v).get_s.length<=1048576:=by
 obtain⟨k,b,i,s,l,ks⟩:=v;obtain⟨_,_,h4,_,_,_,g4,_⟩:=LU k b i s l ks;rw[h4]at hl;rw[g4 (eq_of_beq hl)];exact h.str
theorem VF.open_i {v:Val} (h:VF v) (hl:(xB v).is_i=true):okI (xB v).get_i=true:=by
 obtain⟨k,b,i,s,l,ks⟩:=v;obtain⟨_,h4,_,_,_,g4,_,_⟩:=LU k b i s l ks;rw[h4]at hl;rw[g4 (eq_of_beq hl)];exact kdt h.int
theorem qb9 {i:Int} (h:okI i=true):-9223372036854775808<=i/\i<=9223372036854775807:=kod h
abbrev qa4 (r:Int×Int):Prop:=okI r.1=true
theorem aD (N:Nat) (x y:Int):Tot N (fun n=>Qi n x y) qa4:=by
 unfold Qi;exact Tot.cond (fun _=>.one (by decide)) (fun _=>.one (UP _))
theorem qa7 (N:Nat) (x y:Int):Tot N (fun n=>Xr n x y) qa4:=by
 unfold Xr;exact Tot.cond (fun _=>.one (by decide)) (fun _=>.one (UP _))
theorem Ve (N:Nat) {x:Int} (h:okI x=true):Tot N (fun n=>gl n x) (fun r=>r=0->x=0):=by
 have:=qb9 h;unfold gl;refine Tot.cond (fun a=>.one fun h=>?_) (fun a=>.one fun h=>?_)
 ·have:=kod a
  rw[qaw x (by omega) (by omega)]at h;omega
 have:=of_decide_eq_false a;rw[Ma x (by omega) (by omega)]at h;exact h
theorem GO (N:Nat) (x:Int) (b:Bool):Tot N (fun n=>cI n x b) qa4:=by
 unfold cI;exact Tot.cond (fun _=>.one (UP _)) (fun _=>Tot.cond (fun _=>.one (UP _)) (fun _=>.one (by decide)))
theorem qb6 (N:Nat) {x y:Int} (c:okI x=true) (d:okI y=true):Tot N (fun n=>Xu n x y) qa4:=by
 unfold Xu;refine Tot.bnd (Ve N c) fun a _=>Tot.bnd (Ve N d) fun b _=>?_
 unfold cZ;refine Tot.bnd (P:=fun _=>True) (.one trivial) fun r _=>?_
 obtain⟨e,lo⟩:=r;refine Tot.cond (fun _=>.one (by decide)) (fun _=>Tot.bnd (GO N _ _) fun r h=>?_)
 obtain⟨f,g⟩:=r;exact .one h
theorem qbk (N:Nat) {x y:Int} (c:okI x=true) (d:okI y=true):Tot N (fun n=>Xs n x y) qa4:=by
 unfold Xs;refine Tot.cond (fun _=>.one (by decide)) (fun f=>?_);refine Tot.bnd (Ve N c) fun a _=>Tot.bnd (Ve N d) fun b g=>?_
 refine Tot.chk (kdt fun e=>?_) (Tot.bnd (GO N _ _) fun r h=>?_)
 ·have:=g e
  subst this;exact absurd f (by decide)
 obtain⟨i,j⟩:=r;exact .one h
theorem qb5 (N:Nat) {x y:Int} (c:okI x=true) (d:okI y=true):Tot N (fun n=>Xt n x y) qa4:=by
 unfold Xt;refine Tot.cond (fun _=>.one (by decide)) (fun f=>?_);refine Tot.bnd (Ve N c) fun a _=>Tot.bnd (Ve N d) fun b g=>?_
 refine Tot.chk (kdt fun e=>?_) (Tot.bnd (GO N _ _) fun r h=>?_)
 ·have:=g e
  subst this;exact absurd f (by decide)
 obtain⟨i,j⟩:=r;exact .one h
theorem qa6 (N:Nat) (x y:Int):Tot N (fun n=>vu n x y) qa4:=by
 unfold vu;refine Tot.bnd (aD N _ _) fun r h=>?_;obtain⟨a,b⟩:=r;exact .one h
theorem Sl (N:Nat) {a b:Val} (ha:VF a) (i:VF b):Tot N (fun n=>xK n a b) VR:=by
 obtain⟨k,d,f,g,j,m⟩:=a;obtain⟨k',o,p,q,t,u⟩:=b;unfold xK
 dsimp only
 refine Tot.cond (fun _=>.one fun _=>gC) (fun _=>?_)
 refine Tot.bnd (.of (fun n _ _=>uu n _) rfl) fun a h1=>Tot.bnd (.of (fun n _ _=>uu n _) rfl) fun b h2=>?_
 subst h1 h2;refine Tot.cond (fun _=>.one fun h=>absurd h (by dsimp only; decide)) (fun c=>?_)
 have x:okI (xB (Val.mk k d f g j m)).get_i=true:=ha.open_i (by
  cases h:(xB (Val.mk k d f g j m)).is_i with
  | true=>rfl
  | false=>rw[h]at c; cases c)
 have y:okI (xB (Val.mk k' o p q t u)).get_i=true:=i.open_i (by
  cases h:(xB (Val.mk k' o p q t u)).is_i with
  | true=>rfl
  | false=>rw[h]at c; cases l:(xB (Val.mk k d f g j m)).is_i<;>rw[l]at c<;>cases c)
 refine Tot.bnd (aD N _ _) fun r s=>?_;obtain⟨z,e⟩:=r
 dsimp only
 refine Tot.cond (fun he=>.one fun h=>?_) (fun _=>?_)
 ·have h:e=0:=h
  subst h;exact absurd he (by decide)
 unfold zB;exact Tot.bnd (P:=fun v=>v=Val.mk (2:Int) false z [] [] []) (.one rfl) fun v w=>by subst w; exact .one fun _=>Qx s
theorem eY (N:Nat) {a b:Val} (ha:VF a) (i:VF b):Tot N (fun n=>xJ n a b) VR:=by
 obtain⟨k,d,f,g,j,m⟩:=a;obtain⟨k',o,p,q,t,u⟩:=b;unfold xJ
 dsimp only
 refine Tot.cond (fun _=>.one fun _=>gC) (fun _=>?_)
 refine Tot.bnd (.of (fun n _ _=>uu n _) rfl) fun a h1=>Tot.bnd (.of (fun n _ _=>uu n _) rfl) fun b h2=>?_
 subst h1 h2;refine Tot.cond (fun _=>.one fun h=>absurd h (by dsimp only; decide)) (fun c=>?_)
 have x:okI (xB (Val.mk k d f g j m)).get_i=true:=ha.open_i (by
  cases h:(xB (Val.mk k d f g j m)).is_i with
  | true=>rfl
  | false=>rw[h]at c; cases c)
 have y:okI (xB (Val.mk k' o p q t u)).get_i=true:=i.open_i (by
  cases h:(xB (Val.mk k' o p q t u)).is_i with
  | true=>rfl
  | false=>rw[h]at c; cases l:(xB (Val.mk k d f g j m)).is_i<;>rw[l]at c<;>cases c)
 refine Tot.bnd (qa7 N _ _) fun r s=>?_;obtain⟨z,e⟩:=r
 dsimp only
 refine Tot.cond (fun he=>.one fun h=>?_) (fun _=>?_)
 ·have h:e=0:=h
  subst h;exact absurd he (by decide)
 unfold zB;exact Tot.bnd (P:=fun v=>v=Val.mk (2:Int) false z [] [] []) (.one rfl) fun v w=>by subst w; exact .one fun _=>Qx s
theorem od (N:Nat) {a b:Val} (ha:VF a) (i:VF b):Tot N (fun n=>vt n a b) VR:=by
 obtain⟨k,d,f,g,j,m⟩:=a;obtain⟨k',o,p,q,t,u⟩:=b;unfold vt
 dsimp only
 refine Tot.cond (fun _=>.one fun _=>gC) (fun _=>?_)
 refine Tot.bnd (.of (fun n _ _=>uu n _) rfl) fun a h1=>Tot.bnd (.of (fun n _ _=>uu n _) rfl) fun b h2=>?_
 subst h1 h2;refine Tot.cond (fun _=>.one fun h=>absurd h (by dsimp only; decide)) (fun c=>?_)
 have l:okI (xB (Val.mk k d f g j m)).get_i=true:=ha.open_i (by
  cases h:(xB (Val.mk k d f g j m)).is_i with
  | true=>rfl
  | false=>rw[h]at c; cases c)
 have s:okI (xB (Val.mk k' o p q t u)).get_i=true:=i.open_i (by
  cases h:(xB (Val.mk k' o p q t u)).is_i with
  | true=>rfl
  | false=>rw[h]at c; cases w:(xB (Val.mk k d f g j m)).is_i<;>rw[w]at c<;>cases c)
 refine Tot.bnd (qb6 N l s) fun r x=>?_;obtain⟨z,e⟩:=r
 dsimp only
 refine Tot.cond (fun he=>.one fun h=>?_) (fun _=>?_)
 ·have h:e=0:=h
  subst h;exact absurd he (by decide)
 unfold zB;exact Tot.bnd (P:=fun v=>v=Val.mk (2:Int) false z [] [] []) (.one rfl) fun v y=>by subst y; exact .one fun _=>Qx x
theorem oa (N:Nat) {a b:Val} (ha:VF a) (i:VF b):Tot N (fun n=>vq n a b) VR:=by
 obtain⟨k,d,f,g,j,m⟩:=a;obtain⟨k',o,p,q,t,u⟩:=b;unfold vq
 dsimp only
 refine Tot.cond (fun _=>.one fun _=>gC) (fun _=>?_)
 refine Tot.bnd (.of (fun n _ _=>uu n _) rfl) fun a h1=>Tot.bnd (.of (fun n _ _=>uu n _) rfl) fun b h2=>?_
 subst h1 h2;refine Tot.cond (fun _=>.one fun h=>absurd h (by dsimp only; decide)) (fun c=>?_)
 have l:okI (xB (Val.mk k d f g j m)).get_i=true:=ha.open_i (by
  cases h:(xB (Val.mk k d f g j m)).is_i with
  | true=>rfl
  | false=>rw[h]at c; cases c)
 have s:okI (xB (Val.mk k' o p q t u)).get_i=true:=i.open_i (by
  cases h:(xB (Val.mk k' o p q t u)).is_i with
  | true=>rfl
  | false=>rw[h]at c; cases w:(xB (Val.mk k d f g j m)).is_i<;>rw[w]at c<;>cases c)
 refine Tot.bnd (qbk N l s) fun r x=>?_;obtain⟨z,e⟩:=r
 dsimp only
 refine Tot.cond (fun he=>.one fun h=>?_) (fun _=>?_)
 ·have h:e=0:=h
  subst h;exact absurd he (by decide)
 unfold zB;exact Tot.bnd (P:=fun v=>v=Val.mk (2:Int) false z [] [] []) (.one rfl) fun v y=>by subst y; exact .one fun _=>Qx x
theorem oc (N:Nat) {a b:Val} (ha:VF a) (i:VF b):Tot N (fun n=>vr n a b) VR:=by
 obtain⟨k,d,f,g,j,m⟩:=a;obtain⟨k',o,p,q,t,u⟩:=b;unfold vr
 dsimp only
 refine Tot.cond (fun _=>.one fun _=>gC) (fun _=>?_)
 refine Tot.bnd (.of (fun n _ _=>uu n _) rfl) fun a h1=>Tot.bnd (.of (fun n _ _=>uu n _) rfl) fun b h2=>?_
 subst h1 h2;refine Tot.cond (fun _=>.one fun h=>absurd h (by dsimp only; decide)) (fun c=>?_)
 have l:okI (xB (Val.mk k d f g j m)).get_i=true:=ha.open_i (by
  cases h:(xB (Val.mk k d f g j m)).is_i with
  | true=>rfl
  | false=>rw[h]at c; cases c)
 have s:okI (xB (Val.mk k' o p q t u)).get_i=true:=i.open_i (by
  cases h:(xB (Val.mk k' o p q t u)).is_i with
  | true=>rfl
  | false=>rw[h]at c; cases w:(xB (Val.mk k d f g j m)).is_i<;>rw[w]at c<;>cases c)
 refine Tot.bnd (qb5 N l s) fun r x=>?_;obtain⟨z,e⟩:=r
 dsimp only
 refine Tot.cond (fun he=>.one fun h=>?_) (fun _=>?_)
 ·have h:e=0:=h
  subst h;exact absurd he (by decide)
 unfold zB;exact Tot.bnd (P:=fun v=>v=Val.mk (2:Int) false z [] [] []) (.one rfl) fun v y=>by subst y; exact .one fun _=>Qx x
theorem eX (N:Nat) {a b:Val} (ha:VF a) (i:VF b):Tot N (fun n=>zu n a b) VR:=by
 obtain⟨k,d,f,g,j,m⟩:=a;obtain⟨k',o,p,q,t,u⟩:=b;unfold zu
 dsimp only
 refine Tot.cond (fun _=>.one fun _=>gC) (fun _=>?_)
 refine Tot.bnd (.of (fun n _ _=>uu n _) rfl) fun a h1=>Tot.bnd (.of (fun n _ _=>uu n _) rfl) fun b h2=>?_
 subst h1 h2;refine Tot.cond (fun _=>.one fun h=>absurd h (by dsimp only; decide)) (fun c=>?_)
 have x:okI (xB (Val.mk k d f g j m)).get_i=true:=ha.open_i (by
  cases h:(xB (Val.mk k d f g j m)).is_i with
  | true=>rfl
  | false=>rw[h]at c; cases c)
 have y:okI (xB (Val.mk k' o p q t u)).get_i=true:=i.open_i (by
  cases h:(xB (Val.mk k' o p q t u)).is_i with
  | true=>rfl
  | false=>rw[h]at c; cases l:(xB (Val.mk k d f g j m)).is_i<;>rw[l]at c<;>cases c)
 refine Tot.bnd (qa6 N _ _) fun r s=>?_;obtain⟨z,e⟩:=r
 dsimp only
 refine Tot.cond (fun he=>.one fun h=>?_) (fun _=>?_)
 ·have h:e=0:=h
  subst h;exact absurd he (by decide)
 unfold zB;exact Tot.bnd (P:=fun v=>v=Val.mk (2:Int) false z [] [] []) (.one rfl) fun v w=>by subst w; exact .one fun _=>Qx s
end W
end
section
open Go Ax
namespace W
def T3 (t:Int):Prop:=t=0\/t=1\/t=2
instance (t:Int):Decidable (T3 t):=by unfold T3; infer_instance
def LQ (x:Int):Int:=if x=0 then 1 else if x=1 then 0 else 2
def MM (x y:Int):Int:=if x=0\/y=0 then 0 else if x=1/\y=1 then 1 else 2
def or3 (x y:Int):Int:=LQ (MM (LQ x) (LQ y))
def qa1 (x y:Int):Int:=or3 (MM x (LQ y)) (MM (LQ x) y)
theorem NS {x:Int} (h:T3 x):T3 (LQ x):=by rcases h with rfl|rfl|rfl<;>decide
theorem aE {x y:Int} (h:T3 x) (k:T3 y):T3 (MM x y):=by rcases h with rfl|rfl|rfl<;>rcases k with rfl|rfl|rfl<;>decide
theorem qf2 {x y:Int} (h:T3 x) (k:T3 y):T3 (or3 x y):=NS (aE (NS h) (NS k))
theorem lU (n:Nat) {x:Int} (h:T3 x):vW n x=some (LQ x):=by rcases h with rfl|rfl|rfl<;>rfl
theorem oZ (n:Nat) {x y:Int} (h:T3 x) (k:T3 y):cH n x y=some (MM x y):=by rcases h with rfl|rfl|rfl<;>rcases k with rfl|rfl|rfl<;>rfl
theorem qeh (n:Nat) {x y:Int} (h:T3 x) (k:T3 y):rz n x y=some (or3 x y):=by rcases h with rfl|rfl|rfl<;>rcases k with rfl|rfl|rfl<;>rfl
theorem qe1 (n:Nat) {x y:Int} (h:T3 x) (k:T3 y):QX n x y=some (qa1 x y):=by rcases h with rfl|rfl|rfl<;>rcases k with rfl|rfl|rfl<;>rfl
theorem oh (n:Nat) (b:Bool):bn n b=some (bif b then 1 else 0):=by cases b<;>rfl
theorem qeu (b:Bool):T3 (bif b then 1 else 0):=by cases b<;>decide
def gB (t:Int):Val:=bif t==2 then Eu else .mk 1 (t==1) 0 [] [] []
theorem rm (n:Nat) (t:Int):zL n t=some (gB t):=by unfold zL gB; cases(t==2)<;>rfl
theorem dS (t:Int):VF (gB t):=by
 unfold gB;cases(t==2)with
 | true=>exact gC
 | false=>exact qcy _
def vI:Val->Int×Int
 | .mk k b _ _ _ _=>bif k==0 then(2,0)else bif k==1 then(bif b then 1 else 0,0)else(0,3)
theorem tl (n:Nat) (v:Val):ug n v=some (vI v):=by
 obtain⟨k,b,i,s,l,ks⟩:=v;obtain⟨h1,_,_,_,g1,_⟩:=LU k b i s l ks;unfold ug vI
 dsimp only
 rw[uu,zl,h1];cases c:k==0 with
 | true=>rfl
 | false=>
  cases a:k==1 with
  | true=>rw[g1 (eq_of_beq a)]; cases b<;>rfl
  | false=>rfl
theorem dR (v:Val):T3 (vI v).1:=by
 obtain⟨k,b,i,s,l,ks⟩:=v;unfold vI
 dsimp only
 cases k==0 with
 | true=>exact(by decide:T3 2)
 | false=>
  cases k==1 with
  | true=>cases b<;>first|exact(by decide:T3 0)|exact(by decide:T3 1)
  | false=>exact(by decide:T3 0)
def gh (f:Int->Int->Int) (a b:Val):Val×Int:=
 bif(vI a).2 != 0 then(Eu,(vI a).2)else bif(vI b).2 != 0 then(Eu,(vI b).2)else(gB (f (vI a).1 (vI b).1),0)
theorem Da (f:Int->Int->Int) (a b:Val):VR (gh f a b):=by
 unfold gh;cases h:(vI a).2 != 0 with
 | true=>intro e; have:(vI a).2=0:=e; rw[this]at h; cases h
 | false=>
  cases h:(vI b).2 != 0 with
  | true=>intro e; have:(vI b).2=0:=e; rw[this]at h; cases h
  | false=>exact fun _=>dS _
theorem qcp (n:Nat) (a b:Val):vd n a b=some (gh MM a b):=by
 obtain⟨k,c,d,e,g,i⟩:=a;obtain⟨k',j,o,s,u,z⟩:=b;have f:=dR (Val.mk k c d e g i);have h:=dR (Val.mk k' j o s u z);unfold vd gh
 dsimp only
 rw[tl,tl];generalize vI (Val.mk k c d e g i)=p at f ⊢;generalize vI (Val.mk k' j o s u z)=q at h ⊢;simp only[zl,oZ n f h,rm];cases p.2 != 0<;>cases q.2 != 0<;>first|rfl|(generalize gB _=tv; cases tv; rfl)
theorem qev (n:Nat) (a b:Val):vv n a b=some (gh or3 a b):=by
 obtain⟨k,c,d,e,g,i⟩:=a;obtain⟨k',j,o,s,u,z⟩:=b;have f:=dR (Val.mk k c d e g i);have h:=dR (Val.mk k' j o s u z);unfold vv gh
 dsimp only
 rw[tl,tl];generalize vI (Val.mk k c d e g i)=p at f ⊢;generalize vI (Val.mk k' j o s u z)=q at h ⊢;simp only[zl,qeh n f h,rm];cases p.2 != 0<;>cases q.2 != 0<;>first|rfl|(generalize gB _=tv; cases tv; rfl)
theorem qcr (n:Nat) (a b:Val):ve n a b=some (gh qa1 a b):=by
 obtain⟨k,c,d,e,g,i⟩:=a;obtain⟨k',j,o,s,u,z⟩:=b;have f:=dR (Val.mk k c d e g i);have h:=dR (Val.mk k' j o s u z);unfold ve gh
 dsimp only
 rw[tl,tl];generalize vI (Val.mk k c d e g i)=p at f ⊢;generalize vI (Val.mk k' j o s u z)=q at h ⊢;simp only[zl,qe1 n f h,rm];cases p.2 != 0<;>cases q.2 != 0<;>first|rfl|(generalize gB _=tv; cases tv; rfl)
open Classical in
mutual
noncomputable def eq3:Val->Val->Int
 | .mk k b i s l ks,.mk k' b' i' s' l' ks'=>
  if k=0\/k'=0 then 2
  else if k≠k'\/l.length≠l'.length\/ks≠ks' then 0
  else if k=4\/k=5 then eqL 1 l l'
  else if Val.mk k b i s l ks=.mk k' b' i' s' l' ks' then 1 else 0
noncomputable def eqL:Int->List Val->List Val->Int
 | t,v::l,w::m=>eqL (MM t (eq3 v w)) l m
 | t,_,_=>t
end
theorem RU (t:Int):∀ (l m:List Val) (k:Nat) (hl:k<l.length) (hm:k<m.length),eqL t (l.take (k+1)) (m.take (k+1))=MM (eqL t (l.take k) (m.take k)) (eq3 l[k] m[k])
 | v::l,w::m,0,_,_=>by simp[eqL]
 | v::l,w::m,k+1,hl,hm=>by
  have:=RU (MM t (eq3 v w)) l m k (by simpa using hl) (by simpa using hm);simpa[eqL]using this
theorem eB:∀ (N:Nat) (v w:Val),cn v<=N->N<=1099511627770->Tot (N+2) (fun n=>uc n v w) (fun t=>t=eq3 v w/\T3 t):=by
 intro N
 induction N with
 | zero=>intro v w h; have:=Vg v; omega
 | succ N ih=>
  intro v w O Z;refine Tot.succ (G:=fun n=>dr n (uc n) v w) (fun n=>rfl) ?_
  obtain⟨k,b,i,s,l,ks⟩:=v;obtain⟨k',o,u,A,f,a⟩:=w;have hb:cn (.mk k b i s l ks)=1+isz i+s.length+vk l+(ks.map fun k=>1+k.length).sum:=by simp only[cn]
  have S:=xP l;have T:ks.length<=(ks.map fun k=>1+k.length).sum:=gb ks
  unfold dr
  dsimp only
  rw[qo,qo];refine Tot.cond (fun D=>.one ⟨?_,.inr (.inr rfl)⟩) (fun D=>?_)
  ·unfold eq3
   rw[if_pos];cases h:k==0 with
   | true=>exact .inl (eq_of_beq h)
   | false=>rw[h,qw]at D; exact .inr (eq_of_beq D)
  have I:¬ (k=0\/k'=0):=by
   rintro(rfl|rfl)
   ·cases D
   cases h:k==0<;>rw[h]at D<;>cases D
  have hkeys:Tot (N+2) (fun n=>zk n ks a) (fun b=>b=true↔ks=a):=by
   obtain⟨b,h1,h2⟩:=mL (n:=N+2) (x:=ks) (y:=a) (by omega) (by omega);refine⟨b,h2,fun n J B=>?_⟩;obtain⟨o,C,K⟩:=mL (n:=n) (x:=ks) (y:=a) (by omega) B;show zk n ks a=some b;rw[C];congr 1;cases b<;>cases o<;>simp_all
  refine Tot.bnd (Tot.gs fun _=>hkeys) fun c p=>?_
  refine Tot.cond (fun d=>.one ⟨?_,.inl rfl⟩) (fun d=>?_)
  ·unfold eq3
   rw[if_neg I,if_pos];by_cases e1:k=k'
   ·by_cases e2:l.length=f.length
    ·right; right
     intro U;have g1:(k != k')=false:=by simpa using e1
     have g2:(((l.length:Nat):Int) != ((f.length:Nat):Int))=false:=by rw[bne_eq_false_iff_eq]; omega
     rw[g1,g2,qw]at d p;rw[(p rfl).2 U]at d;cases d
    ·exact .inr (.inl e2)
   exact .inl e1
  have g1:k=k':=by
   cases h:k != k' with
   | false=>simpa using h
   | true=>rw[h]at d; cases d
  have g2:l.length=f.length:=by
   cases h:(((l.length:Nat):Int) != ((f.length:Nat):Int))with
   | false=>have:=(bne_eq_false_iff_eq).1 h; omega
   | true=>rw[h]at d; cases h2:k != k'<;>rw[h2]at d<;>cases d
  have g3:ks=a:=by
   have q1:(k != k')=false:=by simpa using g1
   have q2:(((l.length:Nat):Int) != ((f.length:Nat):Int))=false:=by rw[bne_eq_false_iff_eq]; omega
   rw[q1,q2,qw,qw]at d;rw[q1,q2,qw]at p;have:c=true:=by simpa using d
   exact(p rfl).1 this
  refine Tot.cond (fun g=>?_) (fun g=>?_)
  ·have he:eq3 (.mk k b i s l ks) (.mk k' o u A f a)=eqL 1 l f:=by
    unfold eq3;rw[if_neg I,if_neg (by rintro(h|h|h); exact h g1; exact h g2; exact h g3),if_pos];cases h:k==4 with
    | true=>exact .inl (eq_of_beq h)
    | false=>rw[h,qw]at g; exact .inr (eq_of_beq g)
   rw[he];refine Tot.loop (fun m st=>∃ (j:Nat) (t:Int),st=(t,((j:Nat):Int))/\j+m=l.length/\t=eqL 1 (l.take j) (f.take j)/\T3 t) ?_ ⟨0,1,rfl,by omega,by simp[eqL],.inr (.inl rfl)⟩ (by omega:l.length<N+2);rintro m _ ⟨j,t,rfl,hm,L,h3⟩;unfold dL
   dsimp only
   rw[qo];refine zo.cond (fun M=>?_) (fun M=>.one ?_)
   ·have E:j<l.length:=by have:=kod M; omega
    have F:j<f.length:=by omega
    have V:=uZ (List.getElem_mem E);refine zo.bnd (Tot.idx (xG E) (P:=fun v=>v=l[j]) rfl) fun v O=>?_
    obtain⟨y1,y2,y3,y4,y5,y6⟩:=v
    dsimp only
    refine zo.bnd (Tot.idx (xG F) (P:=fun v=>v=f[j]) rfl) fun w hw=>?_
    obtain⟨z1,z2,z3,z4,z5,z6⟩:=w
    dsimp only
    rw[O,hw];refine zo.bnd (ih l[j] f[j] (by omega) (by omega)) fun r X=>?_;obtain⟨rfl,H⟩:=X;refine zo.bnd (Tot.of (fun n _ _=>oZ n h3 H) (Q:=fun z=>z=MM t (eq3 l[j] f[j])) rfl) fun z hz=>?_
    subst hz;rw[xW (by omega)];exact .next ⟨m - 1,by omega,j+1,_,rfl,by omega,by rw[RU 1 l f j E F,L],aE h3 H⟩
   have E:j=l.length:=by have:=of_decide_eq_false M; omega
   subst E;rw[List.take_length,g2,List.take_length]at L;exact⟨L,h3⟩
  have he:eq3 (.mk k b i s l ks) (.mk k' o u A f a) = @ite _ (Val.mk k b i s l ks=.mk k' o u A f a) (Classical.propDecidable _) 1 0:=by
   unfold eq3;rw[if_neg I,if_neg (by rintro(h|h|h); exact h g1; exact h g2; exact h g3),if_neg];rintro(h|h)
   ·subst h; cases g
   subst h; cases g
  rw[he];have hsame:Tot (N+2) (fun n=>ui n (.mk k b i s l ks) (.mk k' o u A f a)) (fun q=>q=true↔Val.mk k b i s l ks=.mk k' o u A f a):=by
   obtain⟨q,h1,h2⟩:=(Hk (N+2) (by omega)).1 (.mk k b i s l ks) (.mk k' o u A f a) (by omega);refine⟨q,h2,fun n J B=>?_⟩;obtain⟨Y,C,K⟩:=(Hk n B).1 (.mk k b i s l ks) (.mk k' o u A f a) (by omega);show ui n _ _=some q;rw[C];congr 1;cases q<;>cases Y<;>simp_all
  refine Tot.bnd hsame fun q R=>Tot.bnd (.of (fun n _ _=>oh n q) (Q:=fun z=>z=bif q then 1 else 0) rfl) fun z hz=>.one ?_
  subst hz;refine⟨?_,qeu q⟩;cases q with
  | true=>rw[if_pos (R.1 rfl)]; rfl
  | false=>rw[if_neg (fun e=>Bool.false_ne_true (R.2 e))]; rfl
end W
end
section
open Go Ax
namespace W
theorem MO {k:Int} {b:Bool} {i:Int} {s:List UInt8} {l:List Val} {ks:List (List UInt8)} (h:PF (.mk k b i s l ks)=true) (h4:k≠4) (h5:k≠5):l=[]:=by
 rw[VY,qo]at h;have e4:(k==4)=false:=kbf.2 h4;have e5:(k==5)=false:=kbf.2 h5;rw[e4,e5]at h;generalize (bif(bif(bif(k==(1:Int))then true else(!b))then(bif(bif(k==(2:Int))then true else(decide (k≥(6:Int))))then true else(i==(0:Int)))else false)then(bif(k==(3:Int))then true else(s==([]:List UInt8)))else false)=c at h;cases c with
 | false=>cases h
 | true=>
  rw[zm,qw,qw]at h;cases hl:(((l.length:Nat):Int)==0)with
  | true=>have:=eq_of_beq hl; exact jI (by omega)
  | false=>rw[hl]at h; cases h
theorem Hj {A:Type} (C:Codec A) (X:List (List A)):(ZH C X).length=X.length:=by simp[ZH]
theorem iM (l:List Int) (hl:l.length<=1000):Tot (l.length+1) (fun n=>uP n l) (fun _=>True):=by
 unfold uP;refine Tot.loop (fun m st=>∃ j:Nat,st=((j:Nat):Int)/\j+m=l.length) ?_ ⟨0,rfl,by omega⟩ (Nat.lt_succ_self _);rintro m _ ⟨j,rfl,hm⟩;unfold gT;rw[Ua];refine zo.cond (fun a=>?_) (fun _=>.one trivial);have b:j<l.length:=by have:=kod a; omega
 refine zo.bnd (Tot.idx (xG b) (P:=fun _=>True) trivial) fun x _=>zo.cond (fun _=>.one trivial) fun _=>?_
 rw[xW (by omega)];exact .next ⟨m - 1,by omega,j+1,rfl,by omega⟩
theorem RN (N:Nat) (x y:Int):Tot N (fun n=>vS n x y) (fun _=>True):=by
 unfold vS cD;refine Tot.bnd (P:=fun _=>True) (.one trivial) fun a _=>Tot.bnd (P:=fun _=>True) (.one trivial) fun b _=>?_
 exact Tot.cond (fun _=>Tot.cond (fun _=>.one trivial) fun _=>.one trivial) fun _=>Tot.cond (fun _=>.one trivial) fun _=>Tot.cond (fun _=>.one trivial) fun _=>Tot.cond (fun _=>.one trivial) fun _=>.one trivial
theorem ey (N:Nat) (x y:List UInt8):Tot N (fun n=>vC n x y) (fun _=>True):=by
 unfold vC xl;refine Tot.bnd (P:=fun _=>True) (.one trivial) fun a _=>Tot.bnd (P:=fun _=>True) (.one trivial) fun b _=>?_
 exact Tot.cond (fun _=>Tot.cond (fun _=>.one trivial) fun _=>.one trivial) fun _=>Tot.cond (fun _=>.one trivial) fun _=>Tot.cond (fun _=>.one trivial) fun _=>Tot.cond (fun _=>.one trivial) fun _=>.one trivial
theorem eu (N:Nat) (x y:Int):Tot N (fun n=>xd n x y) (fun _=>True):=by
 unfold xd uO;refine Tot.bnd (P:=fun _=>True) (.one trivial) fun a _=>Tot.bnd (P:=fun _=>True) (.one trivial) fun b _=>?_
 exact Tot.cond (fun _=>Tot.cond (fun _=>.one trivial) fun _=>.one trivial) fun _=>Tot.cond (fun _=>.one trivial) fun _=>Tot.cond (fun _=>.one trivial) fun _=>Tot.cond (fun _=>.one trivial) fun _=>.one trivial
theorem Sp (N:Nat) (x:Bool):Tot N (fun n=>fT n x) (fun _=>True):=by
 unfold fT;exact Tot.cond (fun _=>.one trivial) fun _=>.one trivial
theorem eR {v w:Val} (f:VF v) (hw:VF w):Tot 20 (fun n=>uL n v w) T3:=by
 obtain⟨k,b,i,s,l,ks⟩:=v;obtain⟨k',g,j,o,q,d⟩:=w;unfold uL
 dsimp only
 refine Tot.cond (fun _=>.one (.inr (.inr rfl))) fun a=>?_;have g1:k=k':=by
  cases h:k != k' with
  | false=>simpa using h
  | true=>rw[h]at a; cases a
 have g2:¬ k<1/\¬ k>3:=by
  cases h:k != k' with
  | true=>rw[h]at a; cases a
  | false=>
   rw[h,qw]at a;cases h2:decide (k<1)with
   | true=>rw[h2]at a; cases a
   | false=>rw[h2,qw]at a; exact⟨of_decide_eq_false h2,of_decide_eq_false a⟩
 subst g1;have e1:=MO (LR f.one.1).1 (by omega) (by omega);have e2:=MO (LR hw.one.1).1 (by omega) (by omega);subst e1 e2;refine Tot.bnd (P:=fun _=>True) ?_ fun c _=>Tot.bnd (.of (fun n _ _=>oh n _) (qeu _)) fun t p=>.one p
 refine Tot.succ (N:=19) (G:=fun n=>ds n (dd n) (.mk k b i s [] ks) (.mk k g j o [] d)) (fun n=>rfl) ?_
 unfold ds
 dsimp only
 refine Tot.cond (fun e=>?_) fun _=>?_
 ·simp at e
 refine Tot.loop (fun _ st=>st=(0:Int)) ?_ rfl (by decide:0<19)
 rintro m _ rfl;unfold dN;refine zo.cond (fun e=>?_) fun _=>?_
 ·cases e
 refine zo.bnd (RN _ _ _) fun _ _=>zo.bnd (Sp _ _) fun _ _=>zo.bnd (Sp _ _) fun _ _=>zo.bnd (RN _ _ _) fun _ _=>zo.bnd (eu _ _ _) fun _ _=>zo.bnd (ey _ _ _) fun _ _=>?_
 exact zo.bnd ((iM _ (by simp)).up (by simp)) fun _ _=>.one trivial
def UR (v:Val):Val×Int:=match v with
 | .mk k b i s l ks=>bif(decide (((s.length:Nat):Int)>16384)||!ZV (.mk k b i s l ks))then(Eu,8)else(.mk k b i s l ks,0)
theorem ak {n:Nat} {v:Val} (h:hgt v<=n) (a:n<=1099511627776):gH n v=some (UR v):=by
 have c:=Bs h a;obtain⟨k,b,i,s,l,ks⟩:=v;unfold gH UR
 dsimp only
 rw[c];cases decide (((s.length:Nat):Int)>16384)with
 | true=>rfl
 | false=>cases ZV (.mk k b i s l ks)<;>rfl
theorem qc1 {v:Val} (h:smV v=true):VR (UR v):=by
 obtain⟨k,b,i,s,l,ks⟩:=v;unfold UR
 dsimp only
 cases h1:(decide (((s.length:Nat):Int)>16384)||!ZV (.mk k b i s l ks))with
 | true=>intro e; cases e
 | false=>
  simp only[jY,Bool.not_eq_false']at h1;exact fun _=>⟨h1.2,h⟩
theorem Ng {l:List Val} (h:∀ x∈l,VF x):TQ l<=4295475200:=iW fun x a=>Nat.le_trans (PT x) (h x a).big
theorem BS {l:List Val} (h:∀ x∈l,VF x) (hl:l.length<=1048576):Tot 34359738368 (fun n=>gH n (.mk 4 false 0 [] l [])) (fun r=>r=UR (.mk 4 false 0 [] l [])/\VR r):=by
 have:=Ng h;refine .of (fun n h1 h2=>ak (by simp only[hgt,jc]; omega) h2) ⟨rfl,qc1 ?_⟩
 simp only[smV,Sz fun x a=>(h x a).sm,Bool.and_true]
 decide
theorem Sv {s:List UInt8}:Tot 34359738368 (fun n=>gH n (.mk 3 false 0 s [] [])) VR:=by
 refine .of (r:=UR (.mk 3 false 0 s [] [])) (fun n h1 h2=>ak (by simp only[hgt,TQ,jc]; omega) h2) ?_
 intro h;unfold UR at h ⊢
 dsimp only at h ⊢
 cases h1:(decide (((s.length:Nat):Int)>16384)||!ZV (.mk 3 false 0 s [] []))with
 | true=>rw[h1]at h; cases h
 | false=>
  simp only[jY,decide_eq_false_iff_not]at h1;exact SI (by omega)
theorem Lr (X:List (List Val)) (j:Nat):((X.take j).flatten).length<=X.flatten.length:=by
 have:X.flatten=(X.take j).flatten++(X.drop j).flatten:=by rw[← List.flatten_append,List.take_append_drop]
 rw[this,jb]; omega
theorem SU {X:List (List Val)} (h:X.flatten.length<=1048576) (g:X.length<=1000):Tot 2000 (fun n=>zD n X) (fun r=>r=X.flatten):=by
 unfold zD;refine Tot.loop (fun m st=>∃ j:Nat,st=(((((X.take j).flatten).length:Nat):Int),((j:Nat):Int))/\j+m=X.length) ?_ ⟨0,rfl,by omega⟩ (by omega:X.length<2000);rintro m _ ⟨j,rfl,hm⟩;have i:=Lr X j;unfold zR
 dsimp only
 refine zo.cond (fun a=>?_) (fun a=>.tot ?_)
 ·rw[Hj]at a
  have b:j<X.length:=by have:=kod a; omega
  have c:=Lr X (j+1);have e:(X.take (j+1)).flatten=(X.take j).flatten++X[j]:=by rw[gA b,List.flatten_append]; simp
  refine zo.bnd (Tot.idx (xG b) (P:=fun x=>x=X[j]) rfl) fun x d=>?_
  subst d;rw[qo];have hw:kwr .i64 ((((X.take j).flatten.length:Nat):Int)+((X[j].length:Nat):Int))=(((X.take (j+1)).flatten.length:Nat):Int):=by
   rw[e,jb]at c ⊢;rw[RB (by omega) (by omega)];omega
  rw[hw];refine zo.cond (fun f=>?_) (fun _=>?_)
  ·have:=kod f; omega
  rw[xW (by omega)];exact .next ⟨m - 1,by omega,j+1,rfl,by omega⟩
 refine Tot.bnd (.of (fun n _ _=>natI_nat _) (Q:=fun z=>z=(X.take j).flatten.length) rfl) fun z hz=>?_
 subst hz;refine Tot.chk (kdt (by omega)) ?_;refine Tot.loop (fun m st=>∃ j:Nat,st=((X.take j).flatten,((j:Nat):Int))/\j+m=X.length) ?_ ⟨0,rfl,by omega⟩ (by omega:X.length<2000);rintro m _ ⟨j,rfl,hm⟩;unfold zS
 dsimp only
 rw[Hj];refine zo.cond (fun a=>?_) (fun a=>.one ?_)
 ·have b:j<X.length:=by have:=kod a; omega
  have c:=Lr X (j+1);have e:(X.take (j+1)).flatten=(X.take j).flatten++X[j]:=by rw[gA b,List.flatten_append]; simp
  refine zo.bnd (Tot.idx (xG b) (P:=fun x=>x=X[j]) rfl) fun x d=>?_
  subst d;rw[← e,qo];refine zo.chk (kdt (by omega)) ?_;rw[xW (by omega)];exact .next ⟨m - 1,by omega,j+1,rfl,by omega⟩
 have:j=X.length:=by have:=of_decide_eq_false a; omega
 subst this;rw[List.take_length]
theorem qb7 {a b:Val} (ha:VF a) (c:VF b):Tot 34359738368 (fun n=>xJ n a b) VR:=eY 34359738368 ha c
theorem oq {a b:Val} (ha:VF a) (w:VF b):Tot 34359738368 (fun n=>sc n a b) VR:=by
 have y:=ha.open_s;have z:=w.open_s;have A:=ha.open_l;have B:=w.open_l;have l:=qb7 ha w;obtain⟨k,c,d,f,g,m⟩:=a;obtain⟨k',o,p,q,t,u⟩:=b;have h2:Tot 34359738368 (fun n=>fN n k c d f g m k' o p q t u ()) VR:=by
  unfold fN;refine Tot.bnd l fun r h=>?_;obtain⟨⟨E,z2,z3,z4,z5,F⟩,e⟩:=r;exact .one h
 have h1:Tot 34359738368 (fun n=>fM n k c d f g m k' o p q t u ()) VR:=by
  unfold fM;refine Tot.bnd (.of (fun n _ _=>uu n _) rfl) fun a C=>?_
  subst C;refine Tot.cond (fun i=>?_) (fun _=>h2)
  refine Tot.bnd (.of (fun n _ _=>uu n _) rfl) fun b e2=>?_
  subst e2;refine Tot.cond (fun j=>?_) (fun _=>h2)
  obtain⟨H,G⟩:=A i;obtain⟨J,I⟩:=B j;refine Tot.bnd ((SU (X:=[_,_]) (by simp; omega) (by simp)).up (by decide)) fun r h=>?_;have h:r=(xB (Val.mk k c d f g m)).get_l++(xB (Val.mk k' o p q t u)).get_l:=by rw[h]; simp
  subst h;unfold uU;refine Tot.bnd (P:=fun v=>v=Val.mk 4 false 0 [] _ []) (.one rfl) fun v D=>?_
  subst D
  dsimp only
  refine Tot.bnd (BS (fun x s=>?_) (by simp; omega)) fun r h=>?_
  ·rcases jy.1 s with s|s
   ·exact G x s
   exact I x s
  obtain⟨⟨E,z2,z3,z4,z5,F⟩,e⟩:=r;exact .one h.2
 unfold sc
 dsimp only
 refine Tot.bnd (.of (fun n _ _=>uu n _) rfl) fun a C=>?_
 subst C;refine Tot.cond (fun i=>?_) (fun _=>h1)
 refine Tot.bnd (.of (fun n _ _=>uu n _) rfl) fun b e2=>?_
 subst e2;refine Tot.cond (fun j=>?_) (fun _=>h1)
 have H:=y i;have G:=z j;refine Tot.chk (kdt (by unfold Vr; omega)) ?_;unfold gJ;refine Tot.bnd (P:=fun v=>v=Val.mk 3 false 0 _ [] []) (.one rfl) fun v D=>?_
 subst D
 dsimp only
 refine Tot.bnd Sv fun r h=>?_;obtain⟨⟨E,z2,z3,z4,z5,F⟩,e⟩:=r;exact .one h
end W
end
section
open Go Ax
namespace W
theorem aL {k:Int} {b:Bool} {i:Int} {s:List UInt8} {l:List Val} {ks:List (List UInt8)} (h:VF (.mk k b i s l ks)) (key:List UInt8):VF (PS k l ks key).1:=by
 unfold PS RJ;split
 ·split
  ·rename_i v a
   exact h.child (List.mem_of_getElem? a)
  exact gC
 exact gC
theorem EI {n:Nat} (a:n<=1099511627776) {k:Int} {b:Bool} {i:Int} {s:List UInt8} {l:List Val} {ks:List (List UInt8)} (h:VF (.mk k b i s l ks)) (h5:k=5) (c:4295475200<n) (key:List UInt8) :
  ur n (.mk k b i s l ks) key=some (PS k l ks key):=
 aI a (by have:=h.big; omega) (h.keys.2.2.2 h5) h.keys.2.1 key
theorem qdo {a b:Val} (ha:VF a) (C:VF b):Tot 34359738368 (fun n=>mb n a b) VR:=by
 have w:=ha.open_l;have D:=C.open_i;obtain⟨k,c,d,f,g,m⟩:=a;obtain⟨k',o,p,q,t,u⟩:=b;unfold mb
 dsimp only
 refine Tot.cond (fun _=>.one fun _=>gC) fun _=>?_
 refine Tot.bnd (.of (fun n _ _=>uu n _) rfl) fun a x=>?_
 subst x;refine Tot.cond (fun l=>?_) fun _=>?_
 ·have h5:k=5:=by
   cases h:(xB (Val.mk k' o p q t u)).is_s with
   | true=>rw[h,zm]at l; exact eq_of_beq l
   | false=>rw[h]at l; cases l
  refine Tot.bnd (.of (fun n h1 h2=>EI h2 ha h5 (by omega) _) rfl) fun r E=>?_
  have A:=aL ha (xB (Val.mk k' o p q t u)).get_s;rw[E]at A;obtain⟨⟨F,z2,z3,z4,z5,G⟩,e⟩:=r;exact .one fun _=>A
 refine Tot.bnd (.of (fun n _ _=>uu n _) rfl) fun a x=>Tot.bnd (.of (fun n _ _=>uu n _) rfl) fun b e2=>?_
 subst x e2;refine Tot.cond (fun _=>.one fun h=>absurd h (by dsimp only; decide)) fun l=>?_
 have y:(xB (Val.mk k c d f g m)).is_l=true/\(xB (Val.mk k' o p q t u)).is_i=true:=by
  cases h1:(xB (Val.mk k c d f g m)).is_l<;>cases h2:(xB (Val.mk k' o p q t u)).is_i<;>rw[h1,h2]at l<;>first|exact⟨rfl,rfl⟩|cases l
 obtain⟨J,H⟩:=w y.1;have s:∀ i:Int,Tot 34359738368 (fun n=>bm n (xB (Val.mk k c d f g m)) i) VR:=by
  intro i;unfold bm;rw[qo];refine Tot.cond (fun _=>.one fun _=>gC) fun l=>?_
  have z:0<=i/\i<(((xB (Val.mk k c d f g m)).get_l.length:Nat):Int):=by
   cases h1:decide (i<0)with
   | true=>rw[h1]at l; cases l
   | false=>
    rw[h1,qw]at l;have:=of_decide_eq_false h1;have:=of_decide_eq_false l;omega
  obtain⟨j,rfl⟩:=Int.eq_ofNat_of_zero_le z.1;have B:j<(xB (Val.mk k c d f g m)).get_l.length:=by omega
  refine Tot.bnd (Tot.idx (xG B) (P:=VF) (H _ (List.getElem_mem B))) fun v I=>?_;obtain⟨F,z2,z3,z4,z5,G⟩:=v;exact .one fun _=>I
 exact Tot.cond (fun _=>s _) fun _=>s _
theorem iF {a:Val} (ha:VF a) (last:Bool):Tot 34359738368 (fun n=>ry n a last) VR:=by
 have l:=ha.open_l;obtain⟨k,c,d,e,f,g⟩:=a;unfold ry
 dsimp only
 refine Tot.bnd (.of (fun n _ _=>uu n _) rfl) fun a r=>?_
 subst r;refine Tot.cond (fun _=>.one fun h=>absurd h (by dsimp only; decide)) fun m=>?_
 have m:(xB (Val.mk k c d e f g)).is_l=true:=by simpa using m
 obtain⟨w,p⟩:=l m;rw[qo];refine Tot.cond (fun _=>.one fun _=>gC) fun q=>?_
 have hlen:0<(xB (Val.mk k c d e f g)).get_l.length:=by
  rcases Nat.eq_zero_or_pos (xB (Val.mk k c d e f g)).get_l.length with h|h
  ·rw[h]at q; cases q
  exact h
 refine Tot.cond (fun _=>?_) fun _=>?_
 ·obtain⟨j,s⟩:∃ j,(xB (Val.mk k c d e f g)).get_l.length=j+1:=⟨(xB (Val.mk k c d e f g)).get_l.length - 1,by omega⟩
  rw[s,RC (by omega)];have b:j<(xB (Val.mk k c d e f g)).get_l.length:=by omega
  refine Tot.bnd (Tot.idx (xG b) (P:=VF) (p _ (List.getElem_mem b))) fun v o=>?_;obtain⟨t,z2,z3,z4,z5,u⟩:=v;exact .one fun _=>o
 refine Tot.bnd (Tot.idx (i:=0) (xG hlen) (P:=VF) (p _ (List.getElem_mem hlen))) fun v o=>?_;obtain⟨t,z2,z3,z4,z5,u⟩:=v;exact .one fun _=>o
theorem Ty {l:List UInt8} {i:Nat} (h:i<l.length):i<zF l i:=by
 unfold zF;have:=Lib.decode_width_pos ⟨l.toArray⟩ i (by simpa[ByteArray.size]using h);omega
theorem iB {s:List UInt8} (d:s.length<=1048576):Tot 34359738368 (fun n=>nM n s) (fun r=>okI r=true):=by
 unfold nM;refine Tot.loop (fun m st=>∃ c i:Nat,st=(((c:Nat):Int),i)/\c<=i/\c<=s.length/\m=s.length - i) ?_ ⟨0,0,rfl,jw _,jS _,rfl⟩ (by omega);rintro m _ ⟨c,i,rfl,h1,h2,rfl⟩;unfold mc
 dsimp only
 refine zo.cond (fun a=>?_) fun _=>.one ?_
 ·have b:=kod a
  have:=Ty b;rw[a,zm,xW (by omega)];exact .next ⟨s.length - zF s i,by omega,c+1,zF s i,rfl,by omega,by omega,rfl⟩
 exact kdt (by omega)
theorem qca {n:Nat} (h:n<=1048576):okI (n:Int)=true:=kdt (by omega)
theorem au {a:Val} (ha:VF a):Tot 34359738368 (fun n=>mK n a) VR:=by
 have b:=ha.open_s;have hl:=ha;obtain⟨k,j,l,m,d,o⟩:=a;unfold mK zB
 dsimp only
 refine Tot.bnd (.of (fun n _ _=>uu n _) rfl) fun a g=>?_
 subst g;refine Tot.cond (fun i=>?_) fun _=>?_
 ·refine Tot.bnd (iB (b i)) fun c e=>?_
  refine Tot.bnd (P:=fun v=>v=Val.mk 2 false c [] [] []) (.one rfl) fun v f=>?_
  subst f;exact .one fun _=>Qx e
 refine Tot.cond (fun _=>?_) fun _=>.one fun h=>absurd h (by dsimp only; decide)
 rw[qo];refine Tot.bnd (P:=fun v=>v=Val.mk 2 false ((d.length:Nat):Int) [] [] []) (.one rfl) fun v f=>?_
 subst f;exact .one fun _=>Qx (qca (by have:=hl.len; omega))
theorem BX {l:List (List UInt8)} (h1:l.length<=4095) (h2:∀ s∈l,s.length<=1048576):Tot 34359738368 (fun n=>cF n l) VF:=by
 unfold cF;refine Tot.loop (fun m st=>∃ (j:Nat) (acc:List Val),st=(acc,((j:Nat):Int))/\j+m=l.length/\acc.length=j/\∀ x∈acc,∃ s:List UInt8,s.length<=1048576/\x=.mk 3 false 0 s [] []) ?_ ⟨0,[],rfl,by omega,rfl,fun x h=>by cases h⟩ (by omega:l.length<34359738368)
 rintro m _ ⟨j,acc,rfl,hm,ha,d⟩;unfold mf gJ uU
 dsimp only
 rw[zc];refine zo.cond (fun f=>?_) fun _=>?_
 ·have e:j<l.length:=by have:=kod f; omega
  refine zo.bnd (Tot.idx (xG e) (P:=fun x=>x=l[j]) rfl) fun x a=>?_
  subst a;refine zo.bnd (P:=fun v=>v=Val.mk 3 false 0 l[j] [] []) (.one rfl) fun v b=>?_
  subst b
  dsimp only
  rw[qo];refine zo.chk (kdt (by simp; omega)) ?_;rw[xW (by omega)];refine .next ⟨m - 1,by omega,j+1,_,rfl,by omega,by simp[ha],fun x c=>?_⟩;rcases jy.1 c with h|h
  ·exact d x h
  exact⟨l[j],h2 _ (List.getElem_mem e),jz.1 h⟩
 refine zo.bnd (P:=fun v=>v=Val.mk 4 false 0 [] acc []) (.one rfl) fun v b=>?_
 subst b;exact .one (qc0 d (by omega))
theorem oK {a b:Val} (ha:VF a) (z:VF b):Tot 34359738368 (fun n=>sd n a b) VR:=by
 have o:=ha.open_i;obtain⟨k,c,d,e,f,g⟩:=a;obtain⟨k',A,B,C,D,E⟩:=b;have j:∀ acc:List Val,acc.length<=4095->(∀ x∈acc,∃ i,okI i=true/\x=.mk 2 false i [] [] [])->Tot 34359738368 (fun n=>fO n acc) VR:=by
  intro acc h1 h2;unfold fO uU;refine Tot.bnd (P:=fun v=>v=Val.mk 4 false 0 [] acc []) (.one rfl) fun v p=>?_
  subst p;exact .one fun _=>qcz h2 h1
 unfold sd
 dsimp only
 refine Tot.bnd (.of (fun n _ _=>uu n _) rfl) fun a w=>Tot.bnd (.of (fun n _ _=>uu n _) rfl) fun b e2=>?_
 subst w e2;refine Tot.cond (fun _=>.one fun h=>absurd h (by dsimp only; decide)) fun s=>?_
 have y:(xB (Val.mk k c d e f g)).is_i=true:=by
  cases h1:(xB (Val.mk k c d e f g)).is_i with
  | true=>rfl
  | false=>rw[h1]at s; cases s
 refine Tot.loop (fun m st=>∃ (acc:List Val) (i:Int),st=(acc,i)/\acc.length+m=4095/\okI i=true/\∀ x∈acc,∃ i,okI i=true/\x=.mk 2 false i [] [] []) (m0:=4095) ?_ ⟨[],_,rfl,by simp,o y,fun x h=>by cases h⟩ (by decide)
 rintro m _ ⟨acc,i,rfl,hm,q,t⟩;unfold nk zB
 dsimp only
 rw[qo];refine zo.cond (fun _=>zo.cond (fun _=>.one fun h=>absurd h (by dsimp only; decide)) fun u=>?_) fun _=>.tot ?_
 ·have u:=of_decide_eq_false u
  refine zo.bnd (P:=fun v=>v=Val.mk 2 false i [] [] []) (.one rfl) fun v p=>?_
  subst p
  dsimp only
  have l:∀ x∈acc++[Val.mk 2 false i [] [] []],∃ i,okI i=true/\x=.mk 2 false i [] [] []:=fun x r=>by
   rcases jy.1 r with h|h
   ·exact t x h
   exact⟨i,q,jz.1 h⟩
  rw[qo];refine zo.chk (kdt (by simp; omega)) (zo.cond (fun _=>.tot (j _ (by simp; omega) l)) fun _=>?_);exact .next ⟨m - 1,by omega,_,_,rfl,by simp; omega,UP _,l⟩
 exact j acc (by omega) t
end W
end
section
open Go Ax
namespace W
structure NdOk (labels keys:List (List UInt8)) (vals:List Val):Prop where
 llen:labels.length<=1000
 klen:keys.length<=1000
 same:keys.length=vals.length
 lbl:∀ s∈labels,s.length<=1048576
 key:∀ s∈keys,s.length<=1048576
 val:∀ v∈vals,VF v
structure GrOk (nodes:List Node) (edges:List Edge):Prop where
 upN:UpI Node.id nodes
 upE:UpI Edge.id edges
 lenN:nodes.length<=1048576
 lenE:edges.length<=1048576
 node:∀ d∈nodes,Zm d<=1048576/\NdOk d.labels d.keys d.vals
 edge:∀ d∈edges,Zl d<=1048576/\NdOk [] d.keys d.vals/\d.type_.length<=1048576
structure PlOk (p:xa):Prop where
 len:p.env.names.length=p.env.vals.length
 bnd:p.env.names.length<=1048576
 vals:∀ v∈p.env.vals,VF v
 gr:GrOk p.g.nodes p.g.edges
 par:VF p.params
 par5:kd p.params=5
theorem qap:NdOk [] [] []:=⟨by simp,by simp,rfl,(fun s h=>by cases h),(fun s h=>by cases h),(fun v h=>by cases h)⟩
section
variable {p:xa} (hp:PlOk p)
include hp
theorem LO (id:Int):Tot 34359738368 (fun n=>fk n p.g id) (fun r=>NdOk r.1.labels r.1.keys r.1.vals):=by
 obtain⟨⟨names,vals⟩,⟨nodes,edges⟩,par⟩:=p;have h:=hp.gr;refine .of (fun n h1 h2=>Td h2 h.upN (by have:=h.lenN; omega) (fun d a=>by have:=(h.node d a).1; omega) edges id) ?_
 cases b:Ce Node.id nodes id with
 | none=>exact qap
 | some d=>exact(h.node d (Cq b).1).2
theorem RR (id:Int):Tot 34359738368 (fun n=>cG n p.g id) (fun r=>NdOk [] r.1.keys r.1.vals/\r.1.type_.length<=1048576):=by
 obtain⟨⟨names,vals⟩,⟨nodes,edges⟩,par⟩:=p;have h:=hp.gr;refine .of (fun n h1 h2=>Tc h2 h.upE (by have:=h.lenE; omega) (fun d a=>by have:=(h.edge d a).1; omega) nodes id) ?_
 cases b:Ce Edge.id edges id with
 | none=>exact⟨qap,jS _⟩
 | some d=>exact(h.edge d (Cq b).1).2
theorem NG (v:Val):Tot 34359738368 (fun n=>um n p v) (fun r=>NdOk [] r.1 r.2.1):=by
 have h1:=LO hp;have h2:=RR hp;obtain⟨⟨names,vals⟩,⟨nodes,edges⟩,⟨k,b,i,s,l,ks⟩⟩:=p;obtain⟨k',f,a,g,j,m⟩:=v;unfold um
 dsimp only
 refine Tot.cond (fun _=>Tot.bnd (h1 a) fun r c=>?_) fun _=>Tot.bnd (h2 a) fun r c=>?_
 ·obtain⟨⟨d,z2,z3,z4⟩,e⟩:=r
  exact .one ⟨by simp,c.klen,c.same,(fun s h=>by cases h),c.key,c.val⟩
 obtain⟨⟨d,z2,z3,z4,z5,o⟩,e⟩:=r;exact .one c.1
end
theorem qdq {ks:List (List UInt8)} (hl:ks.length<=1048576) (key:List UInt8):Tot 34359738368 (fun n=>qN n ks key) (fun r=>r.2=true->∃ j:Nat,r.1=((j:Nat):Int)/\j<ks.length):=by
 unfold qN;rw[zc];refine Tot.loop (fun m st=>∃ i j:Nat,st=(((i:Nat):Int),((j:Nat):Int))/\i<=j/\j<=ks.length/\m=j - i) ?_ ⟨0,ks.length,rfl,jS _,jw _,rfl⟩ (by omega);rintro m _ ⟨i,j,rfl,d,f,rfl⟩;unfold qQ
 dsimp only
 refine zo.cond (fun a=>?_) fun a=>?_
 ·have k:i<j:=by have:=kod a; omega
  rw[qe8 (show i+j<=1152921504606846976 by omega)];refine zo.bnd (Tot.idx (xG (show(i+j) / 2<ks.length by omega)) (P:=fun _=>True) trivial) fun x _=>?_
  refine zo.bnd (P:=fun _=>True) (.of (fun n _ _=>(by simp[vT,xl]:vT n x key=some (Op.bytesLess x key))) trivial) fun c _=>?_
  refine zo.cond (fun _=>?_) fun _=>?_
  ·rw[xW (by omega)]
   exact .next ⟨j - ((i+j) / 2+1),by omega,_,j,rfl,by omega,f,rfl⟩
  exact .next ⟨(i+j) / 2 - i,by omega,i,_,rfl,by omega,by omega,rfl⟩
 have:i=j:=by have:=of_decide_eq_false a; omega
 subst this;rw[zc];have b:∀ g:Bool,(g=true->i<ks.length)->Tot 34359738368 (fun n=>qE g (idx ks ((i:Nat):Int))) (fun _=>True):=fun g l=>(Tot.gs (P:=fun _=>True) fun h=>Tot.idx (xG (l h)) trivial).imp fun _ _=>trivial
 refine zo.bnd (b _ fun h=>by have:=kod h; omega) fun s _=>zo.bnd (b _ fun h=>?_) fun t _=>?_
 ·simp only[ji,kde]at h; omega
 refine zo.bnd (P:=fun _=>True) ((Tot.gs (P:=fun _=>True) fun _=>.of (fun n _ _=>rfl) trivial).imp fun _ _=>trivial) fun u _=>?_
 refine zo.bnd (P:=fun _=>True) ((Tot.gs (P:=fun _=>True) fun _=>.of (fun n _ _=>rfl) trivial).imp fun _ _=>trivial) fun o _=>.one fun h=>⟨i,rfl,?_⟩
 by_cases q:i<ks.length
 ·exact q
 have e:decide (((i:Nat):Int)<((ks.length:Nat):Int))=false:=kdf (by omega)
 dsimp only at h
 rw[e]at h;cases h
theorem BB (l:List (List UInt8)) (x:List UInt8) (hl:l.length<=1048576):Tot 34359738368 (fun n=>zT n l x) (fun r=>(x ∉ l/\r = -1)\/∃ j:Nat,r=((j:Nat):Int)/\l[j]? =some x/\x ∉ l.take j):=by
 unfold zT;refine Tot.loop (fun m st=>∃ j:Nat,st=((j:Nat):Int)/\j+m=l.length/\x ∉ l.take j) ?_ ⟨0,rfl,by omega,by simp⟩ (by omega:l.length<34359738368);rintro m _ ⟨j,rfl,hm,a⟩;unfold xM;rw[zc];refine zo.cond (fun b=>?_) fun b=>.one ?_
 ·have c:j<l.length:=by have:=kod b; omega
  refine zo.bnd (Tot.idx (xG c) (P:=fun y=>y=l[j]) rfl) fun y d=>?_
  subst d;refine zo.cond (fun he=>.one ?_) fun he=>?_
  ·exact .inr ⟨j,rfl,by rw[xG c,← eq_of_beq he],a⟩
  rw[xW (by omega)];refine .next ⟨m - 1,by omega,j+1,rfl,by omega,?_⟩;rw[gA c];intro h;rcases jy.1 h with h|h
  ·exact a h
  have:=jz.1 h;rw[← this]at he;simp at he
 have:j=l.length:=by have:=of_decide_eq_false b; omega
 subst this;rw[List.take_length]at a;exact .inl ⟨a,rfl⟩
section
variable {p:xa} (hp:PlOk p)
include hp
theorem ot {v:Val} (q:VF v) (key:List UInt8):Tot 34359738368 (fun n=>fa n p v key) VR:=by
 have w:=NG hp v;obtain⟨⟨names,vals⟩,⟨nodes,edges⟩,⟨k,b,i,s,l,ks⟩⟩:=p;obtain⟨k',a,d,f,m,o⟩:=v;have h1:∀ c:Bool,Tot 34359738368 (fun n=>vE n names vals nodes edges k b i s l ks k' a d f m o key c) VR:=by
  intro c;unfold vE gS;refine Tot.cond (fun _=>Tot.bnd w fun r t=>?_) fun _=>.one fun h=>absurd h (by dsimp only; decide)
  obtain⟨F,A,G⟩:=r;have:=t.klen;refine Tot.bnd (qdq (by dsimp only at this; omega) key) fun r x=>?_;obtain⟨B,H⟩:=r;refine Tot.cond (fun C=>?_) fun _=>.one fun _=>gC
  obtain⟨j,g,y⟩:=x C;have g:B=((j:Nat):Int):=g;subst g;have u:j<A.length:=by rw[← t.same]; exact y
  refine Tot.bnd (Tot.idx (xG u) (P:=VF) (t.val _ (List.getElem_mem u))) fun v q=>?_;obtain⟨D,z2,z3,z4,z5,E⟩:=v;exact .one fun _=>q
 unfold fa
 dsimp only
 refine Tot.cond (fun _=>.one fun _=>q) fun _=>Tot.cond (fun h5=>?_) fun _=>Tot.cond (fun _=>h1 _) fun _=>h1 _
 refine Tot.bnd (.of (fun n h1 h2=>EI h2 q (eq_of_beq h5) (by omega) _) rfl) fun r t=>?_
 have z:=aL q key;rw[t]at z;obtain⟨⟨D,z2,z3,z4,z5,E⟩,e⟩:=r;exact .one fun _=>z
theorem qbm (v:Val) (key:List UInt8):Tot 34359738368 (fun n=>fy n p v key) VR:=by
 have h1:=LO hp;obtain⟨⟨names,vals⟩,⟨nodes,edges⟩,⟨k,b,i,s,l,ks⟩⟩:=p;obtain⟨k',g,a,j,m,o⟩:=v;unfold fy
 dsimp only
 refine Tot.cond (fun _=>.one fun h=>absurd h (by dsimp only; decide)) fun _=>Tot.bnd (h1 a) fun r d=>?_
 obtain⟨⟨q,z2,z3,z4⟩,e⟩:=r;refine Tot.cond (fun _=>.one fun _=>gC) fun _=>?_
 unfold xL;refine Tot.bnd (P:=fun _=>True) (Tot.bnd (BB z2 key (by have:=d.llen; dsimp only at this; omega)) fun _ _=>.one trivial) fun c _=>?_
 refine Tot.bnd (.of (fun n _ _=>oh n _) trivial) (P:=fun _=>True) fun t _=>Tot.bnd (.of (fun n _ _=>rm n t) rfl) fun v f=>?_
 have:=dS t;rw[f]at this;obtain⟨u,w,x,y,z,A⟩:=v;exact .one fun _=>this
theorem lv {v:Val} (g:VF v):Tot 34359738368 (fun n=>gZ n p v) VR:=by
 have j:=NG hp v;obtain⟨⟨names,vals⟩,⟨nodes,edges⟩,⟨k,b,i,s,l,ks⟩⟩:=p;obtain⟨k',a,d,e,f,m⟩:=v;have h1:∀ c:Bool,Tot 34359738368 (fun n=>vD n names vals nodes edges k b i s l ks k' a d e f m c) VR:=by
  intro c;unfold vD;refine Tot.cond (fun _=>Tot.bnd j fun r o=>?_) fun _=>.one fun h=>absurd h (by dsimp only; decide)
  obtain⟨w,x,y⟩:=r;refine Tot.cond (fun _=>.one fun _=>gC) fun _=>?_
  refine Tot.bnd (BX (by have:=o.klen; dsimp only at this; omega) o.key) fun v g=>?_;obtain⟨q,z2,z3,z4,z5,t⟩:=v;exact .one fun _=>g
 unfold gZ
 dsimp only
 refine Tot.cond (fun _=>?_) fun _=>Tot.cond (fun _=>h1 _) fun _=>h1 _
 refine Tot.bnd (BX (by have:=g.keys.1; have:=g.len; omega) fun s u=>by have:=g.keys.2.2.1 s u; omega) fun v g=>?_
 obtain⟨q,z2,z3,z4,z5,t⟩:=v;exact .one fun _=>g
theorem SY (v:Val) (kind:Int):Tot 34359738368 (fun n=>vU n p v kind) VR:=by
 have h1:=LO hp;have h2:=RR hp;obtain⟨⟨names,vals⟩,⟨nodes,edges⟩,⟨k,b,i,s,l,ks⟩⟩:=p;obtain⟨k',j,a,m,o,q⟩:=v;unfold vU
 dsimp only
 refine Tot.cond (fun _=>.one fun h=>absurd h (by dsimp only; decide)) fun _=>Tot.cond (fun _=>Tot.bnd (h1 a) fun r c=>?_) fun _=>Tot.bnd (h2 a) fun r c=>?_
 ·obtain⟨⟨f,z2,z3,z4⟩,e⟩:=r
  refine Tot.cond (fun _=>.one fun _=>gC) fun _=>?_
  refine Tot.bnd (BX (l:=z2) (by have:=c.llen; dsimp only at this; omega) c.lbl) fun v d=>?_;obtain⟨f,z2,z3,z4,z5,g⟩:=v;exact .one fun _=>d
 obtain⟨⟨f,z2,z3,z4,z5,g⟩,e⟩:=r;refine Tot.cond (fun _=>.one fun _=>gC) fun _=>?_
 unfold gJ;refine Tot.bnd (P:=fun v=>v=Val.mk 3 false 0 z4 [] []) (.one rfl) fun v d=>?_
 subst d;exact .one fun _=>SI c.2
end
end W
end
section
open Go Ax
namespace W
theorem Hl (v:Val):∀ a:List Val,vk (a++[v])=vk a+1+cn v
 | []=>by simp[vk]; omega
 | w::a=>by simp only[List.cons_append,vk,Hl v a]; omega
theorem oI:∀ (N:Nat) (v:Val),VF v->cn v<=N->N<=8589934592->Tot (500+N) (fun n=>cJ n v) (fun t=>t.length<=400 * cn v):=by
 intro N
 induction N with
 | zero=>intro v _ h; have:=Vg v; omega
 | succ N ih=>
  intro v o S T;refine Tot.succ (N:=500+N) (G:=fun n=>nF n (cJ n) v) (fun n=>rfl) ?_
  obtain⟨k,b,i,s,l,ks⟩:=v;have U:cn (.mk k b i s l ks)=1+isz i+s.length+vk l+(ks.map fun k=>1+k.length).sum:=by simp only[cn]
  have V:=o.str;have y:=o.int;have hkeys:=o.keys;have hlen:=o.len;have E:=iZ i;have F:=xP l;have d:Tot (500+N) (fun n=>bo n i) (fun t=>t.length<=20):=.of (fun n h1 h2=>og (by omega) y.1 y.2) (oe y.1 y.2)
  unfold nF
  dsimp only
  refine Tot.cond (fun _=>Tot.cond (fun _=>.one ?_) fun _=>.one ?_) fun _=>?_
  ·simp only[ja,jc]; omega
  ·simp only[ja,jc]; omega
  refine Tot.cond (fun _=>Tot.bnd d fun t g=>.one (by omega)) fun _=>?_
  refine Tot.cond (fun _=>Tot.bnd (.of (fun n h1 h2=>Hi (by omega) (by omega)) (Q:=fun t=>t.length<=4 * s.length+2) (Hf s)) fun t g=>.one (by omega)) fun _=>?_
  refine Tot.cond (fun _=>Tot.bnd d fun t g=>Tot.chk (kdt ?_) (.one ?_)) fun _=>?_
  ·unfold Vr; simp only[ja,jc]; omega
  ·simp only[jb,ja,jc]; omega
  refine Tot.cond (fun _=>Tot.bnd d fun t g=>Tot.chk (kdt ?_) (.one ?_)) fun _=>?_
  ·unfold Vr; simp only[ja,jc]; omega
  ·simp only[jb,ja,jc]; omega
  have p:∀ c:Bool,Tot (500+N) (fun n=>fR n l (cJ n) k ks c) (fun t=>t.length<=400 * cn (.mk k b i s l ks)):=by
   intro c;unfold fR;refine Tot.cond (fun _=>?_) fun _=>.one ?_
   ·refine Tot.loop (fun m st=>∃ (j:Nat) (acc:List (List UInt8)),st=(acc,((j:Nat):Int))/\j+m=l.length/\acc.length=j/\(acc.map fun x=>x.length+2).sum<=400 * vk (l.take j)) ?_ ⟨0,[],rfl,by omega,rfl,by simp⟩ (by omega:l.length<500+N)
    rintro m _ ⟨j,acc,rfl,hm,ha,C⟩;unfold nr
    dsimp only
    rw[qo,zc];refine zo.cond (fun H=>?_) fun _=>?_
    ·have A:j<l.length:=by have:=kod H; omega
     have e:=List.getElem_mem A;have I:=uZ e;have r:∀ t:List UInt8,t.length<=400 * cn l[j]+262->zo (500+N) (fun n (J:List (List UInt8)×Int->Option (List UInt8))=>fS n acc J ((j:Nat):Int) t) (fun K=>∃ D,D<m/\∃ (j:Nat) (acc:List (List UInt8)),K=(acc,((j:Nat):Int))/\j+D=l.length/\acc.length=j/\(acc.map fun x=>x.length+2).sum<=400 * vk (l.take j)) (fun t=>t.length<=400 * cn (.mk k b i s l ks)):=by
      intro t g;unfold fS;rw[zc,xW (by omega)];refine zo.chk (kdt (by simp; omega)) (.next ⟨m - 1,by omega,j+1,_,rfl,by omega,by simp[ha],?_⟩);rw[gA A,Hl];simp only[jZ,jk,jN,List.sum_append,jA,List.sum_nil];omega
     refine zo.bnd (Tot.idx (xG A) (P:=fun v=>v=l[j]) rfl) fun v B=>?_
     obtain⟨X,Y,Z,y4,y5,y6⟩:=v
     dsimp only
     rw[B];refine zo.bnd ((ih l[j] (o.child e) (by omega) (by omega)).up (jw _)) fun t g=>?_;have L:=(o.child e).big;refine zo.cond (fun z=>?_) fun _=>r t (by omega)
     have u:j<ks.length:=by
      cases h5:k==5 with
      | true=>rw[h5,zm]at z; have:=kod z; omega
      | false=>rw[h5]at z; cases z
     have M:=hkeys.2.2.1 _ (List.getElem_mem u);refine zo.bnd (Tot.idx (xG u) (P:=fun v=>v=ks[j]) rfl) fun key w=>?_
     subst w;refine zo.bnd (.of (fun n h1 h2=>oH h2 (by omega) (by omega)) (Q:=fun t=>t.length<=4 * ks[j].length+2) (oS _)) fun q hq=>?_
     refine zo.chk (kdt ?_) (zo.chk (kdt ?_) (r _ ?_))
     ·unfold Vr; simp only[ja,jc]; omega
     ·unfold Vr; simp only[jb,ja,jc]; omega
     simp only[jb,ja,jc]; omega
    have O:vk (l.take j)<=vk l:=by
     have:∀ (a c:List Val),vk a<=vk (a++c):=by
      intro a c
      induction a with
      | nil=>have:=xP c; simp only[List.nil_append,vk]; omega
      | cons v a ih=>simp only[List.cons_append,vk]; omega
     have:=this (l.take j) (l.drop j)
     rwa [List.take_append_drop]at this
    have R:=Se [44,32] rfl acc;have f:Tot (500+N) (fun n=>dy n acc ([44,32]:List UInt8)) (fun t=>t.length<=400 * vk l):=by
     unfold dy;exact Tot.chk (kdt (by omega)) (Tot.chk (kdt (by omega)) (.one (by omega)))
    refine zo.cond (fun _=>zo.bnd f fun t g=>zo.chk (kdt ?_) (zo.chk (kdt ?_) (.one ?_))) fun _=>zo.bnd f fun t g=>zo.chk (kdt ?_) (zo.chk (kdt ?_) (.one ?_))
    ·unfold Vr; simp only[ja,jc]; omega
    ·unfold Vr; simp only[jb,ja,jc]; omega
    ·simp only[jb,ja,jc]; omega
    ·unfold Vr; simp only[ja,jc]; omega
    ·unfold Vr; simp only[jb,ja,jc]; omega
    simp only[jb,ja,jc]; omega
   simp only[ja,jc]; omega
  exact Tot.cond (fun _=>p _) fun _=>p _
theorem aA {a:Val} (ha:VF a):Tot 34359738368 (fun n=>nO n a) VR:=by
 have c:=ha.big;have b:=oI 4295475200 a ha c (by decide);obtain⟨k,g,h,i,j,l⟩:=a;unfold nO gJ
 dsimp only
 refine Tot.cond (fun _=>.one fun _=>ha) fun _=>Tot.bnd (b.up (by decide)) fun t _=>?_
 refine Tot.bnd (P:=fun v=>v=Val.mk 3 false 0 t [] []) (.one rfl) fun v d=>?_
 subst d;refine Tot.bnd Sv fun r f=>?_;obtain⟨⟨m,z2,z3,z4,z5,o⟩,e⟩:=r;exact .one f
theorem qfl (n:Nat) (v:Val):∃ b,∀ m,gN m v=some b:=by
 obtain⟨k,a,c,d,e,f⟩:=v;exact⟨_,fun m=>rfl⟩
theorem qfm (n:Nat) (v:Val):∃ b,∀ m,gO m v=some b:=by
 obtain⟨k,a,c,d,e,f⟩:=v;exact⟨_,fun m=>rfl⟩
theorem qbn {l:List Val} (hl:l.length<=1048576):Tot 34359738368 (fun n=>qp n l) (fun _=>True):=by
 unfold qp;refine Tot.loop (fun m st=>∃ j:Nat,st=((j:Nat):Int)/\j+m=l.length) ?_ ⟨0,rfl,by omega⟩ (by omega:l.length<34359738368);rintro m _ ⟨j,rfl,hm⟩;unfold qB;rw[qo];refine zo.cond (fun a=>?_) fun _=>.one trivial;have c:j<l.length:=by have:=kod a; omega
 refine zo.bnd (Tot.idx (xG c) (P:=fun v=>v=l[j]) rfl) fun v e=>?_
 obtain⟨b,d⟩:=qfl 0 v;obtain⟨f,g,h,i,k,o⟩:=v;refine zo.bnd (.of (fun n _ _=>d n) (Q:=fun _=>True) trivial) fun q _=>zo.cond (fun _=>.one trivial) fun _=>?_
 rw[xW (by omega)];exact .next ⟨m - 1,by omega,j+1,rfl,by omega⟩
theorem qbo {l:List Val} (hl:l.length<=1048576):Tot 34359738368 (fun n=>qF n l) (fun r=>r<0\/∃ j:Nat,r=((j:Nat):Int)/\j<l.length):=by
 unfold qF;refine Tot.loop (fun m st=>∃ j:Nat,st=((j:Nat):Int)/\j+m=l.length) ?_ ⟨0,rfl,by omega⟩ (by omega:l.length<34359738368);rintro m _ ⟨j,rfl,hm⟩;unfold qL;rw[qo];refine zo.cond (fun c=>?_) fun _=>.one (.inl (by decide));have a:j<l.length:=by have:=kod c; omega
 refine zo.bnd (Tot.idx (xG a) (P:=fun v=>v=l[j]) rfl) fun v e=>?_
 obtain⟨b,d⟩:=qfm 0 v;obtain⟨f,g,h,i,k,o⟩:=v;refine zo.bnd (.of (fun n _ _=>d n) (Q:=fun _=>True) trivial) fun q _=>zo.cond (fun _=>.one (.inr ⟨j,rfl,a⟩)) fun _=>?_
 rw[xW (by omega)];exact .next ⟨m - 1,by omega,j+1,rfl,by omega⟩
end W
end
section
open Go Ax Go.Proofs
namespace W
def sG (n:Nat):List Int:=(List.range n).map fun i=>((i:Nat):Int)
theorem qci (names:List (List UInt8)) (m:Nat) (a:List Int) (i:Int) (h:i∈stI names m a):0<=i/\i.toNat<m+1:=by
 unfold stI at h;obtain⟨x,_,rfl⟩:=List.mem_map.1 h;have:=x.isLt;omega
theorem aB {names:List (List UInt8)} (e:names.length<=1048576) {a:List Int} (hl:a.length=names.length) (ha:∀ i∈a,0<=i/\i.toNat<names.length) :
  ∃ a',Rv names a=some a'/\a'.length=names.length/\∀ i∈a',0<=i/\i.toNat<names.length:=by
 unfold Rv;rw[vH (kdt (by omega)),vH (List.all_eq_true.2 fun i b=>by
  have:=ha i b;rw[ji];exact⟨kdt this.1,Nat.ble_eq_true_of_le this.2⟩)]
 refine⟨_,rfl,?_⟩;cases c:Nat.ble a.length 1 with
 | true=>exact⟨hl,ha⟩
 | false=>
  refine⟨by rw[qw,GQ]; exact hl,fun i b=>?_⟩;have d:¬ a.length<=1:=fun h=>by rw[Nat.ble_eq_true_of_le h]at c; cases c
  have:=qci _ _ _ _ b;omega
def Nw (names:List (List UInt8)) (vals:List Val) (a:List Int):Val:=.mk 5 false 0 [] (a.map fun i=>vals.getD i.toNat Eu) (a.map fun i=>names.getD i.toNat [])
def eV (names:List (List UInt8)) (vals:List Val):Val×Int:=
 if names.length≠vals.length then(Eu,20)
 else match Rv names (sG names.length)with
  | none=>(Eu,20)
  | some a=>bif ZV (Nw names vals a)then(Nw names vals a,0)else(Eu,20)
theorem aN {names:List (List UInt8)} {vals:List Val} (b:∀ v∈vals,VF v) {a:List Int} (hm:ZV (Nw names vals a)=true):VF (Nw names vals a):=by
 refine⟨hm,?_⟩;unfold Nw;simp only[smV];rw[Sz fun x c=>?_]
 ·decide
 obtain⟨i,_,rfl⟩:=List.mem_map.1 c;rw[List.getD_eq_getElem?_getD];cases h:vals[i.toNat]? with
 | none=>exact gC.sm
 | some v=>exact(b v (List.mem_of_getElem? h)).sm
theorem qez {names:List (List UInt8)} {vals:List Val} (b:∀ v∈vals,VF v):VR (eV names vals):=by
 unfold eV;split
 ·intro h; cases h
 split
 ·intro h; cases h
 rename_i a _;cases hm:ZV (Nw names vals a)with
 | true=>exact fun _=>aN b hm
 | false=>intro h; cases h
theorem Tv {n j:Nat} (h:j<n):(sG j++List.replicate (n - j) (0:Int)).set j (j:Int)=sG (j+1)++List.replicate (n - (j+1)) 0:=by
 have e:n - j=(n - (j+1))+1:=by omega
 rw[e,List.replicate_succ,List.set_append_right _ _ (by simp[sG])];have:j - (sG j).length=0:=by simp[sG]
 rw[this,List.set_cons_zero];simp[sG,List.range_succ]
theorem Tu (n:Nat):(sG n).length=n:=by simp[sG]
theorem lN {names:List (List UInt8)} {vals:List Val} (S:names.length<=1048576) (J:∀ v∈vals,VF v):Tot 34359738368 (fun n=>mM n names vals) (fun r=>r=eV names vals/\VR r):=by
 have key:Tot 34359738368 (fun n=>mM n names vals) (fun r=>r=eV names vals):=by
  unfold mM;rw[zc,qo];refine Tot.cond (fun G=>.one ?_) fun G=>?_
  ·have:names.length≠vals.length:=by
    intro e; rw[e]at G; simp at G
   unfold eV;rw[if_pos this]
  have hlen:names.length=vals.length:=by have:=bne_eq_false_iff_eq.1 G; omega
  obtain⟨a,D,K,L⟩:=aB S (Tu names.length) (fun i H=>by
   unfold sG at H;obtain⟨j,I,rfl⟩:=List.mem_map.1 H;have:=List.mem_range.1 I;omega)
  have A:eV names vals=bif ZV (Nw names vals a)then(Nw names vals a,0)else(Eu,20):=by
   unfold eV;rw[if_neg (by omega),D]
  refine Tot.bnd (.of (fun n _ _=>natI_nat _) (Q:=fun z=>z=names.length) rfl) fun z hz=>Tot.chk (kdt (by omega)) ?_
  subst hz;refine Tot.loop (fun m st=>∃ j:Nat,st=(((j:Nat):Int),sG j++List.replicate (names.length - j) (0:Int))/\j+m=names.length) ?_ ⟨0,rfl,by omega⟩ (by omega:names.length<34359738368);rintro m _ ⟨j,rfl,hm⟩;unfold ns
  dsimp only
  rw[Ua,List.length_replicate];refine zo.cond (fun B=>?_) fun B=>.tot ?_
  ·have I:j<names.length:=by have:=kod B; omega
   refine zo.bnd (.of (fun n _ _=>natI_nat _) (Q:=fun z=>z=j) rfl) fun z hz=>zo.chk (kdt (by omega)) ?_
   subst hz;have E:z<(sG z++List.replicate (names.length - z) (0:Int)).length:=by simp[sG]; omega
   refine zo.bnd (.of (fun n _ _=>xG E) (Q:=fun _=>True) trivial) fun _ _=>?_
   rw[Tv I,xW (by omega)];exact .next ⟨m - 1,by omega,z+1,rfl,by omega⟩
  have:j=names.length:=by have:=of_decide_eq_false B; omega
  subst this;rw[Nat.sub_self,List.replicate_zero,List.append_nil];refine Tot.bnd (.of (fun n _ _=>D) (Q:=fun z=>z=a) rfl) fun z hz=>?_
  subst hz;refine Tot.loop (fun m st=>∃ j:Nat,st=(((j:Nat):Int),(z.take j).map (fun i=>vals.getD i.toNat Eu),(z.take j).map (fun i=>names.getD i.toNat []))/\j+m=names.length) ?_ ⟨0,rfl,by omega⟩ (by omega:names.length<34359738368)
  rintro m _ ⟨j,rfl,hm⟩;unfold nt
  dsimp only
  rw[Ua,List.length_replicate];refine zo.cond (fun B=>?_) fun B=>.tot ?_
  ·have I:j<names.length:=by have:=kod B; omega
   have C:j<z.length:=by omega
   refine zo.bnd (.of (fun n _ _=>natI_nat _) (Q:=fun q=>q=j) rfl) fun q T=>zo.chk (kdt (by omega)) ?_
   subst T;refine zo.bnd (.of (fun n _ _=>xG C) (Q:=fun i=>i=z[q]) rfl) fun i H=>?_
   subst H;obtain⟨U,h1⟩:=L _ (List.getElem_mem C);obtain⟨w,hw⟩:=Int.eq_ofNat_of_zero_le U;rw[hw]at h1 ⊢;have h1:w<names.length:=by simpa using h1
   refine zo.bnd (Tot.idx (xG h1) (P:=fun x=>x=names[w]) rfl) fun x F=>?_
   subst F;rw[zc];refine zo.chk (kdt (by simp; omega)) ?_;refine zo.bnd (Tot.idx (xG (show w<vals.length by omega)) (P:=fun x=>x=vals[w]'(by omega)) rfl) fun x F=>?_
   obtain⟨o,p,s,t,u,y⟩:=x
   dsimp only
   rw[F,qo];refine zo.chk (kdt (by simp; omega)) ?_;rw[xW (by omega)];refine .next ⟨m - 1,by omega,q+1,?_,by omega⟩;rw[gA C,jZ,jZ];have e1:names.getD z[q].toNat []=names[w]:=by rw[hw]; simp[List.getD_eq_getElem?_getD,h1]
   have e2:vals.getD z[q].toNat Eu=vals[w]'(by omega):=by rw[hw]; simp[List.getD_eq_getElem?_getD,show w<vals.length by omega]
   simp only[jk,jN,e1,e2]
  have:j=names.length:=by have:=of_decide_eq_false B; omega
  subst this;rw[← K,List.take_length,A];have M:∀ x∈z.map (fun i=>vals.getD i.toNat Eu),VF x:=fun x F=>by
   obtain⟨i,_,rfl⟩:=List.mem_map.1 F;rw[List.getD_eq_getElem?_getD];cases h:vals[i.toNat]? with
   | none=>exact gC
   | some v=>exact J v (List.mem_of_getElem? h)
  have V:=Ng M;show Tot 34359738368 (fun n=>bnd (uB n (Nw names vals z)) fun b=>bif(b != (0:Int))then some (Eu,b)else bnd (vf n (Nw names vals z)) fun(x:Val)=>match x with|⟨c,d,f,g,k,l⟩=>some (Val.mk c d f g k l,(0:Int))) _
  have X:hgt (Nw names vals z)<=34359738368:=by unfold Nw; simp only[hgt,jl]; omega
  refine Tot.bnd (.of (fun n h1 h2=>Bs (by omega) h2) (Q:=fun e=>e=bif ZV (Nw names vals z)then 0 else 20) rfl) fun e he=>?_
  subst he;cases hm:ZV (Nw names vals z)with
  | false=>exact .one rfl
  | true=>
   have N:=aN J hm;refine Tot.cond (fun h=>by cases h) fun _=>?_
   refine Tot.bnd (.of (fun n h1 h2=>Bt n h2 _ (by have:=N.big; omega)) (Q:=fun v=>v=Nw names vals z) rfl) fun v O=>?_
   obtain⟨o,p,s,t,u,y⟩:=v;exact .one (by rw[O]; rfl)
 exact key.imp fun r R=>⟨R,by rw[R]; exact qez J⟩
end W
end
section
open Go Ax Go.Proofs
namespace W
theorem iI {a b:Val} (ha:VF a):Tot 34359738368 (fun n=>uc n a b) (fun t=>t=eq3 a b/\T3 t):=(eB 4295475200 a b ha.big (by decide)).up (by decide)
theorem qae (a b:Val) (ha:VF a):T3 (eq3 a b):=by
 obtain⟨r,⟨rfl,h⟩,_⟩:=iI (b:=b) ha;exact h
def Es (a b:Val):Int:=(uL 20 a b).getD 0
theorem lK {a b:Val} (ha:VF a) (c:VF b):T3 (Es a b)/\Tot 34359738368 (fun n=>uL n a b) (fun t=>t=Es a b):=by
 have h:=(eR ha c).val (by decide) 0;exact⟨h.1,.of (fun n h1 h2=>h.2 n (by omega) h2) rfl⟩
theorem ia {a b:Val} (ha:VF a) (o:VF b):Tot 34359738368 (fun n=>nL n a b) VR:=by
 have hl:=o.open_l;have e:=fun(b:Val)=>iI (b:=b) ha;obtain⟨k,B,C,D,E,F⟩:=a;obtain⟨k',c,d,f,g,i⟩:=b;unfold nL
 dsimp only
 refine Tot.cond (fun _=>.one fun _=>o) fun _=>Tot.bnd (.of (fun n _ _=>uu n _) rfl) fun b s=>?_
 subst s;refine Tot.cond (fun _=>.one fun h=>absurd h (by dsimp only; decide)) fun l=>?_
 have l:(xB (Val.mk k' c d f g i)).is_l=true:=by simpa using l
 obtain⟨G,H⟩:=hl l;refine Tot.loop (fun m st=>∃ (j:Nat) (t:Int),st=(t,((j:Nat):Int))/\j+m=(xB (Val.mk k' c d f g i)).get_l.length/\T3 t) (m0:=(xB (Val.mk k' c d f g i)).get_l.length) ?_ ⟨0,0,rfl,by simp,.inl rfl⟩ (by omega);rintro m _ ⟨j,t,rfl,hm,p⟩;unfold ma
 dsimp only
 rw[qo];refine zo.cond (fun w=>?_) fun _=>?_
 ·have x:j<(xB (Val.mk k' c d f g i)).get_l.length:=by have:=kod w; omega
  refine zo.bnd (Tot.idx (xG x) (P:=fun _=>True) trivial) fun v _=>?_
  obtain⟨y,z2,z3,z4,z5,z⟩:=v;refine zo.bnd (e _) fun r q=>zo.bnd (.of (fun n _ _=>qeh n p q.2) (Q:=T3) (qf2 p q.2)) fun u hu=>?_
  rw[xW (by omega)];exact .next ⟨m - 1,by omega,j+1,u,rfl,by omega,hu⟩
 refine zo.bnd (.of (fun n _ _=>rm n t) (Q:=VF) (dS t)) fun v A=>?_
 obtain⟨y,z2,z3,z4,z5,z⟩:=v;exact .one fun _=>A
noncomputable def ej (op:List UInt8) (a b:Val):Option (Val×Int):=
 if op=[65,78,68]then some (gh MM a b)
 else if op=[79,82]then some (gh or3 a b)
 else if op=[88,79,82]then some (gh qa1 a b)
 else if op=[61]then some (gB (eq3 a b),0)
 else if op=[60,62]then some (gB (LQ (eq3 a b)),0)
 else if op=[60]then some (gB (Es a b),0)
 else if op=[62]then some (gB (Es b a),0)
 else if op=[60,61]then some (gB (LQ (Es b a)),0)
 else if op=[62,61]then some (gB (LQ (Es a b)),0)
 else none
theorem zh {N:Nat} {F:Nat->Option (Val×Int)} {Q:Val×Int->Prop} (h:Tot N F Q):Tot N (fun n=>bnd (F n) fun(x:Val×Int)=>match x with|(⟨a,z2,z3,z4,z5,b⟩,e)=>some (Val.mk a z2 z3 z4 z5 b,e)) Q:=
 Tot.bnd h fun r c=>by obtain⟨⟨a,z2,z3,z4,z5,b⟩,e⟩:=r; exact .one c
theorem UU {N:Nat} {F:Nat->Option Int} {t:Int} (h:Tot N F (fun x=>x=t)):Tot N (fun n=>bnd (F n) fun x=>bnd (zL n x) fun(v:Val)=>match v with|⟨a,z2,z3,z4,z5,b⟩=>some (Val.mk a z2 z3 z4 z5 b,(0:Int))) (fun r=>r=(gB t,0)):=
 Tot.bnd h fun x c=>Tot.bnd (.of (fun n _ _=>rm n x) (Q:=fun v=>v=gB t) (by rw[c])) fun v d=>by subst d; generalize gB t=u; obtain⟨a,z2,z3,z4,z5,b⟩:=u; exact .one rfl
theorem GR {N:Nat} {F:Nat->Option Int} {t:Int} (h3:T3 t) (h:Tot N F (fun x=>x=t)):Tot N (fun n=>bnd (F n) fun x=>bnd (vW n x) fun y=>bnd (zL n y) fun(v:Val)=>match v with|⟨z1,z2,z3,z4,z5,z6⟩=>some (Val.mk z1 z2 z3 z4 z5 z6,(0:Int))) (fun r=>r=(gB (LQ t),0)):=
 Tot.bnd h fun x a=>UU (.of (fun n _ _=>by rw[a]; exact lU n h3) rfl)
theorem RM {a b:Val} (ha:VF a) (f:VF b) (op:List UInt8):Tot 34359738368 (fun n=>sa n op a b) (fun r=>VR r/\∀ x,ej op a b=some x->r=x):=by
 have g:=lK ha f;have i:=lK f ha;have j:=iI (b:=b) ha;have l:=qae a b ha;have m:=ia ha f;have o:=oq ha f;have h1:=Sl 34359738368 ha f;have h2:=od 34359738368 ha f;have h3:=oa 34359738368 ha f;have h4:=oc 34359738368 ha f;have t1:=fun n=>qcp n a b
 have t2:=fun n=>qev n a b
 have t3:=fun n=>qcr n a b
 have v1:=Da MM a b;have v2:=Da or3 a b;have v3:=Da qa1 a b;unfold ej;obtain⟨k,p,q,s,t,u⟩:=a;obtain⟨k',v,w,y,z,A⟩:=b;unfold sa
 dsimp only
 refine Tot.cond (fun c=>?_) fun c=>?_
 ·rw[if_pos (eq_of_beq c)]
  exact(zh (.of (fun n _ _=>t1 n) rfl)).imp fun r d=>by subst d; exact⟨v1,fun x e=>Option.some.inj e⟩
 rw[if_neg (ne_of_beq_false c)];refine Tot.cond (fun c=>?_) fun c=>?_
 ·rw[if_pos (eq_of_beq c)]
  exact(zh (.of (fun n _ _=>t2 n) rfl)).imp fun r d=>by subst d; exact⟨v2,fun x e=>Option.some.inj e⟩
 rw[if_neg (ne_of_beq_false c)];refine Tot.cond (fun c=>?_) fun c=>?_
 ·rw[if_pos (eq_of_beq c)]
  exact(zh (.of (fun n _ _=>t3 n) rfl)).imp fun r d=>by subst d; exact⟨v3,fun x e=>Option.some.inj e⟩
 rw[if_neg (ne_of_beq_false c)];refine Tot.cond (fun c=>?_) fun c=>?_
 ·rw[if_pos (eq_of_beq c)]
  exact(UU (j.imp fun _ h=>h.1)).imp fun r d=>by subst d; exact⟨fun _=>dS _,fun x e=>Option.some.inj e⟩
 rw[if_neg (ne_of_beq_false c)];refine Tot.cond (fun c=>?_) fun c=>?_
 ·rw[if_pos (eq_of_beq c)]
  exact(GR l (j.imp fun _ h=>h.1)).imp fun r d=>by subst d; exact⟨fun _=>dS _,fun x e=>Option.some.inj e⟩
 rw[if_neg (ne_of_beq_false c)];refine Tot.cond (fun c=>?_) fun c=>?_
 ·rw[if_pos (eq_of_beq c)]
  exact(UU g.2).imp fun r d=>by subst d; exact⟨fun _=>dS _,fun x e=>Option.some.inj e⟩
 rw[if_neg (ne_of_beq_false c)];refine Tot.cond (fun c=>?_) fun c=>?_
 ·rw[if_pos (eq_of_beq c)]
  exact(UU i.2).imp fun r d=>by subst d; exact⟨fun _=>dS _,fun x e=>Option.some.inj e⟩
 rw[if_neg (ne_of_beq_false c)];refine Tot.cond (fun c=>?_) fun c=>?_
 ·rw[if_pos (eq_of_beq c)]
  exact(GR i.1 i.2).imp fun r d=>by subst d; exact⟨fun _=>dS _,fun x e=>Option.some.inj e⟩
 rw[if_neg (ne_of_beq_false c)];refine Tot.cond (fun c=>?_) fun c=>?_
 ·rw[if_pos (eq_of_beq c)]
  exact(GR g.1 g.2).imp fun r d=>by subst d; exact⟨fun _=>dS _,fun x e=>Option.some.inj e⟩
 rw[if_neg (ne_of_beq_false c)];refine Tot.cond (fun _=>(zh m).imp fun r d=>⟨d,fun x e=>by cases e⟩) fun _=>?_
 refine Tot.cond (fun _=>(zh o).imp fun r d=>⟨d,fun x e=>by cases e⟩) fun _=>?_
 refine Tot.cond (fun _=>(zh h1).imp fun r d=>⟨d,fun x e=>by cases e⟩) fun _=>?_
 refine Tot.cond (fun _=>(zh h2).imp fun r d=>⟨d,fun x e=>by cases e⟩) fun _=>?_
 refine Tot.cond (fun _=>(zh h3).imp fun r d=>⟨d,fun x e=>by cases e⟩) fun _=>?_
 exact(zh h4).imp fun r d=>⟨d,fun x e=>by cases e⟩
theorem eh {a:Val} (ha:VF a):Tot 34359738368 (fun n=>uv n a) VR:=by
 have h:=eX 34359738368 ha ha;obtain⟨k,b,c,d,e,f⟩:=a;unfold uv;exact zh h
theorem ek {p:xa} (hp:PlOk p) {l:List Val} (hl:l.length<=1048576) (c:∀ v∈l,VF v) (name:List UInt8):Tot 34359738368 (fun n=>xh n p name l) VR:=by
 have q:=fun{v:Val} (h:VF v)=>lv hp h;have he:=SY hp;obtain⟨⟨names,vals⟩,⟨nodes,edges⟩,⟨k,b,i,s,y,ks⟩⟩:=p;have a:∀ {j:Nat} {K:Nat->Val->Option (Val×Int)},j<l.length->(∀ v,VF v->Tot 34359738368 (fun n=>K n v) VR)->Tot 34359738368 (fun n=>bnd (idx l ((j:Nat):Int)) (K n)) VR:=fun o t=>
  Tot.bnd (Tot.idx (xG o) (P:=VF) (c _ (List.getElem_mem o))) t
 unfold xh
 dsimp only
 rw[qo];refine Tot.bnd (P:=fun _=>True) ?_ fun u _=>?_
 ·unfold qn
  exact Tot.bnd (qbn hl) fun _ _=>.one trivial
 refine Tot.cond (fun d=>?_) fun _=>?_
 ·have f:0<l.length:=by
   cases h:name==([99,111,97,108,101,115,99,101]:List UInt8)with
   | true=>rw[h,zm]at d; have:=kod d; omega
   | false=>rw[h]at d; cases d
  refine Tot.bnd (qbo hl) fun r x=>?_;have o:∃ j:Nat,(bif decide ((0:Int)>r)then(0:Int)else r)=((j:Nat):Int)/\j<l.length:=by
   rcases x with h|⟨j,rfl,o⟩
   ·exact⟨0,by rw[kdt (show(0:Int)>r from h)]; rfl,f⟩
   exact⟨j,by rw[kdf (by omega)]; rfl,o⟩
  obtain⟨j,e,o⟩:=o;rw[e];exact a o fun v c=>by obtain⟨g,z2,z3,z4,z5,m⟩:=v; exact .one fun _=>c
 refine Tot.cond (fun d=>Tot.cond (fun _=>.one fun _=>gC) fun _=>?_) fun _=>?_
 ·have f:l.length=2:=by
   cases h:name==([114,97,110,103,101]:List UInt8)with
   | true=>rw[h,zm]at d; have:=eq_of_beq d; omega
   | false=>rw[h]at d; cases d
  refine a (j:=0) (by omega) fun v c=>?_;obtain⟨g,z2,z3,z4,z5,m⟩:=v;refine a (j:=1) (by omega) fun w hw=>?_;obtain⟨z,A,B,C,D,E⟩:=w;exact zh (oK c hw)
 refine Tot.cond (fun _=>.one fun h=>absurd h (by dsimp only; decide)) fun d=>?_
 have f:0<l.length:=by have:=bne_eq_false_iff_eq.1 d; omega
 refine Tot.cond (fun _=>Tot.cond (fun _=>.one fun _=>gC) fun _=>a (j:=0) f fun v c=>?_) fun _=>?_
 ·obtain⟨g,z2,z3,z4,z5,m⟩:=v
  exact zh (au c)
 refine Tot.cond (fun _=>Tot.cond (fun _=>.one fun _=>gC) fun _=>a (j:=0) f fun v c=>?_) fun _=>?_
 ·obtain⟨g,z2,z3,z4,z5,m⟩:=v
  exact zh (eh c)
 refine Tot.cond (fun _=>Tot.cond (fun _=>.one fun _=>gC) fun _=>a (j:=0) f fun v c=>?_) fun _=>?_
 ·obtain⟨g,z2,z3,z4,z5,m⟩:=v
  exact zh (q c)
 refine Tot.cond (fun _=>Tot.cond (fun _=>.one fun _=>gC) fun _=>a (j:=0) f fun v c=>?_) fun _=>?_
 ·obtain⟨g,z2,z3,z4,z5,m⟩:=v
  exact zh (by unfold gP; exact zh (he _ _))
 refine Tot.cond (fun _=>Tot.cond (fun _=>.one fun _=>gC) fun _=>a (j:=0) f fun v c=>?_) fun _=>?_
 ·obtain⟨g,z2,z3,z4,z5,m⟩:=v
  exact zh (by unfold gQ; exact zh (he _ _))
 refine Tot.cond (fun _=>Tot.cond (fun _=>.one fun _=>gC) fun _=>a (j:=0) f fun v c=>?_) fun _=>?_
 ·obtain⟨g,z2,z3,z4,z5,m⟩:=v
  exact zh (by unfold uw; exact zh (iF c _))
 refine Tot.cond (fun _=>Tot.cond (fun _=>.one fun _=>gC) fun _=>a (j:=0) f fun v c=>?_) fun _=>?_
 ·obtain⟨g,z2,z3,z4,z5,m⟩:=v
  exact zh (by unfold ux; exact zh (iF c _))
 refine Tot.cond (fun _=>Tot.cond (fun _=>.one fun _=>gC) fun _=>a (j:=0) f fun v c=>?_) fun _=>?_
 ·obtain⟨g,z2,z3,z4,z5,m⟩:=v
  exact zh (aA c)
 exact .one fun h=>absurd h (by dsimp only; decide)
end W
end
section
open Go Ax Go.Proofs
namespace W
inductive EvOk:qa->Prop where
 | mk {op:Int} {name:List UInt8} {val:Val} {names:List (List UInt8)} {args:List qa} (h1:op=1->VF val) (h2:op=4\/op=8\/op=9\/op=11\/op=12\/op=15->1<=args.length)
   (h3:op=7\/op=10->2<=args.length) (h4:∀ x∈args,EvOk x) (h5:op=2->NB name=true):EvOk (.mk op name val names args)
def VL (r:List Val×Int):Prop:=r.2=0->(∀ v∈r.1,VF v)
theorem qeb {p:xa} (hp:PlOk p) {l:List Val} (hl:l.length<=1048576) (e:∀ v∈l,VF v) {op:Int} {name:List UInt8} (h1:op=11\/op=12->1<=l.length) (h2:op=10->2<=l.length) (c:Bool) (q:c=true->op=11\/op=12) :
  Tot 34359738368 (fun n=>xQ n l op name p.env.names p.env.vals p.g.nodes p.g.edges p.params.1 p.params.2 p.params.3 p.params.4 p.params.5 p.params.6 c) VR:=by
 have a:=ek hp hl e name;obtain⟨⟨names,vals⟩,⟨nodes,edges⟩,⟨k,b,i,s,u,ks⟩⟩:=p;have d:∀ {j:Nat} {K:Nat->Val->Option (Val×Int)},j<l.length->(∀ v,VF v->Tot 34359738368 (fun n=>K n v) VR)->Tot 34359738368 (fun n=>bnd (idx l ((j:Nat):Int)) (K n)) VR:=fun f r=>
  Tot.bnd (Tot.idx (xG f) (P:=VF) (e _ (List.getElem_mem f))) r
 unfold xQ;refine Tot.cond (fun h=>?_) fun _=>Tot.cond (fun h=>?_) fun _=>?_
 ·refine d (j:=0) (by have:=h1 (q h); omega) fun v e=>?_
  obtain⟨m,z2,z3,z4,z5,o⟩:=v;refine Tot.bnd (.of (fun n _ _=>oh n _) (Q:=fun _=>True) trivial) fun t _=>Tot.bnd (.of (fun n _ _=>rm n t) (Q:=VF) (dS t)) fun w hw=>?_
  obtain⟨m,z2,z3,z4,z5,o⟩:=w;exact .one fun _=>hw
 ·have:=h2 (eq_of_beq h)
  refine d (j:=0) (by omega) fun v e=>?_;obtain⟨m,z2,z3,z4,z5,o⟩:=v;refine d (j:=1) (by omega) fun w hw=>?_;obtain⟨x,y,z,A,B,C⟩:=w;exact zh ((RM e hw name).imp fun _ h=>h.1)
 exact zh a
theorem qea {p:xa} (hp:PlOk p) {l:List Val} (hl:l.length<=1048576) (c:∀ v∈l,VF v) {op:Int} {name:List UInt8} {kn:List (List UInt8)} (x:kn.length<=1048576)
  (h1:op=4\/op=8\/op=9\/op=11\/op=12\/op=15->1<=l.length) (h2:op=7\/op=10->2<=l.length) :
  Tot 34359738368 (fun n=>qY n op l kn p.env.names p.env.vals p.g.nodes p.g.edges p.params.1 p.params.2 p.params.3 p.params.4 p.params.5 p.params.6 name ()) VR:=by
 have o:=qeb hp hl c (op:=op) (name:=name) (fun h=>h1 (by omega)) (fun h=>h2 (.inr h))
 have hprop:=fun{v:Val} (h:VF v)=>ot hp h name;have q:=fun v=>qbm hp v name
 obtain⟨⟨names,vals⟩,⟨nodes,edges⟩,⟨k,b,i,s,A,ks⟩⟩:=p;have a:∀ {j:Nat} {K:Nat->Val->Option (Val×Int)},j<l.length->(∀ v,VF v->Tot 34359738368 (fun n=>K n v) VR)->Tot 34359738368 (fun n=>bnd (idx l ((j:Nat):Int)) (K n)) VR:=fun y z=>
  Tot.bnd (Tot.idx (xG y) (P:=VF) (c _ (List.getElem_mem y))) z
 unfold qY;refine Tot.cond (fun _=>?_) fun _=>?_
 ·unfold uU
  refine Tot.bnd (P:=fun v=>v=Val.mk 4 false 0 [] l []) (.one rfl) fun v d=>?_
  subst d;exact zh ((BS c hl).imp fun _ h=>h.2)
 refine Tot.cond (fun _=>?_) fun _=>?_
 ·refine Tot.bnd (lN x c) fun r u=>?_
  have u:=u.2;obtain⟨⟨f,z2,z3,z4,z5,m⟩,e⟩:=r;refine Tot.cond (fun _=>.one fun h=>absurd h (by dsimp only; decide)) fun he=>?_
  unfold gR;have:e=0:=by simpa using he
  subst this;exact .one u
 refine Tot.cond (fun h=>?_) fun _=>?_
 ·refine a (j:=0) (by have:=h1 (.inl (eq_of_beq h)); omega) fun v c=>?_
  obtain⟨f,z2,z3,z4,z5,m⟩:=v;exact zh (hprop c)
 refine Tot.cond (fun h=>?_) fun _=>?_
 ·refine a (j:=0) (by have:=h1 (by have:=eq_of_beq h; omega); omega) fun v c=>?_
  obtain⟨f,z2,z3,z4,z5,m⟩:=v;exact zh (q _)
 refine Tot.cond (fun h=>?_) fun _=>?_
 ·have:=h2 (.inl (eq_of_beq h))
  refine a (j:=0) (by omega) fun v c=>?_;obtain⟨f,z2,z3,z4,z5,m⟩:=v;refine a (j:=1) (by omega) fun w hw=>?_;obtain⟨B,C,D,E,F,G⟩:=w;exact zh (qdo c hw)
 refine Tot.cond (fun h=>?_) fun _=>?_
 ·unfold zB
  refine Tot.bnd (P:=fun v=>v=Val.mk 2 false 0 [] [] []) (.one rfl) fun v d=>?_
  subst d;refine a (j:=0) (by have:=h1 (by have:=eq_of_beq h; omega); omega) fun v c=>?_;obtain⟨f,z2,z3,z4,z5,m⟩:=v;exact zh (Sl _ (Qx (by decide)) c)
 refine Tot.cond (fun h=>?_) fun _=>?_
 ·refine a (j:=0) (by have:=h1 (by have:=eq_of_beq h; omega); omega) fun v c=>?_
  obtain⟨f,z2,z3,z4,z5,m⟩:=v;refine Tot.bnd (.of (fun n _ _=>tl n _) (Q:=fun r=>T3 r.1) (dR _)) fun r u=>?_
  obtain⟨t,e⟩:=r;refine Tot.bnd (.of (fun n _ _=>lU n u) (Q:=fun _=>True) trivial) fun t _=>Tot.bnd (.of (fun n _ _=>rm n t) (Q:=VF) (dS t)) fun w hw=>?_
  obtain⟨f,z2,z3,z4,z5,m⟩:=w;exact .one fun _=>hw
 refine Tot.cond (fun h=>?_) fun _=>?_
 ·exact o _ fun h=>.inl (eq_of_beq h)
 exact o _ fun h=>.inr (eq_of_beq h)
theorem eD {p:xa} (hp:PlOk p):∀ (N:Nat),N<=1048576->(∀ x:qa,EvOk x->cQ x<=N->Tot (34359738368+2 * N) (fun n=>qu n p x) VR) /\
  (∀ l:List qa,(∀ x∈l,EvOk x)->cM l<=N->Tot (34359738368+2 * N+1) (fun n=>qW n p l) (fun r=>VL r/\(r.2=0->r.1.length=l.length))):=by
 intro N
 induction N with
 | zero=>
  intro _;refine⟨fun x _ h=>?_,fun l _ h=>?_⟩
  ·obtain⟨op,name,val,names,args⟩:=x; simp only[cQ]at h; omega
  have:=dA l; omega
 | succ N ih=>
  intro O;obtain⟨u,w⟩:=ih (by omega);refine⟨fun x y E=>?_,fun l hl E=>?_⟩
  ·refine Tot.succ (N:=34359738368+2 * N+1) (G:=fun n=>zK n (qu n) (qW n) p x) (fun n=>rfl) ?_
   cases y with
   | @mk op name val nms args h1 h2 h3 h4 h5=>
   have F:cQ (.mk op name val nms args)=1+name.length+cn val+pb nms+cM args:=by simp only[cQ]
   have H:=dA args;have I:=gb nms;have hargs:=w args h4 (by have:=Vg val; omega);have z:=fun{l:List Val} (hl:l.length=args.length) (o:∀ v∈l,VF v)=>qea hp (l:=l) (by omega) o (op:=op) (name:=name) (kn:=nms) (by omega) (fun h=>by rw[hl]; exact h2 h) (fun h=>by rw[hl]; exact h3 h)
   have q:=BB p.env.names name hp.bnd;have a:=hp.par;have g:=hp.par5;have hvals:=hp.vals;obtain⟨⟨names,vals⟩,⟨nodes,edges⟩,⟨k,b,i,s,J,ks⟩⟩:=p;obtain⟨v1,v2,v3,v4,v5,v6⟩:=val;unfold zK
   dsimp only
   refine Tot.cond (fun h=>.one fun _=>h1 (eq_of_beq h)) fun _=>Tot.cond (fun h=>?_) fun _=>Tot.cond (fun h=>?_) fun _=>Tot.cond (fun _=>.one fun h=>absurd h (by dsimp only; decide)) fun _=>?_
   ·refine Tot.bnd (q.up (by omega)) fun r _=>?_
    rw[qo];refine Tot.cond (fun _=>.one fun h=>absurd h (by dsimp only; decide)) fun c=>?_
    have d:0<=r/\r<((vals.length:Nat):Int):=by
     cases h1:decide (r<0)with
     | true=>rw[h1]at c; cases c
     | false=>
      rw[h1,qw]at c;have:=of_decide_eq_false h1;have:=of_decide_eq_false c;omega
    obtain⟨j,rfl⟩:=Int.eq_ofNat_of_zero_le d.1;have t:j<vals.length:=by omega
    unfold uy;refine Tot.bnd (Tot.idx (xG t) (P:=VF) (hvals _ (List.getElem_mem t))) fun v o=>?_;obtain⟨B,z2,z3,z4,z5,C⟩:=v;exact .one fun _=>o
   ·refine Tot.bnd (.of (fun n h1 h2=>EI h2 a g (by omega) _) rfl) fun r d=>?_
    have D:=aL a name;rw[d]at D;obtain⟨⟨B,z2,z3,z4,z5,C⟩,e⟩:=r;unfold uz;exact Tot.cond (fun _=>.one fun h=>absurd h (by dsimp only; decide)) fun _=>.one fun _=>D
   refine Tot.bnd (hargs.up (by omega)) fun r d=>?_;obtain⟨l,e⟩:=r;refine Tot.cond (fun he=>.one fun h=>?_) fun he=>?_
   ·have h:e=0:=h
    subst h;cases he
   ·have:e=0:=by simpa using he
    subst this;exact(z (d.2 rfl) (d.1 rfl)).up (by omega)
  refine Tot.succ (N:=34359738368+2 * N+2) (G:=fun n=>gU n (qu n) (qW n) p l) (fun n=>rfl) ?_
  obtain⟨⟨names,vals⟩,⟨nodes,edges⟩,⟨k,b,i,s,J,ks⟩⟩:=p;unfold gU
  dsimp only
  have K:=dA l;refine Tot.loop (fun m st=>∃ (j:Nat) (acc:List Val),st=(acc,((j:Nat):Int))/\j+m=l.length/\acc.length=j/\∀ v∈acc,VF v) ?_ ⟨0,[],rfl,by omega,rfl,fun v h=>by cases h⟩ (by omega:l.length<34359738368+2 * N+2)
  rintro m _ ⟨j,acc,rfl,hm,ha,o⟩;unfold xA
  dsimp only
  rw[zM];refine zo.cond (fun c=>?_) fun c=>.one ⟨fun _=>o,fun _=>?_⟩
  ·have t:j<l.length:=by have:=kod c; omega
   have f:=List.getElem_mem t;have L:=cN f;refine zo.bnd (Tot.idx (xG t) (P:=fun x=>x=l[j]) rfl) fun x y=>?_
   obtain⟨Q,R,⟨S,T,U,V,X,Y⟩,Z,M⟩:=x
   dsimp only
   rw[y];refine zo.bnd ((u l[j] (hl _ f) (by omega)).up (by omega)) fun r d=>?_;obtain⟨⟨B,z2,z3,z4,z5,C⟩,e⟩:=r;refine zo.cond (fun he=>.one ⟨fun h=>?_,fun h=>?_⟩) fun he=>?_
   ·have h:e=0:=h
    subst h;cases he
   ·have h:e=0:=h
    subst h;cases he
   ·have:e=0:=by simpa using he
    subst this;rw[qo];refine zo.chk (kdt (by simp; omega)) ?_;rw[xW (by omega)];refine .next ⟨m - 1,by omega,j+1,_,rfl,by omega,by simp[ha],fun v A=>?_⟩;rcases jy.1 A with h|h
    ·exact o v h
    rw[jz.1 h]; exact d rfl
  have:j=l.length:=by have:=of_decide_eq_false c; omega
  rw[ha,this]
end W
end
section
open Go Ax Go.Proofs
namespace W
mutual
theorem qau:∀ v:Val,cn v<=1048576->smV v=true
 | .mk k b i s l ks,h=>by
  simp only[cn]at h;have h1:=ax l (by omega);have h2:=qd9 (i:=i) (by omega);have hi:okI i=true:=kdt h2;have hs:s.length<=1048576:=by omega
  simp only[smV,h1,hi,kdt hs];rfl
theorem ax:∀ l:List Val,vk l<=1048576->smL l=true
 | [],_=>rfl
 | v::l,h=>by
  simp only[vk]at h;simp only[smL,qau v (by omega),ax l (by omega)];rfl
end
theorem aO {v:Val} (h:cn v<=1048576) (hm:ZV v=true):VF v:=⟨hm,qau v h⟩
structure NmOk (op:Int) (name:List UInt8) (val:Val) (args:List qa):Prop where
 val:op=1->ZV val=true
 var:op=2->NB name=true
 one:op=4\/op=8\/op=9\/op=11\/op=12\/op=15->1<=args.length
 two:op=7\/op=10->2<=args.length
theorem ES {a:Nat} {k:Nat} {x:Bool} (h:(bif(((a:Nat):Int)==((k:Nat):Int))then x else false)=true):a=k/\x=true:=by
 cases h1:(((a:Nat):Int)==((k:Nat):Int))with
 | true=>rw[h1]at h; have:=eq_of_beq h1; exact⟨by omega,h⟩
 | false=>rw[h1]at h; cases h
theorem lJ {a:Nat} {k:Nat} {x:Bool} (h:(bif x then(((a:Nat):Int)==((k:Nat):Int))else false)=true):a=k:=by
 cases x with
 | true=>have:=eq_of_beq h; omega
 | false=>cases h
section
variable {op:Int} {name:List UInt8} {val:Val} {names:List (List UInt8)} {args:List qa}
theorem qbr (g:name.length<=1048576) (c:Bool) (i:c=true->op=8\/op=9\/op=11\/op=12) (j:op≠1/\op≠2/\op≠4/\op≠7/\op≠15) (d:c=false->op≠8/\op≠9/\op≠11/\op≠12) :
  Tot 34359738368 (fun n=>uG n name args op c) (fun b=>b=true->NmOk op name val args):=by
 unfold uG;rw[zM];refine Tot.cond (fun h=>.one fun g=>?_) fun l=>?_
 ·have hl:=lJ (k:=1) g
  have:=i h;exact⟨fun e=>by omega,fun e=>by omega,fun _=>by omega,fun e=>by omega⟩
 have m:=d l;refine Tot.cond (fun h=>?_) fun f=>?_
 ·have h:=eq_of_beq h
  refine Tot.bnd (P:=fun _=>True) ((Tot.gs (P:=fun _=>True) fun _=>.of (r:=(rO 0 name).getD 0) (fun n _ _=>by
   unfold rO vo du fI;simp only[MV];rfl) trivial).imp fun _ _=>trivial) fun x _=>.one fun g=>?_
  have hl:=(ES (k:=2) g).1;exact⟨fun e=>by omega,fun e=>by omega,fun e=>by omega,fun _=>by omega⟩
 have f:op≠10:=by simpa using f
 have a:NmOk op name val args:=⟨fun e=>by omega,fun e=>by omega,fun e=>by omega,fun e=>by omega⟩
 refine Tot.cond (fun h=>?_) fun _=>Tot.cond (fun h=>?_) fun _=>.one fun h=>by cases h
 ·refine Tot.bnd (P:=fun _=>True) (.of (fun n h1 h2=>Vv (by omega) (by omega) h2) trivial) fun x _=>?_
  refine Tot.bnd (P:=fun _=>True) ((Tot.gs (P:=fun _=>True) fun _=>.of (fun n _ _=>rfl) trivial).imp fun _ _=>trivial) fun y _=>.one fun _=>a
 refine Tot.bnd (P:=fun _=>True) ((Tot.gs (P:=fun _=>True) fun _=>.of (fun n _ _=>rfl) trivial).imp fun _ _=>trivial) fun y _=>.one fun _=>a
theorem qbq (o:cQ (.mk op name val names args)<=1048576) (c:Bool) (w:c=true->op=2\/op=3) (h1:op≠1) (p:c=false->op≠2/\op≠3) :
  Tot 34359738368 (fun n=>fJ n args name op names c) (fun b=>b=true->NmOk op name val args):=by
 have y:cQ (.mk op name val names args)=1+name.length+cn val+pb names+cM args:=by simp only[cQ]
 have z:=gb names;have q:Tot 34359738368 (fun n=>vR n name) (fun b=>b=NB name):=.of (fun n h1 h2=>Vv (by omega) (by omega) h2) rfl
 have f:∀ g:Bool,Tot 34359738368 (fun n=>qE g (gu n name)) (fun _=>True):=fun g=>(Tot.gs (P:=fun _=>True) fun _=>.of (fun n _ _=>rfl) trivial).imp fun _ _=>trivial
 unfold fJ;rw[zM];refine Tot.cond (fun h=>?_) fun r=>?_
 ·have:=w h
  refine Tot.bnd (Tot.gs fun _=>q) fun b o=>.one fun he=>?_
  obtain⟨A,e2⟩:=ES (k:=0) he;rw[A]at o;exact⟨fun e=>by omega,fun _=>by rw[← o rfl]; exact e2,fun e=>by omega,fun e=>by omega⟩
 have r:=p r;refine Tot.cond (fun h=>Tot.bnd (f _) fun b _=>.one fun he=>?_) fun h4=>?_
 ·have h:=eq_of_beq h
  have:=(ES (k:=1) he).1;exact⟨fun e=>by omega,fun e=>by omega,fun _=>by omega,fun e=>by omega⟩
 have h4:op≠4:=by simpa using h4
 refine Tot.cond (fun h=>Tot.bnd (f _) fun b _=>?_) fun l=>?_
 ·have h:=eq_of_beq h
  refine Tot.bnd (P:=fun _=>True) ((Tot.gs (P:=fun _=>True) fun s=>?_).imp fun _ _=>trivial) fun x _=>?_
  ·have:=(ES (k:=1) s).1
   exact Tot.idx (i:=0) (xG (show 0<args.length by omega)) trivial
  obtain⟨H,I,⟨J,K,L,M,N,O⟩,Q,B⟩:=x;refine .one fun he=>?_;have s:(bif(((args.length:Nat):Int)==(1:Int))then b else false)=true:=by
   cases C:(bif(((args.length:Nat):Int)==(1:Int))then b else false)with
   | true=>rfl
   | false=>rw[C]at he; cases he
  have:=(ES (k:=1) s).1;exact⟨fun e=>by omega,fun e=>by omega,fun _=>by omega,fun e=>by omega⟩
 have l:op≠15:=by simpa using l
 refine Tot.cond (fun h=>.one fun _=>?_) fun h5=>?_
 ·have h:=eq_of_beq h
  exact⟨fun e=>by omega,fun e=>by omega,fun e=>by omega,fun e=>by omega⟩
 have h5:op≠5:=by simpa using h5
 refine Tot.cond (fun h=>?_) fun v=>?_
 ·have h:=eq_of_beq h
  refine Tot.loop (fun m st=>∃ j:Nat,st=((j:Nat):Int)/\j+m=names.length) ?_ ⟨0,rfl,by omega⟩ (by omega:names.length<34359738368);rintro m _ ⟨j,rfl,hm⟩;unfold nf;rw[zc,zM];refine zo.cond (fun D=>?_) fun _=>.one fun _=>⟨fun e=>by omega,fun e=>by omega,fun e=>by omega,fun e=>by omega⟩
  have E:j<names.length:=by have:=kod D; omega
  refine zo.bnd (Tot.idx (xG E) (P:=fun _=>True) trivial) fun x _=>zo.bnd (P:=fun _=>True) (.of (fun n _ _=>rfl) trivial) fun b _=>zo.cond (fun _=>.one fun h=>by cases h) fun _=>?_
  rw[xW (by omega)];exact .next ⟨m - 1,by omega,j+1,rfl,by omega⟩
 have v:op≠6:=by simpa using v
 refine Tot.cond (fun h=>.one fun he=>?_) fun t=>?_
 ·have h:=eq_of_beq h
  have:=lJ (k:=2) he;exact⟨fun e=>by omega,fun e=>by omega,fun e=>by omega,fun _=>by omega⟩
 have t:op≠7:=by simpa using t
 have hname:name.length<=1048576:=by omega
 have d:=fun c h a=>qbr (val:=val) hname c h ⟨h1,r.1,h4,t,l⟩ a (args:=args) (op:=op)
 refine Tot.cond (fun h=>d _ (fun h=>.inl (eq_of_beq h)) fun a=>by rw[h]at a; cases a) fun F=>?_
 refine Tot.cond (fun h=>d _ (fun h=>.inr (.inl (eq_of_beq h))) fun a=>by rw[h]at a; cases a) fun G=>?_
 refine Tot.cond (fun h=>d _ (fun h=>.inr (.inr (.inl (eq_of_beq h)))) fun a=>by rw[h]at a; cases a) fun u=>?_
 exact d _ (fun h=>.inr (.inr (.inr (eq_of_beq h)))) fun a=>⟨by simpa using F,by simpa using G,by simpa using u,by simpa using a⟩
theorem lP (f:cQ (.mk op name val names args)<=1048576):Tot 34359738368 (fun n=>rR n (.mk op name val names args)) (fun b=>b=true->NmOk op name val args):=by
 have i:cQ (.mk op name val names args)=1+name.length+cn val+pb names+cM args:=by simp only[cQ]
 have a:=qbq (op:=op) (name:=name) (val:=val) (names:=names) (args:=args) f;have c:Tot 34359738368 (fun n=>gm n val) (fun b=>b=ZV val):=.of (fun n h1 h2=>Rr (by omega) h2) rfl
 obtain⟨v1,v2,v3,v4,v5,v6⟩:=val;unfold rR
 dsimp only
 rw[zM];refine Tot.cond (fun h=>Tot.bnd (Tot.gs fun _=>c) fun b f=>.one fun he=>?_) fun h1=>?_
 ·have h:=eq_of_beq h
  cases g:(bif(name==([]:List UInt8))then(((args.length:Nat):Int)==(0:Int))else false)with
  | false=>rw[g]at he; cases he
  | true=>
   rw[g,zm]at he;cases b with
   | false=>cases he
   | true=>exact⟨fun _=>(f g).symm,fun e=>by omega,fun e=>by omega,fun e=>by omega⟩
 have h1:op≠1:=by simpa using h1
 refine Tot.cond (fun h=>a _ (fun h=>.inl (eq_of_beq h)) h1 fun d=>by rw[h]at d; cases d) fun h2=>?_
 exact a _ (fun h=>.inr (eq_of_beq h)) h1 fun d=>⟨by simpa using h2,by simpa using d⟩
end
theorem XV:∀ (N:Nat),N<=1048576->∀ (x:qa) (d:Int),cQ x<=N->Tot (34359738368+N) (fun n=>gk n x d) (fun b=>b=true->EvOk x):=by
 intro N
 induction N with
 | zero=>intro _ x d h; obtain⟨op,name,val,names,args⟩:=x; simp only[cQ]at h; omega
 | succ N ih=>
  intro L x d z;refine Tot.succ (N:=34359738368+N) (G:=fun n=>rH n (gk n) x d) (fun n=>rfl) ?_
  obtain⟨op,name,val,names,args⟩:=x;have B:cQ (.mk op name val names args)=1+name.length+cn val+pb names+cM args:=by simp only[cQ]
  have C:=dA args;have r:=lP (op:=op) (name:=name) (val:=val) (names:=names) (args:=args) (by omega);have hsame:Tot (34359738368+N) (fun n=>xp n val (Val.mk 0 false 0 [] [] [])) (fun _=>True):=by
   obtain⟨q,h1,h2⟩:=(LW (34359738368+N) (by omega)).1 val (Val.mk 0 false 0 [] [] []) (by omega);refine⟨q,trivial,fun n D s=>?_⟩;obtain⟨E,t,F⟩:=(LW n s).1 val (Val.mk 0 false 0 [] [] []) (by omega);show xp n _ _=some q;rw[t];congr 1;cases q<;>cases E<;>simp_all
  have k:=aO (v:=val) (by omega);obtain⟨v1,v2,v3,v4,v5,v6⟩:=val;unfold rH
  dsimp only
  refine Tot.bnd (Tot.gs fun _=>r.up (by omega)) fun f u=>Tot.bnd (P:=fun _=>True) ((Tot.gs (P:=fun _=>True) fun _=>hsame).imp fun _ _=>trivial) fun H _=>?_
  refine Tot.cond (fun _=>.one fun h=>by cases h) fun o=>?_
  have c:f=true/\(!decide (d<1))=true:=by
   cases g:decide (d<1)with
   | true=>rw[g]at o; cases o
   | false=>
    cases l:f with
    | true=>exact⟨rfl,rfl⟩
    | false=>rw[g,l]at o; cases o
  have a:=u c.2 c.1;refine Tot.loop (fun m st=>∃ j:Nat,st=((j:Nat):Int)/\j+m=args.length/\∀ (i:Nat) (h:i<args.length),i<j->EvOk args[i]) ?_ ⟨0,rfl,by omega,fun i h p=>by omega⟩ (by omega:args.length<34359738368+N)
  rintro m _ ⟨j,rfl,hm,A⟩;unfold pJ;rw[zM];refine zo.cond (fun g=>?_) fun g=>.one fun _=>?_
  ·have w:j<args.length:=by have:=kod g; omega
   have I:=cN (List.getElem_mem w);refine zo.bnd (Tot.idx (xG w) (P:=fun x=>x=args[j]) rfl) fun x l=>?_
   obtain⟨M,O,⟨Q,R,S,T,U,V⟩,X,J⟩:=x
   dsimp only
   rw[l];refine zo.bnd (ih (by omega) args[j] _ (by omega)) fun b z=>zo.cond (fun _=>.one fun h=>by cases h) fun y=>?_
   rw[xW (by omega)];refine .next ⟨m - 1,by omega,j+1,rfl,by omega,fun i p K=>?_⟩;by_cases e:i<j
   ·exact A i p e
   obtain rfl:i=j:=by omega
   exact z (by simpa using y)
  have w:j=args.length:=by have:=of_decide_eq_false g; omega
  exact .mk (fun h=>k (a.val h)) a.one a.two (fun x l=>by
   obtain⟨i,p,rfl⟩:=List.mem_iff_getElem.1 l;exact A i p (by omega)) a.var
end W
end
section
open Go Ax Go.Proofs
namespace W
theorem Hb {v:Val} (a:cn v<=1048576):Tot 34359738368 (fun n=>fo n v) (fun _=>True):=by
 have:∀ (N:Nat) (v:Val),cn v<=N->N<=1048576->Tot (34359738368 - 1048576+N) (fun n=>fo n v) (fun _=>True):=by
  intro N
  induction N with
  | zero=>intro v h; have:=Vg v; omega
  | succ N ih=>
   intro v o p;refine Tot.succ (N:=34359738368 - 1048576+N) (G:=fun n=>nE n (fo n) v) (fun n=>rfl) ?_
   obtain⟨k,b,i,s,l,ks⟩:=v;have a:cn (.mk k b i s l ks)=1+isz i+s.length+vk l+(ks.map fun k=>1+k.length).sum:=by simp only[cn]
   have d:=xP l;unfold nE
   dsimp only
   refine Tot.cond (fun _=>.one trivial) fun _=>?_;refine Tot.loop (fun m st=>∃ j:Nat,st=((j:Nat):Int)/\j+m=l.length) ?_ ⟨0,rfl,by omega⟩ (by omega:l.length<34359738368 - 1048576+N);rintro m _ ⟨j,rfl,hm⟩;unfold na;rw[qo];refine zo.cond (fun e=>?_) fun _=>.one trivial;have c:j<l.length:=by have:=kod e; omega
   have f:=uZ (List.getElem_mem c);refine zo.bnd (Tot.idx (xG c) (P:=fun x=>x=l[j]) rfl) fun x g=>?_
   obtain⟨q,r,t,u,w,y⟩:=x
   dsimp only
   rw[g];refine zo.bnd (ih l[j] (by omega) (by omega)) fun b _=>zo.cond (fun _=>.one trivial) fun _=>?_
   rw[xW (by omega)];exact .next ⟨m - 1,by omega,j+1,rfl,by omega⟩
 exact(this 1048576 v a (by decide)).up (by decide)
theorem Cl {v:Val} (a:cn v<=1048576):Tot 34359738368 (fun n=>gm n v) (fun b=>b=ZV v):=.of (fun n h1 h2=>Rr (by omega) h2) rfl
theorem BR {l:List (List UInt8)} (hl:l.length<=1048576):Tot 34359738368 (fun n=>bk n l) (fun _=>True):=by
 unfold bk;refine Tot.loop (fun m st=>∃ j:Nat,st=((j:Nat):Int)/\j+m=l.length) ?_ ⟨0,rfl,by omega⟩ (by omega:l.length<34359738368);rintro m _ ⟨j,rfl,hm⟩;unfold bX;rw[zc];refine zo.cond (fun c=>?_) fun _=>.one trivial;have a:j<l.length:=by have:=kod c; omega
 refine zo.bnd (Tot.idx (xG a) (P:=fun _=>True) trivial) fun x _=>zo.bnd (P:=fun _=>True) (.of (fun n _ _=>rfl) trivial) fun b _=>?_
 refine zo.bnd (P:=fun _=>True) ((Tot.gs (P:=fun _=>True) fun _=>Tot.idx (xG a) trivial).imp fun _ _=>trivial) fun y _=>?_
 refine zo.bnd (P:=fun _=>True) ((Tot.gs (P:=fun _=>True) fun d=>?_).imp fun _ _=>trivial) fun z _=>?_
 ·simp only[ji,kde]at d
  obtain⟨i,rfl⟩:∃ i,j=i+1:=⟨j - 1,by omega⟩;rw[RC (by omega)];exact Tot.idx (xG (show i<l.length by omega)) trivial
 refine zo.cond (fun _=>.one trivial) fun _=>?_;rw[xW (by omega)];exact .next ⟨m - 1,by omega,j+1,rfl,by omega⟩
theorem NF {v:Val} (a:cn v<=1048576):Tot 34359738368 (fun n=>dw n v) (fun b=>b=true->VF v):=by
 have h1:=Cl a;have h2:=Hb a;have h3:=aO a;obtain⟨k,b,i,s,l,ks⟩:=v;unfold dw
 dsimp only
 refine Tot.bnd (Tot.gs fun _=>h1) fun x d=>Tot.bnd (P:=fun _=>True) ((Tot.gs fun _=>h2).imp fun _ _=>trivial) fun y _=>.one fun he=>h3 ?_
 cases c:k != 0 with
 | false=>rw[c]at he; cases he
 | true=>
  rw[c]at he;cases x with
  | false=>cases he
  | true=>exact(d c).symm
theorem Hc {ks:List (List UInt8)} {vs:List Val} (h1:ks.length<=1048576) (h2:vk vs<=1048576):Tot 34359738368 (fun n=>mJ n ks vs) (fun b=>b=true->ks.length=vs.length/\∀ v∈vs,VF v):=by
 have l:=xP vs;unfold mJ;refine Tot.loop (fun m st=>∃ j:Nat,st=((j:Nat):Int)/\j+m=vs.length/\∀ (i:Nat) (h:i<vs.length),i<j->VF vs[i]) ?_ ⟨0,rfl,by omega,fun i h a=>by omega⟩ (by omega:vs.length<34359738368)
 rintro m _ ⟨j,rfl,hm,g⟩;unfold nh;rw[qo,zc];refine zo.cond (fun c=>?_) fun c=>?_
 ·have d:j<vs.length:=by have:=kod c; omega
  have o:=uZ (List.getElem_mem d);refine zo.bnd (Tot.idx (xG d) (P:=fun x=>x=vs[j]) rfl) fun x p=>?_
  obtain⟨t,u,w,y,z,A⟩:=x
  dsimp only
  rw[p];refine zo.bnd (NF (by omega)) fun b q=>zo.cond (fun _=>.one fun h=>by cases h) fun f=>?_
  rw[xW (by omega)];refine .next ⟨m - 1,by omega,j+1,rfl,by omega,fun i a r=>?_⟩;by_cases e:i<j
  ·exact g i a e
  obtain rfl:i=j:=by omega
  exact q (by simpa using f)
 have d:j=vs.length:=by have:=of_decide_eq_false c; omega
 refine zo.bnd (P:=fun _=>True) ((Tot.gs fun _=>BR h1).imp fun _ _=>trivial) fun x _=>.one fun he=>?_
 have:=ES (k:=vs.length) he;refine⟨this.1,fun v s=>?_⟩;obtain⟨i,a,rfl⟩:=List.mem_iff_getElem.1 s;exact g i a (by omega)
theorem lS {d:Node} (c:Zm d<=1048576):Tot 34359738368 (fun n=>bV n d) (fun b=>b=true->d.keys.length=d.vals.length/\∀ v∈d.vals,VF v):=by
 obtain⟨id,labels,keys,vals⟩:=d;have c:1+pb labels+pb keys+vk vals<=1048576:=c;have h1:=gb labels;have h2:=gb keys;unfold bV
 dsimp only
 refine Tot.bnd (P:=fun _=>True) ((Tot.gs fun _=>BR (by omega)).imp fun _ _=>trivial) fun x _=>Tot.bnd (Tot.gs fun _=>Hc (ks:=keys) (vs:=vals) (by omega) (by omega)) fun y e=>.one fun he=>?_
 cases a:(bif(decide (id≥(1:Int)))then x else false)with
 | false=>rw[a]at he; cases he
 | true=>rw[a]at he; exact e a he
theorem iD {d:Edge} (c:Zl d<=1048576):Tot 34359738368 (fun n=>bU n d) (fun b=>b=true->d.keys.length=d.vals.length/\∀ v∈d.vals,VF v):=by
 obtain⟨id,f,to,ty,keys,vals⟩:=d;have c:1+ty.length+pb keys+vk vals<=1048576:=c;have h2:=gb keys;unfold bU
 dsimp only
 refine Tot.bnd (P:=fun _=>True) ((Tot.gs (P:=fun _=>True) fun _=>.of (fun n _ _=>rfl) trivial).imp fun _ _=>trivial) fun x _=>Tot.bnd (Tot.gs fun _=>Hc (ks:=keys) (vs:=vals) (by omega) (by omega)) fun y e=>.one fun he=>?_
 cases a:(bif(decide (id≥(1:Int)))then x else false)with
 | false=>rw[a]at he; cases he
 | true=>rw[a]at he; exact e a he
theorem EV {l:List Node} (hl:l.length<=1048576) (es:List Edge) (id:Int):Tot 34359738368 (fun n=>bj n ⟨l,es⟩ id) (fun _=>True):=by
 unfold bj
 dsimp only
 refine Tot.loop (fun m st=>∃ j:Nat,st=((j:Nat):Int)/\j+m=l.length) ?_ ⟨0,rfl,by omega⟩ (by omega:l.length<34359738368);rintro m _ ⟨j,rfl,hm⟩;unfold bW;rw[show(Node.rows l).length=l.length by simp[Node.rows]];refine zo.cond (fun a=>?_) fun _=>.one trivial;have b:j<l.length:=by have:=kod a; omega
 refine zo.bnd (Tot.idx (xG b) (P:=fun _=>True) trivial) fun x _=>?_
 obtain⟨c,d,e,f⟩:=x;refine zo.cond (fun _=>.one trivial) fun _=>?_;rw[xW (by omega)];exact .next ⟨m - 1,by omega,j+1,rfl,by omega⟩
theorem SD {A:Type} {key:A->Int} {l:List A} {k:Nat} (d:k<l.length) (h:UpI key (l.take k)) (h2:∀ j:0<k,key l[k - 1]<key l[k]):UpI key (l.take (k+1)):=by
 rw[gA d];refine List.pairwise_append.2 ⟨h,List.pairwise_singleton _ _,fun a ha b f=>?_⟩;rw[jz.1 f];obtain⟨i,c,rfl⟩:=List.mem_iff_getElem.1 ha;have g:i<k:=by have:=List.length_take_le k l; rw[jt]at c; omega
 rw[List.getElem_take];have h2:=h2 (by omega);by_cases e:i=k - 1
 ·subst e; exact h2
 have hp:=List.pairwise_iff_getElem.1 h i (k - 1) c (by rw[jt]; omega) (by omega);rw[List.getElem_take,List.getElem_take]at hp;omega
theorem iT {nodes:List Node} {edges:List Edge} (D:Bz ⟨nodes,edges⟩<=1048576):Tot 34359738368 (fun n=>Xm n ⟨nodes,edges⟩) (fun b=>b=true->UpI Node.id nodes/\UpI Edge.id edges/\(∀ d∈nodes,d.keys.length=d.vals.length/\∀ v∈d.vals,VF v)/\∀ d∈edges,d.keys.length=d.vals.length/\∀ v∈d.vals,VF v):=by
 obtain⟨y,z⟩:=qgd (g:=⟨nodes,edges⟩);have y:nodes.length<=Bz ⟨nodes,edges⟩:=y;have z:edges.length<=Bz ⟨nodes,edges⟩:=z;have G:∀ d∈nodes,Zm d<=Bz ⟨nodes,edges⟩:=fun d k=>RZ (g:=⟨nodes,edges⟩) k
 have H:∀ d∈edges,Zl d<=Bz ⟨nodes,edges⟩:=fun d k=>Nc (g:=⟨nodes,edges⟩) k
 unfold Xm
 dsimp only
 refine Tot.loop (fun m st=>∃ j:Nat,st=((j:Nat):Int)/\j+m=nodes.length/\UpI Node.id (nodes.take j)/\∀ (i:Nat) (h:i<nodes.length),i<j->nodes[i].keys.length=nodes[i].vals.length/\∀ v∈nodes[i].vals,VF v) ?_ ⟨0,rfl,by omega,.nil,fun i h l=>by omega⟩ (by omega:nodes.length<34359738368)
 rintro m _ ⟨j,rfl,hm,I,N⟩;unfold tc;rw[show(Node.rows nodes).length=nodes.length by simp[Node.rows]];refine zo.cond (fun k=>?_) fun k=>.tot ?_
 ·have r:j<nodes.length:=by have:=kod k; omega
  have p:=List.getElem_mem r;refine zo.bnd (Tot.idx (xG r) (P:=fun x=>x=nodes[j]) rfl) fun x E=>?_
  obtain⟨a,c,f,o⟩:=x
  dsimp only
  rw[E];refine zo.bnd (lS (by have:=G _ p; omega)) fun b D=>?_;refine zo.bnd (Tot.gs (P:=fun x=>x=nodes[j]) fun _=>Tot.idx (xG r) rfl) fun x A=>?_
  obtain⟨Q,Y,Z,w4⟩:=x
  dsimp only
  refine zo.bnd (Tot.gs (P:=fun x=>∀ B:0<j,x=nodes[j - 1]) fun J=>?_) fun x q=>?_
  ·simp only[ji,kde]at J
   obtain⟨i,rfl⟩:∃ i,j=i+1:=⟨j - 1,by omega⟩;rw[RC (by omega)];exact Tot.idx (xG (show i<nodes.length by omega)) fun _=>rfl
  obtain⟨F,R,S,T⟩:=x
  dsimp only
  refine zo.cond (fun _=>.one fun h=>by cases h) fun s=>?_
  rw[xW (by omega)];have t:b=true:=by cases b with
   | true=>rfl
   | false=>cases s
  subst t;refine .next ⟨m - 1,by omega,j+1,rfl,by omega,SD r I fun B=>?_,fun i l K=>?_⟩
  ·have u:decide (((j:Nat):Int)>0)=true:=kdt (by omega)
   rw[u]at s A q;have e1:=A rfl;have e2:=q rfl B;rw[← e1,← e2];have:=of_decide_eq_false s;show F<Q;omega
  by_cases e:i<j
  ·exact N i l e
  obtain rfl:i=j:=by omega
  exact D rfl
 have L:j=nodes.length:=by have:=of_decide_eq_false k; omega
 subst L;rw[List.take_length]at I;have U:∀ d∈nodes,d.keys.length=d.vals.length/\∀ v∈d.vals,VF v:=fun d k=>by
  obtain⟨i,l,rfl⟩:=List.mem_iff_getElem.1 k;exact N i l l
 refine Tot.loop (fun m st=>∃ j:Nat,st=((j:Nat):Int)/\j+m=edges.length/\UpI Edge.id (edges.take j)/\∀ (i:Nat) (h:i<edges.length),i<j->edges[i].keys.length=edges[i].vals.length/\∀ v∈edges[i].vals,VF v) ?_ ⟨0,rfl,by omega,.nil,fun i h l=>by omega⟩ (by omega:edges.length<34359738368)
 rintro m _ ⟨j,rfl,hm,w,C⟩;unfold td;rw[show(Edge.rows edges).length=edges.length by simp[Edge.rows]];refine zo.cond (fun k=>?_) fun k=>.one fun _=>?_
 ·have r:j<edges.length:=by have:=kod k; omega
  have p:=List.getElem_mem r;refine zo.bnd (Tot.idx (xG r) (P:=fun x=>x=edges[j]) rfl) fun x E=>?_
  obtain⟨a,c,f,o,y5,y6⟩:=x
  dsimp only
  rw[E];refine zo.bnd (iD (by have:=H _ p; omega)) fun b D=>?_;refine zo.bnd (Tot.gs (P:=fun x=>∀ B:0<j,x=edges[j - 1]) fun J=>?_) fun x q=>?_
  ·simp only[ji,kde]at J
   obtain⟨i,rfl⟩:∃ i,j=i+1:=⟨j - 1,by omega⟩;rw[RC (by omega)];exact Tot.idx (xG (show i<edges.length by omega)) fun _=>rfl
  obtain⟨F,R,S,T,u5,u6⟩:=x
  dsimp only
  refine zo.bnd (P:=fun _=>True) ((Tot.gs fun _=>EV (by omega) _ _).imp fun _ _=>trivial) fun V _=>zo.bnd (P:=fun _=>True) ((Tot.gs fun _=>EV (by omega) _ _).imp fun _ _=>trivial) fun X _=>?_
  refine zo.cond (fun _=>.one fun h=>by cases h) fun s=>?_
  rw[xW (by omega)];have t:b=true:=by cases b with
   | true=>rfl
   | false=>cases s
  subst t;refine .next ⟨m - 1,by omega,j+1,rfl,by omega,SD r w fun B=>?_,fun i l K=>?_⟩
  ·have u:decide (((j:Nat):Int)>0)=true:=kdt (by omega)
   rw[u]at s q;have e2:=q rfl B;rw[← E,← e2];show F<a;cases O:decide (a<=F)with
   | true=>rw[O]at s; cases s
   | false=>have:=of_decide_eq_false O; omega
  ·by_cases e:i<j
   ·exact C i l e
   obtain rfl:i=j:=by omega
   exact D rfl
 have M:j=edges.length:=by have:=of_decide_eq_false k; omega
 subst M;rw[List.take_length]at w;exact⟨I,w,U,fun d k=>by
  obtain⟨i,l,rfl⟩:=List.mem_iff_getElem.1 k;exact C i l l⟩
end W
end
section
open Go Ax Go.Proofs
namespace W
theorem eQ {nodes:List Node} {edges:List Edge} (C:nodes.length<=1048576) (D:edges.length<=1048576):Tot 34359738368 (fun n=>Qg n ⟨nodes,edges⟩) (fun b=>b=true->(∀ d∈nodes,d.labels.length<=1000/\d.keys.length<=1000)/\∀ d∈edges,d.keys.length<=1000):=by
 unfold Qg
 dsimp only
 refine Tot.loop (fun m st=>∃ j:Nat,st=((j:Nat):Int)/\j+m=nodes.length/\∀ (i:Nat) (h:i<nodes.length),i<j->nodes[i].labels.length<=1000/\nodes[i].keys.length<=1000) ?_ ⟨0,rfl,by omega,fun i h a=>by omega⟩ (by omega:nodes.length<34359738368)
 rintro m _ ⟨j,rfl,hm,z⟩;unfold pM;rw[show(Node.rows nodes).length=nodes.length by simp[Node.rows]];refine zo.cond (fun g=>?_) fun g=>.tot ?_
 ·have s:j<nodes.length:=by have:=kod g; omega
  refine zo.bnd (Tot.idx (xG s) (P:=fun x=>x=nodes[j]) rfl) fun x t=>?_
  obtain⟨f,c,k,o⟩:=x
  dsimp only
  rw[zc];refine zo.bnd (Tot.gs (P:=fun x=>x=nodes[j]) fun _=>Tot.idx (xG s) rfl) fun x q=>?_
  obtain⟨E,F,A,G⟩:=x
  dsimp only
  rw[zc];refine zo.cond (fun _=>.one fun h=>by cases h) fun l=>?_
  rw[xW (by omega)];cases h1:decide (((c.length:Nat):Int)>1000)with
  | true=>rw[h1]at l; cases l
  | false=>
   rw[h1,qw]at l;rw[h1]at q;have e1:=q rfl;have a1:=of_decide_eq_false h1;have a2:=of_decide_eq_false l;refine .next ⟨m - 1,by omega,j+1,rfl,by omega,fun i a u=>?_⟩;by_cases e:i<j
   ·exact z i a e
   obtain rfl:i=j:=by omega
   refine⟨?_,?_⟩
   ·rw[← t]; show c.length<=1000; omega
   rw[← e1]; show A.length<=1000; omega
 have v:j=nodes.length:=by have:=of_decide_eq_false g; omega
 subst v;have w:∀ d∈nodes,d.labels.length<=1000/\d.keys.length<=1000:=fun d g=>by
  obtain⟨i,a,rfl⟩:=List.mem_iff_getElem.1 g;exact z i a a
 refine Tot.loop (fun m st=>∃ j:Nat,st=((j:Nat):Int)/\j+m=edges.length/\∀ (i:Nat) (h:i<edges.length),i<j->edges[i].keys.length<=1000) ?_ ⟨0,rfl,by omega,fun i h a=>by omega⟩ (by omega:edges.length<34359738368)
 rintro m _ ⟨j,rfl,hm,r⟩;unfold pQ;rw[show(Edge.rows edges).length=edges.length by simp[Edge.rows]];refine zo.cond (fun g=>?_) fun g=>.one fun _=>⟨w,fun d y=>?_⟩
 ·have s:j<edges.length:=by have:=kod g; omega
  refine zo.bnd (Tot.idx (xG s) (P:=fun x=>x=edges[j]) rfl) fun x t=>?_
  obtain⟨f,c,k,o,p,H⟩:=x
  dsimp only
  rw[zc];refine zo.cond (fun _=>.one fun h=>by cases h) fun l=>?_
  rw[xW (by omega)];have a1:=of_decide_eq_false l;refine .next ⟨m - 1,by omega,j+1,rfl,by omega,fun i a u=>?_⟩;by_cases e:i<j
  ·exact r i a e
  obtain rfl:i=j:=by omega
  rw[← t]; show p.length<=1000; omega
 have B:j=edges.length:=by have:=of_decide_eq_false g; omega
 obtain⟨i,a,rfl⟩:=List.mem_iff_getElem.1 y;exact r i a (by omega)
theorem Tm {names:List (List UInt8)} {vals:List Val} (g:vk vals<=1048576):Tot 34359738368 (fun n=>nK n ⟨names,vals⟩) (fun b=>b=true->names.length=vals.length/\∀ v∈vals,VF v):=by
 have l:=xP vals;unfold nK
 dsimp only
 refine Tot.loop (fun m st=>∃ j:Nat,st=((j:Nat):Int)/\j+m=vals.length/\∀ (i:Nat) (h:i<vals.length),i<j->VF vals[i]) ?_ ⟨0,rfl,by omega,fun i h a=>by omega⟩ (by omega:vals.length<34359738368)
 rintro m _ ⟨j,rfl,hm,k⟩;unfold bY;rw[qo,zc];refine zo.cond (fun c=>?_) fun c=>.one fun he=>?_
 ·have d:j<vals.length:=by have:=kod c; omega
  have o:=uZ (List.getElem_mem d);refine zo.bnd (Tot.idx (xG d) (P:=fun x=>x=vals[j]) rfl) fun x p=>?_
  obtain⟨s,t,u,w,y,z⟩:=x
  dsimp only
  rw[p];refine zo.bnd (Cl (by omega)) fun b q=>zo.cond (fun _=>.one fun h=>by cases h) fun f=>?_
  rw[xW (by omega)];refine .next ⟨m - 1,by omega,j+1,rfl,by omega,fun i a r=>?_⟩;by_cases e:i<j
  ·exact k i a e
  obtain rfl:i=j:=by omega
  refine aO (by omega) ?_;rw[← q]; simpa using f
 have d:j=vals.length:=by have:=of_decide_eq_false c; omega
 have:=eq_of_beq he;refine⟨by omega,fun v g=>?_⟩;obtain⟨i,a,rfl⟩:=List.mem_iff_getElem.1 g;exact k i a (by omega)
theorem UK {v:Val} (c:cn v<=1048576):Tot 34359738368 (fun n=>uS n v) (fun b=>b=true->VF v/\kd v=5):=by
 have h1:=Cl c;have h2:=Hb c;have h3:=aO c;obtain⟨k,b,i,s,l,ks⟩:=v;unfold uS
 dsimp only
 refine Tot.bnd (Tot.gs fun _=>h1) fun x d=>Tot.bnd (P:=fun _=>True) ((Tot.gs fun _=>h2).imp fun _ _=>trivial) fun y _=>.one fun he=>?_
 cases a:k==5 with
 | false=>rw[a]at he; cases he
 | true=>
  rw[a]at he;cases x with
  | false=>cases he
  | true=>exact⟨h3 (d a).symm,eq_of_beq a⟩
theorem Cm {s:List UInt8}:∀ {l:List (List UInt8)},s∈l->s.length<=pb l
 | x::l,h=>by
  have e:pb (x::l)=1+x.length+pb l:=by simp[pb]
  rcases jg.1 h with rfl|h
  ·omega
  have:=Cm h; omega
def XB (a:vK):Nat:=pb a.v.names+vk a.v.vals+Bz a.g+cn a.params
theorem Uz {a:vK} (u:XB a<=1048576):Tot 34359738368 (fun n=>ud n a) (fun b=>b=true->PlOk ⟨a.v,a.g,a.params⟩):=by
 obtain⟨⟨names,vals⟩,⟨nodes,edges⟩,⟨k,b,i,s,l,ks⟩⟩:=a;have u:pb names+vk vals+Bz ⟨nodes,edges⟩+cn (.mk k b i s l ks)<=1048576:=u;obtain⟨p,q⟩:=qgd (g:=⟨nodes,edges⟩);have p:nodes.length<=Bz ⟨nodes,edges⟩:=p;have q:edges.length<=Bz ⟨nodes,edges⟩:=q;have r:∀ d∈nodes,Zm d<=Bz ⟨nodes,edges⟩:=fun d m=>RZ (g:=⟨nodes,edges⟩) m
 have t:∀ d∈edges,Zl d<=Bz ⟨nodes,edges⟩:=fun d m=>Nc (g:=⟨nodes,edges⟩) m
 have x:=gb names;unfold ud
 dsimp only
 refine Tot.bnd (Tm (names:=names) (vals:=vals) (by omega)) fun c h1=>Tot.bnd (Tot.gs fun _=>iT (by omega)) fun e h2=>Tot.bnd (Tot.gs fun _=>eQ (nodes:=nodes) (edges:=edges) (by omega) (by omega)) fun f h3=>Tot.bnd (Tot.gs fun _=>UK (by omega)) fun j h4=>.one fun he=>?_
 cases c with
 | false=>cases he
 | true=>
  cases e with
  | false=>cases he
  | true=>
   cases f with
   | false=>cases he
   | true=>
    cases j with
    | false=>cases he
    | true=>
     obtain⟨y,e2⟩:=h1 rfl;obtain⟨g1,g2,g3,g4⟩:=h2 rfl rfl;obtain⟨w,z⟩:=h3 rfl rfl;obtain⟨A,B⟩:=h4 rfl rfl;refine⟨y,by show names.length<=1048576; omega,e2,⟨g1,g2,by show nodes.length<=1048576; omega,by show edges.length<=1048576; omega,fun d m=>?_,fun d m=>?_⟩,A,B⟩
     ·have C:=r d m
      have D:Zm d=1+pb d.labels+pb d.keys+vk d.vals:=rfl;refine⟨by omega,(w d m).1,(w d m).2,(g3 d m).1,fun s o=>?_,fun s o=>?_,(g3 d m).2⟩
      ·have:=Cm o; omega
      have:=Cm o; omega
     have C:=t d m;have D:Zl d=1+d.type_.length+pb d.keys+vk d.vals:=rfl;refine⟨by omega,⟨by simp,z d m,(g4 d m).1,(fun s h=>by cases h),fun s o=>?_,(g4 d m).2⟩,by omega⟩
     have:=Cm o; omega
theorem XY {n:Nat} (c:n<=1099511627776) (d:34359738368<=n) {l:List qa} (e:cM l<=1048570):∃ b,ct n l=some b:=by
 unfold ct;obtain⟨b,a⟩:=lD c (cl:=[qv.mk (0:Int) ([]:List xN) l (qa.mk (0:Int) ([]:List UInt8) (Val.mk (0:Int) false (0:Int) ([]:List UInt8) ([]:List Val) ([]:List (List UInt8))) ([]:List (List UInt8)) ([]:List qa)) ([]:List UInt8) ([]:List xq) false ([]:List zw) ([]:List qa) ([]:List qa) ([]:List qq) ([]:List (List UInt8)) false]) (by
  have he:cQ (qa.mk (0:Int) ([]:List UInt8) (Val.mk (0:Int) false (0:Int) ([]:List UInt8) ([]:List Val) ([]:List (List UInt8))) ([]:List (List UInt8)) ([]:List qa))<=100:=by decide
  simp only[iw,jk,jN,jA,List.sum_nil,Pc,qe7,cM,pb,jc];omega)
 exact⟨b,by rw[a,zl]⟩
end W
end
section
open Go Ax
namespace W
theorem Uy (a:vK):XB a+4<=ic a:=by
 unfold XB ic oV;omega
end W
end
