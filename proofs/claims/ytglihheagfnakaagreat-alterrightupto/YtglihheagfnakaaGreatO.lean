/- A part of the proof: the plain law. -/
import Derived.Test.YtglihheagfnakaaGreatRows
import Derived.Shelf.Vars
import Derived.Deep.DeepHandedRow
import Derived.ChangeMaps5
import Derived.LaidLaws
import Derived.OpenShut
import Derived.Lib.RuneCount
import Derived.Test.YtglihheagfnakaaGreatB
import Derived.Test.YtglihheagfnakaaGreatD
import Derived.Test.YtglihheagfnakaaGreatE
import Derived.Test.YtglihheagfnakaaGreatF
import Derived.Test.YtglihheagfnakaaGreatG
import Derived.Test.YtglihheagfnakaaGreatI
import Derived.Test.YtglihheagfnakaaGreatK
import Derived.Test.YtglihheagfnakaaGreatN
set_option linter.unusedVariables false
set_option linter.unusedSimpArgs false
set_option linter.unnecessarySimpa false
set_option linter.deprecated false
set_option linter.unusedSectionVars false
set_option linter.constructorNameAsVariable false
open Go.IntKind renaming wrap->kwr,bits->kbt
open List renaming length_cons->ja,length_append->jb,length_nil->jc,getElem?_cons_zero->jd,getElem?_cons_succ->je,getElem?_eq_getElem->jf,mem_cons->jg,map_cons->jk,length_map->jl,drop_eq_getElem_cons->jn,append_assoc->js,length_take->jt,all_cons->jv,mem_append->jy,mem_singleton->jz,sum_cons->jA,getElem?_eq_some_iff->jG,eq_nil_of_length_eq_zero->jI,length_drop->jM,map_nil->jN,map_append->jZ
open Bool renaming and_eq_true->ji,not_false->jo,not_true->jp,or_eq_true->jO,true_eq_false->jQ,or_eq_false_iff->jY
open Nat renaming exists_eq_succ_of_ne_zero->jj,le_refl->jw,lt_irrefl->jR,zero_le->jS
open BitVec renaming ofInt->jr
open UInt8 renaming toNat_inj->jT
open Option renaming getD_some->jV
section
open Go Ax
namespace W
def RU (_:Nat) (i:Int):Option (List UInt8):=some [([48,49,50,51,52,53,54,55,56,57,97,98,99,100,101,102]:List UInt8).getD (i.toNat / 16) 0,([48,49,50,51,52,53,54,55,56,57,97,98,99,100,101,102]:List UInt8).getD (i.toNat % 16) 0]
theorem iT {m b:Nat} (h:m<=1099511627776) (a:b<=128):decide (m * b<=140737488355328)=true:=by
 refine kdt ?_
 calc m * b<=1099511627776 * 128:=Nat.mul_le_mul h a
  _<=140737488355328:=by decide
open Go Ax
section
variable {A R S T:Type}
@[simp] theorem qZ (a:A) (k:A->Option R):bnd (some a) k=k a:=rfl
@[simp] theorem qc3 (k:Option R):chk true k=k:=rfl
theorem gq {b:Bool} {k:Option R} (h:b=true):chk b k=k:=by subst h; rfl
theorem UW {p:Prop} [Decidable p] {k:Option R} (h:p):chk (decide p) k=k:=gq (kdt h)
@[simp] theorem fP [Inhabited A] (o:Option A):qz true o=o:=rfl
@[simp] theorem Ea [Inhabited A] (o:Option A):qz false o=some default:=rfl
theorem xr (B:(S->Option R)->S->Option R) (n:Nat) (s:S):qy B (n+1) s=B (qy B n) s:=rfl
theorem zu {l:List A} {i:Nat} {x:A} (h:l[i]? =some x):idx l (i:Int)=some x:=by
 unfold idx;rw[if_pos (Int.natCast_nonneg i)];simpa using h
@[simp] theorem Nv (x:A) (l:List A):idx (x::l) (0:Int)=some x:=rfl
@[simp] theorem qff (x y:A) (l:List A):idx (x::y::l) (1:Int)=some y:=rfl
@[simp] theorem natI_nat (n:Nat):pY (n:Int)=some n:=by
 unfold pY;rw[if_pos (Int.natCast_nonneg n)];simp
theorem zM {k:Nat} (h:k<=1152921504606846976):kwr .i64 ((k:Int)+1)=((k+1:Nat):Int):=by
 rw[lF _ (by omega) (by omega)]; omega
theorem MI {i:Int} (a:-1152921504606846976<=i) (h1:i<=1152921504606846976):kwr .i64 i=i:=lF _ (by omega) (by omega)
theorem CA {B:(S->Option R)->S->Option R} (st:Nat->S) (m:Nat) {r:Option R} (c:∀ k,k<m->∀ a,B a (st k)=a (st (k+1))) (he:∀ a,B a (st m)=r) {n:Nat} (hn:m<n):qy B n (st 0)=r:=by
 have key:∀(d k n:Nat),k+d=m->d<n->qy B n (st k)=r:=by
  intro d
  induction d with
  | zero=>
   intro k n hk hn;obtain⟨n,rfl⟩:=jj (by omega:n≠0);have:k=m:=by omega
   subst this;exact he _
  | succ d ih=>
   intro k n hk hn;obtain⟨n,rfl⟩:=jj (by omega:n≠0);rw[xr,c k (by omega)];exact ih (k+1) n (by omega) (by omega)
 exact key m 0 n (by omega) hn
def orE (o k:Option R):Option R:=match o with|some r=>some r|none=>k
def qdw (o:R ⊕ T) (k:T->Option R):Option R:=match o with|.inl r=>some r|.inr t=>k t
@[simp] theorem qe2 (r:R) (k:Option R):orE (some r) k=some r:=rfl
@[simp] theorem qe1 (k:Option R):orE none k=k:=rfl
@[simp] theorem qgi (r:R) (k:T->Option R):qdw (.inl r) k=some r:=rfl
@[simp] theorem qdx (t:T) (k:T->Option R):qdw (.inr t) k=k t:=rfl
def PG (f:T->A->R ⊕ T):T->List A->R ⊕ T
 | t,[]=>.inr t
 | t,x::l=>match f t x with
  | .inl r=>.inl r
  | .inr t'=>PG f t' l
theorem TZ {B:(S->Option R)->S->Option R} (mk:Nat->T->S) (I:Nat->T->Prop) {l:List A} (f:T->A->R ⊕ T) {rest:T->Option R}
  (h:∀(k:Nat) (x:A) (t:T) (d:S->Option R),l[k]? =some x->I k t->B d (mk k t)=qdw (f t x) fun c=>d (mk (k+1) c))
  (m:∀(k:Nat) (x:A) (t c:T),l[k]? =some x->I k t->f t x=.inr c->I (k+1) c)
  (he:∀(t:T) (d:S->Option R),I l.length t->B d (mk l.length t)=rest t) {n:Nat} (hn:l.length<n) {t0:T} (o:I 0 t0) :
  qy B n (mk 0 t0)=qdw (PG f t0 l) rest:=by
 have key:∀(suf:List A) (k n:Nat) (t:T),(∀ j,suf[j]? =l[k+j]?)->k+suf.length=l.length->suf.length<n->I k t->qy B n (mk k t)=qdw (PG f t suf) rest:=by
  intro suf
  induction suf with
  | nil=>
   intro k n t a hk hn e;obtain⟨n,rfl⟩:=jj (by omega:n≠0);have:k=l.length:=by simpa using hk
   subst this;rw[xr,he t _ e];rfl
  | cons x suf ih=>
   intro k n t a hk hn e;obtain⟨n,rfl⟩:=jj (by omega:n≠0);have g:l[k]? =some x:=by have:=a 0; simpa using this.symm
   rw[xr,h k x t _ g e];simp only[PG];cases hf:f t x with
   | inl r=>rfl
   | inr c=>
    simp only[qdx];refine ih (k+1) n c (fun j=>?_) (by simp at hk; omega) (by simp at hn; omega) (m k x t c g e hf);have:=a (j+1);rw[show k+1+j=k+(j+1) by omega];simpa using this
 exact key l 0 n t0 (fun j=>by simp) (by simp) hn o
def DX (f:A->Option R):List A->Option R
 | []=>none
 | x::l=>match f x with
  | some r=>some r
  | none=>DX f l
theorem Hz {B:(S->Option R)->S->Option R} (mk:Nat->S) {l:List A} (f:A->Option R) {rest:Option R}
  (c:∀(k:Nat) (x:A) (a:S->Option R),l[k]? =some x->B a (mk k)=orE (f x) (a (mk (k+1))))
  (he:∀(a:S->Option R),B a (mk l.length)=rest) {n:Nat} (hn:l.length<n) :
  qy B n (mk 0)=orE (DX f l) rest:=by
 have h:=TZ (B:=B) (fun k (_:Unit)=>mk k) (fun _ _=>True) (l:=l) (fun _ x=>match f x with|some r=>.inl r|none=>.inr ()) (rest:=fun _=>rest)
  (fun k x _ a d _=>by rw[c k x a d]; cases f x<;>rfl) (fun _ _ _ _ _ _ _=>trivial) (fun _ a _=>he a) hn (t0:=()) trivial
 rw[h];have key:∀ l:List A,PG (T:=Unit) (fun _ x=>match f x with|some r=>.inl r|none=>.inr ()) () l=(match DX f l with|some r=>.inl r|none=>.inr ()):=by
  intro l
  induction l with
  | nil=>rfl
  | cons x l ih=>
   simp only[PG,DX];cases f x with
   | some r=>rfl
   | none=>exact ih
 rw[key];cases DX f l<;>rfl
end
theorem mZ {A:Type} {l:List A} {k:Nat} {x:A} (h:l[k]? =some x):k<l.length:=(jG.1 h).1
theorem ca {A:Type} {l:List A} {k:Nat} {x:A} (h:l[k]? =some x):x∈l:=List.mem_of_getElem? h
@[simp] theorem zb (l:List (List UInt8)):(qv l).length=l.length:=by simp[qv]
@[simp] theorem Vt (k:IntKind) (l:List Int):(xZ k l).length=l.length:=by simp[xZ]
@[simp] theorem EO (l:List UInt8):(qo l).length=l.length:=by simp[qo]
@[simp] theorem qn (l:List Val):(Val.rows l).length=l.length:=by rw[rows_eq]; simp
theorem ui {k m:Nat} (h:k<m):decide ((k:Int)<(m:Int))=true:=kdt (by omega)
theorem xq {m:Nat}:decide ((m:Int)<(m:Int))=false:=kdf (by omega)
open Go Ax
def isz (i:Int):Nat:=if -9223372036854775808<=i/\i<=9223372036854775807 then 1 else 1099511627776
theorem oK {i:Int} (h:IntKind.i64.min<=i/\i<=IntKind.i64.max):isz i=1:=by
 have h1:IntKind.i64.min = -9223372036854775808:=by decide
 have h2:IntKind.i64.max=9223372036854775807:=by decide
 unfold isz;rw[if_pos]; omega
theorem qdl {i:Int} (h:isz i<1099511627776):-9223372036854775808<=i/\i<=9223372036854775807:=by
 unfold isz at h;split at h
 ·assumption
 omega
def kd:Val->Int
 | .mk k _ _ _ _ _=>k
mutual
def fQ:Val->Nat
 | .mk _ _ i s l ks=>1+isz i+s.length+vo l+(ks.map fun k=>1+k.length).sum
def vo:List Val->Nat
 | []=>1
 | v::l=>1+fQ v+vo l
end
def rA (l:List (List UInt8)):Nat:=(l.map fun k=>1+k.length).sum
theorem vm (l:List (List UInt8)):l.length<=rA l:=by
 induction l with
 | nil=>simp[rA]
 | cons x l ih=>simp only[rA,jk,jA,ja]at ih ⊢; omega
mutual
def Qg:qf->Nat
 | .mk _ name val names args=>1+name.length+fQ val+rA names+pd args
def pd:List qf->Nat
 | []=>1
 | x::l=>1+Qg x+pd l
end
theorem fA:∀ l:List qf,l.length<pd l
 | []=>by simp[pd]
 | x::l=>by have:=fA l; simp only[pd,ja]; omega
theorem mT:∀{l:List qf} {x:qf},x∈l->Qg x+2<=pd l
 | y::l,x,h=>by
  simp only[pd];rcases jg.1 h with rfl|h
  ·have:=fA l; omega
  have:=mT h; omega
@[simp] theorem xm (l:List qf):(qf.rows l).length=l.length:=by rw[qf.rows_eq]; simp
open Go Ax
open Go Ax
def upB (b:UInt8):UInt8:=if 97<=b.toNat/\b.toNat<=122 then UInt8.ofNat (b.toNat - 32)else b
set_option maxRecDepth 100000 in
theorem qec:∀ m:Fin 256,97<=m.val/\m.val<=122->u8I (kwr .u8 ((m.val:Int) - 32))=some (UInt8.ofNat (m.val - 32)):=by decide
theorem qcb (b:UInt8) (h:97<=b.toNat/\b.toNat<=122):u8I (kwr .u8 ((b.toNat:Int) - 32))=some (upB b):=by
 have:=qec ⟨b.toNat,b.toNat_lt⟩ h;unfold upB;rw[if_pos h];exact this
theorem qca (b:UInt8):u8I (b.toNat:Int)=some b:=by
 unfold u8I;have:=b.toNat_lt;rw[if_pos (by omega)];simp
def Zq (s:List UInt8):List UInt8:=s.map upB
theorem qdk (b:UInt8):(bif decide ((b.toNat:Int)≥97)then decide ((b.toNat:Int)<=122)else false)=decide (97<=b.toNat/\b.toNat<=122):=by
 by_cases h1:97<=b.toNat<;>by_cases h2:b.toNat<=122
 ·rw[kdt (by omega:(b.toNat:Int)≥97),kdt (by omega:(b.toNat:Int)<=122),kdt ⟨h1,h2⟩]; rfl
 ·rw[kdt (by omega:(b.toNat:Int)≥97),kdf (by omega:¬ (b.toNat:Int)<=122),kdf (by omega:¬ (97<=b.toNat/\b.toNat<=122))]; rfl
 ·rw[kdf (by omega:¬ (b.toNat:Int)≥97),kdf (by omega:¬ (97<=b.toNat/\b.toNat<=122))]; rfl
 rw[kdf (by omega:¬ (b.toNat:Int)≥97),kdf (by omega:¬ (97<=b.toNat/\b.toNat<=122))]; rfl
theorem Bg {n:Nat} {s:List UInt8} (h:s.length<n) (hn:n<=1099511627776):rT n s=some (Zq s):=by
 unfold rT;have:=CA (B:=dC n s) (fun k=>((s.take k).map upB,(k:Int))) s.length (r:=some (Zq s))
  (fun k hk d=>by
   obtain⟨b,c⟩:∃ b,s[k]? =some b:=⟨s[k],jf hk⟩;have e:(s.take (k+1)).map upB=(s.take k).map upB++[upB b]:=by rw[List.take_succ,c]; simp
   simp only[dC,ui hk,kct,zu c,qZ,qdk];rw[e];have a:decide ((qo ((s.take k).map upB++[upB b])).length * 1<=140737488355328)=true:=iT (by simp; omega) (by omega);by_cases hl:97<=b.toNat/\b.toNat<=122
   ·rw[kdt hl,kct]
    simp only[dB,qcb b hl,qZ];rw[gq a,zM (by omega)]
   rw[kdf hl,kcf];have hu:upB b=b:=by unfold upB; rw[if_neg hl]
   rw[hu]at a ⊢;simp only[dB,qca,qZ];rw[gq a,zM (by omega)])
  (fun d=>by simp only[dC,xq,kcf,List.take_length]; rfl) h
 simpa using this
def EF (b:UInt8):Bool:=decide (97<=b.toNat/\b.toNat<=122)||decide (65<=b.toNat/\b.toNat<=90)||decide (b.toNat=95)
def LS (b:UInt8):Bool:=decide (48<=b.toNat/\b.toNat<=57)
def CB (s:List UInt8):Bool:=match s with
 | []=>false
 | b::l=>decide (l.length<64)&&EF b&&l.all fun c=>EF c||LS c
theorem rR (n:Nat) (b:UInt8):gH n (b.toNat:Int)=some (EF b):=by
 unfold gH EF;rw[qdk];congr 1;by_cases a:97<=b.toNat/\b.toNat<=122
 ·simp[a]
 by_cases h1:65<=b.toNat/\b.toNat<=90
 ·rw[kdf a,kdt h1,kdt (by omega:(b.toNat:Int)≥65),kdt (by omega:(b.toNat:Int)<=90)]; rfl
 have:(bif decide ((b.toNat:Int)≥65)then decide ((b.toNat:Int)<=90)else false)=false:=by
  by_cases h2:65<=b.toNat
  ·rw[kdt (by omega:(b.toNat:Int)≥65),kdf (by omega:¬ (b.toNat:Int)<=90)]; rfl
  rw[kdf (by omega:¬ (b.toNat:Int)≥65)]; rfl
 rw[kdf a,this,kdf h1];by_cases h3:b.toNat=95
 ·simp[h3]
 have c:((b.toNat:Int)==95)=false:=kbf.2 (by omega);simp only[Bool.or_false,Bool.false_or,kcf];rw[c,kdf h3]
theorem Bf (n:Nat) (b:UInt8):fI n (b.toNat:Int)=some (LS b):=by
 unfold fI LS;congr 1;by_cases h1:48<=b.toNat<;>by_cases h2:b.toNat<=57
 ·rw[kdt (by omega:(b.toNat:Int)≥48),kdt (by omega:(b.toNat:Int)<=57),kdt ⟨h1,h2⟩]; rfl
 ·rw[kdt (by omega:(b.toNat:Int)≥48),kdf (by omega:¬ (b.toNat:Int)<=57),kdf (by omega:¬ (48<=b.toNat/\b.toNat<=57))]; rfl
 ·rw[kdf (by omega:¬ (b.toNat:Int)≥48),kdf (by omega:¬ (48<=b.toNat/\b.toNat<=57))]; rfl
 rw[kdf (by omega:¬ (b.toNat:Int)≥48),kdf (by omega:¬ (48<=b.toNat/\b.toNat<=57))]; rfl
theorem DH {n:Nat} {s:List UInt8} (h:s.length<n) (hn:n<=1099511627776):tX n s=some (CB s):=by
 unfold tX;cases s with
 | nil=>rfl
 | cons b l=>
  by_cases hl:l.length<64
  ·have a:(bif decide ((((b::l).length:Nat):Int)<1)then true else decide ((((b::l).length:Nat):Int)>64))=false:=by
    rw[kdf (by simp; omega),kdf (by simp; omega)]; rfl
   simp only[a,jo,fP,Nv,qZ,rR,kcf,CB];rw[kdt hl];cases f:EF b with
   | false=>rfl
   | true=>
    simp only[jp,kcf,Bool.true_and];have e:=Hz (B:=mj n (b::l)) (fun k=>((k:Nat):Int)) (l:=b::l) (fun c=>if(EF c||LS c)=true then none else some false) (rest:=some true)
     (fun k x g d=>by
      have hk:=mZ d;simp only[mj,ui hk,kct,zu d,qZ,rR];rw[zM (by omega)];cases h1:EF x with
      | true=>simp
      | false=>
       simp only[jo,fP,qZ,Bf,kct];cases LS x<;>simp)
     (fun g=>by simp only[mj,xq,kcf]) (n:=n) h
    refine Eq.trans e ?_;have key:∀ l:List UInt8,DX (R:=Bool) (fun c=>if(EF c||LS c)=true then none else some false) l=if(l.all fun c=>EF c||LS c)=true then none else some false:=by
     intro l
     induction l with
     | nil=>rfl
     | cons c l ih=>
      simp only[DX,jv,ih];by_cases a:(EF c||LS c)=true<;>simp only[a,if_true,Bool.true_and,Bool.not_eq_true]<;>simp_all
    rw[key];simp only[jv,f,Bool.true_or,Bool.true_and];cases(l.all fun c=>EF c||LS c)<;>rfl
  ·have a:(bif decide ((((b::l).length:Nat):Int)<1)then true else decide ((((b::l).length:Nat):Int)>64))=true:=by
    rw[kdf (by simp; omega),kdt (by simp; omega)]; rfl
   simp only[a,jp,Ea,qZ,kct,CB];rw[kdf hl];rfl
open Go Ax
theorem oI {l:List UInt8} {i:Nat} {b:UInt8} (h:l[i]? =some b):(⟨l.toArray⟩:ByteArray).get! i=b:=by
 have a:=(jG.1 h).1;have:(⟨l.toArray⟩:ByteArray).get! i=l.toArray[i]!:=rfl;rw[this];simp[getElem!_def,h]
theorem iM {l:List UInt8} {i:Nat} {b:UInt8} (h:l[i]? =some b) (a:b.toNat<128):qK l i=b.toNat/\zY l i=i+1:=by
 unfold qK zY Utf8.decode;simp only[Nat.add_zero,oI h];rw[if_pos (by omega)];exact⟨rfl,rfl⟩
theorem qbx {l:List UInt8} {i:Nat} {b:UInt8} (h:l[i]? =some b) (a:¬ b.toNat<128):128<=qK l i:=by
 unfold qK Utf8.decode;simp only[Nat.add_zero,oI h];rw[if_neg (by omega)];have he:128<=Utf8.runeError:=by decide
 split
 ·split
  ·simp only; omega
  exact he
 split
 ·split
  ·rename_i h1
   simp only[ji,kde,ge_iff_le]at h1;simp only; omega
  exact he
 split
 ·split
  ·rename_i h1
   simp only[ji,kde,ge_iff_le]at h1;simp only; omega
  exact he
 exact he
def BE (k:Nat) (b:UInt8):Bool:=!EF b&&(k==0||!LS b)
def GA:Nat->List UInt8->Bool
 | _,[]=>true
 | k,b::l=>!BE k b&&GA (k+1) l
theorem CG:∀(l:List UInt8) (k:Nat),GA (k+1) l=l.all fun c=>EF c||LS c
 | [],k=>rfl
 | b::l,k=>by
  simp only[GA,jv,CG l (k+1),BE];rw[show((k+1==0)=false)from rfl];cases EF b<;>cases LS b<;>rfl
theorem ey (l:List UInt8):(GA 0 l&&(!(l==[])&&decide (l.length<=64)))=CB l:=by
 cases l with
 | nil=>rfl
 | cons b l=>
  simp only[GA,CG,CB,BE,kbs,Bool.true_or,Bool.and_true,Bool.not_not];have h1:(!((b::l)==[]))=true:=rfl;have h2:decide ((b::l).length<=64)=decide (l.length<64):=by
   by_cases h:l.length<64
   ·rw[kdt h,kdt (by simp; omega)]
   rw[kdf h,kdf (by simp; omega)]
  rw[h1,h2,Bool.true_and];cases EF b<;>cases decide (l.length<64)<;>simp
theorem iL {l:List UInt8} {k:Nat} {b:UInt8} (h:l[k]? =some b) :
  (bif !(bif(bif(bif decide (((qK l k:Nat):Int)≥97)then decide (((qK l k:Nat):Int)<=122)else false)then true else(bif decide (((qK l k:Nat):Int)≥65)then decide (((qK l k:Nat):Int)<=90)else false))then true else(((qK l k:Nat):Int)==95))then(bif(bif(((k:Nat):Int)==0)then true else decide (((qK l k:Nat):Int)<48))then true else decide (((qK l k:Nat):Int)>57))else false)=BE k b:=by
 by_cases d:b.toNat<128
 ·rw[(iM h d).1]
  have hl:=rR 0 b;unfold gH at hl;rw[Option.some.inj hl];have hz:(((k:Nat):Int)==0)=(k==0):=by
   by_cases hk:k=0
   ·subst hk; rfl
   rw[kbf.2 hk,kbf.2 (by omega)]
  rw[hz];unfold BE LS;cases e:EF b with
  | true=>rfl
  | false=>
   simp only[jo,kct,Bool.true_and];cases hk:(k==0)with
   | true=>rfl
   | false=>
    simp only[kcf,Bool.false_or];by_cases h1:b.toNat<48
    ·rw[kdt (by omega:(b.toNat:Int)<48),kdf (by omega:¬ (48<=b.toNat/\b.toNat<=57))]; rfl
    by_cases h2:57<b.toNat
    ·rw[kdf (by omega:¬ (b.toNat:Int)<48),kdt (by omega:(b.toNat:Int)>57),kdf (by omega:¬ (48<=b.toNat/\b.toNat<=57))]; rfl
    rw[kdf (by omega:¬ (b.toNat:Int)<48),kdf (by omega:¬ (b.toNat:Int)>57),kdt (by omega:(48<=b.toNat/\b.toNat<=57))]; rfl
 have hr:=qbx h d;have a:BE k b=true:=by
  unfold BE EF LS;rw[kdf (by omega:¬ (97<=b.toNat/\b.toNat<=122)),kdf (by omega:¬ (65<=b.toNat/\b.toNat<=90)),kdf (by omega:¬ b.toNat=95),kdf (by omega:¬ (48<=b.toNat/\b.toNat<=57))];cases(k==0)<;>rfl
 rw[a];generalize qK l k=c at *;rw[kdf (by omega:¬ (c:Int)<=122),kdf (by omega:¬ (c:Int)<=90),kbf.2 (by omega:¬ (c:Int)=95),kdt (by omega:(c:Int)>57)];cases decide ((c:Int)≥97)<;>cases decide ((c:Int)≥65)<;>cases((k:Int)==0)<;>cases decide ((c:Int)<48)<;>rfl
theorem Bq {n:Nat} {l:List UInt8} (h:l.length<n):sR n l=some (CB l):=by
 unfold sR;have main:∀(suf:List UInt8) (k m:Nat),(∀ j,suf[j]? =l[k+j]?)->k+suf.length=l.length->suf.length<m->qy (dS n l) m k=some (GA k suf&&(!(l==[])&&decide (l.length<=64))):=by
  intro suf
  induction suf with
  | nil=>
   intro k m c hk hm;obtain⟨m,rfl⟩:=jj (by omega:m≠0);have:k=l.length:=by simpa using hk
   subst this;rw[xr];simp only[dS];rw[kdf (jR _),kcf];have:decide (((l.length:Nat):Int)<=64)=decide (l.length<=64):=by
    by_cases h:l.length<=64
    ·rw[kdt h,kdt (by omega)]
    rw[kdf h,kdf (by omega)]
   rw[this];simp only[GA,Bool.true_and];cases(l==[])<;>rfl
  | cons b suf ih=>
   intro k m c hk hm;obtain⟨m,rfl⟩:=jj (by omega:m≠0);have d:l[k]? =some b:=by have:=c 0; simpa using this.symm
   have e:=mZ d;rw[xr];simp only[dS];rw[kdt e,kct,iL d];simp only[GA];cases f:BE k b with
   | true=>rfl
   | false=>
    have a:b.toNat<128:=Decidable.byContradiction fun hn=>by
     have:BE k b=true:=by
      unfold BE EF LS;rw[kdf (by omega:¬ (97<=b.toNat/\b.toNat<=122)),kdf (by omega:¬ (65<=b.toNat/\b.toNat<=90)),kdf (by omega:¬ b.toNat=95),kdf (by omega:¬ (48<=b.toNat/\b.toNat<=57))];cases(k==0)<;>rfl
     rw[this]at f;cases f
    rw[kcf,kct,(iM d a).2,ih (k+1) m (fun j=>by have:=c (j+1); rw[show k+1+j=k+(j+1) by omega]; simpa using this) (by simp at hk; omega) (by simp at hm; omega)]
    rfl
 have:=main l 0 n (fun j=>by simp) (by simp) h
 rw[ey]at this;exact this
open Go Ax
def Lq:List (List UInt8):=[([77,65,84,67,72]:List UInt8),([87,72,69,82,69]:List UInt8),([85,78,87,73,78,68]:List UInt8),([65,83]:List UInt8),([87,73,84,72]:List UInt8),([67,82,69,65,84,69]:List UInt8),([77,69,82,71,69]:List UInt8),([83,69,84]:List UInt8),([82,69,77,79,86,69]:List UInt8),([68,69,76,69,84,69]:List UInt8),([68,69,84,65,67,72]:List UInt8),([82,69,84,85,82,78]:List UInt8),([68,73,83,84,73,78,67,84]:List UInt8),([79,82,68,69,82]:List UInt8),([66,89]:List UInt8),([65,83,67]:List UInt8),([68,69,83,67]:List UInt8),([83,75,73,80]:List UInt8),([76,73,77,73,84]:List UInt8),([65,78,68]:List UInt8),([79,82]:List UInt8),([88,79,82]:List UInt8),([78,79,84]:List UInt8),([73,78]:List UInt8),([73,83]:List UInt8),([78,85,76,76]:List UInt8),([84,82,85,69]:List UInt8),([70,65,76,83,69]:List UInt8)]
def HP (s:List UInt8):Bool:=CB s&&!(Lq.contains (Zq s))
theorem DI {n:Nat} {s:List UInt8} (h:s.length<n) (h2:28<n) (hn:n<=1099511627776) :
  rD n s=some (if Lq.contains (Zq s)then(Zq s,true)else([],false)):=by
 unfold rD;rw[show QC n=some Lq from rfl,qZ,Bg h hn,qZ];have hl:Lq.length=28:=rfl;refine Eq.trans (Hz (B:=ml n Lq (Zq s)) (fun k=>(k:Int)) (l:=Lq) (fun w=>if w=Zq s then some (Zq s,true)else none) (rest:=some ([],false)) ?_ ?_ (by omega)) ?_
 ·intro k x e d
  have hk:=mZ d;unfold ml;rw[zb,ui hk,kct,zu d,qZ,zM (by omega)];by_cases hw:x=Zq s
  ·subst hw
   simp
  rw[if_neg hw,kbf.2 hw];rfl
 ·intro e
  unfold ml;rw[zb,xq];rfl
 have:∀ l:List (List UInt8),DX (fun w=>if w=Zq s then some (Zq s,true)else none) l=if l.contains (Zq s)then some (Zq s,true)else none:=by
  intro l
  induction l with
  | nil=>rfl
  | cons a l ih=>
   simp only[DX,ih];by_cases c:a=Zq s
   ·subst c
    simp
   rw[if_neg c];have:(a::l).contains (Zq s)=l.contains (Zq s):=by
    rw[List.contains_cons,kbf.2 (Ne.symm c),Bool.false_or]
   rw[this]
 rw[this];cases Lq.contains (Zq s)<;>rfl
theorem tL {n:Nat} {s:List UInt8} (h:s.length<n) (h2:28<n) (hn:n<=1099511627776):vr n s=some (HP s):=by
 unfold vr;rw[DI h h2 hn,qZ];unfold HP;cases Lq.contains (Zq s)<;>simp[DH h hn]<;>cases CB s<;>rfl
open Go Ax
theorem VE {k:Nat} (h:k+1<=1152921504606846976):kwr .i64 (((k+1:Nat):Int) - 1)=((k:Nat):Int):=by
 rw[MI (by omega) (by omega)]; omega
theorem qbn (x:List UInt8):(decide (((x.length:Nat):Int)<1))=(x==[]):=by
 cases x with
 | nil=>rfl
 | cons a x=>simp; omega
theorem oq (n:Nat) (ks:List (List UInt8)) (c d:Int) (l:List Val) (g:Val->Int->Int->Option (Int×Bool)) (hn:n<=1099511627776):∀ m k:Nat,k<=ks.length->ks.length - k<m->ks.length<n ->
  ∃ b,qy (uf n ks) m (k:Int)=some b/\qy (bO n ks c l g d) m (k:Int)=bif b then bM n l g d c ()else some (kwr .i64 (c+1),false):=by
 intro m
 induction m with
 | zero=>intro k _ h; omega
 | succ m ih=>
  intro k hk hm hl;rw[xr,xr];by_cases he:k=ks.length
  ·subst he
   refine⟨true,?_,?_⟩
   ·simp only[uf,zb,xq,kcf]
   simp only[bO,zb,xq,kcf,kct]
  have a:k<ks.length:=by omega
  obtain⟨x,e⟩:∃ x,ks[k]? =some x:=⟨_,jf a⟩;obtain⟨b,h1,h2⟩:=ih (k+1) (by omega) (by omega) hl;rw[← zM (by omega)]at h1 h2;simp only[uf,bO,zb,ui a,kct,zu e,qZ,qbn];cases o:x==[]with
  | true=>exact⟨false,by simp,by simp⟩
  | false=>
   simp only[jo,fP,qZ,kcf];cases p:decide (((x.length:Nat):Int)>64)with
   | true=>exact⟨false,by simp,by simp⟩
   | false=>
    cases k with
    | zero=>
     refine⟨b,?_,?_⟩
     ·simpa using h1
     simpa using h2
    | succ k=>
     have f:decide ((((k+1:Nat):Int))>0)=true:=kdt (by omega);obtain⟨y,j⟩:∃ y,ks[k]? =some y:=⟨_,jf (by omega)⟩;simp only[f,jo,Bool.and_true,fP,VE (show k+1<=1152921504606846976 by omega),zu j,qZ,kct,kcf,MO];cases Op.bytesLess y x with
     | false=>exact⟨false,by simp,by simp⟩
     | true=>exact⟨b,by simpa using h1,by simpa using h2⟩
theorem xz:∀ l:List Val,l.length<vo l
 | []=>by simp[vo]
 | x::l=>by have:=xz l; simp only[vo,ja]; omega
theorem um:∀{l:List Val} {x:Val},x∈l->fQ x+2<=vo l
 | y::l,x,h=>by
  simp only[vo];rcases jg.1 h with rfl|h
  ·have:=xz l; omega
  have:=um h; omega
theorem ot (n:Nat) (l:List Val) (g e:Val->Int->Int->Option (Int×Bool)) (d:Int) (hn:n<=1099511627776)
  (o:∀ v∈l,∀ d c,∃ r,g v d c=some r/\e v d c=some r):∀ m k:Nat,∀ c:Int,k<=l.length->l.length - k<m->l.length<n ->
  ∃ r,qy (ug n l g d) m (c,true,(k:Int))=some r/\qy (bN n l e d) m (c,(k:Int))=some r:=by
 intro m
 induction m with
 | zero=>intro k _ _ h; omega
 | succ m ih=>
  intro k c hk hm hl;rw[xr,xr];by_cases he:k=l.length
  ·subst he
   refine⟨(c,true),?_,?_⟩
   ·simp only[ug,qn,xq,kcf]
   simp only[bN,qn,xq,kcf]
  have a:k<l.length:=by omega
  obtain⟨x,f⟩:∃ x,l[k]? =some x:=⟨_,jf a⟩;obtain⟨⟨j,b⟩,h1,h2⟩:=o x (ca f) (kwr .i64 (d - 1)) c;obtain⟨q,t,u,w,y,z⟩:=x;simp only[ug,bN,qn,ui a,kct,zu f,qZ,h1,h2];rw[zM (by omega)];cases b with
  | true=>
   obtain⟨r,h3,h4⟩:=ih (k+1) j (by omega) (by omega) hl;exact⟨r,h3,by simpa using h4⟩
  | false=>
   refine⟨(j,false),?_,by simp⟩;obtain⟨m,rfl⟩:∃ p,m=p+1:=⟨m - 1,by omega⟩;rw[xr];simp only[ug,Bool.cond_self,kcf]
theorem qaq (n:Nat) {u:Int} (a:u<=7) (F:Bool) (G:Int) (H:List UInt8) (E:List Val) (J:List (List UInt8)):nR n ⟨u,F,G,H,E,J⟩=uT n ⟨u,F,G,H,E,J⟩:=by
 simp only[uT,nR];have e6:decide (u≥6)=(u==6||u==7):=by
  rw[Bool.eq_iff_iff]; simp; omega
 have e5:decide ((((Val.rows E).length:Nat):Int)>0)=!((((Val.rows E).length:Nat):Int)==0):=by
  generalize (Val.rows E).length=m;cases m with
  | zero=>rfl
  | succ m=>rw[kdt (by omega),kbf.2 (by omega)]; rfl
 have a1:(bif(u != 1)then F else false)=!(bif(u==1)then true else !F):=by
  rw[bne]; cases(u==1)<;>cases F<;>rfl
 have a2:(bif(bif(bif(u != 2)then(u != 6)else false)then(u != 7)else false)then(G != 0)else false)=!(bif(bif(u==2)then true else decide (u≥6))then true else(G==0)):=by
  rw[e6,bne,bne,bne,bne]; cases(u==2)<;>cases(u==6)<;>cases(u==7)<;>cases(G==0)<;>rfl
 have a3:(bif(u != 3)then(!(H==([]:List UInt8)))else false)=!(bif(u==3)then true else(H==([]:List UInt8))):=by
  rw[bne]; cases(u==3)<;>cases(H==([]:List UInt8))<;>rfl
 have a4:(bif(bif(u != 4)then(u != 5)else false)then decide ((((Val.rows E).length:Nat):Int)>0)else false)=!(bif(bif(u==4)then true else(u==5))then true else((((Val.rows E).length:Nat):Int)==0)):=by
  rw[e5,bne,bne]; cases(u==4)<;>cases(u==5)<;>cases((((Val.rows E).length:Nat):Int)==0)<;>rfl
 rw[a1,a2,a3,a4];generalize (bif(u==1)then true else !F)=A;generalize (bif(bif(u==2)then true else decide (u≥6))then true else(G==0))=B;generalize (bif(u==3)then true else(H==([]:List UInt8)))=C;generalize (bif(bif(u==4)then true else(u==5))then true else((((Val.rows E).length:Nat):Int)==0))=D;cases A<;>cases B<;>cases C<;>cases D<;>rfl
theorem QP:∀ n:Nat,n<=1099511627776->∀ v d c,fQ v<n->∃ r,xP n v d c=some r/\fS n v d c=some r:=by
 intro n
 induction n with
 | zero=>intro _ _ _ _ h; omega
 | succ n ih=>
  intro hn v d c y;obtain⟨u,H,F,J,D,E⟩:=v;have z:vo D<n/\E.length<n:=by
   have:=vm E;simp only[rA]at this;simp only[fQ]at y;have M:=xz D;omega
  have hl:=xz D;have I:∀ v∈D,∀ d c,∃ r,xP n v d c=some r/\fS n v d c=some r:=fun v hm d c=>ih (by omega) v d c (by have:=um hm; omega)
  have a:∀ c,∃ r,qy (ug n D (xP n) d) n (c,true,(0:Int))=some r/\qy (bN n D (fS n) d) n (c,(0:Int))=some r:=fun c=>
   ot n D _ _ d (by omega) I n 0 c (by omega) (by omega) (by omega)
  obtain⟨x,m,o⟩:=oq n E c d D (fS n) (by omega) n 0 (by omega) (by omega) z.2;obtain⟨r,e,f⟩:=a (kwr .i64 (c+1));simp only[xP,fS,cZ,Xm,ue];generalize hC:kwr .i64 (c+1)=C at *;have p:∃ G:Bool,(bif(bif(bif(decide (d<1))then true else(decide (C>4096)))then true else(decide (u<0)))then true else(decide (u>7)))=G /\
    (bif(bif(bif(decide (C>4096))then true else(decide (d<1)))then true else(decide (u<0)))then true else(decide (u>7)))=G/\(G=false->u<=7):=by
   refine⟨_,rfl,?_,?_⟩
   ·cases decide (C>4096)<;>cases decide (d<1)<;>rfl
   cases decide (C>4096)<;>cases decide (d<1)<;>cases decide (u<0)<;>simp
  obtain⟨G,q,t,w⟩:=p;rw[q,t];cases G with
  | true=>exact⟨(C,false),by simp,by simp⟩
  | false=>
   have K:=w rfl;rw[qaq n K];obtain⟨B,L⟩:∃ B,uT n ⟨u,H,F,J,D,E⟩=some B:=⟨_,rfl⟩;rw[L];have e6:decide (u≥6)=(bif(u==6)then true else(u==7)):=by
    rw[Bool.eq_iff_iff]; simp; omega
   rw[e6];cases B with
   | false=>exact⟨(C,false),by simp,by simp⟩
   | true=>
    simp only[jo,jp,fP,qZ,kcf,kct];cases N:(bif(bif(u==6)then true else(u==7))then decide (F<1)else false)with
    | true=>exact⟨(C,false),by simp,by simp⟩
    | false=>
     cases h5:(u==5)with
     | false=>
      refine⟨r,?_,?_⟩
      ·simpa using e
      simpa[bM,hC]using f
     | true=>
      cases O:((((qv E).length:Nat):Int) != (((Val.rows D).length:Nat):Int))with
      | true=>exact⟨(C,false),by simp,by simp⟩
      | false=>
       simp only[jo,Bool.and_true,fP,kcf,kct];have g:qy (uf n E) n (0:Int)=some x:=m;have j:qy (bO n E c D (fS n) d) n (0:Int)=_:=o;rw[g,j,qZ];cases x with
       | true=>
        refine⟨r,?_,?_⟩
        ·simpa using e
        simpa[bM,hC]using f
       | false=>exact⟨(C,false),by simp,by simp⟩
theorem aw {n:Nat} (hn:n<=1099511627776) {v:Val} (a:fQ v<n):∃ b:Bool,xW n v=some (bif b then 0 else 20)/\fR n v=some b:=by
 obtain⟨d,e,f,g,h,j⟩:=v;obtain⟨⟨c,b⟩,h1,h2⟩:=QP n hn _ 32 0 a;refine⟨b,?_,?_⟩
 ·simp only[xW,h1,qZ]
  cases b<;>rfl
 ·simp only[fR,h2,qZ]
open Go Ax
theorem Co {A:Type} {B:(Int->Option Bool)->Int->Option Bool} {l l':List A} (hlen:l.length=l'.length)
  (step:∀(k:Nat) x y c,l[k]? =some x->l'[k]? =some y->∃ b,(b=true↔x=y)/\B c (k:Int)=bif b then c ((k+1:Nat):Int)else some false)
  (a:∀ c,B c (l.length:Int)=some true) {n:Nat} (hn:l.length<n):∃ b,qy B n 0=some b/\(b=true↔l=l'):=by
 have main:∀ m k:Nat,k<=l.length->l.length - k<m->∃ b,qy B m (k:Int)=some b/\(b=true↔l.drop k=l'.drop k):=by
  intro m
  induction m with
  | zero=>intro k _ h; omega
  | succ m ih=>
   intro k hk hm;rw[xr];by_cases he:k=l.length
   ·subst he
    exact⟨true,a _,by rw[List.drop_length,hlen,List.drop_length]; simp⟩
   have h1:k<l.length:=by omega
   have h2:k<l'.length:=by omega
   obtain⟨b,d,e⟩:=step k _ _ (qy B m) (jf h1) (jf h2);rw[e,jn h1,jn h2,List.cons.injEq,← d];cases b with
   | false=>exact⟨false,rfl,by simp⟩
   | true=>
    obtain⟨b,h3,h4⟩:=ih (k+1) (by omega) (by omega);exact⟨b,h3,by simpa using h4⟩
 obtain⟨b,h1,h2⟩:=main n 0 (by omega) (by omega);exact⟨b,h1,by simpa using h2⟩
theorem QO {a b:Nat}:((((a:Nat):Int) != ((b:Nat):Int))=true)↔a≠b:=by simp[Int.natCast_inj]
theorem nz {n:Nat} {x y:List (List UInt8)} (h:x.length<n) (hn:n<=1099511627776):∃ b,zm n x y=some b/\(b=true↔x=y):=by
 unfold zm;by_cases hl:x.length=y.length
 ·have:((((qv x).length:Nat):Int) != (((qv y).length:Nat):Int))=false:=by simp[hl]
  rw[this,kcf];refine Co hl (fun k a b d c f=>⟨a==b,beq_iff_eq,?_⟩) (fun d=>by simp only[xK,zb,xq,kcf]) h
  have hk:=mZ c;simp only[xK,zb,ui hk,kct,zu c,zu f,qZ];rw[zM (by omega)];cases a==b<;>rfl
 ·have:((((qv x).length:Nat):Int) != (((qv y).length:Nat):Int))=true:=by rw[zb,zb]; exact QO.2 hl
  rw[this];exact⟨false,rfl,by simp; intro e; exact hl (congrArg _ e)⟩
theorem xO {n:Nat} {x y:List (List UInt8)} (h:x.length<n) (hn:n<=1099511627776):∃ b,zR n x y=some b/\(b=true↔x=y):=by
 unfold zR;by_cases hl:x.length=y.length
 ·have:((((qv x).length:Nat):Int) != (((qv y).length:Nat):Int))=false:=by simp[hl]
  rw[this,kcf];refine Co hl (fun k a b d c f=>⟨a==b,beq_iff_eq,?_⟩) (fun d=>by simp only[cr,zb,xq,kcf]) h
  have hk:=mZ c;simp only[cr,zb,ui hk,kct,zu c,zu f,qZ];rw[zM (by omega)]
  first|(cases a==b<;>rfl)|(cases h:a==b<;>simp[h,bne])
 ·have:((((qv x).length:Nat):Int) != (((qv y).length:Nat):Int))=true:=by rw[zb,zb]; exact QO.2 hl
  rw[this];exact⟨false,rfl,by simp; intro e; exact hl (congrArg _ e)⟩
theorem Lg {d e:Int} {f g:Bool} {h j:Int} {m c:List UInt8} {u o:List (List UInt8)} {v p:List Val} {N L:Option Bool} {a b:Bool} (w:N=some a) (x:a=true↔u=o) (y:L=some b) (z:b=true↔v=p) :
  ∃ r,(bnd (qz (bif(bif(bif(d==e)then(f==g)else false)then(h==j)else false)then(m==c)else false) N) fun q=>
   bnd (qz (bif(bif(bif(bif(d==e)then(f==g)else false)then(h==j)else false)then(m==c)else false)then q else false) L) fun t=>
   some (bif(bif(bif(bif(bif(d==e)then(f==g)else false)then(h==j)else false)then(m==c)else false)then q else false)then t else false))=some r /\
  (r=true↔Val.mk d f h m v u=Val.mk e g j c p o):=by
 subst w y;have e1:(d==e)=true↔d=e:=beq_iff_eq;have e2:(f==g)=true↔f=g:=beq_iff_eq;have e3:(h==j)=true↔h=j:=beq_iff_eq;have e4:(m==c)=true↔m=c:=beq_iff_eq;rw[Val.mk.injEq,← e1,← e2,← e3,← e4,← z,← x];cases(d==e)<;>cases(f==g)<;>cases(h==j)<;>cases(m==c)<;>cases a<;>cases b<;>exact⟨_,rfl,by simp⟩
theorem Us:∀ n:Nat,n<=1099511627776->(∀ v w,fQ v<n->∃ b,uo n v w=some b/\(b=true↔v=w))/\(∀ l l',vo l<n->∃ b,xT n l l'=some b/\(b=true↔l=l')):=by
 intro n
 induction n with
 | zero=>intro _; exact⟨fun _ _ h=>by omega,fun _ _ h=>by omega⟩
 | succ n ih=>
  intro hn;obtain⟨f,g⟩:=ih (by omega);refine⟨fun v w x=>?_,fun l l' hl=>?_⟩
  ·obtain⟨F,H,J,M,u,C⟩:=v
   obtain⟨O,Q,U,G,D,E⟩:=w;have d:vo u<n/\C.length<n:=by
    have:=vm C;simp only[rA]at this;simp only[fQ]at x;have B:=xz u;omega
   obtain⟨a,j,m⟩:=xO (y:=E) d.2 (by omega);obtain⟨b,o,p⟩:=g u D d.1;simp only[uo,Qu];exact Lg j m o p
  have hlen:=xz l;simp only[xT,mg];by_cases c:l.length=l'.length
  ·have:((((Val.rows l).length:Nat):Int) != (((Val.rows l').length:Nat):Int))=false:=by simp[c]
   rw[this,kcf];refine Co c (fun k a b z q d=>?_) (fun z=>by simp only[da,qn,xq,kcf]) (by omega)
   have hk:=mZ q;obtain⟨r,hr,t⟩:=f a b (by have:=um (ca q); omega);refine⟨r,t,?_⟩;obtain⟨F,H,J,M,u,C⟩:=a;obtain⟨O,Q,U,G,D,E⟩:=b;simp only[da,qn,ui hk,kct,zu q,zu d,qZ,hr];rw[zM (by omega)];cases r<;>rfl
  ·have:((((Val.rows l).length:Nat):Int) != (((Val.rows l').length:Nat):Int))=true:=by rw[qn,qn]; exact QO.2 c
   rw[this];exact⟨false,rfl,by simp; intro e; exact c (congrArg _ e)⟩
theorem DA:∀ n:Nat,n<=1099511627776->(∀ v w,fQ v<n->∃ b,vH n v w=some b/\(b=true↔v=w))/\(∀ l l',vo l<n->∃ b,qe n l l'=some b/\(b=true↔l=l')):=by
 intro n
 induction n with
 | zero=>intro _; exact⟨fun _ _ h=>by omega,fun _ _ h=>by omega⟩
 | succ n ih=>
  intro hn;obtain⟨f,g⟩:=ih (by omega);refine⟨fun v w x=>?_,fun l l' hl=>?_⟩
  ·obtain⟨F,H,J,M,u,C⟩:=v
   obtain⟨O,Q,U,G,D,E⟩:=w;have d:vo u<n/\C.length<n:=by
    have:=vm C;simp only[rA]at this;simp only[fQ]at x;have B:=xz u;omega
   obtain⟨a,j,m⟩:=nz (y:=E) d.2 (by omega);obtain⟨b,o,p⟩:=g u D d.1;simp only[vH,ri];exact Lg j m o p
  have hlen:=xz l;simp only[qe,qC];by_cases c:l.length=l'.length
  ·have:((((Val.rows l).length:Nat):Int) != (((Val.rows l').length:Nat):Int))=false:=by simp[c]
   rw[this,kcf];refine Co c (fun k a b z q d=>?_) (fun z=>by simp only[qt,qn,xq,kcf]) (by omega)
   have hk:=mZ q;obtain⟨r,hr,t⟩:=f a b (by have:=um (ca q); omega);refine⟨r,t,?_⟩;obtain⟨F,H,J,M,u,C⟩:=a;obtain⟨O,Q,U,G,D,E⟩:=b;simp only[qt,qn,ui hk,kct,zu q,zu d,qZ,hr];rw[zM (by omega)];cases r<;>rfl
  ·have:((((Val.rows l).length:Nat):Int) != (((Val.rows l').length:Nat):Int))=true:=by rw[qn,qn]; exact QO.2 c
   rw[this];exact⟨false,rfl,by simp; intro e; exact c (congrArg _ e)⟩
open Go Ax
open Go Ax
open Go Ax
theorem dw {A:Type} (f:A->Nat):∀{l:List A} {x:A},x∈l->f x<=(l.map f).sum
 | y::l,x,h=>by
  rcases jg.1 h with rfl|h
  ·simp
  have:=dw f h; simp; omega
theorem cY {A:Type} (f:A->Nat) (hf:∀ x,1<=f x):∀ l:List A,l.length<=(l.map f).sum
 | []=>by simp
 | x::l=>by have:=cY f hf l; have:=hf x; simp; omega
def Qk (d:ql):Nat:=1+d.var_.length+rA d.labels+rA d.keys+pd d.vals
def Qh (d:qp):Nat:=1+d.var_.length+d.type_.length+rA d.keys+pd d.vals
def CY (p:zL):Nat:=1+(p.nodes.map Qk).sum+(p.edges.map Qh).sum
@[simp] theorem ph (l:List ql):(ql.rows l).length=l.length:=by simp[ql.rows]
@[simp] theorem pe (l:List qp):(qp.rows l).length=l.length:=by simp[qp.rows]
@[simp] theorem GB (l:List zL):(zL.rows l).length=l.length:=by simp[zL.rows]
open Go Ax
theorem HF (x:ql):1<=Qk x:=by unfold Qk; omega
theorem He (x:qp):1<=Qh x:=by unfold Qh; omega
open Go Ax
open Go Ax
def Hw (l:List zL):Nat:=1+(l.map CY).sum
open Go Ax
def qdi (i:gO):Nat:=1+i.as_.length+Qg i.e
def iU (s:xf):Nat:=1+Qg s.e
def iZ (s:qD):Nat:=1+s.var_.length+s.key.length+s.label.length+Qg s.e
def Lr (c:qE):Nat:=1+Hw c.paths+pd c.where_+Qg c.e+c.var_.length+(c.items.map qdi).sum+(c.order.map iU).sum+pd c.skip+pd c.limit+(c.sets.map iZ).sum+rA c.vars
open Go Ax
open Go Ax
@[simp] theorem Vc (l:List qE):(qE.rows l).length=l.length:=by simp[qE.rows]
def MS (l:List qE):Nat:=(l.map Lr).sum
theorem ar (c:qE):1<=Lr c:=by unfold Lr; omega
open Go Ax
open Go Ax
open Go Ax
theorem nP {R:Type} {B:(Int×Int->Option R)->Int×Int->Option R} {len:Nat} (K:Int->Option R) (d:∀ k:Nat,k<len->∀(acc:Int) (c:Int×Int->Option R),B c (acc,(k:Int))=K acc\/∃ a,B c (acc,(k:Int))=c (a,((k+1:Nat):Int)))
  (he:∀(acc:Int) (c:Int×Int->Option R),B c (acc,(len:Int))=K acc) {n:Nat} (hn:len<n) (acc:Int):∃ a,qy B n (acc,(0:Int))=K a:=by
 have key:∀(m k:Nat) (acc:Int),k<=len->len - k<m->∃ a,qy B m (acc,(k:Int))=K a:=by
  intro m
  induction m with
  | zero=>intro k _ _ h; omega
  | succ m ih=>
   intro k acc hk hm;rw[xr];by_cases h:k=len
   ·subst h; exact⟨_,he _ _⟩
   rcases d k (by omega) acc (qy B m)with h|⟨a,h⟩
   ·exact⟨_,h⟩
   rw[h]; exact ih (k+1) a (by omega) (by omega)
 exact key n 0 acc (by omega) (by omega)
theorem iA:∀ n:Nat,n<=1099511627776->∀ v:Val,fQ v<n->∃ r,fH n v=some r:=by
 intro n
 induction n with
 | zero=>intro _ v h; omega
 | succ n ih=>
  intro hn v d;obtain⟨f,g,j,m,u,o⟩:=v;have hl:=xz u;simp only[fQ]at d;simp only[fH,tg];obtain⟨a,h⟩:=nP (B:=dA n u (fH n)) (len:=u.length) some
   (fun k hk acc e=>by
    have c:=jf hk;generalize u[k]=y at c;obtain⟨r,hr⟩:=ih (by omega) y (by have:=um (ca c); omega);obtain⟨p,q,t,w,x,z⟩:=y
    right
    simp only[dA,qn,ui hk,kct,zu c,qZ,hr];rw[zM (by omega)];exact⟨_,rfl⟩)
   (fun acc e=>by simp only[dA,qn,xq,kcf]) (n:=n) (by omega) 1
  exact⟨_,h⟩
theorem Xk:∀ n:Nat,n<=1099511627776->∀ x:qf,Qg x<n->∀ m:Int,∃ r,vN n x m=some r:=by
 intro n
 induction n with
 | zero=>intro _ v h; omega
 | succ n ih=>
  intro hn x c m;obtain⟨g,j,⟨C,D,E,F,G,H⟩,o,u⟩:=x;have hl:=fA u;simp only[Qg]at c;obtain⟨p,hp⟩:=iA n (by omega) ⟨C,D,E,F,G,H⟩ (by omega);simp only[vN,th,hp,qZ];obtain⟨a,h⟩:=nP (B:=dI n u m (vN n)) (len:=u.length) some
   (fun k hk acc e=>by
    have c:=jf hk;generalize u[k]=y at c;simp only[dI,xm,ui hk,kct];by_cases d:acc<m
    ·obtain⟨r,hr⟩:=ih (by omega) y (by have:=mT (ca c); omega) (kwr .i64 (m - acc))
     obtain⟨q,t,⟨w,z,I,J,K,L⟩,M,f⟩:=y
     right
     simp only[kdt d,kct,zu c,qZ,hr];rw[zM (by omega)];exact⟨_,rfl⟩
    left; rw[kdf d]; rfl)
   (fun acc e=>by simp only[dI,xm,xq,kcf]) (n:=n) (by omega) _
  exact⟨_,h⟩
theorem pk {n:Nat} (hn:n<=1099511627776) {l:List qf} (h:pd l<n) (m:Int):∃ r,vY n l m=some r:=by
 have hl:=fA l;unfold vY;exact nP (B:=fl n l m) (len:=l.length) some
  (fun k hk acc d=>by
   have a:=jf hk;generalize l[k]=y at a;simp only[fl,xm,ui hk,kct];by_cases c:acc<m
   ·obtain⟨r,hr⟩:=Xk n hn y (by have:=mT (ca a); omega) (kwr .i64 (m - acc))
    obtain⟨f,g,⟨j,o,p,q,t,u⟩,v,e⟩:=y
    right
    simp only[kdt c,kct,zu a,qZ,hr];rw[zM (by omega)];exact⟨_,rfl⟩
   left; rw[kdf c]; rfl)
  (fun acc d=>by simp only[fl,xm,xq,kcf]) (n:=n) (by omega) 0
theorem TT {n:Nat} (hn:n<=1099511627776) {cl:List qE} (h:MS cl<n):∃ r,ng n ⟨cl⟩=some r:=by
 have hlen:=cY Lr ar cl;unfold MS at h;unfold ng;obtain⟨a,e⟩:=nP (B:=dD n cl) (len:=cl.length) (fun acc=>some (decide (acc≥3000)))
  (fun k hk acc q=>by
   have L:=jf hk;generalize cl[k]=c at L;have v:Lr c<n:=by have:=dw Lr (ca L); omega
   simp only[dD,Vc,ui hk,kct];by_cases m:acc<3000
   ·right
    have hp:=cY CY (fun p=>by unfold CY; omega) c.paths
    have w:=cY qdi (fun p=>by unfold qdi; omega) c.items
    have X:=cY iU (fun p=>by unfold iU; omega) c.order
    have Y:=cY iZ (fun p=>by unfold iZ; omega) c.sets
    have mp:∀ p∈c.paths,CY p<n:=fun p hm=>by have:=dw CY hm; unfold Lr Hw at v; omega
    have mi:∀ p∈c.items,Qg p.e<n:=fun p hm=>by have:=dw qdi hm; have e:qdi p=1+p.as_.length+Qg p.e:=rfl; unfold Lr at v; omega
    have mo:∀ p∈c.order,Qg p.e<n:=fun p hm=>by have:=dw iU hm; have e:iU p=1+Qg p.e:=rfl; unfold Lr at v; omega
    have ms:∀ p∈c.sets,Qg p.e<n:=fun p hm=>by have:=dw iZ hm; have e:iZ p=1+p.var_.length+p.key.length+p.label.length+Qg p.e:=rfl; unfold Lr at v; omega
    obtain⟨r1,h1⟩:=Xk n hn c.e (by unfold Lr at v; omega) 3000;obtain⟨r2,h2⟩:=pk hn (l:=c.where_) (by unfold Lr at v; omega) 3000;obtain⟨r3,h3⟩:=pk hn (l:=c.skip) (by unfold Lr at v; omega) 3000;obtain⟨r4,h4⟩:=pk hn (l:=c.limit) (by unfold Lr at v; omega) 3000;unfold Lr Hw at v;obtain⟨x1,E,x6,⟨x7,x8,⟨x9,Z,x11,x12,x13,x14⟩,x15,x16⟩,x17,D,x19,C,x21,x22,u,x24,x25⟩:=c;simp only at hp w X Y mp mi mo ms h1 h2 h3 h4 v;simp only[kdt m,kct,zu L,qZ,h1,h2,h3,h4];have L7:∀ acc:Int,∃ f,qy (gR n u q (k:Int)) n (acc,(0:Int))=q (f,((k+1:Nat):Int)):=fun acc=>nP (B:=gR n u q (k:Int)) (len:=u.length) (fun acc=>q (acc,((k+1:Nat):Int)))
     (fun j t acc g=>by
      have o:=jf t;generalize u[j]=y at o;simp only[gR,qD.rows,jl,ui t,kct];by_cases m:acc<3000
      ·obtain⟨r,hr⟩:=Xk n hn y.e (ms y (ca o)) 3000
       obtain⟨P,z2,z3,⟨F,H,⟨J,M,O,Q,U,V⟩,W,G⟩⟩:=y;simp only at hr
       right
       simp only[kdt m,kct,zu o,qZ,hr];rw[zM (k:=j) (by omega)];exact⟨_,rfl⟩
      left; rw[kdf m,kcf,zM (by omega)])
     (fun acc g=>by
      simp only[gR,qD.rows,jl,xq,kcf];rw[zM (by omega)]) (n:=n) (by omega) acc
    have L6:∀ acc:Int,∃ f,qy (gQ n C u q (k:Int)) n (acc,(0:Int))=q (f,((k+1:Nat):Int)):=fun acc=>by
     obtain⟨a,I⟩:=nP (B:=gQ n C u q (k:Int)) (len:=C.length) (fun acc=>qy (gR n u q (k:Int)) n (acc,(0:Int)))
      (fun j t acc g=>by
       have o:=jf t;generalize C[j]=y at o;simp only[gQ,xf.rows,jl,ui t,kct];by_cases m:acc<3000
       ·obtain⟨r,hr⟩:=Xk n hn y.e (mo y (ca o)) 3000
        obtain⟨⟨F,H,⟨J,M,O,Q,U,V⟩,W,G⟩,P⟩:=y;simp only at hr
        right
        simp only[kdt m,kct,zu o,qZ,hr];rw[zM (k:=j) (by omega)];exact⟨_,rfl⟩
       left; rw[kdf m,kcf])
      (fun acc g=>by simp only[gQ,xf.rows,jl,xq,kcf]) (n:=n) (by omega) acc
     rw[I]; exact L7 a
    have L5:∀ acc:Int,∃ f,qy (gP n D C u q (k:Int)) n (acc,(0:Int))=q (f,((k+1:Nat):Int)):=fun acc=>by
     obtain⟨a,I⟩:=nP (B:=gP n D C u q (k:Int)) (len:=D.length) (fun acc=>qy (gQ n C u q (k:Int)) n (acc,(0:Int)))
      (fun j t acc g=>by
       have o:=jf t;generalize D[j]=y at o;simp only[gP,gO.rows,jl,ui t,kct];by_cases m:acc<3000
       ·obtain⟨r,hr⟩:=Xk n hn y.e (mi y (ca o)) 3000
        obtain⟨⟨F,H,⟨J,M,O,Q,U,V⟩,W,G⟩,P⟩:=y;simp only at hr
        right
        simp only[kdt m,kct,zu o,qZ,hr];rw[zM (k:=j) (by omega)];exact⟨_,rfl⟩
       left; rw[kdf m,kcf])
      (fun acc g=>by simp only[gP,gO.rows,jl,xq,kcf]) (n:=n) (by omega) acc
     rw[I]; exact L6 a
    have L2:∀ acc:Int,∃ f,qy (cd n E D C u q (k:Int)) n (acc,(0:Int))=q (f,((k+1:Nat):Int)):=fun acc=>by
     obtain⟨a,I⟩:=nP (B:=cd n E D C u q (k:Int)) (len:=E.length) (fun acc=>qy (gP n D C u q (k:Int)) n (acc,(0:Int)))
      (fun j t acc g=>by
       have o:=jf t;generalize E[j]=p at o;have K:=mp p (ca o);simp only[cd,GB,ui t,kct];by_cases m:acc<3000
       ·right
        rw[kdt m,kct];obtain⟨nodes,edges⟩:=p;unfold CY at K;simp only at K;have hn1:=cY Qk (fun p=>by unfold Qk; omega) nodes
        have hn2:=cY Qh (fun p=>by unfold Qh; omega) edges
        obtain⟨b,N⟩:=nP (B:=dE n E (j:Int) g) (len:=nodes.length) (fun acc=>qy (cf n E (j:Int) g) n (acc,(0:Int)))
         (fun i w acc x=>by
          have hz:=jf w;generalize nodes[i]=d at hz;have z:Qk d<n:=by have:=dw Qk (ca hz); omega
          simp only[dE,zu o,qZ,ph,ui w,kct];by_cases m:acc<3000
          ·obtain⟨r,hr⟩:=pk hn (l:=d.vals) (by unfold Qk at z; omega) 3000
           obtain⟨d1,d2,d3,d4⟩:=d;simp only at hr
           right
           simp only[kdt m,kct,zu hz,qZ,hr];rw[zM (k:=i) (by omega)];exact⟨_,rfl⟩
          left; rw[kdf m,kcf])
         (fun acc x=>by simp only[dE,zu o,qZ,ph,xq,kcf]) (n:=n) (by omega) acc
        rw[N];exact nP (B:=cf n E (j:Int) g) (len:=edges.length) (fun acc=>g (acc,((j+1:Nat):Int)))
         (fun i w acc x=>by
          have hz:=jf w;generalize edges[i]=d at hz;have z:Qh d<n:=by have:=dw Qh (ca hz); omega
          simp only[cf,zu o,qZ,pe,ui w,kct];by_cases m:acc<3000
          ·obtain⟨r,hr⟩:=pk hn (l:=d.vals) (by unfold Qh at z; omega) 3000
           obtain⟨d1,d2,d3,d4,d5⟩:=d;simp only at hr
           right
           simp only[kdt m,kct,zu hz,qZ,hr];rw[zM (k:=i) (by omega)];exact⟨_,rfl⟩
          left; rw[kdf m,kcf,zM (by omega)])
         (fun acc x=>by
          simp only[cf,zu o,qZ,pe,xq,kcf];rw[zM (by omega)]) (n:=n) (by omega) b
       left; rw[kdf m,kcf])
      (fun acc g=>by simp only[cd,GB,xq,kcf]) (n:=n) (by omega) acc
     rw[I]; exact L5 a
    exact L2 _
   left; rw[kdf m]; rfl)
  (fun acc q=>by simp only[dD,Vc,xq,kcf]) (n:=n) (by omega) 0
 exact⟨_,e⟩
open Go Ax
theorem Rr {e c:Int} {f d:List UInt8} {v w:Val} {q h:List (List UInt8)} {j m:List qf} {S N L:Option Bool} {s a b:Bool} (t:S=some s) (u:s=true↔v=w) (x:N=some a) (y:a=true↔q=h) (z:L=some b) (B:b=true↔j=m) :
  ∃ r,(bnd (qz (bif(e==c)then(f==d)else false) S) fun g=>
   bnd (qz (bif(bif(e==c)then(f==d)else false)then g else false) N) fun o=>
   bnd (qz (bif(bif(bif(e==c)then(f==d)else false)then g else false)then o else false) L) fun p=>
   some (bif(bif(bif(bif(e==c)then(f==d)else false)then g else false)then o else false)then p else false))=some r /\
  (r=true↔qf.mk e f v q j=qf.mk c d w h m):=by
 subst x z t;have e1:(e==c)=true↔e=c:=beq_iff_eq;have e2:(f==d)=true↔f=d:=beq_iff_eq;rw[qf.mk.injEq,← e1,← e2,← u,← B,← y];cases(e==c)<;>cases(f==d)<;>cases s<;>cases a<;>cases b<;>exact⟨_,rfl,by simp⟩
theorem NQ:∀ n:Nat,n<=1099511627776->(∀ v w,Qg v<n->∃ b,xc n v w=some b/\(b=true↔v=w))/\(∀ l l',pd l<n->∃ b,zH n l l'=some b/\(b=true↔l=l')):=by
 intro n
 induction n with
 | zero=>intro _; exact⟨fun _ _ h=>by omega,fun _ _ h=>by omega⟩
 | succ n ih=>
  intro hn;obtain⟨f,g⟩:=ih (by omega);refine⟨fun v w B=>?_,fun l l' hl=>?_⟩
  ·obtain⟨Z,I,⟨C,D,E,F,G,H⟩,J,u⟩:=v
   obtain⟨K,L,⟨O,Q,U,V,W,X⟩,Y,M⟩:=w;have d:pd u<n/\J.length<n/\fQ ⟨C,D,E,F,G,H⟩<n:=by
    have:=vm J;simp only[Qg]at B;have P:=fA u;omega
   obtain⟨s,j,m⟩:=(Us n (by omega)).1 ⟨C,D,E,F,G,H⟩ ⟨O,Q,U,V,W,X⟩ d.2.2;obtain⟨a,o,p⟩:=xO (y:=Y) d.2.1 (by omega);obtain⟨b,q,t⟩:=g u M d.1;simp only[xc,mh];exact Rr j m o p q t
  have hlen:=fA l;simp only[zH,bo];by_cases c:l.length=l'.length
  ·have:((((qf.rows l).length:Nat):Int) != (((qf.rows l').length:Nat):Int))=false:=by simp[c]
   rw[this,kcf];refine Co c (fun k a b N x d=>?_) (fun N=>by simp only[ct,xm,xq,kcf]) (by omega)
   have hk:=mZ x;obtain⟨r,hr,z⟩:=f a b (by have:=mT (ca x); omega);refine⟨r,z,?_⟩;obtain⟨Z,I,⟨C,D,E,F,G,H⟩,J,u⟩:=a;obtain⟨K,L,⟨O,Q,U,V,W,X⟩,Y,M⟩:=b;simp only[ct,xm,ui hk,kct,zu x,zu d,qZ,hr];rw[zM (by omega)];cases r<;>rfl
  ·have:((((qf.rows l).length:Nat):Int) != (((qf.rows l').length:Nat):Int))=true:=by rw[xm,xm]; exact QO.2 c
   rw[this];exact⟨false,rfl,by simp; intro e; exact c (congrArg _ e)⟩
open Go Ax
theorem SQ {A:Type} {B:(Int->Option Bool)->Int->Option Bool} {l l':List A} {e:Bool} (hlen:l.length=l'.length)
  (step:∀(k:Nat) x y c,l[k]? =some x->l'[k]? =some y->∃ b,(b=true↔x=y)/\B c (k:Int)=bif b then c ((k+1:Nat):Int)else some false)
  (a:∀ c,B c (l.length:Int)=some e) {n:Nat} (hn:l.length<n):∃ b,qy B n 0=some b/\(b=true↔l=l'/\e=true):=by
 have main:∀ m k:Nat,k<=l.length->l.length - k<m->∃ b,qy B m (k:Int)=some b/\(b=true↔l.drop k=l'.drop k/\e=true):=by
  intro m
  induction m with
  | zero=>intro k _ h; omega
  | succ m ih=>
   intro k hk hm;rw[xr];by_cases he:k=l.length
   ·subst he
    exact⟨e,a _,by rw[List.drop_length,hlen,List.drop_length]; simp⟩
   have h1:k<l.length:=by omega
   have h2:k<l'.length:=by omega
   obtain⟨b,d,f⟩:=step k _ _ (qy B m) (jf h1) (jf h2);rw[f,jn h1,jn h2,List.cons.injEq,← d];cases b with
   | false=>exact⟨false,rfl,by simp⟩
   | true=>
    obtain⟨b,h3,h4⟩:=ih (k+1) (by omega) (by omega);exact⟨b,h3,by simpa using h4⟩
 obtain⟨b,h1,h2⟩:=main n 0 (by omega) (by omega);exact⟨b,h1,by simpa using h2⟩
theorem MA {n:Nat} (hn:n<=1099511627776) {p q:zL} (h:CY p<n):∃ b,dH n p q=some b/\(b=true↔p=q):=by
 obtain⟨u,C⟩:=p;obtain⟨D,E⟩:=q;have N:=cY Qk HF u;have O:=cY Qh He C;unfold CY at h;simp only at h;simp only[dH,ph,pe,zL.mk.injEq];by_cases h1:u.length=D.length
 ·by_cases h2:C.length=E.length
  ·have e1:(((u.length:Nat):Int) != ((D.length:Nat):Int))=false:=by rw[h1]; simp
   have e2:(((C.length:Nat):Int) != ((E.length:Nat):Int))=false:=by rw[h2]; simp
   rw[e1,e2];obtain⟨e,r,t⟩:=Co (B:=fk n C E) h2 (fun k a b v f w=>by
    have hk:=mZ f;have hm:=dw Qh (ca f);obtain⟨c,a2,a3,a4,a5⟩:=a;obtain⟨d,g,j,z,P⟩:=b;have F:Qh ⟨c,a2,a3,a4,a5⟩=1+c.length+a2.length+rA a4+pd a5:=rfl;rw[F]at hm;have G:=vm a4;obtain⟨m,H,I⟩:=xO (n:=n) (x:=a4) (y:=z) (by omega) hn;obtain⟨o,J,K⟩:=(NQ n hn).2 a5 P (by omega);simp only[fk,pe,ui hk,kct,zu f,zu w,qZ,H,J];rw[zM (by omega)];have e1:(c==d)=true↔c=d:=beq_iff_eq;have e2:(a2==g)=true↔a2=g:=beq_iff_eq;have e3:(a3==j)=true↔a3=j:=beq_iff_eq;rw[qp.mk.injEq,← e1,← e2,← e3,← I,← K,bne];refine⟨(c==d)&&(a2==g)&&(a3==j)&&m&&o,by simp[and_assoc],?_⟩;cases c==d<;>cases a2==g<;>cases a3==j<;>cases m<;>cases o<;>rfl) (fun v=>by simp only[fk,pe,xq,kcf]) (n:=n) (by omega)
   rw[← t];refine SQ h1 (fun k a b v f w=>?_) (fun v=>?_) (by omega)
   ·have hk:=mZ f
    have hm:=dw Qk (ca f);obtain⟨c,a2,a3,a4⟩:=a;obtain⟨d,g,j,z⟩:=b;have F:Qk ⟨c,a2,a3,a4⟩=1+c.length+rA a2+rA a3+pd a4:=rfl;rw[F]at hm;have G:=vm a2;have L:=vm a3;obtain⟨m,H,I⟩:=xO (n:=n) (x:=a2) (y:=g) (by omega) hn;obtain⟨o,J,K⟩:=xO (n:=n) (x:=a3) (y:=j) (by omega) hn;obtain⟨M,Q,U⟩:=(NQ n hn).2 a4 z (by omega);simp only[db,ph,ui hk,kct,zu f,zu w,qZ,H,J,Q];rw[zM (by omega)];have e1:(c==d)=true↔c=d:=beq_iff_eq;rw[ql.mk.injEq,← e1,← I,← K,← U];refine⟨(c==d)&&m&&o&&M,by simp[and_assoc],?_⟩;cases c==d<;>cases m<;>cases o<;>cases M<;>rfl
   ·simp only[db,ph,xq,kcf]
    exact r
  have e2:(((C.length:Nat):Int) != ((E.length:Nat):Int))=true:=QO.2 h2;rw[e2];refine⟨false,?_,?_⟩
  ·cases(((u.length:Nat):Int) != ((D.length:Nat):Int))<;>rfl
  constructor
  ·intro h; cases h
  intro h; exact absurd (congrArg _ h.2) h2
 have e1:(((u.length:Nat):Int) != ((D.length:Nat):Int))=true:=QO.2 h1;rw[e1];refine⟨false,rfl,?_⟩
 constructor
 ·intro h; cases h
 intro h; exact absurd (congrArg _ h.1) h1
open Go Ax
def dgB (m:Nat):UInt8:=UInt8.ofNat (48+m)
def RN (m:Nat):List UInt8:=if h:m<10 then[dgB m]else RN (m / 10)++[dgB (m % 10)]
theorem Cn {m:Nat} (h:m<10):RN m=[dgB m]:=by rw[RN,dif_pos h]
theorem SI {m:Nat} (h:¬ m<10):RN m=RN (m / 10)++[dgB (m % 10)]:=by rw[RN,dif_neg h]
theorem Xt:∀(d m:Nat),m<10 ^ (d+1)->(RN m).length<=d+1/\1<=(RN m).length
 | 0,m,h=>by rw[Cn (by simpa using h)]; simp
 | d+1,m,h=>by
  by_cases hm:m<10
  ·rw[Cn hm]; simp
  rw[SI hm,jb];have:=Xt d (m / 10) (by rw[Nat.div_lt_iff_lt_mul (by decide)]; rw[Nat.pow_succ]at h; exact h);simp only[ja,jc];omega
def qdt (i:Int):List UInt8:=if i<0 then 45::RN (-i).toNat else RN i.toNat
theorem p19:(10:Nat) ^ 19=10000000000000000000:=by decide
theorem eF {i:Int} (a:-9223372036854775808<=i) (h1:i<=9223372036854775807):(qdt i).length<=20:=by
 unfold qdt;split
 ·have:=(Xt 18 (-i).toNat (by rw[p19]; omega)).1
  simp only[ja]; omega
 have:=(Xt 18 i.toNat (by rw[p19]; omega)).1;omega
theorem EC (z:Int) (a:0<=z) (h1:z<18446744073709551616):kwr .u64 z=z:=by
 show z % (2 ^ 64:Int)=z;omega
theorem qab (z:Int) (a:-9223372036854775808<=z) (h1:z<0):kwr .u64 (0 - kwr .u64 z) = -z:=by
 show(0 - z % (2 ^ 64:Int)) % (2 ^ 64:Int) = -z;omega
theorem Fv {A:Type}:∀(b:List A) (k:Nat) (x:A),k<b.length->(b.set k x).drop k=x::b.drop (k+1)
 | [],_,_,h=>by simp at h
 | a::b,0,x,_=>rfl
 | a::b,k+1,x,h=>by simpa using Fv b k x (by simpa using h)
theorem oU {n a:Nat} {b:List UInt8} (c:a<20) (d:b.length=20):mF n ((a:Int),b)=some (b.drop a):=by
 unfold mF;simp only;rw[natI_nat,qZ,gq (kdt c),gq (kdt (by omega))];rw[List.take_of_length_le (by rw[jM]; omega)]
theorem qaw {m:Nat} (h:m<10):([(48:UInt8),(49:UInt8),(50:UInt8),(51:UInt8),(52:UInt8),(53:UInt8),(54:UInt8),(55:UInt8),(56:UInt8),(57:UInt8)]:List UInt8)[m]? =some (dgB m):=by
 have:m=0\/m=1\/m=2\/m=3\/m=4\/m=5\/m=6\/m=7\/m=8\/m=9:=by omega
 rcases this with rfl|rfl|rfl|rfl|rfl|rfl|rfl|rfl|rfl|rfl<;>rfl
def eV (i:Int):List UInt8:=if i<0 then[45]else[]
theorem NK (n:Nat) (i:Int):∀(d m a f:Nat) (b:List UInt8),m<10 ^ (d+1)->d<=18->m<=9223372036854775808->(RN m).length+(eV i).length<=a->a<=20->b.length=20->d+1<=f ->
  qy (mG n i) f ((a:Int),(m:Int),b)=some (eV i++RN m++b.drop a):=by
 intro d;have g:∀(m a:Nat) (b:List UInt8) (t:Int×Int×List UInt8->Option (List UInt8)),m<=9223372036854775808->1<=a->a<=20->b.length=20->(m<10->1+(eV i).length<=a) ->
   mG n i t ((a:Int),(m:Int),b)=(if m<10 then some (eV i++dgB (m % 10)::b.drop a)else t (((a - 1:Nat):Int),((m / 10:Nat):Int),b.set (a - 1) (dgB (m % 10)))):=by
  intro m a b t hm j h o p;have hr:m % 10<10:=Nat.mod_lt _ (by decide);simp only[mG];rw[show Int.tmod (m:Int) 10=((m % 10:Nat):Int)from by rw[Int.ofNat_tmod]; rfl,natI_nat,qZ,gq (kdt hr),qaw hr,qZ];rw[MI (by omega) (by omega),show(a:Int) - 1=((a - 1:Nat):Int)from by omega,natI_nat,qZ,gq (kdt (by omega)),Pg,qZ,gq (kdt (by omega))];have q:(b.set (a - 1) (dgB (m % 10))).length=20:=by rw[List.length_set]; exact o
  have r:(b.set (a - 1) (dgB (m % 10))).drop (a - 1)=dgB (m % 10)::b.drop a:=by
   rw[Fv b (a - 1) _ (by omega),show a - 1+1=a from by omega]
  by_cases c:m<10
  ·have p:=p c
   rw[kdt (by omega:(m:Int)<10),kct,if_pos c];unfold eV at p ⊢;by_cases e:i<0
   ·rw[kdt e,kct,if_pos e]
    rw[if_pos e]at p;simp only[ja,jc]at p;rw[MI (by omega) (by omega),show((a - 1:Nat):Int) - 1=((a - 2:Nat):Int)from by omega,natI_nat,qZ,gq (kdt (by omega)),show u8I (45:Int)=some 45 from rfl,qZ,gq (kdt (by omega))];rw[oU (by omega) (by rw[List.length_set]; exact q),Fv _ (a - 2) _ (by omega),show a - 2+1=a - 1 from by omega,r];rfl
   rw[kdf e,kcf,if_neg e,oU (by omega) q,r];rfl
  rw[kdf (by omega:¬ (m:Int)<10),kcf,if_neg c,show Int.tdiv (m:Int) 10=((m / 10:Nat):Int)from by rw[Int.ofNat_tdiv]; rfl,EC _ (by omega) (by omega)]
 induction d with
 | zero=>
  intro m a f b hm v u j h o hf;obtain⟨f,rfl⟩:=jj (by omega:f≠0);have hm:m<10:=by simpa using hm
  rw[Cn hm]at j ⊢;simp only[ja,jc]at j;rw[xr,g m a b _ u (by omega) h o (fun _=>by omega),if_pos hm,Nat.mod_eq_of_lt hm]
  simp
 | succ d ih=>
  intro m a f b hm v u j h o hf;obtain⟨f,rfl⟩:=jj (by omega:f≠0);have h1:=(Xt (d+1) m hm).2;rw[xr,g m a b _ u (by omega) h o (fun c=>by rw[Cn c]at j; simpa using j)]
  by_cases c:m<10
  ·rw[if_pos c,Cn c,Nat.mod_eq_of_lt c]; simp
  have w:m / 10<10 ^ (d+1):=by rw[Nat.div_lt_iff_lt_mul (by decide)]; rw[Nat.pow_succ]at hm; exact hm
  rw[SI c]at j ⊢;simp only[jb,ja,jc]at j;rw[if_neg c,ih (m / 10) (a - 1) f _ w (by omega) (by omega) (by omega) (by omega) (by rw[List.length_set]; exact o) (by omega),Fv b (a - 1) _ (by omega),show a - 1+1=a from by omega];simp
theorem eG {f:Nat} (hf:400<=f) {i:Int} (d:-9223372036854775808<=i) (h1:i<=9223372036854775807):uZ f i=some (qdt i):=by
 unfold uZ gF;have hl:(List.replicate 20 (0:UInt8)).length=20:=by simp
 have c:(List.replicate 20 (0:UInt8)).drop 20=[]:=rfl;by_cases a:i<0
 ·rw[kdt a,kct,qZ,qab i d a,show -i=(((-i).toNat:Nat):Int)from by omega]
  have hlen:=(Xt 18 (-i).toNat (by rw[p19]; omega)).1;have:=NK f i 18 (-i).toNat 20 f (List.replicate 20 0) (by rw[p19]; omega) (by omega) (by omega) (by unfold eV; rw[if_pos a]; simp only[ja,jc]; omega) (by omega) hl (by omega);rw[c]at this;refine this.trans ?_;unfold eV qdt;rw[if_pos a,if_pos a];simp
 rw[kdf a,kcf,qZ,EC i (by omega) (by omega)];have hlen:=(Xt 18 i.toNat (by rw[p19]; omega)).1;have:=NK f i 18 i.toNat 20 f (List.replicate 20 0) (by rw[p19]; omega) (by omega) (by omega) (by unfold eV; rw[if_neg a]; simp only[jc]; omega) (by omega) hl (by omega);rw[c]at this;rw[show i=((i.toNat:Nat):Int)from by omega]at this ⊢;rw[Int.toNat_natCast]at this;refine this.trans ?_;unfold eV qdt;rw[if_neg (by omega),if_neg (by omega),Int.toNat_natCast];simp
open Go Ax
def ctB (b:UInt8):Bool:=decide (128<=b.toNat/\b.toNat<192)
def Qr:List UInt8->Nat
 | []=>0
 | c::t=>
  if c.toNat<128 then 1
  else if c.toNat<194\/244<c.toNat then 0
  else match t with
   | []=>0
   | d::t2=>
    if ctB d=false then 0
    else if c.toNat<224 then 2
    else match t2 with
     | []=>0
     | e::t3=>
      if ctB e=false\/(c.toNat=224/\d.toNat<160)\/(c.toNat=237/\160<=d.toNat)then 0
      else if c.toNat<240 then 3
      else match t3 with
       | []=>0
       | f::_=>if ctB f=false\/(c.toNat=240/\d.toNat<144)\/(c.toNat=244/\144<=d.toNat)then 0 else 4
theorem Qs (c:UInt8) (t:List UInt8):Qr (c::t)=if c.toNat<128 then 1
  else if c.toNat<194\/244<c.toNat then 0
  else match t with
   | []=>0
   | d::t2=>
    if ctB d=false then 0
    else if c.toNat<224 then 2
    else match t2 with
     | []=>0
     | e::t3=>
      if ctB e=false\/(c.toNat=224/\d.toNat<160)\/(c.toNat=237/\160<=d.toNat)then 0
      else if c.toNat<240 then 3
      else match t3 with
       | []=>0
       | f::_=>if ctB f=false\/(c.toNat=240/\d.toNat<144)\/(c.toNat=244/\144<=d.toNat)then 0 else 4:=rfl
def LR (s:List UInt8):Nat×Nat:=
 let at' (k:Nat):Nat:=((s[k]?).getD 0).toNat
 let cont (k:Nat):Bool:=decide (k<s.length)&&at' k / 64==2
 let b0:=at' 0
 if b0<0x80 then(b0,1)
 else if b0 / 32==6&&cont 1 then
  let c:=(b0 % 32) * 64+at' 1 % 64
  if c≥0x80 then(c,2)else(Utf8.runeError,1)
 else if b0 / 16==14&&cont 1&&cont 2 then
  let c:=(b0 % 16) * 4096+(at' 1 % 64) * 64+at' 2 % 64
  if c≥0x800&&Utf8.valid c then(c,3)else(Utf8.runeError,1)
 else if b0 / 8==30&&cont 1&&cont 2&&cont 3 then
  let c:=(b0 % 8) * 262144+(at' 1 % 64) * 4096+(at' 2 % 64) * 64+at' 3 % 64
  if c≥0x10000&&Utf8.valid c then(c,4)else(Utf8.runeError,1)
 else(Utf8.runeError,1)
theorem oD (l:List UInt8) (i:Nat):Utf8.decode ⟨l.toArray⟩ i=LR (l.drop i):=by
 have h1:∀ k,((⟨l.toArray⟩:ByteArray).get! (i+k)).toNat=(((l.drop i)[k]?).getD 0).toNat:=fun k=>by
  have:(⟨l.toArray⟩:ByteArray).get! (i+k)=l.toArray[i+k]!:=rfl;rw[this,List.getElem?_drop];congr 1;cases h:l[i+k]? with
  | none=>simp[getElem!_def,h]; rfl
  | some b=>simp[getElem!_def,h]
 have h2:∀ k,decide (i+k<(⟨l.toArray⟩:ByteArray).size)=decide (k<(l.drop i).length):=fun k=>by
  rw[ByteArray.size_mk_toArray,jM];exact decide_eq_decide.2 (by omega)
 unfold Utf8.decode LR;simp only[h1,h2]
theorem om {r:Nat} (h:r<55296):Utf8.valid (r:Int)=true:=by
 unfold Utf8.valid;simp only[jO,ji,kde]
 left; omega
theorem Pm {r:Nat} (h1:57344<=r) (h2:r<=1114111):Utf8.valid (r:Int)=true:=by
 unfold Utf8.valid;simp only[jO,ji,kde]
 right; omega
theorem ED {r:Nat} (h:(55296<=r/\r<57344)\/1114111<r):Utf8.valid (r:Int)=false:=by
 unfold Utf8.valid;simp only[jY,Bool.and_eq_false_iff,decide_eq_false_iff_not];omega
theorem bI {b:UInt8}:ctB b=true↔b.toNat / 64=2:=by
 unfold ctB;rw[kde];omega
theorem qav {c:UInt8} {t:List UInt8} (h:c.toNat<128):LR (c::t)=(c.toNat,1):=by
 unfold LR;simp only[jd,jV];rw[if_pos h]
theorem qc7 {c d:UInt8} {t:List UInt8} (h1:194<=c.toNat) (h2:c.toNat<224) (a:ctB d=true):LR (c::d::t)=((c.toNat % 32) * 64+d.toNat % 64,2):=by
 have a:=bI.1 a;unfold LR;simp only[jd,je,jV,ja];rw[if_neg (by omega),if_pos (by simp only[ji,beq_iff_eq,kde]; omega),if_pos (by omega)]
theorem qc8 {c d e:UInt8} {t:List UInt8} (h1:224<=c.toNat) (h2:c.toNat<240) (a:ctB d=true) (he:ctB e=true) (g:¬ (c.toNat=224/\d.toNat<160)) (h:¬ (c.toNat=237/\160<=d.toNat)) :
  LR (c::d::e::t)=((c.toNat % 16) * 4096+(d.toNat % 64) * 64+e.toNat % 64,3):=by
 have a:=bI.1 a;have he:=bI.1 he;unfold LR;simp only[jd,je,jV,ja];rw[if_neg (by omega),if_neg (by simp only[ji,beq_iff_eq,kde]; omega),if_pos (by simp only[ji,beq_iff_eq,kde]; omega)];rw[if_pos];rw[ji,kde];refine⟨by omega,?_⟩;by_cases f:(c.toNat % 16) * 4096+(d.toNat % 64) * 64+e.toNat % 64<55296
 ·exact om f
 exact Pm (by omega) (by omega)
theorem qc9 {c d e f:UInt8} {t:List UInt8} (h1:240<=c.toNat) (h2:c.toNat<245) (a:ctB d=true) (he:ctB e=true) (hf:ctB f=true) (g:¬ (c.toNat=240/\d.toNat<144)) (h:¬ (c.toNat=244/\144<=d.toNat)) :
  LR (c::d::e::f::t)=((c.toNat % 8) * 262144+(d.toNat % 64) * 4096+(e.toNat % 64) * 64+f.toNat % 64,4):=by
 have a:=bI.1 a;have he:=bI.1 he;have hf:=bI.1 hf;unfold LR;simp only[jd,je,jV,ja];rw[if_neg (by omega),if_neg (by simp only[ji,beq_iff_eq,kde]; omega),if_neg (by simp only[ji,beq_iff_eq,kde]; omega),if_pos (by simp only[ji,beq_iff_eq,kde]; omega)];rw[if_pos];rw[ji,kde];exact⟨by omega,Pm (by omega) (by omega)⟩
theorem qc6 {c:UInt8} {t:List UInt8} (r:128<=c.toNat) (g:Qr (c::t)=0):LR (c::t)=(65533,1):=by
 have o:=c.toNat_lt;have he:Utf8.runeError=65533:=rfl;unfold LR;simp only[jd,je,jV,ja,he];rw[if_neg (by omega)];rw[Qs,if_neg (by omega)]at g;split
 ·
  rename_i h1;simp only[ji,beq_iff_eq,kde]at h1;split
  ·rename_i h2
   exfalso;cases t with
   | nil=>simp at h1
   | cons d t=>
    simp only[jd,jV]at h1 h2;rw[if_neg (by omega)]at g;simp only[bI.2 h1.2.2,jQ,if_false]at g;rw[if_pos (by omega)]at g;cases g
  ·rfl
 split
 ·rename_i p h1
  simp only[ji,beq_iff_eq,kde]at h1;split
  ·rename_i h2
   exfalso;rw[ji,kde]at h2;cases t with
   | nil=>simp at h1
   | cons d t=>
    cases t with
    | nil=>simp at h1
    | cons e t=>
     simp only[jd,je,jV]at h1 h2;rw[if_neg (by omega)]at g;simp only[bI.2 h1.1.2.2,bI.2 h1.2.2,jQ,if_false,false_or]at g;rw[if_neg (by omega)]at g;have j:=h2.2;rw[if_neg (by
      rintro(⟨a,b⟩|⟨a,b⟩)
      ·omega
      rw[ED (by left; omega)]at j; cases j),if_pos (by omega)]at g
     cases g
  ·rfl
 split
 ·rename_i q p h1
  simp only[ji,beq_iff_eq,kde]at h1;split
  ·rename_i h2
   exfalso;rw[ji,kde]at h2;cases t with
   | nil=>simp at h1
   | cons d t=>
    cases t with
    | nil=>simp at h1
    | cons e t=>
     cases t with
     | nil=>simp at h1
     | cons f t=>
      simp only[jd,je,jV]at h1 h2;have j:=h2.2;have m:¬ 244<c.toNat:=fun h=>by
       rw[ED (by right; omega)]at j; cases j
      rw[if_neg (by omega)]at g;simp only[bI.2 h1.1.1.2.2,bI.2 h1.1.2.2,bI.2 h1.2.2,jQ,if_false,false_or]at g;rw[if_neg (by omega),if_neg (by omega),if_neg (by omega),if_neg (by
       rintro(⟨a,b⟩|⟨a,b⟩)
       ·omega
       rw[ED (by right; omega)]at j; cases j)]at g
      cases g
  ·rfl
 rfl
open Go Ax
def qco (x:Nat):UInt8:=([48,49,50,51,52,53,54,55,56,57,97,98,99,100,101,102]:List UInt8).getD x 0
def Tm (c:UInt8):List UInt8:=[qco (c.toNat / 16),qco (c.toNat % 16)]
def NP:List UInt8->List UInt8
 | []=>[]
 | c::t=>
  if Qr (c::t)=0\/c.toNat=127 then 92::120::Tm c
  else if c.toNat=39\/c.toNat=92 then[92,c]
  else if c.toNat=10 then[92,110]
  else if c.toNat=9 then[92,116]
  else if c.toNat=13 then[92,114]
  else if c.toNat<32 then 92::120::Tm c
  else(c::t).take (Qr (c::t))
theorem CJ (c:UInt8) (t:List UInt8):NP (c::t)=if Qr (c::t)=0\/c.toNat=127 then 92::120::Tm c
  else if c.toNat=39\/c.toNat=92 then[92,c]
  else if c.toNat=10 then[92,110]
  else if c.toNat=9 then[92,116]
  else if c.toNat=13 then[92,114]
  else if c.toNat<32 then 92::120::Tm c
  else(c::t).take (Qr (c::t)):=rfl
def Lj (s:List UInt8):Nat:=if Qr s=0 then 1 else Qr s
def Zn:Nat->List UInt8->List UInt8
 | 0,_=>[]
 | _+1,[]=>[]
 | g+1,c::t=>NP (c::t)++Zn g ((c::t).drop (Lj (c::t)))
theorem Rl (g:Nat):Zn g []=[]:=by cases g<;>rfl
def HW (s:List UInt8):List UInt8:=39::(Zn s.length s++[39])
theorem Ez (s:List UInt8):Qr s<=4/\Qr s<=s.length:=by
 cases s with
 | nil=>exact⟨by decide,by decide⟩
 | cons c t=>
  rw[Qs];split
  ·exact⟨by decide,by simp only[ja]; omega⟩
  split
  ·exact⟨by decide,by omega⟩
  cases t with
  | nil=>exact⟨jS _,jS _⟩
  | cons d t=>
   simp only;split
   ·exact⟨by decide,by omega⟩
   split
   ·exact⟨by decide,by simp only[ja]; omega⟩
   cases t with
   | nil=>exact⟨jS _,jS _⟩
   | cons e t=>
    simp only;split
    ·exact⟨by decide,by omega⟩
    split
    ·exact⟨by decide,by simp only[ja]; omega⟩
    cases t with
    | nil=>exact⟨jS _,jS _⟩
    | cons f t=>
     simp only;split
     ·exact⟨by decide,by omega⟩
     exact⟨by decide,by simp only[ja]; omega⟩
theorem NX {c:UInt8} {t:List UInt8} (h:c.toNat<128):Qr (c::t)=1:=by rw[Qs,if_pos h]
theorem qb5 {c:UInt8} {t:List UInt8}:1<=Lj (c::t)/\Lj (c::t)<=(c::t).length:=by
 have:=(Ez (c::t)).2;unfold Lj;split
 ·simp
 omega
theorem Rj (s:List UInt8):(NP s).length<=4:=by
 cases s with
 | nil=>simp[NP]
 | cons c t=>
  have:=(Ez (c::t)).1;have a:(Tm c).length=2:=rfl;rw[CJ]
  repeat' split
  all_goals simp only[ja,jc,jt,a]
  all_goals omega
theorem Dr:∀(g:Nat) (s:List UInt8),(Zn g s).length<=4 * g
 | 0,s=>by simp[Zn]
 | g+1,[]=>by simp[Zn]
 | g+1,c::t=>by
  have h1:=Rj (c::t);have h2:=Dr g ((c::t).drop (Lj (c::t)));simp only[Zn,jb];omega
theorem Tn:∀ m:Fin 256,RU 0 ((m.val:Nat):Int)=some [qco (m.val / 16),qco (m.val % 16)] /\
  idx ([48,49,50,51,52,53,54,55,56,57,97,98,99,100,101,102]:List UInt8) (Int.fdiv ((m.val:Nat):Int) (2 ^ (min (Int.toNat (4:Int)) (kbt .u8))))=some (qco (m.val / 16)) /\
  idx ([48,49,50,51,52,53,54,55,56,57,97,98,99,100,101,102]:List UInt8) (kwr .u8 (((jr (kbt .u8) ((m.val:Nat):Int) &&& jr (kbt .u8) (15:Int)).toNat:Nat):Int))=some (qco (m.val % 16)):=by decide +kernel
theorem NO:(∀ x:Fin 32,u8I (kwr .u8 (((jr (kbt .u8) (192:Int) ||| jr (kbt .u8) ((x.val:Nat):Int)).toNat:Nat):Int))=some (UInt8.ofNat (192+x.val))) /\
  (∀ x:Fin 16,u8I (kwr .u8 (((jr (kbt .u8) (224:Int) ||| jr (kbt .u8) ((x.val:Nat):Int)).toNat:Nat):Int))=some (UInt8.ofNat (224+x.val))) /\
  (∀ x:Fin 8,u8I (kwr .u8 (((jr (kbt .u8) (240:Int) ||| jr (kbt .u8) ((x.val:Nat):Int)).toNat:Nat):Int))=some (UInt8.ofNat (240+x.val))) /\
  (∀ y:Fin 256,u8I (kwr .u8 (((jr (kbt .u8) (128:Int) ||| jr (kbt .u8) (kwr .u8 (((jr (kbt .u8) ((y.val:Nat):Int) &&& jr (kbt .u8) (63:Int)).toNat:Nat):Int))).toNat:Nat):Int))=some (UInt8.ofNat (128+y.val % 64))):=by decide +kernel
theorem qg5 {x:Nat} (h:x<32):u8I (kwr .u8 (((jr (kbt .u8) (192:Int) ||| jr (kbt .u8) ((x:Nat):Int)).toNat:Nat):Int))=some (UInt8.ofNat (192+x)):=NO.1 ⟨x,h⟩
theorem qg6 {x:Nat} (h:x<16):u8I (kwr .u8 (((jr (kbt .u8) (224:Int) ||| jr (kbt .u8) ((x:Nat):Int)).toNat:Nat):Int))=some (UInt8.ofNat (224+x)):=NO.2.1 ⟨x,h⟩
theorem qg7 {x:Nat} (h:x<8):u8I (kwr .u8 (((jr (kbt .u8) (240:Int) ||| jr (kbt .u8) ((x:Nat):Int)).toNat:Nat):Int))=some (UInt8.ofNat (240+x)):=NO.2.2.1 ⟨x,h⟩
theorem qcp {y:Nat} (h:y<256):u8I (kwr .u8 (((jr (kbt .u8) (128:Int) ||| jr (kbt .u8) (kwr .u8 (((jr (kbt .u8) ((y:Nat):Int) &&& jr (kbt .u8) (63:Int)).toNat:Nat):Int))).toNat:Nat):Int))=some (UInt8.ofNat (128+y % 64)):=NO.2.2.2 ⟨y,h⟩
theorem fdn (r k:Nat):Int.fdiv (r:Int) ((k:Nat):Int)=((r / k:Nat):Int):=by
 rw[Int.fdiv_eq_ediv_of_nonneg _ (by omega)]; rfl
theorem fd6 (r:Nat):Int.fdiv (r:Int) (2 ^ (min (Int.toNat (6:Int)) (kbt .i32)))=((r / 64:Nat):Int):=fdn r 64
theorem qgb (r:Nat):Int.fdiv (r:Int) (2 ^ (min (Int.toNat (12:Int)) (kbt .i32)))=((r / 4096:Nat):Int):=fdn r 4096
theorem qg3 (r:Nat):Int.fdiv (r:Int) (2 ^ (min (Int.toNat (18:Int)) (kbt .i32)))=((r / 262144:Nat):Int):=fdn r 262144
theorem u8w (r:Nat):kwr .u8 (r:Int)=((r % 256:Nat):Int):=by
 show(r:Int) % (2 ^ 8:Int)=_;omega
theorem qgm {r:Nat} (h:r<4294967296):kwr .u32 (r:Int)=(r:Int):=by
 show(r:Int) % (2 ^ 32:Int)=_;omega
theorem bOf {m:Nat} {c:UInt8} (h:m=c.toNat):UInt8.ofNat m=c:=by subst h; exact UInt8.ofNat_toNat
open Go Ax
theorem iC (n:Nat) (s p:List UInt8):vT n s p=some (decide (p.length<=s.length)&&s.take p.length==p):=by
 unfold vT xw;by_cases h:p.length<=s.length
 ·rw[kdt (by omega:((s.length:Nat):Int)≥((p.length:Nat):Int)),kdt h]
  simp only[natI_nat,fP,qZ,kct];rw[gq (kdt h)];rfl
 rw[kdf (by omega:¬ ((s.length:Nat):Int)≥((p.length:Nat):Int)),kdf h];rfl
theorem aA {c:UInt8} {t:List UInt8} {k:Nat} (hk:Qr (c::t)=k+2):∃ r:Nat,LR (c::t)=(r,k+2)/\128<=r/\r<=1114111/\194<=c.toNat /\
  ((k=0/\r<=2047/\(c::t).take 2=[UInt8.ofNat (192+r / 64 % 256),UInt8.ofNat (128+r % 256 % 64)]) \/
   (k=1/\2048<=r/\r<=65535/\(r<55296\/57343<r)/\(c::t).take 3=[UInt8.ofNat (224+r / 4096 % 256),UInt8.ofNat (128+r / 64 % 256 % 64),UInt8.ofNat (128+r % 256 % 64)]/\(r=65533->(c::t).take 3=[239,191,189])) \/
   (k=2/\65536<=r/\(c::t).take 4=[UInt8.ofNat (240+r / 262144 % 256),UInt8.ofNat (128+r / 4096 % 256 % 64),UInt8.ofNat (128+r / 64 % 256 % 64),UInt8.ofNat (128+r % 256 % 64)])):=by
 rw[Qs]at hk;split at hk
 ·omega
 rename_i v;split at hk
 ·omega
 rename_i w;cases t with
 | nil=>cases hk
 | cons d t=>
  simp only at hk;split at hk
  ·omega
  rename_i a;simp only[Bool.not_eq_false]at a;have D:=bI.1 a;have x:=d.toNat_lt;split at hk
  ·rename_i j
   obtain rfl:k=0:=by omega
   refine⟨_,qc7 (by omega) j a,by omega,by omega,by omega,.inl ⟨rfl,by omega,?_⟩⟩;rw[bOf (c:=c) (by omega),bOf (c:=d) (by omega)];rfl
  rename_i j;cases t with
  | nil=>cases hk
  | cons e t=>
   simp only at hk;split at hk
   ·omega
   rename_i g;simp only[not_or,Bool.not_eq_false]at g;obtain⟨o,y,z⟩:=g;have he:=bI.1 o;have B:=e.toNat_lt;split at hk
   ·rename_i m
    obtain rfl:k=1:=by omega
    refine⟨_,qc8 (by omega) m a o y z,by omega,by omega,by omega,.inr (.inl ⟨rfl,by omega,by omega,by omega,?_,fun h=>?_⟩)⟩
    ·rw[bOf (c:=c) (by omega),bOf (c:=d) (by omega),bOf (c:=e) (by omega)]
     rfl
    have e1:c=239:=jT.1 (by show c.toNat=239; omega);have e2:d=191:=jT.1 (by show d.toNat=191; omega);have e3:e=189:=jT.1 (by show e.toNat=189; omega);rw[e1,e2,e3];rfl
   rename_i m;cases t with
   | nil=>cases hk
   | cons f t=>
    simp only at hk;split at hk
    ·omega
    rename_i g;simp only[not_or,Bool.not_eq_false]at g;obtain⟨p,q,u⟩:=g;have hf:=bI.1 p;have C:=f.toNat_lt;obtain rfl:k=2:=by omega
    refine⟨_,qc9 (by omega) (by omega) a o p q u,by omega,by omega,by omega,.inr (.inr ⟨rfl,by omega,?_⟩)⟩;rw[bOf (c:=c) (by omega),bOf (c:=d) (by omega),bOf (c:=e) (by omega),bOf (c:=f) (by omega)];rfl
theorem eY {t:List UInt8}:Qr ((239:UInt8)::191::189::t)=3:=rfl
theorem qfa {s:List UInt8} (h:s.length<=137438953472):decide ((qo s).length * 1<=140737488355328)=true:=kdt (by rw[EO]; omega)
section
variable {n:Nat} {l:List UInt8} (hl:8 * l.length+64<=137438953472)
include hl
theorem iP:∀(g i f:Nat) (acc:List UInt8),i<=l.length->l.length - i<=g->l.length - i<f->acc.length+4 * (l.length - i)<=4 * l.length+16 ->
  qy (vA n l) f (acc,i)=some (acc++(Zn g (l.drop i)++[39])):=by
 intro g;have J:∀(acc:List UInt8) (U:List UInt8×Nat->Option (List UInt8)),acc.length<=4 * l.length+16->vA n l U (acc,l.length)=some (acc++[39]):=by
  intro acc U ha;unfold vA
  dsimp only
  rw[kdf (jR _),kcf,gq (qfa (by rw[jb]; simp only[ja,jc]; omega))]
 induction g with
 | zero=>
  intro i f acc hi hg hf ha;obtain⟨f,rfl⟩:=jj (by omega:f≠0);have:i=l.length:=by omega
  subst this;rw[xr,J acc _ (by omega)];rfl
 | succ g ih=>
  intro i f acc hi hg hf ha;obtain⟨f,rfl⟩:=jj (by omega:f≠0);rw[xr];by_cases he:i=l.length
  ·subst he
   rw[List.drop_length,Rl,J acc _ (by omega)];rfl
  have x:i<l.length:=by omega
  have hx:=jf x;have L:l.drop i=l[i]::l.drop (i+1):=jn x;have hstp:=qb5 (c:=l[i]) (t:=l.drop (i+1));have V:=Ez (l[i]::l.drop (i+1));have hlen:(l[i]::l.drop (i+1)).length=l.length - i:=by rw[← L,jM]
  have a:∀(p:List UInt8) (j:Nat),p.length<=4->j=i+Lj (l[i]::l.drop (i+1))->qy (vA n l) f (acc++p,j)=some (acc++(p++Zn g ((l[i]::l.drop (i+1)).drop (Lj (l[i]::l.drop (i+1))))++[39])):=by
   intro p j hp hj;subst hj;rw[ih (i+Lj (l[i]::l.drop (i+1))) f (acc++p) (by omega) (by omega) (by omega) (by rw[jb]; omega)];rw[← L,List.drop_drop];simp
  have M:qK l i=(LR (l[i]::l.drop (i+1))).1:=by unfold qK; rw[oD,L]
  have N:zY l i=i+(LR (l[i]::l.drop (i+1))).2:=by unfold zY; rw[oD,L]
  have y:=iC n (l.drop i) [239,191,189];rw[L]at y ⊢;rw[Zn];generalize hcc:l[i]=c at *;generalize htt:l.drop (i+1)=t at *;generalize qy (vA n l) f=U at a ⊢;have hhl:(Tm c).length=2:=rfl;have O:=c.toNat_lt;have v:∀ p:List UInt8,p.length<=8->decide ((qo (acc++p)).length * 1<=140737488355328)=true:=fun p hp=>qfa (by rw[jb]; omega)
  have X:=(Tn ⟨c.toNat,O⟩).2.1;have Y:=(Tn ⟨c.toNat,O⟩).2.2;simp only at X Y;have z:∀ j,j=i+Lj (c::t)->(chk (decide ((qo (acc++([92,120]:List UInt8))).length * 1<=140737488355328)) (
    bnd (idx ([48,49,50,51,52,53,54,55,56,57,97,98,99,100,101,102]:List UInt8) (Int.fdiv ((c.toNat:Nat):Int) (2 ^ (min (Int.toNat (4:Int)) (kbt .u8))))) fun u=>
    chk (decide ((qo ((acc++([92,120]:List UInt8))++[u])).length * 1<=140737488355328)) (
    bnd (idx ([48,49,50,51,52,53,54,55,56,57,97,98,99,100,101,102]:List UInt8) (kwr .u8 (((jr (kbt .u8) ((c.toNat:Nat):Int) &&& jr (kbt .u8) (15:Int)).toNat:Nat):Int))) fun E=>
    chk (decide ((qo (((acc++([92,120]:List UInt8))++[u])++[E])).length * 1<=140737488355328)) (
    U ((((acc++([92,120]:List UInt8))++[u])++[E]),j)))))=some (acc++(92::120::Tm c++Zn g ((c::t).drop (Lj (c::t)))++[39])):=by
   intro j hj;rw[gq (v _ (by simp)),X,qZ,js,gq (v _ (by simp)),Y,qZ,js,gq (v _ (by simp))];exact a (92::120::Tm c) j (by simp[hhl]) hj
  unfold vA
  dsimp only
  rw[kdt x,kct,kct,M,N,CJ];have Z:idx l ((i:Nat):Int)=some c:=zu hx;by_cases G:Qr (c::t)=0
  ·
   have o:128<=c.toNat:=Decidable.byContradiction fun h=>by rw[NX (by omega)]at G; cases G
   have hnp:(decide ((([239,191,189]:List UInt8).length)<=(c::t).length)&&(c::t).take (([239,191,189]:List UInt8).length)==([239,191,189]:List UInt8))=false:=by
    cases w:(decide ((([239,191,189]:List UInt8).length)<=(c::t).length)&&(c::t).take (([239,191,189]:List UInt8).length)==([239,191,189]:List UInt8))with
    | false=>rfl
    | true=>
     exfalso;simp only[ji,kde,beq_iff_eq]at w;have e:=w.2
     match t,w.1 with
     | d::e'::t',_=>
      simp only[ja,jc,List.take_succ_cons,List.take_zero,List.cons.injEq,and_true]at e;obtain⟨rfl,rfl,rfl⟩:=e;rw[eY]at G;cases G
   have m:Lj (c::t)=1:=by unfold Lj; rw[if_pos G]
   rw[if_pos (.inl G),qc6 o G];simp only;rw[show(bif(((65533:Nat):Int)==92)then true else(((65533:Nat):Int)==39))=false from rfl,kcf,show(((65533:Nat):Int)==10)=false from rfl,kcf,show(((65533:Nat):Int)==9)=false from rfl,kcf,show(((65533:Nat):Int)==13)=false from rfl,kcf];rw[show((!(bif decide (((65533:Nat):Int)<32)then true else(((65533:Nat):Int)==127)))&&(((65533:Nat):Int)==65533))=true from rfl,natI_nat,fP,qZ,kct,gq (kdt hi),L,y,hnp,fP,qZ];rw[show(bif(bif decide (((65533:Nat):Int)<32)then true else(((65533:Nat):Int)==127))then true else(bif(((65533:Nat):Int)==65533)then(!false)else false))=true from rfl,kct,Z,qZ];exact z _ (by rw[m])
  by_cases o:c.toNat<128
  ·have h1:Qr (c::t)=1:=NX o
   have m:Lj (c::t)=1:=by unfold Lj; rw[if_neg G,h1]
   have hu:kwr .u32 ((c.toNat:Nat):Int)=((c.toNat:Nat):Int):=qgm (by omega);have hu8:u8I (kwr .u8 ((c.toNat:Nat):Int))=some c:=by rw[u8w,Nat.mod_eq_of_lt O]; exact Pg c
   rw[qav o];simp only;rw[hu];by_cases P:c.toNat=39\/c.toNat=92
   ·rw[if_neg (by omega),if_pos P]
    rw[show(bif(((c.toNat:Nat):Int)==92)then true else(((c.toNat:Nat):Int)==39))=true from by rcases P with h|h<;>rw[h]<;>rfl,kct,gq (v _ (by simp)),kdt (by omega:((c.toNat:Nat):Int)<=127),kct,hu8,qZ,js,gq (v _ (by simp))]
    exact a [92,c] _ (by simp) (by rw[m])
   simp only[not_or]at P;rw[show(bif(((c.toNat:Nat):Int)==92)then true else(((c.toNat:Nat):Int)==39))=false from by
    rw[show(((c.toNat:Nat):Int)==92)=false from by rw[kbf]; omega,show(((c.toNat:Nat):Int)==39)=false from by rw[kbf]; omega]; rfl,kcf]
   by_cases q:c.toNat=10
   ·rw[if_neg (by omega),if_neg (by omega),if_pos q,show(((c.toNat:Nat):Int)==10)=true from by rw[q]; rfl,kct,gq (v _ (by simp))]
    exact a [92,110] _ (by simp) (by rw[m])
   rw[show(((c.toNat:Nat):Int)==10)=false from by rw[kbf]; omega,kcf];by_cases h9:c.toNat=9
   ·rw[if_neg (by omega),if_neg (by omega),if_neg q,if_pos h9,show(((c.toNat:Nat):Int)==9)=true from by rw[h9]; rfl,kct,gq (v _ (by simp))]
    exact a [92,116] _ (by simp) (by rw[m])
   rw[show(((c.toNat:Nat):Int)==9)=false from by rw[kbf]; omega,kcf];by_cases H:c.toNat=13
   ·rw[if_neg (by omega),if_neg (by omega),if_neg q,if_neg h9,if_pos H,show(((c.toNat:Nat):Int)==13)=true from by rw[H]; rfl,kct,gq (v _ (by simp))]
    exact a [92,114] _ (by simp) (by rw[m])
   rw[show(((c.toNat:Nat):Int)==13)=false from by rw[kbf]; omega,kcf];have I:(((c.toNat:Nat):Int)==65533)=false:=by rw[kbf]; omega
   rw[I,Bool.and_false];simp only[qz,kcf,qZ];rw[gq (by rfl:true=true)];by_cases Q:c.toNat<32\/c.toNat=127
   ·rw[show(bif(bif decide (((c.toNat:Nat):Int)<32)then true else(((c.toNat:Nat):Int)==127))then true else false)=true from by
     rcases Q with h|h
     ·rw[kdt (by omega:((c.toNat:Nat):Int)<32)]; rfl
     rw[h]; rfl,kct,Z,qZ]
    have hpc:(if Qr (c::t)=0\/c.toNat=127 then 92::120::Tm c
      else if c.toNat=39\/c.toNat=92 then[92,c]
      else if c.toNat=10 then[92,110]
      else if c.toNat=9 then[92,116]
      else if c.toNat=13 then[92,114]
      else if c.toNat<32 then 92::120::Tm c
      else(c::t).take (Qr (c::t)))=92::120::Tm c:=by
     by_cases h127:c.toNat=127
     ·rw[if_pos (.inr h127)]
     rw[if_neg (by omega),if_neg (by omega),if_neg q,if_neg h9,if_neg H,if_pos (by omega)]
    rw[hpc];exact z _ (by rw[m])
   simp only[not_or]at Q;rw[show(bif(bif decide (((c.toNat:Nat):Int)<32)then true else(((c.toNat:Nat):Int)==127))then true else false)=false from by
    rw[kdf (by omega:¬ ((c.toNat:Nat):Int)<32),show(((c.toNat:Nat):Int)==127)=false from by rw[kbf]; omega]; rfl,kcf]
   rw[kdt (by omega:((c.toNat:Nat):Int)<=127),kct,hu8,qZ,gq (v _ (by simp))];rw[if_neg (by omega),if_neg (by omega),if_neg q,if_neg h9,if_neg H,if_neg Q.1,h1];exact a [c] _ (by simp) (by rw[m])
  
  have h1:Qr (c::t)≠1:=fun h=>by
   rw[Qs,if_neg o]at h;split at h
   ·cases h
   split at h
   ·cases h
   split at h
   ·cases h
   split at h
   ·cases h
   split at h
   ·cases h
   split at h
   ·cases h
   split at h
   ·cases h
   split at h
   ·cases h
   split at h<;>cases h
  obtain⟨k,hk⟩:∃ k,Qr (c::t)=k+2:=⟨Qr (c::t) - 2,by omega⟩;obtain⟨r,hr,hr128,hrm,hc194,B⟩:=aA hk;have m:Lj (c::t)=k+2:=by unfold Lj; rw[if_neg G,hk]
  have hu:kwr .u32 ((r:Nat):Int)=((r:Nat):Int):=qgm (by omega);rw[hr];simp only;rw[hu];rw[if_neg (by omega),if_neg (by omega),if_neg (by omega),if_neg (by omega),if_neg (by omega),if_neg (by omega),hk];rw[show(bif(((r:Nat):Int)==92)then true else(((r:Nat):Int)==39))=false from by
   rw[show(((r:Nat):Int)==92)=false from by rw[kbf]; omega,show(((r:Nat):Int)==39)=false from by rw[kbf]; omega]; rfl,kcf,show(((r:Nat):Int)==10)=false from by rw[kbf]; omega,kcf,show(((r:Nat):Int)==9)=false from by rw[kbf]; omega,kcf,show(((r:Nat):Int)==13)=false from by rw[kbf]; omega,kcf]
  have hlow:(bif decide (((r:Nat):Int)<32)then true else(((r:Nat):Int)==127))=false:=by
   rw[kdf (by omega:¬ ((r:Nat):Int)<32),show(((r:Nat):Int)==127)=false from by rw[kbf]; omega]; rfl
  rw[hlow];have hgo:∀(K:Option (List UInt8)) (C:UInt8->Option (List UInt8)),(bnd (qz ((!false)&&(((r:Nat):Int)==65533)) (pY ((i:Nat):Int))) fun D=>
    chk (bif((!false)&&(((r:Nat):Int)==65533))then decide (D<=l.length)else true) (
    bnd (qz ((!false)&&(((r:Nat):Int)==65533)) (vT n (l.drop D) ([239,191,189]:List UInt8))) fun F=>
    bif(bif false then true else(bif(((r:Nat):Int)==65533)then(!F)else false))then(bnd (idx l ((i:Nat):Int)) C)else K))=K:=by
   intro K C;by_cases I:r=65533
   ·have hp3:(decide ((([239,191,189]:List UInt8).length)<=(c::t).length)&&(c::t).take (([239,191,189]:List UInt8).length)==([239,191,189]:List UInt8))=true:=by
     rcases B with ⟨_,h,_⟩|⟨hk1,_,_,_,_,h⟩|⟨_,h,_⟩
     ·omega
     ·have h3:=h I
      have hle:=V.2;rw[hk,hk1]at hle;simp only[ji,kde,beq_iff_eq];exact⟨hle,h3⟩
     omega
    subst I;rw[show((!false)&&(((65533:Nat):Int)==65533))=true from rfl,natI_nat,fP,qZ,kct,gq (kdt hi),L,y,hp3,fP,qZ];rfl
   have:(((r:Nat):Int)==65533)=false:=by rw[kbf]; omega
   rw[this];rfl
  rw[hgo];rw[kdf (by omega:¬ ((r:Nat):Int)<=127),kcf];rcases B with ⟨rfl,hr1,w⟩|⟨rfl,hr1,hr2,hr3,w,_⟩|⟨rfl,hr1,w⟩
  ·rw[kdt (by omega:((r:Nat):Int)<=2047),kct,fd6,u8w (r / 64),qg5 (by omega),qZ,u8w r,qcp (by omega),qZ,gq (v _ (by simp))]
   have:=a ((c::t).take 2) (i+(0+2)) (by rw[jt]; omega) (by rw[m]);rw[w]at this;rw[show(c::t).take (0+2)=[UInt8.ofNat (192+r / 64 % 256),UInt8.ofNat (128+r % 256 % 64)]from w];exact this
  ·rw[kdf (by omega:¬ ((r:Nat):Int)<=2047),kcf]
   have hk6:gm n l i acc U true=some (acc++((c::t).take (1+2)++Zn g ((c::t).drop (Lj (c::t)))++[39])):=by
    unfold gm;rw[kct,kdt x,kct,M,N,hr]
    dsimp only
    rw[qgb,u8w (r / 4096),qg6 (by omega),qZ,fd6,u8w (r / 64),qcp (by omega),qZ,u8w r,qcp (by omega),qZ,gq (v _ (by simp))];have:=a ((c::t).take 3) (i+(1+2)) (by rw[jt]; omega) (by rw[m]);rw[w]at this;rw[show(c::t).take (1+2)=[UInt8.ofNat (224+r / 4096 % 256),UInt8.ofNat (128+r / 64 % 256 % 64),UInt8.ofNat (128+r % 256 % 64)]from w];exact this
   by_cases hs:r<55296
   ·rw[kdt (by omega:((r:Nat):Int)<55296),kct]
    exact hk6
   rw[kdf (by omega:¬ ((r:Nat):Int)<55296),kcf,kdt (by omega:(57343:Int)<((r:Nat):Int)),kct,kdt (by omega:((r:Nat):Int)<=65535)];exact hk6
  rw[kdf (by omega:¬ ((r:Nat):Int)<=2047),kcf,kdf (by omega:¬ ((r:Nat):Int)<55296),kcf,kdt (by omega:(57343:Int)<((r:Nat):Int)),kct,kdf (by omega:¬ ((r:Nat):Int)<=65535)];unfold gm;rw[kcf,kdt x,kct,M,N,hr]
  dsimp only
  rw[hu,kdt (by omega:((r:Nat):Int)>65535),kct,kdt (by omega:((r:Nat):Int)<=1114111),kct];rw[qg3,u8w (r / 262144),qg7 (by omega),qZ,qgb,u8w (r / 4096),qcp (by omega),qZ,fd6,u8w (r / 64),qcp (by omega),qZ,u8w r,qcp (by omega),qZ,gq (v _ (by simp))];have:=a ((c::t).take 4) (i+(2+2)) (by rw[jt]; omega) (by rw[m]);rw[w]at this;rw[show(c::t).take (2+2)=[UInt8.ofNat (240+r / 262144 % 256),UInt8.ofNat (128+r / 4096 % 256 % 64),UInt8.ofNat (128+r / 64 % 256 % 64),UInt8.ofNat (128+r % 256 % 64)]from w];exact this
theorem Dx (hn:l.length<n):cN n l=some (HW l):=by
 unfold cN HW;rw[gq (qfa (by simp))];have:=iP (n:=n) hl l.length 0 n [39] (by omega) (by omega) (by omega) (by simp only[ja,jc]; omega);exact this
end
open Go Ax
theorem vn {A R:Type} (a:A) (k:A->Option R):bnd (some a) k=k a:=by
 generalize h:some a=o;cases h;rfl
theorem xM {A:Type} (a b:A):(bif true then a else b)=a:=by
 generalize h:true=o;cases h;rfl
theorem qV {A:Type} (a b:A):(bif false then a else b)=b:=by
 generalize h:false=o;cases h;rfl
def qe6 (s:List UInt8):List UInt8:=bif CB s then s else HW s
theorem Ds (s:List UInt8):(HW s).length<=4 * s.length+2:=by
 have:=Dr s.length s;simp only[HW,ja,jb,jc]; omega
theorem oo (s:List UInt8):(qe6 s).length<=4 * s.length+2:=by
 unfold qe6;have:=Ds s;cases CB s with
 | true=>simp only[kct]; omega
 | false=>exact this
section
variable {n:Nat} (hn:n<=1099511627776)
include hn
theorem eW {s:List UInt8} (h:s.length<n) (a:s.length<=1073741824):bV n s=some (qe6 s):=by
 unfold bV qe6;rw[Bq h,qZ,Dx (by omega) h];cases CB s<;>rfl
end
theorem Ny (sep:List UInt8) (c:sep.length=2):∀ a:List (List UInt8),(Lib.join a sep).length<=(a.map fun x=>x.length+2).sum
 | []=>by simp[Lib.join,List.intercalate]
 | [y]=>by simp[Lib.join,List.intercalate]
 | y::z::a=>by
  have:=Ny sep c (z::a);simp only[Lib.join,List.intercalate,List.intersperse_cons₂,List.flatten_cons,jb,jk,jA]at this ⊢;omega
open Go Ax
theorem lh {A:Type} {l:List A} {i:Nat} {x:A} (h:l[i]? =some x):l.take i++[x]=l.take (i+1):=by rw[List.take_succ,h]; rfl
open Go Ax
theorem Sw:∀ a b:List UInt8,Op.bytesLess a b=decide (a<b)
 | [],[]=>by simp[Op.bytesLess]
 | [],_::_=>by simp[Op.bytesLess]
 | _::_,[]=>by simp[Op.bytesLess]
 | x::xs,y::ys=>by
  have ih:=Sw xs ys;simp only[Op.bytesLess,ih];by_cases h:x<y
  ·simp[h,List.cons_lt_cons_iff]
  by_cases h2:x=y
  ·subst h2; simp[List.cons_lt_cons_iff]
  simp[h,h2,List.cons_lt_cons_iff]
theorem ET {a b c:List UInt8} (h:a<b) (d:b<c):a<c:=List.lt_trans h d
theorem US (a:List UInt8):¬ a<a:=List.lt_irrefl a
def Gp (ks:List (List UInt8)):Prop:=∀(i:Nat) (x y:List UInt8),ks[i]? =some x->ks[i+1]? =some y->x<y
theorem Gp.lt {ks:List (List UInt8)} (h:Gp ks):∀(d i:Nat) (x y:List UInt8),ks[i]? =some x->ks[i+d+1]? =some y->x<y
 | 0,i,x,y,hx,hy=>h i x y hx hy
 | d+1,i,x,y,hx,hy=>by
  have hl:=mZ hy;obtain⟨z,hz⟩:∃ z,ks[i+d+1]? =some z:=⟨_,jf (by omega)⟩;exact ET (h.lt d i x z hx hz) (h _ z y hz (by rw[← hy]; congr 1))
theorem Gp.lt' {ks:List (List UInt8)} (h:Gp ks) {i j:Nat} {x y:List UInt8} (a:i<j) (c:ks[i]? =some x) (e:ks[j]? =some y):x<y:=by
 obtain⟨d,rfl⟩:=Nat.exists_eq_add_of_lt a;exact h.lt d i x y c e
theorem qQ {A R:Type} {o:Option A} {k:A->Option R} {r:R} (h:bnd o k=some r):∃ a,o=some a/\k a=some r:=by
 cases o with
 | none=>cases h
 | some a=>exact⟨a,rfl,h⟩
open Go Ax Go.RowKit
set_option maxRecDepth 10000
theorem eU {A:Type} {l:List A} {i:Nat} {x:A} (h:l[i]? =some x):l.set i x=l:=by
 obtain⟨a,e⟩:=jG.1 h;subst e;exact List.set_getElem_self a
theorem Cm:∀ n:Nat,n<=1099511627776->∀ v:Val,fQ v<n->zG n v=some v:=by
 intro n
 induction n with
 | zero=>intro _ _ h; omega
 | succ n ih=>
  intro hn v e;obtain⟨D,E,F,G,u,C⟩:=v;have g:vo u<n/\C.length<n:=by
   have:=vm C;simp only[rA]at this;simp only[fQ]at e;omega
  have hl:=xz u;have a:∀ k:Nat,(Val.rows (List.replicate k (Val.mk (0:Int) false (0:Int) ([]:List UInt8) ([]:List Val) ([]:List (List UInt8))))).length=k:=fun k=>by simp
  have loop:∀(m i:Nat),i<=u.length->u.length - i<m->qy (ft n u.length (zG n) C D E F G) m ((i:Int),u)=some (Val.mk D E F G u C):=by
   intro m
   induction m with
   | zero=>intro i _ h; omega
   | succ m ihm=>
    intro i j hm;rw[xr];generalize qy (ft n u.length (zG n) C D E F G) m=nx at ihm ⊢;unfold ft;simp only[a];by_cases c:i<u.length
    ·obtain⟨x,d⟩:∃ x,u[i]? =some x:=⟨_,jf c⟩
     have f:=ih (by omega) x (by have:=um (List.mem_of_getElem? d); omega);obtain⟨o,a2,a3,a4,a5,p⟩:=x;rw[kdt (show(i:Int)<(u.length:Int) by omega)];simp only[kct,W.natI_nat,qZ,kdt c,qc3,d,f];rw[zM (by omega),eU d];exact ihm (i+1) (by omega) (by omega)
    rw[kdf (show ¬ (i:Int)<(u.length:Int) by omega)];simp only[kcf];rw[UW (by simp[qv]; omega)]
  simp only[zG,rh,qn,W.natI_nat,qZ,List.length_replicate,decide_true,qc3];rw[UW (by omega)];exact loop n 0 (jS _) (by omega)
theorem LD {R:Type} {B:(Int×Int->Option R)->Int×Int->Option R} (P:Nat->Bool) (len:Nat) (hmono:∀ a b,a<=b->b<len->P b=true->P a=true)
  (g:∀ i j:Nat,i<j->j<=len->∀ c,B c ((i:Int),(j:Int))=bif P ((i+j) / 2)then c ((((i+j) / 2+1:Nat):Int),(j:Int))else c ((i:Int),(((i+j) / 2:Nat):Int)))
  {rest:Nat->Option R} (he:∀ i:Nat,i<=len->∀ c,B c ((i:Int),(i:Int))=rest i) {n:Nat} (hn:len<n) :
  ∃ i:Nat,i<=len/\(∀ a,a<i->P a=true)/\(∀ a,i<=a->a<len->P a=false)/\qy B n ((0:Int),(len:Int))=rest i:=by
 have key:∀(m i j:Nat),i<=j->j<=len->j - i<m->(∀ a,a<i->P a=true)->(∀ a,j<=a->a<len->P a=false) ->
   ∃ q:Nat,q<=len/\(∀ a,a<q->P a=true)/\(∀ a,q<=a->a<len->P a=false)/\qy B m ((i:Int),(j:Int))=rest q:=by
  intro m
  induction m with
  | zero=>intro i j _ _ h; omega
  | succ m ih=>
   intro i j o d hm h1 h2;rw[xr];by_cases h:i=j
   ·subst h
    exact⟨i,d,h1,h2,he i d _⟩
   rw[g i j (by omega) d];cases hp:P ((i+j) / 2)with
   | true=>
    exact ih _ _ (by omega) d (by omega) (fun a f=>hmono a _ (by omega) (by omega) hp) h2
   | false=>
    refine ih _ _ (by omega) (by omega) (by omega) h1 fun a f e=>?_;cases p:P a with
    | false=>rfl
    | true=>rw[hmono _ a f e p]at hp; cases hp
 exact key n 0 len (jS _) (jw _) (by omega) (fun a h=>by omega) fun a h r=>by omega
theorem qfw (z:Int) (a:0<=z) (h1:z<18446744073709551616):kwr .u64 z=z:=EC z a h1
theorem qbj {i j:Nat} (h:i+j<=1152921504606846976):kwr .i64 (Int.fdiv (kwr .u64 (kwr .i64 ((i:Int)+(j:Int)))) (2 ^ (min (Int.toNat (1:Int)) IntKind.u64.bits)))=(((i+j) / 2:Nat):Int):=by
 rw[MI (i:=(i:Int)+(j:Int)) (by omega) (by omega),qfw _ (by omega) (by omega)];have e:((i:Int)+(j:Int))=((i+j:Nat):Int):=by omega
 have:=fdn (i+j) 2;rw[e,show((2:Int) ^ (min (Int.toNat (1:Int)) IntKind.u64.bits))=((2:Nat):Int)from rfl,this,MI (by omega) (by omega)]
def Sx:Val×Bool:=(Val.mk (0:Int) false (0:Int) ([]:List UInt8) ([]:List Val) ([]:List (List UInt8)),false)
def qdf (k:Int) (l:List Val) (ks:List (List UInt8)) (key:List UInt8):Val×Bool:=
 if k=5/\key∈ks then(match l[ks.idxOf key]? with|some v=>(v,true)|none=>Sx)else Sx
theorem aP {ks:List (List UInt8)} {key:List UInt8} (h:Gp ks) {i:Nat} (a:ks[i]? =some key):ks.idxOf key=i:=by
 have hm:key∈ks:=ca a;have c:=List.idxOf_lt_length_of_mem hm;have he:ks[ks.idxOf key]? =some key:=by rw[jf c,List.getElem_idxOf]
 rcases Nat.lt_trichotomy (ks.idxOf key) i with h1|h1|h1
 ·exact absurd (h.lt' h1 he a) (US _)
 ·exact h1
 exact absurd (h.lt' h1 a he) (US _)
section
variable {n:Nat} (hn:n<=1099511627776) {k:Int} {b:Bool} {i:Int} {s:List UInt8} {l:List Val} {ks:List (List UInt8)} (hsz:fQ (.mk k b i s l ks)<n) (hk:ks.length=l.length) (hr:Gp ks)
include hn hsz hk hr
theorem lq (key:List UInt8):cO n (.mk k b i s l ks) key=some (qdf k l ks key):=by
 have J:vo l<n:=by simp only[fQ]at hsz; omega
 have hl:=xz l;have hless:∀ x:List UInt8,xC n x key=some (Op.bytesLess x key):=fun x=>by simp[xC,xd]
 obtain⟨q,K,z,C,D⟩:=LD (B:=qT n ks key) (fun j=>decide (∃ x,ks[j]? =some x/\x<key)) ks.length
  (fun a c p w hp=>by
   obtain⟨x,e,f⟩:=kod hp;rcases Nat.lt_or_eq_of_le p with h|rfl
   ·obtain⟨y,g⟩:∃ y,ks[a]? =some y:=⟨_,jf (by omega)⟩
    exact kdt ⟨y,g,ET (hr.lt' h g e) f⟩
   exact hp)
  (fun i j r m E=>by
   obtain⟨x,e⟩:∃ x,ks[(i+j) / 2]? =some x:=⟨_,jf (by omega)⟩;simp only[qT,ui r,kct,qbj (show i+j<=1152921504606846976 by omega),zu e,qZ,hless,Sw];have:(decide (∃ y,ks[(i+j) / 2]? =some y/\y<key))=decide (x<key):=by
    rw[Bool.eq_iff_iff,decide_eq_true_iff,decide_eq_true_iff,e];exact⟨fun⟨y,g,h⟩=>by cases g; exact h,fun h=>⟨x,rfl,h⟩⟩
   rw[this,zM (by omega)])
  (rest:=fun q=>some ((q:Int),(match ks[q]? with|some x=>x==key|none=>false)))
  (fun i L E=>by
   simp only[qT,xq,kcf,zb];by_cases h:i=ks.length
   ·subst h
    simp[Ea]
   have o:i<ks.length:=by omega
   obtain⟨x,e⟩:∃ x,ks[i]? =some x:=⟨_,jf o⟩;simp only[ui o,fP,zu e,qZ,e,Bool.true_and,kct];cases F:x==key with
   | true=>simp[Ea]
   | false=>simp[vh])
  (n:=n) (by omega)
 have G:qg n ks key=some ((q:Int),(match ks[q]? with|some x=>x==key|none=>false)):=by
  unfold qg;rw[zb];exact D
 unfold cO;simp only[G,qZ];have d:(match ks[q]? with|some x=>x==key|none=>false)=decide (key∈ks):=by
  rw[Bool.eq_iff_iff,decide_eq_true_iff]
  constructor
  ·intro h
   cases e:ks[q]? with
   | none=>rw[e]at h; cases h
   | some x=>
    rw[e]at h;have:=beq_iff_eq.1 h;subst this;exact ca e
  intro h;obtain⟨j,m⟩:=List.getElem?_of_mem h;have H:=mZ m;have:j=q:=by
   rcases Nat.lt_trichotomy j q with h1|h1|h1
   ·obtain⟨x,e,f⟩:=kod (z j h1)
    rw[m]at e; cases e;exact absurd f (US _)
   ·exact h1
   obtain⟨y,g⟩:∃ y,ks[q]? =some y:=⟨_,jf (by omega)⟩;have:=of_decide_eq_false (C q (jw _) (by omega));exact absurd ⟨y,g,hr.lt' h1 g m⟩ this
  subst this;rw[m]; simp
 rw[d];unfold qdf;by_cases hm:key∈ks
 ·rw[kdt hm]
  by_cases h5:k=5
  ·subst h5
   obtain⟨j,m⟩:=List.getElem?_of_mem hm;have e:ks[q]? =some key:=by
    rw[kdt hm]at d;cases e:ks[q]? with
    | none=>rw[e]at d; cases d
    | some x=>rw[e]at d; rw[beq_iff_eq.1 d]
   have I:=mZ e;obtain⟨v,t⟩:∃ v,l[q]? =some v:=⟨_,jf (by omega)⟩;have w:=Cm n (by omega) v (by have:=um (ca t); omega);rw[if_pos ⟨rfl,hm⟩,aP hr e,t];obtain⟨M,a2,a3,a4,a5,N⟩:=v;have u:decide ((q:Int)≥(((Val.rows l).length:Nat):Int))=false:=kdf (by rw[qn]; omega);simp only[jp,bne_self_eq_false,kcf,u,zu t,qZ,w]
  have:(k != 5)=true:=by simpa using h5
  rw[if_neg (fun h=>h5 h.1),this]
  rfl
 rw[kdf hm,if_neg (fun h=>hm h.2)]
 rfl
end
open Go Ax
open Go Ax
open Go Ax
open Go Ax
open Go Ax
@[simp] theorem Qi (l:List Node):(Node.rows l).length=l.length:=by simp[Node.rows]
@[simp] theorem rK (l:List Edge):(Edge.rows l).length=l.length:=by simp[Edge.rows]
def pW (d:Node):Nat:=1+rA d.labels+rA d.keys+vo d.vals
def pg (e:Edge):Nat:=1+e.type_.length+rA e.keys+vo e.vals
def Cu (g:Graph):Nat:=(g.nodes.map pW).sum+(g.edges.map pg).sum
def UpI {A:Type} (key:A->Int) (l:List A):Prop:=l.Pairwise fun a b=>key a<key b
def fD {A:Type} (key:A->Int) (l:List A) (id:Int):Option A:=l.find? fun d=>key d==id
section
variable {A:Type} {key:A->Int} {l:List A} {id:Int}
theorem UpI.lt (h:UpI key l) {i j:Nat} {x y:A} (a:i<j) (c:l[i]? =some x) (d:l[j]? =some y):key x<key y:=by
 obtain⟨h1,e1⟩:=jG.1 c;obtain⟨h2,e2⟩:=jG.1 d;have:=List.pairwise_iff_getElem.1 h i j h1 h2 a;rw[e1,e2]at this;exact this
theorem Ut {d:A} (h:fD key l id=some d):d∈l/\key d=id:=
 ⟨List.mem_of_find?_eq_some h,by simpa using List.find?_some h⟩
theorem qbz (h:UpI key l) {i:Nat} {d:A} (a:l[i]? =some d) (hk:key d=id):fD key l id=some d:=by
 cases hf:fD key l id with
 | none=>exact absurd hk (by simpa using List.find?_eq_none.1 hf d (ca a))
 | some e=>
  obtain⟨hm,he⟩:=Ut hf;obtain⟨j,c⟩:=List.getElem?_of_mem hm;rcases Nat.lt_trichotomy i j with h1|h1|h1
  ·have:=h.lt h1 a c; omega
  ·subst h1; rw[a]at c; exact c.symm
  have:=h.lt h1 c a; omega
theorem iN (h:∀(i:Nat) (d:A),l[i]? =some d->key d≠id):fD key l id=none:=
 List.find?_eq_none.2 fun d a=>by
  obtain⟨i,c⟩:=List.getElem?_of_mem a;simpa using h i d c
theorem qat (hl:UpI key l) {B:(Int×Int->Option (Int×Bool))->Int×Int->Option (Int×Bool)}
  (z:∀(i j:Nat) (x:A) f,i<j->j<=l.length->l[(i+j) / 2]? =some x->B f ((i:Int),(j:Int))=bif decide (key x<id)then f ((((i+j) / 2+1:Nat):Int),(j:Int))else f ((i:Int),(((i+j) / 2:Nat):Int)))
  (he:∀(i:Nat) f,i<=l.length->B f ((i:Int),(i:Int))=some ((i:Int),match l[i]? with|some x=>decide (key x=id)|none=>false)) {n:Nat} (hn:l.length<n) :
  ∃ i:Nat,qy B n ((0:Int),((l.length:Nat):Int))=some ((i:Int),(fD key l id).isSome)/\∀ d,fD key l id=some d->l[i]? =some d:=by
 obtain⟨q,H,r,w,C⟩:=LD (B:=B) (fun a=>match l[a]? with|some x=>decide (key x<id)|none=>false) l.length
  (fun a c t D hp=>by
   obtain⟨x,e⟩:∃ x,l[c]? =some x:=⟨_,jf D⟩;obtain⟨y,m⟩:∃ y,l[a]? =some y:=⟨_,jf (by omega)⟩;simp only[e,kde]at hp;simp only[m,kde];rcases Nat.lt_or_eq_of_le t with h|rfl
   ·have:=hl.lt h m e; omega
   rw[e]at m; cases m; exact hp)
  (fun i j u o f=>by
   obtain⟨x,e⟩:∃ x,l[(i+j) / 2]? =some x:=⟨_,jf (by omega)⟩;rw[z i j x f u o e,e])
  (rest:=fun i=>some ((i:Int),match l[i]? with|some x=>decide (key x=id)|none=>false)) (fun i g f=>he i f g) hn
 refine⟨q,?_,fun d E=>?_⟩
 ·rw[C]
  congr 2;cases p:l[q]? with
  | none=>
   rw[iN fun i d g=>?_]
   ·rfl
   have F:=mZ g;have:=r i (by have:=List.getElem?_eq_none_iff.1 p; omega);simp only[g,kde]at this;omega
  | some x=>
   by_cases e:key x=id
   ·rw[qbz hl p e]; simp[e]
   have v:=mZ p;have h3:=w q (jw _) v;simp only[p,decide_eq_false_iff_not]at h3;rw[iN fun i d g=>?_]
   ·simp[e]
   rcases Nat.lt_trichotomy i q with h|h|h
   ·have:=r i h
    simp only[g,kde]at this;omega
   ·subst h; rw[p]at g; cases g; exact e
   have:=hl.lt h p g; omega
 obtain⟨hm,hk⟩:=Ut E;obtain⟨j,o⟩:=List.getElem?_of_mem hm;have G:=mZ o;have:j=q:=by
  rcases Nat.lt_trichotomy j q with h|h|h
  ·have:=r j h
   simp only[o,kde]at this;omega
  ·exact h
  obtain⟨y,m⟩:∃ y,l[q]? =some y:=⟨_,jf (by omega)⟩;have h3:=w q (jw _) (by omega);simp only[m,decide_eq_false_iff_not]at h3;have:=hl.lt h m o;omega
 subst this;exact o
end
theorem Xq (n:Nat) (x y:Int):xh n x y=some (if x<y then -1 else if y<x then 1 else 0):=by
 unfold xh uW;simp only[bne_self_eq_false,vn,qV];by_cases h:x<y
 ·rw[if_pos h,kdt h,kct]
 rw[if_neg h,kdf h,kcf];by_cases h2:y<x
 ·rw[if_pos h2,kdt (show x>y from h2),kct]
 rw[if_neg h2,kdf (show ¬ x>y from h2),kcf]
theorem MU (x y:Int):decide ((if x<y then(-1:Int)else if y<x then 1 else 0)<0)=decide (x<y):=by
 rw[decide_eq_decide];split
 ·omega
 split<;>omega
theorem MT (x y:Int):((if x<y then(-1:Int)else if y<x then 1 else 0)==0)=decide (x=y):=by
 rw[Bool.eq_iff_iff,beq_iff_eq,decide_eq_true_iff];split
 ·omega
 split<;>omega
section
variable {n:Nat} (hn:n<=1099511627776)
include hn
theorem Ha {ks:List (List UInt8)} {vs:List Val} (h:vo vs<n) (hk:ks.length<=n):uQ n ks vs=some (ks,vs):=by
 have hl:=xz vs;unfold uQ;rw[qn,natI_nat,qZ,UW (by omega)];refine CA (B:=vR n vs ks) (fun i=>(vs.take i,((i:Nat):Int))) vs.length (fun i c d=>?_) (fun d=>?_) (by omega)
 ·obtain⟨x,a⟩:∃ x,vs[i]? =some x:=⟨_,jf c⟩
  have e:=Cm n hn x (by have:=um (ca a); omega);have f:=lh a;obtain⟨g,a2,a3,a4,a5,j⟩:=x;simp only[vR,qn,ui c,kct,zu a,vn,e];rw[f,UW (by rw[jt]; omega),zM (by omega)]
 show vR n vs ks d (vs.take vs.length,((vs.length:Nat):Int))=_;rw[List.take_length];unfold vR;simp only[qn,xq,kcf];rw[UW (by rw[zb]; omega)]
theorem Tg (d:Node):d.labels.length<=pW d/\d.keys.length<=pW d/\vo d.vals<pW d:=by
 have h1:=vm d.labels;have h2:=vm d.keys;unfold pW;omega
theorem Tb (d:Edge):d.type_.length<=pg d/\d.keys.length<=pg d/\vo d.vals<pg d:=by
 have h2:=vm d.keys;unfold pg;omega
theorem LQ {d:Node} (h:pW d<n):vG n d=some d:=by
 obtain⟨h1,h2,h3⟩:=Tg hn d;have a:=Ha hn (ks:=d.keys) (vs:=d.vals) (by omega) (by omega);obtain⟨i,l,ks,vs⟩:=d;simp only at h1 a;unfold vG;simp only;rw[UW (by rw[zb]; omega),a,qZ]
theorem LP {d:Edge} (h:pg d<n):xV n d=some d:=by
 obtain⟨h1,h2,h3⟩:=Tb hn d;have c:=Ha hn (ks:=d.keys) (vs:=d.vals) (by omega) (by omega);obtain⟨i,a,b,t,ks,vs⟩:=d;simp only at c;unfold xV;simp only;rw[c,qZ]
def qas:Node×Bool:=(Node.mk (0:Int) ([]:List (List UInt8)) ([]:List (List UInt8)) ([]:List Val),false)
def qar:Edge×Bool:=(Edge.mk (0:Int) (0:Int) (0:Int) ([]:List UInt8) ([]:List (List UInt8)) ([]:List Val),false)
theorem PM {l:List Node} (hu:UpI Node.id l) (hl:l.length<n) (r:∀ d∈l,pW d<n) (es:List Edge) (id:Int) :
  vg n ⟨l,es⟩ id=some (match fD Node.id l id with|some d=>(d,true)|none=>qas):=by
 have c1:∀ d:Node,zt n d id ()=some (if d.id<id then -1 else if id<d.id then 1 else 0):=fun d=>by
  obtain⟨i,a,b,c⟩:=d;simp only[zt,dR,vn,Xq]
 obtain⟨q,t,u⟩:=qat hu (id:=id) (B:=qd n l id)
  (fun i j x v m y g=>by
   have e:=c1 x;obtain⟨o,a,b,c⟩:=x;simp only[qd,ui m,xM,qbj (show i+j<=1152921504606846976 by omega),zu g,vn,e,MU];rw[zM (by omega)])
  (fun i v z=>by
   simp only[qd,xq,qV,Qi];by_cases h:i=l.length
   ·subst h
    rw[xq,List.getElem?_eq_none (jw _)];rfl
   have f:i<l.length:=by omega
   obtain⟨x,g⟩:∃ x,l[i]? =some x:=⟨_,jf f⟩;have e:=c1 x;rw[g];obtain⟨o,a,b,c⟩:=x;simp only[ui f,fP,zu g,vn,e,MT,xM])
  hl
 unfold vg qx qj;simp only[Qi];rw[t,qZ];cases w:fD Node.id l id with
 | none=>rfl
 | some d=>
  have p:=u d w;have e:=LQ hn (r d (ca p));obtain⟨o,a,b,c⟩:=d;simp only[Option.isSome_some,jp,qV,zu p,vn,e]
theorem PL {l:List Edge} (hu:UpI Edge.id l) (hl:l.length<n) (u:∀ d∈l,pg d<n) (v:List Node) (id:Int) :
  cJ n ⟨v,l⟩ id=some (match fD Edge.id l id with|some d=>(d,true)|none=>qar):=by
 have c1:∀ d:Edge,zr n d id ()=some (if d.id<id then -1 else if id<d.id then 1 else 0):=fun d=>by
  obtain⟨i,a,b,c,e,f⟩:=d;simp only[zr,dQ,vn,Xq]
 obtain⟨q,w,y⟩:=qat hu (id:=id) (B:=qc n l id)
  (fun i j x z p D o=>by
   have g:=c1 x;obtain⟨r,a,b,c,e,f⟩:=x;simp only[qc,ui p,xM,qbj (show i+j<=1152921504606846976 by omega),zu o,vn,g,MU];rw[zM (by omega)])
  (fun i z E=>by
   simp only[qc,xq,qV,rK];by_cases h:i=l.length
   ·subst h
    rw[xq,List.getElem?_eq_none (jw _)];rfl
   have m:i<l.length:=by omega
   obtain⟨x,o⟩:∃ x,l[i]? =some x:=⟨_,jf m⟩;have g:=c1 x;rw[o];obtain⟨r,a,b,c,e,f⟩:=x;simp only[ui m,fP,zu o,vn,g,MT,xM])
  hl
 unfold cJ qA qi;simp only[rK];rw[w,qZ];cases C:fD Edge.id l id with
 | none=>rfl
 | some d=>
  have t:=y d C;have g:=LP hn (u d (ca t));obtain⟨r,a,b,c,e,f⟩:=d;simp only[Option.isSome_some,jp,qV,zu t,vn,g]
end
section
variable {n:Nat} (hn:n<=1099511627776)
include hn
theorem HY {a b:Node} (h:pW a<n):∃ r,dK n a b=some r/\(r=true↔a=b):=by
 obtain⟨g1,g2,g3⟩:=Tg hn a;obtain⟨u,D,E,F⟩:=a;obtain⟨C,G,H,J⟩:=b;simp only at g1 g2 g3;obtain⟨p,hp,c⟩:=xO (x:=D) (y:=G) (n:=n) (by omega) hn;obtain⟨q,g,d⟩:=xO (x:=E) (y:=H) (n:=n) (by omega) hn;obtain⟨s,j,f⟩:=(Us n hn).2 F J (by omega);have e:(u==C)=true↔u=C:=beq_iff_eq;unfold dK;simp only[hp,g,j];rw[Node.mk.injEq,← e,← c,← d,← f];cases(u==C)<;>cases p<;>cases q<;>cases s<;>exact⟨_,rfl,by simp⟩
theorem HX {a b:Edge} (h:pg a<n):∃ r,dJ n a b=some r/\(r=true↔a=b):=by
 obtain⟨g1,g2,g3⟩:=Tb hn a;obtain⟨u,C,D,E,M,O⟩:=a;obtain⟨F,G,H,J,Q,U⟩:=b;simp only at g1 g2 g3;obtain⟨q,e,c⟩:=xO (x:=M) (y:=Q) (n:=n) (by omega) hn;obtain⟨s,f,d⟩:=(Us n hn).2 O U (by omega);have e1:(u==F)=true↔u=F:=beq_iff_eq;have e2:(C==G)=true↔C=G:=beq_iff_eq;have e3:(D==H)=true↔D=H:=beq_iff_eq;have e4:(E==J)=true↔E=J:=beq_iff_eq;unfold dJ;simp only[e,f];rw[Edge.mk.injEq,← e1,← e2,← e3,← e4,← c,← d];cases(u==F)<;>cases(C==G)<;>cases(D==H)<;>cases(E==J)<;>cases q<;>cases s<;>exact⟨_,rfl,by simp⟩
theorem Ex {l l':List Edge} (hl:l.length<n) (h:∀ d∈l,pg d<n):∃ r,cD n l l'=some r/\(r=true↔l=l'):=by
 unfold cD;rw[rK,rK];by_cases c:l.length=l'.length
 ·rw[c,bne_self_eq_false,kcf]
  refine Co c (fun k a b j f g=>?_) (fun j=>by simp only[cv,rK,xq,qV]) hl
  have hk:=mZ f;obtain⟨r,h1,h2⟩:=HX hn (b:=b) (h a (ca f));refine⟨r,h2,?_⟩;obtain⟨m,o,p,q,t,u⟩:=a;obtain⟨v,w,x,y,z,B⟩:=b;simp only[cv,rK,ui hk,xM,zu f,zu g,vn,h1];rw[zM (by omega)];cases r<;>rfl
 ·rw[QO.2 c]
  exact⟨false,rfl,by simp; intro e; exact c (congrArg _ e)⟩
theorem eO {g h:Graph} (hl:g.nodes.length<n) (f:g.edges.length<n) (q:∀ d∈g.nodes,pW d<n) (j:∀ d∈g.edges,pg d<n):∃ r,rE n g h=some r/\(r=true↔g=h):=by
 obtain⟨l,m⟩:=g;obtain⟨l',t⟩:=h;obtain⟨s,s1,s2⟩:=Ex hn (l:=m) (l':=t) f j;simp only at hl q;unfold rE;simp only[Qi];by_cases c:l.length=l'.length
 ·rw[c,bne_self_eq_false,kcf]
  obtain⟨r,h1,h2⟩:=SQ (e:=s) (l:=l) (l':=l') (B:=mu n l l' m t) c (fun k a b u o p=>by
    have hk:=mZ o;obtain⟨r,h1,h2⟩:=HY hn (b:=b) (q a (ca o));refine⟨r,h2,?_⟩;obtain⟨v,w,x,y⟩:=a;obtain⟨z,C,D,E⟩:=b;simp only[mu,Qi,ui hk,xM,zu o,zu p,vn,h1];rw[zM (by omega)];cases r<;>rfl)
   (fun u=>by simp only[mu,Qi,xq,qV,s1,vn]) hl
  exact⟨r,h1,by rw[h2,s2]; simp⟩
 rw[QO.2 c];exact⟨false,rfl,by simp; intro e; exact absurd (congrArg _ e) c⟩
end
open Go Ax
theorem Ns {g:Graph} {d:Node} (h:d∈g.nodes):pW d<=Cu g:=by
 have:=dw pW h; unfold Cu; omega
theorem Hi {g:Graph} {d:Edge} (h:d∈g.edges):pg d<=Cu g:=by
 have:=dw pg h; unfold Cu; omega
theorem qgc {g:Graph}:g.nodes.length<=Cu g/\g.edges.length<=Cu g:=by
 have h1:=cY pW (fun d=>by unfold pW; omega) g.nodes
 have h2:=cY pg (fun d=>by unfold pg; omega) g.edges
 unfold Cu;omega
open Go Ax
section
variable {n:Nat} (hn:n<=1099511627776) (h400:2000000<n)
include hn h400
end
theorem Fy (v:Val):2<=fQ v:=by
 obtain⟨k,b,i,s,l,ks⟩:=v;have:=xz l;simp only[fQ]; omega
end W
end
section
open Go Go.Proofs Ax
namespace W
open Go.Proofs.YtglihheagfnakaaGreat
theorem fB:∀ l:List qf,pd l=(l.map fun x=>Qg x+1).sum+1
 | []=>rfl
 | x::l=>by simp only[pd,jk,jA]; rw[fB l]; omega
theorem fF:∀ l:List Val,vo l=(l.map fun x=>fQ x+1).sum+1
 | []=>rfl
 | x::l=>by simp only[vo,jk,jA]; rw[fF l]; omega
def ou (e:Env):Nat:=rA e.names+2+vo e.vals
def qbo (x:fZ):Nat:=isz x.node+isz x.edge
def Pb (s:State):Nat:=Cu s.g+qbo s.next
def Tf (a:Given):Nat:=ou a.v+Pb a.s+(fQ a.params+2)
variable {Hd:Type} {enc:TypeId×Value->Hd} {w:World}
theorem NR {c:Nat} {H:PH c}:∀{a:List PV} {b:List PV} {x y:List Value},zC H a x->zC H b y->zC H (a++b) (x++y)
 | [],_,x,_,h,h'=>by
  have:x=[]:=by simpa[zC]using h
  subst this; exact h'
 | p::a,_,x,_,h,h'=>by
  simp only[zC]at h;obtain⟨v,vs,rfl,h1,h2⟩:=h;simp only[List.cons_append,zC];exact⟨_,_,rfl,h1,NR h2 h'⟩
theorem tR {d:Nat} {H:PH d} {a b:List PV} {cs:List Value} {o z:Nat} (h:zC H a ((cs.drop o).take z)/\∀ u∈(cs.drop o).take z,u.oneCell'=true) (c:zC H b (cs.drop (o+z))/\∀ u∈cs.drop (o+z),u.oneCell'=true) :
  zC H (a++b) (cs.drop o)/\∀ u∈cs.drop o,u.oneCell'=true:=by
 have e:cs.drop o=(cs.drop o).take z++cs.drop (o+z):=by rw[← List.drop_drop,List.take_append_drop]
 refine⟨by rw[e]; exact NR h.1 c.1,fun u hu=>?_⟩;rw[e]at hu;rcases jy.1 hu with hu|hu
 ·exact h.2 u hu
 exact c.2 u hu
theorem RM {a:Nat} {H:PH a} {cs:List Value} {z:Nat} (h:cs.length=z):zC H [] (cs.drop z)/\∀ u∈cs.drop z,u.oneCell'=true:=by
 have:cs.drop z=[]:=List.drop_eq_nil_of_le (by omega);rw[this];exact⟨rfl,fun u hu=>by cases hu⟩
theorem Pd {α:Type} {a:α->Nat}:∀(l:List α) (elems:List (DataW Hd)),l.length=elems.length->(∀(i:Nat) (d:DataW Hd) (v:α),elems[i]? =some d->l[i]? =some v->a v<=Rows.uptoBulk d)->(l.map a).sum<=Rows.uptoBulkAll elems
 | [],_,_,_=>jS _
 | v::l,[],h,_=>by simp at h
 | v::l,d::elems,h,hh=>by
  have:=Pd l elems (by simpa using h) fun i d v b c=>hh (i+1) d v (by simpa using b) (by simpa using c)
  have:=hh 0 d v rfl rfl;simp only[jk,jA,Rows.uptoBulkAll]; omega
theorem nO {α:Type} [Inhabited α] {P:Program} {t e:TypeId} {z n:Nat} {row:α->List PV} {f:α->Nat} {rws:List α->List (List PV)} (g:P.underlying t=some (.slice e)) (hz:P.cellsOf e=z) (c:1<=z)
  (a:∀ v,(row v).length=z) (i:∀ l,rws l=l.map row) (d:∀ m,m<n->vU enc P w e m row f Rows.uptoBulk):vU enc P w t n (fun l:List α=>[PV.sl (rws l)]) (fun l=>(l.map f).sum+1) Rows.uptoBulk:=by
 intro cs x h;obtain⟨l,v,rfl,o,r,b⟩:=Ro g hz c a d h;refine⟨l,?_,by simpa using o,?_⟩
 ·simp only[zC]
  exact⟨_,_,rfl,by rw[i]; exact r,rfl⟩
 rcases b with ⟨e,rfl⟩|⟨j,rest,e,k,p⟩
 ·rw[e]; simp[Rows.uptoBulk]
 rw[e];have:=Pd l j k p;simp only[Rows.uptoBulk]; omega
theorem rd3 (n:Nat):vU (α:=Int) enc Tryz.prog w 3 n (fun i=>[PV.int .i64 i]) (isz) Rows.uptoBulk:=by
 intro cs x h;obtain⟨k,e,rfl,hw⟩:=DataW.trod_int Tryz.underlying3 h;cases e;exact⟨k,by simp[zC,qO],by simp[Value.oneCell'],by simp only[Rows.uptoBulk]; exact Nat.le_of_eq (oK (by simpa[Lit.wf]using hw))⟩
theorem rd4 (n:Nat):vU (α:=Bool) enc Tryz.prog w 4 n (fun b=>[PV.bool b]) (fun _=>1) Rows.uptoBulk:=by
 intro cs x h;obtain⟨k,e,rfl⟩:=DataW.trod_bool Tryz.underlying4 h;cases e;exact⟨k,by simp[zC,qO],by simp[Value.oneCell'],by simp[Rows.uptoBulk]⟩
theorem rd2 (n:Nat):vU (α:=Int) enc Tryz.prog w 2 n (fun i=>[PV.int .i64 i]) (isz) Rows.uptoBulk:=by
 intro cs x h;obtain⟨k,e,rfl,hw⟩:=DataW.trod_int Tryz.underlying2 h;cases e;exact⟨k,by simp[zC,qO],by simp[Value.oneCell'],by simp only[Rows.uptoBulk]; exact Nat.le_of_eq (oK (by simpa[Lit.wf]using hw))⟩
theorem rd9 (n:Nat):vU (α:=List UInt8) enc Tryz.prog w 9 n (fun s=>[PV.str s]) (fun s=>1+s.length) Rows.uptoBulk:=by
 intro cs x h;obtain⟨s,e,rfl,_⟩:=DataW.trod_string Tryz.underlying9 h;cases e;exact⟨s.data.toList,by simp[zC,qO],by simp[Value.oneCell'],by simp[Rows.uptoBulk]; omega⟩
theorem eP (n:Nat):vU (α:=List (List UInt8)) enc Tryz.prog w 22 n (fun l=>[PV.sl (qv l)]) (fun l=>(l.map (fun s=>1+s.length)).sum+1) Rows.uptoBulk:=
 nO (α:=List UInt8) (z:=1) (rws:=qv) Tryz.underlying22 (by kernel_rfl) (by decide) (fun _=>rfl) (fun _=>rfl) (fun m hm=>rd9 m)
theorem qfr (n:Nat):vU (α:=Val) enc Tryz.prog w 35 n (Val.cells) (fun x=>fQ x+1) Rows.uptoBulk:=by
 induction n using Nat.strongRecOn with
 | ind n ih=>
 intro cs x h;obtain⟨xs,m,rfl,rfl,a,k,hf⟩:=DataW.trod_struct Tryz.underlying35 h;rw[show Tryz.prog.cellsOf 35=6 by kernel_rfl]at a;have b:xs.length=6:=k;obtain⟨c,d,e,f,g,i,rfl⟩:∃ c d e f g i,xs=[c,d,e,f,g,i]:=by
  match xs,b with
  | [c,d,e,f,g,i],_=>exact⟨c,d,e,f,g,i,rfl⟩
 have f0:=hf 0 _ rfl;change DataW.trod enc Tryz.prog w 0 _ true m 3 ((cs.drop 0).take (Tryz.prog.cellsOf 3))=some c at f0;rw[show Tryz.prog.cellsOf 3=1 by kernel_rfl]at f0;obtain⟨v0,r0,l,o⟩:=rd3 m _ _ f0;have f1:=hf 1 _ rfl;change DataW.trod enc Tryz.prog w 0 _ true m 4 ((cs.drop 1).take (Tryz.prog.cellsOf 4))=some d at f1;rw[show Tryz.prog.cellsOf 4=1 by kernel_rfl]at f1;obtain⟨v1,p,o1,q⟩:=rd4 m _ _ f1;have f2:=hf 2 _ rfl;change DataW.trod enc Tryz.prog w 0 _ true m 2 ((cs.drop 2).take (Tryz.prog.cellsOf 2))=some e at f2;rw[show Tryz.prog.cellsOf 2=1 by kernel_rfl]at f2;obtain⟨v2,r,o2,s⟩:=rd2 m _ _ f2;have f3:=hf 3 _ rfl;change DataW.trod enc Tryz.prog w 0 _ true m 9 ((cs.drop 3).take (Tryz.prog.cellsOf 9))=some f at f3;rw[show Tryz.prog.cellsOf 9=1 by kernel_rfl]at f3;obtain⟨v3,t,u,v⟩:=rd9 m _ _ f3;have f4:=hf 4 _ rfl;change DataW.trod enc Tryz.prog w 0 _ true m 23 ((cs.drop 4).take (Tryz.prog.cellsOf 23))=some g at f4;rw[show Tryz.prog.cellsOf 23=1 by kernel_rfl]at f4;obtain⟨v4,y,A,B⟩:=(nO (α:=Val) (z:=6) (rws:=Val.rows) Tryz.underlying23 (by kernel_rfl) (by decide) (tx) (rows_eq) (fun j C=>ih j (Nat.lt_trans C (Nat.lt_succ_self _)))) _ _ f4
 have f5:=hf 5 _ rfl;change DataW.trod enc Tryz.prog w 0 _ true m 22 ((cs.drop 5).take (Tryz.prog.cellsOf 22))=some i at f5;rw[show Tryz.prog.cellsOf 22=1 by kernel_rfl]at f5;obtain⟨v5,D,E,F⟩:=eP m _ _ f5;have key:=tR ⟨r0,l⟩ (tR ⟨p,o1⟩ (tR ⟨r,o2⟩ (tR ⟨t,u⟩ (tR ⟨y,A⟩ (tR ⟨D,E⟩ (RM a))))));rw[List.drop_zero]at key;refine⟨⟨v0,v1,v2,v3,v4,v5⟩,?_,key.2,?_⟩
 ·have key:=key.1
  exact key
 simp only[fQ,Rows.uptoBulk,Rows.uptoBulkAll,jk,jN,fB,fF,rA]
 try simp only[]at o q s v B F
 omega
theorem qhh (n:Nat):vU (α:=qf) enc Tryz.prog w 42 n (qf.cells) (fun x=>Qg x+1) Rows.uptoBulk:=by
 induction n using Nat.strongRecOn with
 | ind n ih=>
 intro cs x h;obtain⟨xs,m,rfl,rfl,a,i,hf⟩:=DataW.trod_struct Tryz.underlying42 h;rw[show Tryz.prog.cellsOf 42=10 by kernel_rfl]at a;have b:xs.length=5:=i;obtain⟨c,d,e,f,g,rfl⟩:∃ c d e f g,xs=[c,d,e,f,g]:=by
  match xs,b with
  | [c,d,e,f,g],_=>exact⟨c,d,e,f,g,rfl⟩
 have f0:=hf 0 _ rfl;change DataW.trod enc Tryz.prog w 0 _ true m 3 ((cs.drop 0).take (Tryz.prog.cellsOf 3))=some c at f0;rw[show Tryz.prog.cellsOf 3=1 by kernel_rfl]at f0;obtain⟨v0,r0,t,u⟩:=rd3 m _ _ f0;have f1:=hf 1 _ rfl;change DataW.trod enc Tryz.prog w 0 _ true m 9 ((cs.drop 1).take (Tryz.prog.cellsOf 9))=some d at f1;rw[show Tryz.prog.cellsOf 9=1 by kernel_rfl]at f1;obtain⟨v1,v,o1,y⟩:=rd9 m _ _ f1;have f2:=hf 2 _ rfl;change DataW.trod enc Tryz.prog w 0 _ true m 35 ((cs.drop 2).take (Tryz.prog.cellsOf 35))=some e at f2;rw[show Tryz.prog.cellsOf 35=6 by kernel_rfl]at f2;obtain⟨v2,A,o2,k⟩:=qfr m _ _ f2;have f3:=hf 3 _ rfl;change DataW.trod enc Tryz.prog w 0 _ true m 22 ((cs.drop 8).take (Tryz.prog.cellsOf 22))=some f at f3;rw[show Tryz.prog.cellsOf 22=1 by kernel_rfl]at f3;obtain⟨v3,B,C,D⟩:=eP m _ _ f3;have f4:=hf 4 _ rfl;change DataW.trod enc Tryz.prog w 0 _ true m 40 ((cs.drop 9).take (Tryz.prog.cellsOf 40))=some g at f4;rw[show Tryz.prog.cellsOf 40=1 by kernel_rfl]at f4;obtain⟨v4,E,F,G⟩:=(nO (α:=qf) (z:=10) (rws:=qf.rows) Tryz.underlying40 (by kernel_rfl) (by decide) (qf.width) (qf.rows_eq) (fun j H=>ih j (Nat.lt_trans H (Nat.lt_succ_self _)))) _ _ f4
 have bb2:=k;have key:=tR ⟨r0,t⟩ (tR ⟨v,o1⟩ (tR ⟨A,o2⟩ (tR ⟨B,C⟩ (tR ⟨E,F⟩ (RM a)))));rw[List.drop_zero]at key;refine⟨⟨v0,v1,v2,v3,v4⟩,?_,key.2,?_⟩
 ·have key:=key.1
  obtain⟨l,o,p,q,r,s⟩:=v2;exact key
 simp only[Qg,Rows.uptoBulk,Rows.uptoBulkAll,jk,jN,fB,fF,rA]
 try simp only[]at u y k D G
 omega
theorem qgk (n:Nat):vU (α:=List (qf)) enc Tryz.prog w 40 n (fun l=>[PV.sl (qf.rows l)]) (fun l=>(l.map (fun x=>Qg x+1)).sum+1) Rows.uptoBulk:=
 nO (α:=qf) (z:=10) (rws:=qf.rows) Tryz.underlying40 (by kernel_rfl) (by decide) (qf.width) (qf.rows_eq) (fun m hm=>qhh m)
theorem qfo (n:Nat):vU (α:=ql) enc Tryz.prog w 102 n (ql.cells) (Qk) Rows.uptoBulk:=by
 intro cs x h;obtain⟨xs,m,rfl,rfl,a,g,hf⟩:=DataW.trod_struct Tryz.underlying102 h;rw[show Tryz.prog.cellsOf 102=4 by kernel_rfl]at a;have b:xs.length=4:=g;obtain⟨c,d,e,f,rfl⟩:∃ c d e f,xs=[c,d,e,f]:=by
  match xs,b with
  | [c,d,e,f],_=>exact⟨c,d,e,f,rfl⟩
 have f0:=hf 0 _ rfl;change DataW.trod enc Tryz.prog w 0 _ true m 9 ((cs.drop 0).take (Tryz.prog.cellsOf 9))=some c at f0;rw[show Tryz.prog.cellsOf 9=1 by kernel_rfl]at f0;obtain⟨v0,r0,i,j⟩:=rd9 m _ _ f0;have f1:=hf 1 _ rfl;change DataW.trod enc Tryz.prog w 0 _ true m 22 ((cs.drop 1).take (Tryz.prog.cellsOf 22))=some d at f1;rw[show Tryz.prog.cellsOf 22=1 by kernel_rfl]at f1;obtain⟨v1,k,o1,l⟩:=eP m _ _ f1;have f2:=hf 2 _ rfl;change DataW.trod enc Tryz.prog w 0 _ true m 22 ((cs.drop 2).take (Tryz.prog.cellsOf 22))=some e at f2;rw[show Tryz.prog.cellsOf 22=1 by kernel_rfl]at f2;obtain⟨v2,o,o2,p⟩:=eP m _ _ f2;have f3:=hf 3 _ rfl;change DataW.trod enc Tryz.prog w 0 _ true m 40 ((cs.drop 3).take (Tryz.prog.cellsOf 40))=some f at f3;rw[show Tryz.prog.cellsOf 40=1 by kernel_rfl]at f3;obtain⟨v3,q,r,s⟩:=qgk m _ _ f3;have key:=tR ⟨r0,i⟩ (tR ⟨k,o1⟩ (tR ⟨o,o2⟩ (tR ⟨q,r⟩ (RM a))));rw[List.drop_zero]at key;refine⟨⟨v0,v1,v2,v3⟩,?_,key.2,?_⟩
 ·have key:=key.1
  exact key
 simp only[Qk,Rows.uptoBulk,Rows.uptoBulkAll,jk,jN,fB,fF,rA]
 try simp only[]at j l p s
 omega
theorem qfp (n:Nat):vU (α:=qp) enc Tryz.prog w 104 n (qp.cells) (Qh) Rows.uptoBulk:=by
 intro cs x h;obtain⟨xs,m,rfl,rfl,a,i,hf⟩:=DataW.trod_struct Tryz.underlying104 h;rw[show Tryz.prog.cellsOf 104=5 by kernel_rfl]at a;have b:xs.length=5:=i;obtain⟨c,d,e,f,g,rfl⟩:∃ c d e f g,xs=[c,d,e,f,g]:=by
  match xs,b with
  | [c,d,e,f,g],_=>exact⟨c,d,e,f,g,rfl⟩
 have f0:=hf 0 _ rfl;change DataW.trod enc Tryz.prog w 0 _ true m 9 ((cs.drop 0).take (Tryz.prog.cellsOf 9))=some c at f0;rw[show Tryz.prog.cellsOf 9=1 by kernel_rfl]at f0;obtain⟨v0,r0,j,k⟩:=rd9 m _ _ f0;have f1:=hf 1 _ rfl;change DataW.trod enc Tryz.prog w 0 _ true m 9 ((cs.drop 1).take (Tryz.prog.cellsOf 9))=some d at f1;rw[show Tryz.prog.cellsOf 9=1 by kernel_rfl]at f1;obtain⟨v1,l,o1,o⟩:=rd9 m _ _ f1;have f2:=hf 2 _ rfl;change DataW.trod enc Tryz.prog w 0 _ true m 3 ((cs.drop 2).take (Tryz.prog.cellsOf 3))=some e at f2;rw[show Tryz.prog.cellsOf 3=1 by kernel_rfl]at f2;obtain⟨v2,p,o2,q⟩:=rd3 m _ _ f2;have f3:=hf 3 _ rfl;change DataW.trod enc Tryz.prog w 0 _ true m 22 ((cs.drop 3).take (Tryz.prog.cellsOf 22))=some f at f3;rw[show Tryz.prog.cellsOf 22=1 by kernel_rfl]at f3;obtain⟨v3,r,s,t⟩:=eP m _ _ f3;have f4:=hf 4 _ rfl;change DataW.trod enc Tryz.prog w 0 _ true m 40 ((cs.drop 4).take (Tryz.prog.cellsOf 40))=some g at f4;rw[show Tryz.prog.cellsOf 40=1 by kernel_rfl]at f4;obtain⟨v4,u,v,y⟩:=qgk m _ _ f4;have key:=tR ⟨r0,j⟩ (tR ⟨l,o1⟩ (tR ⟨p,o2⟩ (tR ⟨r,s⟩ (tR ⟨u,v⟩ (RM a)))));rw[List.drop_zero]at key;refine⟨⟨v0,v1,v2,v3,v4⟩,?_,key.2,?_⟩
 ·have key:=key.1
  exact key
 simp only[Qh,Rows.uptoBulk,Rows.uptoBulkAll,jk,jN,fB,fF,rA]
 try simp only[]at k o q t y
 omega
theorem qhk (n:Nat):vU (α:=List (ql)) enc Tryz.prog w 97 n (fun l=>[PV.sl (ql.rows l)]) (fun l=>(l.map (Qk)).sum+1) Rows.uptoBulk:=
 nO (α:=ql) (z:=4) (rws:=ql.rows) Tryz.underlying97 (by kernel_rfl) (by decide) (bA.hz) (fun _=>rfl) (fun m hm=>qfo m)
theorem qhl (n:Nat):vU (α:=List (qp)) enc Tryz.prog w 98 n (fun l=>[PV.sl (qp.rows l)]) (fun l=>(l.map (Qh)).sum+1) Rows.uptoBulk:=
 nO (α:=qp) (z:=5) (rws:=qp.rows) Tryz.underlying98 (by kernel_rfl) (by decide) (nN.hz) (fun _=>rfl) (fun m hm=>qfp m)
theorem qfn (n:Nat):vU (α:=zL) enc Tryz.prog w 100 n (zL.cells) (CY) Rows.uptoBulk:=by
 intro cs x h;obtain⟨xs,m,rfl,rfl,a,e,hf⟩:=DataW.trod_struct Tryz.underlying100 h;rw[show Tryz.prog.cellsOf 100=2 by kernel_rfl]at a;have b:xs.length=2:=e;obtain⟨c,d,rfl⟩:∃ c d,xs=[c,d]:=by
  match xs,b with
  | [c,d],_=>exact⟨c,d,rfl⟩
 have f0:=hf 0 _ rfl;change DataW.trod enc Tryz.prog w 0 _ true m 97 ((cs.drop 0).take (Tryz.prog.cellsOf 97))=some c at f0;rw[show Tryz.prog.cellsOf 97=1 by kernel_rfl]at f0;obtain⟨v0,r0,f,g⟩:=qhk m _ _ f0;have f1:=hf 1 _ rfl;change DataW.trod enc Tryz.prog w 0 _ true m 98 ((cs.drop 1).take (Tryz.prog.cellsOf 98))=some d at f1;rw[show Tryz.prog.cellsOf 98=1 by kernel_rfl]at f1;obtain⟨v1,i,o1,j⟩:=qhl m _ _ f1;have key:=tR ⟨r0,f⟩ (tR ⟨i,o1⟩ (RM a));rw[List.drop_zero]at key;refine⟨⟨v0,v1⟩,?_,key.2,?_⟩
 ·have key:=key.1
  exact key
 simp only[CY,Rows.uptoBulk,Rows.uptoBulkAll,jk,jN,fB,fF,rA]
 try simp only[]at g j
 omega
theorem qfq (n:Nat):vU (α:=List (Val)) enc Tryz.prog w 23 n (fun l=>[PV.sl (Val.rows l)]) (fun l=>(l.map (fun x=>fQ x+1)).sum+1) Rows.uptoBulk:=
 nO (α:=Val) (z:=6) (rws:=Val.rows) Tryz.underlying23 (by kernel_rfl) (by decide) (tx) (rows_eq) (fun m hm=>qfr m)
theorem qhj (n:Nat):vU (α:=Node) enc Tryz.prog w 88 n (Node.cells) (pW) Rows.uptoBulk:=by
 intro cs x h;obtain⟨xs,m,rfl,rfl,a,g,hf⟩:=DataW.trod_struct Tryz.underlying88 h;rw[show Tryz.prog.cellsOf 88=4 by kernel_rfl]at a;have b:xs.length=4:=g;obtain⟨c,d,e,f,rfl⟩:∃ c d e f,xs=[c,d,e,f]:=by
  match xs,b with
  | [c,d,e,f],_=>exact⟨c,d,e,f,rfl⟩
 have f0:=hf 0 _ rfl;change DataW.trod enc Tryz.prog w 0 _ true m 2 ((cs.drop 0).take (Tryz.prog.cellsOf 2))=some c at f0;rw[show Tryz.prog.cellsOf 2=1 by kernel_rfl]at f0;obtain⟨v0,r0,i,j⟩:=rd2 m _ _ f0;have f1:=hf 1 _ rfl;change DataW.trod enc Tryz.prog w 0 _ true m 22 ((cs.drop 1).take (Tryz.prog.cellsOf 22))=some d at f1;rw[show Tryz.prog.cellsOf 22=1 by kernel_rfl]at f1;obtain⟨v1,k,o1,l⟩:=eP m _ _ f1;have f2:=hf 2 _ rfl;change DataW.trod enc Tryz.prog w 0 _ true m 22 ((cs.drop 2).take (Tryz.prog.cellsOf 22))=some e at f2;rw[show Tryz.prog.cellsOf 22=1 by kernel_rfl]at f2;obtain⟨v2,o,o2,p⟩:=eP m _ _ f2;have f3:=hf 3 _ rfl;change DataW.trod enc Tryz.prog w 0 _ true m 23 ((cs.drop 3).take (Tryz.prog.cellsOf 23))=some f at f3;rw[show Tryz.prog.cellsOf 23=1 by kernel_rfl]at f3;obtain⟨v3,q,r,s⟩:=qfq m _ _ f3;have key:=tR ⟨r0,i⟩ (tR ⟨k,o1⟩ (tR ⟨o,o2⟩ (tR ⟨q,r⟩ (RM a))));rw[List.drop_zero]at key;refine⟨⟨v0,v1,v2,v3⟩,?_,key.2,?_⟩
 ·have key:=key.1
  exact key
 simp only[pW,Rows.uptoBulk,Rows.uptoBulkAll,jk,jN,fB,fF,rA]
 try simp only[]at j l p s
 omega
theorem qhi (n:Nat):vU (α:=Edge) enc Tryz.prog w 86 n (Edge.cells) (pg) Rows.uptoBulk:=by
 intro cs x h;obtain⟨xs,m,rfl,rfl,a,j,hf⟩:=DataW.trod_struct Tryz.underlying86 h;rw[show Tryz.prog.cellsOf 86=6 by kernel_rfl]at a;have b:xs.length=6:=j;obtain⟨c,d,e,f,g,i,rfl⟩:∃ c d e f g i,xs=[c,d,e,f,g,i]:=by
  match xs,b with
  | [c,d,e,f,g,i],_=>exact⟨c,d,e,f,g,i,rfl⟩
 have f0:=hf 0 _ rfl;change DataW.trod enc Tryz.prog w 0 _ true m 2 ((cs.drop 0).take (Tryz.prog.cellsOf 2))=some c at f0;rw[show Tryz.prog.cellsOf 2=1 by kernel_rfl]at f0;obtain⟨v0,r0,k,l⟩:=rd2 m _ _ f0;have f1:=hf 1 _ rfl;change DataW.trod enc Tryz.prog w 0 _ true m 2 ((cs.drop 1).take (Tryz.prog.cellsOf 2))=some d at f1;rw[show Tryz.prog.cellsOf 2=1 by kernel_rfl]at f1;obtain⟨v1,o,o1,p⟩:=rd2 m _ _ f1;have f2:=hf 2 _ rfl;change DataW.trod enc Tryz.prog w 0 _ true m 2 ((cs.drop 2).take (Tryz.prog.cellsOf 2))=some e at f2;rw[show Tryz.prog.cellsOf 2=1 by kernel_rfl]at f2;obtain⟨v2,q,o2,r⟩:=rd2 m _ _ f2;have f3:=hf 3 _ rfl;change DataW.trod enc Tryz.prog w 0 _ true m 9 ((cs.drop 3).take (Tryz.prog.cellsOf 9))=some f at f3;rw[show Tryz.prog.cellsOf 9=1 by kernel_rfl]at f3;obtain⟨v3,s,t,u⟩:=rd9 m _ _ f3;have f4:=hf 4 _ rfl;change DataW.trod enc Tryz.prog w 0 _ true m 22 ((cs.drop 4).take (Tryz.prog.cellsOf 22))=some g at f4;rw[show Tryz.prog.cellsOf 22=1 by kernel_rfl]at f4;obtain⟨v4,v,y,z⟩:=eP m _ _ f4;have f5:=hf 5 _ rfl;change DataW.trod enc Tryz.prog w 0 _ true m 23 ((cs.drop 5).take (Tryz.prog.cellsOf 23))=some i at f5;rw[show Tryz.prog.cellsOf 23=1 by kernel_rfl]at f5;obtain⟨v5,A,B,C⟩:=qfq m _ _ f5;have key:=tR ⟨r0,k⟩ (tR ⟨o,o1⟩ (tR ⟨q,o2⟩ (tR ⟨s,t⟩ (tR ⟨v,y⟩ (tR ⟨A,B⟩ (RM a))))));rw[List.drop_zero]at key;refine⟨⟨v0,v1,v2,v3,v4,v5⟩,?_,key.2,?_⟩
 ·have key:=key.1
  exact key
 simp only[pg,Rows.uptoBulk,Rows.uptoBulkAll,jk,jN,fB,fF,rA]
 try simp only[]at l p r u z C
 omega
theorem qha (n:Nat):vU (α:=List (Node)) enc Tryz.prog w 26 n (fun l=>[PV.sl (Node.rows l)]) (fun l=>(l.map (pW)).sum+1) Rows.uptoBulk:=
 nO (α:=Node) (z:=4) (rws:=Node.rows) Tryz.underlying26 (by kernel_rfl) (by decide) (me.hz) (fun _=>rfl) (fun m hm=>qhj m)
theorem qhb (n:Nat):vU (α:=List (Edge)) enc Tryz.prog w 27 n (fun l=>[PV.sl (Edge.rows l)]) (fun l=>(l.map (pg)).sum+1) Rows.uptoBulk:=
 nO (α:=Edge) (z:=6) (rws:=Edge.rows) Tryz.underlying27 (by kernel_rfl) (by decide) (mc.hz) (fun _=>rfl) (fun m hm=>qhi m)
theorem qhc (n:Nat):vU (α:=Graph) enc Tryz.prog w 29 n (Graph.cells) (Cu) Rows.uptoBulk:=by
 intro cs x h;obtain⟨xs,m,rfl,rfl,a,e,hf⟩:=DataW.trod_struct Tryz.underlying29 h;rw[show Tryz.prog.cellsOf 29=2 by kernel_rfl]at a;have b:xs.length=2:=e;obtain⟨c,d,rfl⟩:∃ c d,xs=[c,d]:=by
  match xs,b with
  | [c,d],_=>exact⟨c,d,rfl⟩
 have f0:=hf 0 _ rfl;change DataW.trod enc Tryz.prog w 0 _ true m 26 ((cs.drop 0).take (Tryz.prog.cellsOf 26))=some c at f0;rw[show Tryz.prog.cellsOf 26=1 by kernel_rfl]at f0;obtain⟨v0,r0,f,g⟩:=qha m _ _ f0;have f1:=hf 1 _ rfl;change DataW.trod enc Tryz.prog w 0 _ true m 27 ((cs.drop 1).take (Tryz.prog.cellsOf 27))=some d at f1;rw[show Tryz.prog.cellsOf 27=1 by kernel_rfl]at f1;obtain⟨v1,i,o1,j⟩:=qhb m _ _ f1;have key:=tR ⟨r0,f⟩ (tR ⟨i,o1⟩ (RM a));rw[List.drop_zero]at key;refine⟨⟨v0,v1⟩,?_,key.2,?_⟩
 ·have key:=key.1
  exact key
 simp only[Cu,Rows.uptoBulk,Rows.uptoBulkAll,jk,jN,fB,fF,rA]
 try simp only[]at g j
 omega
theorem qg9 (n:Nat):vU (α:=Env) enc Tryz.prog w 25 n (Env.cells) (ou) Rows.uptoBulk:=by
 intro cs x h;obtain⟨xs,m,rfl,rfl,a,e,hf⟩:=DataW.trod_struct Tryz.underlying25 h;rw[show Tryz.prog.cellsOf 25=2 by kernel_rfl]at a;have b:xs.length=2:=e;obtain⟨c,d,rfl⟩:∃ c d,xs=[c,d]:=by
  match xs,b with
  | [c,d],_=>exact⟨c,d,rfl⟩
 have f0:=hf 0 _ rfl;change DataW.trod enc Tryz.prog w 0 _ true m 22 ((cs.drop 0).take (Tryz.prog.cellsOf 22))=some c at f0;rw[show Tryz.prog.cellsOf 22=1 by kernel_rfl]at f0;obtain⟨v0,r0,f,g⟩:=eP m _ _ f0;have f1:=hf 1 _ rfl;change DataW.trod enc Tryz.prog w 0 _ true m 23 ((cs.drop 1).take (Tryz.prog.cellsOf 23))=some d at f1;rw[show Tryz.prog.cellsOf 23=1 by kernel_rfl]at f1;obtain⟨v1,i,o1,j⟩:=qfq m _ _ f1;have key:=tR ⟨r0,f⟩ (tR ⟨i,o1⟩ (RM a));rw[List.drop_zero]at key;refine⟨⟨v0,v1⟩,?_,key.2,?_⟩
 ·have key:=key.1
  exact key
 simp only[ou,Rows.uptoBulk,Rows.uptoBulkAll,jk,jN,fB,fF,rA]
 try simp only[]at g j
 omega
theorem qhd (n:Nat):vU (α:=fZ) enc Tryz.prog w 31 n (fZ.cells) (qbo) Rows.uptoBulk:=by
 intro cs x h;obtain⟨xs,m,rfl,rfl,a,e,hf⟩:=DataW.trod_struct Tryz.underlying31 h;rw[show Tryz.prog.cellsOf 31=2 by kernel_rfl]at a;have b:xs.length=2:=e;obtain⟨c,d,rfl⟩:∃ c d,xs=[c,d]:=by
  match xs,b with
  | [c,d],_=>exact⟨c,d,rfl⟩
 have f0:=hf 0 _ rfl;change DataW.trod enc Tryz.prog w 0 _ true m 2 ((cs.drop 0).take (Tryz.prog.cellsOf 2))=some c at f0;rw[show Tryz.prog.cellsOf 2=1 by kernel_rfl]at f0;obtain⟨v0,r0,f,g⟩:=rd2 m _ _ f0;have f1:=hf 1 _ rfl;change DataW.trod enc Tryz.prog w 0 _ true m 2 ((cs.drop 1).take (Tryz.prog.cellsOf 2))=some d at f1;rw[show Tryz.prog.cellsOf 2=1 by kernel_rfl]at f1;obtain⟨v1,i,o1,j⟩:=rd2 m _ _ f1;have key:=tR ⟨r0,f⟩ (tR ⟨i,o1⟩ (RM a));rw[List.drop_zero]at key;refine⟨⟨v0,v1⟩,?_,key.2,?_⟩
 ·have key:=key.1
  exact key
 simp only[qbo,Rows.uptoBulk,Rows.uptoBulkAll,jk,jN,fB,fF,rA]
 try simp only[]at g j
 omega
theorem qhe (n:Nat):vU (α:=State) enc Tryz.prog w 33 n (State.cells) (Pb) Rows.uptoBulk:=by
 intro cs x h;obtain⟨xs,m,rfl,rfl,a,e,hf⟩:=DataW.trod_struct Tryz.underlying33 h;rw[show Tryz.prog.cellsOf 33=4 by kernel_rfl]at a;have b:xs.length=2:=e;obtain⟨c,d,rfl⟩:∃ c d,xs=[c,d]:=by
  match xs,b with
  | [c,d],_=>exact⟨c,d,rfl⟩
 have f0:=hf 0 _ rfl;change DataW.trod enc Tryz.prog w 0 _ true m 29 ((cs.drop 0).take (Tryz.prog.cellsOf 29))=some c at f0;rw[show Tryz.prog.cellsOf 29=2 by kernel_rfl]at f0;obtain⟨v0,r0,o,f⟩:=qhc m _ _ f0;have f1:=hf 1 _ rfl;change DataW.trod enc Tryz.prog w 0 _ true m 31 ((cs.drop 2).take (Tryz.prog.cellsOf 31))=some d at f1;rw[show Tryz.prog.cellsOf 31=2 by kernel_rfl]at f1;obtain⟨v1,p,o1,g⟩:=qhd m _ _ f1;have bb0:=f;have bb1:=g;have key:=tR ⟨r0,o⟩ (tR ⟨p,o1⟩ (RM a));rw[List.drop_zero]at key;refine⟨⟨v0,v1⟩,?_,key.2,?_⟩
 ·have key:=key.1
  obtain⟨i,j⟩:=v0;obtain⟨k,l⟩:=v1;exact key
 simp only[Pb,Rows.uptoBulk,Rows.uptoBulkAll,jk,jN,fB,fF,rA]
 try simp only[]at f g
 omega
theorem qhf (n:Nat):vU (α:=Given) enc Tryz.prog w 37 n (Given.cells) (Tf) Rows.uptoBulk:=by
 intro cs x h;obtain⟨xs,m,rfl,rfl,a,k,hf⟩:=DataW.trod_struct Tryz.underlying37 h;rw[show Tryz.prog.cellsOf 37=12 by kernel_rfl]at a;have b:xs.length=3:=k;obtain⟨c,d,e,rfl⟩:∃ c d e,xs=[c,d,e]:=by
  match xs,b with
  | [c,d,e],_=>exact⟨c,d,e,rfl⟩
 have f0:=hf 0 _ rfl;change DataW.trod enc Tryz.prog w 0 _ true m 25 ((cs.drop 0).take (Tryz.prog.cellsOf 25))=some c at f0;rw[show Tryz.prog.cellsOf 25=2 by kernel_rfl]at f0;obtain⟨v0,r0,A,l⟩:=qg9 m _ _ f0;have f1:=hf 1 _ rfl;change DataW.trod enc Tryz.prog w 0 _ true m 33 ((cs.drop 2).take (Tryz.prog.cellsOf 33))=some d at f1;rw[show Tryz.prog.cellsOf 33=4 by kernel_rfl]at f1;obtain⟨v1,B,o1,o⟩:=qhe m _ _ f1;have f2:=hf 2 _ rfl;change DataW.trod enc Tryz.prog w 0 _ true m 35 ((cs.drop 6).take (Tryz.prog.cellsOf 35))=some e at f2;rw[show Tryz.prog.cellsOf 35=6 by kernel_rfl]at f2;obtain⟨v2,C,o2,p⟩:=qfr m _ _ f2;have bb0:=l;have bb1:=o;have bb2:=p;have key:=tR ⟨r0,A⟩ (tR ⟨B,o1⟩ (tR ⟨C,o2⟩ (RM a)));rw[List.drop_zero]at key;refine⟨⟨v0,v1,v2⟩,?_,key.2,?_⟩
 ·have key:=key.1
  obtain⟨q,r⟩:=v0;obtain⟨⟨f,g⟩,⟨i,j⟩⟩:=v1;obtain⟨s,t,u,v,y,z⟩:=v2;exact key
 simp only[Tf,Rows.uptoBulk,Rows.uptoBulkAll,jk,jN,fB,fF,rA]
 try simp only[]at l o p
 omega
theorem qhg (n:Nat):vU (α:=List (zL)) enc Tryz.prog w 39 n (fun l=>[PV.sl (zL.rows l)]) (fun l=>(l.map (CY)).sum+1) Rows.uptoBulk:=
 nO (α:=zL) (z:=2) (rws:=zL.rows) Tryz.underlying39 (by kernel_rfl) (by decide) (Gf.hz) (fun _=>rfl) (fun m hm=>qfn m)
end W
end
section
namespace W
open Go Go.Proofs Ax Go.RowKit Go.ChangeShapes Go.WideShapes Go.ChangeAt
open Go.Proofs.YtglihheagfnakaaGreat Go.ChangeMaps
theorem own:ownKnob Tryz.prog.godebug=none:=by kernel_rfl
theorem qbc:laidOutB Tryz.prog=true:=by kernel_rfl
theorem root {W:World} (h:W.ShapedOpen Tryz.prog):∃ m,W.cell? ⟨0,0,none⟩=some (.int .i64 m):=
 cell_of_shapedOpen_int (zero:=#[.int .i64 0]) (t:=3) h (kod (by kernel_rfl)) (by kernel_rfl) rfl (by kernel_rfl) (by kernel_rfl) Tryz.underlying3
section
variable {Hd:Type} {enc:TypeId×Value->Hd} {W:World}
set_option maxRecDepth 100000 in
theorem Mu {v0:Value} {d0:DataW Hd} {p:List MemPlace} {b:Nat} (hval:Value.okWide Tryz.prog W .any b 37 v0) (h:DataW.Trod enc Tryz.prog W 0 (fun _=>true) true 37 v0 d0 p) :
  ∃ s:Given,qO (Uf W) (.agg (Vd.cells s)) v0/\Tf s<=Rows.uptoBulk d0:=by
 obtain⟨cs,rfl,_⟩:=okWide_struct Tryz.underlying37 hval;obtain⟨fuel,h⟩:=h;obtain⟨v,r,_,hb⟩:=qhf fuel _ _ h;refine⟨v,?_,hb⟩;simp only[qO];exact⟨cs.toList,by simp,r⟩
set_option maxRecDepth 100000 in
theorem Mv {v0:Value} {d0:DataW Hd} {p:List MemPlace} {b:Nat} (hval:Value.okWide Tryz.prog W .any b 39 v0) (h:DataW.Trod enc Tryz.prog W 0 (fun _=>true) true 39 v0 d0 p) :
  ∃ l:List zL,qO (Uf W) (.sl (zL.rows l)) v0/\Hw l<=Rows.uptoBulk d0:=by
 obtain⟨a,len,cap,rfl⟩:=okWide_slice Tryz.underlying39 hval;obtain⟨fuel,h⟩:=h;obtain⟨l,r,_,hb⟩:=qhg fuel _ _ h;refine⟨l,?_,by have hb:(l.map CY).sum+1<=Rows.uptoBulk d0:=hb; unfold Hw; omega⟩;simp only[zC]at r;obtain⟨v,vs,e,r1,_⟩:=r;cases e;exact r1
end
noncomputable def lE (os:Os):World:=World.holding Tryz.prog os ⟨#[],#[],[]⟩
abbrev VG:Value:=.agg #[.slice none 0 0,.slice none 0 0,.slice none 0 0,.slice none 0 0,.int .i64 0,.int .i64 0,.int .i64 0,.bool false,.int .i64 0,.string ⟨#[]⟩,.slice none 0 0,.slice none 0 0]
abbrev DG (H:Type):DataW H:=.agg [.agg [.nil,.nil],.agg [.agg [.nil,.nil],.agg [.lit (.int .i64 0),.lit (.int .i64 0)]],.agg [.lit (.int .i64 0),.lit (.bool false),.lit (.int .i64 0),.lit (.string []),.nil,.nil]]
end W
end
section
namespace W
open Go Go.Proofs Go.RowKit Go.ChangeShapes Go.WideShapes Go.ChangeAt
open Go.Proofs.YtglihheagfnakaaGreat Go.ChangeMaps
theorem qe9 {a b:Bool} (c:a=true) (d:b=true):(a&&b)=true:=by rw[c,d]; rfl
set_option maxHeartbeats 4000000 in
theorem qdc:joinedFacts Tryz.pinned.checked.prog 4 Tryz.f4 (Rows.OpenSpec.upto Rows.alterRightSpec).bare Rows.alterRightUptoRow=true:=by
 unfold joinedFacts
 repeat' with_reducible refine qe9 ?_ ?_
 all_goals (as_aux_lemma=>kernel_rfl)
end W
end
section
open Go Ax
namespace W
def Tot {R:Type} (N:Nat) (F:Nat->Option R) (Q:R->Prop):Prop:=∃ r,Q r/\∀ n,N<=n->n<=1099511627776->F n=some r
def qI {R S:Type} (N:Nat) (F:Nat->(S->Option R)->Option R) (QS:S->Prop) (Q:R->Prop):Prop:=
 (∃ s,QS s/\∀ n a,N<=n->n<=1099511627776->F n a=a s)\/∃ r,Q r/\∀ n a,N<=n->n<=1099511627776->F n a=some r
section
variable {R A S:Type} {N:Nat} {Q:R->Prop} {P:A->Prop} {QS:S->Prop}
theorem Tot.one {r:R} (h:Q r):Tot N (fun _=>some r) Q:=⟨r,h,fun _ _ _=>rfl⟩
theorem Tot.of {F:Nat->Option R} {r:R} (e:∀ n,N<=n->n<=1099511627776->F n=some r) (h:Q r):Tot N F Q:=⟨r,h,e⟩
theorem Tot.bnd {F:Nat->Option A} {K:Nat->A->Option R} (h:Tot N F P) (k:∀ a,P a->Tot N (fun n=>K n a) Q):Tot N (fun n=>Ax.bnd (F n) (K n)) Q:=by
 obtain⟨a,b,c⟩:=h;obtain⟨r,qr,d⟩:=k a b;exact⟨r,qr,fun n h1 h2=>by show Ax.bnd (F n) (K n)=_; rw[c n h1 h2]; exact d n h1 h2⟩
theorem Tot.chk {b:Bool} {K:Nat->Option R} (h:b=true) (k:Tot N K Q):Tot N (fun n=>Ax.chk b (K n)) Q:=by subst h; exact k
theorem Tot.cond {b:Bool} {K L:Nat->Option R} (h:b=true->Tot N K Q) (k:b=false->Tot N L Q):Tot N (fun n=>bif b then K n else L n) Q:=by
 cases b with
 | true=>exact h rfl
 | false=>exact k rfl
theorem Tot.gs [Inhabited A] {g:Bool} {F:Nat->Option A} (h:g=true->Tot N F P):Tot N (fun n=>qz g (F n)) (fun a=>g=true->P a):=by
 cases g with
 | true=>
  obtain⟨a,b,c⟩:=h rfl;exact⟨a,fun _=>b,c⟩
 | false=>exact⟨default,fun h=>absurd h Bool.false_ne_true,fun _ _ _=>rfl⟩
theorem Tot.mono {M:Nat} {F:Nat->Option R} {Q':R->Prop} (h:Tot N F Q) (a:N<=M) (b:∀ r,Q r->Q' r):Tot M F Q':=by
 obtain⟨r,qr,c⟩:=h;exact⟨r,b r qr,fun n h1 h2=>c n (Nat.le_trans a h1) h2⟩
theorem Tot.up {M:Nat} {F:Nat->Option R} (h:Tot N F Q) (a:N<=M):Tot M F Q:=h.mono a fun _ q=>q
theorem Tot.imp {F:Nat->Option R} {Q':R->Prop} (h:Tot N F Q) (a:∀ r,Q r->Q' r):Tot N F Q':=h.mono (jw _) a
theorem Tot.idx {l:List A} {i:Nat} {x:A} (h:l[i]? =some x) (p:P x):Tot N (fun _=>Ax.idx l (i:Int)) P:=
 ⟨x,p,fun _ _ _=>by unfold Ax.idx; rw[if_pos (Int.natCast_nonneg i)]; simpa using h⟩
theorem Tot.val {F:Nat->Option R} (h:Tot N F Q) (b:N<=1099511627776) (d:R):Q ((F N).getD d)/\∀ n,N<=n->n<=1099511627776->F n=some ((F N).getD d):=by
 obtain⟨r,qr,a⟩:=h;have e:F N=some r:=a N (jw _) b;rw[e];exact⟨qr,a⟩
theorem Tot.both {F:Nat->Option R} {Q':R->Prop} (h:Tot N F Q) (e:Tot N F Q') (c:N<=1099511627776):Tot N F (fun r=>Q r/\Q' r):=by
 obtain⟨r,qr,d⟩:=h;obtain⟨f,a,b⟩:=e;have:=(d N (jw _) c).symm.trans (b N (jw _) c);cases this;exact⟨r,⟨qr,a⟩,d⟩
theorem Tot.succ {F G:Nat->Option R} (e:∀ n,F (n+1)=G n) (h:Tot N G Q):Tot (N+1) F Q:=by
 obtain⟨r,qr,a⟩:=h;refine⟨r,qr,fun n h1 h2=>?_⟩;obtain⟨m,rfl⟩:=jj (by omega:n≠0);rw[e];exact a m (by omega) (by omega)
theorem qI.next {s:S} (h:QS s):qI N (fun _ (a:S->Option R)=>a s) QS Q:=.inl ⟨s,h,fun _ _ _ _=>rfl⟩
theorem qI.one {r:R} (h:Q r):qI N (fun _ (_:S->Option R)=>some r) QS Q:=.inr ⟨r,h,fun _ _ _ _=>rfl⟩
theorem qI.tot {F:Nat->Option R} (h:Tot N F Q):qI N (fun n (_:S->Option R)=>F n) QS Q:=by
 obtain⟨r,qr,a⟩:=h;exact .inr ⟨r,qr,fun n _ h1 h2=>a n h1 h2⟩
theorem qI.bnd {F:Nat->Option A} {K:Nat->(S->Option R)->A->Option R} (h:Tot N F P) (k:∀ a,P a->qI N (fun n b=>K n b a) QS Q):qI N (fun n b=>Ax.bnd (F n) (K n b)) QS Q:=by
 obtain⟨a,e,d⟩:=h;rcases k a e with ⟨r,qr,c⟩|⟨r,qr,c⟩
 ·exact .inl ⟨r,qr,fun n b h1 h2=>by show Ax.bnd (F n) (K n b)=_; rw[d n h1 h2]; exact c n b h1 h2⟩
 exact .inr ⟨r,qr,fun n b h1 h2=>by show Ax.bnd (F n) (K n b)=_; rw[d n h1 h2]; exact c n b h1 h2⟩
theorem qI.chk {b:Bool} {K:Nat->(S->Option R)->Option R} (h:b=true) (k:qI N K QS Q):qI N (fun n a=>Ax.chk b (K n a)) QS Q:=by subst h; exact k
theorem qI.cond {b:Bool} {K L:Nat->(S->Option R)->Option R} (h:b=true->qI N K QS Q) (k:b=false->qI N L QS Q):qI N (fun n a=>bif b then K n a else L n a) QS Q:=by
 cases b with
 | true=>exact h rfl
 | false=>exact k rfl
theorem Tot.loop {B:Nat->(S->Option R)->S->Option R} (I:Nat->S->Prop) (h:∀ m s,I m s->qI N (fun n g=>B n g s) (fun c=>∃ b,b<m/\I b c) Q) {m0:Nat} {d:S} (i:I m0 d) (o:m0<N) :
  Tot N (fun n=>qy (B n) n d) Q:=by
 have key:∀(M m:Nat),m<=M->∀ s,I m s->∃ r,Q r/\∀ n k,N<=n->n<=1099511627776->m<k->qy (B n) k s=some r:=by
  intro M
  induction M with
  | zero=>
   intro m hm s e;rcases h m s e with ⟨c,⟨b,f,_⟩,_⟩|⟨r,qr,a⟩
   ·omega
   refine⟨r,qr,fun n k h1 h2 h3=>?_⟩;obtain⟨k,rfl⟩:=jj (by omega:k≠0);exact a n _ h1 h2
  | succ M ih=>
   intro m hm s e;rcases h m s e with ⟨c,⟨b,f,j⟩,a⟩|⟨r,qr,a⟩
   ·obtain⟨r,qr,l⟩:=ih b (by omega) c j
    refine⟨r,qr,fun n k h1 h2 h3=>?_⟩;obtain⟨k,rfl⟩:=jj (by omega:k≠0);exact(a n _ h1 h2).trans (l n k h1 h2 (by omega))
   refine⟨r,qr,fun n k h1 h2 h3=>?_⟩;obtain⟨k,rfl⟩:=jj (by omega:k≠0);exact a n _ h1 h2
 obtain⟨r,qr,a⟩:=key m0 m0 (jw _) d i;exact⟨r,qr,fun n h1 h2=>a n n h1 h2 (by omega)⟩
end
end W
end
section
open Go Ax
namespace W
def LC (v:Val):Bool:=(uT 0 v).getD false
theorem MM (n:Nat) (v:Val):uT n v=some (LC v):=by cases v; rfl
def PW (ks:List (List UInt8)):Bool:=(ue (ks.length+1) ks).getD false
theorem zE {A:Type} {l:List A} {k:Nat} (h:k<l.length):l[k]? =some l[k]:=jf h
theorem TN (ks:List (List UInt8)) (d:ks.length<=1099511627775):Tot (ks.length+1) (fun n=>ue n ks) (fun _=>True):=by
 unfold ue;refine Tot.loop (fun m s=>∃ k:Nat,s=(k:Int)/\k+m=ks.length) ?_ ⟨0,rfl,by omega⟩ (Nat.lt_succ_self _);rintro m _ ⟨k,rfl,hm⟩;unfold uf;refine qI.cond (fun b=>?_) (fun _=>.one trivial);rw[zb]at b;have a:k<ks.length:=by have:=kod b; omega
 refine qI.bnd (Tot.idx (zE a) (P:=fun _=>True) trivial) fun x _=>?_
 refine qI.bnd (P:=fun _=>True) ((Tot.gs (P:=fun _=>True) fun c=>?_).imp fun _ _=>trivial) fun y _=>?_
 ·simp only[ji,kde]at c
  have:0<k:=by omega
  obtain⟨j,rfl⟩:∃ j,k=j+1:=⟨k - 1,by omega⟩;rw[VE (by omega)];exact Tot.idx (zE (by omega)) trivial
 refine qI.cond (fun _=>.one trivial) fun _=>?_;rw[zM (by omega)];exact .next ⟨m - 1,by omega,k+1,rfl,by omega⟩
theorem aV {n:Nat} {ks:List (List UInt8)} (h:ks.length<n) (a:n<=1099511627776):ue n ks=some (PW ks):=
 ((TN ks (by omega)).val (by omega) false).2 n (by omega) a
mutual
def xl:Val->Nat
 | .mk _ _ _ _ l _=>1+vL l
def vL:List Val->Nat
 | []=>0
 | v::l=>xl v+vL l
end
def HL (k:Int) (b:Bool) (i:Int) (s:List UInt8) (l:List Val) (ks:List (List UInt8)):Bool:=
 !decide (k<0)&&!decide (k>7)&&LC (.mk k b i s l ks)&&!(decide (k≥6)&&decide (i<1))&&!(k==5&&(((ks.length:Nat):Int) != ((l.length:Nat):Int)||!PW ks))
mutual
def wfV:Val->Nat->Bool
 | .mk k b i s l ks,d=>decide (1<=d)&&HL k b i s l ks&&wfL l (d - 1)
def wfL:List Val->Nat->Bool
 | [],_=>true
 | v::l,d=>wfV v d&&wfL l d
end
theorem XB:∀ a b:List Val,vL (a++b)=vL a+vL b
 | [],b=>by simp[vL]
 | v::a,b=>by simp only[List.cons_append,vL,XB a b]; omega
theorem MH (d:Nat):∀ a b:List Val,wfL (a++b) d=(wfL a d&&wfL b d)
 | [],b=>by simp[wfL]
 | v::a,b=>by simp only[List.cons_append,wfL,MH d a b,Bool.and_assoc]
theorem qci (v:Val) (d:Nat):wfL [v] d=wfV v d:=by simp[wfL]
theorem Dn (v:Val):vL [v]=xl v:=by simp[vL]
theorem zK {A:Type} {l:List A} {k:Nat} (h:k<l.length):l.take (k+1)=l.take k++[l[k]]:=by
 rw[List.take_succ,jf h]; rfl
theorem TY (D P A B a G I E L b c e:Bool) (f:(!(bif(bif(bif D then true else P)then true else A)then true else B))=true->c=a)
  (d:(((!(bif(bif(bif(bif(bif D then true else P)then true else A)then true else B)then true else(!c))then true else(bif G then I else false)))&&E)&&(!L))=true->e=b) :
  (bif(bif(bif(bif(bif(bif D then true else P)then true else A)then true else B)then true else(!c))then true else(bif G then I else false))then true else(bif E then(bif L then true else(!e))else false)) =
   !(!D&&!P&&(!A&&!B&&a&&!(G&&I)&&!(E&&(L||!b)))):=by
 revert D P A B a G I E L b c e
 decide +kernel
def qae (v:Val) (d p:Nat) (r:Int×Bool):Prop:=r.2=(wfV v d&&decide (p+xl v<=4096))/\(r.2=true->r.1=((p+xl v:Nat):Int))
mutual
def hgt:Val->Nat
 | .mk _ _ _ _ l ks=>2+l.length+ks.length+RP l
def RP:List Val->Nat
 | []=>0
 | v::l=>max (hgt v) (RP l)
end
theorem Nt:∀{l:List Val} {x:Val},x∈l->hgt x<=RP l
 | y::l,x,h=>by
  simp only[RP];rcases jg.1 h with rfl|h
  ·omega
  have:=Nt h; omega
theorem To {m:Nat}:∀{l:List Val},(∀ x∈l,hgt x<=m)->RP l<=m
 | [],_=>jS _
 | y::l,h=>by
  simp only[RP];have:=h y List.mem_cons_self;have:=To (l:=l) (fun x a=>h x (List.mem_cons_of_mem _ a))
  omega
theorem ej:∀(N:Nat) (v:Val) (d p:Nat),hgt v<=N->N<=1099511627776->d<=1000->p<=1000000->Tot (hgt v) (fun n=>xP n v d p) (qae v d p):=by
 intro N
 induction N with
 | zero=>intro v d p h; obtain⟨k,b,i,s,l,ks⟩:=v; simp only[hgt]at h; omega
 | succ N ih=>
  intro v d p I U V hp;obtain⟨k,b,i,s,l,ks⟩:=v;have X:hgt (.mk k b i s l ks)=2+l.length+ks.length+RP l:=by simp only[hgt]
  obtain⟨M,K⟩:∃ M,hgt (.mk k b i s l ks)=M+1:=⟨hgt (.mk k b i s l ks) - 1,by omega⟩;rw[K];refine Tot.succ (G:=fun n=>cZ n (xP n) (.mk k b i s l ks) d p) (fun n=>rfl) ?_
  unfold cZ
  dsimp only
  have hw:kwr .i64 ((p:Int)+1)=((p+1:Nat):Int):=zM (by omega);have kt:∀ n,M<=n->n<=1099511627776->ue n ks=some (PW ks):=fun n h1 h2=>aV (by omega) h2
  rw[hw,zb,qn];have A:decide ((d:Int)<1)=!decide (1<=d):=by by_cases h:1<=d<;>simp[h]<;>omega
  have B:decide (((p+1:Nat):Int)>4096)=!decide (p+1<=4096):=by by_cases h:p+1<=4096<;>simp[h]<;>omega
  refine Tot.bnd (Tot.gs (P:=fun x=>x=LC (.mk k b i s l ks)) fun _=>.of (fun n _ _=>MM n _) rfl) fun Y L=>?_
  refine Tot.bnd (Tot.gs (P:=fun x=>x=PW ks) fun _=>.of kt rfl) fun O C=>?_
  have f:=TY _ _ _ _ _ _ _ _ _ _ _ _ L C;rw[f,A,B,Bool.not_not,Bool.not_not];have g:wfV (.mk k b i s l ks) d=(decide (1<=d)&&HL k b i s l ks&&wfL l (d - 1)):=by simp only[wfV]
  have o:xl (.mk k b i s l ks)=1+vL l:=by simp only[xl]
  refine Tot.cond (fun a=>.one ⟨?_,fun h=>by cases h⟩) (fun a=>?_)
  ·have a:(decide (1<=d)&&decide (p+1<=4096)&&HL k b i s l ks)=false:=by rw[Bool.not_eq_true']at a; exact a
   rw[g,o];rw[eq_comm,Bool.and_eq_false_iff];simp only[Bool.and_eq_false_iff]at a;rcases a with (a|a)|a
   ·left; rw[a]; rfl
   ·right; have:=of_decide_eq_false a; exact kdf (by omega)
   left; rw[a,Bool.and_false,Bool.false_and]
  have a:(decide (1<=d)&&decide (p+1<=4096)&&HL k b i s l ks)=true:=by rw[Bool.not_eq_false']at a; exact a
  simp only[ji,kde]at a;obtain⟨⟨D,E⟩,hone⟩:=a;have t:wfV (.mk k b i s l ks) d=wfL l (d - 1):=by rw[g,hone,kdt D]; rfl
  refine(Tot.loop (Q:=fun r:Int×Bool=>r.2=(wfL l (d - 1)&&decide (p+1+vL l<=4096))/\(r.2=true->r.1=((p+1+vL l:Nat):Int))) (fun m s=>∃(j:Nat) (q:Int) (ok:Bool),s=(q,ok,((j:Nat):Int))/\j+m=l.length/\ok=(wfL (l.take j) (d - 1)&&decide (p+1+vL (l.take j)<=4096))/\(ok=true->q=((p+1+vL (l.take j):Nat):Int))) ?_ ⟨0,((p+1:Nat):Int),true,rfl,by omega,?_,?_⟩ (by omega:l.length<M)).imp ?_
  ·rintro m _ ⟨j,q,ok,rfl,hm,c,e⟩
   unfold ug
   dsimp only
   rw[qn];refine qI.cond (fun a=>?_) (fun a=>.one ?_)
   ·have u:j<l.length:=by
     cases ok with
     | true=>have:=kod (by simpa using a); omega
     | false=>simp at a
    have F:ok=true:=by
     cases ok with
     | true=>rfl
     | false=>simp at a
    subst F;have e:=e rfl;have w:=List.getElem_mem u;have R:=Nt w;have y:=zK u;refine qI.bnd (Tot.idx (zE u) (P:=fun v=>v=l[j]) rfl) fun v I=>?_
    obtain⟨Z,y2,y3,y4,y5,y6⟩:=v
    dsimp only
    rw[I,show((d:Nat):Int) - 1=((d - 1:Nat):Int) by omega,MI (by omega) (by omega)];have z:(wfL (l.take j) (d - 1)&&decide (p+1+vL (l.take j)<=4096))=true:=c.symm;simp only[ji,kde]at z;rw[e];refine qI.bnd (P:=qae l[j] (d - 1) (p+1+vL (l.take j))) ?_ fun r S=>?_
    ·exact(ih l[j] (d - 1) _ (by omega) (by omega) (by omega) (by omega)).up (by omega)
    obtain⟨T,H⟩:=r;obtain⟨h1,h2⟩:=S
    dsimp only at h1 h2 ⊢
    rw[zM (by omega)];refine .next ⟨m - 1,by omega,j+1,T,H,rfl,by omega,?_,?_⟩
    ·rw[h1,y,MH,XB,qci,Dn,z.1,Bool.true_and,← Nat.add_assoc (p+1)]
    intro F;rw[h2 F,y,XB,Dn,← Nat.add_assoc (p+1)]
   have J:l=l.take j++l.drop j:=(List.take_append_drop j l).symm;have e1:wfL l (d - 1)=(wfL (l.take j) (d - 1)&&wfL (l.drop j) (d - 1)):=by rw[← MH,← J]
   have e2:vL l=vL (l.take j)+vL (l.drop j):=by rw[← XB,← J]
   cases ok with
   | true=>
    have u:j=l.length:=by
     have:l.length<=j:=by simpa using a
     omega
    subst u;rw[List.take_length]at c e;exact⟨c,e⟩
   | false=>
    refine⟨?_,fun h=>by cases h⟩
    rw[e1,e2];have c:=c.symm;rw[eq_comm];simp only[Bool.and_eq_false_iff,decide_eq_false_iff_not]at c ⊢;rcases c with h|h
    ·exact .inl (.inl h)
    exact .inr (by omega)
  ·simp[wfL,vL,E]
  ·simp[vL]
  rintro⟨q,ok⟩ ⟨h1,h2⟩;unfold qae;rw[t,o,show p+(1+vL l)=p+1+vL l by omega];exact⟨h1,h2⟩
def Ul (v:Val):Bool:=wfV v 32&&decide (xl v<=4096)
theorem eh {v:Val} {n:Nat} (h:hgt v<=n) (b:n<=1099511627776):∃ q,xP n v 32 0=some (q,Ul v):=by
 obtain⟨r,⟨a,_⟩,c⟩:=ej (hgt v) v 32 0 (jw _) (by omega) (by omega) (by omega);refine⟨r.1,?_⟩;have:xP n v ((32:Nat):Int) ((0:Nat):Int)=some r:=c n h b;rw[Nat.zero_add]at a;refine this.trans ?_;show some (r.1,r.2)=_;rw[a]; rfl
theorem Uc {v:Val} {n:Nat} (h:hgt v<=n) (a:n<=1099511627776):xW n v=some (bif Ul v then 0 else 20):=by
 obtain⟨q,c⟩:=eh h a;obtain⟨k,b,i,s,l,ks⟩:=v;unfold xW
 dsimp only
 rw[c,vn]
 dsimp only
 cases Ul (.mk k b i s l ks)<;>rfl
theorem Ty (i:Int):1<=isz i:=by unfold isz; split<;>omega
mutual
theorem Eb:∀ v:Val,hgt v<=fQ v
 | .mk k b i s l ks=>by
  have:=Nu l;have:=Ty i;have hk:ks.length<=(ks.map fun k=>1+k.length).sum:=vm ks
  simp only[hgt,fQ];omega
theorem Nu:∀ l:List Val,l.length+RP l<=vo l
 | []=>by simp[RP,vo]
 | v::l=>by
  have:=Eb v;have:=Nu l;simp only[RP,vo,ja];omega
end
theorem ib {v:Val} {n:Nat} (h:fQ v<n) (a:n<=1099511627776):fR n v=some (Ul v):=by
 obtain⟨b,h1,h2⟩:=aw a h;have:=Eb v;rw[Uc (by omega) a]at h1;rw[h2];have h1:=Option.some.inj h1;cases b<;>cases c:Ul v<;>rw[c]at h1<;>first|rfl|exact absurd h1 (by decide)
end W
end
section
open Go Ax
namespace W
theorem TO (ks:List (List UInt8)) (z:ks.length<=1099511627775):Tot (ks.length+1) (fun n=>ue n ks) (fun b=>b=true->∀(i:Nat) (h:i<ks.length),ks[i].length<=64/\∀(e:0<i),Op.bytesLess ks[i - 1] ks[i]=true):=by
 unfold ue;refine Tot.loop (fun m s=>∃ k:Nat,s=(k:Int)/\k+m=ks.length/\∀(i:Nat) (h:i<ks.length),i<k->ks[i].length<=64/\∀(e:0<i),Op.bytesLess ks[i - 1] ks[i]=true) ?_ ⟨0,rfl,by omega,fun i _ h=>by omega⟩ (Nat.lt_succ_self _)
 rintro m _ ⟨k,rfl,hm,p⟩;unfold uf;refine qI.cond (fun a=>?_) (fun a=>.one fun _ i h=>p i h ?_)
 ·rw[zb]at a
  have f:k<ks.length:=by have:=kod a; omega
  refine qI.bnd (Tot.idx (zE f) (P:=fun x=>x=ks[k]) rfl) fun x t=>?_
  subst t;refine qI.bnd (Tot.gs (P:=fun y=>∀ e:0<k,y=ks[k - 1]) fun u=>?_) fun y g=>?_
  ·simp only[ji,kde]at u
   have:0<k:=by omega
   obtain⟨j,rfl⟩:∃ j,k=j+1:=⟨k - 1,by omega⟩;rw[VE (by omega)];exact Tot.idx (zE (by omega)) fun _=>rfl
  refine qI.cond (fun _=>.one fun h=>by cases h) fun a=>?_
  rw[zM (by omega)];refine .next ⟨m - 1,by omega,k+1,rfl,by omega,fun i v w=>?_⟩;by_cases d:i<k
  ·exact p i v d
  obtain rfl:i=k:=by omega
  cases c:(bif(ks[i]==([]:List UInt8))then true else(decide (((ks[i].length:Nat):Int)>(64:Int))))with
  | true=>rw[c]at a; cases a
  | false=>
   rw[c]at a g;rw[qV]at a;have o:ks[i].length<=64:=by
    cases q:ks[i]==([]:List UInt8)with
    | true=>rw[q]at c; cases c
    | false=>
     rw[q,qV]at c;have:=of_decide_eq_false c;omega
   refine⟨o,fun e=>?_⟩;have r:decide ((i:Int)>0)=true:=kdt (by omega);rw[r,xM]at a;rw[r]at g;rw[g rfl e]at a;simpa using a
 rw[zb]at a;have:=of_decide_eq_false a;omega
theorem PX {ks:List (List UInt8)} (a:ks.length<=1099511627775) (h:PW ks=true):(∀ k∈ks,k.length<=64)/\Gp ks:=by
 have:=((TO ks a).val (by omega) false).1 h;refine⟨fun k hm=>?_,fun i x y c d=>?_⟩
 ·obtain⟨i,e,rfl⟩:=List.mem_iff_getElem.1 hm
  exact(this i e).1
 obtain⟨h1,rfl⟩:=jG.1 c;obtain⟨h2,rfl⟩:=jG.1 d;have:=(this (i+1) h2).2 (by omega);rw[Sw]at this;exact kod this
def okI (i:Int):Bool:=decide (-9223372036854775808<=i/\i<=9223372036854775807)
mutual
def smV:Val->Bool
 | .mk _ _ i s l _=>okI i&&decide (s.length<=1048576)&&smL l
def smL:List Val->Bool
 | []=>true
 | v::l=>smV v&&smL l
end
theorem iR:∀{l:List Val} {x:Val},smL l=true->x∈l->smV x=true
 | y::l,x,h,hm=>by
  simp only[smL,ji]at h;rcases jg.1 hm with rfl|hm
  ·exact h.1
  exact iR h.2 hm
theorem NZ:∀{l:List Val},(∀ x∈l,smV x=true)->smL l=true
 | [],_=>rfl
 | y::l,h=>by
  simp only[smL,ji];exact⟨h y List.mem_cons_self,NZ fun x a=>h x (List.mem_cons_of_mem _ a)⟩
mutual
theorem qeg:∀(v:Val) (d e:Nat),d<=e->wfV v d=true->wfV v e=true
 | .mk k b i s l ks,d,e,hde,h=>by
  simp only[wfV,ji,kde]at h ⊢;exact⟨⟨by omega,h.1.2⟩,qad l (d - 1) (e - 1) (by omega) h.2⟩
theorem qad:∀(l:List Val) (d e:Nat),d<=e->wfL l d=true->wfL l e=true
 | [],_,_,_,_=>rfl
 | v::l,d,e,hde,h=>by
  simp only[wfL,ji]at h ⊢;exact⟨qeg v d e hde h.1,qad l d e hde h.2⟩
end
theorem lD {d:Nat}:∀{l:List Val} {x:Val},wfL l d=true->x∈l->wfV x d=true
 | y::l,x,h,hm=>by
  simp only[wfL,ji]at h;rcases jg.1 hm with rfl|hm
  ·exact h.1
  exact lD h.2 hm
theorem Dm:∀{l:List Val} {x:Val},x∈l->xl x<=vL l
 | y::l,x,hm=>by
  simp only[vL];rcases jg.1 hm with rfl|hm
  ·omega
  have:=Dm hm; omega
theorem iz (v:Val):1<=xl v:=by cases v; simp only[xl]; omega
theorem Dl:∀ l:List Val,l.length<=vL l
 | []=>jS _
 | v::l=>by have:=Dl l; have:=iz v; simp only[vL,ja]; omega
structure VF (v:Val):Prop where
 may:Ul v=true
 sm:smV v=true
section
variable {k:Int} {b:Bool} {i:Int} {s:List UInt8} {l:List Val} {ks:List (List UInt8)}
theorem VF.one (h:VF (.mk k b i s l ks)):HL k b i s l ks=true/\wfL l 31=true/\1+vL l<=4096:=by
 have:=h.may;simp only[Ul,wfV,xl,ji,kde]at this;exact⟨this.1.1.2,this.1.2,kod this.2⟩
theorem VF.child (h:VF (.mk k b i s l ks)) {x:Val} (a:x∈l):VF x:=by
 obtain⟨_,h2,h3⟩:=h.one;have:=Dm a;have c:=h.sm;simp only[smV,ji]at c;refine⟨?_,iR c.2 a⟩;simp only[Ul,ji,kde];exact⟨qeg x 31 32 (by omega) (lD h2 a),by omega⟩
theorem VF.int (h:VF (.mk k b i s l ks)):-9223372036854775808<=i/\i<=9223372036854775807:=by
 have a:=h.sm;simp only[smV,okI,ji,kde]at a;exact a.1.1
theorem VF.str (h:VF (.mk k b i s l ks)):s.length<=1048576:=by
 have a:=h.sm;simp only[smV,ji,kde]at a;exact a.1.2
theorem VF.len (h:VF (.mk k b i s l ks)):l.length<=4095:=by
 have:=h.one.2.2;have:=Dl l;omega
theorem Et (h:HL k b i s l ks=true):LC (.mk k b i s l ks)=true/\0<=k/\k<=7/\(k=5->ks.length=l.length/\PW ks=true):=by
 unfold HL at h;simp only[ji,Bool.not_eq_true',decide_eq_false_iff_not]at h;obtain⟨⟨⟨⟨h1,h2⟩,h3⟩,h4⟩,h5⟩:=h;refine⟨h3,by omega,by omega,fun e=>?_⟩;subst e;simp only[BEq.rfl,Bool.true_and,jY,bne_eq_false_iff_eq,Bool.not_eq_false']at h5;exact⟨by omega,h5.2⟩
theorem Sv (h:LC (.mk k b i s l ks)=true) (h5:k≠5):ks=[]:=by
 have e:uT 0 (.mk k b i s l ks)=some true:=by rw[MM,h]
 unfold uT at e;have e:=Option.some.inj e;rw[zb]at e;have:(k==5)=false:=by simpa using h5
 rw[this,qV]at e;generalize (bif(bif(bif(bif(k==(1:Int))then true else(!b))then(bif(bif(k==(2:Int))then true else(decide (k≥(6:Int))))then true else(i==(0:Int)))else false)then(bif(k==(3:Int))then true else(s==([]:List UInt8)))else false)then _ else false)=c at e;cases c with
 | false=>cases e
 | true=>
  rw[xM]at e;have:((ks.length:Nat):Int)=0:=by simpa using e
  exact jI (by omega)
theorem VF.keys (h:VF (.mk k b i s l ks)):ks.length<=l.length/\Gp ks/\(∀ x∈ks,x.length<=64)/\(k=5->ks.length=l.length):=by
 obtain⟨h1,_,_,h4⟩:=Et h.one.1;have d:=h.len;by_cases h5:k=5
 ·obtain⟨e1,e2⟩:=h4 h5
  obtain⟨a,c⟩:=PX (by omega) e2;exact⟨by omega,c,a,fun _=>e1⟩
 have e:=Sv h1 h5;subst e;exact⟨jS _,fun i x y h=>by simp at h,fun x h=>by simp at h,fun e=>absurd e h5⟩
end
theorem il:∀{ks:List (List UInt8)},(∀ x∈ks,x.length<=64)->(ks.map fun k=>1+k.length).sum<=65 * ks.length
 | [],_=>by simp
 | k::ks,h=>by
  have:=il (ks:=ks) fun x a=>h x (List.mem_cons_of_mem _ a)
  have:=h k List.mem_cons_self;simp only[jk,jA,ja];omega
mutual
theorem qac:∀ v:Val,VF v->fQ v+70<=xl v * 1048700
 | .mk k b i s l ks,h=>by
  have h1:=lv l (fun x hx=>h.child hx)
  obtain⟨hk,_,h64,_⟩:=h.keys;have h2:=il h64;have h3:=h.str;have h4:isz i=1:=by unfold isz; rw[if_pos h.int]
  simp only[fQ,xl,Nat.add_mul];omega
theorem lv:∀ l:List Val,(∀ x∈l,VF x)->vo l+65 * l.length<=1+vL l * 1048700
 | [],_=>by simp[vo,vL]
 | v::l,h=>by
  have:=qac v (h v List.mem_cons_self);have:=lv l fun x hx=>h x (List.mem_cons_of_mem _ hx)
  simp only[vo,vL,ja,Nat.add_mul];omega
end
theorem VF.big {v:Val} (h:VF v):fQ v<=4295475200:=by
 have h1:=qac v h;have h2:=h.may;simp only[Ul,ji,kde]at h2;have:xl v * 1048700<=4096 * 1048700:=Nat.mul_le_mul_right _ h2.2;omega
end W
end
section
open Go Ax
namespace W
def VR (r:Val×Int):Prop:=r.2=0->VF r.1
abbrev NJ:Val:=Val.mk (0:Int) false (0:Int) ([]:List UInt8) ([]:List Val) ([]:List (List UInt8))
theorem Up (i:Int):okI (kwr .i64 i)=true:=by
 have h:=wrap_within IntKind.i64 i;have h1:IntKind.i64.min = -9223372036854775808:=by decide
 have h2:IntKind.i64.max=9223372036854775807:=by decide
 unfold okI;exact kdt (by omega)
theorem fa:VF NJ:=⟨by decide,by decide⟩
theorem UR (k:Int) (b:Bool) (i:Int) (s:List UInt8) (l:List Val) (ks:List (List UInt8)):LC (.mk k b i s l ks) =
  (bif(bif(bif(bif(bif(k==(1:Int))then true else(!b))then(bif(bif(k==(2:Int))then true else(decide (k≥(6:Int))))then true else(i==(0:Int)))else false)then(bif(k==(3:Int))then true else(s==([]:List UInt8)))else false)then(bif(bif(k==(4:Int))then true else(k==(5:Int)))then true else((((Val.rows l).length:Nat):Int)==(0:Int)))else false)then(bif(k==(5:Int))then true else((((qv ks).length:Nat):Int)==(0:Int)))else false):=rfl
theorem MG {k:Int} {b:Bool} {i:Int} {s:List UInt8} (h1:HL k b i s [] []=true) (h2:okI i=true) (h3:s.length<=1048576):VF (.mk k b i s [] []):=by
 refine⟨?_,?_⟩
 ·simp only[Ul,wfV,wfL,xl,vL,h1]; rfl
 simp only[smV,smL,h2,kdt h3]; rfl
theorem qce (b:Bool):VF (.mk 1 b 0 [] [] []):=by cases b<;>exact MG (by decide) (by decide) (by decide)
theorem Vf {i:Int} (h:okI i=true):VF (.mk 2 false i [] [] []):=by
 refine MG ?_ h (by decide);unfold HL;rw[UR];rfl
theorem lB {s:List UInt8} (h:s.length<=1048576):VF (.mk 3 false 0 s [] []):=by
 refine MG ?_ (by decide) h;unfold HL;rw[UR];rfl
theorem eI (l:List Val):HL 4 false 0 [] l []=true:=by
 unfold HL;rw[UR];rfl
theorem ly {l:List Val} (h:∀ x∈l,VF x) (hw:wfL l 31=true) (hp:vL l<=4095):VF (.mk 4 false 0 [] l []):=by
 refine⟨?_,?_⟩
 ·simp only[Ul,wfV,xl,eI,hw,ji]
  exact⟨by decide,kdt (by omega)⟩
 simp only[smV,NZ fun x a=>(h x a).sm,Bool.and_true]
 decide
theorem qcf {l:List Val} (h:∀ x∈l,∃ i,okI i=true/\x=.mk 2 false i [] [] []) (c:l.length<=4095):VF (.mk 4 false 0 [] l []):=by
 have a:∀ l:List Val,(∀ x∈l,∃ i,okI i=true/\x=.mk 2 false i [] [] [])->wfL l 31=true/\vL l=l.length:=by
  intro l
  induction l with
  | nil=>intro _; exact⟨rfl,rfl⟩
  | cons v l ih=>
   intro h;obtain⟨i,_,rfl⟩:=h v List.mem_cons_self;obtain⟨h1,h2⟩:=ih fun x a=>h x (List.mem_cons_of_mem _ a)
   have h3:HL 2 false i [] [] []=true:=by unfold HL; rw[UR]; rfl
   simp only[wfL,wfV,h1,h3,vL,xl,h2,ja];exact⟨by decide,by omega⟩
 obtain⟨h1,h2⟩:=a l h;refine ly (fun x hm=>?_) h1 (by omega);obtain⟨i,b,rfl⟩:=h x hm;exact Vf b
theorem qcg {l:List Val} (h:∀ x∈l,∃ s:List UInt8,s.length<=1048576/\x=.mk 3 false 0 s [] []) (c:l.length<=4095):VF (.mk 4 false 0 [] l []):=by
 have a:∀ l:List Val,(∀ x∈l,∃ s:List UInt8,s.length<=1048576/\x=.mk 3 false 0 s [] [])->wfL l 31=true/\vL l=l.length:=by
  intro l
  induction l with
  | nil=>intro _; exact⟨rfl,rfl⟩
  | cons v l ih=>
   intro h;obtain⟨s,_,rfl⟩:=h v List.mem_cons_self;obtain⟨h1,h2⟩:=ih fun x a=>h x (List.mem_cons_of_mem _ a)
   have h3:HL 3 false 0 s [] []=true:=by unfold HL; rw[UR]; rfl
   simp only[wfL,wfV,h1,h3,vL,xl,h2,ja];exact⟨by decide,by omega⟩
 obtain⟨h1,h2⟩:=a l h;refine ly (fun x hm=>?_) h1 (by omega);obtain⟨s,b,rfl⟩:=h x hm;exact lB b
def xy (v:Val):Any:=(za 0 v).getD .nul
theorem EZ {A:Type} (c:Bool) (a b:A):(bif c then some a else some b)=some (bif c then a else b):=by cases c<;>rfl
theorem ux (n:Nat) (v:Val):za n v=some (xy v):=by
 obtain⟨k,b,i,s,l,ks⟩:=v;unfold xy za
 dsimp only
 simp only[EZ];rfl
theorem Eu (k:Int) (b:Bool) (i:Int) (s:List UInt8) (l:List Val) (ks:List (List UInt8)) :
  (xy (.mk k b i s l ks)).is_b=(k==1)/\(xy (.mk k b i s l ks)).is_i=(k==2)/\(xy (.mk k b i s l ks)).is_s=(k==3)/\(xy (.mk k b i s l ks)).is_l=(k==4) /\
  (k=1->(xy (.mk k b i s l ks)).get_b=b)/\(k=2->(xy (.mk k b i s l ks)).get_i=i)/\(k=3->(xy (.mk k b i s l ks)).get_s=s)/\(k=4->(xy (.mk k b i s l ks)).get_l=l):=by
 unfold xy za
 dsimp only
 by_cases a:k=0
 ·subst a; exact⟨rfl,rfl,rfl,rfl,fun h=>absurd h (by decide),fun h=>absurd h (by decide),fun h=>absurd h (by decide),fun h=>absurd h (by decide)⟩
 by_cases h1:k=1
 ·subst h1; exact⟨rfl,rfl,rfl,rfl,fun _=>rfl,fun h=>absurd h (by decide),fun h=>absurd h (by decide),fun h=>absurd h (by decide)⟩
 by_cases h2:k=2
 ·subst h2; exact⟨rfl,rfl,rfl,rfl,fun h=>absurd h (by decide),fun _=>rfl,fun h=>absurd h (by decide),fun h=>absurd h (by decide)⟩
 by_cases h3:k=3
 ·subst h3; exact⟨rfl,rfl,rfl,rfl,fun h=>absurd h (by decide),fun h=>absurd h (by decide),fun _=>rfl,fun h=>absurd h (by decide)⟩
 by_cases h4:k=4
 ·subst h4; exact⟨rfl,rfl,rfl,rfl,fun h=>absurd h (by decide),fun h=>absurd h (by decide),fun h=>absurd h (by decide),fun _=>rfl⟩
 have e:∀ j:Int,k≠j->(k==j)=false:=fun j h=>kbf.2 h
 simp only[e 0 a,e 1 h1,e 2 h2,e 3 h3,e 4 h4,qV,jV];exact⟨rfl,rfl,rfl,rfl,fun h=>absurd h h1,fun h=>absurd h h2,fun h=>absurd h h3,fun h=>absurd h h4⟩
theorem VF.open_l {v:Val} (h:VF v) (a:(xy v).is_l=true):(xy v).get_l.length<=4095/\∀ x∈(xy v).get_l,VF x:=by
 obtain⟨k,b,i,s,l,ks⟩:=v;obtain⟨_,_,_,h4,_,_,_,g4⟩:=Eu k b i s l ks;rw[h4]at a;rw[g4 (eq_of_beq a)];exact⟨h.len,fun x c=>h.child c⟩
theorem VF.open_s {v:Val} (h:VF v) (a:(xy v).is_s=true):(xy v).get_s.length<=1048576:=by
 obtain⟨k,b,i,s,l,ks⟩:=v;obtain⟨_,_,h4,_,_,_,g4,_⟩:=Eu k b i s l ks;rw[h4]at a;rw[g4 (eq_of_beq a)];exact h.str
theorem VF.open_i {v:Val} (h:VF v) (a:(xy v).is_i=true):okI (xy v).get_i=true:=by
 obtain⟨k,b,i,s,l,ks⟩:=v;obtain⟨_,h4,_,_,_,g4,_,_⟩:=Eu k b i s l ks;rw[h4]at a;rw[g4 (eq_of_beq a)];exact kdt h.int
theorem qbp {i:Int} (h:okI i=true):-9223372036854775808<=i/\i<=9223372036854775807:=kod h
abbrev qaf (r:Int×Int):Prop:=okI r.1=true
theorem ld (N:Nat) (x y:Int):Tot N (fun n=>Qd n x y) qaf:=by
 unfold Qd;exact Tot.cond (fun _=>.one (by decide)) (fun _=>.one (Up _))
theorem qai (N:Nat) (x y:Int):Tot N (fun n=>ZU n x y) qaf:=by
 unfold ZU;exact Tot.cond (fun _=>.one (by decide)) (fun _=>.one (Up _))
theorem XC (N:Nat) {x:Int} (h:okI x=true):Tot N (fun n=>gF n x) (fun r=>r=0->x=0):=by
 have:=qbp h;unfold gF;refine Tot.cond (fun a=>.one fun h=>?_) (fun a=>.one fun h=>?_)
 ·have:=kod a
  rw[qab x (by omega) (by omega)]at h;omega
 have:=of_decide_eq_false a;rw[EC x (by omega) (by omega)]at h;exact h
theorem Gi (N:Nat) (x:Int) (b:Bool):Tot N (fun n=>cM n x b) qaf:=by
 unfold cM;exact Tot.cond (fun _=>.one (Up _)) (fun _=>Tot.cond (fun _=>.one (Up _)) (fun _=>.one (by decide)))
theorem qbl (N:Nat) {x y:Int} (c:okI x=true) (d:okI y=true):Tot N (fun n=>ZX n x y) qaf:=by
 unfold ZX;refine Tot.bnd (XC N c) fun a _=>Tot.bnd (XC N d) fun b _=>?_
 unfold dj;refine Tot.bnd (P:=fun _=>True) (.one trivial) fun r _=>?_
 obtain⟨e,lo⟩:=r;refine Tot.cond (fun _=>.one (by decide)) (fun _=>Tot.bnd (Gi N _ _) fun r h=>?_)
 obtain⟨f,g⟩:=r;exact .one h
theorem qax (N:Nat) {x y:Int} (c:okI x=true) (d:okI y=true):Tot N (fun n=>ZV n x y) qaf:=by
 unfold ZV;refine Tot.cond (fun _=>.one (by decide)) (fun f=>?_);refine Tot.bnd (XC N c) fun a _=>Tot.bnd (XC N d) fun b g=>?_
 refine Tot.chk (kdt fun e=>?_) (Tot.bnd (Gi N _ _) fun r h=>?_)
 ·have:=g e
  subst this;exact absurd f (by decide)
 obtain⟨i,j⟩:=r;exact .one h
theorem qbk (N:Nat) {x y:Int} (c:okI x=true) (d:okI y=true):Tot N (fun n=>ZW n x y) qaf:=by
 unfold ZW;refine Tot.cond (fun _=>.one (by decide)) (fun f=>?_);refine Tot.bnd (XC N c) fun a _=>Tot.bnd (XC N d) fun b g=>?_
 refine Tot.chk (kdt fun e=>?_) (Tot.bnd (Gi N _ _) fun r h=>?_)
 ·have:=g e
  subst this;exact absurd f (by decide)
 obtain⟨i,j⟩:=r;exact .one h
theorem qah (N:Nat) (x y:Int):Tot N (fun n=>vy n x y) qaf:=by
 unfold vy;refine Tot.bnd (ld N _ _) fun r h=>?_;obtain⟨a,b⟩:=r;exact .one h
theorem NI (N:Nat) {a b:Val} (i:VF a) (l:VF b):Tot N (fun n=>xF n a b) VR:=by
 obtain⟨k,d,f,g,j,m⟩:=a;obtain⟨k',o,p,q,t,u⟩:=b;unfold xF
 dsimp only
 refine Tot.cond (fun _=>.one fun _=>fa) (fun _=>?_)
 refine Tot.bnd (.of (fun n _ _=>ux n _) rfl) fun a h1=>Tot.bnd (.of (fun n _ _=>ux n _) rfl) fun b h2=>?_
 subst h1 h2;refine Tot.cond (fun _=>.one fun h=>absurd h (by dsimp only; decide)) (fun c=>?_)
 have y:okI (xy (Val.mk k d f g j m)).get_i=true:=i.open_i (by
  cases h:(xy (Val.mk k d f g j m)).is_i with
  | true=>rfl
  | false=>rw[h]at c; cases c)
 have A:okI (xy (Val.mk k' o p q t u)).get_i=true:=l.open_i (by
  cases h:(xy (Val.mk k' o p q t u)).is_i with
  | true=>rfl
  | false=>rw[h]at c; cases s:(xy (Val.mk k d f g j m)).is_i<;>rw[s]at c<;>cases c)
 refine Tot.bnd (ld N _ _) fun r w=>?_;obtain⟨z,e⟩:=r
 dsimp only
 refine Tot.cond (fun he=>.one fun h=>?_) (fun _=>?_)
 ·have h:e=0:=h
  subst h;exact absurd he (by decide)
 unfold zF;exact Tot.bnd (P:=fun v=>v=Val.mk (2:Int) false z [] [] []) (.one rfl) fun v x=>by subst x; exact .one fun _=>Vf w
theorem eu (N:Nat) {a b:Val} (i:VF a) (l:VF b):Tot N (fun n=>xD n a b) VR:=by
 obtain⟨k,d,f,g,j,m⟩:=a;obtain⟨k',o,p,q,t,u⟩:=b;unfold xD
 dsimp only
 refine Tot.cond (fun _=>.one fun _=>fa) (fun _=>?_)
 refine Tot.bnd (.of (fun n _ _=>ux n _) rfl) fun a h1=>Tot.bnd (.of (fun n _ _=>ux n _) rfl) fun b h2=>?_
 subst h1 h2;refine Tot.cond (fun _=>.one fun h=>absurd h (by dsimp only; decide)) (fun c=>?_)
 have y:okI (xy (Val.mk k d f g j m)).get_i=true:=i.open_i (by
  cases h:(xy (Val.mk k d f g j m)).is_i with
  | true=>rfl
  | false=>rw[h]at c; cases c)
 have A:okI (xy (Val.mk k' o p q t u)).get_i=true:=l.open_i (by
  cases h:(xy (Val.mk k' o p q t u)).is_i with
  | true=>rfl
  | false=>rw[h]at c; cases s:(xy (Val.mk k d f g j m)).is_i<;>rw[s]at c<;>cases c)
 refine Tot.bnd (qai N _ _) fun r w=>?_;obtain⟨z,e⟩:=r
 dsimp only
 refine Tot.cond (fun he=>.one fun h=>?_) (fun _=>?_)
 ·have h:e=0:=h
  subst h;exact absurd he (by decide)
 unfold zF;exact Tot.bnd (P:=fun v=>v=Val.mk (2:Int) false z [] [] []) (.one rfl) fun v x=>by subst x; exact .one fun _=>Vf w
theorem eC (N:Nat) {a b:Val} (i:VF a) (l:VF b):Tot N (fun n=>vx n a b) VR:=by
 obtain⟨k,d,f,g,j,m⟩:=a;obtain⟨k',o,p,q,t,u⟩:=b;unfold vx
 dsimp only
 refine Tot.cond (fun _=>.one fun _=>fa) (fun _=>?_)
 refine Tot.bnd (.of (fun n _ _=>ux n _) rfl) fun a h1=>Tot.bnd (.of (fun n _ _=>ux n _) rfl) fun b h2=>?_
 subst h1 h2;refine Tot.cond (fun _=>.one fun h=>absurd h (by dsimp only; decide)) (fun c=>?_)
 have s:okI (xy (Val.mk k d f g j m)).get_i=true:=i.open_i (by
  cases h:(xy (Val.mk k d f g j m)).is_i with
  | true=>rfl
  | false=>rw[h]at c; cases c)
 have w:okI (xy (Val.mk k' o p q t u)).get_i=true:=l.open_i (by
  cases h:(xy (Val.mk k' o p q t u)).is_i with
  | true=>rfl
  | false=>rw[h]at c; cases x:(xy (Val.mk k d f g j m)).is_i<;>rw[x]at c<;>cases c)
 refine Tot.bnd (qbl N s w) fun r y=>?_;obtain⟨z,e⟩:=r
 dsimp only
 refine Tot.cond (fun he=>.one fun h=>?_) (fun _=>?_)
 ·have h:e=0:=h
  subst h;exact absurd he (by decide)
 unfold zF;exact Tot.bnd (P:=fun v=>v=Val.mk (2:Int) false z [] [] []) (.one rfl) fun v A=>by subst A; exact .one fun _=>Vf y
theorem ez (N:Nat) {a b:Val} (i:VF a) (l:VF b):Tot N (fun n=>vu n a b) VR:=by
 obtain⟨k,d,f,g,j,m⟩:=a;obtain⟨k',o,p,q,t,u⟩:=b;unfold vu
 dsimp only
 refine Tot.cond (fun _=>.one fun _=>fa) (fun _=>?_)
 refine Tot.bnd (.of (fun n _ _=>ux n _) rfl) fun a h1=>Tot.bnd (.of (fun n _ _=>ux n _) rfl) fun b h2=>?_
 subst h1 h2;refine Tot.cond (fun _=>.one fun h=>absurd h (by dsimp only; decide)) (fun c=>?_)
 have s:okI (xy (Val.mk k d f g j m)).get_i=true:=i.open_i (by
  cases h:(xy (Val.mk k d f g j m)).is_i with
  | true=>rfl
  | false=>rw[h]at c; cases c)
 have w:okI (xy (Val.mk k' o p q t u)).get_i=true:=l.open_i (by
  cases h:(xy (Val.mk k' o p q t u)).is_i with
  | true=>rfl
  | false=>rw[h]at c; cases x:(xy (Val.mk k d f g j m)).is_i<;>rw[x]at c<;>cases c)
 refine Tot.bnd (qax N s w) fun r y=>?_;obtain⟨z,e⟩:=r
 dsimp only
 refine Tot.cond (fun he=>.one fun h=>?_) (fun _=>?_)
 ·have h:e=0:=h
  subst h;exact absurd he (by decide)
 unfold zF;exact Tot.bnd (P:=fun v=>v=Val.mk (2:Int) false z [] [] []) (.one rfl) fun v A=>by subst A; exact .one fun _=>Vf y
theorem eB (N:Nat) {a b:Val} (i:VF a) (l:VF b):Tot N (fun n=>vw n a b) VR:=by
 obtain⟨k,d,f,g,j,m⟩:=a;obtain⟨k',o,p,q,t,u⟩:=b;unfold vw
 dsimp only
 refine Tot.cond (fun _=>.one fun _=>fa) (fun _=>?_)
 refine Tot.bnd (.of (fun n _ _=>ux n _) rfl) fun a h1=>Tot.bnd (.of (fun n _ _=>ux n _) rfl) fun b h2=>?_
 subst h1 h2;refine Tot.cond (fun _=>.one fun h=>absurd h (by dsimp only; decide)) (fun c=>?_)
 have s:okI (xy (Val.mk k d f g j m)).get_i=true:=i.open_i (by
  cases h:(xy (Val.mk k d f g j m)).is_i with
  | true=>rfl
  | false=>rw[h]at c; cases c)
 have w:okI (xy (Val.mk k' o p q t u)).get_i=true:=l.open_i (by
  cases h:(xy (Val.mk k' o p q t u)).is_i with
  | true=>rfl
  | false=>rw[h]at c; cases x:(xy (Val.mk k d f g j m)).is_i<;>rw[x]at c<;>cases c)
 refine Tot.bnd (qbk N s w) fun r y=>?_;obtain⟨z,e⟩:=r
 dsimp only
 refine Tot.cond (fun he=>.one fun h=>?_) (fun _=>?_)
 ·have h:e=0:=h
  subst h;exact absurd he (by decide)
 unfold zF;exact Tot.bnd (P:=fun v=>v=Val.mk (2:Int) false z [] [] []) (.one rfl) fun v A=>by subst A; exact .one fun _=>Vf y
theorem er (N:Nat) {a b:Val} (i:VF a) (l:VF b):Tot N (fun n=>zD n a b) VR:=by
 obtain⟨k,d,f,g,j,m⟩:=a;obtain⟨k',o,p,q,t,u⟩:=b;unfold zD
 dsimp only
 refine Tot.cond (fun _=>.one fun _=>fa) (fun _=>?_)
 refine Tot.bnd (.of (fun n _ _=>ux n _) rfl) fun a h1=>Tot.bnd (.of (fun n _ _=>ux n _) rfl) fun b h2=>?_
 subst h1 h2;refine Tot.cond (fun _=>.one fun h=>absurd h (by dsimp only; decide)) (fun c=>?_)
 have y:okI (xy (Val.mk k d f g j m)).get_i=true:=i.open_i (by
  cases h:(xy (Val.mk k d f g j m)).is_i with
  | true=>rfl
  | false=>rw[h]at c; cases c)
 have A:okI (xy (Val.mk k' o p q t u)).get_i=true:=l.open_i (by
  cases h:(xy (Val.mk k' o p q t u)).is_i with
  | true=>rfl
  | false=>rw[h]at c; cases s:(xy (Val.mk k d f g j m)).is_i<;>rw[s]at c<;>cases c)
 refine Tot.bnd (qah N _ _) fun r w=>?_;obtain⟨z,e⟩:=r
 dsimp only
 refine Tot.cond (fun he=>.one fun h=>?_) (fun _=>?_)
 ·have h:e=0:=h
  subst h;exact absurd he (by decide)
 unfold zF;exact Tot.bnd (P:=fun v=>v=Val.mk (2:Int) false z [] [] []) (.one rfl) fun v x=>by subst x; exact .one fun _=>Vf w
end W
end
section
open Go Ax
namespace W
def T3 (t:Int):Prop:=t=0\/t=1\/t=2
instance (t:Int):Decidable (T3 t):=by unfold T3; infer_instance
def ir (x:Int):Int:=if x=0 then 1 else if x=1 then 0 else 2
def RL (x y:Int):Int:=if x=0\/y=0 then 0 else if x=1/\y=1 then 1 else 2
def or3 (x y:Int):Int:=ir (RL (ir x) (ir y))
def qe7 (x y:Int):Int:=or3 (RL x (ir y)) (RL (ir x) y)
theorem lf {x:Int} (h:T3 x):T3 (ir x):=by rcases h with rfl|rfl|rfl<;>decide
theorem qaa {x y:Int} (h:T3 x) (k:T3 y):T3 (RL x y):=by rcases h with rfl|rfl|rfl<;>rcases k with rfl|rfl|rfl<;>decide
theorem qfv {x y:Int} (h:T3 x) (k:T3 y):T3 (or3 x y):=lf (qaa (lf h) (lf k))
theorem oT (n:Nat) {x:Int} (h:T3 x):vS n x=some (ir x):=by rcases h with rfl|rfl|rfl<;>rfl
theorem oz (n:Nat) {x y:Int} (h:T3 x) (k:T3 y):fN n x y=some (RL x y):=by rcases h with rfl|rfl|rfl<;>rcases k with rfl|rfl|rfl<;>rfl
theorem qdv (n:Nat) {x y:Int} (h:T3 x) (k:T3 y):rG n x y=some (or3 x y):=by rcases h with rfl|rfl|rfl<;>rcases k with rfl|rfl|rfl<;>rfl
theorem qej (n:Nat) {x y:Int} (h:T3 x) (k:T3 y):QG n x y=some (qe7 x y):=by rcases h with rfl|rfl|rfl<;>rcases k with rfl|rfl|rfl<;>rfl
theorem eH (n:Nat) (b:Bool):bU n b=some (bif b then 1 else 0):=by cases b<;>rfl
theorem qea (b:Bool):T3 (bif b then 1 else 0):=by cases b<;>decide
def nc (t:Int):Val:=bif t==2 then NJ else .mk 1 (t==1) 0 [] [] []
theorem tG (n:Nat) (t:Int):zT n t=some (nc t):=by unfold zT nc; cases(t==2)<;>rfl
theorem mY (t:Int):VF (nc t):=by
 unfold nc;cases(t==2)with
 | true=>exact fa
 | false=>exact qce _
def bX:Val->Int×Int
 | .mk k b _ _ _ _=>bif k==0 then(2,0)else bif k==1 then(bif b then 1 else 0,0)else(0,3)
theorem QN (n:Nat) (v:Val):ub n v=some (bX v):=by
 obtain⟨k,b,i,s,l,ks⟩:=v;obtain⟨h1,_,_,_,g1,_⟩:=Eu k b i s l ks;unfold ub bX
 dsimp only
 rw[ux,vn,h1];cases c:k==0 with
 | true=>rfl
 | false=>
  cases a:k==1 with
  | true=>rw[g1 (eq_of_beq a)]; cases b<;>rfl
  | false=>rfl
theorem Zc (v:Val):T3 (bX v).1:=by
 obtain⟨k,b,i,s,l,ks⟩:=v;unfold bX
 dsimp only
 cases k==0 with
 | true=>exact(by decide:T3 2)
 | false=>
  cases k==1 with
  | true=>cases b<;>first|exact(by decide:T3 0)|exact(by decide:T3 1)
  | false=>exact(by decide:T3 0)
def td (f:Int->Int->Int) (a b:Val):Val×Int:=
 bif(bX a).2 != 0 then(NJ,(bX a).2)else bif(bX b).2 != 0 then(NJ,(bX b).2)else(nc (f (bX a).1 (bX b).1),0)
theorem CW (f:Int->Int->Int) (a b:Val):VR (td f a b):=by
 unfold td;cases h:(bX a).2 != 0 with
 | true=>intro e; have:(bX a).2=0:=e; rw[this]at h; cases h
 | false=>
  cases h:(bX b).2 != 0 with
  | true=>intro e; have:(bX b).2=0:=e; rw[this]at h; cases h
  | false=>exact fun _=>mY _
theorem qb7 (n:Nat) (a b:Val):vd n a b=some (td RL a b):=by
 obtain⟨k,c,d,e,g,i⟩:=a;obtain⟨k',j,o,s,u,z⟩:=b;have f:=Zc (Val.mk k c d e g i);have h:=Zc (Val.mk k' j o s u z);unfold vd td
 dsimp only
 rw[QN,QN];generalize bX (Val.mk k c d e g i)=p at f ⊢;generalize bX (Val.mk k' j o s u z)=q at h ⊢;simp only[vn,oz n f h,tG];cases p.2 != 0<;>cases q.2 != 0<;>first|rfl|(generalize nc _=tv; cases tv; rfl)
theorem qeb (n:Nat) (a b:Val):vz n a b=some (td or3 a b):=by
 obtain⟨k,c,d,e,g,i⟩:=a;obtain⟨k',j,o,s,u,z⟩:=b;have f:=Zc (Val.mk k c d e g i);have h:=Zc (Val.mk k' j o s u z);unfold vz td
 dsimp only
 rw[QN,QN];generalize bX (Val.mk k c d e g i)=p at f ⊢;generalize bX (Val.mk k' j o s u z)=q at h ⊢;simp only[vn,qdv n f h,tG];cases p.2 != 0<;>cases q.2 != 0<;>first|rfl|(generalize nc _=tv; cases tv; rfl)
theorem qb9 (n:Nat) (a b:Val):ve n a b=some (td qe7 a b):=by
 obtain⟨k,c,d,e,g,i⟩:=a;obtain⟨k',j,o,s,u,z⟩:=b;have f:=Zc (Val.mk k c d e g i);have h:=Zc (Val.mk k' j o s u z);unfold ve td
 dsimp only
 rw[QN,QN];generalize bX (Val.mk k c d e g i)=p at f ⊢;generalize bX (Val.mk k' j o s u z)=q at h ⊢;simp only[vn,qej n f h,tG];cases p.2 != 0<;>cases q.2 != 0<;>first|rfl|(generalize nc _=tv; cases tv; rfl)
open Classical in
mutual
noncomputable def eq3:Val->Val->Int
 | .mk k b i s l ks,.mk k' b' i' s' l' ks'=>
  if k=0\/k'=0 then 2
  else if k≠k'\/l.length≠l'.length\/ks≠ks' then 0
  else if k=4\/k=5 then eqL 1 l l'
  else if Val.mk k b i s l ks=.mk k' b' i' s' l' ks' then 1 else 0
noncomputable def eqL:Int->List Val->List Val->Int
 | t,v::l,w::m=>eqL (RL t (eq3 v w)) l m
 | t,_,_=>t
end
theorem Ni (t:Int):∀(l m:List Val) (k:Nat) (a:k<l.length) (hm:k<m.length),eqL t (l.take (k+1)) (m.take (k+1))=RL (eqL t (l.take k) (m.take k)) (eq3 l[k] m[k])
 | v::l,w::m,0,_,_=>by simp[eqL]
 | v::l,w::m,k+1,a,hm=>by
  have:=Ni (RL t (eq3 v w)) l m k (by simpa using a) (by simpa using hm);simpa[eqL]using this
theorem aE:∀(N:Nat) (v w:Val),fQ v<=N->N<=1099511627770->Tot (N+2) (fun n=>vB n v w) (fun t=>t=eq3 v w/\T3 t):=by
 intro N
 induction N with
 | zero=>intro v w h; have:=Fy v; omega
 | succ N ih=>
  intro v w L X;refine Tot.succ (G:=fun n=>dx n (vB n) v w) (fun n=>rfl) ?_
  obtain⟨k,b,i,s,l,ks⟩:=v;obtain⟨k',f,o,p,l',ks'⟩:=w;have Y:fQ (.mk k b i s l ks)=1+isz i+s.length+vo l+(ks.map fun k=>1+k.length).sum:=by simp only[fQ]
  have O:=xz l;have R:ks.length<=(ks.map fun k=>1+k.length).sum:=vm ks
  unfold dx
  dsimp only
  rw[qn,qn];refine Tot.cond (fun B=>.one ⟨?_,.inr (.inr rfl)⟩) (fun B=>?_)
  ·unfold eq3
   rw[if_pos];cases h:k==0 with
   | true=>exact .inl (eq_of_beq h)
   | false=>rw[h,qV]at B; exact .inr (eq_of_beq B)
  have F:¬ (k=0\/k'=0):=by
   rintro(rfl|rfl)
   ·cases B
   cases h:k==0<;>rw[h]at B<;>cases B
  have hkeys:Tot (N+2) (fun n=>zm n ks ks') (fun b=>b=true↔ks=ks'):=by
   obtain⟨b,h1,h2⟩:=nz (n:=N+2) (x:=ks) (y:=ks') (by omega) (by omega);refine⟨b,h2,fun n H u=>?_⟩;obtain⟨f,A,I⟩:=nz (n:=n) (x:=ks) (y:=ks') (by omega) u;show zm n ks ks'=some b;rw[A];congr 1;cases b<;>cases f<;>simp_all
  refine Tot.bnd (Tot.gs fun _=>hkeys) fun c g=>?_
  refine Tot.cond (fun a=>.one ⟨?_,.inl rfl⟩) (fun a=>?_)
  ·unfold eq3
   rw[if_neg F,if_pos];by_cases e1:k=k'
   ·by_cases e2:l.length=l'.length
    ·right; right
     intro S;have g1:(k != k')=false:=by simpa using e1
     have g2:(((l.length:Nat):Int) != ((l'.length:Nat):Int))=false:=by rw[bne_eq_false_iff_eq]; omega
     rw[g1,g2,qV]at a g;rw[(g rfl).2 S]at a;cases a
    ·exact .inr (.inl e2)
   exact .inl e1
  have g1:k=k':=by
   cases h:k != k' with
   | false=>simpa using h
   | true=>rw[h]at a; cases a
  have g2:l.length=l'.length:=by
   cases h:(((l.length:Nat):Int) != ((l'.length:Nat):Int))with
   | false=>have:=(bne_eq_false_iff_eq).1 h; omega
   | true=>rw[h]at a; cases h2:k != k'<;>rw[h2]at a<;>cases a
  have g3:ks=ks':=by
   have q1:(k != k')=false:=by simpa using g1
   have q2:(((l.length:Nat):Int) != ((l'.length:Nat):Int))=false:=by rw[bne_eq_false_iff_eq]; omega
   rw[q1,q2,qV,qV]at a;rw[q1,q2,qV]at g;have:c=true:=by simpa using a
   exact(g rfl).1 this
  refine Tot.cond (fun d=>?_) (fun d=>?_)
  ·have he:eq3 (.mk k b i s l ks) (.mk k' f o p l' ks')=eqL 1 l l':=by
    unfold eq3;rw[if_neg F,if_neg (by rintro(h|h|h); exact h g1; exact h g2; exact h g3),if_pos];cases h:k==4 with
    | true=>exact .inl (eq_of_beq h)
    | false=>rw[h,qV]at d; exact .inr (eq_of_beq d)
   rw[he];refine Tot.loop (fun m st=>∃(j:Nat) (t:Int),st=(t,((j:Nat):Int))/\j+m=l.length/\t=eqL 1 (l.take j) (l'.take j)/\T3 t) ?_ ⟨0,1,rfl,by omega,by simp[eqL],.inr (.inl rfl)⟩ (by omega:l.length<N+2);rintro m _ ⟨j,t,rfl,hm,J,h3⟩;unfold pM
   dsimp only
   rw[qn];refine qI.cond (fun K=>?_) (fun K=>.one ?_)
   ·have C:j<l.length:=by have:=kod K; omega
    have D:j<l'.length:=by omega
    have T:=um (List.getElem_mem C);refine qI.bnd (Tot.idx (zE C) (P:=fun v=>v=l[j]) rfl) fun v L=>?_
    obtain⟨Z,y2,y3,y4,y5,y6⟩:=v
    dsimp only
    refine qI.bnd (Tot.idx (zE D) (P:=fun v=>v=l'[j]) rfl) fun w hw=>?_
    obtain⟨z1,z2,z3,z4,z5,z6⟩:=w
    dsimp only
    rw[L,hw];refine qI.bnd (ih l[j] l'[j] (by omega) (by omega)) fun r U=>?_;obtain⟨rfl,E⟩:=U;refine qI.bnd (Tot.of (fun n _ _=>oz n h3 E) (Q:=fun z=>z=RL t (eq3 l[j] l'[j])) rfl) fun z hz=>?_
    subst hz;rw[zM (by omega)];exact .next ⟨m - 1,by omega,j+1,_,rfl,by omega,by rw[Ni 1 l l' j C D,J],qaa h3 E⟩
   have C:j=l.length:=by have:=of_decide_eq_false K; omega
   subst C;rw[List.take_length,g2,List.take_length]at J;exact⟨J,h3⟩
  have he:eq3 (.mk k b i s l ks) (.mk k' f o p l' ks') = @ite _ (Val.mk k b i s l ks=.mk k' f o p l' ks') (Classical.propDecidable _) 1 0:=by
   unfold eq3;rw[if_neg F,if_neg (by rintro(h|h|h); exact h g1; exact h g2; exact h g3),if_neg];rintro(h|h)
   ·subst h; cases d
   subst h; cases d
  rw[he];have hsame:Tot (N+2) (fun n=>vH n (.mk k b i s l ks) (.mk k' f o p l' ks')) (fun q=>q=true↔Val.mk k b i s l ks=.mk k' f o p l' ks'):=by
   obtain⟨q,h1,h2⟩:=(DA (N+2) (by omega)).1 (.mk k b i s l ks) (.mk k' f o p l' ks') (by omega);refine⟨q,h2,fun n H u=>?_⟩;obtain⟨V,A,I⟩:=(DA n u).1 (.mk k b i s l ks) (.mk k' f o p l' ks') (by omega);show vH n _ _=some q;rw[A];congr 1;cases q<;>cases V<;>simp_all
  refine Tot.bnd hsame fun q M=>Tot.bnd (.of (fun n _ _=>eH n q) (Q:=fun z=>z=bif q then 1 else 0) rfl) fun z hz=>.one ?_
  subst hz;refine⟨?_,qea q⟩;cases q with
  | true=>rw[if_pos (M.1 rfl)]; rfl
  | false=>rw[if_neg (fun e=>Bool.false_ne_true (M.2 e))]; rfl
end W
end
section
open Go Ax
namespace W
theorem EP {k:Int} {b:Bool} {i:Int} {s:List UInt8} {l:List Val} {ks:List (List UInt8)} (h:LC (.mk k b i s l ks)=true) (h4:k≠4) (h5:k≠5):l=[]:=by
 rw[UR,qn]at h;have e4:(k==4)=false:=kbf.2 h4;have e5:(k==5)=false:=kbf.2 h5;rw[e4,e5]at h;generalize (bif(bif(bif(k==(1:Int))then true else(!b))then(bif(bif(k==(2:Int))then true else(decide (k≥(6:Int))))then true else(i==(0:Int)))else false)then(bif(k==(3:Int))then true else(s==([]:List UInt8)))else false)=c at h;cases c with
 | false=>cases h
 | true=>
  rw[xM,qV,qV]at h;cases a:(((l.length:Nat):Int)==0)with
  | true=>have:=eq_of_beq a; exact jI (by omega)
  | false=>rw[a]at h; cases h
theorem Dy {A:Type} (C:Codec A) (X:List (List A)):(pj C X).length=X.length:=by simp[pj]
theorem SX (l:List Int) (c:l.length<=1000):Tot (l.length+1) (fun n=>gf n l) (fun _=>True):=by
 unfold gf;refine Tot.loop (fun m st=>∃ j:Nat,st=((j:Nat):Int)/\j+m=l.length) ?_ ⟨0,rfl,by omega⟩ (Nat.lt_succ_self _);rintro m _ ⟨j,rfl,hm⟩;unfold du;rw[Vt];refine qI.cond (fun a=>?_) (fun _=>.one trivial);have b:j<l.length:=by have:=kod a; omega
 refine qI.bnd (Tot.idx (zE b) (P:=fun _=>True) trivial) fun x _=>qI.cond (fun _=>.one trivial) fun _=>?_
 rw[zM (by omega)];exact .next ⟨m - 1,by omega,j+1,rfl,by omega⟩
theorem MV (N:Nat) (x y:Int):Tot N (fun n=>vP n x y) (fun _=>True):=by
 unfold vP cH;refine Tot.bnd (P:=fun _=>True) (.one trivial) fun a _=>Tot.bnd (P:=fun _=>True) (.one trivial) fun b _=>?_
 exact Tot.cond (fun _=>Tot.cond (fun _=>.one trivial) fun _=>.one trivial) fun _=>Tot.cond (fun _=>.one trivial) fun _=>Tot.cond (fun _=>.one trivial) fun _=>Tot.cond (fun _=>.one trivial) fun _=>.one trivial
theorem ay (N:Nat) (x y:List UInt8):Tot N (fun n=>vE n x y) (fun _=>True):=by
 unfold vE xd;refine Tot.bnd (P:=fun _=>True) (.one trivial) fun a _=>Tot.bnd (P:=fun _=>True) (.one trivial) fun b _=>?_
 exact Tot.cond (fun _=>Tot.cond (fun _=>.one trivial) fun _=>.one trivial) fun _=>Tot.cond (fun _=>.one trivial) fun _=>Tot.cond (fun _=>.one trivial) fun _=>Tot.cond (fun _=>.one trivial) fun _=>.one trivial
theorem ax (N:Nat) (x y:Int):Tot N (fun n=>xh n x y) (fun _=>True):=by
 unfold xh uW;refine Tot.bnd (P:=fun _=>True) (.one trivial) fun a _=>Tot.bnd (P:=fun _=>True) (.one trivial) fun b _=>?_
 exact Tot.cond (fun _=>Tot.cond (fun _=>.one trivial) fun _=>.one trivial) fun _=>Tot.cond (fun _=>.one trivial) fun _=>Tot.cond (fun _=>.one trivial) fun _=>Tot.cond (fun _=>.one trivial) fun _=>.one trivial
theorem NL (N:Nat) (x:Bool):Tot N (fun n=>cn n x) (fun _=>True):=by
 unfold cn;exact Tot.cond (fun _=>.one trivial) fun _=>.one trivial
theorem ec {v w:Val} (e:VF v) (hw:VF w):Tot 20 (fun n=>uS n v w) T3:=by
 obtain⟨k,b,i,s,l,ks⟩:=v;obtain⟨k',f,g,j,l',ks'⟩:=w;unfold uS
 dsimp only
 refine Tot.cond (fun _=>.one (.inr (.inr rfl))) fun a=>?_;have g1:k=k':=by
  cases h:k != k' with
  | false=>simpa using h
  | true=>rw[h]at a; cases a
 have g2:¬ k<1/\¬ k>3:=by
  cases h:k != k' with
  | true=>rw[h]at a; cases a
  | false=>
   rw[h,qV]at a;cases h2:decide (k<1)with
   | true=>rw[h2]at a; cases a
   | false=>rw[h2,qV]at a; exact⟨of_decide_eq_false h2,of_decide_eq_false a⟩
 subst g1;have e1:=EP (Et e.one.1).1 (by omega) (by omega);have e2:=EP (Et hw.one.1).1 (by omega) (by omega);subst e1 e2;refine Tot.bnd (P:=fun _=>True) ?_ fun c _=>Tot.bnd (.of (fun n _ _=>eH n _) (qea _)) fun t o=>.one o
 refine Tot.succ (N:=19) (G:=fun n=>dy n (fO n) (.mk k b i s [] ks) (.mk k f g j [] ks')) (fun n=>rfl) ?_
 unfold dy
 dsimp only
 refine Tot.cond (fun d=>?_) fun _=>?_
 ·simp at d
 refine Tot.loop (fun _ st=>st=(0:Int)) ?_ rfl (by decide:0<19)
 rintro m _ rfl;unfold pR;refine qI.cond (fun d=>?_) fun _=>?_
 ·cases d
 refine qI.bnd (MV _ _ _) fun _ _=>qI.bnd (NL _ _) fun _ _=>qI.bnd (NL _ _) fun _ _=>qI.bnd (MV _ _ _) fun _ _=>qI.bnd (ax _ _ _) fun _ _=>qI.bnd (ay _ _ _) fun _ _=>?_
 exact qI.bnd ((SX _ (by simp)).up (by simp)) fun _ _=>.one trivial
def Mx (v:Val):Val×Int:=match v with
 | .mk k b i s l ks=>bif(decide (((s.length:Nat):Int)>16384)||!Ul (.mk k b i s l ks))then(NJ,8)else(.mk k b i s l ks,0)
theorem iI {n:Nat} {v:Val} (h:hgt v<=n) (a:n<=1099511627776):gX n v=some (Mx v):=by
 have c:=Uc h a;obtain⟨k,b,i,s,l,ks⟩:=v;unfold gX Mx
 dsimp only
 rw[c];cases decide (((s.length:Nat):Int)>16384)with
 | true=>rfl
 | false=>cases Ul (.mk k b i s l ks)<;>rfl
theorem qch {v:Val} (h:smV v=true):VR (Mx v):=by
 obtain⟨k,b,i,s,l,ks⟩:=v;unfold Mx
 dsimp only
 cases h1:(decide (((s.length:Nat):Int)>16384)||!Ul (.mk k b i s l ks))with
 | true=>intro e; cases e
 | false=>
  simp only[jY,Bool.not_eq_false']at h1;exact fun _=>⟨h1.2,h⟩
theorem Hn {l:List Val} (h:∀ x∈l,VF x):RP l<=4295475200:=To fun x a=>Nat.le_trans (Eb x) (h x a).big
theorem Lc {l:List Val} (h:∀ x∈l,VF x) (b:l.length<=1048576):Tot 34359738368 (fun n=>gX n (.mk 4 false 0 [] l [])) (fun r=>r=Mx (.mk 4 false 0 [] l [])/\VR r):=by
 have:=Hn h;refine .of (fun n h1 h2=>iI (by simp only[hgt,jc]; omega) h2) ⟨rfl,qch ?_⟩
 simp only[smV,NZ fun x a=>(h x a).sm,Bool.and_true]
 decide
theorem NS {s:List UInt8}:Tot 34359738368 (fun n=>gX n (.mk 3 false 0 s [] [])) VR:=by
 refine .of (r:=Mx (.mk 3 false 0 s [] [])) (fun n h1 h2=>iI (by simp only[hgt,RP,jc]; omega) h2) ?_
 intro h;unfold Mx at h ⊢
 dsimp only at h ⊢
 cases h1:(decide (((s.length:Nat):Int)>16384)||!Ul (.mk 3 false 0 s [] []))with
 | true=>rw[h1]at h; cases h
 | false=>
  simp only[jY,decide_eq_false_iff_not]at h1;exact lB (by omega)
theorem DY (X:List (List Val)) (j:Nat):((X.take j).flatten).length<=X.flatten.length:=by
 have:X.flatten=(X.take j).flatten++(X.drop j).flatten:=by rw[← List.flatten_append,List.take_append_drop]
 rw[this,jb]; omega
theorem PA {X:List (List Val)} (h:X.flatten.length<=1048576) (g:X.length<=1000):Tot 2000 (fun n=>zJ n X) (fun r=>r=X.flatten):=by
 unfold zJ;refine Tot.loop (fun m st=>∃ j:Nat,st=(((((X.take j).flatten).length:Nat):Int),((j:Nat):Int))/\j+m=X.length) ?_ ⟨0,rfl,by omega⟩ (by omega:X.length<2000);rintro m _ ⟨j,rfl,hm⟩;have hf:=DY X j;unfold xG
 dsimp only
 refine qI.cond (fun a=>?_) (fun a=>.tot ?_)
 ·rw[Dy]at a
  have b:j<X.length:=by have:=kod a; omega
  have c:=DY X (j+1);have e:(X.take (j+1)).flatten=(X.take j).flatten++X[j]:=by rw[zK b,List.flatten_append]; simp
  refine qI.bnd (Tot.idx (zE b) (P:=fun x=>x=X[j]) rfl) fun x d=>?_
  subst d;rw[qn];have hw:kwr .i64 ((((X.take j).flatten.length:Nat):Int)+((X[j].length:Nat):Int))=(((X.take (j+1)).flatten.length:Nat):Int):=by
   rw[e,jb]at c ⊢;rw[MI (by omega) (by omega)];omega
  rw[hw];refine qI.cond (fun f=>?_) (fun _=>?_)
  ·have:=kod f; omega
  rw[zM (by omega)];exact .next ⟨m - 1,by omega,j+1,rfl,by omega⟩
 refine Tot.bnd (.of (fun n _ _=>natI_nat _) (Q:=fun z=>z=(X.take j).flatten.length) rfl) fun z hz=>?_
 subst hz;refine Tot.chk (kdt (by omega)) ?_;refine Tot.loop (fun m st=>∃ j:Nat,st=((X.take j).flatten,((j:Nat):Int))/\j+m=X.length) ?_ ⟨0,rfl,by omega⟩ (by omega:X.length<2000);rintro m _ ⟨j,rfl,hm⟩;unfold xH
 dsimp only
 rw[Dy];refine qI.cond (fun a=>?_) (fun a=>.one ?_)
 ·have b:j<X.length:=by have:=kod a; omega
  have c:=DY X (j+1);have e:(X.take (j+1)).flatten=(X.take j).flatten++X[j]:=by rw[zK b,List.flatten_append]; simp
  refine qI.bnd (Tot.idx (zE b) (P:=fun x=>x=X[j]) rfl) fun x d=>?_
  subst d;rw[← e,qn];refine qI.chk (kdt (by omega)) ?_;rw[zM (by omega)];exact .next ⟨m - 1,by omega,j+1,rfl,by omega⟩
 have:j=X.length:=by have:=of_decide_eq_false a; omega
 subst this;rw[List.take_length]
theorem qbm {a b:Val} (c:VF a) (d:VF b):Tot 34359738368 (fun n=>xD n a b) VR:=eu 34359738368 c d
theorem eK {a b:Val} (w:VF a) (y:VF b):Tot 34359738368 (fun n=>su n a b) VR:=by
 have z:=w.open_s;have A:=y.open_s;have B:=w.open_l;have C:=y.open_l;have l:=qbm w y;obtain⟨k,c,d,f,g,m⟩:=a;obtain⟨k',o,p,q,t,u⟩:=b;have h2:Tot 34359738368 (fun n=>dN n k c d f g m k' o p q t u ()) VR:=by
  unfold dN;refine Tot.bnd l fun r h=>?_;obtain⟨⟨E,z2,z3,z4,z5,F⟩,e⟩:=r;exact .one h
 have h1:Tot 34359738368 (fun n=>dM n k c d f g m k' o p q t u ()) VR:=by
  unfold dM;refine Tot.bnd (.of (fun n _ _=>ux n _) rfl) fun a e1=>?_
  subst e1;refine Tot.cond (fun i=>?_) (fun _=>h2)
  refine Tot.bnd (.of (fun n _ _=>ux n _) rfl) fun b e2=>?_
  subst e2;refine Tot.cond (fun j=>?_) (fun _=>h2)
  obtain⟨H,G⟩:=B i;obtain⟨J,I⟩:=C j;refine Tot.bnd ((PA (X:=[_,_]) (by simp; omega) (by simp)).up (by decide)) fun r h=>?_;have h:r=(xy (Val.mk k c d f g m)).get_l++(xy (Val.mk k' o p q t u)).get_l:=by rw[h]; simp
  subst h;unfold gW;refine Tot.bnd (P:=fun v=>v=Val.mk 4 false 0 [] _ []) (.one rfl) fun v D=>?_
  subst D
  dsimp only
  refine Tot.bnd (Lc (fun x s=>?_) (by simp; omega)) fun r h=>?_
  ·rcases jy.1 s with s|s
   ·exact G x s
   exact I x s
  obtain⟨⟨E,z2,z3,z4,z5,F⟩,e⟩:=r;exact .one h.2
 unfold su
 dsimp only
 refine Tot.bnd (.of (fun n _ _=>ux n _) rfl) fun a e1=>?_
 subst e1;refine Tot.cond (fun i=>?_) (fun _=>h1)
 refine Tot.bnd (.of (fun n _ _=>ux n _) rfl) fun b e2=>?_
 subst e2;refine Tot.cond (fun j=>?_) (fun _=>h1)
 have H:=z i;have G:=A j;refine Tot.chk (kdt (by unfold te; omega)) ?_;unfold gY;refine Tot.bnd (P:=fun v=>v=Val.mk 3 false 0 _ [] []) (.one rfl) fun v D=>?_
 subst D
 dsimp only
 refine Tot.bnd NS fun r h=>?_;obtain⟨⟨E,z2,z3,z4,z5,F⟩,e⟩:=r;exact .one h
end W
end
section
open Go Ax
namespace W
theorem lx {k:Int} {b:Bool} {i:Int} {s:List UInt8} {l:List Val} {ks:List (List UInt8)} (h:VF (.mk k b i s l ks)) (key:List UInt8):VF (qdf k l ks key).1:=by
 unfold qdf Sx;split
 ·split
  ·rename_i v a
   exact h.child (List.mem_of_getElem? a)
  exact fa
 exact fa
theorem Te {n:Nat} (a:n<=1099511627776) {k:Int} {b:Bool} {i:Int} {s:List UInt8} {l:List Val} {ks:List (List UInt8)} (h:VF (.mk k b i s l ks)) (h5:k=5) (c:4295475200<n) (key:List UInt8) :
  cO n (.mk k b i s l ks) key=some (qdf k l ks key):=
 lq a (by have:=h.big; omega) (h.keys.2.2.2 h5) h.keys.2.1 key
theorem qc0 {a b:Val} (w:VF a) (C:VF b):Tot 34359738368 (fun n=>ZQ n a b) VR:=by
 have x:=w.open_l;have D:=C.open_i;obtain⟨k,c,d,f,g,m⟩:=a;obtain⟨k',o,p,q,t,u⟩:=b;unfold ZQ
 dsimp only
 refine Tot.cond (fun _=>.one fun _=>fa) fun _=>?_
 refine Tot.bnd (.of (fun n _ _=>ux n _) rfl) fun a e1=>?_
 subst e1;refine Tot.cond (fun l=>?_) fun _=>?_
 ·have h5:k=5:=by
   cases h:(xy (Val.mk k' o p q t u)).is_s with
   | true=>rw[h,xM]at l; exact eq_of_beq l
   | false=>rw[h]at l; cases l
  refine Tot.bnd (.of (fun n h1 h2=>Te h2 w h5 (by omega) _) rfl) fun r E=>?_
  have A:=lx w (xy (Val.mk k' o p q t u)).get_s;rw[E]at A;obtain⟨⟨F,z2,z3,z4,z5,G⟩,e⟩:=r;exact .one fun _=>A
 refine Tot.bnd (.of (fun n _ _=>ux n _) rfl) fun a e1=>Tot.bnd (.of (fun n _ _=>ux n _) rfl) fun b e2=>?_
 subst e1 e2;refine Tot.cond (fun _=>.one fun h=>absurd h (by dsimp only; decide)) fun l=>?_
 have y:(xy (Val.mk k c d f g m)).is_l=true/\(xy (Val.mk k' o p q t u)).is_i=true:=by
  cases h1:(xy (Val.mk k c d f g m)).is_l<;>cases h2:(xy (Val.mk k' o p q t u)).is_i<;>rw[h1,h2]at l<;>first|exact⟨rfl,rfl⟩|cases l
 obtain⟨J,H⟩:=x y.1;have s:∀ i:Int,Tot 34359738368 (fun n=>nW n (xy (Val.mk k c d f g m)) i) VR:=by
  intro i;unfold nW;rw[qn];refine Tot.cond (fun _=>.one fun _=>fa) fun l=>?_
  have z:0<=i/\i<(((xy (Val.mk k c d f g m)).get_l.length:Nat):Int):=by
   cases h1:decide (i<0)with
   | true=>rw[h1]at l; cases l
   | false=>
    rw[h1,qV]at l;have:=of_decide_eq_false h1;have:=of_decide_eq_false l;omega
  obtain⟨j,rfl⟩:=Int.eq_ofNat_of_zero_le z.1;have B:j<(xy (Val.mk k c d f g m)).get_l.length:=by omega
  refine Tot.bnd (Tot.idx (zE B) (P:=VF) (H _ (List.getElem_mem B))) fun v I=>?_;obtain⟨F,z2,z3,z4,z5,G⟩:=v;exact .one fun _=>I
 exact Tot.cond (fun _=>s _) fun _=>s _
theorem SN {a:Val} (r:VF a) (last:Bool):Tot 34359738368 (fun n=>rF n a last) VR:=by
 have l:=r.open_l;obtain⟨k,c,d,e,f,g⟩:=a;unfold rF
 dsimp only
 refine Tot.bnd (.of (fun n _ _=>ux n _) rfl) fun a e1=>?_
 subst e1;refine Tot.cond (fun _=>.one fun h=>absurd h (by dsimp only; decide)) fun m=>?_
 have m:(xy (Val.mk k c d e f g)).is_l=true:=by simpa using m
 obtain⟨w,p⟩:=l m;rw[qn];refine Tot.cond (fun _=>.one fun _=>fa) fun q=>?_
 have hlen:0<(xy (Val.mk k c d e f g)).get_l.length:=by
  rcases Nat.eq_zero_or_pos (xy (Val.mk k c d e f g)).get_l.length with h|h
  ·rw[h]at q; cases q
  exact h
 refine Tot.cond (fun _=>?_) fun _=>?_
 ·obtain⟨j,s⟩:∃ j,(xy (Val.mk k c d e f g)).get_l.length=j+1:=⟨(xy (Val.mk k c d e f g)).get_l.length - 1,by omega⟩
  rw[s,VE (by omega)];have b:j<(xy (Val.mk k c d e f g)).get_l.length:=by omega
  refine Tot.bnd (Tot.idx (zE b) (P:=VF) (p _ (List.getElem_mem b))) fun v o=>?_;obtain⟨t,z2,z3,z4,z5,u⟩:=v;exact .one fun _=>o
 refine Tot.bnd (Tot.idx (i:=0) (zE hlen) (P:=VF) (p _ (List.getElem_mem hlen))) fun v o=>?_;obtain⟨t,z2,z3,z4,z5,u⟩:=v;exact .one fun _=>o
theorem Rq {l:List UInt8} {i:Nat} (h:i<l.length):i<zY l i:=by
 unfold zY;have:=Lib.decode_width_pos ⟨l.toArray⟩ i (by simpa[ByteArray.size]using h);omega
theorem SG {s:List UInt8} (d:s.length<=1048576):Tot 34359738368 (fun n=>nX n s) (fun r=>okI r=true):=by
 unfold nX;refine Tot.loop (fun m st=>∃ c i:Nat,st=(((c:Nat):Int),i)/\c<=i/\c<=s.length/\m=s.length - i) ?_ ⟨0,0,rfl,jw _,jS _,rfl⟩ (by omega);rintro m _ ⟨c,i,rfl,h1,h2,rfl⟩;unfold sq
 dsimp only
 refine qI.cond (fun a=>?_) fun _=>.one ?_
 ·have b:=kod a
  have:=Rq b;rw[a,xM,zM (by omega)];exact .next ⟨s.length - zY s i,by omega,c+1,zY s i,rfl,by omega,by omega,rfl⟩
 exact kdt (by omega)
theorem qbq {n:Nat} (h:n<=1048576):okI (n:Int)=true:=kdt (by omega)
theorem iQ {a:Val} (g:VF a):Tot 34359738368 (fun n=>nr n a) VR:=by
 have b:=g.open_s;have i:=g;obtain⟨k,l,m,o,d,p⟩:=a;unfold nr zF
 dsimp only
 refine Tot.bnd (.of (fun n _ _=>ux n _) rfl) fun a e1=>?_
 subst e1;refine Tot.cond (fun j=>?_) fun _=>?_
 ·refine Tot.bnd (SG (b j)) fun c e=>?_
  refine Tot.bnd (P:=fun v=>v=Val.mk 2 false c [] [] []) (.one rfl) fun v f=>?_
  subst f;exact .one fun _=>Vf e
 refine Tot.cond (fun _=>?_) fun _=>.one fun h=>absurd h (by dsimp only; decide)
 rw[qn];refine Tot.bnd (P:=fun v=>v=Val.mk 2 false ((d.length:Nat):Int) [] [] []) (.one rfl) fun v f=>?_
 subst f;exact .one fun _=>Vf (qbq (by have:=i.len; omega))
theorem CS {l:List (List UInt8)} (h1:l.length<=4095) (h2:∀ s∈l,s.length<=1048576):Tot 34359738368 (fun n=>cI n l) VF:=by
 unfold cI;refine Tot.loop (fun m st=>∃(j:Nat) (acc:List Val),st=(acc,((j:Nat):Int))/\j+m=l.length/\acc.length=j/\∀ x∈acc,∃ s:List UInt8,s.length<=1048576/\x=.mk 3 false 0 s [] []) ?_ ⟨0,[],rfl,by omega,rfl,fun x h=>by cases h⟩ (by omega:l.length<34359738368)
 rintro m _ ⟨j,acc,rfl,hm,f,d⟩;unfold sv gY gW
 dsimp only
 rw[zb];refine qI.cond (fun g=>?_) fun _=>?_
 ·have e:j<l.length:=by have:=kod g; omega
  refine qI.bnd (Tot.idx (zE e) (P:=fun x=>x=l[j]) rfl) fun x a=>?_
  subst a;refine qI.bnd (P:=fun v=>v=Val.mk 3 false 0 l[j] [] []) (.one rfl) fun v b=>?_
  subst b
  dsimp only
  rw[qn];refine qI.chk (kdt (by simp; omega)) ?_;rw[zM (by omega)];refine .next ⟨m - 1,by omega,j+1,_,rfl,by omega,by simp[f],fun x c=>?_⟩;rcases jy.1 c with h|h
  ·exact d x h
  exact⟨l[j],h2 _ (List.getElem_mem e),jz.1 h⟩
 refine qI.bnd (P:=fun v=>v=Val.mk 4 false 0 [] acc []) (.one rfl) fun v b=>?_
 subst b;exact .one (qcg d (by omega))
theorem oc {a b:Val} (w:VF a) (z:VF b):Tot 34359738368 (fun n=>nt n a b) VR:=by
 have o:=w.open_i;obtain⟨k,c,d,e,f,g⟩:=a;obtain⟨k',A,B,C,D,E⟩:=b;have j:∀ acc:List Val,acc.length<=4095->(∀ x∈acc,∃ i,okI i=true/\x=.mk 2 false i [] [] [])->Tot 34359738368 (fun n=>dO n acc) VR:=by
  intro acc h1 h2;unfold dO gW;refine Tot.bnd (P:=fun v=>v=Val.mk 4 false 0 [] acc []) (.one rfl) fun v p=>?_
  subst p;exact .one fun _=>qcf h2 h1
 unfold nt
 dsimp only
 refine Tot.bnd (.of (fun n _ _=>ux n _) rfl) fun a e1=>Tot.bnd (.of (fun n _ _=>ux n _) rfl) fun b e2=>?_
 subst e1 e2;refine Tot.cond (fun _=>.one fun h=>absurd h (by dsimp only; decide)) fun s=>?_
 have y:(xy (Val.mk k c d e f g)).is_i=true:=by
  cases h1:(xy (Val.mk k c d e f g)).is_i with
  | true=>rfl
  | false=>rw[h1]at s; cases s
 refine Tot.loop (fun m st=>∃(acc:List Val) (i:Int),st=(acc,i)/\acc.length+m=4095/\okI i=true/\∀ x∈acc,∃ i,okI i=true/\x=.mk 2 false i [] [] []) (m0:=4095) ?_ ⟨[],_,rfl,by simp,o y,fun x h=>by cases h⟩ (by decide)
 rintro m _ ⟨acc,i,rfl,hm,q,t⟩;unfold tO zF
 dsimp only
 rw[qn];refine qI.cond (fun _=>qI.cond (fun _=>.one fun h=>absurd h (by dsimp only; decide)) fun u=>?_) fun _=>.tot ?_
 ·have u:=of_decide_eq_false u
  refine qI.bnd (P:=fun v=>v=Val.mk 2 false i [] [] []) (.one rfl) fun v p=>?_
  subst p
  dsimp only
  have l:∀ x∈acc++[Val.mk 2 false i [] [] []],∃ i,okI i=true/\x=.mk 2 false i [] [] []:=fun x r=>by
   rcases jy.1 r with h|h
   ·exact t x h
   exact⟨i,q,jz.1 h⟩
  rw[qn];refine qI.chk (kdt (by simp; omega)) (qI.cond (fun _=>.tot (j _ (by simp; omega) l)) fun _=>?_);exact .next ⟨m - 1,by omega,_,_,rfl,by simp; omega,Up _,l⟩
 exact j acc (by omega) t
end W
end
section
open Go Ax
namespace W
structure NdOk (labels keys:List (List UInt8)) (vals:List Val):Prop where
 llen:labels.length<=1000
 klen:keys.length<=1000
 same:keys.length=vals.length
 lbl:∀ s∈labels,s.length<=1048576
 key:∀ s∈keys,s.length<=1048576
 val:∀ v∈vals,VF v
structure GrOk (nodes:List Node) (edges:List Edge):Prop where
 upN:UpI Node.id nodes
 upE:UpI Edge.id edges
 lenN:nodes.length<=1048576
 lenE:edges.length<=1048576
 node:∀ d∈nodes,pW d<=1048576/\NdOk d.labels d.keys d.vals
 edge:∀ d∈edges,pg d<=1048576/\NdOk [] d.keys d.vals/\d.type_.length<=1048576
structure PlOk (p:xu):Prop where
 len:p.env.names.length=p.env.vals.length
 bnd:p.env.names.length<=1048576
 vals:∀ v∈p.env.vals,VF v
 gr:GrOk p.g.nodes p.g.edges
 par:VF p.params
 par5:kd p.params=5
theorem oS:NdOk [] [] []:=⟨by simp,by simp,rfl,(fun s h=>by cases h),(fun s h=>by cases h),(fun v h=>by cases h)⟩
section
variable {p:xu} (hp:PlOk p)
include hp
theorem Es (id:Int):Tot 34359738368 (fun n=>vg n p.g id) (fun r=>NdOk r.1.labels r.1.keys r.1.vals):=by
 obtain⟨⟨names,vals⟩,⟨nodes,edges⟩,par⟩:=p;have h:=hp.gr;refine .of (fun n h1 h2=>PM h2 h.upN (by have:=h.lenN; omega) (fun d a=>by have:=(h.node d a).1; omega) edges id) ?_
 cases b:fD Node.id nodes id with
 | none=>exact oS
 | some d=>exact(h.node d (Ut b).1).2
theorem Ng (id:Int):Tot 34359738368 (fun n=>cJ n p.g id) (fun r=>NdOk [] r.1.keys r.1.vals/\r.1.type_.length<=1048576):=by
 obtain⟨⟨names,vals⟩,⟨nodes,edges⟩,par⟩:=p;have h:=hp.gr;refine .of (fun n h1 h2=>PL h2 h.upE (by have:=h.lenE; omega) (fun d a=>by have:=(h.edge d a).1; omega) nodes id) ?_
 cases b:fD Edge.id edges id with
 | none=>exact⟨oS,jS _⟩
 | some d=>exact(h.edge d (Ut b).1).2
theorem HT (v:Val):Tot 34359738368 (fun n=>ur n p v) (fun r=>NdOk [] r.1 r.2.1):=by
 have h1:=Es hp;have h2:=Ng hp;obtain⟨⟨names,vals⟩,⟨nodes,edges⟩,⟨k,b,i,s,l,ks⟩⟩:=p;obtain⟨k',f,a,g,j,m⟩:=v;unfold ur
 dsimp only
 refine Tot.cond (fun _=>Tot.bnd (h1 a) fun r c=>?_) fun _=>Tot.bnd (h2 a) fun r c=>?_
 ·obtain⟨⟨d,z2,z3,z4⟩,e⟩:=r
  exact .one ⟨by simp,c.klen,c.same,(fun s h=>by cases h),c.key,c.val⟩
 obtain⟨⟨d,z2,z3,z4,z5,o⟩,e⟩:=r;exact .one c.1
end
theorem qc2 {ks:List (List UInt8)} (s:ks.length<=1048576) (key:List UInt8):Tot 34359738368 (fun n=>qg n ks key) (fun r=>r.2=true->∃ j:Nat,r.1=((j:Nat):Int)/\j<ks.length):=by
 unfold qg;rw[zb];refine Tot.loop (fun m st=>∃ i j:Nat,st=(((i:Nat):Int),((j:Nat):Int))/\i<=j/\j<=ks.length/\m=j - i) ?_ ⟨0,ks.length,rfl,jS _,jw _,rfl⟩ (by omega);rintro m _ ⟨i,j,rfl,d,f,rfl⟩;unfold qT
 dsimp only
 refine qI.cond (fun a=>?_) fun a=>?_
 ·have k:i<j:=by have:=kod a; omega
  rw[qbj (show i+j<=1152921504606846976 by omega)];refine qI.bnd (Tot.idx (zE (show(i+j) / 2<ks.length by omega)) (P:=fun _=>True) trivial) fun x _=>?_
  refine qI.bnd (P:=fun _=>True) (.of (fun n _ _=>(by simp[xC,xd]:xC n x key=some (Op.bytesLess x key))) trivial) fun c _=>?_
  refine qI.cond (fun _=>?_) fun _=>?_
  ·rw[zM (by omega)]
   exact .next ⟨j - ((i+j) / 2+1),by omega,_,j,rfl,by omega,f,rfl⟩
  exact .next ⟨(i+j) / 2 - i,by omega,i,_,rfl,by omega,by omega,rfl⟩
 have:i=j:=by have:=of_decide_eq_false a; omega
 subst this;rw[zb];have b:∀ g:Bool,(g=true->i<ks.length)->Tot 34359738368 (fun n=>qz g (idx ks ((i:Nat):Int))) (fun _=>True):=fun g l=>(Tot.gs (P:=fun _=>True) fun h=>Tot.idx (zE (l h)) trivial).imp fun _ _=>trivial
 refine qI.bnd (b _ fun h=>by have:=kod h; omega) fun t _=>qI.bnd (b _ fun h=>?_) fun u _=>?_
 ·simp only[ji,kde]at h; omega
 refine qI.bnd (P:=fun _=>True) ((Tot.gs (P:=fun _=>True) fun _=>.of (fun n _ _=>rfl) trivial).imp fun _ _=>trivial) fun v _=>?_
 refine qI.bnd (P:=fun _=>True) ((Tot.gs (P:=fun _=>True) fun _=>.of (fun n _ _=>rfl) trivial).imp fun _ _=>trivial) fun o _=>.one fun h=>⟨i,rfl,?_⟩
 by_cases q:i<ks.length
 ·exact q
 have e:decide (((i:Nat):Int)<((ks.length:Nat):Int))=false:=kdf (by omega)
 dsimp only at h
 rw[e]at h;cases h
theorem Ho (l:List (List UInt8)) (x:List UInt8) (e:l.length<=1048576):Tot 34359738368 (fun n=>zg n l x) (fun r=>(x ∉ l/\r = -1)\/∃ j:Nat,r=((j:Nat):Int)/\l[j]? =some x/\x ∉ l.take j):=by
 unfold zg;refine Tot.loop (fun m st=>∃ j:Nat,st=((j:Nat):Int)/\j+m=l.length/\x ∉ l.take j) ?_ ⟨0,rfl,by omega,by simp⟩ (by omega:l.length<34359738368);rintro m _ ⟨j,rfl,hm,a⟩;unfold xL;rw[zb];refine qI.cond (fun b=>?_) fun b=>.one ?_
 ·have c:j<l.length:=by have:=kod b; omega
  refine qI.bnd (Tot.idx (zE c) (P:=fun y=>y=l[j]) rfl) fun y d=>?_
  subst d;refine qI.cond (fun he=>.one ?_) fun he=>?_
  ·exact .inr ⟨j,rfl,by rw[zE c,← eq_of_beq he],a⟩
  rw[zM (by omega)];refine .next ⟨m - 1,by omega,j+1,rfl,by omega,?_⟩;rw[zK c];intro h;rcases jy.1 h with h|h
  ·exact a h
  have:=jz.1 h;rw[← this]at he;simp at he
 have:j=l.length:=by have:=of_decide_eq_false b; omega
 subst this;rw[List.take_length]at a;exact .inl ⟨a,rfl⟩
section
variable {p:xu} (hp:PlOk p)
include hp
theorem eM {v:Val} (q:VF v) (key:List UInt8):Tot 34359738368 (fun n=>fo n p v key) VR:=by
 have w:=HT hp v;obtain⟨⟨names,vals⟩,⟨nodes,edges⟩,⟨k,b,i,s,l,ks⟩⟩:=p;obtain⟨k',a,d,f,m,o⟩:=v;have h1:∀ c:Bool,Tot 34359738368 (fun n=>uF n names vals nodes edges k b i s l ks k' a d f m o key c) VR:=by
  intro c;unfold uF dt;refine Tot.cond (fun _=>Tot.bnd w fun r t=>?_) fun _=>.one fun h=>absurd h (by dsimp only; decide)
  obtain⟨F,A,G⟩:=r;have:=t.klen;refine Tot.bnd (qc2 (by dsimp only at this; omega) key) fun r x=>?_;obtain⟨B,H⟩:=r;refine Tot.cond (fun C=>?_) fun _=>.one fun _=>fa
  obtain⟨j,g,y⟩:=x C;have g:B=((j:Nat):Int):=g;subst g;have u:j<A.length:=by rw[← t.same]; exact y
  refine Tot.bnd (Tot.idx (zE u) (P:=VF) (t.val _ (List.getElem_mem u))) fun v q=>?_;obtain⟨D,z2,z3,z4,z5,E⟩:=v;exact .one fun _=>q
 unfold fo
 dsimp only
 refine Tot.cond (fun _=>.one fun _=>q) fun _=>Tot.cond (fun h5=>?_) fun _=>Tot.cond (fun _=>h1 _) fun _=>h1 _
 refine Tot.bnd (.of (fun n h1 h2=>Te h2 q (eq_of_beq h5) (by omega) _) rfl) fun r t=>?_
 have z:=lx q key;rw[t]at z;obtain⟨⟨D,z2,z3,z4,z5,E⟩,e⟩:=r;exact .one fun _=>z
theorem qa2 (v:Val) (key:List UInt8):Tot 34359738368 (fun n=>fW n p v key) VR:=by
 have h1:=Es hp;obtain⟨⟨names,vals⟩,⟨nodes,edges⟩,⟨k,b,i,s,l,ks⟩⟩:=p;obtain⟨k',g,a,j,m,o⟩:=v;unfold fW
 dsimp only
 refine Tot.cond (fun _=>.one fun h=>absurd h (by dsimp only; decide)) fun _=>Tot.bnd (h1 a) fun r d=>?_
 obtain⟨⟨q,z2,z3,z4⟩,e⟩:=r;refine Tot.cond (fun _=>.one fun _=>fa) fun _=>?_
 unfold xI;refine Tot.bnd (P:=fun _=>True) (Tot.bnd (Ho z2 key (by have:=d.llen; dsimp only at this; omega)) fun _ _=>.one trivial) fun c _=>?_
 refine Tot.bnd (.of (fun n _ _=>eH n _) trivial) (P:=fun _=>True) fun t _=>Tot.bnd (.of (fun n _ _=>tG n t) rfl) fun v f=>?_
 have:=mY t;rw[f]at this;obtain⟨u,w2,w,x,y,z⟩:=v;exact .one fun _=>this
theorem TM {v:Val} (g:VF v):Tot 34359738368 (fun n=>uY n p v) VR:=by
 have j:=HT hp v;obtain⟨⟨names,vals⟩,⟨nodes,edges⟩,⟨k,b,i,s,l,ks⟩⟩:=p;obtain⟨k',a,d,e,f,m⟩:=v;have h1:∀ c:Bool,Tot 34359738368 (fun n=>uE n names vals nodes edges k b i s l ks k' a d e f m c) VR:=by
  intro c;unfold uE;refine Tot.cond (fun _=>Tot.bnd j fun r o=>?_) fun _=>.one fun h=>absurd h (by dsimp only; decide)
  obtain⟨w,x,y⟩:=r;refine Tot.cond (fun _=>.one fun _=>fa) fun _=>?_
  refine Tot.bnd (CS (by have:=o.klen; dsimp only at this; omega) o.key) fun v g=>?_;obtain⟨q,z2,z3,z4,z5,t⟩:=v;exact .one fun _=>g
 unfold uY
 dsimp only
 refine Tot.cond (fun _=>?_) fun _=>Tot.cond (fun _=>h1 _) fun _=>h1 _
 refine Tot.bnd (CS (by have:=g.keys.1; have:=g.len; omega) fun s u=>by have:=g.keys.2.2.1 s u; omega) fun v g=>?_
 obtain⟨q,z2,z3,z4,z5,t⟩:=v;exact .one fun _=>g
theorem PE (v:Val) (kind:Int):Tot 34359738368 (fun n=>vQ n p v kind) VR:=by
 have h1:=Es hp;have h2:=Ng hp;obtain⟨⟨names,vals⟩,⟨nodes,edges⟩,⟨k,b,i,s,l,ks⟩⟩:=p;obtain⟨k',j,a,m,o,q⟩:=v;unfold vQ
 dsimp only
 refine Tot.cond (fun _=>.one fun h=>absurd h (by dsimp only; decide)) fun _=>Tot.cond (fun _=>Tot.bnd (h1 a) fun r c=>?_) fun _=>Tot.bnd (h2 a) fun r c=>?_
 ·obtain⟨⟨f,z2,z3,z4⟩,e⟩:=r
  refine Tot.cond (fun _=>.one fun _=>fa) fun _=>?_
  refine Tot.bnd (CS (l:=z2) (by have:=c.llen; dsimp only at this; omega) c.lbl) fun v d=>?_;obtain⟨f,z2,z3,z4,z5,g⟩:=v;exact .one fun _=>d
 obtain⟨⟨f,z2,z3,z4,z5,g⟩,e⟩:=r;refine Tot.cond (fun _=>.one fun _=>fa) fun _=>?_
 unfold gY;refine Tot.bnd (P:=fun v=>v=Val.mk 3 false 0 z4 [] []) (.one rfl) fun v d=>?_
 subst d;exact .one fun _=>lB c.2
end
end W
end
section
open Go Ax
namespace W
theorem DB (v:Val):∀ a:List Val,vo (a++[v])=vo a+1+fQ v
 | []=>by simp[vo]; omega
 | w::a=>by simp only[List.cons_append,vo,DB v a]; omega
theorem eX:∀(N:Nat) (v:Val),VF v->fQ v<=N->N<=8589934592->Tot (500+N) (fun n=>gp n v) (fun t=>t.length<=400 * fQ v):=by
 intro N
 induction N with
 | zero=>intro v _ h; have:=Fy v; omega
 | succ N ih=>
  intro v o T U;refine Tot.succ (N:=500+N) (G:=fun n=>nQ n (gp n) v) (fun n=>rfl) ?_
  obtain⟨k,b,i,s,l,ks⟩:=v;have V:fQ (.mk k b i s l ks)=1+isz i+s.length+vo l+(ks.map fun k=>1+k.length).sum:=by simp only[fQ]
  have X:=o.str;have y:=o.int;have hkeys:=o.keys;have hlen:=o.len;have E:=Ty i;have F:=xz l;have d:Tot (500+N) (fun n=>uZ n i) (fun t=>t.length<=20):=.of (fun n h1 h2=>eG (by omega) y.1 y.2) (eF y.1 y.2)
  unfold nQ
  dsimp only
  refine Tot.cond (fun _=>Tot.cond (fun _=>.one ?_) fun _=>.one ?_) fun _=>?_
  ·simp only[ja,jc]; omega
  ·simp only[ja,jc]; omega
  refine Tot.cond (fun _=>Tot.bnd d fun t g=>.one (by omega)) fun _=>?_
  refine Tot.cond (fun _=>Tot.bnd (.of (fun n h1 h2=>Dx (by omega) (by omega)) (Q:=fun t=>t.length<=4 * s.length+2) (Ds s)) fun t g=>.one (by omega)) fun _=>?_
  refine Tot.cond (fun _=>Tot.bnd d fun t g=>Tot.chk (kdt ?_) (.one ?_)) fun _=>?_
  ·unfold te; simp only[ja,jc]; omega
  ·simp only[jb,ja,jc]; omega
  refine Tot.cond (fun _=>Tot.bnd d fun t g=>Tot.chk (kdt ?_) (.one ?_)) fun _=>?_
  ·unfold te; simp only[ja,jc]; omega
  ·simp only[jb,ja,jc]; omega
  have p:∀ c:Bool,Tot (500+N) (fun n=>dU n l (gp n) k ks c) (fun t=>t.length<=400 * fQ (.mk k b i s l ks)):=by
   intro c;unfold dU;refine Tot.cond (fun _=>?_) fun _=>.one ?_
   ·refine Tot.loop (fun m st=>∃(j:Nat) (acc:List (List UInt8)),st=(acc,((j:Nat):Int))/\j+m=l.length/\acc.length=j/\(acc.map fun x=>x.length+2).sum<=400 * vo (l.take j)) ?_ ⟨0,[],rfl,by omega,rfl,by simp⟩ (by omega:l.length<500+N)
    rintro m _ ⟨j,acc,rfl,hm,H,C⟩;unfold tQ
    dsimp only
    rw[qn,zb];refine qI.cond (fun I=>?_) fun _=>?_
    ·have A:j<l.length:=by have:=kod I; omega
     have e:=List.getElem_mem A;have J:=um e;have r:∀ t:List UInt8,t.length<=400 * fQ l[j]+262->qI (500+N) (fun n (K:List (List UInt8)×Int->Option (List UInt8))=>dV n acc K ((j:Nat):Int) t) (fun L=>∃ D,D<m/\∃(j:Nat) (acc:List (List UInt8)),L=(acc,((j:Nat):Int))/\j+D=l.length/\acc.length=j/\(acc.map fun x=>x.length+2).sum<=400 * vo (l.take j)) (fun t=>t.length<=400 * fQ (.mk k b i s l ks)):=by
      intro t g;unfold dV;rw[zb,zM (by omega)];refine qI.chk (kdt (by simp; omega)) (.next ⟨m - 1,by omega,j+1,_,rfl,by omega,by simp[H],?_⟩);rw[zK A,DB];simp only[jZ,jk,jN,List.sum_append,jA,List.sum_nil];omega
     refine qI.bnd (Tot.idx (zE A) (P:=fun v=>v=l[j]) rfl) fun v B=>?_
     obtain⟨Y,Z,y3,y4,y5,y6⟩:=v
     dsimp only
     rw[B];refine qI.bnd ((ih l[j] (o.child e) (by omega) (by omega)).up (jw _)) fun t g=>?_;have M:=(o.child e).big;refine qI.cond (fun z=>?_) fun _=>r t (by omega)
     have u:j<ks.length:=by
      cases h5:k==5 with
      | true=>rw[h5,xM]at z; have:=kod z; omega
      | false=>rw[h5]at z; cases z
     have O:=hkeys.2.2.1 _ (List.getElem_mem u);refine qI.bnd (Tot.idx (zE u) (P:=fun v=>v=ks[j]) rfl) fun key w=>?_
     subst w;refine qI.bnd (.of (fun n h1 h2=>eW h2 (by omega) (by omega)) (Q:=fun t=>t.length<=4 * ks[j].length+2) (oo _)) fun q hq=>?_
     refine qI.chk (kdt ?_) (qI.chk (kdt ?_) (r _ ?_))
     ·unfold te; simp only[ja,jc]; omega
     ·unfold te; simp only[jb,ja,jc]; omega
     simp only[jb,ja,jc]; omega
    have R:vo (l.take j)<=vo l:=by
     have:∀(a c:List Val),vo a<=vo (a++c):=by
      intro a c
      induction a with
      | nil=>have:=xz c; simp only[List.nil_append,vo]; omega
      | cons v a ih=>simp only[List.cons_append,vo]; omega
     have:=this (l.take j) (l.drop j)
     rwa [List.take_append_drop]at this
    have S:=Ny [44,32] rfl acc;have f:Tot (500+N) (fun n=>ck n acc ([44,32]:List UInt8)) (fun t=>t.length<=400 * vo l):=by
     unfold ck;exact Tot.chk (kdt (by omega)) (Tot.chk (kdt (by omega)) (.one (by omega)))
    refine qI.cond (fun _=>qI.bnd f fun t g=>qI.chk (kdt ?_) (qI.chk (kdt ?_) (.one ?_))) fun _=>qI.bnd f fun t g=>qI.chk (kdt ?_) (qI.chk (kdt ?_) (.one ?_))
    ·unfold te; simp only[ja,jc]; omega
    ·unfold te; simp only[jb,ja,jc]; omega
    ·simp only[jb,ja,jc]; omega
    ·unfold te; simp only[ja,jc]; omega
    ·unfold te; simp only[jb,ja,jc]; omega
    simp only[jb,ja,jc]; omega
   simp only[ja,jc]; omega
  exact Tot.cond (fun _=>p _) fun _=>p _
theorem iW {a:Val} (b:VF a):Tot 34359738368 (fun n=>bS n a) VR:=by
 have d:=b.big;have c:=eX 4295475200 a b d (by decide);obtain⟨k,h,i,j,l,m⟩:=a;unfold bS gY
 dsimp only
 refine Tot.cond (fun _=>.one fun _=>b) fun _=>Tot.bnd (c.up (by decide)) fun t _=>?_
 refine Tot.bnd (P:=fun v=>v=Val.mk 3 false 0 t [] []) (.one rfl) fun v f=>?_
 subst f;refine Tot.bnd NS fun r g=>?_;obtain⟨⟨o,z2,z3,z4,z5,p⟩,e⟩:=r;exact .one g
theorem qfb (n:Nat) (v:Val):∃ b,∀ m,ff m v=some b:=by
 obtain⟨k,a,c,d,e,f⟩:=v;exact⟨_,fun m=>rfl⟩
theorem qfc (n:Nat) (v:Val):∃ b,∀ m,fg m v=some b:=by
 obtain⟨k,a,c,d,e,f⟩:=v;exact⟨_,fun m=>rfl⟩
theorem qa3 {l:List Val} (e:l.length<=1048576):Tot 34359738368 (fun n=>qH n l) (fun _=>True):=by
 unfold qH;refine Tot.loop (fun m st=>∃ j:Nat,st=((j:Nat):Int)/\j+m=l.length) ?_ ⟨0,rfl,by omega⟩ (by omega:l.length<34359738368);rintro m _ ⟨j,rfl,hm⟩;unfold zk;rw[qn];refine qI.cond (fun a=>?_) fun _=>.one trivial;have c:j<l.length:=by have:=kod a; omega
 refine qI.bnd (Tot.idx (zE c) (P:=fun v=>v=l[j]) rfl) fun v f=>?_
 obtain⟨b,d⟩:=qfb 0 v;obtain⟨g,h,i,k,o,p⟩:=v;refine qI.bnd (.of (fun n _ _=>d n) (Q:=fun _=>True) trivial) fun q _=>qI.cond (fun _=>.one trivial) fun _=>?_
 rw[zM (by omega)];exact .next ⟨m - 1,by omega,j+1,rfl,by omega⟩
theorem qa4 {l:List Val} (e:l.length<=1048576):Tot 34359738368 (fun n=>qw n l) (fun r=>r<0\/∃ j:Nat,r=((j:Nat):Int)/\j<l.length):=by
 unfold qw;refine Tot.loop (fun m st=>∃ j:Nat,st=((j:Nat):Int)/\j+m=l.length) ?_ ⟨0,rfl,by omega⟩ (by omega:l.length<34359738368);rintro m _ ⟨j,rfl,hm⟩;unfold zl;rw[qn];refine qI.cond (fun c=>?_) fun _=>.one (.inl (by decide));have a:j<l.length:=by have:=kod c; omega
 refine qI.bnd (Tot.idx (zE a) (P:=fun v=>v=l[j]) rfl) fun v f=>?_
 obtain⟨b,d⟩:=qfc 0 v;obtain⟨g,h,i,k,o,p⟩:=v;refine qI.bnd (.of (fun n _ _=>d n) (Q:=fun _=>True) trivial) fun q _=>qI.cond (fun _=>.one (.inr ⟨j,rfl,a⟩)) fun _=>?_
 rw[zM (by omega)];exact .next ⟨m - 1,by omega,j+1,rfl,by omega⟩
end W
end
section
open Go Ax Go.Proofs
namespace W
def Qn (n:Nat):List Int:=(List.range n).map fun i=>((i:Nat):Int)
theorem qb2 (names:List (List UInt8)) (m:Nat) (a:List Int) (i:Int) (h:i∈stI names m a):0<=i/\i.toNat<m+1:=by
 unfold stI at h;obtain⟨x,_,rfl⟩:=List.mem_map.1 h;have:=x.isLt;omega
theorem iY {names:List (List UInt8)} (j:names.length<=1048576) {a:List Int} (d:a.length=names.length) (e:∀ i∈a,0<=i/\i.toNat<names.length) :
  ∃ b,iX names a=some b/\b.length=names.length/\∀ i∈b,0<=i/\i.toNat<names.length:=by
 unfold iX;rw[gq (kdt (by omega)),gq (List.all_eq_true.2 fun i c=>by
  have:=e i c;rw[ji];exact⟨kdt this.1,Nat.ble_eq_true_of_le this.2⟩)]
 refine⟨_,rfl,?_⟩;cases f:Nat.ble a.length 1 with
 | true=>exact⟨d,e⟩
 | false=>
  refine⟨by rw[qV,Gj]; exact d,fun i c=>?_⟩;have g:¬ a.length<=1:=fun h=>by rw[Nat.ble_eq_true_of_le h]at f; cases f
  have:=qb2 _ _ _ _ c;omega
def Mo (names:List (List UInt8)) (vals:List Val) (a:List Int):Val:=.mk 5 false 0 [] (a.map fun i=>vals.getD i.toNat NJ) (a.map fun i=>names.getD i.toNat [])
def qbh (names:List (List UInt8)) (vals:List Val):Val×Int:=
 if names.length≠vals.length then(NJ,20)
 else match iX names (Qn names.length)with
  | none=>(NJ,20)
  | some a=>bif Ul (Mo names vals a)then(Mo names vals a,0)else(NJ,20)
theorem lz {names:List (List UInt8)} {vals:List Val} (b:∀ v∈vals,VF v) {a:List Int} (hm:Ul (Mo names vals a)=true):VF (Mo names vals a):=by
 refine⟨hm,?_⟩;unfold Mo;simp only[smV];rw[NZ fun x c=>?_]
 ·decide
 obtain⟨i,_,rfl⟩:=List.mem_map.1 c;rw[List.getD_eq_getElem?_getD];cases h:vals[i.toNat]? with
 | none=>exact fa.sm
 | some v=>exact(b v (List.mem_of_getElem? h)).sm
theorem qef {names:List (List UInt8)} {vals:List Val} (b:∀ v∈vals,VF v):VR (qbh names vals):=by
 unfold qbh;split
 ·intro h; cases h
 split
 ·intro h; cases h
 rename_i a _;cases hm:Ul (Mo names vals a)with
 | true=>exact fun _=>lz b hm
 | false=>intro h; cases h
theorem Rn {n j:Nat} (h:j<n):(Qn j++List.replicate (n - j) (0:Int)).set j (j:Int)=Qn (j+1)++List.replicate (n - (j+1)) 0:=by
 have e:n - j=(n - (j+1))+1:=by omega
 rw[e,List.replicate_succ,List.set_append_right _ _ (by simp[Qn])];have:j - (Qn j).length=0:=by simp[Qn]
 rw[this,List.set_cons_zero];simp[Qn,List.range_succ]
theorem Rm (n:Nat):(Qn n).length=n:=by simp[Qn]
theorem qbi {names:List (List UInt8)} {vals:List Val} (S:names.length<=1048576) (J:∀ v∈vals,VF v):Tot 34359738368 (fun n=>bG n names vals) (fun r=>r=qbh names vals/\VR r):=by
 have key:Tot 34359738368 (fun n=>bG n names vals) (fun r=>r=qbh names vals):=by
  unfold bG;rw[zb,qn];refine Tot.cond (fun G=>.one ?_) fun G=>?_
  ·have:names.length≠vals.length:=by
    intro e; rw[e]at G; simp at G
   unfold qbh;rw[if_pos this]
  have hlen:names.length=vals.length:=by have:=bne_eq_false_iff_eq.1 G; omega
  obtain⟨a,D,K,L⟩:=iY S (Rm names.length) (fun i H=>by
   unfold Qn at H;obtain⟨j,I,rfl⟩:=List.mem_map.1 H;have:=List.mem_range.1 I;omega)
  have A:qbh names vals=bif Ul (Mo names vals a)then(Mo names vals a,0)else(NJ,20):=by
   unfold qbh;rw[if_neg (by omega),D]
  refine Tot.bnd (.of (fun n _ _=>natI_nat _) (Q:=fun z=>z=names.length) rfl) fun z hz=>Tot.chk (kdt (by omega)) ?_
  subst hz;refine Tot.loop (fun m st=>∃ j:Nat,st=(((j:Nat):Int),Qn j++List.replicate (names.length - j) (0:Int))/\j+m=names.length) ?_ ⟨0,rfl,by omega⟩ (by omega:names.length<34359738368);rintro m _ ⟨j,rfl,hm⟩;unfold nL
  dsimp only
  rw[Vt,List.length_replicate];refine qI.cond (fun B=>?_) fun B=>.tot ?_
  ·have I:j<names.length:=by have:=kod B; omega
   refine qI.bnd (.of (fun n _ _=>natI_nat _) (Q:=fun z=>z=j) rfl) fun z hz=>qI.chk (kdt (by omega)) ?_
   subst hz;have E:z<(Qn z++List.replicate (names.length - z) (0:Int)).length:=by simp[Qn]; omega
   refine qI.bnd (.of (fun n _ _=>zE E) (Q:=fun _=>True) trivial) fun _ _=>?_
   rw[Rn I,zM (by omega)];exact .next ⟨m - 1,by omega,z+1,rfl,by omega⟩
  have:j=names.length:=by have:=of_decide_eq_false B; omega
  subst this;rw[Nat.sub_self,List.replicate_zero,List.append_nil];refine Tot.bnd (.of (fun n _ _=>D) (Q:=fun z=>z=a) rfl) fun z hz=>?_
  subst hz;refine Tot.loop (fun m st=>∃ j:Nat,st=(((j:Nat):Int),(z.take j).map (fun i=>vals.getD i.toNat NJ),(z.take j).map (fun i=>names.getD i.toNat []))/\j+m=names.length) ?_ ⟨0,rfl,by omega⟩ (by omega:names.length<34359738368)
  rintro m _ ⟨j,rfl,hm⟩;unfold nM
  dsimp only
  rw[Vt,List.length_replicate];refine qI.cond (fun B=>?_) fun B=>.tot ?_
  ·have I:j<names.length:=by have:=kod B; omega
   have C:j<z.length:=by omega
   refine qI.bnd (.of (fun n _ _=>natI_nat _) (Q:=fun q=>q=j) rfl) fun q T=>qI.chk (kdt (by omega)) ?_
   subst T;refine qI.bnd (.of (fun n _ _=>zE C) (Q:=fun i=>i=z[q]) rfl) fun i H=>?_
   subst H;obtain⟨U,h1⟩:=L _ (List.getElem_mem C);obtain⟨w,hw⟩:=Int.eq_ofNat_of_zero_le U;rw[hw]at h1 ⊢;have h1:w<names.length:=by simpa using h1
   refine qI.bnd (Tot.idx (zE h1) (P:=fun x=>x=names[w]) rfl) fun x F=>?_
   subst F;rw[zb];refine qI.chk (kdt (by simp; omega)) ?_;refine qI.bnd (Tot.idx (zE (show w<vals.length by omega)) (P:=fun x=>x=vals[w]'(by omega)) rfl) fun x F=>?_
   obtain⟨o,p,s,t,u,y⟩:=x
   dsimp only
   rw[F,qn];refine qI.chk (kdt (by simp; omega)) ?_;rw[zM (by omega)];refine .next ⟨m - 1,by omega,q+1,?_,by omega⟩;rw[zK C,jZ,jZ];have e1:names.getD z[q].toNat []=names[w]:=by rw[hw]; simp[List.getD_eq_getElem?_getD,h1]
   have e2:vals.getD z[q].toNat NJ=vals[w]'(by omega):=by rw[hw]; simp[List.getD_eq_getElem?_getD,show w<vals.length by omega]
   simp only[jk,jN,e1,e2]
  have:j=names.length:=by have:=of_decide_eq_false B; omega
  subst this;rw[← K,List.take_length,A];have M:∀ x∈z.map (fun i=>vals.getD i.toNat NJ),VF x:=fun x F=>by
   obtain⟨i,_,rfl⟩:=List.mem_map.1 F;rw[List.getD_eq_getElem?_getD];cases h:vals[i.toNat]? with
   | none=>exact fa
   | some v=>exact J v (List.mem_of_getElem? h)
  have V:=Hn M;show Tot 34359738368 (fun n=>bnd (xW n (Mo names vals z)) fun b=>bif(b != (0:Int))then some (NJ,b)else bnd (zG n (Mo names vals z)) fun(x:Val)=>match x with|⟨c,d,f,g,k,l⟩=>some (Val.mk c d f g k l,(0:Int))) _
  have X:hgt (Mo names vals z)<=34359738368:=by unfold Mo; simp only[hgt,jl]; omega
  refine Tot.bnd (.of (fun n h1 h2=>Uc (by omega) h2) (Q:=fun e=>e=bif Ul (Mo names vals z)then 0 else 20) rfl) fun e he=>?_
  subst he;cases hm:Ul (Mo names vals z)with
  | false=>exact .one rfl
  | true=>
   have N:=lz J hm;refine Tot.cond (fun h=>by cases h) fun _=>?_
   refine Tot.bnd (.of (fun n h1 h2=>Cm n h2 _ (by have:=N.big; omega)) (Q:=fun v=>v=Mo names vals z) rfl) fun v O=>?_
   obtain⟨o,p,s,t,u,y⟩:=v;exact .one (by rw[O]; rfl)
 exact key.imp fun r R=>⟨R,by rw[R]; exact qef J⟩
end W
end
section
open Go Ax Go.Proofs
namespace W
theorem SP {a b:Val} (c:VF a):Tot 34359738368 (fun n=>vB n a b) (fun t=>t=eq3 a b/\T3 t):=(aE 4295475200 a b c.big (by decide)).up (by decide)
theorem qdb (a b:Val) (c:VF a):T3 (eq3 a b):=by
 obtain⟨r,⟨rfl,h⟩,_⟩:=SP (b:=b) c;exact h
def Rc (a b:Val):Int:=(uS 20 a b).getD 0
theorem TX {a b:Val} (c:VF a) (d:VF b):T3 (Rc a b)/\Tot 34359738368 (fun n=>uS n a b) (fun t=>t=Rc a b):=by
 have h:=(ec c d).val (by decide) 0;exact⟨h.1,.of (fun n h1 h2=>h.2 n (by omega) h2) rfl⟩
theorem RZ {a b:Val} (s:VF a) (o:VF b):Tot 34359738368 (fun n=>nV n a b) VR:=by
 have w:=o.open_l;have e:=fun(b:Val)=>SP (b:=b) s;obtain⟨k,C,D,E,F,G⟩:=a;obtain⟨k',c,d,f,g,i⟩:=b;unfold nV
 dsimp only
 refine Tot.cond (fun _=>.one fun _=>o) fun _=>Tot.bnd (.of (fun n _ _=>ux n _) rfl) fun b e1=>?_
 subst e1;refine Tot.cond (fun _=>.one fun h=>absurd h (by dsimp only; decide)) fun l=>?_
 have l:(xy (Val.mk k' c d f g i)).is_l=true:=by simpa using l
 obtain⟨H,I⟩:=w l;refine Tot.loop (fun m st=>∃(j:Nat) (t:Int),st=(t,((j:Nat):Int))/\j+m=(xy (Val.mk k' c d f g i)).get_l.length/\T3 t) (m0:=(xy (Val.mk k' c d f g i)).get_l.length) ?_ ⟨0,0,rfl,by simp,.inl rfl⟩ (by omega);rintro m _ ⟨j,t,rfl,hm,p⟩;unfold sn
 dsimp only
 rw[qn];refine qI.cond (fun x=>?_) fun _=>?_
 ·have y:j<(xy (Val.mk k' c d f g i)).get_l.length:=by have:=kod x; omega
  refine qI.bnd (Tot.idx (zE y) (P:=fun _=>True) trivial) fun v _=>?_
  obtain⟨z,z2,z3,z4,z5,A⟩:=v;refine qI.bnd (e _) fun r q=>qI.bnd (.of (fun n _ _=>qdv n p q.2) (Q:=T3) (qfv p q.2)) fun u hu=>?_
  rw[zM (by omega)];exact .next ⟨m - 1,by omega,j+1,u,rfl,by omega,hu⟩
 refine qI.bnd (.of (fun n _ _=>tG n t) (Q:=VF) (mY t)) fun v B=>?_
 obtain⟨z,z2,z3,z4,z5,A⟩:=v;exact .one fun _=>B
noncomputable def qc1 (op:List UInt8) (a b:Val):Option (Val×Int):=
 if op=[65,78,68]then some (td RL a b)
 else if op=[79,82]then some (td or3 a b)
 else if op=[88,79,82]then some (td qe7 a b)
 else if op=[61]then some (nc (eq3 a b),0)
 else if op=[60,62]then some (nc (ir (eq3 a b)),0)
 else if op=[60]then some (nc (Rc a b),0)
 else if op=[62]then some (nc (Rc b a),0)
 else if op=[60,61]then some (nc (ir (Rc b a)),0)
 else if op=[62,61]then some (nc (ir (Rc a b)),0)
 else none
theorem zy {N:Nat} {F:Nat->Option (Val×Int)} {Q:Val×Int->Prop} (h:Tot N F Q):Tot N (fun n=>bnd (F n) fun(x:Val×Int)=>match x with|(⟨a,z2,z3,z4,z5,b⟩,e)=>some (Val.mk a z2 z3 z4 z5 b,e)) Q:=
 Tot.bnd h fun r c=>by obtain⟨⟨a,z2,z3,z4,z5,b⟩,e⟩:=r; exact .one c
theorem Uv {N:Nat} {F:Nat->Option Int} {t:Int} (h:Tot N F (fun x=>x=t)):Tot N (fun n=>bnd (F n) fun x=>bnd (zT n x) fun(v:Val)=>match v with|⟨a,z2,z3,z4,z5,b⟩=>some (Val.mk a z2 z3 z4 z5 b,(0:Int))) (fun r=>r=(nc t,0)):=
 Tot.bnd h fun x c=>Tot.bnd (.of (fun n _ _=>tG n x) (Q:=fun v=>v=nc t) (by rw[c])) fun v d=>by subst d; generalize nc t=u; obtain⟨a,z2,z3,z4,z5,b⟩:=u; exact .one rfl
theorem Gl {N:Nat} {F:Nat->Option Int} {t:Int} (h3:T3 t) (h:Tot N F (fun x=>x=t)):Tot N (fun n=>bnd (F n) fun x=>bnd (vS n x) fun y=>bnd (zT n y) fun(v:Val)=>match v with|⟨z1,z2,z3,z4,z5,z6⟩=>some (Val.mk z1 z2 z3 z4 z5 z6,(0:Int))) (fun r=>r=(nc (ir t),0)):=
 Tot.bnd h fun x a=>Uv (.of (fun n _ _=>by rw[a]; exact oT n h3) rfl)
theorem an {a b:Val} (f:VF a) (g:VF b) (op:List UInt8):Tot 34359738368 (fun n=>so n op a b) (fun r=>VR r/\∀ x,qc1 op a b=some x->r=x):=by
 have i:=TX f g;have j:=TX g f;have l:=SP (b:=b) f;have m:=qdb a b f;have o:=RZ f g;have p:=eK f g;have h1:=NI 34359738368 f g;have h2:=eC 34359738368 f g;have h3:=ez 34359738368 f g;have h4:=eB 34359738368 f g;have t1:=fun n=>qb7 n a b
 have t2:=fun n=>qeb n a b
 have t3:=fun n=>qb9 n a b
 have v1:=CW RL a b;have v2:=CW or3 a b;have v3:=CW qe7 a b;unfold qc1;obtain⟨k,q,s,t,u,v⟩:=a;obtain⟨k',w,y,z,A,B⟩:=b;unfold so
 dsimp only
 refine Tot.cond (fun c=>?_) fun c=>?_
 ·rw[if_pos (eq_of_beq c)]
  exact(zy (.of (fun n _ _=>t1 n) rfl)).imp fun r d=>by subst d; exact⟨v1,fun x e=>Option.some.inj e⟩
 rw[if_neg (ne_of_beq_false c)];refine Tot.cond (fun c=>?_) fun c=>?_
 ·rw[if_pos (eq_of_beq c)]
  exact(zy (.of (fun n _ _=>t2 n) rfl)).imp fun r d=>by subst d; exact⟨v2,fun x e=>Option.some.inj e⟩
 rw[if_neg (ne_of_beq_false c)];refine Tot.cond (fun c=>?_) fun c=>?_
 ·rw[if_pos (eq_of_beq c)]
  exact(zy (.of (fun n _ _=>t3 n) rfl)).imp fun r d=>by subst d; exact⟨v3,fun x e=>Option.some.inj e⟩
 rw[if_neg (ne_of_beq_false c)];refine Tot.cond (fun c=>?_) fun c=>?_
 ·rw[if_pos (eq_of_beq c)]
  exact(Uv (l.imp fun _ h=>h.1)).imp fun r d=>by subst d; exact⟨fun _=>mY _,fun x e=>Option.some.inj e⟩
 rw[if_neg (ne_of_beq_false c)];refine Tot.cond (fun c=>?_) fun c=>?_
 ·rw[if_pos (eq_of_beq c)]
  exact(Gl m (l.imp fun _ h=>h.1)).imp fun r d=>by subst d; exact⟨fun _=>mY _,fun x e=>Option.some.inj e⟩
 rw[if_neg (ne_of_beq_false c)];refine Tot.cond (fun c=>?_) fun c=>?_
 ·rw[if_pos (eq_of_beq c)]
  exact(Uv i.2).imp fun r d=>by subst d; exact⟨fun _=>mY _,fun x e=>Option.some.inj e⟩
 rw[if_neg (ne_of_beq_false c)];refine Tot.cond (fun c=>?_) fun c=>?_
 ·rw[if_pos (eq_of_beq c)]
  exact(Uv j.2).imp fun r d=>by subst d; exact⟨fun _=>mY _,fun x e=>Option.some.inj e⟩
 rw[if_neg (ne_of_beq_false c)];refine Tot.cond (fun c=>?_) fun c=>?_
 ·rw[if_pos (eq_of_beq c)]
  exact(Gl j.1 j.2).imp fun r d=>by subst d; exact⟨fun _=>mY _,fun x e=>Option.some.inj e⟩
 rw[if_neg (ne_of_beq_false c)];refine Tot.cond (fun c=>?_) fun c=>?_
 ·rw[if_pos (eq_of_beq c)]
  exact(Gl i.1 i.2).imp fun r d=>by subst d; exact⟨fun _=>mY _,fun x e=>Option.some.inj e⟩
 rw[if_neg (ne_of_beq_false c)];refine Tot.cond (fun _=>(zy o).imp fun r d=>⟨d,fun x e=>by cases e⟩) fun _=>?_
 refine Tot.cond (fun _=>(zy p).imp fun r d=>⟨d,fun x e=>by cases e⟩) fun _=>?_
 refine Tot.cond (fun _=>(zy h1).imp fun r d=>⟨d,fun x e=>by cases e⟩) fun _=>?_
 refine Tot.cond (fun _=>(zy h2).imp fun r d=>⟨d,fun x e=>by cases e⟩) fun _=>?_
 refine Tot.cond (fun _=>(zy h3).imp fun r d=>⟨d,fun x e=>by cases e⟩) fun _=>?_
 exact(zy h4).imp fun r d=>⟨d,fun x e=>by cases e⟩
theorem lR {a:Val} (b:VF a):Tot 34359738368 (fun n=>vF n a) VR:=by
 have h:=er 34359738368 b b;obtain⟨k,c,d,e,f,g⟩:=a;unfold vF;exact zy h
theorem ao {p:xu} (hp:PlOk p) {l:List Val} (q:l.length<=1048576) (c:∀ v∈l,VF v) (name:List UInt8):Tot 34359738368 (fun n=>uX n p name l) VR:=by
 have t:=fun{v:Val} (h:VF v)=>TM hp h;have he:=PE hp;obtain⟨⟨names,vals⟩,⟨nodes,edges⟩,⟨k,b,i,s,l',ks⟩⟩:=p;have a:∀{j:Nat} {K:Nat->Val->Option (Val×Int)},j<l.length->(∀ v,VF v->Tot 34359738368 (fun n=>K n v) VR)->Tot 34359738368 (fun n=>bnd (idx l ((j:Nat):Int)) (K n)) VR:=fun o u=>
  Tot.bnd (Tot.idx (zE o) (P:=VF) (c _ (List.getElem_mem o))) u
 unfold uX
 dsimp only
 rw[qn];refine Tot.bnd (P:=fun _=>True) ?_ fun x _=>?_
 ·unfold qB
  exact Tot.bnd (qa3 q) fun _ _=>.one trivial
 refine Tot.cond (fun d=>?_) fun _=>?_
 ·have f:0<l.length:=by
   cases h:name==([99,111,97,108,101,115,99,101]:List UInt8)with
   | true=>rw[h,xM]at d; have:=kod d; omega
   | false=>rw[h]at d; cases d
  refine Tot.bnd (qa4 q) fun r y=>?_;have o:∃ j:Nat,(bif decide ((0:Int)>r)then(0:Int)else r)=((j:Nat):Int)/\j<l.length:=by
   rcases y with h|⟨j,rfl,o⟩
   ·exact⟨0,by rw[kdt (show(0:Int)>r from h)]; rfl,f⟩
   exact⟨j,by rw[kdf (by omega)]; rfl,o⟩
  obtain⟨j,e,o⟩:=o;rw[e];exact a o fun v c=>by obtain⟨g,z2,z3,z4,z5,m⟩:=v; exact .one fun _=>c
 refine Tot.cond (fun d=>Tot.cond (fun _=>.one fun _=>fa) fun _=>?_) fun _=>?_
 ·have f:l.length=2:=by
   cases h:name==([114,97,110,103,101]:List UInt8)with
   | true=>rw[h,xM]at d; have:=eq_of_beq d; omega
   | false=>rw[h]at d; cases d
  refine a (j:=0) (by omega) fun v c=>?_;obtain⟨g,z2,z3,z4,z5,m⟩:=v;refine a (j:=1) (by omega) fun w hw=>?_;obtain⟨z,w2,A,B,C,D⟩:=w;exact zy (oc c hw)
 refine Tot.cond (fun _=>.one fun h=>absurd h (by dsimp only; decide)) fun d=>?_
 have f:0<l.length:=by have:=bne_eq_false_iff_eq.1 d; omega
 refine Tot.cond (fun _=>Tot.cond (fun _=>.one fun _=>fa) fun _=>a (j:=0) f fun v c=>?_) fun _=>?_
 ·obtain⟨g,z2,z3,z4,z5,m⟩:=v
  exact zy (iQ c)
 refine Tot.cond (fun _=>Tot.cond (fun _=>.one fun _=>fa) fun _=>a (j:=0) f fun v c=>?_) fun _=>?_
 ·obtain⟨g,z2,z3,z4,z5,m⟩:=v
  exact zy (lR c)
 refine Tot.cond (fun _=>Tot.cond (fun _=>.one fun _=>fa) fun _=>a (j:=0) f fun v c=>?_) fun _=>?_
 ·obtain⟨g,z2,z3,z4,z5,m⟩:=v
  exact zy (t c)
 refine Tot.cond (fun _=>Tot.cond (fun _=>.one fun _=>fa) fun _=>a (j:=0) f fun v c=>?_) fun _=>?_
 ·obtain⟨g,z2,z3,z4,z5,m⟩:=v
  exact zy (by unfold uz; exact zy (he _ _))
 refine Tot.cond (fun _=>Tot.cond (fun _=>.one fun _=>fa) fun _=>a (j:=0) f fun v c=>?_) fun _=>?_
 ·obtain⟨g,z2,z3,z4,z5,m⟩:=v
  exact zy (by unfold uA; exact zy (he _ _))
 refine Tot.cond (fun _=>Tot.cond (fun _=>.one fun _=>fa) fun _=>a (j:=0) f fun v c=>?_) fun _=>?_
 ·obtain⟨g,z2,z3,z4,z5,m⟩:=v
  exact zy (by unfold uB; exact zy (SN c _))
 refine Tot.cond (fun _=>Tot.cond (fun _=>.one fun _=>fa) fun _=>a (j:=0) f fun v c=>?_) fun _=>?_
 ·obtain⟨g,z2,z3,z4,z5,m⟩:=v
  exact zy (by unfold uC; exact zy (SN c _))
 refine Tot.cond (fun _=>Tot.cond (fun _=>.one fun _=>fa) fun _=>a (j:=0) f fun v c=>?_) fun _=>?_
 ·obtain⟨g,z2,z3,z4,z5,m⟩:=v
  exact zy (iW c)
 exact .one fun h=>absurd h (by dsimp only; decide)
end W
end
section
open Go Ax Go.Proofs
namespace W
inductive EvOk:qf->Prop where
 | mk {op:Int} {name:List UInt8} {val:Val} {names:List (List UInt8)} {args:List qf} (h1:op=1->VF val) (h2:op=4\/op=8\/op=9\/op=11\/op=12\/op=15->1<=args.length)
   (h3:op=7\/op=10->2<=args.length) (h4:∀ x∈args,EvOk x) (h5:op=2->HP name=true):EvOk (.mk op name val names args)
def VL (r:List Val×Int):Prop:=r.2=0->(∀ v∈r.1,VF v)
theorem qdn {p:xu} (hp:PlOk p) {l:List Val} (q:l.length<=1048576) (e:∀ v∈l,VF v) {op:Int} {name:List UInt8} (h1:op=11\/op=12->1<=l.length) (h2:op=10->2<=l.length) (c:Bool) (r:c=true->op=11\/op=12) :
  Tot 34359738368 (fun n=>uD n l op name p.env.names p.env.vals p.g.nodes p.g.edges p.params.1 p.params.2 p.params.3 p.params.4 p.params.5 p.params.6 c) VR:=by
 have a:=ao hp q e name;obtain⟨⟨names,vals⟩,⟨nodes,edges⟩,⟨k,b,i,s,l',ks⟩⟩:=p;have d:∀{j:Nat} {K:Nat->Val->Option (Val×Int)},j<l.length->(∀ v,VF v->Tot 34359738368 (fun n=>K n v) VR)->Tot 34359738368 (fun n=>bnd (idx l ((j:Nat):Int)) (K n)) VR:=fun f u=>
  Tot.bnd (Tot.idx (zE f) (P:=VF) (e _ (List.getElem_mem f))) u
 unfold uD;refine Tot.cond (fun h=>?_) fun _=>Tot.cond (fun h=>?_) fun _=>?_
 ·refine d (j:=0) (by have:=h1 (r h); omega) fun v e=>?_
  obtain⟨m,z2,z3,z4,z5,o⟩:=v;refine Tot.bnd (.of (fun n _ _=>eH n _) (Q:=fun _=>True) trivial) fun t _=>Tot.bnd (.of (fun n _ _=>tG n t) (Q:=VF) (mY t)) fun w hw=>?_
  obtain⟨m,z2,z3,z4,z5,o⟩:=w;exact .one fun _=>hw
 ·have:=h2 (eq_of_beq h)
  refine d (j:=0) (by omega) fun v e=>?_;obtain⟨m,z2,z3,z4,z5,o⟩:=v;refine d (j:=1) (by omega) fun w hw=>?_;obtain⟨x,w2,y,z,A,B⟩:=w;exact zy ((an e hw name).imp fun _ h=>h.1)
 exact zy a
theorem qdm {p:xu} (hp:PlOk p) {l:List Val} (y:l.length<=1048576) (c:∀ v∈l,VF v) {op:Int} {name:List UInt8} {kn:List (List UInt8)} (x:kn.length<=1048576)
  (h1:op=4\/op=8\/op=9\/op=11\/op=12\/op=15->1<=l.length) (h2:op=7\/op=10->2<=l.length) :
  Tot 34359738368 (fun n=>fh n op l kn p.env.names p.env.vals p.g.nodes p.g.edges p.params.1 p.params.2 p.params.3 p.params.4 p.params.5 p.params.6 name ()) VR:=by
 have o:=qdn hp y c (op:=op) (name:=name) (fun h=>h1 (by omega)) (fun h=>h2 (.inr h))
 have hprop:=fun{v:Val} (h:VF v)=>eM hp h name;have q:=fun v=>qa2 hp v name
 obtain⟨⟨names,vals⟩,⟨nodes,edges⟩,⟨k,b,i,s,l',ks⟩⟩:=p;have a:∀{j:Nat} {K:Nat->Val->Option (Val×Int)},j<l.length->(∀ v,VF v->Tot 34359738368 (fun n=>K n v) VR)->Tot 34359738368 (fun n=>bnd (idx l ((j:Nat):Int)) (K n)) VR:=fun z A=>
  Tot.bnd (Tot.idx (zE z) (P:=VF) (c _ (List.getElem_mem z))) A
 unfold fh;refine Tot.cond (fun _=>?_) fun _=>?_
 ·unfold gW
  refine Tot.bnd (P:=fun v=>v=Val.mk 4 false 0 [] l []) (.one rfl) fun v d=>?_
  subst d;exact zy ((Lc c y).imp fun _ h=>h.2)
 refine Tot.cond (fun _=>?_) fun _=>?_
 ·refine Tot.bnd (qbi x c) fun r u=>?_
  have u:=u.2;obtain⟨⟨f,z2,z3,z4,z5,m⟩,e⟩:=r;refine Tot.cond (fun _=>.one fun h=>absurd h (by dsimp only; decide)) fun he=>?_
  unfold dr;have:e=0:=by simpa using he
  subst this;exact .one u
 refine Tot.cond (fun h=>?_) fun _=>?_
 ·refine a (j:=0) (by have:=h1 (.inl (eq_of_beq h)); omega) fun v c=>?_
  obtain⟨f,z2,z3,z4,z5,m⟩:=v;exact zy (hprop c)
 refine Tot.cond (fun h=>?_) fun _=>?_
 ·refine a (j:=0) (by have:=h1 (by have:=eq_of_beq h; omega); omega) fun v c=>?_
  obtain⟨f,z2,z3,z4,z5,m⟩:=v;exact zy (q _)
 refine Tot.cond (fun h=>?_) fun _=>?_
 ·have:=h2 (.inl (eq_of_beq h))
  refine a (j:=0) (by omega) fun v c=>?_;obtain⟨f,z2,z3,z4,z5,m⟩:=v;refine a (j:=1) (by omega) fun w hw=>?_;obtain⟨B,w2,C,D,E,F⟩:=w;exact zy (qc0 c hw)
 refine Tot.cond (fun h=>?_) fun _=>?_
 ·unfold zF
  refine Tot.bnd (P:=fun v=>v=Val.mk 2 false 0 [] [] []) (.one rfl) fun v d=>?_
  subst d;refine a (j:=0) (by have:=h1 (by have:=eq_of_beq h; omega); omega) fun v c=>?_;obtain⟨f,z2,z3,z4,z5,m⟩:=v;exact zy (NI _ (Vf (by decide)) c)
 refine Tot.cond (fun h=>?_) fun _=>?_
 ·refine a (j:=0) (by have:=h1 (by have:=eq_of_beq h; omega); omega) fun v c=>?_
  obtain⟨f,z2,z3,z4,z5,m⟩:=v;refine Tot.bnd (.of (fun n _ _=>QN n _) (Q:=fun r=>T3 r.1) (Zc _)) fun r u=>?_
  obtain⟨t,e⟩:=r;refine Tot.bnd (.of (fun n _ _=>oT n u) (Q:=fun _=>True) trivial) fun t _=>Tot.bnd (.of (fun n _ _=>tG n t) (Q:=VF) (mY t)) fun w hw=>?_
  obtain⟨f,z2,z3,z4,z5,m⟩:=w;exact .one fun _=>hw
 refine Tot.cond (fun h=>?_) fun _=>?_
 ·exact o _ fun h=>.inl (eq_of_beq h)
 exact o _ fun h=>.inr (eq_of_beq h)
theorem aF {p:xu} (hp:PlOk p):∀(N:Nat),N<=1048576->(∀ x:qf,EvOk x->Qg x<=N->Tot (34359738368+2 * N) (fun n=>xb n p x) VR) /\
  (∀ l:List qf,(∀ x∈l,EvOk x)->pd l<=N->Tot (34359738368+2 * N+1) (fun n=>xA n p l) (fun r=>VL r/\(r.2=0->r.1.length=l.length))):=by
 intro N
 induction N with
 | zero=>
  intro _;refine⟨fun x _ h=>?_,fun l _ h=>?_⟩
  ·obtain⟨op,name,val,names,args⟩:=x; simp only[Qg]at h; omega
  have:=fA l; omega
 | succ N ih=>
  intro Q;obtain⟨w,y⟩:=ih (by omega);refine⟨fun x z H=>?_,fun l u H=>?_⟩
  ·refine Tot.succ (N:=34359738368+2 * N+1) (G:=fun n=>gG n (xb n) (xA n) p x) (fun n=>rfl) ?_
   cases z with
   | @mk op name val nms args h1 h2 h3 h4 h5=>
   have I:Qg (.mk op name val nms args)=1+name.length+fQ val+rA nms+pd args:=by simp only[Qg]
   have J:=fA args;have K:=vm nms;have hargs:=y args h4 (by have:=Fy val; omega);have A:=fun{l:List Val} (u:l.length=args.length) (o:∀ v∈l,VF v)=>qdm hp (l:=l) (by omega) o (op:=op) (name:=name) (kn:=nms) (by omega) (fun h=>by rw[u]; exact h2 h) (fun h=>by rw[u]; exact h3 h)
   have q:=Ho p.env.names name hp.bnd;have a:=hp.par;have g:=hp.par5;have hvals:=hp.vals;obtain⟨⟨names,vals⟩,⟨nodes,edges⟩,⟨k,b,i,s,l',ks⟩⟩:=p;obtain⟨v1,v2,v3,v4,v5,v6⟩:=val;unfold gG
   dsimp only
   refine Tot.cond (fun h=>.one fun _=>h1 (eq_of_beq h)) fun _=>Tot.cond (fun h=>?_) fun _=>Tot.cond (fun h=>?_) fun _=>Tot.cond (fun _=>.one fun h=>absurd h (by dsimp only; decide)) fun _=>?_
   ·refine Tot.bnd (q.up (by omega)) fun r _=>?_
    rw[qn];refine Tot.cond (fun _=>.one fun h=>absurd h (by dsimp only; decide)) fun c=>?_
    have d:0<=r/\r<((vals.length:Nat):Int):=by
     cases h1:decide (r<0)with
     | true=>rw[h1]at c; cases c
     | false=>
      rw[h1,qV]at c;have:=of_decide_eq_false h1;have:=of_decide_eq_false c;omega
    obtain⟨j,rfl⟩:=Int.eq_ofNat_of_zero_le d.1;have t:j<vals.length:=by omega
    unfold dp;refine Tot.bnd (Tot.idx (zE t) (P:=VF) (hvals _ (List.getElem_mem t))) fun v o=>?_;obtain⟨C,z2,z3,z4,z5,D⟩:=v;exact .one fun _=>o
   ·refine Tot.bnd (.of (fun n h1 h2=>Te h2 a g (by omega) _) rfl) fun r d=>?_
    have E:=lx a name;rw[d]at E;obtain⟨⟨C,z2,z3,z4,z5,D⟩,e⟩:=r;unfold dq;exact Tot.cond (fun _=>.one fun h=>absurd h (by dsimp only; decide)) fun _=>.one fun _=>E
   refine Tot.bnd (hargs.up (by omega)) fun r d=>?_;obtain⟨l,e⟩:=r;refine Tot.cond (fun he=>.one fun h=>?_) fun he=>?_
   ·have h:e=0:=h
    subst h;cases he
   ·have:e=0:=by simpa using he
    subst this;exact(A (d.2 rfl) (d.1 rfl)).up (by omega)
  refine Tot.succ (N:=34359738368+2 * N+2) (G:=fun n=>fi n (xb n) (xA n) p l) (fun n=>rfl) ?_
  obtain⟨⟨names,vals⟩,⟨nodes,edges⟩,⟨k,b,i,s,l',ks⟩⟩:=p;unfold fi
  dsimp only
  have L:=fA l;refine Tot.loop (fun m st=>∃(j:Nat) (acc:List Val),st=(acc,((j:Nat):Int))/\j+m=l.length/\acc.length=j/\∀ v∈acc,VF v) ?_ ⟨0,[],rfl,by omega,rfl,fun v h=>by cases h⟩ (by omega:l.length<34359738368+2 * N+2)
  rintro m _ ⟨j,acc,rfl,hm,F,o⟩;unfold bF
  dsimp only
  rw[xm];refine qI.cond (fun c=>?_) fun c=>.one ⟨fun _=>o,fun _=>?_⟩
  ·have t:j<l.length:=by have:=kod c; omega
   have f:=List.getElem_mem t;have M:=mT f;refine qI.bnd (Tot.idx (zE t) (P:=fun x=>x=l[j]) rfl) fun x z=>?_
   obtain⟨R,S,⟨T,U,V,X,Y,Z⟩,y9,O⟩:=x
   dsimp only
   rw[z];refine qI.bnd ((w l[j] (u _ f) (by omega)).up (by omega)) fun r d=>?_;obtain⟨⟨C,z2,z3,z4,z5,D⟩,e⟩:=r;refine qI.cond (fun he=>.one ⟨fun h=>?_,fun h=>?_⟩) fun he=>?_
   ·have h:e=0:=h
    subst h;cases he
   ·have h:e=0:=h
    subst h;cases he
   ·have:e=0:=by simpa using he
    subst this;rw[qn];refine qI.chk (kdt (by simp; omega)) ?_;rw[zM (by omega)];refine .next ⟨m - 1,by omega,j+1,_,rfl,by omega,by simp[F],fun v B=>?_⟩;rcases jy.1 B with h|h
    ·exact o v h
    rw[jz.1 h]; exact d rfl
  have:j=l.length:=by have:=of_decide_eq_false c; omega
  rw[F,this]
end W
end
section
open Go Ax Go.Proofs
namespace W
mutual
theorem oW:∀ v:Val,fQ v<=1048576->smV v=true
 | .mk k b i s l ks,h=>by
  simp only[fQ]at h;have h1:=iS l (by omega);have h2:=qdl (i:=i) (by omega);have hi:okI i=true:=kdt h2;have hs:s.length<=1048576:=by omega
  simp only[smV,h1,hi,kdt hs];rfl
theorem iS:∀ l:List Val,vo l<=1048576->smL l=true
 | [],_=>rfl
 | v::l,h=>by
  simp only[vo]at h;simp only[smL,oW v (by omega),iS l (by omega)];rfl
end
theorem lA {v:Val} (h:fQ v<=1048576) (hm:Ul v=true):VF v:=⟨hm,oW v h⟩
structure NmOk (op:Int) (name:List UInt8) (val:Val) (args:List qf):Prop where
 val:op=1->Ul val=true
 var:op=2->HP name=true
 one:op=4\/op=8\/op=9\/op=11\/op=12\/op=15->1<=args.length
 two:op=7\/op=10->2<=args.length
theorem De {a:Nat} {k:Nat} {x:Bool} (h:(bif(((a:Nat):Int)==((k:Nat):Int))then x else false)=true):a=k/\x=true:=by
 cases h1:(((a:Nat):Int)==((k:Nat):Int))with
 | true=>rw[h1]at h; have:=eq_of_beq h1; exact⟨by omega,h⟩
 | false=>rw[h1]at h; cases h
theorem TW {a:Nat} {k:Nat} {x:Bool} (h:(bif x then(((a:Nat):Int)==((k:Nat):Int))else false)=true):a=k:=by
 cases x with
 | true=>have:=eq_of_beq h; omega
 | false=>cases h
section
variable {op:Int} {name:List UInt8} {val:Val} {names:List (List UInt8)} {args:List qf}
theorem qa7 (g:name.length<=1048576) (c:Bool) (i:c=true->op=8\/op=9\/op=11\/op=12) (j:op≠1/\op≠2/\op≠4/\op≠7/\op≠15) (d:c=false->op≠8/\op≠9/\op≠11/\op≠12) :
  Tot 34359738368 (fun n=>gS n name args op c) (fun b=>b=true->NmOk op name val args):=by
 unfold gS;rw[xm];refine Tot.cond (fun h=>.one fun g=>?_) fun hf=>?_
 ·have l:=TW (k:=1) g
  have:=i h;exact⟨fun e=>by omega,fun e=>by omega,fun _=>by omega,fun e=>by omega⟩
 have m:=d hf;refine Tot.cond (fun h=>?_) fun f=>?_
 ·have h:=eq_of_beq h
  refine Tot.bnd (P:=fun _=>True) ((Tot.gs (P:=fun _=>True) fun _=>.of (r:=(rV 0 name).getD 0) (fun n _ _=>by
   unfold rV vW nH dF;simp only[EZ];rfl) trivial).imp fun _ _=>trivial) fun x _=>.one fun g=>?_
  have l:=(De (k:=2) g).1;exact⟨fun e=>by omega,fun e=>by omega,fun e=>by omega,fun _=>by omega⟩
 have f:op≠10:=by simpa using f
 have a:NmOk op name val args:=⟨fun e=>by omega,fun e=>by omega,fun e=>by omega,fun e=>by omega⟩
 refine Tot.cond (fun h=>?_) fun _=>Tot.cond (fun h=>?_) fun _=>.one fun h=>by cases h
 ·refine Tot.bnd (P:=fun _=>True) (.of (fun n h1 h2=>tL (by omega) (by omega) h2) trivial) fun x _=>?_
  refine Tot.bnd (P:=fun _=>True) ((Tot.gs (P:=fun _=>True) fun _=>.of (fun n _ _=>rfl) trivial).imp fun _ _=>trivial) fun y _=>.one fun _=>a
 refine Tot.bnd (P:=fun _=>True) ((Tot.gs (P:=fun _=>True) fun _=>.of (fun n _ _=>rfl) trivial).imp fun _ _=>trivial) fun y _=>.one fun _=>a
theorem qa6 (o:Qg (.mk op name val names args)<=1048576) (c:Bool) (v:c=true->op=2\/op=3) (h1:op≠1) (p:c=false->op≠2/\op≠3) :
  Tot 34359738368 (fun n=>dG n args name op names c) (fun b=>b=true->NmOk op name val args):=by
 have w:Qg (.mk op name val names args)=1+name.length+fQ val+rA names+pd args:=by simp only[Qg]
 have y:=vm names;have q:Tot 34359738368 (fun n=>vr n name) (fun b=>b=HP name):=.of (fun n h1 h2=>tL (by omega) (by omega) h2) rfl
 have f:∀ g:Bool,Tot 34359738368 (fun n=>qz g (vZ n name)) (fun _=>True):=fun g=>(Tot.gs (P:=fun _=>True) fun _=>.of (fun n _ _=>rfl) trivial).imp fun _ _=>trivial
 unfold dG;rw[xm];refine Tot.cond (fun h=>?_) fun hf=>?_
 ·have:=v h
  refine Tot.bnd (Tot.gs fun _=>q) fun b o=>.one fun he=>?_
  obtain⟨e1,e2⟩:=De (k:=0) he;rw[e1]at o;exact⟨fun e=>by omega,fun _=>by rw[← o rfl]; exact e2,fun e=>by omega,fun e=>by omega⟩
 have hf:=p hf;refine Tot.cond (fun h=>Tot.bnd (f _) fun b _=>.one fun he=>?_) fun h4=>?_
 ·have h:=eq_of_beq h
  have:=(De (k:=1) he).1;exact⟨fun e=>by omega,fun e=>by omega,fun _=>by omega,fun e=>by omega⟩
 have h4:op≠4:=by simpa using h4
 refine Tot.cond (fun h=>Tot.bnd (f _) fun b _=>?_) fun l=>?_
 ·have h:=eq_of_beq h
  refine Tot.bnd (P:=fun _=>True) ((Tot.gs (P:=fun _=>True) fun r=>?_).imp fun _ _=>trivial) fun x _=>?_
  ·have:=(De (k:=1) r).1
   exact Tot.idx (i:=0) (zE (show 0<args.length by omega)) trivial
  obtain⟨F,G,⟨H,I,J,K,L,M⟩,N,z⟩:=x;refine .one fun he=>?_;have r:(bif(((args.length:Nat):Int)==(1:Int))then b else false)=true:=by
   cases A:(bif(((args.length:Nat):Int)==(1:Int))then b else false)with
   | true=>rfl
   | false=>rw[A]at he; cases he
  have:=(De (k:=1) r).1;exact⟨fun e=>by omega,fun e=>by omega,fun _=>by omega,fun e=>by omega⟩
 have l:op≠15:=by simpa using l
 refine Tot.cond (fun h=>.one fun _=>?_) fun h5=>?_
 ·have h:=eq_of_beq h
  exact⟨fun e=>by omega,fun e=>by omega,fun e=>by omega,fun e=>by omega⟩
 have h5:op≠5:=by simpa using h5
 refine Tot.cond (fun h=>?_) fun u=>?_
 ·have h:=eq_of_beq h
  refine Tot.loop (fun m st=>∃ j:Nat,st=((j:Nat):Int)/\j+m=names.length) ?_ ⟨0,rfl,by omega⟩ (by omega:names.length<34359738368);rintro m _ ⟨j,rfl,hm⟩;unfold tM;rw[zb,xm];refine qI.cond (fun B=>?_) fun _=>.one fun _=>⟨fun e=>by omega,fun e=>by omega,fun e=>by omega,fun e=>by omega⟩
  have C:j<names.length:=by have:=kod B; omega
  refine qI.bnd (Tot.idx (zE C) (P:=fun _=>True) trivial) fun x _=>qI.bnd (P:=fun _=>True) (.of (fun n _ _=>rfl) trivial) fun b _=>qI.cond (fun _=>.one fun h=>by cases h) fun _=>?_
  rw[zM (by omega)];exact .next ⟨m - 1,by omega,j+1,rfl,by omega⟩
 have u:op≠6:=by simpa using u
 refine Tot.cond (fun h=>.one fun he=>?_) fun s=>?_
 ·have h:=eq_of_beq h
  have:=TW (k:=2) he;exact⟨fun e=>by omega,fun e=>by omega,fun e=>by omega,fun _=>by omega⟩
 have s:op≠7:=by simpa using s
 have hname:name.length<=1048576:=by omega
 have d:=fun c h a=>qa7 (val:=val) hname c h ⟨h1,hf.1,h4,s,l⟩ a (args:=args) (op:=op)
 refine Tot.cond (fun h=>d _ (fun h=>.inl (eq_of_beq h)) fun a=>by rw[h]at a; cases a) fun D=>?_
 refine Tot.cond (fun h=>d _ (fun h=>.inr (.inl (eq_of_beq h))) fun a=>by rw[h]at a; cases a) fun E=>?_
 refine Tot.cond (fun h=>d _ (fun h=>.inr (.inr (.inl (eq_of_beq h)))) fun a=>by rw[h]at a; cases a) fun t=>?_
 exact d _ (fun h=>.inr (.inr (.inr (eq_of_beq h)))) fun a=>⟨by simpa using D,by simpa using E,by simpa using t,by simpa using a⟩
theorem ij (f:Qg (.mk op name val names args)<=1048576):Tot 34359738368 (fun n=>sa n (.mk op name val names args)) (fun b=>b=true->NmOk op name val args):=by
 have i:Qg (.mk op name val names args)=1+name.length+fQ val+rA names+pd args:=by simp only[Qg]
 have a:=qa6 (op:=op) (name:=name) (val:=val) (names:=names) (args:=args) f;have c:Tot 34359738368 (fun n=>fR n val) (fun b=>b=Ul val):=.of (fun n h1 h2=>ib (by omega) h2) rfl
 obtain⟨v1,v2,v3,v4,v5,v6⟩:=val;unfold sa
 dsimp only
 rw[xm];refine Tot.cond (fun h=>Tot.bnd (Tot.gs fun _=>c) fun b f=>.one fun he=>?_) fun h1=>?_
 ·have h:=eq_of_beq h
  cases g:(bif(name==([]:List UInt8))then(((args.length:Nat):Int)==(0:Int))else false)with
  | false=>rw[g]at he; cases he
  | true=>
   rw[g,xM]at he;cases b with
   | false=>cases he
   | true=>exact⟨fun _=>(f g).symm,fun e=>by omega,fun e=>by omega,fun e=>by omega⟩
 have h1:op≠1:=by simpa using h1
 refine Tot.cond (fun h=>a _ (fun h=>.inl (eq_of_beq h)) h1 fun d=>by rw[h]at d; cases d) fun h2=>?_
 exact a _ (fun h=>.inr (eq_of_beq h)) h1 fun d=>⟨by simpa using h2,by simpa using d⟩
end
theorem aB:∀(N:Nat),N<=1048576->∀(x:qf) (d:Int),Qg x<=N->Tot (34359738368+N) (fun n=>bQ n x d) (fun b=>b=true->EvOk x):=by
 intro N
 induction N with
 | zero=>intro _ x d h; obtain⟨op,name,val,names,args⟩:=x; simp only[Qg]at h; omega
 | succ N ih=>
  intro L x d z;refine Tot.succ (N:=34359738368+N) (G:=fun n=>rP n (bQ n) x d) (fun n=>rfl) ?_
  obtain⟨op,name,val,names,args⟩:=x;have B:Qg (.mk op name val names args)=1+name.length+fQ val+rA names+pd args:=by simp only[Qg]
  have C:=fA args;have r:=ij (op:=op) (name:=name) (val:=val) (names:=names) (args:=args) (by omega);have hsame:Tot (34359738368+N) (fun n=>uo n val (Val.mk 0 false 0 [] [] [])) (fun _=>True):=by
   obtain⟨q,h1,h2⟩:=(Us (34359738368+N) (by omega)).1 val (Val.mk 0 false 0 [] [] []) (by omega);refine⟨q,trivial,fun n D s=>?_⟩;obtain⟨E,t,F⟩:=(Us n s).1 val (Val.mk 0 false 0 [] [] []) (by omega);show uo n _ _=some q;rw[t];congr 1;cases q<;>cases E<;>simp_all
  have k:=lA (v:=val) (by omega);obtain⟨v1,v2,v3,v4,v5,v6⟩:=val;unfold rP
  dsimp only
  refine Tot.bnd (Tot.gs fun _=>r.up (by omega)) fun f u=>Tot.bnd (P:=fun _=>True) ((Tot.gs (P:=fun _=>True) fun _=>hsame).imp fun _ _=>trivial) fun H _=>?_
  refine Tot.cond (fun _=>.one fun h=>by cases h) fun o=>?_
  have c:f=true/\(!decide (d<1))=true:=by
   cases g:decide (d<1)with
   | true=>rw[g]at o; cases o
   | false=>
    cases l:f with
    | true=>exact⟨rfl,rfl⟩
    | false=>rw[g,l]at o; cases o
  have a:=u c.2 c.1;refine Tot.loop (fun m st=>∃ j:Nat,st=((j:Nat):Int)/\j+m=args.length/\∀(i:Nat) (h:i<args.length),i<j->EvOk args[i]) ?_ ⟨0,rfl,by omega,fun i h p=>by omega⟩ (by omega:args.length<34359738368+N)
  rintro m _ ⟨j,rfl,hm,A⟩;unfold QD;rw[xm];refine qI.cond (fun g=>?_) fun g=>.one fun _=>?_
  ·have w:j<args.length:=by have:=kod g; omega
   have I:=mT (List.getElem_mem w);refine qI.bnd (Tot.idx (zE w) (P:=fun x=>x=args[j]) rfl) fun x l=>?_
   obtain⟨M,O,⟨Q,R,S,T,U,V⟩,X,J⟩:=x
   dsimp only
   rw[l];refine qI.bnd (ih (by omega) args[j] _ (by omega)) fun b z=>qI.cond (fun _=>.one fun h=>by cases h) fun y=>?_
   rw[zM (by omega)];refine .next ⟨m - 1,by omega,j+1,rfl,by omega,fun i p K=>?_⟩;by_cases e:i<j
   ·exact A i p e
   obtain rfl:i=j:=by omega
   exact z (by simpa using y)
  have w:j=args.length:=by have:=of_decide_eq_false g; omega
  exact .mk (fun h=>k (a.val h)) a.one a.two (fun x l=>by
   obtain⟨i,p,rfl⟩:=List.mem_iff_getElem.1 l;exact A i p (by omega)) a.var
end W
end
