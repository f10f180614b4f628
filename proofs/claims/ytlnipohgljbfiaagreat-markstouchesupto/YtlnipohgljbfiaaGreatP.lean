/- A part of the proof: the plain law. -/
import Derived.Test.YtlnipohgljbfiaaGreatRows
import Derived.Test.YtlnipohgljbfiaaGreatShelf
import Derived.Deep.DeepHandedRow
import Derived.ChangeMaps5
import Derived.LaidLaws
import Derived.OpenShut
import Derived.Test.YtlnipohgljbfiaaGreatC
import Derived.Test.YtlnipohgljbfiaaGreatD
import Derived.Test.YtlnipohgljbfiaaGreatE
import Derived.Test.YtlnipohgljbfiaaGreatF
import Derived.Test.YtlnipohgljbfiaaGreatG
import Derived.Test.YtlnipohgljbfiaaGreatH
import Derived.Test.YtlnipohgljbfiaaGreatI
import Derived.Test.YtlnipohgljbfiaaGreatJ
import Derived.Test.YtlnipohgljbfiaaGreatK
import Derived.Test.YtlnipohgljbfiaaGreatL
import Derived.Test.YtlnipohgljbfiaaGreatM
import Derived.Test.YtlnipohgljbfiaaGreatN
import Derived.Test.YtlnipohgljbfiaaGreatO
set_option linter.unusedVariables false
set_option linter.unusedSimpArgs false
set_option linter.unnecessarySimpa false
set_option linter.deprecated false
set_option linter.unusedSectionVars false
set_option linter.constructorNameAsVariable false
open Go.IntKind renaming wrap->kwr,bits->kbt
open List renaming length_cons->ja,length_append->jb,length_nil->jc,getElem?_cons_zero->jd,getElem?_cons_succ->je,getElem?_eq_getElem->jf,mem_cons->jg,map_cons->jk,length_map->jl,drop_eq_getElem_cons->jn,append_assoc->js,length_take->jt,nil_append->ju,all_cons->jv,mem_append->jy,sum_cons->jA,getElem?_drop->jD,getElem?_eq_some_iff->jG,length_drop->jM,map_nil->jN
open Bool renaming and_eq_true->ji,not_false->jo,not_true->jp,or_eq_true->jO,true_eq_false->jQ
open Nat renaming exists_eq_succ_of_ne_zero->jj,le_refl->jw,lt_irrefl->jR,zero_le->jS
open BitVec renaming ofInt->jr
open UInt8 renaming toNat_inj->jT
open Int renaming toNat_natCast->jU
open Option renaming getD_some->jV
section
open Go Ax
namespace W
section
variable {K V:Type} [BEq K] [LawfulBEq K]
end
abbrev Env:=List (List UInt8×Int)
end W
end
section
open Go Ax
namespace W
def isz (i:Int):Nat:=if -9223372036854775808<=i/\i<=9223372036854775807 then 1 else 1099511627776
theorem qa9 {i:Int} (h:IntKind.i64.min<=i/\i<=IntKind.i64.max):isz i=1:=by
 have h1:IntKind.i64.min = -9223372036854775808:=by decide
 have h2:IntKind.i64.max=9223372036854775807:=by decide
 unfold isz;rw[if_pos]; omega
theorem qly {i:Int} (h:isz i<1099511627776):-9223372036854775808<=i/\i<=9223372036854775807:=by
 unfold isz at h;split at h
 ·assumption
 omega
mutual
def tm:Val->Nat
 | .mk _ _ i s l ks=>1+isz i+s.length+br l+(ks.map fun k=>1+k.length).sum
def br:List Val->Nat
 | []=>1
 | v::l=>1+tm v+br l
end
def sS (l:List (List UInt8)):Nat:=(l.map fun k=>1+k.length).sum
theorem xi (l:List (List UInt8)):l.length<=sS l:=by
 induction l with
 | nil=>simp[sS]
 | cons x l ih=>simp only[sS,jk,jA,ja]at ih ⊢; omega
mutual
def dC:qe->Nat
 | .mk _ name val names args=>1+name.length+tm val+sS names+uF args
def uF:List qe->Nat
 | []=>1
 | x::l=>1+dC x+uF l
end
theorem xY:∀ l:List qe,l.length<uF l
 | []=>by simp[uF]
 | x::l=>by have:=xY l; simp only[uF,ja]; omega
theorem gH:∀ {l:List qe} {x:qe},x∈l->dC x+2<=uF l
 | y::l,x,h=>by
  simp only[uF];rcases jg.1 h with rfl|h
  ·have:=xY l; omega
  have:=gH h; omega
@[simp] theorem qu (l:List qe):(qe.rows l).length=l.length:=by rw[qe.rows_eq]; simp
end W
end
section
open Go Ax
namespace W
end W
end
section
open Go Ax
namespace W
end W
end
section
open Go Ax
namespace W
theorem qac {m b:Nat} (h:m<=137438953472) (a:b<=1024):decide (m * b<=140737488355328)=true:=by
 refine kdt ?_;have:m * b<=137438953472 * 1024:=Nat.mul_le_mul h a;omega
end W
end
section
open Go Ax
namespace W
theorem zd {A:Type} (f:A->Nat):∀ {l:List A} {x:A},x∈l->f x<=(l.map f).sum
 | y::l,x,h=>by
  rcases jg.1 h with rfl|h
  ·simp
  have:=zd f h; simp; omega
theorem zc {A:Type} (f:A->Nat) (a:∀ x,1<=f x):∀ l:List A,l.length<=(l.map f).sum
 | []=>by simp
 | x::l=>by have:=zc f a l; have:=a x; simp; omega
def fK (d:qt):Nat:=1+d.var_.length+sS d.labels+sS d.keys+uF d.vals
def bW (d:qy):Nat:=1+d.var_.length+d.type_.length+sS d.keys+uF d.vals
def dA (p:zx):Nat:=1+(p.nodes.map fK).sum+(p.edges.map bW).sum
@[simp] theorem zJ (l:List qt):(qt.rows l).length=l.length:=by simp[qt.rows]
@[simp] theorem uL (l:List qy):(qy.rows l).length=l.length:=by simp[qy.rows]
@[simp] theorem zL (l:List zx):(zx.rows l).length=l.length:=by simp[zx.rows]
end W
end
section
open Go Ax
namespace W
end W
end
section
open Go Ax
namespace W
def Un (l:List zx):Nat:=1+(l.map dA).sum
end W
end
section
open Go Ax
namespace W
end W
end
section
open Go Ax
namespace W
@[simp] theorem XN (l:List xM):(xM.rows l).length=l.length:=by simp[xM.rows]
@[simp] theorem XY (l:List qS):(qS.rows l).length=l.length:=by simp[qS.rows]
@[simp] theorem Uy (l:List qj):(qj.rows l).length=l.length:=by simp[qj.rows]
def ZI (i:xM):Nat:=1+i.as_.length+dC i.e
def fY (s:qS):Nat:=1+dC s.e
def fW (s:qj):Nat:=1+s.var_.length+s.key.length+s.label.length+dC s.e
def vh (c:qd):Nat:=1+Un c.paths+uF c.where_+dC c.e+c.var_.length+(c.items.map ZI).sum+(c.order.map fY).sum+uF c.skip+uF c.limit+(c.sets.map fW).sum+sS c.vars
end W
end
section
open Go Ax
namespace W
end W
end
section
open Go Ax
namespace W
end W
end
section
open Go Ax
namespace W
end W
end
section
open Go Ax
namespace W
end W
end
section
open Go Ax
namespace W
@[simp] theorem zA (l:List qd):(qd.rows l).length=l.length:=by simp[qd.rows]
def xq (l:List qd):Nat:=(l.map vh).sum
theorem sD (c:qd):1<=vh c:=by unfold vh; omega
end W
end
section
open Go Ax
namespace W
def upB (b:UInt8):UInt8:=if 97<=b.toNat/\b.toNat<=122 then UInt8.ofNat (b.toNat - 32)else b
set_option maxRecDepth 100000 in
theorem qpy:∀ m:Fin 256,97<=m.val/\m.val<=122->u8I (kwr .u8 ((m.val:Int) - 32))=some (UInt8.ofNat (m.val - 32)):=by decide
theorem qhy (b:UInt8) (h:97<=b.toNat/\b.toNat<=122):u8I (kwr .u8 ((b.toNat:Int) - 32))=some (upB b):=by
 have:=qpy ⟨b.toNat,b.toNat_lt⟩ h;unfold upB;rw[if_pos h];exact this
theorem qnt (b:UInt8):u8I (b.toNat:Int)=some b:=by
 unfold u8I;have:=b.toNat_lt;rw[if_pos (by omega)];simp
def nt (s:List UInt8):List UInt8:=s.map upB
theorem qmt (b:UInt8):(bif decide ((b.toNat:Int)≥97)then decide ((b.toNat:Int)<=122)else false)=decide (97<=b.toNat/\b.toNat<=122):=by
 by_cases h1:97<=b.toNat<;>by_cases h2:b.toNat<=122
 ·rw[kdt (by omega:(b.toNat:Int)≥97),kdt (by omega:(b.toNat:Int)<=122),kdt ⟨h1,h2⟩]; rfl
 ·rw[kdt (by omega:(b.toNat:Int)≥97),kdf (by omega:¬ (b.toNat:Int)<=122),kdf (by omega:¬ (97<=b.toNat/\b.toNat<=122))]; rfl
 ·rw[kdf (by omega:¬ (b.toNat:Int)≥97),kdf (by omega:¬ (97<=b.toNat/\b.toNat<=122))]; rfl
 rw[kdf (by omega:¬ (b.toNat:Int)≥97),kdf (by omega:¬ (97<=b.toNat/\b.toNat<=122))]; rfl
theorem Pu {n:Nat} {s:List UInt8} (h:s.length<n) (i:n<=137438953472):ZR n s=some (nt s):=by
 unfold ZR;have:=bY (B:=mu n s) (fun k=>((s.take k).map upB,(k:Int))) s.length (r:=some (nt s))
  (fun k d f=>by
   obtain⟨b,e⟩:∃ b,s[k]? =some b:=⟨s[k],jf d⟩;have g:(s.take (k+1)).map upB=(s.take k).map upB++[upB b]:=by rw[List.take_succ,e]; simp
   simp only[mu,qx d,kct,qf e,qc,qmt];rw[g];have c:decide ((qT ((s.take k).map upB++[upB b])).length * 1<=140737488355328)=true:=qac (by simp; omega) (by omega);by_cases a:97<=b.toNat/\b.toNat<=122
   ·rw[kdt a,kct]
    simp only[mq,qhy b a,qc];rw[zH c,qU (by omega)]
   rw[kdf a,kcf];have hu:upB b=b:=by unfold upB; rw[if_neg a]
   rw[hu]at c ⊢;simp only[mq,qnt,qc];rw[zH c,qU (by omega)])
  (fun f=>by simp only[mu,qm,kcf,List.take_length]; rfl) h
 simpa using this
theorem PJ {n:Nat} {s:List UInt8} (h:s.length<n) (l:n<=137438953472):Qc n s=some (nt s):=by
 unfold Qc;have:=bY (B:=mR n s) (fun k=>((k:Int),(s.take k).map upB++s.drop k)) s.length (r:=some (nt s))
  (fun k c i=>by
   obtain⟨b,e⟩:∃ b,s[k]? =some b:=⟨s[k],jf c⟩;have f:s.drop k=b::s.drop (k+1):=by rw[jn c]; rw[jf c]at e; cases e; rfl
   have a:((s.take k).map upB).length=k:=by simp; omega
   have g:((s.take k).map upB++s.drop k)[k]? =some b:=by rw[List.getElem?_append_right (by omega),a,f]; simp
   have hlen:k<((s.take k).map upB++s.drop k).length:=(jG.1 g).1;have j:(s.take (k+1)).map upB++s.drop (k+1)=(s.take k).map upB++(upB b::s.drop (k+1)):=by rw[List.take_succ,e]; simp
   simp only[mR,qx c,kct,natI_nat,qc];rw[zz hlen,g,qc,qmt,j];by_cases d:97<=b.toNat/\b.toNat<=122
   ·rw[kdt d,kct,zz hlen,qhy b d,qc,zz hlen]
    simp only[mQ];rw[qU (by omega),f];rw[List.set_append_right _ _ (by omega),a,Nat.sub_self];rfl
   rw[kdf d,kcf];have hu:upB b=b:=by unfold upB; rw[if_neg d]
   simp only[mQ];rw[qU (by omega),f,hu])
  (fun i=>by simp only[mR,qm,kcf,List.take_length,List.drop_length,List.append_nil]; rfl) h
 simpa using this
def TI (b:UInt8):Bool:=decide (97<=b.toNat/\b.toNat<=122)||decide (65<=b.toNat/\b.toNat<=90)||decide (b.toNat=95)
def ec (b:UInt8):Bool:=decide (48<=b.toNat/\b.toNat<=57)
def Uq (s:List UInt8):Bool:=match s with
 | []=>false
 | b::l=>decide (l.length<64)&&TI b&&l.all fun c=>TI c||ec c
theorem ZQ (n:Nat) (b:UInt8):ny n (b.toNat:Int)=some (TI b):=by
 unfold ny TI;rw[qmt];congr 1;by_cases a:97<=b.toNat/\b.toNat<=122
 ·simp[a]
 by_cases h1:65<=b.toNat/\b.toNat<=90
 ·rw[kdf a,kdt h1,kdt (by omega:(b.toNat:Int)≥65),kdt (by omega:(b.toNat:Int)<=90)]; rfl
 have:(bif decide ((b.toNat:Int)≥65)then decide ((b.toNat:Int)<=90)else false)=false:=by
  by_cases h2:65<=b.toNat
  ·rw[kdt (by omega:(b.toNat:Int)≥65),kdf (by omega:¬ (b.toNat:Int)<=90)]; rfl
  rw[kdf (by omega:¬ (b.toNat:Int)≥65)]; rfl
 rw[kdf a,this,kdf h1];by_cases h3:b.toNat=95
 ·simp[h3]
 have c:((b.toNat:Int)==95)=false:=kbf.2 (by omega);simp only[Bool.or_false,Bool.false_or,kcf];rw[c,kdf h3]
theorem Pr (n:Nat) (b:UInt8):ZP n (b.toNat:Int)=some (ec b):=by
 unfold ZP ec;congr 1;by_cases h1:48<=b.toNat<;>by_cases h2:b.toNat<=57
 ·rw[kdt (by omega:(b.toNat:Int)≥48),kdt (by omega:(b.toNat:Int)<=57),kdt ⟨h1,h2⟩]; rfl
 ·rw[kdt (by omega:(b.toNat:Int)≥48),kdf (by omega:¬ (b.toNat:Int)<=57),kdf (by omega:¬ (48<=b.toNat/\b.toNat<=57))]; rfl
 ·rw[kdf (by omega:¬ (b.toNat:Int)≥48),kdf (by omega:¬ (48<=b.toNat/\b.toNat<=57))]; rfl
 rw[kdf (by omega:¬ (b.toNat:Int)≥48),kdf (by omega:¬ (48<=b.toNat/\b.toNat<=57))]; rfl
theorem BF {n:Nat} {s:List UInt8} (h:s.length<n) (m:n<=137438953472):ZE n s=some (Uq s):=by
 unfold ZE;cases s with
 | nil=>rfl
 | cons b l=>
  by_cases d:l.length<64
  ·have a:(bif decide ((((b::l).length:Nat):Int)<1)then true else decide ((((b::l).length:Nat):Int)>64))=false:=by
    rw[kdf (by simp; omega),kdf (by simp; omega)]; rfl
   simp only[a,jo,zg,nq,qc,ZQ,kcf,Uq];rw[kdt d];cases g:TI b with
   | false=>rfl
   | true=>
    simp only[jp,kcf,Bool.true_and];have e:=zY (B:=pf n (b::l)) (fun k=>((k:Nat):Int)) (l:=b::l) (fun c=>if(TI c||ec c)=true then none else some false) (rest:=some true)
     (fun k x i f=>by
      have j:=qL f;simp only[pf,qx j,kct,qf f,qc,ZQ];rw[qU (by omega)];cases h1:TI x with
      | true=>simp
      | false=>
       simp only[jo,zg,qc,Pr,kct];cases ec x<;>simp)
     (fun i=>by simp only[pf,qm,kcf]) (n:=n) h
    refine Eq.trans e ?_;have key:∀ l:List UInt8,vu (R:=Bool) (fun c=>if(TI c||ec c)=true then none else some false) l=if(l.all fun c=>TI c||ec c)=true then none else some false:=by
     intro l
     induction l with
     | nil=>rfl
     | cons c l ih=>
      simp only[vu,jv,ih];by_cases a:(TI c||ec c)=true<;>simp only[a,if_true,Bool.true_and,Bool.not_eq_true]<;>simp_all
    rw[key];simp only[jv,g,Bool.true_or,Bool.true_and];cases(l.all fun c=>TI c||ec c)<;>rfl
  ·have a:(bif decide ((((b::l).length:Nat):Int)<1)then true else decide ((((b::l).length:Nat):Int)>64))=true:=by
    rw[kdf (by simp; omega),kdt (by simp; omega)]; rfl
   simp only[a,jp,fU,qc,kct,Uq];rw[kdf d];rfl
end W
end
section
open Go Ax
namespace W
theorem qlt {l:List UInt8} {i:Nat} {b:UInt8} (h:l[i]? =some b):(⟨l.toArray⟩:ByteArray).get! i=b:=by
 have a:=(jG.1 h).1;have:(⟨l.toArray⟩:ByteArray).get! i=l.toArray[i]!:=rfl;rw[this];simp[getElem!_def,h]
theorem qhd {l:List UInt8} {i:Nat} {b:UInt8} (h:l[i]? =some b) (a:b.toNat<128):qP l i=b.toNat/\xG l i=i+1:=by
 unfold qP xG Utf8.decode;simp only[Nat.add_zero,qlt h];rw[if_pos (by omega)];exact⟨rfl,rfl⟩
theorem qnm {l:List UInt8} {i:Nat} {b:UInt8} (h:l[i]? =some b) (a:¬ b.toNat<128):128<=qP l i:=by
 unfold qP Utf8.decode;simp only[Nat.add_zero,qlt h];rw[if_neg (by omega)];have he:128<=Utf8.runeError:=by decide
 split
 ·split
  ·simp only; omega
  exact he
 split
 ·split
  ·rename_i h1
   simp only[ji,kde,ge_iff_le]at h1;simp only; omega
  exact he
 split
 ·split
  ·rename_i h1
   simp only[ji,kde,ge_iff_le]at h1;simp only; omega
  exact he
 exact he
def Rj (k:Nat) (b:UInt8):Bool:=!TI b&&(k==0||!ec b)
def Hw:Nat->List UInt8->Bool
 | _,[]=>true
 | k,b::l=>!Rj k b&&Hw (k+1) l
theorem NG:∀ (l:List UInt8) (k:Nat),Hw (k+1) l=l.all fun c=>TI c||ec c
 | [],k=>rfl
 | b::l,k=>by
  simp only[Hw,jv,NG l (k+1),Rj];rw[show((k+1==0)=false)from rfl];cases TI b<;>cases ec b<;>rfl
theorem qjp (l:List UInt8):(Hw 0 l&&(!(l==[])&&decide (l.length<=64)))=Uq l:=by
 cases l with
 | nil=>rfl
 | cons b l=>
  simp only[Hw,NG,Uq,Rj,kbs,Bool.true_or,Bool.and_true,Bool.not_not];have h1:(!((b::l)==[]))=true:=rfl;have h2:decide ((b::l).length<=64)=decide (l.length<64):=by
   by_cases h:l.length<64
   ·rw[kdt h,kdt (by simp; omega)]
   rw[kdf h,kdf (by simp; omega)]
  rw[h1,h2,Bool.true_and];cases TI b<;>cases decide (l.length<64)<;>simp
theorem qhc {l:List UInt8} {k:Nat} {b:UInt8} (h:l[k]? =some b) :
  (bif !(bif(bif(bif decide (((qP l k:Nat):Int)≥97)then decide (((qP l k:Nat):Int)<=122)else false)then true else(bif decide (((qP l k:Nat):Int)≥65)then decide (((qP l k:Nat):Int)<=90)else false))then true else(((qP l k:Nat):Int)==95))then(bif(bif(((k:Nat):Int)==0)then true else decide (((qP l k:Nat):Int)<48))then true else decide (((qP l k:Nat):Int)>57))else false)=Rj k b:=by
 by_cases e:b.toNat<128
 ·rw[(qhd h e).1]
  have f:=ZQ 0 b;unfold ny at f;rw[Option.some.inj f];have hz:(((k:Nat):Int)==0)=(k==0):=by
   by_cases d:k=0
   ·subst d; rfl
   rw[kbf.2 d,kbf.2 (by omega)]
  rw[hz];unfold Rj ec;cases g:TI b with
  | true=>rfl
  | false=>
   simp only[jo,kct,Bool.true_and];cases d:(k==0)with
   | true=>rfl
   | false=>
    simp only[kcf,Bool.false_or];by_cases h1:b.toNat<48
    ·rw[kdt (by omega:(b.toNat:Int)<48),kdf (by omega:¬ (48<=b.toNat/\b.toNat<=57))]; rfl
    by_cases h2:57<b.toNat
    ·rw[kdf (by omega:¬ (b.toNat:Int)<48),kdt (by omega:(b.toNat:Int)>57),kdf (by omega:¬ (48<=b.toNat/\b.toNat<=57))]; rfl
    rw[kdf (by omega:¬ (b.toNat:Int)<48),kdf (by omega:¬ (b.toNat:Int)>57),kdt (by omega:(48<=b.toNat/\b.toNat<=57))]; rfl
 have i:=qnm h e;have a:Rj k b=true:=by
  unfold Rj TI ec;rw[kdf (by omega:¬ (97<=b.toNat/\b.toNat<=122)),kdf (by omega:¬ (65<=b.toNat/\b.toNat<=90)),kdf (by omega:¬ b.toNat=95),kdf (by omega:¬ (48<=b.toNat/\b.toNat<=57))];cases(k==0)<;>rfl
 rw[a];generalize qP l k=c at *;rw[kdf (by omega:¬ (c:Int)<=122),kdf (by omega:¬ (c:Int)<=90),kbf.2 (by omega:¬ (c:Int)=95),kdt (by omega:(c:Int)>57)];cases decide ((c:Int)≥97)<;>cases decide ((c:Int)≥65)<;>cases((k:Int)==0)<;>cases decide ((c:Int)<48)<;>rfl
theorem Vf {n:Nat} {l:List UInt8} (h:l.length<n):nP n l=some (Uq l):=by
 unfold nP;have main:∀ (suf:List UInt8) (k m:Nat),(∀ j,suf[j]? =l[k+j]?)->k+suf.length=l.length->suf.length<m->qo (mS n l) m k=some (Hw k suf&&(!(l==[])&&decide (l.length<=64))):=by
  intro suf
  induction suf with
  | nil=>
   intro k m c d hm;obtain⟨m,rfl⟩:=jj (by omega:m≠0);have:k=l.length:=by simpa using d
   subst this;rw[qO];simp only[mS];rw[kdf (jR _),kcf];have:decide (((l.length:Nat):Int)<=64)=decide (l.length<=64):=by
    by_cases h:l.length<=64
    ·rw[kdt h,kdt (by omega)]
    rw[kdf h,kdf (by omega)]
   rw[this];simp only[Hw,Bool.true_and];cases(l==[])<;>rfl
  | cons b suf ih=>
   intro k m c d hm;obtain⟨m,rfl⟩:=jj (by omega:m≠0);have e:l[k]? =some b:=by have:=c 0; simpa using this.symm
   have f:=qL e;rw[qO];simp only[mS];rw[kdt f,kct,qhc e];simp only[Hw];cases g:Rj k b with
   | true=>rfl
   | false=>
    have a:b.toNat<128:=Decidable.byContradiction fun i=>by
     have:Rj k b=true:=by
      unfold Rj TI ec;rw[kdf (by omega:¬ (97<=b.toNat/\b.toNat<=122)),kdf (by omega:¬ (65<=b.toNat/\b.toNat<=90)),kdf (by omega:¬ b.toNat=95),kdf (by omega:¬ (48<=b.toNat/\b.toNat<=57))];cases(k==0)<;>rfl
     rw[this]at g;cases g
    rw[kcf,kct,(qhd e a).2,ih (k+1) m (fun j=>by have:=c (j+1); rw[show k+1+j=k+(j+1) by omega]; simpa using this) (by simp at d; omega) (by simp at hm; omega)]
    rfl
 have:=main l 0 n (fun j=>by simp) (by simp) h
 rw[qjp]at this;exact this
def Wd:List (List UInt8)->List UInt8
 | []=>[32]
 | x::ws=>32::(x++Wd ws)
theorem qee:∀ ws,∃ t,Wd ws=32::t
 | []=>⟨[],rfl⟩
 | x::ws=>⟨_,rfl⟩
theorem ql9:∀ (w x r t:List UInt8),32 ∉ w->32 ∉ x->(w++32::r) <+: (x++32::t)->w=x
 | [],[],_,_,_,_,_=>rfl
 | [],b::x,r,t,_,hx,h=>by
  simp only[ju,List.cons_append,List.cons_prefix_cons]at h;exact absurd (h.1 ▸ List.mem_cons_self) hx
 | a::w,[],r,t,hw,_,h=>by
  simp only[ju,List.cons_append,List.cons_prefix_cons]at h;exact absurd (h.1 ▸ List.mem_cons_self) hw
 | a::w,b::x,r,t,hw,hx,h=>by
  simp only[List.cons_append,List.cons_prefix_cons]at h;rw[h.1,ql9 w x r t (fun hm=>hw (List.mem_cons_of_mem _ hm)) (fun hm=>hx (List.mem_cons_of_mem _ hm)) h.2]
theorem qgr:∀ (ws:List (List UInt8)) (w:List UInt8),(∀ x∈ws,32 ∉ x)->32 ∉ w->∀ j,(32::(w++[32])) <+: (Wd ws).drop j->w∈ws
 | [],w,_,_,j,h=>by
  have:=h.length_le;simp[Wd]at this;omega
 | x::ws,w,hws,hw,j,h=>by
  cases j with
  | zero=>
   simp only[Wd,List.drop_zero,List.cons_prefix_cons,true_and]at h;obtain⟨t,b⟩:=qee ws;rw[b]at h;rw[ql9 w x [] t hw (hws x (by simp)) h];simp
  | succ j=>
   simp only[Wd,List.drop_succ_cons]at h;by_cases a:j<x.length
   ·rw[List.drop_append_of_le_length (by omega),jn a,List.cons_append,List.cons_prefix_cons]at h
    exact absurd (by rw[h.1]; exact List.getElem_mem a) (hws x (by simp))
   rw[List.drop_append,List.drop_eq_nil_of_le (by omega),ju]at h;exact List.mem_cons_of_mem _ (qgr ws w (fun y c=>hws y (List.mem_cons_of_mem _ c)) hw _ h)
theorem qgj:∀ (ws:List (List UInt8)) (w:List UInt8),w∈ws->∃ j,j<=(Wd ws).length/\(32::(w++[32])) <+: (Wd ws).drop j
 | x::ws,w,h=>by
  rcases jg.1 h with rfl|h
  ·obtain⟨t,a⟩:=qee ws
   refine⟨0,jS _,?_⟩;simp only[Wd,List.drop_zero,a];exact⟨t,by simp⟩
  obtain⟨j,b,hp⟩:=qgj ws w h;refine⟨x.length+j+1,by simp[Wd]; omega,?_⟩;simp only[Wd,List.drop_succ_cons];rw[List.drop_append,List.drop_eq_nil_of_le (by omega),ju,Nat.add_sub_cancel_left];exact hp
theorem ll {ws:List (List UInt8)} {w:List UInt8} (a:∀ x∈ws,32 ∉ x) (hw:32 ∉ w):Lib.contains (Wd ws) (32::(w++[32]))=ws.contains w:=by
 unfold Lib.contains;rcases Lib.index_spec (Wd ws) (32::(w++[32]))with ⟨h1,h2⟩|⟨i,h1,_,h2,_⟩
 ·rw[h1]
  have:¬ w∈ws:=fun hm=>by
   obtain⟨j,b,hp⟩:=qgj ws w hm;have:=h2 j b;unfold Lib.occAt at this;rw[List.isPrefixOf_iff_prefix.2 hp]at this;cases this
  have h3:ws.contains w=false:=by simpa using this
  rw[h3];rfl
 rw[h1];unfold Lib.occAt at h2;have:=qgr ws w a hw i (List.isPrefixOf_iff_prefix.1 h2);have h3:ws.contains w=true:=by simpa using this
 rw[h3];exact kdt (by omega)
end W
end
section
open Go Ax
set_option maxRecDepth 4000
namespace W
def Hb:List (List UInt8):=[([77,65,84,67,72]:List UInt8),([87,72,69,82,69]:List UInt8),([85,78,87,73,78,68]:List UInt8),([65,83]:List UInt8),([87,73,84,72]:List UInt8),([67,82,69,65,84,69]:List UInt8),([77,69,82,71,69]:List UInt8),([83,69,84]:List UInt8),([82,69,77,79,86,69]:List UInt8),([68,69,76,69,84,69]:List UInt8),([68,69,84,65,67,72]:List UInt8),([82,69,84,85,82,78]:List UInt8),([68,73,83,84,73,78,67,84]:List UInt8),([79,82,68,69,82]:List UInt8),([66,89]:List UInt8),([65,83,67]:List UInt8),([68,69,83,67]:List UInt8),([83,75,73,80]:List UInt8),([76,73,77,73,84]:List UInt8),([65,78,68]:List UInt8),([79,82]:List UInt8),([88,79,82]:List UInt8),([78,79,84]:List UInt8),([73,78]:List UInt8),([73,83]:List UInt8),([78,85,76,76]:List UInt8),([84,82,85,69]:List UInt8),([70,65,76,83,69]:List UInt8)]
theorem qks:∀ x∈Hb,(32:UInt8) ∉ x:=by decide
theorem qkt:([32,77,65,84,67,72,32,87,72,69,82,69,32,85,78,87,73,78,68,32,65,83,32,87,73,84,72,32,67,82,69,65,84,69,32,77,69,82,71,69,32,83,69,84,32,82,69,77,79,86,69,32,68,69,76,69,84,69,32,68,69,84,65,67,72,32,82,69,84,85,82,78,32,68,73,83,84,73,78,67,84,32,79,82,68,69,82,32,66,89,32,65,83,67,32,68,69,83,67,32,83,75,73,80,32,76,73,77,73,84,32,65,78,68,32,79,82,32,88,79,82,32,78,79,84,32,73,78,32,73,83,32,78,85,76,76,32,84,82,85,69,32,70,65,76,83,69,32]:List UInt8)=Wd Hb:=by kernel_rfl
theorem qpx {b:UInt8} (h:(TI b||ec b)=true):upB b≠32:=by
 intro a;unfold upB at a;split at a
 ·rename_i c
  have:=congrArg UInt8.toNat a;rw[UInt8.toNat_ofNat']at this;simp at this;omega
 subst a
 revert h
 decide
theorem qjo {s:List UInt8} (h:Uq s=true):32 ∉ nt s:=by
 intro hm;unfold nt at hm;obtain⟨b,a,he⟩:=List.mem_map.1 hm;refine qpx ?_ he;cases s with
 | nil=>cases a
 | cons c s=>
  simp only[Uq,ji,List.all_eq_true]at h;rcases jg.1 a with rfl|a
  ·simp[h]
  exact(by simpa using h.2 b a)
theorem qhz (s:List UInt8):(nt s).length=s.length:=by simp[nt]
def xl (s:List UInt8):Bool:=Uq s&&!(Hb.contains (nt s))
theorem Sp {n:Nat} {s:List UInt8} (h:s.length<n) (h2:28<n) (d:n<=137438953472) :
  Vm n s=some (if Hb.contains (nt s)then(nt s,true)else([],false)):=by
 unfold Vm;rw[show Uc n=some Hb from rfl,qc,Pu h d,qc];have g:Hb.length=28:=rfl;refine Eq.trans (zY (B:=ph n Hb (nt s)) (fun k=>(k:Int)) (l:=Hb) (fun w=>if w=nt s then some (nt s,true)else none) (rest:=some ([],false)) ?_ ?_ (by omega)) ?_
 ·intro k x e c
  have f:=qL c;unfold ph;rw[qn,qx f,kct,qf c,qc,qU (by omega)];by_cases hw:x=nt s
  ·subst hw
   simp
  rw[if_neg hw,kbf.2 hw];rfl
 ·intro e
  unfold ph;rw[qn,qm];rfl
 have:∀ l:List (List UInt8),vu (fun w=>if w=nt s then some (nt s,true)else none) l=if l.contains (nt s)then some (nt s,true)else none:=by
  intro l
  induction l with
  | nil=>rfl
  | cons a l ih=>
   simp only[vu,ih];by_cases b:a=nt s
   ·subst b
    simp
   rw[if_neg b];have:(a::l).contains (nt s)=l.contains (nt s):=by
    rw[List.contains_cons,kbf.2 (Ne.symm b),Bool.false_or]
   rw[this]
 rw[this];cases Hb.contains (nt s)<;>rfl
theorem fl {n:Nat} {s:List UInt8} (h:s.length<n) (h2:28<n) (a:n<=137438953472):uU n s=some (xl s):=by
 unfold uU;rw[Sp h h2 a,qc];unfold xl;cases Hb.contains (nt s)<;>simp[BF h a]<;>cases Uq s<;>rfl
theorem Gt (n:Nat) {a:List UInt8} (b:List UInt8) (h:a.length<4294967281):np n a b=some (Lib.contains a b):=zz h
theorem qge {P Q:Prop} [Decidable P] [Decidable Q] (hp:P) (a:Q) {b:Bool} {o:Option Bool} {w:Bool} (c:b=true->o=some w) (x:List UInt8) :
  chk (bif !(!b)then decide P else true) (chk (bif !(!b)then decide Q else true) (bnd (qD (!(!b)) o) fun d=>bif(bif !b then true else !d)then some (([]:List UInt8),false)else some (x,true)))=some (if b&&w then(x,true)else([],false)):=by
 cases b with
 | false=>simp
 | true=>simp[hp,a,c rfl]; cases w<;>rfl
theorem lO {n:Nat} {s c:List UInt8} (h:s.length<n) (a:n<=137438953472) (i:c.length=148) (b:Uq s=true->Lib.contains c (32::(nt s++[32]))=Hb.contains (nt s)) :
  (bnd (Qc n s) fun d=>
 bnd (nP n s) fun e=>
 chk (bif(!(!e))then decide (((([32]:List UInt8).length+d.length:Nat):Int)<=xr)else true) (
 chk (bif(!(!e))then decide ((((([32]:List UInt8)++d).length+([32]:List UInt8).length:Nat):Int)<=xr)else true) (
 bnd (qD (!(!e)) (np n c ((([32]:List UInt8)++d)++([32]:List UInt8)))) fun f=>
 bif(bif(!e)then true else(!f))then(
 some (([]:List UInt8),false))
 else(
 some (d,true)))))=some (if xl s||!(Uq s)then([],false)else(nt s,true)):=by
 rw[PJ h a,qc,Vf h,qc];have hu:=qhz s;have j:(s.length:Int)+2<=xr:=by unfold xr; omega
 have h1:((([32]:List UInt8).length+(nt s).length:Nat):Int)<=xr:=by
  rw[show([32]:List UInt8).length=1 from rfl,hu]; generalize xr=m at *; omega
 have h2:(((([32]:List UInt8)++(nt s)).length+([32]:List UInt8).length:Nat):Int)<=xr:=by
  rw[jb,show([32]:List UInt8).length=1 from rfl,hu]; generalize xr=m at *; omega
 refine(qge h1 h2 (w:=Hb.contains (nt s)) (fun g=>?_) (nt s)).trans ?_
 ·rw[Gt n _ (by omega),show([32]++nt s++[32]:List UInt8)=32::(nt s++[32]) by simp,b g]
 unfold xl;cases Uq s<;>cases Hb.contains (nt s)<;>rfl
set_option maxRecDepth 100000 in
theorem qji:([32,77,65,84,67,72,32,87,72,69,82,69,32,85,78,87,73,78,68,32,65,83,32,87,73,84,72,32,67,82,69,65,84,69,32,77,69,82,71,69,32,83,69,84,32,82,69,77,79,86,69,32,68,69,76,69,84,69,32,68,69,84,65,67,72,32,82,69,84,85,82,78,32,68,73,83,84,73,78,67,84,32,79,82,68,69,82,32,66,89,32,65,83,67,32,68,69,83,67,32,83,75,73,80,32,76,73,77,73,84,32,65,78,68,32,79,82,32,88,79,82,32,78,79,84,32,73,78,32,73,83,32,78,85,76,76,32,84,82,85,69,32,70,65,76,83,69,32]:List UInt8).length=148:=by kernel_rfl
set_option maxRecDepth 100000 in
theorem SE {n:Nat} {s:List UInt8} (h:s.length<n) (a:n<=137438953472) :
  Fe n s=some (if xl s||!(Uq s)then([],false)else(nt s,true)):=
 lO h a qji (fun b=>(congrArg (fun c=>Lib.contains c (32::(nt s++[32]))) qkt).trans (ll qks (qjo b)))
theorem gY {n:Nat} {s:List UInt8} (h:s.length<n) (b:n<=137438953472):vP n s=some (xl s):=by
 unfold vP;rw[SE h b,qc];cases a:Uq s<;>cases hp:xl s<;>simp[Vf h,a]<;>simp[xl,a]at hp
end W
end
section
open Go Ax
namespace W
theorem qh2 {k:Nat} (h:k+1<=1152921504606846976):kwr .i64 (((k+1:Nat):Int) - 1)=((k:Nat):Int):=by
 rw[UW (by omega) (by omega)]; omega
theorem qnb (x:List UInt8):(decide (((x.length:Nat):Int)<1))=(x==[]):=by
 cases x with
 | nil=>rfl
 | cons a x=>simp; omega
theorem qkp (n:Nat) (ks:List (List UInt8)) (c d:Int) (l:List Val) (g:Val->Int->Int->Option (Int×Bool)) (o:n<=137438953472):∀ m k:Nat,k<=ks.length->ks.length - k<m->ks.length<n ->
  ∃ b,qo (fQ n ks) m (k:Int)=some b/\qo (uG n ks c l g d) m (k:Int)=bif b then bx n l g d c ()else some (kwr .i64 (c+1),false):=by
 intro m
 induction m with
 | zero=>intro k _ h; omega
 | succ m ih=>
  intro k p hm e;rw[qO,qO];by_cases he:k=ks.length
  ·subst he
   refine⟨true,?_,?_⟩
   ·simp only[fQ,qn,qm,kcf]
   simp only[uG,qn,qm,kcf,kct]
  have a:k<ks.length:=by omega
  obtain⟨x,f⟩:∃ x,ks[k]? =some x:=⟨_,jf a⟩;obtain⟨b,h1,h2⟩:=ih (k+1) (by omega) (by omega) e;rw[← qU (by omega)]at h1 h2;simp only[fQ,uG,qn,qx a,kct,qf f,qc,qnb];cases q:x==[]with
  | true=>exact⟨false,by simp,by simp⟩
  | false=>
   simp only[jo,zg,qc,kcf];cases r:decide (((x.length:Nat):Int)>64)with
   | true=>exact⟨false,by simp,by simp⟩
   | false=>
    cases k with
    | zero=>
     refine⟨b,?_,?_⟩
     ·simpa using h1
     simpa using h2
    | succ k=>
     have i:decide ((((k+1:Nat):Int))>0)=true:=kdt (by omega);obtain⟨y,j⟩:∃ y,ks[k]? =some y:=⟨_,jf (by omega)⟩;simp only[i,jo,Bool.and_true,zg,qh2 (show k+1<=1152921504606846976 by omega),qf j,qc,kct,kcf,To];cases Op.bytesLess y x with
     | false=>exact⟨false,by simp,by simp⟩
     | true=>exact⟨b,by simpa using h1,by simpa using h2⟩
theorem vD:∀ l:List Val,l.length<br l
 | []=>by simp[br]
 | x::l=>by have:=vD l; simp only[br,ja]; omega
theorem vM:∀ {l:List Val} {x:Val},x∈l->tm x+2<=br l
 | y::l,x,h=>by
  simp only[br];rcases jg.1 h with rfl|h
  ·have:=vD l; omega
  have:=vM h; omega
theorem qkq (n:Nat) (l:List Val) (g e:Val->Int->Int->Option (Int×Bool)) (d:Int) (q:n<=137438953472)
  (j:∀ v∈l,∀ d c,∃ r,g v d c=some r/\e v d c=some r):∀ m k:Nat,∀ c:Int,k<=l.length->l.length - k<m->l.length<n ->
  ∃ r,qo (gG n l g d) m (c,true,(k:Int))=some r/\qo (fk n l e d) m (c,(k:Int))=some r:=by
 intro m
 induction m with
 | zero=>intro k _ _ h; omega
 | succ m ih=>
  intro k c s hm o;rw[qO,qO];by_cases he:k=l.length
  ·subst he
   refine⟨(c,true),?_,?_⟩
   ·simp only[gG,ze,qm,kcf]
   simp only[fk,ze,qm,kcf]
  have a:k<l.length:=by omega
  obtain⟨x,f⟩:∃ x,l[k]? =some x:=⟨_,jf a⟩;obtain⟨⟨i,b⟩,h1,h2⟩:=j x (qw f) (kwr .i64 (d - 1)) c;obtain⟨x1,x2,t,u,w,y⟩:=x;simp only[gG,fk,ze,qx a,kct,qf f,qc,h1,h2];rw[qU (by omega)];cases b with
  | true=>
   obtain⟨r,h3,h4⟩:=ih (k+1) i (by omega) (by omega) o;exact⟨r,h3,by simpa using h4⟩
  | false=>
   refine⟨(i,false),?_,by simp⟩;obtain⟨m,rfl⟩:∃ p,m=p+1:=⟨m - 1,by omega⟩;rw[qO];simp only[gG,Bool.cond_self,kcf]
theorem qmk (n:Nat) {a:Int} (b:a<=7) (f:Bool) (i:Int) (j:List UInt8) (e:List Val) (o:List (List UInt8)):QD n ⟨a,f,i,j,e,o⟩=ta n ⟨a,f,i,j,e,o⟩:=by
 simp only[ta,QD];have e6:decide (a≥6)=(a==6||a==7):=by
  rw[Bool.eq_iff_iff]; simp; omega
 have e5:decide ((((Val.rows e).length:Nat):Int)>0)=!((((Val.rows e).length:Nat):Int)==0):=by
  generalize (Val.rows e).length=m;cases m with
  | zero=>rfl
  | succ m=>rw[kdt (by omega),kbf.2 (by omega)]; rfl
 have a1:(bif(a != 1)then f else false)=!(bif(a==1)then true else !f):=by
  rw[bne]; cases(a==1)<;>cases f<;>rfl
 have a2:(bif(bif(bif(a != 2)then(a != 6)else false)then(a != 7)else false)then(i != 0)else false)=!(bif(bif(a==2)then true else decide (a≥6))then true else(i==0)):=by
  rw[e6,bne,bne,bne,bne]; cases(a==2)<;>cases(a==6)<;>cases(a==7)<;>cases(i==0)<;>rfl
 have a3:(bif(a != 3)then(!(j==([]:List UInt8)))else false)=!(bif(a==3)then true else(j==([]:List UInt8))):=by
  rw[bne]; cases(a==3)<;>cases(j==([]:List UInt8))<;>rfl
 have a4:(bif(bif(a != 4)then(a != 5)else false)then decide ((((Val.rows e).length:Nat):Int)>0)else false)=!(bif(bif(a==4)then true else(a==5))then true else((((Val.rows e).length:Nat):Int)==0)):=by
  rw[e5,bne,bne]; cases(a==4)<;>cases(a==5)<;>cases((((Val.rows e).length:Nat):Int)==0)<;>rfl
 rw[a1,a2,a3,a4];generalize (bif(a==1)then true else !f)=A;generalize (bif(bif(a==2)then true else decide (a≥6))then true else(i==0))=B;generalize (bif(a==3)then true else(j==([]:List UInt8)))=C;generalize (bif(bif(a==4)then true else(a==5))then true else((((Val.rows e).length:Nat):Int)==0))=D;cases A<;>cases B<;>cases C<;>cases D<;>rfl
theorem sR:∀ n:Nat,n<=137438953472->∀ v d c,tm v<n->∃ r,cW n v d c=some r/\uO n v d c=some r:=by
 intro n
 induction n with
 | zero=>intro _ _ _ _ h; omega
 | succ n ih=>
  intro F v d c y;obtain⟨a,j,i,o,e,f⟩:=v;have z:br e<n/\f.length<n:=by
   have:=xi f;simp only[sS]at this;simp only[tm]at y;have H:=vD e;omega
  have I:=vD e;have A:∀ v∈e,∀ d c,∃ r,cW n v d c=some r/\uO n v d c=some r:=fun v hm d c=>ih (by omega) v d c (by have:=vM hm; omega)
  have b:∀ c,∃ r,qo (gG n e (cW n) d) n (c,true,(0:Int))=some r/\qo (fk n e (uO n) d) n (c,(0:Int))=some r:=fun c=>
   qkq n e _ _ d (by omega) A n 0 c (by omega) (by omega) (by omega)
  obtain⟨x,p,q⟩:=qkp n f c d e (uO n) (by omega) n 0 (by omega) (by omega) z.2;obtain⟨r,g,k⟩:=b (kwr .i64 (c+1));simp only[cW,uO,Zr,ZD,XA];generalize hC:kwr .i64 (c+1)=C at *;have s:∃ G:Bool,(bif(bif(bif(decide (d<1))then true else(decide (C>4096)))then true else(decide (a<0)))then true else(decide (a>7)))=G /\
    (bif(bif(bif(decide (C>4096))then true else(decide (d<1)))then true else(decide (a<0)))then true else(decide (a>7)))=G/\(G=false->a<=7):=by
   refine⟨_,rfl,?_,?_⟩
   ·cases decide (C>4096)<;>cases decide (d<1)<;>rfl
   cases decide (C>4096)<;>cases decide (d<1)<;>cases decide (a<0)<;>simp
  obtain⟨G,t,u,w⟩:=s;rw[t,u];cases G with
  | true=>exact⟨(C,false),by simp,by simp⟩
  | false=>
   have D:=w rfl;rw[qmk n D];obtain⟨B,E⟩:∃ B,ta n ⟨a,j,i,o,e,f⟩=some B:=⟨_,rfl⟩;rw[E];have e6:decide (a≥6)=(bif(a==6)then true else(a==7)):=by
    rw[Bool.eq_iff_iff]; simp; omega
   rw[e6];cases B with
   | false=>exact⟨(C,false),by simp,by simp⟩
   | true=>
    simp only[jo,jp,zg,qc,kcf,kct];cases J:(bif(bif(a==6)then true else(a==7))then decide (i<1)else false)with
    | true=>exact⟨(C,false),by simp,by simp⟩
    | false=>
     cases K:(a==5)with
     | false=>
      refine⟨r,?_,?_⟩
      ·simpa using g
      simpa[bx,hC]using k
     | true=>
      cases L:((((qi f).length:Nat):Int) != (((Val.rows e).length:Nat):Int))with
      | true=>exact⟨(C,false),by simp,by simp⟩
      | false=>
       simp only[jo,Bool.and_true,zg,kcf,kct];have l:qo (fQ n f) n (0:Int)=some x:=p;have m:qo (uG n f c e (uO n) d) n (0:Int)=_:=q;rw[l,m,qc];cases x with
       | true=>
        refine⟨r,?_,?_⟩
        ·simpa using g
        simpa[bx,hC]using k
       | false=>exact⟨(C,false),by simp,by simp⟩
theorem Tp {n:Nat} (a:n<=137438953472) {v:Val} (d:tm v<n):∃ b:Bool,tD n v=some (bif b then 0 else 20)/\nv n v=some b:=by
 obtain⟨x1,x2,e,f,g,h⟩:=v;obtain⟨⟨c,b⟩,h1,h2⟩:=sR n a _ 32 0 d;refine⟨b,?_,?_⟩
 ·simp only[tD,h1,qc]
  cases b<;>rfl
 ·simp only[nv,h2,qc]
end W
end
section
open Go Ax
namespace W
theorem Cz {A:Type} {B:(Int->Option Bool)->Int->Option Bool} {l l':List A} (hlen:l.length=l'.length)
  (step:∀ (k:Nat) x y c,l[k]? =some x->l'[k]? =some y->∃ b,(b=true↔x=y)/\B c (k:Int)=bif b then c ((k+1:Nat):Int)else some false)
  (a:∀ c,B c (l.length:Int)=some true) {n:Nat} (f:l.length<n):∃ b,qo B n 0=some b/\(b=true↔l=l'):=by
 have main:∀ m k:Nat,k<=l.length->l.length - k<m->∃ b,qo B m (k:Int)=some b/\(b=true↔l.drop k=l'.drop k):=by
  intro m
  induction m with
  | zero=>intro k _ h; omega
  | succ m ih=>
   intro k g hm;rw[qO];by_cases he:k=l.length
   ·subst he
    exact⟨true,a _,by rw[List.drop_length,hlen,List.drop_length]; simp⟩
   have h1:k<l.length:=by omega
   have h2:k<l'.length:=by omega
   obtain⟨b,d,e⟩:=step k _ _ (qo B m) (jf h1) (jf h2);rw[e,jn h1,jn h2,List.cons.injEq,← d];cases b with
   | false=>exact⟨false,rfl,by simp⟩
   | true=>
    obtain⟨b,h3,h4⟩:=ih (k+1) (by omega) (by omega);exact⟨b,h3,by simpa using h4⟩
 obtain⟨b,h1,h2⟩:=main n 0 (by omega) (by omega);exact⟨b,h1,by simpa using h2⟩
theorem Qk {a b:Nat}:((((a:Nat):Int) != ((b:Nat):Int))=true)↔a≠b:=by simp[Int.natCast_inj]
theorem Qe {n:Nat} {x y:List (List UInt8)} (h:x.length<n) (j:n<=137438953472):∃ b,zK n x y=some b/\(b=true↔x=y):=by
 unfold zK;by_cases c:x.length=y.length
 ·have:((((qi x).length:Nat):Int) != (((qi y).length:Nat):Int))=false:=by simp[c]
  rw[this,kcf];refine Cz c (fun k a b f d g=>⟨a==b,beq_iff_eq,?_⟩) (fun f=>by simp only[xp,qn,qm,kcf]) h
  have i:=qL d;simp only[xp,qn,qx i,kct,qf d,qf g,qc];rw[qU (by omega)];cases a==b<;>rfl
 ·have:((((qi x).length:Nat):Int) != (((qi y).length:Nat):Int))=true:=by rw[qn,qn]; exact Qk.2 c
  rw[this];exact⟨false,rfl,by simp; intro e; exact c (congrArg _ e)⟩
theorem xt {n:Nat} {x y:List (List UInt8)} (h:x.length<n) (j:n<=137438953472):∃ b,qY n x y=some b/\(b=true↔x=y):=by
 unfold qY;by_cases c:x.length=y.length
 ·have:((((qi x).length:Nat):Int) != (((qi y).length:Nat):Int))=false:=by simp[c]
  rw[this,kcf];refine Cz c (fun k a b f d g=>⟨a==b,beq_iff_eq,?_⟩) (fun f=>by simp only[cy,qn,qm,kcf]) h
  have i:=qL d;simp only[cy,qn,qx i,kct,qf d,qf g,qc];rw[qU (by omega)]
  first|(cases a==b<;>rfl)|(cases h:a==b<;>simp[h,bne])
 ·have:((((qi x).length:Nat):Int) != (((qi y).length:Nat):Int))=true:=by rw[qn,qn]; exact Qk.2 c
  rw[this];exact⟨false,rfl,by simp; intro e; exact c (congrArg _ e)⟩
theorem aB {x1 d:Int} {x2 e:Bool} {f g:Int} {h c:List UInt8} {m i:List (List UInt8)} {n j:List Val} {N L:Option Bool} {a b:Bool} (o:N=some a) (p:a=true↔m=i) (q:L=some b) (s:b=true↔n=j) :
  ∃ r,(bnd (qD (bif(bif(bif(x1==d)then(x2==e)else false)then(f==g)else false)then(h==c)else false) N) fun k=>
   bnd (qD (bif(bif(bif(bif(x1==d)then(x2==e)else false)then(f==g)else false)then(h==c)else false)then k else false) L) fun l=>
   some (bif(bif(bif(bif(bif(x1==d)then(x2==e)else false)then(f==g)else false)then(h==c)else false)then k else false)then l else false))=some r /\
  (r=true↔Val.mk x1 x2 f h n m=Val.mk d e g c j i):=by
 subst o q;have e1:(x1==d)=true↔x1=d:=beq_iff_eq;have e2:(x2==e)=true↔x2=e:=beq_iff_eq;have e3:(f==g)=true↔f=g:=beq_iff_eq;have e4:(h==c)=true↔h=c:=beq_iff_eq;rw[Val.mk.injEq,← e1,← e2,← e3,← e4,← s,← p];cases(x1==d)<;>cases(x2==e)<;>cases(f==g)<;>cases(h==c)<;>cases a<;>cases b<;>exact⟨_,rfl,by simp⟩
theorem DC:∀ n:Nat,n<=137438953472->(∀ v w,tm v<n->∃ b,dF n v w=some b/\(b=true↔v=w))/\(∀ l l',br l<n->∃ b,ug n l l'=some b/\(b=true↔l=l')):=by
 intro n
 induction n with
 | zero=>intro _; exact⟨fun _ _ h=>by omega,fun _ _ h=>by omega⟩
 | succ n ih=>
  intro L;obtain⟨z,A⟩:=ih (by omega);refine⟨fun v w H=>?_,fun l l' M=>?_⟩
  ·obtain⟨i,m,o,p,c,d⟩:=v
   obtain⟨q,s,t,j,f,g⟩:=w;have x:br c<n/\d.length<n:=by
    have:=xi d;simp only[sS]at this;simp only[tm]at H;have N:=vD c;omega
   obtain⟨a,B,C⟩:=xt (y:=g) x.2 (by omega);obtain⟨b,D,E⟩:=A c f x.1;simp only[dF,VU];exact aB B C D E
  have hlen:=vD l;simp only[ug,tn];by_cases u:l.length=l'.length
  ·have:((((Val.rows l).length:Nat):Int) != (((Val.rows l').length:Nat):Int))=false:=by simp[u]
   rw[this,kcf];refine Cz u (fun k a b I F x=>?_) (fun I=>by simp only[dG,ze,qm,kcf]) (by omega)
   have J:=qL F;obtain⟨r,K,G⟩:=z a b (by have:=vM (qw F); omega);refine⟨r,G,?_⟩;obtain⟨i,m,o,p,c,d⟩:=a;obtain⟨q,s,t,j,f,g⟩:=b;simp only[dG,ze,qx J,kct,qf F,qf x,qc,K];rw[qU (by omega)];cases r<;>rfl
  ·have:((((Val.rows l).length:Nat):Int) != (((Val.rows l').length:Nat):Int))=true:=by rw[ze,ze]; exact Qk.2 u
   rw[this];exact⟨false,rfl,by simp; intro e; exact u (congrArg _ e)⟩
theorem Fy:∀ n:Nat,n<=137438953472->(∀ v w,tm v<n->∃ b,fw n v w=some b/\(b=true↔v=w))/\(∀ l l',br l<n->∃ b,qh n l l'=some b/\(b=true↔l=l')):=by
 intro n
 induction n with
 | zero=>intro _; exact⟨fun _ _ h=>by omega,fun _ _ h=>by omega⟩
 | succ n ih=>
  intro L;obtain⟨z,A⟩:=ih (by omega);refine⟨fun v w H=>?_,fun l l' M=>?_⟩
  ·obtain⟨i,m,o,p,c,d⟩:=v
   obtain⟨q,s,t,j,f,g⟩:=w;have x:br c<n/\d.length<n:=by
    have:=xi d;simp only[sS]at this;simp only[tm]at H;have N:=vD c;omega
   obtain⟨a,B,C⟩:=Qe (y:=g) x.2 (by omega);obtain⟨b,D,E⟩:=A c f x.1;simp only[fw,Zq];exact aB B C D E
  have hlen:=vD l;simp only[qh,qM];by_cases u:l.length=l'.length
  ·have:((((Val.rows l).length:Nat):Int) != (((Val.rows l').length:Nat):Int))=false:=by simp[u]
   rw[this,kcf];refine Cz u (fun k a b I F x=>?_) (fun I=>by simp only[qz,ze,qm,kcf]) (by omega)
   have J:=qL F;obtain⟨r,K,G⟩:=z a b (by have:=vM (qw F); omega);refine⟨r,G,?_⟩;obtain⟨i,m,o,p,c,d⟩:=a;obtain⟨q,s,t,j,f,g⟩:=b;simp only[qz,ze,qx J,kct,qf F,qf x,qc,K];rw[qU (by omega)];cases r<;>rfl
  ·have:((((Val.rows l).length:Nat):Int) != (((Val.rows l').length:Nat):Int))=true:=by rw[ze,ze]; exact Qk.2 u
   rw[this];exact⟨false,rfl,by simp; intro e; exact u (congrArg _ e)⟩
end W
end
section
open Go Ax
namespace W
def dgB (m:Nat):UInt8:=UInt8.ofNat (48+m)
def qcz (m:Nat):List UInt8:=if h:m<10 then[dgB m]else qcz (m / 10)++[dgB (m % 10)]
theorem GJ {m:Nat} (h:m<10):qcz m=[dgB m]:=by rw[qcz,dif_pos h]
theorem Tq {m:Nat} (h:¬ m<10):qcz m=qcz (m / 10)++[dgB (m % 10)]:=by rw[qcz,dif_neg h]
theorem XK:∀ (d m:Nat),m<10 ^ (d+1)->(qcz m).length<=d+1/\1<=(qcz m).length
 | 0,m,h=>by rw[GJ (by simpa using h)]; simp
 | d+1,m,h=>by
  by_cases hm:m<10
  ·rw[GJ hm]; simp
  rw[Tq hm,jb];have:=XK d (m / 10) (by rw[Nat.div_lt_iff_lt_mul (by decide)]; rw[Nat.pow_succ]at h; exact h);simp only[ja,jc];omega
def qbr (i:Int):List UInt8:=if i<0 then 45::qcz (-i).toNat else qcz i.toNat
theorem qe0 {m:Nat} (h:m<10):(dgB m).toNat=48+m:=by
 unfold dgB;rw[UInt8.toNat_ofNat'];omega
theorem qmd {m:Nat} (h:m<10):u8I ((48+m:Nat):Int)=some (dgB m):=by
 rw[← qe0 h]; exact TZ _
theorem p19:(10:Nat) ^ 19=10000000000000000000:=by decide
theorem qbs {i:Int} (a:-9223372036854775808<=i) (h1:i<=9223372036854775807):(qbr i).length<=20:=by
 unfold qbr;split
 ·have:=(XK 18 (-i).toNat (by rw[p19]; omega)).1
  simp only[ja]; omega
 have:=(XK 18 i.toNat (by rw[p19]; omega)).1;omega
theorem qme (z:Int) (a:0<=z) (h1:z<256):kwr .u8 z=z:=by
 show z % (2 ^ 8:Int)=z;omega
theorem qak (z:Int) (a:0<=z) (h1:z<18446744073709551616):kwr .u64 z=z:=by
 show z % (2 ^ 64:Int)=z;omega
theorem qpw (z:Int) (a:-9223372036854775808<=z) (h1:z<0):kwr .u64 (0 - kwr .u64 z) = -z:=by
 show(0 - z % (2 ^ 64:Int)) % (2 ^ 64:Int) = -z;omega
theorem da {a b:Nat} (h:a+b<=137438953472):decide (((a+b:Nat):Int)<=xr)=true:=kdt (by unfold xr; omega)
theorem qg2:∀ (d:Nat) (m:Nat) (f:Nat),d<=18->m<10 ^ (d+1)->m<=9223372036854775807->d+1<=f->cd f (m:Int)=some (qcz m):=by
 intro d
 induction d with
 | zero=>
  intro m f c hm e g;obtain⟨f,rfl⟩:=jj (by omega:f≠0);have hm:m<10:=by simpa using hm
  simp only[cd,tV];rw[show(((m:Nat):Int) == -9223372036854775808)=false from by rw[kbf]; omega,kcf,kdf (by omega:¬ (m:Int)<0),kcf];rw[show Int.tmod (m:Int) 10=((m % 10:Nat):Int)from by rw[Int.ofNat_tmod]; rfl,Nat.mod_eq_of_lt hm,Hc _ (by omega) (by omega),qme _ (by omega) (by omega)];rw[show(48:Int)+(m:Int)=((48+m:Nat):Int)from by simp,qmd hm,qc,kdt (by omega:(m:Int)<10),kct,GJ hm]
 | succ d ih=>
  intro m f c hm e g;obtain⟨f,rfl⟩:=jj (by omega:f≠0);have h:m % 10<10:=Nat.mod_lt _ (by decide);simp only[cd,tV];rw[show(((m:Nat):Int) == -9223372036854775808)=false from by rw[kbf]; omega,kcf,kdf (by omega:¬ (m:Int)<0),kcf];rw[show Int.tmod (m:Int) 10=((m % 10:Nat):Int)from by rw[Int.ofNat_tmod]; rfl,Hc _ (by omega) (by omega),qme _ (by omega) (by omega)];rw[show(48:Int)+((m % 10:Nat):Int)=((48+m % 10:Nat):Int)from by simp,qmd h,qc];by_cases a:m<10
  ·rw[kdt (by omega:(m:Int)<10),kct,Nat.mod_eq_of_lt a,GJ a]
  have b:m / 10<10 ^ (d+1):=by rw[Nat.div_lt_iff_lt_mul (by decide)]; rw[Nat.pow_succ]at hm; exact hm
  rw[kdf (by omega:¬ (m:Int)<10),kcf,show Int.tdiv (m:Int) 10=((m / 10:Nat):Int)from by rw[Int.ofNat_tdiv]; rfl,Hc _ (by omega) (by omega),ih (m / 10) f (by omega) b (by omega) (by omega),qc];have i:=(XK d (m / 10) b).1;rw[zH (da (by simp only[ja,jc]; omega)),Tq a]
theorem qj0 {f:Nat} (c:400<=f) {i:Int} (d:-9223372036854775808<=i) (h1:i<=9223372036854775807):cd f i=some (qbr i):=by
 by_cases a:i<0
 ·by_cases b:i = -9223372036854775808
  ·subst b
   obtain⟨f,rfl⟩:=jj (by omega:f≠0);rw[show qbr (-9223372036854775808)=[45,57,50,50,51,51,55,50,48,51,54,56,53,52,55,55,53,56,48,56]from by
    unfold qbr;rw[if_pos (by decide)];have e:(-(-9223372036854775808:Int)).toNat=9223372036854775808:=by decide
    rw[e]
    iterate 18 rw[Tq (by decide)]
    rw[GJ (by decide)];rfl]
   rfl
  obtain⟨f,rfl⟩:=jj (by omega:f≠0);simp only[cd,tV];rw[show(i == -9223372036854775808)=false from by rw[kbf]; exact b,kcf,kdt a,kct,Hc _ (by omega) (by omega)];rw[show(0:Int) - i=(((-i).toNat:Nat):Int)from by omega,qg2 18 (-i).toNat f (by omega) (by rw[p19]; omega) (by omega) (by omega),qc];have hlen:=(XK 18 (-i).toNat (by rw[p19]; omega)).1;rw[zH (da (by simp only[ja,jc]; omega))];unfold qbr;rw[if_pos a];rfl
 rw[show i=((i.toNat:Nat):Int)from by omega,qg2 18 i.toNat f (by omega) (by rw[p19]; omega) (by omega) (by omega)];unfold qbr;rw[if_neg (by omega),jU]
theorem LN {A:Type}:∀ (b:List A) (k:Nat) (x:A),k<b.length->(b.set k x).drop k=x::b.drop (k+1)
 | [],_,_,h=>by simp at h
 | a::b,0,x,_=>rfl
 | a::b,k+1,x,h=>by simpa using LN b k x (by simpa using h)
theorem ql6 {n a:Nat} {b:List UInt8} (c:a<20) (d:b.length=20):pQ n ((a:Int),b)=some (b.drop a):=by
 unfold pQ;simp only;rw[natI_nat,qc,zH (kdt c),zH (kdt (by omega))];rw[List.take_of_length_le (by rw[jM]; omega)]
theorem qmo {m:Nat} (h:m<10):([(48:UInt8),(49:UInt8),(50:UInt8),(51:UInt8),(52:UInt8),(53:UInt8),(54:UInt8),(55:UInt8),(56:UInt8),(57:UInt8)]:List UInt8)[m]? =some (dgB m):=by
 have:m=0\/m=1\/m=2\/m=3\/m=4\/m=5\/m=6\/m=7\/m=8\/m=9:=by omega
 rcases this with rfl|rfl|rfl|rfl|rfl|rfl|rfl|rfl|rfl|rfl<;>rfl
def qkg (i:Int):List UInt8:=if i<0 then[45]else[]
theorem qbt (n:Nat) (i:Int):∀ (d m a f:Nat) (b:List UInt8),m<10 ^ (d+1)->d<=18->m<=9223372036854775808->(qcz m).length+(qkg i).length<=a->a<=20->b.length=20->d+1<=f ->
  qo (pR n i) f ((a:Int),(m:Int),b)=some (qkg i++qcz m++b.drop a):=by
 intro d;have g:∀ (m a:Nat) (b:List UInt8) (q:Int×Int×List UInt8->Option (List UInt8)),m<=9223372036854775808->1<=a->a<=20->b.length=20->(m<10->1+(qkg i).length<=a) ->
   pR n i q ((a:Int),(m:Int),b)=(if m<10 then some (qkg i++dgB (m % 10)::b.drop a)else q (((a - 1:Nat):Int),((m / 10:Nat):Int),b.set (a - 1) (dgB (m % 10)))):=by
  intro m a b q hm j h k l;have s:m % 10<10:=Nat.mod_lt _ (by decide);simp only[pR];rw[show Int.tmod (m:Int) 10=((m % 10:Nat):Int)from by rw[Int.ofNat_tmod]; rfl,natI_nat,qc,zH (kdt s),qmo s,qc];rw[UW (by omega) (by omega),show(a:Int) - 1=((a - 1:Nat):Int)from by omega,natI_nat,qc,zH (kdt (by omega)),TZ,qc,zH (kdt (by omega))];have o:(b.set (a - 1) (dgB (m % 10))).length=20:=by rw[List.length_set]; exact k
  have p:(b.set (a - 1) (dgB (m % 10))).drop (a - 1)=dgB (m % 10)::b.drop a:=by
   rw[LN b (a - 1) _ (by omega),show a - 1+1=a from by omega]
  by_cases c:m<10
  ·have l:=l c
   rw[kdt (by omega:(m:Int)<10),kct,if_pos c];unfold qkg at l ⊢;by_cases e:i<0
   ·rw[kdt e,kct,if_pos e]
    rw[if_pos e]at l;simp only[ja,jc]at l;rw[UW (by omega) (by omega),show((a - 1:Nat):Int) - 1=((a - 2:Nat):Int)from by omega,natI_nat,qc,zH (kdt (by omega)),show u8I (45:Int)=some 45 from rfl,qc,zH (kdt (by omega))];rw[ql6 (by omega) (by rw[List.length_set]; exact o),LN _ (a - 2) _ (by omega),show a - 2+1=a - 1 from by omega,p];rfl
   rw[kdf e,kcf,if_neg e,ql6 (by omega) o,p];rfl
  rw[kdf (by omega:¬ (m:Int)<10),kcf,if_neg c,show Int.tdiv (m:Int) 10=((m / 10:Nat):Int)from by rw[Int.ofNat_tdiv]; rfl,qak _ (by omega) (by omega)]
 induction d with
 | zero=>
  intro m a f b hm t r j h k u;obtain⟨f,rfl⟩:=jj (by omega:f≠0);have hm:m<10:=by simpa using hm
  rw[GJ hm]at j ⊢;simp only[ja,jc]at j;rw[qO,g m a b _ r (by omega) h k (fun _=>by omega),if_pos hm,Nat.mod_eq_of_lt hm]
  simp
 | succ d ih=>
  intro m a f b hm t r j h k u;obtain⟨f,rfl⟩:=jj (by omega:f≠0);have h1:=(XK (d+1) m hm).2;rw[qO,g m a b _ r (by omega) h k (fun c=>by rw[GJ c]at j; simpa using j)]
  by_cases c:m<10
  ·rw[if_pos c,GJ c,Nat.mod_eq_of_lt c]; simp
  have v:m / 10<10 ^ (d+1):=by rw[Nat.div_lt_iff_lt_mul (by decide)]; rw[Nat.pow_succ]at hm; exact hm
  rw[Tq c]at j ⊢;simp only[jb,ja,jc]at j;rw[if_neg c,ih (m / 10) (a - 1) f _ v (by omega) (by omega) (by omega) (by omega) (by rw[List.length_set]; exact k) (by omega),LN b (a - 1) _ (by omega),show a - 1+1=a from by omega];simp
theorem qju {f:Nat} (e:400<=f) {i:Int} (d:-9223372036854775808<=i) (h1:i<=9223372036854775807):Qd f i=some (qbr i):=by
 unfold Qd Ff;have c:(List.replicate 20 (0:UInt8)).length=20:=by simp
 have b:(List.replicate 20 (0:UInt8)).drop 20=[]:=rfl;by_cases a:i<0
 ·rw[kdt a,kct,qc,qpw i d a,show -i=(((-i).toNat:Nat):Int)from by omega]
  have hlen:=(XK 18 (-i).toNat (by rw[p19]; omega)).1;have:=qbt f i 18 (-i).toNat 20 f (List.replicate 20 0) (by rw[p19]; omega) (by omega) (by omega) (by unfold qkg; rw[if_pos a]; simp only[ja,jc]; omega) (by omega) c (by omega);rw[b]at this;refine this.trans ?_;unfold qkg qbr;rw[if_pos a,if_pos a];simp
 rw[kdf a,kcf,qc,qak i (by omega) (by omega)];have hlen:=(XK 18 i.toNat (by rw[p19]; omega)).1;have:=qbt f i 18 i.toNat 20 f (List.replicate 20 0) (by rw[p19]; omega) (by omega) (by omega) (by unfold qkg; rw[if_neg a]; simp only[jc]; omega) (by omega) c (by omega);rw[b]at this;rw[show i=((i.toNat:Nat):Int)from by omega]at this ⊢;rw[jU]at this;refine this.trans ?_;unfold qkg qbr;rw[if_neg (by omega),if_neg (by omega),jU];simp
end W
end
section
open Go Ax
namespace W
def ctB (b:UInt8):Bool:=decide (128<=b.toNat/\b.toNat<192)
def rI:List UInt8->Nat
 | []=>0
 | c::t=>
  if c.toNat<128 then 1
  else if c.toNat<194\/244<c.toNat then 0
  else match t with
   | []=>0
   | d::t2=>
    if ctB d=false then 0
    else if c.toNat<224 then 2
    else match t2 with
     | []=>0
     | e::t3=>
      if ctB e=false\/(c.toNat=224/\d.toNat<160)\/(c.toNat=237/\160<=d.toNat)then 0
      else if c.toNat<240 then 3
      else match t3 with
       | []=>0
       | f::_=>if ctB f=false\/(c.toNat=240/\d.toNat<144)\/(c.toNat=244/\144<=d.toNat)then 0 else 4
theorem ZM (c:UInt8) (t:List UInt8):rI (c::t)=if c.toNat<128 then 1
  else if c.toNat<194\/244<c.toNat then 0
  else match t with
   | []=>0
   | d::t2=>
    if ctB d=false then 0
    else if c.toNat<224 then 2
    else match t2 with
     | []=>0
     | e::t3=>
      if ctB e=false\/(c.toNat=224/\d.toNat<160)\/(c.toNat=237/\160<=d.toNat)then 0
      else if c.toNat<240 then 3
      else match t3 with
       | []=>0
       | f::_=>if ctB f=false\/(c.toNat=240/\d.toNat<144)\/(c.toNat=244/\144<=d.toNat)then 0 else 4:=rfl
def eY (s:List UInt8):Nat×Nat:=
 let at' (k:Nat):Nat:=((s[k]?).getD 0).toNat
 let cont (k:Nat):Bool:=decide (k<s.length)&&at' k / 64==2
 let b0:=at' 0
 if b0<0x80 then(b0,1)
 else if b0 / 32==6&&cont 1 then
  let c:=(b0 % 32) * 64+at' 1 % 64
  if c≥0x80 then(c,2)else(Utf8.runeError,1)
 else if b0 / 16==14&&cont 1&&cont 2 then
  let c:=(b0 % 16) * 4096+(at' 1 % 64) * 64+at' 2 % 64
  if c≥0x800&&Utf8.valid c then(c,3)else(Utf8.runeError,1)
 else if b0 / 8==30&&cont 1&&cont 2&&cont 3 then
  let c:=(b0 % 8) * 262144+(at' 1 % 64) * 4096+(at' 2 % 64) * 64+at' 3 % 64
  if c≥0x10000&&Utf8.valid c then(c,4)else(Utf8.runeError,1)
 else(Utf8.runeError,1)
theorem qlq (l:List UInt8) (i:Nat):Utf8.decode ⟨l.toArray⟩ i=eY (l.drop i):=by
 have h1:∀ k,((⟨l.toArray⟩:ByteArray).get! (i+k)).toNat=(((l.drop i)[k]?).getD 0).toNat:=fun k=>by
  have:(⟨l.toArray⟩:ByteArray).get! (i+k)=l.toArray[i+k]!:=rfl;rw[this,jD];congr 1;cases h:l[i+k]? with
  | none=>simp[getElem!_def,h]; rfl
  | some b=>simp[getElem!_def,h]
 have h2:∀ k,decide (i+k<(⟨l.toArray⟩:ByteArray).size)=decide (k<(l.drop i).length):=fun k=>by
  rw[ByteArray.size_mk_toArray,jM];exact decide_eq_decide.2 (by omega)
 unfold Utf8.decode eY;simp only[h1,h2]
theorem qkm {r:Nat} (h:r<55296):Utf8.valid (r:Int)=true:=by
 unfold Utf8.valid;simp only[jO,ji,kde]
 left; omega
theorem qb9 {r:Nat} (h1:57344<=r) (h2:r<=1114111):Utf8.valid (r:Int)=true:=by
 unfold Utf8.valid;simp only[jO,ji,kde]
 right; omega
theorem ia {r:Nat} (h:(55296<=r/\r<57344)\/1114111<r):Utf8.valid (r:Int)=false:=by
 unfold Utf8.valid;simp only[Bool.or_eq_false_iff,Bool.and_eq_false_iff,decide_eq_false_iff_not];omega
theorem sO {b:UInt8}:ctB b=true↔b.toNat / 64=2:=by
 unfold ctB;rw[kde];omega
theorem qmn {c:UInt8} {t:List UInt8} (h:c.toNat<128):eY (c::t)=(c.toNat,1):=by
 unfold eY;simp only[jd,jV];rw[if_pos h]
theorem qo4 {c d:UInt8} {t:List UInt8} (h1:194<=c.toNat) (h2:c.toNat<224) (a:ctB d=true):eY (c::d::t)=((c.toNat % 32) * 64+d.toNat % 64,2):=by
 have a:=sO.1 a;unfold eY;simp only[jd,je,jV,ja];rw[if_neg (by omega),if_pos (by simp only[ji,beq_iff_eq,kde]; omega),if_pos (by omega)]
theorem qo5 {c d e:UInt8} {t:List UInt8} (h1:224<=c.toNat) (h2:c.toNat<240) (a:ctB d=true) (he:ctB e=true) (f:¬ (c.toNat=224/\d.toNat<160)) (g:¬ (c.toNat=237/\160<=d.toNat)) :
  eY (c::d::e::t)=((c.toNat % 16) * 4096+(d.toNat % 64) * 64+e.toNat % 64,3):=by
 have a:=sO.1 a;have he:=sO.1 he;unfold eY;simp only[jd,je,jV,ja];rw[if_neg (by omega),if_neg (by simp only[ji,beq_iff_eq,kde]; omega),if_pos (by simp only[ji,beq_iff_eq,kde]; omega)];rw[if_pos];rw[ji,kde];refine⟨by omega,?_⟩;by_cases b:(c.toNat % 16) * 4096+(d.toNat % 64) * 64+e.toNat % 64<55296
 ·exact qkm b
 exact qb9 (by omega) (by omega)
theorem qo6 {c d e f:UInt8} {t:List UInt8} (h1:240<=c.toNat) (h2:c.toNat<245) (a:ctB d=true) (he:ctB e=true) (b:ctB f=true) (g:¬ (c.toNat=240/\d.toNat<144)) (h:¬ (c.toNat=244/\144<=d.toNat)) :
  eY (c::d::e::f::t)=((c.toNat % 8) * 262144+(d.toNat % 64) * 4096+(e.toNat % 64) * 64+f.toNat % 64,4):=by
 have a:=sO.1 a;have he:=sO.1 he;have b:=sO.1 b;unfold eY;simp only[jd,je,jV,ja];rw[if_neg (by omega),if_neg (by simp only[ji,beq_iff_eq,kde]; omega),if_neg (by simp only[ji,beq_iff_eq,kde]; omega),if_pos (by simp only[ji,beq_iff_eq,kde]; omega)];rw[if_pos];rw[ji,kde];exact⟨by omega,qb9 (by omega) (by omega)⟩
theorem qo3 {c:UInt8} {t:List UInt8} (n:128<=c.toNat) (g:rI (c::t)=0):eY (c::t)=(65533,1):=by
 have k:=c.toNat_lt;have he:Utf8.runeError=65533:=rfl;unfold eY;simp only[jd,je,jV,ja,he];rw[if_neg (by omega)];rw[ZM,if_neg (by omega)]at g;split
 ·
  rename_i h1;simp only[ji,beq_iff_eq,kde]at h1;split
  ·rename_i h2
   exfalso;cases t with
   | nil=>simp at h1
   | cons d t=>
    simp only[jd,jV]at h1 h2;rw[if_neg (by omega)]at g;simp only[sO.2 h1.2.2,jQ,if_false]at g;rw[if_pos (by omega)]at g;cases g
  ·rfl
 split
 ·rename_i l h1
  simp only[ji,beq_iff_eq,kde]at h1;split
  ·rename_i h2
   exfalso;rw[ji,kde]at h2;cases t with
   | nil=>simp at h1
   | cons d t=>
    cases t with
    | nil=>simp at h1
    | cons e t=>
     simp only[jd,je,jV]at h1 h2;rw[if_neg (by omega)]at g;simp only[sO.2 h1.1.2.2,sO.2 h1.2.2,jQ,if_false,false_or]at g;rw[if_neg (by omega)]at g;have i:=h2.2;rw[if_neg (by
      rintro(⟨a,b⟩|⟨a,b⟩)
      ·omega
      rw[ia (by left; omega)]at i; cases i),if_pos (by omega)]at g
     cases g
  ·rfl
 split
 ·rename_i m l h1
  simp only[ji,beq_iff_eq,kde]at h1;split
  ·rename_i h2
   exfalso;rw[ji,kde]at h2;cases t with
   | nil=>simp at h1
   | cons d t=>
    cases t with
    | nil=>simp at h1
    | cons e t=>
     cases t with
     | nil=>simp at h1
     | cons f t=>
      simp only[jd,je,jV]at h1 h2;have i:=h2.2;have j:¬ 244<c.toNat:=fun h=>by
       rw[ia (by right; omega)]at i; cases i
      rw[if_neg (by omega)]at g;simp only[sO.2 h1.1.1.2.2,sO.2 h1.1.2.2,sO.2 h1.2.2,jQ,if_false,false_or]at g;rw[if_neg (by omega),if_neg (by omega),if_neg (by omega),if_neg (by
       rintro(⟨a,b⟩|⟨a,b⟩)
       ·omega
       rw[ia (by right; omega)]at i; cases i)]at g
      cases g
  ·rfl
 rfl
theorem qah (n:Nat) {l:List UInt8} {i:Nat} (h:l.length<=137438953472):tW n l (i:Int)=some (match l[i]? with|some b=>ctB b|none=>false):=by
 unfold tW;cases a:l[i]? with
 | none=>
  have c:l.length<=i:=List.getElem?_eq_none_iff.1 a;rw[kdf (by omega:¬ (i:Int)<((l.length:Nat):Int))];rfl
 | some b=>
  have c:=qL a;rw[qx c];simp only[qf a,zg,qc,kct];unfold ctB;by_cases h1:128<=b.toNat
  ·rw[kdt (by omega:(b.toNat:Int)≥128)]
   simp only[zg,qc,kct];exact congrArg some (decide_eq_decide.2 (by omega))
  rw[kdf (by omega:¬ (b.toNat:Int)≥128)];simp only[qD,kcf,qc];rw[kdf (by omega)]
theorem qnp (n:Nat) {l:List UInt8} {i:Nat} (h:l.length<=137438953472) (B:i<=l.length):Vk n l (i:Int)=some ((rI (l.drop i):Nat):Int):=by
 unfold Vk;by_cases he:i=l.length
 ·rw[kdt (by omega:(i:Int)≥((l.length:Nat):Int)),kct,List.drop_eq_nil_of_le (by omega)]
  rfl
 rw[kdf (by omega:¬ (i:Int)≥((l.length:Nat):Int)),kcf];have w:=jf (show i<l.length by omega);have z:l.drop i=l[i]::l.drop (i+1):=jn (by omega);generalize l[i]=c at w z;have t1:=qah n (i:=i+1) h;have t2:=qah n (i:=i+2) h;have t3:=qah n (i:=i+3) h;have g1:l[i+1]? =(l.drop (i+1))[0]?:=by rw[jD]
 have g2:l[i+2]? =(l.drop (i+1))[1]?:=by rw[jD]
 have g3:l[i+3]? =(l.drop (i+1))[2]?:=by rw[jD]
 rw[g1]at t1;rw[g2]at t2;rw[g3]at t3;rw[z];have w1:kwr .i64 ((i:Int)+1)=((i+1:Nat):Int):=qU (by omega);have w2:kwr .i64 ((i:Int)+2)=((i+2:Nat):Int):=by rw[UW (by omega) (by omega)]; omega
 have w3:kwr .i64 ((i:Int)+3)=((i+3:Nat):Int):=by rw[UW (by omega) (by omega)]; omega
 simp only[qf w,qc,w1,w2,w3,t1,t2,t3];generalize hT:l.drop (i+1)=t at *;rw[ZM];by_cases k:c.toNat<128
 ·rw[kdt (by omega:(c.toNat:Int)<128),kct,if_pos k]; rfl
 rw[kdf (by omega:¬ (c.toNat:Int)<128),kcf,if_neg k];by_cases g:c.toNat<194\/244<c.toNat
 ·rw[if_pos g]
  have:(bif decide ((c.toNat:Int)<194)then true else decide ((c.toNat:Int)>244))=true:=by
   rcases g with h|h
   ·rw[kdt (by omega:(c.toNat:Int)<194)]; rfl
   rw[kdt (by omega:(c.toNat:Int)>244)]; cases decide ((c.toNat:Int)<194)<;>rfl
  rw[this]; rfl
 rw[if_neg g];have:(bif decide ((c.toNat:Int)<194)then true else decide ((c.toNat:Int)>244))=false:=by
  rw[kdf (by omega:¬ (c.toNat:Int)<194),kdf (by omega:¬ (c.toNat:Int)>244)]; rfl
 rw[this];simp only[jo,zg,qc,kcf];cases t with
 | nil=>rfl
 | cons d t=>
  simp only[jd,je];cases A:ctB d with
  | false=>rfl
  | true=>
   simp only[jp,kcf,jQ,if_false];have u:l[i+1]? =some d:=by rw[g1]; rfl
   by_cases m:c.toNat<224
   ·rw[kdt (by omega:(c.toNat:Int)<224),kct,if_pos m]; rfl
   rw[kdf (by omega:¬ (c.toNat:Int)<224),kcf,if_neg m,qf u,qc];cases t with
   | nil=>rfl
   | cons e t=>
    simp only[jd,je];have C:∀ (x y:Bool) (p q r s:Prop) [Decidable p] [Decidable q] [Decidable r] [Decidable s],True:=fun _ _ _ _ _ _=>trivial
    have v:(bif bif !ctB e then true else bif((c.toNat:Int)==224)then decide ((d.toNat:Int)<160)else false then true else bif((c.toNat:Int)==237)then decide ((d.toNat:Int)≥160)else false)=decide (ctB e=false\/(c.toNat=224/\d.toNat<160)\/(c.toNat=237/\160<=d.toNat)):=by
     cases ctB e with
     | false=>simp
     | true=>
      by_cases a:c.toNat=224
      ·have a2:((c.toNat:Int)==224)=true:=by rw[beq_iff_eq]; omega
       have a3:((c.toNat:Int)==237)=false:=by rw[kbf]; omega
       rw[a2,a3];simp only[jp,kcf,kct];by_cases b:d.toNat<160
       ·rw[kdt (by omega:(d.toNat:Int)<160),kdt (.inr (.inl ⟨a,b⟩))]; rfl
       rw[kdf (by omega:¬ (d.toNat:Int)<160),kdf (by rintro(h|⟨h,j⟩|⟨h,j⟩)<;>first|cases h; done|omega)]; rfl
      have a2:((c.toNat:Int)==224)=false:=by rw[kbf]; omega
      rw[a2];simp only[jp,kcf];by_cases b:c.toNat=237
      ·have b2:((c.toNat:Int)==237)=true:=by rw[beq_iff_eq]; omega
       rw[b2,kct];exact decide_eq_decide.2 ⟨fun h=>.inr (.inr ⟨b,by omega⟩),fun h=>by rcases h with h|⟨h,j⟩|⟨h,j⟩<;>first|cases h; done|omega⟩
      have b2:((c.toNat:Int)==237)=false:=by rw[kbf]; omega
      rw[b2,kcf,kdf (by rintro(h|⟨h,j⟩|⟨h,j⟩)<;>first|cases h; done|omega)]
    rw[v];by_cases hz:ctB e=false\/(c.toNat=224/\d.toNat<160)\/(c.toNat=237/\160<=d.toNat)
    ·rw[kdt hz,kct,if_pos hz]; rfl
    rw[kdf hz,kcf,if_neg hz];by_cases o:c.toNat<240
    ·rw[kdt (by omega:(c.toNat:Int)<240),kct,if_pos o]; rfl
    rw[kdf (by omega:¬ (c.toNat:Int)<240),kcf,if_neg o];cases t with
    | nil=>rfl
    | cons f t=>
     simp only[jd];have v:(bif bif !ctB f then true else bif((c.toNat:Int)==240)then decide ((d.toNat:Int)<144)else false then true else bif((c.toNat:Int)==244)then decide ((d.toNat:Int)≥144)else false)=decide (ctB f=false\/(c.toNat=240/\d.toNat<144)\/(c.toNat=244/\144<=d.toNat)):=by
      cases ctB f with
      | false=>simp
      | true=>
       by_cases a:c.toNat=240
       ·have a2:((c.toNat:Int)==240)=true:=by rw[beq_iff_eq]; omega
        have a3:((c.toNat:Int)==244)=false:=by rw[kbf]; omega
        rw[a2,a3];simp only[jp,kcf,kct];by_cases b:d.toNat<144
        ·rw[kdt (by omega:(d.toNat:Int)<144),kdt (.inr (.inl ⟨a,b⟩))]; rfl
        rw[kdf (by omega:¬ (d.toNat:Int)<144),kdf (by rintro(h|⟨h,j⟩|⟨h,j⟩)<;>first|cases h; done|omega)]; rfl
       have a2:((c.toNat:Int)==240)=false:=by rw[kbf]; omega
       rw[a2];simp only[jp,kcf];by_cases b:c.toNat=244
       ·have b2:((c.toNat:Int)==244)=true:=by rw[beq_iff_eq]; omega
        rw[b2,kct];exact decide_eq_decide.2 ⟨fun h=>.inr (.inr ⟨b,by omega⟩),fun h=>by rcases h with h|⟨h,j⟩|⟨h,j⟩<;>first|cases h; done|omega⟩
       have b2:((c.toNat:Int)==244)=false:=by rw[kbf]; omega
       rw[b2,kcf,kdf (by rintro(h|⟨h,j⟩|⟨h,j⟩)<;>first|cases h; done|omega)]
     rw[v];by_cases hz:ctB f=false\/(c.toNat=240/\d.toNat<144)\/(c.toNat=244/\144<=d.toNat)
     ·rw[kdt hz,kct,if_pos hz]; rfl
     rw[kdf hz,kcf,if_neg hz]; rfl
end W
end
section
open Go Ax
namespace W
def qoj (x:Nat):UInt8:=([48,49,50,51,52,53,54,55,56,57,97,98,99,100,101,102]:List UInt8).getD x 0
def lA (c:UInt8):List UInt8:=[qoj (c.toNat / 16),qoj (c.toNat % 16)]
def qbx:List UInt8->List UInt8
 | []=>[]
 | c::t=>
  if rI (c::t)=0\/c.toNat=127 then 92::120::lA c
  else if c.toNat=39\/c.toNat=92 then[92,c]
  else if c.toNat=10 then[92,110]
  else if c.toNat=9 then[92,116]
  else if c.toNat=13 then[92,114]
  else if c.toNat<32 then 92::120::lA c
  else(c::t).take (rI (c::t))
theorem By (c:UInt8) (t:List UInt8):qbx (c::t)=if rI (c::t)=0\/c.toNat=127 then 92::120::lA c
  else if c.toNat=39\/c.toNat=92 then[92,c]
  else if c.toNat=10 then[92,110]
  else if c.toNat=9 then[92,116]
  else if c.toNat=13 then[92,114]
  else if c.toNat<32 then 92::120::lA c
  else(c::t).take (rI (c::t)):=rfl
def LQ (s:List UInt8):Nat:=if rI s=0 then 1 else rI s
def Xl:Nat->List UInt8->List UInt8
 | 0,_=>[]
 | _+1,[]=>[]
 | g+1,c::t=>qbx (c::t)++Xl g ((c::t).drop (LQ (c::t)))
theorem RU (g:Nat):Xl g []=[]:=by cases g<;>rfl
def GQ (s:List UInt8):List UInt8:=39::(Xl s.length s++[39])
theorem LO (s:List UInt8):rI s<=4/\rI s<=s.length:=by
 cases s with
 | nil=>exact⟨by decide,by decide⟩
 | cons c t=>
  rw[ZM];split
  ·exact⟨by decide,by simp only[ja]; omega⟩
  split
  ·exact⟨by decide,by omega⟩
  cases t with
  | nil=>exact⟨jS _,jS _⟩
  | cons d t=>
   simp only;split
   ·exact⟨by decide,by omega⟩
   split
   ·exact⟨by decide,by simp only[ja]; omega⟩
   cases t with
   | nil=>exact⟨jS _,jS _⟩
   | cons e t=>
    simp only;split
    ·exact⟨by decide,by omega⟩
    split
    ·exact⟨by decide,by simp only[ja]; omega⟩
    cases t with
    | nil=>exact⟨jS _,jS _⟩
    | cons f t=>
     simp only;split
     ·exact⟨by decide,by omega⟩
     exact⟨by decide,by simp only[ja]; omega⟩
theorem LP {c:UInt8} {t:List UInt8} (h:c.toNat<128):rI (c::t)=1:=by rw[ZM,if_pos h]
theorem qhr {c:UInt8} {t:List UInt8}:1<=LQ (c::t)/\LQ (c::t)<=(c::t).length:=by
 have:=(LO (c::t)).2;unfold LQ;split
 ·simp
 omega
theorem qdf (s:List UInt8):(qbx s).length<=4:=by
 cases s with
 | nil=>simp[qbx]
 | cons c t=>
  have:=(LO (c::t)).1;have a:(lA c).length=2:=rfl;rw[By]
  repeat' split
  all_goals simp only[ja,jc,jt,a]
  all_goals omega
theorem RT:∀ (g:Nat) (s:List UInt8),(Xl g s).length<=4 * g
 | 0,s=>by simp[Xl]
 | g+1,[]=>by simp[Xl]
 | g+1,c::t=>by
  have h1:=qdf (c::t);have h2:=RT g ((c::t).drop (LQ (c::t)));simp only[Xl,jb];omega
theorem og:∀ m:Fin 256,Vl 0 ((m.val:Nat):Int)=some [qoj (m.val / 16),qoj (m.val % 16)] /\
  idx ([48,49,50,51,52,53,54,55,56,57,97,98,99,100,101,102]:List UInt8) (Int.fdiv ((m.val:Nat):Int) (2 ^ (min (Int.toNat (4:Int)) (kbt .u8))))=some (qoj (m.val / 16)) /\
  idx ([48,49,50,51,52,53,54,55,56,57,97,98,99,100,101,102]:List UInt8) (kwr .u8 (((jr (kbt .u8) ((m.val:Nat):Int) &&& jr (kbt .u8) (15:Int)).toNat:Nat):Int))=some (qoj (m.val % 16)):=by decide +kernel
theorem qlv (n:Nat) (c:UInt8):Vl n ((c.toNat:Nat):Int)=some (lA c):=(og ⟨c.toNat,c.toNat_lt⟩).1
theorem qbv:(∀ x:Fin 32,u8I (kwr .u8 (((jr (kbt .u8) (192:Int) ||| jr (kbt .u8) ((x.val:Nat):Int)).toNat:Nat):Int))=some (UInt8.ofNat (192+x.val))) /\
  (∀ x:Fin 16,u8I (kwr .u8 (((jr (kbt .u8) (224:Int) ||| jr (kbt .u8) ((x.val:Nat):Int)).toNat:Nat):Int))=some (UInt8.ofNat (224+x.val))) /\
  (∀ x:Fin 8,u8I (kwr .u8 (((jr (kbt .u8) (240:Int) ||| jr (kbt .u8) ((x.val:Nat):Int)).toNat:Nat):Int))=some (UInt8.ofNat (240+x.val))) /\
  (∀ y:Fin 256,u8I (kwr .u8 (((jr (kbt .u8) (128:Int) ||| jr (kbt .u8) (kwr .u8 (((jr (kbt .u8) ((y.val:Nat):Int) &&& jr (kbt .u8) (63:Int)).toNat:Nat):Int))).toNat:Nat):Int))=some (UInt8.ofNat (128+y.val % 64))):=by decide +kernel
theorem qrq {x:Nat} (h:x<32):u8I (kwr .u8 (((jr (kbt .u8) (192:Int) ||| jr (kbt .u8) ((x:Nat):Int)).toNat:Nat):Int))=some (UInt8.ofNat (192+x)):=qbv.1 ⟨x,h⟩
theorem qrr {x:Nat} (h:x<16):u8I (kwr .u8 (((jr (kbt .u8) (224:Int) ||| jr (kbt .u8) ((x:Nat):Int)).toNat:Nat):Int))=some (UInt8.ofNat (224+x)):=qbv.2.1 ⟨x,h⟩
theorem qrs {x:Nat} (h:x<8):u8I (kwr .u8 (((jr (kbt .u8) (240:Int) ||| jr (kbt .u8) ((x:Nat):Int)).toNat:Nat):Int))=some (UInt8.ofNat (240+x)):=qbv.2.2.1 ⟨x,h⟩
theorem qok {y:Nat} (h:y<256):u8I (kwr .u8 (((jr (kbt .u8) (128:Int) ||| jr (kbt .u8) (kwr .u8 (((jr (kbt .u8) ((y:Nat):Int) &&& jr (kbt .u8) (63:Int)).toNat:Nat):Int))).toNat:Nat):Int))=some (UInt8.ofNat (128+y % 64)):=qbv.2.2.2 ⟨y,h⟩
theorem fdn (r k:Nat):Int.fdiv (r:Int) ((k:Nat):Int)=((r / k:Nat):Int):=by
 rw[Int.fdiv_eq_ediv_of_nonneg _ (by omega)]; rfl
theorem fd6 (r:Nat):Int.fdiv (r:Int) (2 ^ (min (Int.toNat (6:Int)) (kbt .i32)))=((r / 64:Nat):Int):=fdn r 64
theorem qrd (r:Nat):Int.fdiv (r:Int) (2 ^ (min (Int.toNat (12:Int)) (kbt .i32)))=((r / 4096:Nat):Int):=fdn r 4096
theorem qro (r:Nat):Int.fdiv (r:Int) (2 ^ (min (Int.toNat (18:Int)) (kbt .i32)))=((r / 262144:Nat):Int):=fdn r 262144
theorem u8w (r:Nat):kwr .u8 (r:Int)=((r % 256:Nat):Int):=by
 show(r:Int) % (2 ^ 8:Int)=_;omega
theorem qri {r:Nat} (h:r<4294967296):kwr .u32 (r:Int)=(r:Int):=by
 show(r:Int) % (2 ^ 32:Int)=_;omega
theorem bOf {m:Nat} {c:UInt8} (h:m=c.toNat):UInt8.ofNat m=c:=by subst h; exact UInt8.ofNat_toNat
theorem qai (l:List UInt8) (i k:Nat):(l.take (i+k)).drop i=(l.drop i).take k:=by
 rw[List.drop_take,Nat.add_sub_cancel_left]
section
variable {n:Nat} {l:List UInt8} (hl:8 * l.length+64<=137438953472)
include hl
theorem qj2:∀ (g i f:Nat) (acc:List UInt8),i<=l.length->l.length - i<=g->l.length - i<f->acc.length+4 * (l.length - i)<=4 * l.length+16 ->
  qo (vL n l) f (acc,(i:Int))=some (acc++(Xl g (l.drop i)++[39])):=by
 intro g
 induction g with
 | zero=>
  intro i f acc A E F G;obtain⟨f,rfl⟩:=jj (by omega:f≠0);have:i=l.length:=by omega
  subst this;rw[qO];generalize qo (vL n l) f=nx;unfold vL
  dsimp only
  rw[qm,kcf];rw[zH (da (by simp only[ja,jc]; omega))];rfl
 | succ g ih=>
  intro i f acc A E F G;obtain⟨f,rfl⟩:=jj (by omega:f≠0);rw[qO];by_cases he:i=l.length
  ·subst he
   rw[List.drop_length,RU];generalize qo (vL n l) f=nx;unfold vL
   dsimp only
   rw[qm,kcf];rw[zH (da (by simp only[ja,jc]; omega))];rfl
  have q:i<l.length:=by omega
  have H:=jf q;have s:l.drop i=l[i]::l.drop (i+1):=jn q;have u:=qnp n (l:=l) (i:=i) (by omega) A;have B:=qhr (c:=l[i]) (t:=l.drop (i+1));have b:=LO (l[i]::l.drop (i+1));have a:∀ (p:List UInt8) (j:Nat),p.length<=4->j=i+LQ (l[i]::l.drop (i+1))->qo (vL n l) f (acc++p,(j:Int))=some (acc++(p++Xl g ((l[i]::l.drop (i+1)).drop (LQ (l[i]::l.drop (i+1))))++[39])):=by
   intro p j hp I;subst I;have hlen:(l[i]::l.drop (i+1)).length=l.length - i:=by rw[← s,jM]
   rw[ih (i+LQ (l[i]::l.drop (i+1))) f (acc++p) (by omega) (by omega) (by omega) (by rw[jb]; omega)];rw[← s,List.drop_drop];simp
  rw[s]at u;rw[s,Xl];have hlen:(l[i]::l.drop (i+1)).length=l.length - i:=by rw[← s,jM]
  have v:∀ k,(l.take (i+k)).drop i=(l[i]::l.drop (i+1)).take k:=fun k=>by rw[qai,s]
  generalize l[i]=c at *;generalize l.drop (i+1)=t at *;generalize qo (vL n l) f=nx at a ⊢;unfold vL
  dsimp only[uh]
  rw[qx q,kct,u,qc,qf H,qc];rw[By];have d:∀ k:Nat,k<=4->kwr .i64 ((i:Int)+((k:Nat):Int))=((i+k:Nat):Int):=fun k J=>by rw[UW (by omega) (by omega)]; omega
  have w:(lA c).length=2:=rfl;by_cases o:rI (c::t)=0\/c.toNat=127
  ·rw[if_pos o]
   have r:(bif((rI (c::t):Nat):Int)==0 then true else((c.toNat:Nat):Int)==127)=true:=by
    rcases o with h|h
    ·rw[h]; rfl
    rw[h]; cases(((rI (c::t):Nat):Int)==0)<;>rfl
   have e:LQ (c::t)=1:=by
    unfold LQ;rcases o with h|h
    ·rw[if_pos h]
    rw[LP (by omega)]; rfl
   rw[r,kct,zH (da (by simp only[ja,jc]; omega)),qlv,qc,zH (da (by simp only[jb,ja,jc]; omega))];rw[show kwr .i64 ((i:Int)+1)=((i+1:Nat):Int)from d 1 (by omega)];rw[show(acc++[92,120])++lA c=acc++(92::120::lA c)from by simp,a _ (i+1) (by simp[w]) (by rw[e])]
  rw[if_neg o];simp only[not_or]at o;obtain⟨o,C⟩:=o;have e:LQ (c::t)=rI (c::t):=by unfold LQ; rw[if_neg o]
  have r:(bif((rI (c::t):Nat):Int)==0 then true else((c.toNat:Nat):Int)==127)=false:=by
   rw[show(((rI (c::t):Nat):Int)==0)=false from by rw[kbf]; omega,show(((c.toNat:Nat):Int)==127)=false from by rw[kbf]; omega]; rfl
  rw[r,kcf];by_cases m:c.toNat=39\/c.toNat=92
  ·rw[if_pos m]
   have h1:rI (c::t)=1:=LP (by omega);have r:(bif((c.toNat:Nat):Int)==39 then true else((c.toNat:Nat):Int)==92)=true:=by
    rcases m with h|h<;>rw[h]<;>rfl
   rw[r,kct,zH (da (by simp only[ja,jc]; omega)),show kwr .i64 ((i:Int)+1)=((i+1:Nat):Int)from d 1 (by omega),natI_nat,qc,natI_nat,qc,zH (kdt ⟨by omega,by omega⟩),v 1];rw[show(c::t).take 1=[c]from rfl,zH (da (by simp only[jb,ja,jc]; omega)),d _ b.1];rw[show(acc++[92])++[c]=acc++[92,c]from by simp,a _ (i+rI (c::t)) (by simp) (by rw[e])]
  rw[if_neg m];simp only[not_or]at m;have r:(bif((c.toNat:Nat):Int)==39 then true else((c.toNat:Nat):Int)==92)=false:=by
   rw[show(((c.toNat:Nat):Int)==39)=false from by rw[kbf]; omega,show(((c.toNat:Nat):Int)==92)=false from by rw[kbf]; omega]; rfl
  rw[r,kcf];by_cases x:c.toNat=10
  ·rw[if_pos x,show(((c.toNat:Nat):Int)==10)=true from by rw[beq_iff_eq]; omega,kct,zH (da (by simp only[ja,jc]; omega)),d _ b.1,a _ (i+rI (c::t)) (by simp) (by rw[e])]
  rw[if_neg x,show(((c.toNat:Nat):Int)==10)=false from by rw[kbf]; omega,kcf];by_cases D:c.toNat=9
  ·rw[if_pos D,show(((c.toNat:Nat):Int)==9)=true from by rw[beq_iff_eq]; omega,kct,zH (da (by simp only[ja,jc]; omega)),d _ b.1,a _ (i+rI (c::t)) (by simp) (by rw[e])]
  rw[if_neg D,show(((c.toNat:Nat):Int)==9)=false from by rw[kbf]; omega,kcf];by_cases y:c.toNat=13
  ·rw[if_pos y,show(((c.toNat:Nat):Int)==13)=true from by rw[beq_iff_eq]; omega,kct,zH (da (by simp only[ja,jc]; omega)),d _ b.1,a _ (i+rI (c::t)) (by simp) (by rw[e])]
  rw[if_neg y,show(((c.toNat:Nat):Int)==13)=false from by rw[kbf]; omega,kcf];by_cases z:c.toNat<32
  ·rw[if_pos z,kdt (by omega:((c.toNat:Nat):Int)<32),kct,zH (da (by simp only[ja,jc]; omega)),qlv,qc,zH (da (by simp only[jb,ja,jc]; omega)),d _ b.1]
   rw[show(acc++[92,120])++lA c=acc++(92::120::lA c)from by simp,a _ (i+rI (c::t)) (by simp[w]) (by rw[e])]
  rw[if_neg z,kdf (by omega:¬ ((c.toNat:Nat):Int)<32),kcf,d _ b.1,natI_nat,qc,natI_nat,qc,zH (kdt ⟨by omega,by omega⟩),v,zH (da (by rw[jt]; omega))];rw[a _ (i+rI (c::t)) (by rw[jt]; omega) (by rw[e])]
theorem NK (a:l.length<n):nz n l=some (GQ l):=by
 unfold nz GQ;have:=qj2 (n:=n) hl l.length 0 n [39] (by omega) (by omega) (by omega) (by simp only[ja,jc]; omega);exact this
end
end W
end
section
open Go Ax
namespace W
theorem qgz (n:Nat) (s p:List UInt8):gj n s p=some (decide (p.length<=s.length)&&s.take p.length==p):=by
 unfold gj vg;by_cases h:p.length<=s.length
 ·rw[kdt (by omega:((s.length:Nat):Int)≥((p.length:Nat):Int)),kdt h]
  simp only[natI_nat,zg,qc,kct];rw[zH (kdt h)];rfl
 rw[kdf (by omega:¬ ((s.length:Nat):Int)≥((p.length:Nat):Int)),kdf h];rfl
theorem qi4 {c:UInt8} {t:List UInt8} {k:Nat} (a:rI (c::t)=k+2):∃ r:Nat,eY (c::t)=(r,k+2)/\128<=r/\r<=1114111/\194<=c.toNat /\
  ((k=0/\r<=2047/\(c::t).take 2=[UInt8.ofNat (192+r / 64 % 256),UInt8.ofNat (128+r % 256 % 64)]) \/
   (k=1/\2048<=r/\r<=65535/\(r<55296\/57343<r)/\(c::t).take 3=[UInt8.ofNat (224+r / 4096 % 256),UInt8.ofNat (128+r / 64 % 256 % 64),UInt8.ofNat (128+r % 256 % 64)]/\(r=65533->(c::t).take 3=[239,191,189])) \/
   (k=2/\65536<=r/\(c::t).take 4=[UInt8.ofNat (240+r / 262144 % 256),UInt8.ofNat (128+r / 4096 % 256 % 64),UInt8.ofNat (128+r / 64 % 256 % 64),UInt8.ofNat (128+r % 256 % 64)])):=by
 rw[ZM]at a;split at a
 ·omega
 rename_i s;split at a
 ·omega
 rename_i u;cases t with
 | nil=>cases a
 | cons d t=>
  simp only at a;split at a
  ·omega
  rename_i b;simp only[Bool.not_eq_false]at b;have A:=sO.1 b;have v:=d.toNat_lt;split at a
  ·rename_i i
   obtain rfl:k=0:=by omega
   refine⟨_,qo4 (by omega) i b,by omega,by omega,by omega,.inl ⟨rfl,by omega,?_⟩⟩;rw[bOf (c:=c) (by omega),bOf (c:=d) (by omega)];rfl
  rename_i i;cases t with
  | nil=>cases a
  | cons e t=>
   simp only at a;split at a
   ·omega
   rename_i g;simp only[not_or,Bool.not_eq_false]at g;obtain⟨m,w,x⟩:=g;have he:=sO.1 m;have y:=e.toNat_lt;split at a
   ·rename_i j
    obtain rfl:k=1:=by omega
    refine⟨_,qo5 (by omega) j b m w x,by omega,by omega,by omega,.inr (.inl ⟨rfl,by omega,by omega,by omega,?_,fun h=>?_⟩)⟩
    ·rw[bOf (c:=c) (by omega),bOf (c:=d) (by omega),bOf (c:=e) (by omega)]
     rfl
    have e1:c=239:=jT.1 (by show c.toNat=239; omega);have e2:d=191:=jT.1 (by show d.toNat=191; omega);have e3:e=189:=jT.1 (by show e.toNat=189; omega);rw[e1,e2,e3];rfl
   rename_i j;cases t with
   | nil=>cases a
   | cons f t=>
    simp only at a;split at a
    ·omega
    rename_i g;simp only[not_or,Bool.not_eq_false]at g;obtain⟨o,p,q⟩:=g;have B:=sO.1 o;have z:=f.toNat_lt;obtain rfl:k=2:=by omega
    refine⟨_,qo6 (by omega) (by omega) b m o p q,by omega,by omega,by omega,.inr (.inr ⟨rfl,by omega,?_⟩)⟩;rw[bOf (c:=c) (by omega),bOf (c:=d) (by omega),bOf (c:=e) (by omega),bOf (c:=f) (by omega)];rfl
theorem qki {t:List UInt8}:rI ((239:UInt8)::191::189::t)=3:=rfl
theorem qqs {s:List UInt8} (h:s.length<=137438953472):decide ((qT s).length * 1<=140737488355328)=true:=kdt (by rw[lh]; omega)
section
variable {n:Nat} {l:List UInt8} (hl:8 * l.length+64<=137438953472)
include hl
theorem qhl:∀ (g i f:Nat) (acc:List UInt8),i<=l.length->l.length - i<=g->l.length - i<f->acc.length+4 * (l.length - i)<=4 * l.length+16 ->
  qo (uv n l) f (acc,i)=some (acc++(Xl g (l.drop i)++[39])):=by
 intro g;have G:∀ (acc:List UInt8) (O:List UInt8×Nat->Option (List UInt8)),acc.length<=4 * l.length+16->uv n l O (acc,l.length)=some (acc++[39]):=by
  intro acc O ha;unfold uv
  dsimp only
  rw[kdf (jR _),kcf,zH (qqs (by rw[jb]; simp only[ja,jc]; omega))]
 induction g with
 | zero=>
  intro i f acc hi hg hf ha;obtain⟨f,rfl⟩:=jj (by omega:f≠0);have:i=l.length:=by omega
  subst this;rw[qO,G acc _ (by omega)];rfl
 | succ g ih=>
  intro i f acc hi hg hf ha;obtain⟨f,rfl⟩:=jj (by omega:f≠0);rw[qO];by_cases he:i=l.length
  ·subst he
   rw[List.drop_length,RU,G acc _ (by omega)];rfl
  have y:i<l.length:=by omega
  have hx:=jf y;have H:l.drop i=l[i]::l.drop (i+1):=jn y;have hstp:=qhr (c:=l[i]) (t:=l.drop (i+1));have P:=LO (l[i]::l.drop (i+1));have hlen:(l[i]::l.drop (i+1)).length=l.length - i:=by rw[← H,jM]
  have q:∀ (p:List UInt8) (j:Nat),p.length<=4->j=i+LQ (l[i]::l.drop (i+1))->qo (uv n l) f (acc++p,j)=some (acc++(p++Xl g ((l[i]::l.drop (i+1)).drop (LQ (l[i]::l.drop (i+1))))++[39])):=by
   intro p j hp hj;subst hj;rw[ih (i+LQ (l[i]::l.drop (i+1))) f (acc++p) (by omega) (by omega) (by omega) (by rw[jb]; omega)];rw[← H,List.drop_drop];simp
  have I:qP l i=(eY (l[i]::l.drop (i+1))).1:=by unfold qP; rw[qlq,H]
  have J:xG l i=i+(eY (l[i]::l.drop (i+1))).2:=by unfold xG; rw[qlq,H]
  have z:=qgz n (l.drop i) [239,191,189];rw[H]at z ⊢;rw[Xl];generalize hcc:l[i]=c at *;generalize htt:l.drop (i+1)=t at *;generalize qo (uv n l) f=O at q ⊢;have hhl:(lA c).length=2:=rfl;have L:=c.toNat_lt;have w:∀ p:List UInt8,p.length<=8->decide ((qT (acc++p)).length * 1<=140737488355328)=true:=fun p hp=>qqs (by rw[jb]; omega)
  have Q:=(og ⟨c.toNat,L⟩).2.1;have R:=(og ⟨c.toNat,L⟩).2.2;simp only at Q R;have A:∀ j,j=i+LQ (c::t)->(chk (decide ((qT (acc++([92,120]:List UInt8))).length * 1<=140737488355328)) (
    bnd (idx ([48,49,50,51,52,53,54,55,56,57,97,98,99,100,101,102]:List UInt8) (Int.fdiv ((c.toNat:Nat):Int) (2 ^ (min (Int.toNat (4:Int)) (kbt .u8))))) fun a=>
    chk (decide ((qT ((acc++([92,120]:List UInt8))++[a])).length * 1<=140737488355328)) (
    bnd (idx ([48,49,50,51,52,53,54,55,56,57,97,98,99,100,101,102]:List UInt8) (kwr .u8 (((jr (kbt .u8) ((c.toNat:Nat):Int) &&& jr (kbt .u8) (15:Int)).toNat:Nat):Int))) fun m=>
    chk (decide ((qT (((acc++([92,120]:List UInt8))++[a])++[m])).length * 1<=140737488355328)) (
    O ((((acc++([92,120]:List UInt8))++[a])++[m]),j)))))=some (acc++(92::120::lA c++Xl g ((c::t).drop (LQ (c::t)))++[39])):=by
   intro j hj;rw[zH (w _ (by simp)),Q,qc,js,zH (w _ (by simp)),R,qc,js,zH (w _ (by simp))];exact q (92::120::lA c) j (by simp[hhl]) hj
  unfold uv
  dsimp only
  rw[kdt y,kct,kct,I,J,By];have S:idx l ((i:Nat):Int)=some c:=qf hx;by_cases D:rI (c::t)=0
  ·
   have u:128<=c.toNat:=Decidable.byContradiction fun h=>by rw[LP (by omega)]at D; cases D
   have hnp:(decide ((([239,191,189]:List UInt8).length)<=(c::t).length)&&(c::t).take (([239,191,189]:List UInt8).length)==([239,191,189]:List UInt8))=false:=by
    cases x:(decide ((([239,191,189]:List UInt8).length)<=(c::t).length)&&(c::t).take (([239,191,189]:List UInt8).length)==([239,191,189]:List UInt8))with
    | false=>rfl
    | true=>
     exfalso;simp only[ji,kde,beq_iff_eq]at x;have e:=x.2
     match t,x.1 with
     | d::e'::t',_=>
      simp only[ja,jc,List.take_succ_cons,List.take_zero,List.cons.injEq,and_true]at e;obtain⟨rfl,rfl,rfl⟩:=e;rw[qki]at D;cases D
   have s:LQ (c::t)=1:=by unfold LQ; rw[if_pos D]
   rw[if_pos (.inl D),qo3 u D];simp only;rw[show(bif(((65533:Nat):Int)==92)then true else(((65533:Nat):Int)==39))=false from rfl,kcf,show(((65533:Nat):Int)==10)=false from rfl,kcf,show(((65533:Nat):Int)==9)=false from rfl,kcf,show(((65533:Nat):Int)==13)=false from rfl,kcf];rw[show((!(bif decide (((65533:Nat):Int)<32)then true else(((65533:Nat):Int)==127)))&&(((65533:Nat):Int)==65533))=true from rfl,natI_nat,zg,qc,kct,zH (kdt hi),H,z,hnp,zg,qc];rw[show(bif(bif decide (((65533:Nat):Int)<32)then true else(((65533:Nat):Int)==127))then true else(bif(((65533:Nat):Int)==65533)then(!false)else false))=true from rfl,kct,S,qc];exact A _ (by rw[s])
  by_cases u:c.toNat<128
  ·have h1:rI (c::t)=1:=LP u
   have s:LQ (c::t)=1:=by unfold LQ; rw[if_neg D,h1]
   have hu:kwr .u32 ((c.toNat:Nat):Int)=((c.toNat:Nat):Int):=qri (by omega);have T:u8I (kwr .u8 ((c.toNat:Nat):Int))=some c:=by rw[u8w,Nat.mod_eq_of_lt L]; exact TZ c
   rw[qmn u];simp only;rw[hu];by_cases M:c.toNat=39\/c.toNat=92
   ·rw[if_neg (by omega),if_pos M]
    rw[show(bif(((c.toNat:Nat):Int)==92)then true else(((c.toNat:Nat):Int)==39))=true from by rcases M with h|h<;>rw[h]<;>rfl,kct,zH (w _ (by simp)),kdt (by omega:((c.toNat:Nat):Int)<=127),kct,T,qc,js,zH (w _ (by simp))]
    exact q [92,c] _ (by simp) (by rw[s])
   simp only[not_or]at M;rw[show(bif(((c.toNat:Nat):Int)==92)then true else(((c.toNat:Nat):Int)==39))=false from by
    rw[show(((c.toNat:Nat):Int)==92)=false from by rw[kbf]; omega,show(((c.toNat:Nat):Int)==39)=false from by rw[kbf]; omega]; rfl,kcf]
   by_cases v:c.toNat=10
   ·rw[if_neg (by omega),if_neg (by omega),if_pos v,show(((c.toNat:Nat):Int)==10)=true from by rw[v]; rfl,kct,zH (w _ (by simp))]
    exact q [92,110] _ (by simp) (by rw[s])
   rw[show(((c.toNat:Nat):Int)==10)=false from by rw[kbf]; omega,kcf];by_cases U:c.toNat=9
   ·rw[if_neg (by omega),if_neg (by omega),if_neg v,if_pos U,show(((c.toNat:Nat):Int)==9)=true from by rw[U]; rfl,kct,zH (w _ (by simp))]
    exact q [92,116] _ (by simp) (by rw[s])
   rw[show(((c.toNat:Nat):Int)==9)=false from by rw[kbf]; omega,kcf];by_cases E:c.toNat=13
   ·rw[if_neg (by omega),if_neg (by omega),if_neg v,if_neg U,if_pos E,show(((c.toNat:Nat):Int)==13)=true from by rw[E]; rfl,kct,zH (w _ (by simp))]
    exact q [92,114] _ (by simp) (by rw[s])
   rw[show(((c.toNat:Nat):Int)==13)=false from by rw[kbf]; omega,kcf];have F:(((c.toNat:Nat):Int)==65533)=false:=by rw[kbf]; omega
   rw[F,Bool.and_false];simp only[qD,kcf,qc];rw[zH (by rfl:true=true)];by_cases N:c.toNat<32\/c.toNat=127
   ·rw[show(bif(bif decide (((c.toNat:Nat):Int)<32)then true else(((c.toNat:Nat):Int)==127))then true else false)=true from by
     rcases N with h|h
     ·rw[kdt (by omega:((c.toNat:Nat):Int)<32)]; rfl
     rw[h]; rfl,kct,S,qc]
    have hpc:(if rI (c::t)=0\/c.toNat=127 then 92::120::lA c
      else if c.toNat=39\/c.toNat=92 then[92,c]
      else if c.toNat=10 then[92,110]
      else if c.toNat=9 then[92,116]
      else if c.toNat=13 then[92,114]
      else if c.toNat<32 then 92::120::lA c
      else(c::t).take (rI (c::t)))=92::120::lA c:=by
     by_cases V:c.toNat=127
     ·rw[if_pos (.inr V)]
     rw[if_neg (by omega),if_neg (by omega),if_neg v,if_neg U,if_neg E,if_pos (by omega)]
    rw[hpc];exact A _ (by rw[s])
   simp only[not_or]at N;rw[show(bif(bif decide (((c.toNat:Nat):Int)<32)then true else(((c.toNat:Nat):Int)==127))then true else false)=false from by
    rw[kdf (by omega:¬ ((c.toNat:Nat):Int)<32),show(((c.toNat:Nat):Int)==127)=false from by rw[kbf]; omega]; rfl,kcf]
   rw[kdt (by omega:((c.toNat:Nat):Int)<=127),kct,T,qc,zH (w _ (by simp))];rw[if_neg (by omega),if_neg (by omega),if_neg v,if_neg U,if_neg E,if_neg N.1,h1];exact q [c] _ (by simp) (by rw[s])
  
  have h1:rI (c::t)≠1:=fun h=>by
   rw[ZM,if_neg u]at h;split at h
   ·cases h
   split at h
   ·cases h
   split at h
   ·cases h
   split at h
   ·cases h
   split at h
   ·cases h
   split at h
   ·cases h
   split at h
   ·cases h
   split at h
   ·cases h
   split at h<;>cases h
  obtain⟨k,hk⟩:∃ k,rI (c::t)=k+2:=⟨rI (c::t) - 2,by omega⟩;obtain⟨r,hr,hr128,hrm,hc194,B⟩:=qi4 hk;have s:LQ (c::t)=k+2:=by unfold LQ; rw[if_neg D,hk]
  have hu:kwr .u32 ((r:Nat):Int)=((r:Nat):Int):=qri (by omega);rw[hr];simp only;rw[hu];rw[if_neg (by omega),if_neg (by omega),if_neg (by omega),if_neg (by omega),if_neg (by omega),if_neg (by omega),hk];rw[show(bif(((r:Nat):Int)==92)then true else(((r:Nat):Int)==39))=false from by
   rw[show(((r:Nat):Int)==92)=false from by rw[kbf]; omega,show(((r:Nat):Int)==39)=false from by rw[kbf]; omega]; rfl,kcf,show(((r:Nat):Int)==10)=false from by rw[kbf]; omega,kcf,show(((r:Nat):Int)==9)=false from by rw[kbf]; omega,kcf,show(((r:Nat):Int)==13)=false from by rw[kbf]; omega,kcf]
  have X:(bif decide (((r:Nat):Int)<32)then true else(((r:Nat):Int)==127))=false:=by
   rw[kdf (by omega:¬ ((r:Nat):Int)<32),show(((r:Nat):Int)==127)=false from by rw[kbf]; omega]; rfl
  rw[X];have hgo:∀ (K:Option (List UInt8)) (C:UInt8->Option (List UInt8)),(bnd (qD ((!false)&&(((r:Nat):Int)==65533)) (LL ((i:Nat):Int))) fun b=>
    chk (bif((!false)&&(((r:Nat):Int)==65533))then decide (b<=l.length)else true) (
    bnd (qD ((!false)&&(((r:Nat):Int)==65533)) (gj n (l.drop b) ([239,191,189]:List UInt8))) fun o=>
    bif(bif false then true else(bif(((r:Nat):Int)==65533)then(!o)else false))then(bnd (idx l ((i:Nat):Int)) C)else K))=K:=by
   intro K C;by_cases F:r=65533
   ·have hp3:(decide ((([239,191,189]:List UInt8).length)<=(c::t).length)&&(c::t).take (([239,191,189]:List UInt8).length)==([239,191,189]:List UInt8))=true:=by
     rcases B with ⟨_,h,_⟩|⟨hk1,_,_,_,_,h⟩|⟨_,h,_⟩
     ·omega
     ·have h3:=h F
      have Y:=P.2;rw[hk,hk1]at Y;simp only[ji,kde,beq_iff_eq];exact⟨Y,h3⟩
     omega
    subst F;rw[show((!false)&&(((65533:Nat):Int)==65533))=true from rfl,natI_nat,zg,qc,kct,zH (kdt hi),H,z,hp3,zg,qc];rfl
   have:(((r:Nat):Int)==65533)=false:=by rw[kbf]; omega
   rw[this];rfl
  rw[hgo];rw[kdf (by omega:¬ ((r:Nat):Int)<=127),kcf];rcases B with ⟨rfl,Z,x⟩|⟨rfl,Z,hr2,hr3,x,_⟩|⟨rfl,Z,x⟩
  ·rw[kdt (by omega:((r:Nat):Int)<=2047),kct,fd6,u8w (r / 64),qrq (by omega),qc,u8w r,qok (by omega),qc,zH (w _ (by simp))]
   have:=q ((c::t).take 2) (i+(0+2)) (by rw[jt]; omega) (by rw[s]);rw[x]at this;rw[show(c::t).take (0+2)=[UInt8.ofNat (192+r / 64 % 256),UInt8.ofNat (128+r % 256 % 64)]from x];exact this
  ·rw[kdf (by omega:¬ ((r:Nat):Int)<=2047),kcf]
   have hk6:fP n l i acc O true=some (acc++((c::t).take (1+2)++Xl g ((c::t).drop (LQ (c::t)))++[39])):=by
    unfold fP;rw[kct,kdt y,kct,I,J,hr]
    dsimp only
    rw[qrd,u8w (r / 4096),qrr (by omega),qc,fd6,u8w (r / 64),qok (by omega),qc,u8w r,qok (by omega),qc,zH (w _ (by simp))];have:=q ((c::t).take 3) (i+(1+2)) (by rw[jt]; omega) (by rw[s]);rw[x]at this;rw[show(c::t).take (1+2)=[UInt8.ofNat (224+r / 4096 % 256),UInt8.ofNat (128+r / 64 % 256 % 64),UInt8.ofNat (128+r % 256 % 64)]from x];exact this
   by_cases hs:r<55296
   ·rw[kdt (by omega:((r:Nat):Int)<55296),kct]
    exact hk6
   rw[kdf (by omega:¬ ((r:Nat):Int)<55296),kcf,kdt (by omega:(57343:Int)<((r:Nat):Int)),kct,kdt (by omega:((r:Nat):Int)<=65535)];exact hk6
  rw[kdf (by omega:¬ ((r:Nat):Int)<=2047),kcf,kdf (by omega:¬ ((r:Nat):Int)<55296),kcf,kdt (by omega:(57343:Int)<((r:Nat):Int)),kct,kdf (by omega:¬ ((r:Nat):Int)<=65535)];unfold fP;rw[kcf,kdt y,kct,I,J,hr]
  dsimp only
  rw[hu,kdt (by omega:((r:Nat):Int)>65535),kct,kdt (by omega:((r:Nat):Int)<=1114111),kct];rw[qro,u8w (r / 262144),qrs (by omega),qc,qrd,u8w (r / 4096),qok (by omega),qc,fd6,u8w (r / 64),qok (by omega),qc,u8w r,qok (by omega),qc,zH (w _ (by simp))];have:=q ((c::t).take 4) (i+(2+2)) (by rw[jt]; omega) (by rw[s]);rw[x]at this;rw[show(c::t).take (2+2)=[UInt8.ofNat (240+r / 262144 % 256),UInt8.ofNat (128+r / 4096 % 256 % 64),UInt8.ofNat (128+r / 64 % 256 % 64),UInt8.ofNat (128+r % 256 % 64)]from x];exact this
theorem EY (a:l.length<n):bA n l=some (GQ l):=by
 unfold bA GQ;rw[zH (qqs (by simp))];have:=qhl (n:=n) hl l.length 0 n [39] (by omega) (by omega) (by omega) (by simp only[ja,jc]; omega);exact this
end
end W
end
section
open Go Ax
namespace W
end W
end
section
open Go Ax
namespace W
end W
end
section
open Go Ax
namespace W
end W
end
section
open Go Ax
namespace W
theorem qG {A R:Type} (a:A) (k:A->Option R):bnd (some a) k=k a:=by
 generalize h:some a=o;cases h;rfl
theorem ql {A:Type} (a b:A):(bif true then a else b)=a:=by
 generalize h:true=o;cases h;rfl
theorem qk {A:Type} (a b:A):(bif false then a else b)=b:=by
 generalize h:false=o;cases h;rfl
def CB (s:List UInt8):List UInt8:=bif xl s then s else GQ s
def qmh (s:List UInt8):List UInt8:=bif Uq s then s else GQ s
theorem EP (s:List UInt8):(GQ s).length<=4 * s.length+2:=by
 have:=RT s.length s;simp only[GQ,ja,jb,jc]; omega
theorem Fo (s:List UInt8):(CB s).length<=4 * s.length+2:=by
 unfold CB;have:=EP s;cases xl s with
 | true=>simp only[kct]; omega
 | false=>exact this
theorem ib (s:List UInt8):(qmh s).length<=4 * s.length+2:=by
 unfold qmh;have:=EP s;cases Uq s with
 | true=>simp only[kct]; omega
 | false=>exact this
section
variable {n:Nat} (hn:n<=137438953472)
include hn
theorem VP {s:List UInt8} (h:s.length<n) (a:s.length<=1073741824):dt n s=some (CB s):=by
 unfold dt CB;rw[gY h (by omega),qc,EY (by omega) h];cases xl s<;>rfl
theorem ER {s:List UInt8} (h:s.length<n) (a:s.length<=1073741824) (h2:28<n):QE n s=some (CB s):=by
 unfold QE CB;rw[fl h h2 (by omega),qc,NK (by omega) h];cases xl s<;>rfl
theorem qkh {s:List UInt8} (h:s.length<n) (a:s.length<=1073741824):Vw n s=some (qmh s):=by
 unfold Vw qmh;rw[Vf h,qc,EY (by omega) h];cases Uq s<;>rfl
theorem qni {s:List UInt8} (h:s.length<n) (a:s.length<=1073741824):Gc n s=some (qmh s):=by
 unfold Gc qmh;rw[BF h (by omega),qc,NK (by omega) h];cases Uq s<;>rfl
end
theorem lE (sep x:List UInt8):∀ a:List (List UInt8),Lib.join (a++[x]) sep=if a=[]then x else Lib.join a sep++sep++x
 | []=>by simp[Lib.join,List.intercalate]
 | [y]=>by simp[Lib.join,List.intercalate]
 | y::z::a=>by
  have:=lE sep x (z::a);simp only[Lib.join,List.intercalate,List.cons_append,List.intersperse_cons₂,List.flatten_cons]at this ⊢;rw[this];simp
theorem Fl (sep:List UInt8) (b:sep.length=2):∀ a:List (List UInt8),(Lib.join a sep).length<=(a.map fun x=>x.length+2).sum
 | []=>by simp[Lib.join,List.intercalate]
 | [y]=>by simp[Lib.join,List.intercalate]
 | y::z::a=>by
  have:=Fl sep b (z::a);simp only[Lib.join,List.intercalate,List.intersperse_cons₂,List.flatten_cons,jb,jk,jA]at this ⊢;omega
mutual
def UT:Val->List UInt8
 | .mk k b i s l ks=>
  if k=1 then(bif b then[116,114,117,101]else[102,97,108,115,101])
  else if k=2 then qbr i
  else if k=3 then GQ s
  else if k=6 then[35,110]++qbr i
  else if k=7 then[35,101]++qbr i
  else if k=4 then([91]++Lib.join (gq k ks l) [44,32])++[93]
  else if k=5 then([123]++Lib.join (gq k ks l) [44,32])++[125]
  else[110,117,108,108]
def gq (k:Int):List (List UInt8)->List Val->List (List UInt8)
 | _,[]=>[]
 | ks,v::l=>(bif k==5 then(qmh (ks.headD [])++[58,32])++UT v else UT v)::gq k ks.tail l
end
inductive ShOk:Val->Prop where
 | mk {k:Int} {b:Bool} {i:Int} {s:List UInt8} {l:List Val} {ks:List (List UInt8)} (h1:k=5->l.length<=ks.length) (h2:k=4\/k=5->∀ x∈l,ShOk x):ShOk (.mk k b i s l ks)
theorem Fw (k:Int):∀ (l:List Val) (ks:List (List UInt8)),(gq k ks l).length=l.length
 | [],_=>rfl
 | _::l,ks=>by simp[gq,Fw k l]
theorem Fv (k:Int):∀ (l:List Val) (ks:List (List UInt8)) (i:Nat) (x:Val),l[i]? =some x->(gq k ks l)[i]? =some (bif k==5 then(qmh ((ks[i]?).getD [])++[58,32])++UT x else UT x)
 | v::l,ks,0,x,h=>by
  cases h;simp only[gq,jd];cases ks<;>rfl
 | v::l,ks,i+1,x,h=>by
  simp only[gq,je];rw[Fv k l ks.tail i x (by simpa using h),List.getElem?_tail]
end W
end
section
open Go Ax
namespace W
theorem qjt {i:Int} (h:isz i<1099511627776):(qbr i).length<=20:=by
 have h:=qly h;exact qbs h.1 h.2
mutual
theorem DF:∀ v:Val,tm v<1099511627776->(UT v).length<=24 * tm v
 | .mk k b i s l ks,h=>by
  simp only[tm]at h ⊢;have h1:=qjt (i:=i) (by omega);have h2:=EP s;have h3:=ZL k l ks (by omega);have h4:=Fl [44,32] rfl (gq k ks l);have h5:(ks.map fun k=>1+k.length).sum=sS ks:=rfl
  rw[h5]at h ⊢;unfold UT;split
  ·cases b<;>simp only[kct,kcf,ja,jc]<;>omega
  split
  ·omega
  split
  ·omega
  split
  ·simp only[jb,ja,jc]; omega
  split
  ·simp only[jb,ja,jc]; omega
  split
  ·simp only[jb,ja,jc]; omega
  split
  ·simp only[jb,ja,jc]; omega
  simp only[ja,jc]; omega
theorem ZL (k:Int):∀ (l:List Val) (ks:List (List UInt8)),br l<1099511627776->((gq k ks l).map fun x=>x.length+2).sum<=24 * br l+4 * sS ks
 | [],ks,_=>by simp[gq]
 | v::l,ks,h=>by
  simp only[br]at h ⊢;have h1:=DF v (by omega);have h2:=ZL k l ks.tail (by omega);have h3:=ib (ks.headD []);have h4:1 * (ks.headD []).length+sS ks.tail<=sS ks:=by
   cases ks with
   | nil=>simp[sS]
   | cons a ks=>simp[sS]
  simp only[gq,jk,jA];cases k==5 with
  | true=>simp only[kct,jb,ja,jc]; omega
  | false=>simp only[kcf]; omega
end
theorem GX {A:Type} {l:List A} {i:Nat} {x:A} (h:l[i]? =some x):l.take i++[x]=l.take (i+1):=by rw[List.take_succ,h]; rfl
theorem aL {A:Type} (f:A->Nat):∀ (l:List A) (i:Nat),((l.take i).map f).sum<=(l.map f).sum
 | [],i=>by simp
 | x::l,0=>by simp
 | x::l,i+1=>by have:=aL f l i; simp only[List.take_succ_cons,jk,jA]; omega
def qqu (x1:Int) (t:List UInt8):List UInt8:=bif x1==5 then([123]++t)++[125]else([91]++t)++[93]
section
variable {n:Nat} (hn:n<=137438953472) {x1:Int} {l:List Val} {ks:List (List UInt8)} (hsz:400+(br l+sS ks)<=n) (hb:br l+sS ks<=1073741824) (hk:x1=4\/x1=5)
include hn hsz hb hk
theorem Se {g:Val->Option (List UInt8)} (h:∀ v∈l,g v=some (UT v)) (j:x1=5->l.length<=ks.length) :
  qo (mU n l g x1 ks) n (([]:List (List UInt8)),(0:Int))=some (qqu x1 (Lib.join (gq x1 ks l) [44,32])):=by
 have t:=ZL x1 l ks (by omega);have u:=Fl [44,32] rfl (gq x1 ks l);have w:=vD l;have hlen:=Fw x1 l ks;refine bY (fun i=>((gq x1 ks l).take i,((i:Nat):Int))) l.length (fun i f m=>?_) (fun m=>?_) (by omega)
 ·obtain⟨x,b⟩:∃ x,l[i]? =some x:=⟨_,jf f⟩
  have hp:=Fv x1 l ks i x b;have c:=h x (qw b);have o:=vM (qw b);have p:=DF x (by omega);obtain⟨a1,a2,a3,a4,a5,z⟩:=x;simp only[mU,ze,qn,qx f,ql,qf b,qG,c];rcases hk with rfl|rfl
  ·simp only[Int.reduceBEq,qk,ql,mT]at hp ⊢
   rw[GX hp,zz (by rw[qn,jt]; omega),qU (by omega)]
  have a:i<ks.length:=by have:=j rfl; omega
  obtain⟨y,d⟩:∃ y,ks[i]? =some y:=⟨_,jf a⟩;have q:1+y.length<=sS ks:=zd (fun k=>1+k.length) (qw d)
  have r:=ib y;rw[d]at hp;simp only[BEq.rfl,ql,mT,qx a,qf d,qG,qkh hn (s:=y) (by omega) (by omega),jV]at hp ⊢;rw[zz (by unfold xr; simp only[ja,jc]; omega),zz (by unfold xr; simp only[jb,ja,jc]; omega),GX hp,zz (by rw[qn,jt]; omega),qU (by omega)]
 have e:(gq x1 ks l).take l.length=gq x1 ks l:=List.take_of_length_le (by omega);simp only[mU,ze,qm,qk,e,Qv];rw[zz (by omega),zz (by omega)];simp only[qG];rcases hk with rfl|rfl
 ·simp only[Int.reduceBEq,qk]
  rw[zz (by unfold xr; simp only[ja,jc]; omega),zz (by unfold xr; simp only[jb,ja,jc]; omega)];rfl
 simp only[BEq.rfl,ql];rw[zz (by unfold xr; simp only[ja,jc]; omega),zz (by unfold xr; simp only[jb,ja,jc]; omega)];rfl
omit hk in
theorem qft (k:Int) {i:Nat} {p:List UInt8} (hp:(gq k ks l)[i]? =some p) :
  (Lib.join ((gq k ks l).take i) [44,32]).length<=24 * (br l+sS ks)/\p.length<=24 * (br l+sS ks)/\Lib.join ((gq k ks l).take (i+1)) [44,32]=(bif decide ((i:Int)>0)then Lib.join ((gq k ks l).take i) [44,32]++[44,32]else Lib.join ((gq k ks l).take i) [44,32])++p:=by
 have hs:=ZL k l ks (by omega);have hj:=Fl [44,32] rfl ((gq k ks l).take i);have ht:=aL (fun x=>x.length+2) (gq k ks l) i
 have hm:p.length+2<=_:=zd (fun x=>x.length+2) (qw hp)
 refine⟨by omega,by omega,?_⟩;rw[← GX hp,lE];cases i with
 | zero=>simp[Lib.join,List.intercalate]
 | succ i=>
  have hlt:=qL hp;rw[if_neg (by intro h; have:=congrArg List.length h; rw[jt,jc]at this; omega),kdt (by omega)];simp
omit hk in
theorem qg4 {g:Val->Option (List UInt8)} (hg:∀ v∈l,g v=some (UT v)) :
  qo (bF n l g) n (([]:List UInt8),(0:Int))=some (qqu 4 (Lib.join (gq 4 ks l) [44,32])):=by
 have hs:=ZL 4 l ks (by omega);have hj:=Fl [44,32] rfl (gq 4 ks l);have hl:=vD l;have hlen:=Fw 4 l ks;refine bY (fun i=>(Lib.join ((gq 4 ks l).take i) [44,32],((i:Nat):Int))) l.length (fun i hi nx=>?_) (fun nx=>?_) (by omega)
 ·obtain⟨x,hx⟩:∃ x,l[i]? =some x:=⟨_,jf hi⟩
  have hp:=Fv 4 l ks i x hx;have hgx:=hg x (qw hx);obtain⟨q1,q2,q3⟩:=qft hn hsz hb 4 hp;obtain⟨a1,a2,a3,a4,a5,a6⟩:=x;simp only[Int.reduceBEq,qk]at q2 q3;simp only[bF,tq,ze,qx hi,ql,qf hx,qG,hgx,q3];cases decide (((i:Nat):Int)>0)with
  | true=>
   simp only[ql];rw[zz (by unfold xr; simp only[ja,jc]; omega),zz (by unfold xr; simp only[jb,ja,jc]; omega),qU (by omega)]
  | false=>
   simp only[qk];rw[zz (by unfold xr; omega),qU (by omega)]
 have e:(gq 4 ks l).take l.length=gq 4 ks l:=List.take_of_length_le (by omega);show bF n l g nx (Lib.join (List.take l.length (gq 4 ks l)) [44,32],((l.length:Nat):Int))=_;rw[e];simp only[bF,ze,qm,qk];rw[zz (by unfold xr; simp only[ja,jc]; omega),zz (by unfold xr; simp only[jb,ja,jc]; omega)];rfl
omit hk in
theorem qg5 {g:Val->Option (List UInt8)} (hg:∀ v∈l,g v=some (UT v)) (hL:l.length<=ks.length) :
  qo (bG n l ks g) n (([]:List UInt8),(0:Int))=some (qqu 5 (Lib.join (gq 5 ks l) [44,32])):=by
 have hs:=ZL 5 l ks (by omega);have hj:=Fl [44,32] rfl (gq 5 ks l);have hl:=vD l;have hlen:=Fw 5 l ks;refine bY (fun i=>(Lib.join ((gq 5 ks l).take i) [44,32],((i:Nat):Int))) l.length (fun i hi nx=>?_) (fun nx=>?_) (by omega)
 ·obtain⟨x,hx⟩:∃ x,l[i]? =some x:=⟨_,jf hi⟩
  have hp:=Fv 5 l ks i x hx;have hgx:=hg x (qw hx);have hik:i<ks.length:=by omega
  obtain⟨y,hy⟩:∃ y,ks[i]? =some y:=⟨_,jf hik⟩;have hyl:1+y.length<=sS ks:=zd (fun k=>1+k.length) (qw hy)
  have hyk:=ib y;have hvx:=vM (qw hx);have hxl:=DF x (by omega);obtain⟨q1,q2,q3⟩:=qft hn hsz hb 5 hp;obtain⟨a1,a2,a3,a4,a5,a6⟩:=x;simp only[BEq.rfl,ql,hy,jV]at q2 q3;simp only[bG,tt,ze,qx hi,ql,qf hx,qf hy,qG,hgx,q3,qni hn (s:=y) (by omega) (by omega)];cases decide (((i:Nat):Int)>0)with
  | true=>
   simp only[ql];rw[zz (by unfold xr; simp only[ja,jc]; omega)];rw[zz (by unfold xr; simp only[jb,ja,jc]; omega)];rw[zz (by unfold xr; simp only[jb,ja,jc]; omega)];rw[zz (by unfold xr; simp only[jb,ja,jc]; omega),qU (by omega)];simp only[js]
  | false=>
   simp only[qk];rw[zz (by unfold xr; omega)];rw[zz (by unfold xr; simp only[jb,ja,jc]; omega)];rw[zz (by unfold xr; simp only[jb,ja,jc]; omega),qU (by omega)];simp only[js]
 have e:(gq 5 ks l).take l.length=gq 5 ks l:=List.take_of_length_le (by omega);show bG n l ks g nx (Lib.join (List.take l.length (gq 5 ks l)) [44,32],((l.length:Nat):Int))=_;rw[e];simp only[bG,ze,qm,qk];rw[zz (by unfold xr; simp only[ja,jc]; omega),zz (by unfold xr; simp only[jb,ja,jc]; omega)];rfl
end
theorem qhk:∀ n:Nat,n<=137438953472->∀ v:Val,ShOk v->tm v<=1073741824->401+tm v<=n->bS n v=some (UT v)/\pg n v=some (UT v):=by
 intro n
 induction n with
 | zero=>intro _ v _ _ h; omega
 | succ n ih=>
  intro hn v j d hsz;obtain⟨k,b,i,s,l,ks⟩:=v;have e:401+(1+isz i+s.length+br l+sS ks)<=n+1:=hsz;have g:1+isz i+s.length+br l+sS ks<=1073741824:=d;have a:=qly (i:=i) (by omega);have h1:=qbs a.1 a.2;have t1:=qju (f:=n) (by omega) a.1 a.2;have t2:=qj0 (f:=n) (by omega) a.1 a.2;have t3:bA n s=some (GQ s):=EY (by omega) (by omega);have t4:nz n s=some (GQ s):=NK (by omega) (by omega);cases j with
  | mk hv1 hv2=>
  simp only[bS,pg,Xv,VW];unfold UT;by_cases k1:k=1
  ·subst k1; cases b<;>exact⟨rfl,rfl⟩
  by_cases k2:k=2
  ·subst k2
   simp only[Int.reduceBEq,ql,qk,t1,t2,qG];exact⟨rfl,rfl⟩
  by_cases k3:k=3
  ·subst k3
   simp only[Int.reduceBEq,ql,qk,t3,t4,qG];exact⟨rfl,rfl⟩
  by_cases k6:k=6
  ·subst k6
   simp only[Int.reduceBEq,ql,qk,t1,t2,qG];rw[zz (by unfold xr; simp only[ja,jc]; omega)];exact⟨rfl,rfl⟩
  by_cases k7:k=7
  ·subst k7
   simp only[Int.reduceBEq,ql,qk,t1,t2,qG];rw[zz (by unfold xr; simp only[ja,jc]; omega)];exact⟨rfl,rfl⟩
  have m:=vD l;by_cases k4:k=4
  ·subst k4
   have c:∀ v∈l,bS n v=some (UT v)/\pg n v=some (UT v):=fun v hm=>ih (by omega) v (hv2 (.inl rfl) v hm) (by have:=vM hm; omega) (by have:=vM hm; omega)
   refine⟨?_,?_⟩
   ·exact Se (ks:=ks) (x1:=4) (l:=l) (by omega) (by omega) (by omega) (.inl rfl) (fun v hm=>(c v hm).1) hv1
   exact qg4 (ks:=ks) (l:=l) (by omega) (by omega) (by omega) (fun v hm=>(c v hm).2)
  by_cases k5:k=5
  ·subst k5
   have c:∀ v∈l,bS n v=some (UT v)/\pg n v=some (UT v):=fun v hm=>ih (by omega) v (hv2 (.inr rfl) v hm) (by have:=vM hm; omega) (by have:=vM hm; omega)
   refine⟨?_,?_⟩
   ·exact Se (ks:=ks) (x1:=5) (l:=l) (by omega) (by omega) (by omega) (.inr rfl) (fun v hm=>(c v hm).1) hv1
   exact qg5 (ks:=ks) (l:=l) (by omega) (by omega) (by omega) (fun v hm=>(c v hm).2) (hv1 rfl)
  simp only[kbf.2 k1,kbf.2 k2,kbf.2 k3,kbf.2 k4,kbf.2 k5,kbf.2 k6,kbf.2 k7,qk,if_neg k1,if_neg k2,if_neg k3,if_neg k4,if_neg k5,if_neg k6,if_neg k7];exact⟨rfl,trivial⟩
end W
end
section
open Go Ax
namespace W
theorem qiz:∀ a b:List UInt8,Op.bytesLess a b=decide (a<b)
 | [],[]=>by simp[Op.bytesLess]
 | [],_::_=>by simp[Op.bytesLess]
 | _::_,[]=>by simp[Op.bytesLess]
 | x::xs,y::ys=>by
  have ih:=qiz xs ys;simp only[Op.bytesLess,ih];by_cases h:x<y
  ·simp[h,List.cons_lt_cons_iff]
  by_cases h2:x=y
  ·subst h2; simp[List.cons_lt_cons_iff]
  simp[h,h2,List.cons_lt_cons_iff]
theorem GF {a b c:List UInt8} (h:a<b) (d:b<c):a<c:=List.lt_trans h d
theorem bl (a:List UInt8):¬ a<a:=List.lt_irrefl a
theorem qem {a b:List UInt8}:¬ a<b↔b<=a:=List.not_lt
theorem qow {x y:List UInt8}:(Op.bytesLess x y||x==y)=false↔y<x:=by
 rw[To,qiz]; simp
theorem eR {c:Bool} {a r:Int} {k:Option (Int×Bool)} (h:(bif c then some (a,false)else k)=some (r,true)):c=false/\k=some (r,true):=by
 cases c with
 | false=>exact⟨rfl,h⟩
 | true=>cases h
def Hj (ks:List (List UInt8)):Prop:=∀ (i:Nat) (x y:List UInt8),ks[i]? =some x->ks[i+1]? =some y->x<y
theorem Hj.lt {ks:List (List UInt8)} (h:Hj ks):∀ (d i:Nat) (x y:List UInt8),ks[i]? =some x->ks[i+d+1]? =some y->x<y
 | 0,i,x,y,hx,hy=>h i x y hx hy
 | d+1,i,x,y,hx,hy=>by
  have a:=qL hy;obtain⟨z,hz⟩:∃ z,ks[i+d+1]? =some z:=⟨_,jf (by omega)⟩;exact GF (h.lt d i x z hx hz) (h _ z y hz (by rw[← hy]; congr 1))
theorem Fh {A R:Type} {o:Option A} {k:A->Option R} {r:R} (h:bnd o k=some r):∃ a,o=some a/\k a=some r:=by
 cases o with
 | none=>cases h
 | some a=>exact⟨a,rfl,h⟩
theorem aQ {n:Nat} (s:n<=137438953472) {l:List Val} {g:Val->Int->Int->Option (Int×Bool)} {d:Int} (t:l.length<=n) {Q:Val->Prop} (q:∀ v∈l,∀ d c c',g v d c=some (c',true)->Q v) {m:Nat} {c c':Int}
  (h:qo (fk n l g d) m (c,(0:Int))=some (c',true)):∀ v∈l,Q v:=by
 have key2:∀ (m k:Nat) (c c':Int),qo (fk n l g d) m (c,(k:Int))=some (c',true)->∀ j,k<=j->∀ v,l[j]? =some v->Q v:=by
  intro m
  induction m with
  | zero=>intro k c c' h; cases h
  | succ m ih=>
   intro k c c' h j o v a;rw[qO]at h;have p:k<l.length:=by have:=qL a; omega
   obtain⟨x,e⟩:∃ x,l[k]? =some x:=⟨_,jf p⟩;have f:=q x (qw e);have i:=e;obtain⟨x1,x2,u,w,y,z⟩:=x;simp only[fk,ze,qx p,kct,qf e,qc]at h;obtain⟨⟨r,b⟩,h1,h2⟩:=Fh h;cases b with
   | false=>cases h2
   | true=>
    simp only[jp,kcf]at h2;rw[qU (by omega)]at h2;by_cases he:j=k
    ·subst he
     rw[i]at a;cases a;exact f _ _ _ h1
    exact ih (k+1) r c' h2 j (by omega) v a
 intro v a;obtain⟨j,o⟩:=List.getElem?_of_mem a;exact key2 m 0 c c' h j (jS _) v o
theorem qf4 {n:Nat} (w:n<=137438953472) {ks:List (List UInt8)} {c d:Int} {l:List Val} {g:Val->Int->Int->Option (Int×Bool)} (A:ks.length<=n) {c':Int}:∀ (m k:Nat),k<=ks.length ->
  qo (uG n ks c l g d) m (k:Int)=some (c',true)->bx n l g d c ()=some (c',true)/\∀ (j:Nat) (x y:List UInt8),k<=j+1->ks[j]? =some x->ks[j+1]? =some y->x<y:=by
 intro m
 induction m with
 | zero=>intro k _ h; cases h
 | succ m ih=>
  intro k B h;rw[qO]at h;by_cases he:k=ks.length
  ·subst he
   simp only[uG,qn,qm,kcf]at h;exact⟨h,fun j x y t e i=>by have:=qL i; omega⟩
  have f:k<ks.length:=by omega
  obtain⟨x,e⟩:∃ x,ks[k]? =some x:=⟨_,jf f⟩;simp only[uG,qn,qx f,kct,qf e,qc]at h;cases s:decide (((x.length:Nat):Int)<1)with
  | true=>simp[s]at h
  | false=>
   simp only[s,jo,zg,qc,kcf]at h;cases o:decide (((x.length:Nat):Int)>64)with
   | true=>simp[o]at h
   | false=>
    cases k with
    | zero=>
     have u:qo (uG n ks c l g d) m ((1:Nat):Int)=some (c',true):=by
      have h3:qo (uG n ks c l g d) m (kwr .i64 (((0:Nat):Int)+1))=some (c',true):=by simpa[o]using h
      rwa [qU (by omega)]at h3
     obtain⟨h1,h2⟩:=ih 1 (by omega) u;exact⟨h1,fun j x y _ e i=>h2 j x y (by omega) e i⟩
    | succ k=>
     have v:decide ((((k+1:Nat):Int))>0)=true:=kdt (by omega);obtain⟨z,hz⟩:∃ z,ks[k]? =some z:=⟨_,jf (by omega)⟩;simp only[o,v,jo,Bool.and_true,zg,qh2 (show k+1<=1152921504606846976 by omega),qf hz,qc,kct,kcf]at h;cases p:(Op.bytesLess x z||x==z)with
     | true=>rw[p]at h; cases h
     | false=>
      rw[p,kcf,qU (by omega)]at h;obtain⟨h1,h2⟩:=ih (k+2) (by omega) h;refine⟨h1,fun j a b t q r=>?_⟩;by_cases he:j=k
      ·subst he
       rw[hz]at q; rw[e]at r;cases q; cases r;exact qow.1 p
      exact h2 j a b (by omega) q r
theorem ql4:∀ n:Nat,n<=137438953472->∀ (k:Int) (b:Bool) (i:Int) (s:List UInt8) (l:List Val) (ks:List (List UInt8)) (d c c':Int),tm (.mk k b i s l ks)<=n->uO n (.mk k b i s l ks) d c=some (c',true)->(k=5->ks.length=l.length/\Hj ks)/\ShOk (.mk k b i s l ks):=by
 intro n
 induction n with
 | zero=>intro _ k b i s l ks d c c' _ h; cases h
 | succ n ih=>
  intro B k b i s l ks d c c' m h;have q:br l<=n/\ks.length<=n:=by
   have:=xi ks;simp only[sS]at this;simp only[tm]at m;omega
  have C:=vD l;have o:∀ v∈l,∀ d c c',uO n v d c=some (c',true)->ShOk v:=fun v hm d c c' r=>by
   have D:=vM hm;obtain⟨a1,a2,a3,a4,a5,t⟩:=v;exact(ih (by omega) a1 a2 a3 a4 a5 t d c c' (by omega) r).2
  simp only[uO,ZD]at h;obtain⟨u,_,h⟩:=Fh h;obtain⟨_,p⟩:=eR h;obtain⟨_,f⟩:=eR p;clear p h;cases a:k==5 with
  | true=>
   rw[a,kct]at f;have g:=beq_iff_eq.1 a;subst g;obtain⟨hlen,w⟩:=eR f;have hlen:ks.length=l.length:=by simpa[bne,Int.natCast_inj]using hlen
   obtain⟨h1,h2⟩:=qf4 (by omega) q.2 n 0 (jS _) w;have:=aQ (by omega) (by omega) o h1;exact⟨fun _=>⟨hlen,fun j x y z A=>h2 j x y (by omega) z A⟩,.mk (fun _=>by omega) fun _=>this⟩
  | false=>
   rw[a,kcf]at f;have g:=kbf.1 a;have:=aQ (by omega) (by omega) o f;exact⟨fun e=>absurd e g,.mk (fun e=>absurd e g) fun _=>this⟩
end W
end
section
open Go Ax Go.RowKit
namespace W
set_option maxRecDepth 10000
theorem qkf {A:Type} {l:List A} {i:Nat} {x:A} (h:l[i]? =some x):l.set i x=l:=by
 obtain⟨a,e⟩:=jG.1 h;subst e;exact List.set_getElem_self a
theorem qey:∀ n:Nat,n<=137438953472->∀ v:Val,tm v<n->fu n v=some v:=by
 intro n
 induction n with
 | zero=>intro _ _ h; omega
 | succ n ih=>
  intro hn v q;obtain⟨e,f,g,o,c,d⟩:=v;have t:br c<n/\d.length<n:=by
   have:=xi d;simp only[sS]at this;simp only[tm]at q;omega
  have u:=vD c;have a:∀ k:Nat,(Val.rows (List.replicate k (Val.mk (0:Int) false (0:Int) ([]:List UInt8) ([]:List Val) ([]:List (List UInt8))))).length=k:=fun k=>by simp
  have loop:∀ (m i:Nat),i<=c.length->c.length - i<m->qo (bh n c.length (fu n) d e f g o) m ((i:Int),c)=some (Val.mk e f g o c d):=by
   intro m
   induction m with
   | zero=>intro i _ h; omega
   | succ m ihm=>
    intro i w hm;rw[qO];generalize qo (bh n c.length (fu n) d e f g o) m=nx at ihm ⊢;unfold bh;simp only[a];by_cases j:i<c.length
    ·obtain⟨x,p⟩:∃ x,c[i]? =some x:=⟨_,jf j⟩
     have r:=ih (by omega) x (by have:=vM (List.mem_of_getElem? p); omega);obtain⟨a1,a2,a3,a4,a5,y⟩:=x;rw[kdt (show(i:Int)<(c.length:Int) by omega)];simp only[kct,W.natI_nat,qc,kdt j,qo0,p,r];rw[qU (by omega),qkf p];exact ihm (i+1) (by omega) (by omega)
    rw[kdf (show ¬ (i:Int)<(c.length:Int) by omega)];simp only[kcf];rw[zz (by simp[qi]; omega)]
  simp only[fu,Zp,ze,W.natI_nat,qc,List.length_replicate,decide_true,qo0];rw[zz (by omega)];exact loop n 0 (jS _) (by omega)
theorem qeo {R:Type} {B:(Int×Int->Option R)->Int×Int->Option R} (P:Nat->Bool) (len:Nat) (hmono:∀ a b,a<=b->b<len->P b=true->P a=true)
  (g:∀ i j:Nat,i<j->j<=len->∀ c,B c ((i:Int),(j:Int))=bif P ((i+j) / 2)then c ((((i+j) / 2+1:Nat):Int),(j:Int))else c ((i:Int),(((i+j) / 2:Nat):Int)))
  {rest:Nat->Option R} (he:∀ i:Nat,i<=len->∀ c,B c ((i:Int),(i:Int))=rest i) {n:Nat} (hn:len<n) :
  ∃ i:Nat,i<=len/\(∀ a,a<i->P a=true)/\(∀ a,i<=a->a<len->P a=false)/\qo B n ((0:Int),(len:Int))=rest i:=by
 have key:∀ (m i j:Nat),i<=j->j<=len->j - i<m->(∀ a,a<i->P a=true)->(∀ a,j<=a->a<len->P a=false) ->
   ∃ q:Nat,q<=len/\(∀ a,a<q->P a=true)/\(∀ a,q<=a->a<len->P a=false)/\qo B m ((i:Int),(j:Int))=rest q:=by
  intro m
  induction m with
  | zero=>intro i j _ _ h; omega
  | succ m ih=>
   intro i j o d hm h1 h2;rw[qO];by_cases h:i=j
   ·subst h
    exact⟨i,d,h1,h2,he i d _⟩
   rw[g i j (by omega) d];cases hp:P ((i+j) / 2)with
   | true=>
    exact ih _ _ (by omega) d (by omega) (fun a f=>hmono a _ (by omega) (by omega) hp) h2
   | false=>
    refine ih _ _ (by omega) (by omega) (by omega) h1 fun a f e=>?_;cases p:P a with
    | false=>rfl
    | true=>rw[hmono _ a f e p]at hp; cases hp
 exact key n 0 len (jS _) (jw _) (by omega) (fun a h=>by omega) fun a h r=>by omega
theorem qq2 (z:Int) (a:0<=z) (h1:z<18446744073709551616):kwr .u64 z=z:=qak z a h1
theorem qqx {i j:Nat} (h:i+j<=1152921504606846976):kwr .i64 (Int.fdiv (kwr .u64 (kwr .i64 ((i:Int)+(j:Int)))) (2 ^ (min (Int.toNat (1:Int)) IntKind.u64.bits)))=(((i+j) / 2:Nat):Int):=by
 rw[UW (i:=(i:Int)+(j:Int)) (by omega) (by omega),qq2 _ (by omega) (by omega)];have e:((i:Int)+(j:Int))=((i+j:Nat):Int):=by omega
 have:=fdn (i+j) 2;rw[e,show((2:Int) ^ (min (Int.toNat (1:Int)) IntKind.u64.bits))=((2:Nat):Int)from rfl,this,UW (by omega) (by omega)]
def Hl:Val×Bool:=(Val.mk (0:Int) false (0:Int) ([]:List UInt8) ([]:List Val) ([]:List (List UInt8)),false)
def qa7 (k:Int) (l:List Val) (ks:List (List UInt8)) (key:List UInt8):Val×Bool:=
 if k=5/\key∈ks then(match l[ks.idxOf key]? with|some v=>(v,true)|none=>Hl)else Hl
section
variable {n:Nat} (hn:n<=137438953472) {k:Int} {b:Bool} {i:Int} {s:List UInt8} {l:List Val} {ks:List (List UInt8)} (hsz:tm (.mk k b i s l ks)<n) (hk:ks.length=l.length) (hr:Hj ks)
include hn hsz hk hr
end
end W
end
section
open Go Ax
namespace W
def Rm (s:List UInt8):List (List UInt8)->List (List UInt8)
 | []=>[s]
 | x::l=>if x<s then x::Rm s l else if x=s then x::l else s::x::l
abbrev Up (L:List (List UInt8)):Prop:=L.Pairwise (· < ·)
theorem LF (s y:List UInt8):∀ L,y∈Rm s L↔y=s\/y∈L
 | []=>by simp[Rm]
 | x::l=>by
  unfold Rm;have:=LF s y l;split
  ·simp only[jg,this]
   constructor
   ·rintro(h|h|h)
    ·exact .inr (.inl h)
    ·exact .inl h
    exact .inr (.inr h)
   rintro(h|h|h)
   ·exact .inr (.inl h)
   ·exact .inl h
   exact .inr (.inr h)
  split
  ·rename_i h; subst h
   simp
  simp
theorem Ul (s:List UInt8):∀ L,(Rm s L).length<=L.length+1
 | []=>by simp[Rm]
 | x::l=>by
  have:=Ul s l;unfold Rm;split
  ·simp only[ja]; omega
  split
  ·simp
  simp
theorem GL (s:List UInt8):∀ L,Up L->Up (Rm s L)
 | [],_=>by simp[Rm]
 | x::l,h=>by
  have h:=List.pairwise_cons.1 h;unfold Rm;split
  ·rename_i c
   refine List.pairwise_cons.2 ⟨fun y a=>?_,GL s l h.2⟩;rcases(LF s y l).1 a with rfl|a
   ·exact c
   exact h.1 y a
  split
  ·exact List.pairwise_cons.2 h
  rename_i h1 h2;have b:s<x:=by
   rcases Std.le_iff_lt_or_eq.1 (qem.1 h1)with h3|h3
   ·exact h3
   exact absurd h3.symm h2
  refine List.pairwise_cons.2 ⟨fun y a=>?_,List.pairwise_cons.2 h⟩;rcases jg.1 a with rfl|a
  ·exact b
  exact GF b (h.1 y a)
theorem lC {s x:List UInt8} {l:List (List UInt8)} (b:s<x) (h:Up (x::l)):∀ y∈x::l,y≠s:=fun y a e=>by
 subst e;rcases jg.1 a with rfl|a
 ·exact bl _ b
 exact bl _ (GF b ((List.pairwise_cons.1 h).1 _ a))
theorem qmg {a b:List (List UInt8)} (f:Up a) (g:Up b) (h:∀ x,x∈a↔x∈b):a=b:=by
 have c:a.Nodup:=f.imp fun h e=>by subst e; exact bl _ h
 have d:b.Nodup:=g.imp fun h e=>by subst e; exact bl _ h
 have p:a.Perm b:=(List.perm_ext_iff_of_nodup c d).2 h;refine List.Perm.eq_of_pairwise (le:=(· < ·)) (fun x y _ _ h1 h2=>absurd (GF h1 h2) (bl _)) f g p
section
variable {n:Nat} (hn:n<=137438953472)
include hn
theorem Du {L:List (List UInt8)} (z:Up L) (h:L.length+2<n) (s:List UInt8):ZW n L s true=some (Rm s L):=by
 have key:∀ (suf:List (List UInt8)) (k m:Nat) (acc:List (List UInt8)),(∀ j,suf[j]? =L[k+j]?)->k+suf.length=L.length->suf.length<m->acc.length<=k+1 ->
   (Up suf->acc.length<=k->qo (uj n L s) m (acc,false,(k:Int))=some (acc++Rm s suf))/\((∀ y∈suf,y≠s)->qo (uj n L s) m (acc,true,(k:Int))=some (acc++suf)):=by
  intro suf
  induction suf with
  | nil=>
   intro k m acc p q hm A;obtain⟨m,rfl⟩:∃ r,m=r+1:=⟨m - 1,by simp at hm; omega⟩;have:k=L.length:=by simpa using q
   subst this;simp only[qO];refine⟨fun _ B=>?_,fun _=>?_⟩
   ·unfold uj dT
    simp only[qn,qm,qk,jo,ql];rw[zz (by rw[jb,ja,jc]; omega)];rfl
   unfold uj dT;simp only[qn,qm,qk,jp,List.append_nil]
  | cons x suf ih=>
   intro k m acc p q hm A;obtain⟨m,rfl⟩:∃ r,m=r+1:=⟨m - 1,by simp at hm; omega⟩;have t:L[k]? =some x:=by have:=p 0; simpa using this.symm
   have c:=qL t;have u:∀ j,suf[j]? =L[k+1+j]?:=fun j=>by
    have:=p (j+1);rw[show k+(j+1)=k+1+j by omega]at this;simpa using this
   simp only[ja]at q hm;have f:=fun acc=>ih (k+1) m acc u (by omega) (by omega)
   have k9:∀ (out:List (List UInt8)) (d:Bool) (o:List (List UInt8)×Bool×Int->Option (List (List UInt8))),out.length<=k+1->mH n L (k:Int) s o (out,d)=o ((if x=s then out else out++[x]),d,((k+1:Nat):Int)):=by
    intro out d o C;unfold mH sa;simp only[qf t,qG];by_cases a:x=s
    ·subst a
     simp only[BEq.rfl,jp,qk,if_true];rw[qU (by omega)]
    rw[kbf.2 a,jo,ql,if_neg a,zz (by rw[qn,jb,ja,jc]; omega),qU (by omega)]
   simp only[qO];clear ih;generalize qo (uj n L s) m=o at f ⊢;refine⟨fun hu B=>?_,fun g=>?_⟩
   ·have i:=List.pairwise_cons.1 hu
    unfold uj;simp only[qn,qx c,ql,jo,zg,qf t,qG,qiz];unfold Rm;by_cases b:x<s
    ·rw[kdt b,if_pos b,jp,qk,k9 _ _ _ (by omega),if_neg (by rintro rfl; exact bl _ b),(f (acc++[x]) (by rw[jb,ja,jc]; omega)).1 i.2 (by rw[jb,ja,jc]; omega)]
     simp
    rw[kdf b,if_neg b,jo,ql,zz (by rw[jb,ja,jc]; omega),k9 _ _ _ (by rw[jb,ja,jc]; omega)];by_cases a:x=s
    ·subst a
     rw[if_pos rfl,if_pos rfl,(f (acc++[x]) (by rw[jb,ja,jc]; omega)).2 (fun y l e=>by subst e; exact bl _ (i.1 _ l))]
     simp
    have v:s<x:=by
     rcases Std.le_iff_lt_or_eq.1 (qem.1 b)with h3|h3
     ·exact h3
     exact absurd h3.symm a
    rw[if_neg a,if_neg a];rw[(f (acc++[s]++[x]) (by simp only[jb,ja,jc]; omega)).2 (fun y l=>lC v hu y (List.mem_cons_of_mem _ l))]
    simp
   unfold uj;simp only[qn,qx c,ql,jp,fU,qG,qk];by_cases w:acc.length<=k+1
   ·rw[k9 _ _ _ w,if_neg (g x (by simp))]
    rw[(f (acc++[x]) (by rw[jb,ja,jc]; omega)).2 (fun y l=>g y (List.mem_cons_of_mem _ l))]
    simp
   omega
 have:=(key L 0 n [] (fun j=>by simp) (by simp) (by omega) (by simp)).1 z (by simp)
 unfold ZW;simpa using this
end
def Ck (l:List (List UInt8)) (m:List (List UInt8×Int)):List (List UInt8×Int):=l.foldl (fun m s=>db s 1 m) m
def Xg (l:List (List UInt8)) (L:List (List UInt8)):List (List UInt8):=l.foldl (fun L s=>Rm s L) L
theorem fT (a b:List (List UInt8)) (m:List (List UInt8×Int)):Ck (a++b) m=Ck b (Ck a m):=by simp[Ck]
theorem dw (a b L:List (List UInt8)):Xg (a++b) L=Xg b (Xg a L):=by simp[Xg]
theorem Fg (y:List UInt8):∀ l L,y∈Xg l L↔y∈l\/y∈L
 | [],L=>by simp[Xg]
 | s::l,L=>by
  have:=Fg y l (Rm s L);unfold Xg at this ⊢;rw[List.foldl_cons,this,LF,jg]
  constructor
  ·rintro(h|h|h)
   ·exact .inl (.inr h)
   ·exact .inl (.inl h)
   exact .inr h
  rintro((h|h)|h)
  ·exact .inr (.inl h)
  ·exact .inl h
  exact .inr (.inr h)
theorem Zf:∀ l L,Up L->Up (Xg l L)
 | [],_,h=>h
 | s::l,L,h=>Zf l _ (GL s L h)
theorem tG:∀ l L,(Xg l L).length<=L.length+l.length
 | [],_=>by simp[Xg]
 | s::l,L=>by
  have h1:=tG l (Rm s L);have h2:=Ul s L;simp only[Xg,List.foldl_cons,ja]at h1 ⊢;omega
structure MarkR (m:List (List UInt8×Int)) (L:List (List UInt8)):Prop where
 up:Up L
 nd:(m.map (·.1)).Nodup
 mem:∀ x,x∈m.map (·.1)↔x∈L
theorem MarkR.nil:MarkR [] []:=⟨.nil,.nil,fun _=>Iff.rfl⟩
theorem NC (s:List UInt8) (v:Int):∀ m:List (List UInt8×Int),(db s v m).map (·.1)=if s∈m.map (·.1)then m.map (·.1)else m.map (·.1)++[s]
 | []=>rfl
 | (k,w)::m=>by
  have ih:=NC s v m;by_cases h:s=k
  ·subst h
   simp[db]
  simp only[db,kbf.2 h,kcf,jk,ih,jg,h,false_or];split<;>simp
theorem MarkR.step {m:List (List UInt8×Int)} {L:List (List UInt8)} (h:MarkR m L) (s:List UInt8):MarkR (db s 1 m) (Rm s L):=by
 refine⟨GL s L h.up,?_,fun x=>?_⟩
 ·rw[NC]
  split
  ·exact h.nd
  rename_i c;exact List.nodup_append.2 ⟨h.nd,by simp,fun a f b d=>by simp at d; subst d; intro e; subst e; exact c f⟩
 rw[NC,LF,← h.mem];split
 ·rename_i c
  constructor
  ·exact .inr
  rintro(rfl|h)
  ·exact c
  exact h
 rw[jy,List.mem_singleton]; exact Or.comm
theorem MarkR.adds:∀ {l:List (List UInt8)} {m:List (List UInt8×Int)} {L:List (List UInt8)},MarkR m L->MarkR (Ck l m) (Xg l L)
 | [],_,_,h=>h
 | s::l,_,_,h=>MarkR.adds (l:=l) (h.step s)
theorem qkj {L:List (List UInt8)} (h:Up L):Qn L=L:=by
 unfold Qn;refine List.mergeSort_of_pairwise (h.imp fun h=>?_);exact kdt (Std.le_of_lt h)
theorem MarkR.list {m:List (List UInt8×Int)} {L:List (List UInt8)} (h:MarkR m L):Qn (m.map (·.1))=L/\m.length=L.length:=by
 have a:L.Nodup:=h.up.imp fun h e=>by subst e; exact bl _ h
 have p:(m.map (·.1)).Perm L:=(List.perm_ext_iff_of_nodup h.nd a).2 h.mem
 exact⟨by rw[Sc p,qkj h.up],by simpa using p.length_eq⟩
theorem MarkR.list_eq {n:Nat} {m:List (List UInt8×Int)} {L:List (List UInt8)} (h:MarkR m L) (a:L.length<=137438953472):cq n m=some L:=by
 unfold cq;rw[zz (by have:=h.list.2; omega)];have e:(m.map fun e=>e.1)=m.map (·.1):=rfl
 rw[e,qb5,h.list.1]
end W
end
section
open Go Ax
namespace W
def qd7:Val->List UInt8->Val×Bool|.mk k _ _ _ l ks,key=>qa7 k l ks key
def Zo (l k:List UInt8) (v:Val):List UInt8:=(((([73,58]++CB l)++[46])++CB k)++[61])++UT v
structure VOk (n:Nat) (v:Val):Prop where
 ok:ShOk v
 big:tm v<=1073741824
 fuel:401+tm v<=n
structure PGood (n:Nat) (params:Val):Prop where
 get1:∀ key,sM n params key=some (qd7 params key)
 get2:∀ key,ZO n params key=some (qd7 params key)
 ok:∀ key,(qd7 params key).2=true->VOk n (qd7 params key).1
section
variable {n:Nat} (hn:n<=137438953472)
include hn
theorem Fs {l k:List UInt8} {v:Val} (e:400<n) (f:l.length<n) (g:k.length<n) (a:l.length<=1073741824) (b:k.length<=1073741824) (d:VOk n v) :
  bP n l k v=some (Zo l k v)/\nK n l k v=some (Zo l k v):=by
 obtain⟨s1,s2⟩:=qhk n hn v d.ok d.big d.fuel;have i:=DF v (by have:=d.big; omega);have j:=d.big;have l1:=Fo l;have l2:=Fo k;obtain⟨a1,a2,a3,a4,a5,h⟩:=v;have c:∀ (K:Option (List UInt8)),chk (decide (((([73,58]:List UInt8).length+(CB l).length:Nat):Int)<=xr)) K=K:=fun K=>zz (by unfold xr; simp only[ja,jc]; omega)
 have c2:∀ (K:Option (List UInt8)),chk (decide ((((([73,58]:List UInt8)++CB l).length+([46]:List UInt8).length:Nat):Int)<=xr)) K=K:=fun K=>zz (by unfold xr; simp only[jb,ja,jc]; omega)
 have c3:∀ (K:Option (List UInt8)),chk (decide (((((([73,58]:List UInt8)++CB l)++([46]:List UInt8)).length+(CB k).length:Nat):Int)<=xr)) K=K:=fun K=>zz (by unfold xr; simp only[jb,ja,jc]; omega)
 have c4:∀ (K:Option (List UInt8)),chk (decide ((((((([73,58]:List UInt8)++CB l)++([46]:List UInt8))++CB k).length+([61]:List UInt8).length:Nat):Int)<=xr)) K=K:=fun K=>zz (by unfold xr; simp only[jb,ja,jc]; omega)
 have c5:∀ (K:Option (List UInt8)),chk (decide (((((((([73,58]:List UInt8)++CB l)++([46]:List UInt8))++CB k)++([61]:List UInt8)).length+(UT (.mk a1 a2 a3 a4 a5 h)).length:Nat):Int)<=xr)) K=K:=fun K=>zz (by unfold xr; simp only[jb,ja,jc]; omega)
 refine⟨?_,?_⟩
 ·unfold bP
  dsimp only
  rw[VP hn f a,qc,c,c2,VP hn g b,qc,c3,c4,s1,qc,c5];rfl
 unfold nK
 dsimp only
 rw[ER hn f a (by omega),qc,c,c2,ER hn g b (by omega),qc,c3,c4,s2,qc,c5];rfl
end
end W
end
section
open Go Ax
namespace W
section
variable {n:Nat} (hn:n<=137438953472)
include hn
end
theorem sQ {A R T:Type} (f:T->A->T):∀ (l:List A) (t:T),uT (R:=R) (fun t x=>.inr (f t x)) t l=.inr (l.foldl f t)
 | [],_=>rfl
 | x::l,t=>sQ f l (f t x)
section
variable {n:Nat} (hn:n<=137438953472) (h400:400<n) {params:Val} (hp:PGood n params)
include hn h400 hp
end
end W
end
section
open Go Ax
namespace W
end W
end
section
open Go Ax
namespace W
end W
end
section
open Go Ax
namespace W
end W
end
section
open Go Ax
namespace W
end W
end
section
open Go Ax
namespace W
theorem Ni {A:Type} {B:(Int->Option Bool)->Int->Option Bool} {l l':List A} {e:Bool} (hlen:l.length=l'.length)
  (step:∀ (k:Nat) x y c,l[k]? =some x->l'[k]? =some y->∃ b,(b=true↔x=y)/\B c (k:Int)=bif b then c ((k+1:Nat):Int)else some false)
  (a:∀ c,B c (l.length:Int)=some e) {n:Nat} (g:l.length<n):∃ b,qo B n 0=some b/\(b=true↔l=l'/\e=true):=by
 have main:∀ m k:Nat,k<=l.length->l.length - k<m->∃ b,qo B m (k:Int)=some b/\(b=true↔l.drop k=l'.drop k/\e=true):=by
  intro m
  induction m with
  | zero=>intro k _ h; omega
  | succ m ih=>
   intro k i hm;rw[qO];by_cases he:k=l.length
   ·subst he
    exact⟨e,a _,by rw[List.drop_length,hlen,List.drop_length]; simp⟩
   have h1:k<l.length:=by omega
   have h2:k<l'.length:=by omega
   obtain⟨b,d,f⟩:=step k _ _ (qo B m) (jf h1) (jf h2);rw[f,jn h1,jn h2,List.cons.injEq,← d];cases b with
   | false=>exact⟨false,rfl,by simp⟩
   | true=>
    obtain⟨b,h3,h4⟩:=ih (k+1) (by omega) (by omega);exact⟨b,h3,by simpa using h4⟩
 obtain⟨b,h1,h2⟩:=main n 0 (by omega) (by omega);exact⟨b,h1,by simpa using h2⟩
end W
end
section
open Go Ax
namespace W
end W
end
section
open Go Ax
namespace W
end W
end
section
open Go Ax
namespace W
def qjx (c:qd):qd:=(ZU 0 c).getD default
end W
end
section
open Go Ax
namespace W
end W
end
section
open Go Ax
namespace W
end W
end
section
open Go Ax
namespace W
end W
end
section
open Go Ax
namespace W
end W
end
section
open Go Ax
namespace W
abbrev PG:=List zr×Int×Int
def g3 (g:qR):PG:=(g.parts,g.least,g.most)
section
variable {n:Nat} (hn:n<=137438953472) {x1:Int} {x2:List zx} {x3:List qe} {x4:Int} {x5:List UInt8} {x6:Int} {x7:Bool} {x8:Int} {x9:List UInt8} {x10:List Val} {x11:List (List UInt8)} {x12:List (List UInt8)} {x13:List qe} {x14:List UInt8} {x15:List xM} {x16:Bool} {x17:List qS} {x18:List qe} {x19:List qe} {x20:List qj} {x21:List (List UInt8)} {x22:Bool}
include hn
end
end W
end
section
open Go Ax
namespace W
@[simp] theorem Uk (l:List qR):(qR.rows l).length=l.length:=by simp[qR.rows]
end W
end
section
open Go Ax
namespace W
end W
end
section
open Go Ax
namespace W
structure LenOk (c:qd):Prop where
 paths:c.paths.length<=1048576
 items:c.items.length<=1048576
 order:c.order.length<=1048576
 sets:c.sets.length<=1048576
 vars:c.vars.length<=1048576
end W
end
section
open Go Ax
namespace W
end W
end
section
open Go Ax
namespace W
section
variable {n:Nat} (hn:n<=137438953472) {cl:List qd} (h:42+xq cl<n) (hM:∀ c∈cl,LenOk c)
include hn h hM
end
end W
end
section
open Go Ax
namespace W
theorem QC {R:Type} {B:(Int×Int->Option R)->Int×Int->Option R} {len:Nat} (K:Int->Option R) (c:∀ k:Nat,k<len->∀ (acc:Int) (b:Int×Int->Option R),B b (acc,(k:Int))=K acc\/∃ a,B b (acc,(k:Int))=b (a,((k+1:Nat):Int)))
  (he:∀ (acc:Int) (b:Int×Int->Option R),B b (acc,(len:Int))=K acc) {n:Nat} (d:len<n) (acc:Int):∃ a,qo B n (acc,(0:Int))=K a:=by
 have key:∀ (m k:Nat) (acc:Int),k<=len->len - k<m->∃ a,qo B m (acc,(k:Int))=K a:=by
  intro m
  induction m with
  | zero=>intro k _ _ h; omega
  | succ m ih=>
   intro k acc e hm;rw[qO];by_cases h:k=len
   ·subst h; exact⟨_,he _ _⟩
   rcases c k (by omega) acc (qo B m)with h|⟨a,h⟩
   ·exact⟨_,h⟩
   rw[h]; exact ih (k+1) a (by omega) (by omega)
 exact key n 0 acc (by omega) (by omega)
theorem qgx:∀ n:Nat,n<=137438953472->∀ v:Val,tm v<n->∃ r,nw n v=some r:=by
 intro n
 induction n with
 | zero=>intro _ v h; omega
 | succ n ih=>
  intro i v e;obtain⟨x1,x2,j,l,b,m⟩:=v;have o:=vD b;simp only[tm]at e;simp only[nw,Xs];obtain⟨a,h⟩:=QC (B:=mm n b (nw n)) (len:=b.length) some
   (fun k d acc f=>by
    have c:=jf d;generalize b[k]=y at c;obtain⟨r,g⟩:=ih (by omega) y (by have:=vM (qw c); omega);obtain⟨y1,y2,p,q,s,t⟩:=y
    right
    simp only[mm,ze,qx d,kct,qf c,qc,g];rw[qU (by omega)];exact⟨_,rfl⟩)
   (fun acc f=>by simp only[mm,ze,qm,kcf]) (n:=n) (by omega) 1
  exact⟨_,h⟩
theorem GZ:∀ n:Nat,n<=137438953472->∀ x:qe,dC x<n->∀ m:Int,∃ r,gT n x m=some r:=by
 intro n
 induction n with
 | zero=>intro _ v h; omega
 | succ n ih=>
  intro u x j m;obtain⟨x1,x2,⟨c,d,e,f,g,i⟩,w,b⟩:=x;have z:=xY b;simp only[dC]at j;obtain⟨p,hp⟩:=qgx n (by omega) ⟨c,d,e,f,g,i⟩ (by omega);simp only[gT,Xu,hp,qc];obtain⟨a,h⟩:=QC (B:=mD n b m (gT n)) (len:=b.length) some
   (fun k l acc q=>by
    have j:=jf l;generalize b[k]=y at j;simp only[mD,qu,qx l,kct];by_cases o:acc<m
    ·obtain⟨r,s⟩:=ih (by omega) y (by have:=gH (qw j); omega) (kwr .i64 (m - acc))
     obtain⟨y1,y2,⟨A,C,D,E,F,G⟩,H,t⟩:=y
     right
     simp only[kdt o,kct,qf j,qc,s];rw[qU (by omega)];exact⟨_,rfl⟩
    left; rw[kdf o]; rfl)
   (fun acc q=>by simp only[mD,qu,qm,kcf]) (n:=n) (by omega) _
  exact⟨_,h⟩
theorem Zc {n:Nat} (d:n<=137438953472) {l:List qe} (h:uF l<n) (m:Int):∃ r,gu n l m=some r:=by
 have i:=xY l;unfold gu;exact QC (B:=fA n l m) (len:=l.length) some
  (fun k b acc e=>by
   have a:=jf b;generalize l[k]=y at a;simp only[fA,qu,qx b,kct];by_cases c:acc<m
   ·obtain⟨r,f⟩:=GZ n d y (by have:=gH (qw a); omega) (kwr .i64 (m - acc))
    obtain⟨y1,y2,⟨j,o,p,q,s,t⟩,u,g⟩:=y
    right
    simp only[kdt c,kct,qf a,qc,f];rw[qU (by omega)];exact⟨_,rfl⟩
   left; rw[kdf c]; rfl)
  (fun acc e=>by simp only[fA,qu,qm,kcf]) (n:=n) (by omega) 0
theorem Nz {n:Nat} (L:n<=137438953472) {cl:List qd} (h:xq cl<n):∃ r,sH n ⟨cl⟩=some r:=by
 have hlen:=zc vh sD cl;unfold xq at h;unfold sH;obtain⟨a,e⟩:=QC (B:=my n cl) (len:=cl.length) (fun acc=>some (decide (acc≥3000)))
  (fun k T acc H=>by
   have R:=jf T;generalize cl[k]=c at R;have K:vh c<n:=by have:=zd vh (qw R); omega
   simp only[my,zA,qx T,kct];by_cases x:acc<3000
   ·right
    have hp:=zc dA (fun p=>by unfold dA; omega) c.paths
    have M:=zc ZI (fun p=>by unfold ZI; omega) c.items
    have V:=zc fY (fun p=>by unfold fY; omega) c.order
    have X:=zc fW (fun p=>by unfold fW; omega) c.sets
    have mp:∀ p∈c.paths,dA p<n:=fun p hm=>by have:=zd dA hm; unfold vh Un at K; omega
    have mi:∀ p∈c.items,dC p.e<n:=fun p hm=>by have:=zd ZI hm; have e:ZI p=1+p.as_.length+dC p.e:=rfl; unfold vh at K; omega
    have mo:∀ p∈c.order,dC p.e<n:=fun p hm=>by have:=zd fY hm; have e:fY p=1+dC p.e:=rfl; unfold vh at K; omega
    have ms:∀ p∈c.sets,dC p.e<n:=fun p hm=>by have:=zd fW hm; have e:fW p=1+p.var_.length+p.key.length+p.label.length+dC p.e:=rfl; unfold vh at K; omega
    obtain⟨r1,h1⟩:=GZ n L c.e (by unfold vh at K; omega) 3000;obtain⟨r2,h2⟩:=Zc L (l:=c.where_) (by unfold vh at K; omega) 3000;obtain⟨r3,h3⟩:=Zc L (l:=c.skip) (by unfold vh at K; omega) 3000;obtain⟨r4,h4⟩:=Zc L (l:=c.limit) (by unfold vh at K; omega) 3000;unfold vh Un at K;obtain⟨x1,q,x6,⟨x7,x8,⟨x9,Y,Z,x12,x13,x14⟩,x15,x16⟩,x17,o,x19,g,x21,x22,f,x24,x25⟩:=c;simp only at hp M V X mp mi mo ms h1 h2 h3 h4 K;simp only[kdt x,kct,qf R,qc,h1,h2,h3,h4];have L7:∀ acc:Int,∃ m,qo (fq n f H (k:Int)) n (acc,(0:Int))=H (m,((k+1:Nat):Int)):=fun acc=>QC (B:=fq n f H (k:Int)) (len:=f.length) (fun acc=>H (acc,((k+1:Nat):Int)))
     (fun j J acc v=>by
      have G:=jf J;generalize f[j]=y at G;simp only[fq,qj.rows,jl,qx J,kct];by_cases x:acc<3000
      ·obtain⟨r,I⟩:=GZ n L y.e (ms y (qw G)) 3000
       obtain⟨U,z2,z3,⟨s,u,⟨w,z,A,C,D,E⟩,F,t⟩⟩:=y;simp only at I
       right
       simp only[kdt x,kct,qf G,qc,I];rw[qU (k:=j) (by omega)];exact⟨_,rfl⟩
      left; rw[kdf x,kcf,qU (by omega)])
     (fun acc v=>by
      simp only[fq,qj.rows,jl,qm,kcf];rw[qU (by omega)]) (n:=n) (by omega) acc
    have L6:∀ acc:Int,∃ m,qo (fp n g f H (k:Int)) n (acc,(0:Int))=H (m,((k+1:Nat):Int)):=fun acc=>by
     obtain⟨a,P⟩:=QC (B:=fp n g f H (k:Int)) (len:=g.length) (fun acc=>qo (fq n f H (k:Int)) n (acc,(0:Int)))
      (fun j J acc v=>by
       have G:=jf J;generalize g[j]=y at G;simp only[fp,qS.rows,jl,qx J,kct];by_cases x:acc<3000
       ·obtain⟨r,I⟩:=GZ n L y.e (mo y (qw G)) 3000
        obtain⟨⟨s,u,⟨w,z,A,C,D,E⟩,F,t⟩,U⟩:=y;simp only at I
        right
        simp only[kdt x,kct,qf G,qc,I];rw[qU (k:=j) (by omega)];exact⟨_,rfl⟩
       left; rw[kdf x,kcf])
      (fun acc v=>by simp only[fp,qS.rows,jl,qm,kcf]) (n:=n) (by omega) acc
     rw[P]; exact L7 a
    have L5:∀ acc:Int,∃ m,qo (fo n o g f H (k:Int)) n (acc,(0:Int))=H (m,((k+1:Nat):Int)):=fun acc=>by
     obtain⟨a,P⟩:=QC (B:=fo n o g f H (k:Int)) (len:=o.length) (fun acc=>qo (fp n g f H (k:Int)) n (acc,(0:Int)))
      (fun j J acc v=>by
       have G:=jf J;generalize o[j]=y at G;simp only[fo,xM.rows,jl,qx J,kct];by_cases x:acc<3000
       ·obtain⟨r,I⟩:=GZ n L y.e (mi y (qw G)) 3000
        obtain⟨⟨s,u,⟨w,z,A,C,D,E⟩,F,t⟩,U⟩:=y;simp only at I
        right
        simp only[kdt x,kct,qf G,qc,I];rw[qU (k:=j) (by omega)];exact⟨_,rfl⟩
       left; rw[kdf x,kcf])
      (fun acc v=>by simp only[fo,xM.rows,jl,qm,kcf]) (n:=n) (by omega) acc
     rw[P]; exact L6 a
    have L2:∀ acc:Int,∃ m,qo (dm n q o g f H (k:Int)) n (acc,(0:Int))=H (m,((k+1:Nat):Int)):=fun acc=>by
     obtain⟨a,P⟩:=QC (B:=dm n q o g f H (k:Int)) (len:=q.length) (fun acc=>qo (fo n o g f H (k:Int)) n (acc,(0:Int)))
      (fun j J acc v=>by
       have G:=jf J;generalize q[j]=p at G;have Q:=mp p (qw G);simp only[dm,zL,qx J,kct];by_cases x:acc<3000
       ·right
        rw[kdt x,kct];obtain⟨nodes,edges⟩:=p;unfold dA at Q;simp only at Q;have hn1:=zc fK (fun p=>by unfold fK; omega) nodes
        have hn2:=zc bW (fun p=>by unfold bW; omega) edges
        obtain⟨b,S⟩:=QC (B:=mz n q (j:Int) v) (len:=nodes.length) (fun acc=>qo (dn n q (j:Int) v) n (acc,(0:Int)))
         (fun i M acc N=>by
          have hz:=jf M;generalize nodes[i]=d at hz;have O:fK d<n:=by have:=zd fK (qw hz); omega
          simp only[mz,qf G,qc,zJ,qx M,kct];by_cases x:acc<3000
          ·obtain⟨r,I⟩:=Zc L (l:=d.vals) (by unfold fK at O; omega) 3000
           obtain⟨d1,d2,d3,d4⟩:=d;simp only at I
           right
           simp only[kdt x,kct,qf hz,qc,I];rw[qU (k:=i) (by omega)];exact⟨_,rfl⟩
          left; rw[kdf x,kcf])
         (fun acc N=>by simp only[mz,qf G,qc,zJ,qm,kcf]) (n:=n) (by omega) acc
        rw[S];exact QC (B:=dn n q (j:Int) v) (len:=edges.length) (fun acc=>v (acc,((j+1:Nat):Int)))
         (fun i M acc N=>by
          have hz:=jf M;generalize edges[i]=d at hz;have O:bW d<n:=by have:=zd bW (qw hz); omega
          simp only[dn,qf G,qc,uL,qx M,kct];by_cases x:acc<3000
          ·obtain⟨r,I⟩:=Zc L (l:=d.vals) (by unfold bW at O; omega) 3000
           obtain⟨d1,d2,d3,d4,d5⟩:=d;simp only at I
           right
           simp only[kdt x,kct,qf hz,qc,I];rw[qU (k:=i) (by omega)];exact⟨_,rfl⟩
          left; rw[kdf x,kcf,qU (by omega)])
         (fun acc N=>by
          simp only[dn,qf G,qc,uL,qm,kcf];rw[qU (by omega)]) (n:=n) (by omega) b
       left; rw[kdf x,kcf])
      (fun acc v=>by simp only[dm,zL,qm,kcf]) (n:=n) (by omega) acc
     rw[P]; exact L5 a
    exact L2 _
   left; rw[kdf x]; rfl)
  (fun acc H=>by simp only[my,zA,qm,kcf]) (n:=n) (by omega) 0
 exact⟨_,e⟩
end W
end
section
open Go Ax
namespace W
theorem Xn {n:Nat} {x:List (List UInt8)} (h:x.length<n) (hn:n<=137438953472):qY n x x=some true:=by
 obtain⟨b,h1,h2⟩:=xt (y:=x) h hn;rw[h1,h2.2 rfl]
section
variable {n:Nat} (hn:n<=137438953472) {cl:List qd} (h:8 * xq cl+400<n) (hM:∀ c∈cl,LenOk c)
include hn h hM
end
end W
end
section
open Go Ax
namespace W
theorem qku (m:Nat):gP (m+400)=some true:=by kernel_rfl
theorem ic {n:Nat} (h:400<=n):gP n=some true:=by
 obtain⟨m,rfl⟩:=Nat.exists_eq_add_of_le h;rw[Nat.add_comm]; exact qku m
section
variable {n:Nat} (hn:n<=137438953472) (h400:400<n) {params:Val} (hp:PGood n params)
include hn h400 hp
end
section
variable {n:Nat} (hn:n<=137438953472) {params:Val} (hp:PGood n params) {cl:List qd} (h:8 * xq cl+1000<n) (hsz:xq cl<=1073741824) (hM:∀ c∈cl,LenOk c)
include hn hp h hsz hM
end
theorem aj:∀ n:Nat,n<=137438953472->∀ v:Val,tm v<n->∃ b,bE n v=some b:=by
 intro n
 induction n with
 | zero=>intro _ v h; omega
 | succ n ih=>
  intro hn v i;obtain⟨d,x2,l,o,a,p⟩:=v;have q:=vD a;simp only[tm]at i;simp only[bE,Xt];have loop:∀ (m k:Nat),k<=a.length->a.length - k<m->∃ b,qo (mn n a (bE n)) m (k:Int)=some b:=by
   intro m
   induction m with
   | zero=>intro k _ h; omega
   | succ m ihm=>
    intro k s hm;rw[qO];by_cases he:k=a.length
    ·subst he
     exact⟨true,by simp only[mn,ze,qm,kcf]⟩
    have e:k<a.length:=by omega
    obtain⟨x,g⟩:∃ x,a[k]? =some x:=⟨_,jf e⟩;obtain⟨b,f⟩:=ih (by omega) x (by have:=vM (qw g); omega);obtain⟨r,j⟩:=ihm (k+1) (by omega) (by omega);obtain⟨a1,a2,a3,a4,a5,t⟩:=x;simp only[mn,ze,qx e,kct,qf g,qc,f];rw[qU (by omega)];cases b with
    | false=>exact⟨false,rfl⟩
    | true=>exact⟨r,j⟩
  obtain⟨b,f⟩:=loop n 0 (jS _) (by omega);cases u:(bif(d==(6:Int))then true else(d==(7:Int)))with
  | true=>exact⟨false,rfl⟩
  | false=>exact⟨b,f⟩
end W
end
section
open Go Ax
namespace W
@[simp] theorem xT (l:List Node):(Node.rows l).length=l.length:=by simp[Node.rows]
@[simp] theorem xS (l:List Edge):(Edge.rows l).length=l.length:=by simp[Edge.rows]
def dy (d:Node):Nat:=1+sS d.labels+sS d.keys+br d.vals
def tQ (e:Edge):Nat:=1+e.type_.length+sS e.keys+br e.vals
def VS (g:Graph):Nat:=(g.nodes.map dy).sum+(g.edges.map tQ).sum
def UpI {A:Type} (key:A->Int) (l:List A):Prop:=l.Pairwise fun a b=>key a<key b
def ZB {A:Type} (key:A->Int) (l:List A) (id:Int):Option A:=l.find? fun d=>key d==id
section
variable {A:Type} {key:A->Int} {l:List A} {id:Int}
theorem UpI.lt (h:UpI key l) {i j:Nat} {x y:A} (a:i<j) (b:l[i]? =some x) (c:l[j]? =some y):key x<key y:=by
 obtain⟨h1,d⟩:=jG.1 b;obtain⟨h2,e⟩:=jG.1 c;have:=List.pairwise_iff_getElem.1 h i j h1 h2 a;rw[d,e]at this;exact this
theorem Fu {d:A} (h:ZB key l id=some d):d∈l/\key d=id:=
 ⟨List.mem_of_find?_eq_some h,by simpa using List.find?_some h⟩
theorem qhh (h:UpI key l) {i:Nat} {d:A} (a:l[i]? =some d) (f:key d=id):ZB key l id=some d:=by
 cases c:ZB key l id with
 | none=>exact absurd f (by simpa using List.find?_eq_none.1 c d (qw a))
 | some e=>
  obtain⟨hm,he⟩:=Fu c;obtain⟨j,b⟩:=List.getElem?_of_mem hm;rcases Nat.lt_trichotomy i j with h1|h1|h1
  ·have:=h.lt h1 a b; omega
  ·subst h1; rw[a]at b; exact b.symm
  have:=h.lt h1 b a; omega
theorem qhi (h:∀ (i:Nat) (d:A),l[i]? =some d->key d≠id):ZB key l id=none:=
 List.find?_eq_none.2 fun d a=>by
  obtain⟨i,b⟩:=List.getElem?_of_mem a;simpa using h i d b
theorem qoy (o:UpI key l) {B:(Int×Int->Option (Int×Bool))->Int×Int->Option (Int×Bool)}
  (v:∀ (i j:Nat) (x:A) e,i<j->j<=l.length->l[(i+j) / 2]? =some x->B e ((i:Int),(j:Int))=bif decide (key x<id)then e ((((i+j) / 2+1:Nat):Int),(j:Int))else e ((i:Int),(((i+j) / 2:Nat):Int)))
  (he:∀ (i:Nat) e,i<=l.length->B e ((i:Int),(i:Int))=some ((i:Int),match l[i]? with|some x=>decide (key x=id)|none=>false)) {n:Nat} (hn:l.length<n) :
  ∃ i:Nat,qo B n ((0:Int),((l.length:Nat):Int))=some ((i:Int),(ZB key l id).isSome)/\∀ d,ZB key l id=some d->l[i]? =some d:=by
 obtain⟨q,F,p,u,w⟩:=qeo (B:=B) (fun a=>match l[a]? with|some x=>decide (key x<id)|none=>false) l.length
  (fun a c r z hp=>by
   obtain⟨x,b⟩:∃ x,l[c]? =some x:=⟨_,jf z⟩;obtain⟨y,g⟩:∃ y,l[a]? =some y:=⟨_,jf (by omega)⟩;simp only[b,kde]at hp;simp only[g,kde];rcases Nat.lt_or_eq_of_le r with h|rfl
   ·have:=o.lt h g b; omega
   rw[b]at g; cases g; exact hp)
  (fun i j s k e=>by
   obtain⟨x,b⟩:∃ x,l[(i+j) / 2]? =some x:=⟨_,jf (by omega)⟩;rw[v i j x e s k b,b])
  (rest:=fun i=>some ((i:Int),match l[i]? with|some x=>decide (key x=id)|none=>false)) (fun i f e=>he i e f) hn
 refine⟨q,?_,fun d C=>?_⟩
 ·rw[w]
  congr 2;cases m:l[q]? with
  | none=>
   rw[qhi fun i d f=>?_]
   ·rfl
   have D:=qL f;have:=p i (by have:=List.getElem?_eq_none_iff.1 m; omega);simp only[f,kde]at this;omega
  | some x=>
   by_cases b:key x=id
   ·rw[qhh o m b]; simp[b]
   have t:=qL m;have h3:=u q (jw _) t;simp only[m,decide_eq_false_iff_not]at h3;rw[qhi fun i d f=>?_]
   ·simp[b]
   rcases Nat.lt_trichotomy i q with h|h|h
   ·have:=p i h
    simp only[f,kde]at this;omega
   ·subst h; rw[m]at f; cases f; exact b
   have:=o.lt h m f; omega
 obtain⟨hm,G⟩:=Fu C;obtain⟨j,k⟩:=List.getElem?_of_mem hm;have E:=qL k;have:j=q:=by
  rcases Nat.lt_trichotomy j q with h|h|h
  ·have:=p j h
   simp only[k,kde]at this;omega
  ·exact h
  obtain⟨y,g⟩:∃ y,l[q]? =some y:=⟨_,jf (by omega)⟩;have h3:=u q (jw _) (by omega);simp only[g,decide_eq_false_iff_not]at h3;have:=o.lt h g k;omega
 subst this;exact k
def qax {A:Type} (key:A->Int) (l:List A) (id:Int) (o:Option A) (r:Int):Prop:=match o with|some _=>∃ i:Nat,r=i/\l[i]? =o|none=>r = -1
theorem qlm {B:(Int->Option Int)->Int->Option Int} (b:∀ (k:Nat) x a,l[k]? =some x->B a (k:Int)=bif(key x==id)then some (k:Int)else a ((k+1:Nat):Int)) (he:∀ a,B a ((l.length:Nat):Int)=some (-1))
  {n:Nat} (hn:l.length<n):∃ r:Int,qo B n (0:Int)=some r/\qax key l id (ZB key l id) r:=by
 have main:∀ m k:Nat,k<=l.length->l.length - k<m->∃ r:Int,qo B m (k:Int)=some r/\qax key l id (ZB key (l.drop k) id) r:=by
  intro m
  induction m with
  | zero=>intro k _ h; omega
  | succ m ih=>
   intro k c hm;rw[qO];by_cases h:k=l.length
   ·subst h
    exact⟨-1,he _,by rw[List.drop_length]; rfl⟩
   have h1:k<l.length:=by omega
   rw[b k _ _ (jf h1),jn h1];unfold ZB;rw[List.find?_cons];cases d:key l[k]==id with
   | true=>exact⟨k,rfl,k,rfl,jf h1⟩
   | false=>exact ih (k+1) (by omega) (by omega)
 exact main n 0 (by omega) (by omega)
end
theorem RD (n:Nat) (x y:Int):uZ n x y=some (if x<y then -1 else if y<x then 1 else 0):=by
 unfold uZ dZ;simp only[bne_self_eq_false,qG,qk];by_cases h:x<y
 ·rw[if_pos h,kdt h,kct]
 rw[if_neg h,kdf h,kcf];by_cases h2:y<x
 ·rw[if_pos h2,kdt (show x>y from h2),kct]
 rw[if_neg h2,kdf (show ¬ x>y from h2),kcf]
theorem qlp (x y:Int):decide ((if x<y then(-1:Int)else if y<x then 1 else 0)<0)=decide (x<y):=by
 rw[decide_eq_decide];split
 ·omega
 split<;>omega
theorem qlo (x y:Int):((if x<y then(-1:Int)else if y<x then 1 else 0)==0)=decide (x=y):=by
 rw[Bool.eq_iff_iff,beq_iff_eq,decide_eq_true_iff];split
 ·omega
 split<;>omega
section
variable {n:Nat} (hn:n<=137438953472)
include hn
theorem lq {ks:List (List UInt8)} {vs:List Val} (h:br vs<n) (f:ks.length<=n):mP n ks vs=some (ks,vs):=by
 have g:=vD vs;unfold mP;rw[ze,natI_nat,qc,zz (by omega)];refine bY (B:=ga n vs ks) (fun i=>(vs.take i,((i:Nat):Int))) vs.length (fun i b c=>?_) (fun c=>?_) (by omega)
 ·obtain⟨x,a⟩:∃ x,vs[i]? =some x:=⟨_,jf b⟩
  have d:=qey n hn x (by have:=vM (qw a); omega);have e:=GX a;obtain⟨a1,a2,a3,a4,a5,j⟩:=x;simp only[ga,ze,qx b,kct,qf a,qG,d];rw[e,zz (by rw[jt]; omega),qU (by omega)]
 show ga n vs ks c (vs.take vs.length,((vs.length:Nat):Int))=_;rw[List.take_length];unfold ga;simp only[ze,qm,kcf];rw[zz (by rw[qn]; omega)]
theorem Ho (d:Node):d.labels.length<=dy d/\d.keys.length<=dy d/\br d.vals<dy d:=by
 have h1:=xi d.labels;have h2:=xi d.keys;unfold dy;omega
theorem RG (d:Edge):d.type_.length<=tQ d/\d.keys.length<=tQ d/\br d.vals<tQ d:=by
 have h2:=xi d.keys;unfold tQ;omega
theorem eW {d:Node} (h:dy d<n):mc n d=some d:=by
 obtain⟨h1,h2,h3⟩:=Ho hn d;have a:=lq hn (ks:=d.keys) (vs:=d.vals) (by omega) (by omega);obtain⟨i,l,ks,vs⟩:=d;simp only at h1 a;unfold mc;simp only;rw[zz (by rw[qn]; omega),a,qc]
theorem eT {d:Edge} (h:tQ d<n):mb n d=some d:=by
 obtain⟨h1,h2,h3⟩:=RG hn d;have c:=lq hn (ks:=d.keys) (vs:=d.vals) (by omega) (by omega);obtain⟨i,a,b,t,ks,vs⟩:=d;simp only at c;unfold mb;simp only;rw[c,qc]
def qek:Node×Bool:=(Node.mk (0:Int) ([]:List (List UInt8)) ([]:List (List UInt8)) ([]:List Val),false)
def qej:Edge×Bool:=(Edge.mk (0:Int) (0:Int) (0:Int) ([]:List UInt8) ([]:List (List UInt8)) ([]:List Val),false)
theorem qc2 {l:List Node} (hu:UpI Node.id l) (p:l.length<n) (r:∀ d∈l,dy d<n) (es:List Edge) (id:Int) :
  QN n ⟨l,es⟩ id=some (match ZB Node.id l id with|some d=>(d,true)|none=>qek):=by
 have c1:∀ d:Node,xR n d id ()=some (if d.id<id then -1 else if id<d.id then 1 else 0):=fun d=>by
  obtain⟨i,a,b,c⟩:=d;simp only[xR,Qs,qG,RD]
 obtain⟨q,s,t⟩:=qoy hu (id:=id) (B:=qq n l id)
  (fun i j x u k w g=>by
   have e:=c1 x;obtain⟨m,a,b,c⟩:=x;simp only[qq,qx k,ql,qqx (show i+j<=1152921504606846976 by omega),qf g,qG,e,qlp];rw[qU (by omega)])
  (fun i u y=>by
   simp only[qq,qm,qk,xT];by_cases h:i=l.length
   ·subst h
    rw[qm,List.getElem?_eq_none (jw _)];rfl
   have f:i<l.length:=by omega
   obtain⟨x,g⟩:∃ x,l[i]? =some x:=⟨_,jf f⟩;have e:=c1 x;rw[g];obtain⟨m,a,b,c⟩:=x;simp only[qx f,zg,qf g,qG,e,qlo,ql])
  p
 unfold QN xK qK;simp only[xT];rw[s,qc];cases v:ZB Node.id l id with
 | none=>rfl
 | some d=>
  have o:=t d v;have e:=eW hn (r d (qw o));obtain⟨m,a,b,c⟩:=d;simp only[Option.isSome_some,jp,qk,qf o,qG,e]
theorem qc1 {l:List Edge} (hu:UpI Edge.id l) (s:l.length<n) (t:∀ d∈l,tQ d<n) (u:List Node) (id:Int) :
  QM n ⟨u,l⟩ id=some (match ZB Edge.id l id with|some d=>(d,true)|none=>qej):=by
 have c1:∀ d:Edge,xQ n d id ()=some (if d.id<id then -1 else if id<d.id then 1 else 0):=fun d=>by
  obtain⟨i,a,b,c,e,f⟩:=d;simp only[xQ,Qr,qG,RD]
 obtain⟨q,v,w⟩:=qoy hu (id:=id) (B:=qp n l id)
  (fun i j x y o C m=>by
   have g:=c1 x;obtain⟨p,a,b,c,e,f⟩:=x;simp only[qp,qx o,ql,qqx (show i+j<=1152921504606846976 by omega),qf m,qG,g,qlp];rw[qU (by omega)])
  (fun i y D=>by
   simp only[qp,qm,qk,xS];by_cases h:i=l.length
   ·subst h
    rw[qm,List.getElem?_eq_none (jw _)];rfl
   have k:i<l.length:=by omega
   obtain⟨x,m⟩:∃ x,l[i]? =some x:=⟨_,jf k⟩;have g:=c1 x;rw[m];obtain⟨p,a,b,c,e,f⟩:=x;simp only[qx k,zg,qf m,qG,g,qlo,ql])
  s
 unfold QM xJ qJ;simp only[xS];rw[v,qc];cases z:ZB Edge.id l id with
 | none=>rfl
 | some d=>
  have r:=w d z;have g:=eT hn (t d (qw r));obtain⟨p,a,b,c,e,f⟩:=d;simp only[Option.isSome_some,jp,qk,qf r,qG,g]
end
theorem ES {n:Nat} {l:List Node} (hn:n<=137438953472) (e:l.length<n) (es:List Edge) (id:Int):∃ r:Int,nH n ⟨l,es⟩ id=some r/\qax Node.id l id (ZB Node.id l id) r:=by
 unfold nH;refine qlm (key:=Node.id) (id:=id) (B:=dU n l id) (fun k x f d=>?_) (fun f=>?_) e
 ·have:=qL d
  obtain⟨g,a,b,c⟩:=x;simp only[dU,xT,qx this,ql,qf d,qG];rw[qU (by omega)]
 simp only[dU,xT,qm,qk]
theorem qdi {n:Nat} {l:List Edge} (hn:n<=137438953472) (g:l.length<n) (h:List Node) (id:Int):∃ r:Int,QJ n ⟨h,l⟩ id=some r/\qax Edge.id l id (ZB Edge.id l id) r:=by
 unfold QJ;refine qlm (key:=Edge.id) (id:=id) (B:=dS n l id) (fun k x i d=>?_) (fun i=>?_) g
 ·have:=qL d
  obtain⟨j,a,b,c,e,f⟩:=x;simp only[dS,xS,qx this,ql,qf d,qG];rw[qU (by omega)]
 simp only[dS,xS,qm,qk]
section
variable {n:Nat} (hn:n<=137438953472)
include hn
theorem HA {a b:Node} (h:dy a<n):∃ r,mK n a b=some r/\(r=true↔a=b):=by
 obtain⟨g1,g2,g3⟩:=Ho hn a;obtain⟨c,m,t,u⟩:=a;obtain⟨f,v,w,z⟩:=b;simp only at g1 g2 g3;obtain⟨p,hp,d⟩:=xt (x:=m) (y:=v) (n:=n) (by omega) hn;obtain⟨q,j,g⟩:=xt (x:=t) (y:=w) (n:=n) (by omega) hn;obtain⟨s,k,i⟩:=(DC n hn).2 u z (by omega);have e:(c==f)=true↔c=f:=beq_iff_eq;unfold mK;simp only[hp,j,k];rw[Node.mk.injEq,← e,← d,← g,← i];cases(c==f)<;>cases p<;>cases q<;>cases s<;>exact⟨_,rfl,by simp⟩
theorem au {a b:Node} (h:dy a<n):∃ r,se n a b=some r/\(r=true↔a=b):=by
 obtain⟨r,h1,h2⟩:=HA hn (b:=b) h;obtain⟨x1,x2,c,d⟩:=a;obtain⟨y1,y2,e,f⟩:=b;unfold se;exact⟨r,by simp only[h1,qG],h2⟩
theorem Hz {a b:Edge} (h:tQ a<n):∃ r,mJ n a b=some r/\(r=true↔a=b):=by
 obtain⟨g1,g2,g3⟩:=RG hn a;obtain⟨c,f,m,p,z,C⟩:=a;obtain⟨t,u,v,w,D,E⟩:=b;simp only at g1 g2 g3;obtain⟨q,g,d⟩:=xt (x:=z) (y:=D) (n:=n) (by omega) hn;obtain⟨s,i,e⟩:=(DC n hn).2 C E (by omega);have e1:(c==t)=true↔c=t:=beq_iff_eq;have e2:(f==u)=true↔f=u:=beq_iff_eq;have e3:(m==v)=true↔m=v:=beq_iff_eq;have e4:(p==w)=true↔p=w:=beq_iff_eq;unfold mJ;simp only[g,i];rw[Edge.mk.injEq,← e1,← e2,← e3,← e4,← d,← e];cases(c==t)<;>cases(f==u)<;>cases(m==v)<;>cases(p==w)<;>cases q<;>cases s<;>exact⟨_,rfl,by simp⟩
theorem aq {a b:Edge} (h:tQ a<n):∃ r,sd n a b=some r/\(r=true↔a=b):=by
 obtain⟨r,h1,h2⟩:=Hz hn (b:=b) h;obtain⟨x1,x2,c,d,e,f⟩:=a;obtain⟨y1,y2,g,i,j,k⟩:=b;unfold sd;exact⟨r,by simp only[h1,qG],h2⟩
theorem Nq {x1 y1:List (List UInt8)} {x2 y2:List Val} (h1:x1.length<n) (h2:br x2<n):∃ r,fD n x1 y1 x2 y2=some r/\(r=true↔x1=y1/\x2=y2):=by
 obtain⟨q,c,a⟩:=Qe (x:=x1) (y:=y1) (n:=n) h1 hn;obtain⟨s,d,b⟩:=(Fy n hn).2 x2 y2 h2;unfold fD;rw[c,d,← a,← b];cases q<;>cases s<;>exact⟨_,rfl,by simp⟩
theorem qje {a b:Node} (h:dy a<n):∃ r,nL n a b=some r/\(r=true↔a=b):=by
 obtain⟨g1,g2,g3⟩:=Ho hn a;obtain⟨x1,x2,f,g⟩:=a;obtain⟨y1,y2,i,j⟩:=b;simp only at g1 g2 g3;obtain⟨p,hp,c⟩:=Qe (x:=x2) (y:=y2) (n:=n) (by omega) hn;obtain⟨q,k,d⟩:=Nq hn (x1:=f) (y1:=i) (x2:=g) (y2:=j) (by omega) (by omega);have e:(x1==y1)=true↔x1=y1:=beq_iff_eq;unfold nL;simp only[hp,k];rw[Node.mk.injEq,← e,← c,← d];cases(x1==y1)<;>cases p<;>cases q<;>exact⟨_,rfl,by simp⟩
theorem qjf {a b:Edge} (h:tQ a<n):∃ r,nM n a b=some r/\(r=true↔a=b):=by
 obtain⟨g1,g2,g3⟩:=RG hn a;obtain⟨x1,x2,c,d,i,j⟩:=a;obtain⟨y1,y2,e,f,k,m⟩:=b;simp only at g1 g2 g3;obtain⟨q,o,g⟩:=Nq hn (x1:=i) (y1:=k) (x2:=j) (y2:=m) (by omega) (by omega);have e1:(x1==y1)=true↔x1=y1:=beq_iff_eq;have e2:(x2==y2)=true↔x2=y2:=beq_iff_eq;have e3:(c==e)=true↔c=e:=beq_iff_eq;have e4:(d==f)=true↔d=f:=beq_iff_eq;unfold nM;simp only[o];rw[Edge.mk.injEq,← e1,← e2,← e3,← e4,← g];cases(x1==y1)<;>cases(x2==y2)<;>cases(c==e)<;>cases(d==f)<;>cases q<;>exact⟨_,rfl,by simp⟩
theorem Np {l l':List Node} (h:l.length<n) (i:∀ d∈l,dy d<n):∃ r,qF n l l'=some r/\(r=true↔l=l'):=by
 unfold qF;rw[xT,xT];by_cases c:l.length=l'.length
 ·rw[c,bne_self_eq_false,kcf]
  refine Cz c (fun k a b j f g=>?_) (fun j=>by simp only[qB,xT,qm,qk]) h
  have m:=qL f;obtain⟨r,h1,h2⟩:=qje hn (b:=b) (i a (qw f));refine⟨r,h2,?_⟩;obtain⟨x1,x2,o,p⟩:=a;obtain⟨y1,y2,q,s⟩:=b;simp only[qB,xT,qx m,ql,qf f,qf g,qG,h1];rw[qU (by omega)];cases r<;>rfl
 ·rw[Qk.2 c]
  exact⟨false,rfl,by simp; intro e; exact c (congrArg _ e)⟩
theorem No {l l':List Edge} (h:l.length<n) (i:∀ d∈l,tQ d<n):∃ r,qE n l l'=some r/\(r=true↔l=l'):=by
 unfold qE;rw[xS,xS];by_cases c:l.length=l'.length
 ·rw[c,bne_self_eq_false,kcf]
  refine Cz c (fun k a b j f g=>?_) (fun j=>by simp only[qA,xS,qm,qk]) h
  have m:=qL f;obtain⟨r,h1,h2⟩:=qjf hn (b:=b) (i a (qw f));refine⟨r,h2,?_⟩;obtain⟨x1,x2,o,p,q,s⟩:=a;obtain⟨y1,y2,t,u,v,w⟩:=b;simp only[qA,xS,qx m,ql,qf f,qf g,qG,h1];rw[qU (by omega)];cases r<;>rfl
 ·rw[Qk.2 c]
  exact⟨false,rfl,by simp; intro e; exact c (congrArg _ e)⟩
theorem oa {a b:Node} (h:dy a<n):∃ r,bz n ⟨[a],[]⟩ ⟨[b],[]⟩=some r/\(r=true↔a=b):=by
 have:1<=dy a:=by unfold dy; omega
 obtain⟨r,h1,h2⟩:=Np hn (l:=[a]) (l':=[b]) (by simp; omega) (by simpa using h);obtain⟨s,h3,h4⟩:=No hn (l:=[]) (l':=[]) (by simp; omega) (by simp);obtain rfl:s=true:=h4.2 rfl;unfold bz;simp only[h1,h3];refine⟨r,?_,by simpa using h2⟩;cases r<;>rfl
theorem oc {a b:Edge} (h:tQ a<n):∃ r,bz n ⟨[],[a]⟩ ⟨[],[b]⟩=some r/\(r=true↔a=b):=by
 have:1<=tQ a:=by unfold tQ; omega
 obtain⟨r,h1,h2⟩:=No hn (l:=[a]) (l':=[b]) (by simp; omega) (by simpa using h);obtain⟨s,h3,h4⟩:=Np hn (l:=[]) (l':=[]) (by simp; omega) (by simp);obtain rfl:s=true:=h4.2 rfl;unfold bz;simp only[h1,h3];refine⟨r,?_,by simpa using h2⟩;cases r<;>rfl
theorem TW {l l':List Edge} (h:l.length<n) (i:∀ d∈l,tQ d<n):∃ r,nI n l l'=some r/\(r=true↔l=l'):=by
 unfold nI;rw[xS,xS];by_cases c:l.length=l'.length
 ·rw[c,bne_self_eq_false,kcf]
  refine Cz c (fun k a b j f g=>?_) (fun j=>by simp only[cH,xS,qm,qk]) h
  have m:=qL f;obtain⟨r,h1,h2⟩:=Hz hn (b:=b) (i a (qw f));refine⟨r,h2,?_⟩;obtain⟨x1,x2,o,p,q,s⟩:=a;obtain⟨y1,y2,t,u,v,w⟩:=b;simp only[cH,xS,qx m,ql,qf f,qf g,qG,h1];rw[qU (by omega)];cases r<;>rfl
 ·rw[Qk.2 c]
  exact⟨false,rfl,by simp; intro e; exact c (congrArg _ e)⟩
theorem qj4 {g h:Graph} (p:g.nodes.length<n) (f:g.edges.length<n) (q:∀ d∈g.nodes,dy d<n) (i:∀ d∈g.edges,tQ d<n):∃ r,ZG n g h=some r/\(r=true↔g=h):=by
 obtain⟨l,m⟩:=g;obtain⟨l',t⟩:=h;obtain⟨s,s1,s2⟩:=TW hn (l:=m) (l':=t) f i;simp only at p q;unfold ZG;simp only[xT];by_cases c:l.length=l'.length
 ·rw[c,bne_self_eq_false,kcf]
  obtain⟨r,h1,h2⟩:=Ni (e:=s) (l:=l) (l':=l') (B:=px n l l' m t) c (fun k a b u j o=>by
    have v:=qL j;obtain⟨r,h1,h2⟩:=HA hn (b:=b) (q a (qw j));refine⟨r,h2,?_⟩;obtain⟨x1,x2,w,x⟩:=a;obtain⟨y1,y2,y,z⟩:=b;simp only[px,xT,qx v,ql,qf j,qf o,qG,h1];rw[qU (by omega)];cases r<;>rfl)
   (fun u=>by simp only[px,xT,qm,qk,s1,qG]) p
  exact⟨r,h1,by rw[h2,s2]; simp⟩
 rw[Qk.2 c];exact⟨false,rfl,by simp; intro e; exact absurd (congrArg _ e) c⟩
end
end W
end
section
open Go Ax
namespace W
def qjh (d:Node) (l:List UInt8):List (List UInt8):=([76,58]++CB l)::(d.keys.zip d.vals).map fun e=>Zo l e.1 e.2
def aM (d:Node):List (List UInt8):=[65]::d.labels.flatMap (qjh d)
def qo7 (e:Edge):List (List UInt8):=[[88],[84,58]++CB e.type_]
noncomputable def VO (h:List Node) (d:Node):List (List UInt8):=@ite _ (ZB Node.id h d.id=some d) (Classical.propDecidable _) [] (aM d)
noncomputable def UU (h:List Edge) (d:Edge):List (List UInt8):=@ite _ (ZB Edge.id h d.id=some d) (Classical.propDecidable _) [] (qo7 d)
structure GNOk (n:Nat) (d:Node):Prop where
 len:d.keys.length=d.vals.length
 vals:∀ v∈d.vals,ShOk v
structure GOk (n:Nat) (g:Graph):Prop where
 upN:UpI Node.id g.nodes
 upE:UpI Edge.id g.edges
 nodes:∀ d∈g.nodes,GNOk n d
theorem Xi {A S:Type} (add:List (List UInt8)->S->S) (c:∀ a b s,add (a++b) s=add b (add a s)) (d:∀ s,add [] s=s) (f:A->List (List UInt8)):∀ (l:List A) (s:S),l.foldl (fun s x=>add (f x) s) s=add (l.flatMap f) s
 | [],s=>(d s).symm
 | x::l,s=>by rw[List.foldl_cons,Xi add c d f l,List.flatMap_cons,c]
theorem qix {A:Type} (f:A->List UInt8) (l:List A) (m:List (List UInt8×Int)):l.foldl (fun m x=>db (f x) 1 m) m=Ck (l.map f) m:=by
 unfold Ck; rw[List.foldl_map]
theorem qiw {A:Type} (f:A->List UInt8) (l:List A) (m:List (List UInt8)):l.foldl (fun m x=>Rm (f x) m) m=Xg (l.map f) m:=by
 unfold Xg; rw[List.foldl_map]
theorem qas {A B:Type} {a:List A} {b:List B} {k:Nat} {e:A×B} (h:(a.zip b)[k]? =some e):a[k]? =some e.1/\b[k]? =some e.2:=by
 rw[List.getElem?_zip_eq_some]at h; exact h
theorem Fk {g:Graph} {d:Node} (h:d∈g.nodes):dy d<=VS g:=by
 have:=zd dy h; unfold VS; omega
theorem VB {g:Graph} {d:Edge} (h:d∈g.edges):tQ d<=VS g:=by
 have:=zd tQ h; unfold VS; omega
theorem qjc {g:Graph}:g.nodes.length<=VS g/\g.edges.length<=VS g:=by
 have h1:=zc dy (fun d=>by unfold dy; omega) g.nodes
 have h2:=zc tQ (fun d=>by unfold tQ; omega) g.edges
 unfold VS;omega
theorem Fj {A:Type} (f:A->Nat) {l:List A} {k:Nat} {x:A} (h:l[k]? =some x):((l.drop k).map f).sum=f x+((l.drop (k+1)).map f).sum:=by
 obtain⟨h1,h2⟩:=jG.1 h;rw[jn h1,h2]; rfl
section
variable {n:Nat} (hn:n<=137438953472) (h400:2000000<n)
include hn h400
theorem vok {d:Node} (b:GNOk n d) (c:dy d<=1048576) {v:Val} (a:v∈d.vals):VOk n v:=by
 have h1:=vM a;have h2:=(Ho hn d).2.2;exact⟨b.vals v a,by omega,by omega⟩
theorem LJ {l:List (List UInt8)} {s:List UInt8} (h:s∈l):s.length<=sS l:=by
 have:=zd (fun k:List UInt8=>1+k.length) h
 unfold sS; omega
theorem qby {d:Node} (a:GNOk n d) (b:dy d<=1048576) {l:List UInt8} (c:l∈d.labels) {k:Nat} {e:List UInt8×Val} (he:(d.keys.zip d.vals)[k]? =some e) :
  bP n l e.1 e.2=some (Zo l e.1 e.2)/\nK n l e.1 e.2=some (Zo l e.1 e.2):=by
 obtain⟨h1,h2⟩:=qas he;have a1:=LJ hn h400 c;have a2:=LJ hn h400 (qw h1);have:sS d.labels+sS d.keys<dy d:=by unfold dy; omega
 exact Fs hn (by omega) (by omega) (by omega) (by omega) (by omega) (vok hn h400 a b (qw h2))
theorem qbg {R:Type} {t:List UInt8} (h:t.length<=1073741824) (K:Option R):chk (decide (((([76,58]:List UInt8).length+(CB t).length:Nat):Int)<=xr)) K=K:=
 zz (by have:=Fo t; unfold xr; simp only[ja,jc]; omega)
theorem qb8 {R:Type} {t:List UInt8} (h:t.length<=1073741824) (K:Option R):chk (decide (((([84,58]:List UInt8).length+(CB t).length:Nat):Int)<=xr)) K=K:=
 zz (by have:=Fo t; unfold xr; simp only[ja,jc]; omega)
theorem oL {d:Node} (q:GNOk n d) (r:dy d<=1048576) (m:List (List UInt8×Int)):pM n d m=some (Ck (aM d) m):=by
 obtain⟨g1,g2,g3⟩:=Ho hn d;have j:(d.keys.zip d.vals).length=d.keys.length:=by rw[List.length_zip,← q.len]; omega
 have l2:∀ l∈d.labels,∀ (i:Nat) (m:List (List UInt8×Int)) (c:Int×List (List UInt8×Int)->Option (List (List UInt8×Int))),i<=1048576->qo (vG n d.keys d.vals l c (i:Int)) n ((0:Int),m)=c (((i+1:Nat):Int),Ck ((d.keys.zip d.vals).map fun e=>Zo l e.1 e.2) m):=fun l h i m c u=>by
  have e:=xZ (B:=vG n d.keys d.vals l c (i:Int)) (fun k (t:List (List UInt8×Int))=>(((k:Nat):Int),t)) (fun _ _=>True) (l:=d.keys.zip d.vals)
   (fun t e=>.inr (db (Zo l e.1 e.2) 1 t)) (rest:=fun t=>c (((i+1:Nat):Int),t))
   (fun k e t o g _=>by
    have hp:=(qby hn h400 q r h g).1;obtain⟨p,z2⟩:=qas g;have f:=qL p;obtain⟨a,v⟩:=e;obtain⟨v1,v2,v3,v4,v5,v6⟩:=v;simp only at hp p z2;simp only[vG,qn,qx f,ql,qf p,qf z2,qG,hp,tJ];rw[qU (by omega)])
   (fun _ _ _ _ _ _ _=>trivial)
   (fun t o _=>by
    simp only[j,vG,qn,qm,qk];rw[qU (by omega)]) (n:=n) (by omega) (t0:=m) trivial
  rw[sQ,qix]at e;exact e
 have e:=xZ (B:=uB n d.labels d.keys d.vals) (fun k (t:List (List UInt8×Int))=>(((k:Nat):Int),t)) (fun _ _=>True) (l:=d.labels)
  (fun t l=>.inr (Ck (qjh d l) t)) (rest:=fun t=>some t)
  (fun k l t c g _=>by
   have f:=qL g;have h:=qw g;have a1:=LJ hn h400 h;have:sS d.labels<dy d:=by unfold dy; omega
   simp only[uB,qn,qx f,ql,qf g,qG,VP hn (show l.length<n by omega) (by omega),tJ];rw[qbg hn h400 (by omega),l2 l h k _ c (by omega)];rfl)
  (fun _ _ _ _ _ _ _=>trivial)
  (fun t c _=>by simp only[uB,qn,qm,qk]) (n:=n) (by omega) (t0:=db [65] 1 m) trivial
 rw[sQ,Xi Ck (fun a b s=>fT a b s) (fun _=>rfl)]at e
 obtain⟨i,l,ks,vs⟩:=d;exact e
theorem NB {g h:Graph} (v:GOk n g) (w:GOk n h) (G:VS g<=1048576) (y:VS h<=1048576) (m:List (List UInt8×Int)):bd n g h m=some (Ck (g.nodes.flatMap (VO h.nodes)) m):=by
 have gl:=qjc (g:=g);have H:=qjc (g:=h);have e:=xZ (B:=vF n g.nodes h.nodes h.edges) (fun k (t:List (List UInt8×Int))=>(((k:Nat):Int),t)) (fun _ _=>True) (l:=g.nodes)
  (fun t d=>.inr (Ck (VO h.nodes d) t)) (rest:=fun t=>some t)
  (fun k d t q f _=>by
   have j:=qL f;have z:=Fk (qw f);have p:=oL hn h400 (v.nodes d (qw f)) (by omega) t;have c:=qc2 hn w.upN (by omega) (fun x A=>by have:=Fk A; omega) h.edges d.id
   have k3:∀ x,uz n q (k:Int) x=q (((k+1:Nat):Int),x):=fun x=>by
    unfold uz; rw[qU (by omega)]
   simp only[tJ];unfold VO;cases u:ZB Node.id h.nodes d.id with
   | none=>
    rw[if_neg (by simp)];rw[u]at c;obtain⟨i,l,ks,vs⟩:=d;simp only at c p;simp only[vF,xT,qx j,ql,qf f,qG,c,qek,jo,jp,fU,p,k3]
   | some d'=>
    rw[u]at c;obtain⟨r,C,D⟩:=oa hn (a:=d) (b:=d') (by omega);have o:some d'=some d↔r=true:=by rw[D]; constructor<;>intro e<;>cases e<;>rfl
    obtain⟨i,l,ks,vs⟩:=d;obtain⟨I,l',E,F⟩:=d';simp only at c p;simp only[vF,xT,qx j,ql,qf f,qG,c,jo,jp,zg,C,qk];cases r with
    | true=>rw[if_pos (o.2 rfl),jp,kcf,k3]; rfl
    | false=>rw[if_neg (fun e=>by have:=o.1 e; cases this),jo,kct,p,qc,k3])
  (fun _ _ _ _ _ _ _=>trivial)
  (fun t q _=>by simp only[vF,xT,qm,qk]) (n:=n) (by omega) (t0:=m) trivial
 rw[sQ,Xi Ck (fun a b s=>fT a b s) (fun _=>rfl)]at e
 obtain⟨g1,g2⟩:=g;obtain⟨h1,h2⟩:=h;exact e
theorem NA {g h:Graph} (w:GOk n h) (I:VS g<=1048576) (y:VS h<=1048576) (m:List (List UInt8×Int)):bc n g h m=some (Ck (g.edges.flatMap (UU h.edges)) m):=by
 have gl:=qjc (g:=g);have J:=qjc (g:=h);have e:=xZ (B:=vE n g.edges h.nodes h.edges) (fun k (t:List (List UInt8×Int))=>(((k:Nat):Int),t)) (fun _ _=>True) (l:=g.edges)
  (fun t d=>.inr (Ck (UU h.edges d) t)) (rest:=fun t=>some t)
  (fun k d t u q _=>by
   have o:=qL q;have z:=VB (qw q);have A:=(RG hn d).1;have j:=qc1 hn w.upE (by omega) (fun x C=>by have:=VB C; omega) h.nodes d.id
   have k3:∀ x,uy n u (k:Int) x=u (((k+1:Nat):Int),x):=fun x=>by
    unfold uy; rw[qU (by omega)]
   have c:=VP hn (s:=d.type_) (by omega) (by omega);have f:∀ K:Option (List (List UInt8×Int)),_:=fun K=>qb8 hn h400 (t:=d.type_) (by omega) K
   simp only[tJ];unfold UU;cases v:ZB Edge.id h.edges d.id with
   | none=>
    rw[if_neg (by simp)];rw[v]at j;obtain⟨i,a,b,ty,ks,vs⟩:=d;simp only at j c f;simp only[vE,xS,qx o,ql,qf q,qG,j,qej,jo,jp,fU,c,k3];rw[f];rfl
   | some d'=>
    rw[v]at j;obtain⟨r,D,E⟩:=oc hn (a:=d) (b:=d') (by omega);have p:some d'=some d↔r=true:=by rw[E]; constructor<;>intro e<;>cases e<;>rfl
    obtain⟨i,a,b,ty,ks,vs⟩:=d;obtain⟨L,M,N,F,G,H⟩:=d';simp only at j c f;simp only[vE,xS,qx o,ql,qf q,qG,j,jo,jp,zg,D,qk];cases r with
    | true=>rw[if_pos (p.2 rfl),jp,kcf,k3]; rfl
    | false=>rw[if_neg (fun e=>by have:=p.1 e; cases this),jo,kct,c,qc,f,k3]; rfl)
  (fun _ _ _ _ _ _ _=>trivial)
  (fun t u _=>by simp only[vE,xS,qm,qk]) (n:=n) (by omega) (t0:=m) trivial
 rw[sQ,Xi Ck (fun a b s=>fT a b s) (fun _=>rfl)]at e
 obtain⟨g1,g2⟩:=g;obtain⟨h1,h2⟩:=h;exact e
end
end W
end
section
open Go Ax
namespace W
def wN (d:Node):Nat:=1+(d.labels.map fun _=>1+(d.keys.zip d.vals).length).sum
theorem NT {A:Type} (c:Nat):∀ l:List A,(l.map fun _=>c).sum=l.length * c
 | []=>by simp
 | _::l=>by rw[jk,jA,NT c l,ja,Nat.succ_mul]; omega
theorem qkr (d:Node):(aM d).length=wN d:=by
 unfold aM wN;rw[ja,List.length_flatMap];have:∀ l:List (List UInt8),(l.map fun a=>(qjh d a).length)=l.map fun _=>1+(d.keys.zip d.vals).length:=fun l=>List.map_congr_left fun a _=>by
  unfold qjh; rw[ja,jl]; omega
 rw[this]; omega
def qiv (g:Graph):Nat:=(g.nodes.map wN).sum+(g.edges.map fun _=>2).sum
noncomputable def pc (g h:Graph):List (List UInt8):=g.nodes.flatMap (VO h.nodes)++g.edges.flatMap (UU h.edges)
theorem aG (h:List Node) (d:Node):(VO h d).length<=wN d:=by
 unfold VO;split
 ·exact jS _
 exact Nat.le_of_eq (qkr d)
theorem aF (h:List Edge) (d:Edge):(UU h d).length<=2:=by
 unfold UU;split
 ·exact jS _
 exact jw _
theorem Tw {A:Type} {f:A->List (List UInt8)} {w:A->Nat} (h:∀ x,(f x).length<=w x):∀ l:List A,(l.flatMap f).length<=(l.map w).sum
 | []=>jw _
 | x::l=>by
  have:=Tw h l;have:=h x;simp only[List.flatMap_cons,jb,jk,jA];omega
theorem DH (g h:Graph):(pc g h).length<=qiv g:=by
 have h1:=Tw (aG h.nodes) g.nodes;have h2:=Tw (aF h.edges) g.edges;unfold pc qiv;rw[jb];omega
section
variable {n:Nat} (hn:n<=137438953472) (h400:2000000<n)
include hn h400
theorem NX {L:List (List UInt8)} (a:Up L) (h:L.length+2<n) (s:List UInt8):uY n L s=some (Rm s L):=by
 unfold uY;rw[Du hn a h s,qc]
theorem qb0 {g h:Graph} (S:GOk n g) (hb:VS g<=1048576) (T:VS h<=1048576) {L:List (List UInt8)} (U:Up L) (hw:L.length+qiv g+3<n):Vu n L g h=some (Xg (pc g h) L):=by
 have gl:=qjc (g:=g);have R:=qjc (g:=h);have key1:∀ {f:List (List UInt8)},Up f->f.length+(g.edges.map fun _=>2).sum+3<n->qo (cJ n g.edges h.nodes h.edges) n (f,(0:Int))=some (Xg (g.edges.flatMap (UU h.edges)) f):=fun{f} u z=>by
  have e:=xZ (B:=cJ n g.edges h.nodes h.edges) (fun k (t:List (List UInt8))=>(t,((k:Nat):Int))) (fun k t=>Up t/\t.length+((g.edges.drop k).map fun _=>2).sum+3<n) (l:=g.edges)
   (fun t d=>.inr (Xg (UU h.edges d) t)) (rest:=fun t=>some t)
   (fun k d t j c p=>by
    obtain⟨m,i2⟩:=p;rw[Fj (fun _=>2) c]at i2
    have o:=qL c;have w:=VB (qw c);have V:=(RG hn d).1;obtain⟨r,f1,f2⟩:=qdi hn (l:=h.edges) (by omega) h.nodes d.id;have k6:∀ x,pD n j (k:Int) x=j (x,((k+1:Nat):Int)):=fun x=>by
     unfold pD; rw[qU (by omega)]
    have A:=ER hn (s:=d.type_) (by omega) (by omega) (by omega);have C:∀ K:Option (List UInt8),_:=fun K=>qb8 hn h400 (t:=d.type_) (by omega) K
    have w1:=NX hn h400 m (by omega) [88];have w2:=NX hn h400 (GL [88] _ m) (by have:=Ul [88] t; omega) ([84,58]++CB d.type_);simp only[tJ];unfold UU;cases F:ZB Edge.id h.edges d.id with
    | none=>
     rw[if_neg (by simp)];rw[F]at f2;obtain rfl:r = -1:=f2;obtain⟨i,a,b,ty,ks,vs⟩:=d;simp only at f1 A C w2;simp only[cJ,Qb,xS,qx o,ql,qf c,qG,f1,show decide ((-1:Int)≥0)=false from rfl,fU,qk,A,w1];rw[C,qc,w2,qc,k6];rfl
    | some d'=>
     rw[F]at f2;obtain⟨q,rfl,D⟩:=f2;obtain⟨r,H,I⟩:=aq hn (a:=d') (b:=d) (by have:=VB (qw D); omega);have y:some d'=some d↔r=true:=by rw[I]; constructor<;>intro e<;>cases e<;>rfl
     obtain⟨i,a,b,ty,ks,vs⟩:=d;obtain⟨X,a',b',Y,J,M⟩:=d';simp only at f1 A C w2;simp only[cJ,Qb,xS,qx o,ql,qf c,qG,f1,show decide ((q:Int)≥0)=true from kdt (by omega),zg,qf D,H];cases r with
     | true=>rw[if_pos (y.2 rfl),kct,k6]; rfl
     | false=>
      rw[if_neg (fun e=>by have:=y.1 e; cases this),kcf,w1,qc,A,qc,C,qc,w2,qc,k6]
      rfl)
   (fun k d t N c p e=>by
    cases e;obtain⟨m,i2⟩:=p;rw[Fj (fun _=>2) c]at i2
    have h1:=tG (UU h.edges d) t;have h2:=aF h.edges d;exact⟨Zf _ _ m,by omega⟩)
   (fun t j _=>by simp only[cJ,xS,qm,qk]) (n:=n) (by omega) (t0:=f) ⟨u,z⟩
  rw[sQ,Xi Xg (fun a b s=>dw a b s) (fun _=>rfl)]at e
  exact e
 have key3:∀ {d:Node},GNOk n d->dy d<=1048576->∀ {q:Nat} {l:List UInt8},d.labels[q]? =some l->∀ {f:List (List UInt8)} (j:List (List UInt8)×Int->Option (List (List UInt8))),Up f->f.length+(d.keys.zip d.vals).length+3<n ->
   qo (bO n d.keys d.labels (q:Int) d.vals j) n (f,(0:Int))=j (Xg ((d.keys.zip d.vals).map fun e=>Zo l e.1 e.2) f,((q+1:Nat):Int)):=fun{d} G w {q} {l} D {f} j u z=>by
  obtain⟨g1,g2,g3⟩:=Ho hn d;have Z:=qL D;have O:(d.keys.zip d.vals).length=d.keys.length:=by rw[List.length_zip,← G.len]; omega
  have e:=xZ (B:=bO n d.keys d.labels (q:Int) d.vals j) (fun k (t:List (List UInt8))=>(t,((k:Nat):Int))) (fun k t=>Up t/\t.length+((d.keys.zip d.vals).length - k)+3<n) (l:=d.keys.zip d.vals)
   (fun t e=>.inr (Rm (Zo l e.1 e.2) t)) (rest:=fun t=>j (t,((q+1:Nat):Int)))
   (fun k e t E c p=>by
    obtain⟨m,i2⟩:=p;have P:=qL c;have hp:=(qby hn h400 G w (qw D) c).2;obtain⟨Q,z2⟩:=qas c;have o:=qL Q;have w1:=NX hn h400 m (by omega) (Zo l e.1 e.2);obtain⟨a,v⟩:=e;obtain⟨v1,v2,v3,v4,v5,v6⟩:=v;simp only at hp Q z2;simp only[bO,qn,qx o,ql,qf D,qf Q,qf z2,qG,hp,tJ,w1];rw[qU (by omega)])
   (fun k e t N c p he=>by
    cases he;obtain⟨m,i2⟩:=p;have P:=qL c;have h1:=Ul (Zo l e.1 e.2) t;exact⟨GL _ _ m,by omega⟩)
   (fun t E _=>by
    simp only[O,bO,qn,qm,qk];rw[qU (by omega)]) (n:=n) (by omega) (t0:=f) ⟨u,by omega⟩
  rw[sQ,qiw]at e;exact e
 have key2:∀ {d:Node},GNOk n d->dy d<=1048576->∀ {f:List (List UInt8)} (j:List (List UInt8)×Int->Option (List (List UInt8))) (i:Nat),i<=1048576->Up f->f.length+(d.labels.map fun _=>1+(d.keys.zip d.vals).length).sum+3<n ->
   qo (bN n d.labels d.keys d.vals j (i:Int)) n (f,(0:Int))=j (Xg (d.labels.flatMap (qjh d)) f,((i+1:Nat):Int)):=fun{d} G w {f} j i p u z=>by
  obtain⟨g1,g2,g3⟩:=Ho hn d;have e:=xZ (B:=bN n d.labels d.keys d.vals j (i:Int)) (fun k (t:List (List UInt8))=>(t,((k:Nat):Int))) (fun k t=>Up t/\t.length+((d.labels.drop k).map fun _=>1+(d.keys.zip d.vals).length).sum+3<n) (l:=d.labels)
   (fun t l=>.inr (Xg (qjh d l) t)) (rest:=fun t=>j (t,((i+1:Nat):Int)))
   (fun k l t E c p=>by
    obtain⟨m,i2⟩:=p;rw[Fj (fun _=>1+(d.keys.zip d.vals).length) c]at i2
    have o:=qL c;have R:=qw c;have a1:=LJ hn h400 R;have:sS d.labels<dy d:=by unfold dy; omega
    have w1:=NX hn h400 m (by omega) ([76,58]++CB l);have k3:=key3 G w c E (GL ([76,58]++CB l) _ m) (by have:=Ul ([76,58]++CB l) t; omega);simp only[bN,tZ,qn,qx o,ql,qf c,qG,ER hn (show l.length<n by omega) (by omega) (by omega),tJ];rw[qbg hn h400 (by omega),qc,w1,qc,k3];rfl)
   (fun k l t N c p he=>by
    cases he;obtain⟨m,i2⟩:=p;rw[Fj (fun _=>1+(d.keys.zip d.vals).length) c]at i2
    have h1:=tG (qjh d l) t;have h2:(qjh d l).length=1+(d.keys.zip d.vals).length:=by unfold qjh; rw[ja,jl]; omega
    exact⟨Zf _ _ m,by omega⟩)
   (fun t E _=>by
    simp only[bN,bL,qn,qm,qk];rw[qU (by omega)]) (n:=n) (by omega) (t0:=f) ⟨u,z⟩
  rw[sQ,Xi Xg (fun a b s=>dw a b s) (fun _=>rfl)]at e
  exact e
 have e:=xZ (B:=bM n g.nodes h.nodes h.edges g.edges) (fun k (t:List (List UInt8))=>(t,((k:Nat):Int))) (fun k t=>Up t/\t.length+((g.nodes.drop k).map wN).sum+(g.edges.map fun _=>2).sum+3<n) (l:=g.nodes)
  (fun t d=>.inr (Xg (VO h.nodes d) t)) (rest:=fun t=>some (Xg (g.edges.flatMap (UU h.edges)) t))
  (fun k d t j c p=>by
   obtain⟨m,i2⟩:=p;rw[Fj wN c]at i2;have o:=qL c;have w:=Fk (qw c);obtain⟨r,f1,f2⟩:=ES hn (l:=h.nodes) (by omega) h.edges d.id;have k3:∀ x,bL n j (k:Int) x=j (x,((k+1:Nat):Int)):=fun x=>by
    unfold bL; rw[qU (by omega)]
   have hwd:wN d=1+(d.labels.map fun _=>1+(d.keys.zip d.vals).length).sum:=rfl
   have w1:=NX hn h400 m (by omega) [65];have k2:=key2 (S.nodes d (qw c)) (by omega) j k (by omega) (GL [65] _ m) (by have:=Ul [65] t; omega);simp only[tJ];unfold VO;cases F:ZB Node.id h.nodes d.id with
   | none=>
    rw[if_neg (by simp)];rw[F]at f2;obtain rfl:r = -1:=f2;obtain⟨i,l,ks,vs⟩:=d;simp only at f1 k2;simp only[bM,xT,qx o,ql,qf c,qG,f1,show decide ((-1:Int)≥0)=false from rfl,fU,qk,w1];rw[k2];rfl
   | some d'=>
    rw[F]at f2;obtain⟨q,rfl,D⟩:=f2;obtain⟨r,H,I⟩:=au hn (a:=d') (b:=d) (by have:=Fk (qw D); omega);have y:some d'=some d↔r=true:=by rw[I]; constructor<;>intro e<;>cases e<;>rfl
    obtain⟨i,l,ks,vs⟩:=d;obtain⟨X,l',J,M⟩:=d';simp only at f1 k2;simp only[bM,xT,qx o,ql,qf c,qG,f1,show decide ((q:Int)≥0)=true from kdt (by omega),zg,qf D,H];cases r with
    | true=>rw[if_pos (y.2 rfl),kct,k3]; rfl
    | false=>
     rw[if_neg (fun e=>by have:=y.1 e; cases this),kcf,w1,qc,k2]
     rfl)
  (fun k d t N c p he=>by
   cases he;obtain⟨m,i2⟩:=p;rw[Fj wN c]at i2;have h1:=tG (VO h.nodes d) t;have h2:=aG h.nodes d;exact⟨Zf _ _ m,by omega⟩)
  (fun t j p=>by
   obtain⟨m,i2⟩:=p;simp only[bM,xT,qm,qk];exact key1 m (by omega)) (n:=n) (by omega) (t0:=L) ⟨U,by unfold qiv at hw; rw[List.drop_zero]; omega⟩
 rw[sQ,Xi Xg (fun a b s=>dw a b s) (fun _=>rfl),tJ]at e
 unfold pc;rw[dw];obtain⟨g1,g2⟩:=g;obtain⟨h1,h2⟩:=h;exact e
theorem HF {g h:Graph} (e:GOk n g) (f:GOk n h) (c:VS g<=1048576) (a:VS h<=1048576) (hw:qiv g+qiv h+3<n) :
  ur n g h=some (Xg (pc g h++pc h g) [])/\py n g h=some (Xg (pc g h++pc h g) []):=by
 have s1:=qb0 hn h400 (L:=[]) e c a .nil (by simp only[jc]; omega);have i:=tG (pc g h) [];have j:=DH g h;have s2:=qb0 hn h400 (L:=Xg (pc g h) []) f a c (Zf _ _ .nil) (by simp only[jc]at i; omega);have m1:=NB hn h400 e f c a [];have m2:=NB hn h400 f e a c (Ck (g.nodes.flatMap (VO h.nodes)) []);have m3:=NA hn h400 (g:=g) f c a (Ck (h.nodes.flatMap (VO g.nodes)) (Ck (g.nodes.flatMap (VO h.nodes)) []));have m4:=NA hn h400 (g:=h) e a c (Ck (g.edges.flatMap (UU h.edges)) (Ck (h.nodes.flatMap (VO g.nodes)) (Ck (g.nodes.flatMap (VO h.nodes)) [])));have he:Xg (g.nodes.flatMap (VO h.nodes)++(h.nodes.flatMap (VO g.nodes)++(g.edges.flatMap (UU h.edges)++h.edges.flatMap (UU g.edges)))) []=Xg (pc g h++pc h g) []:=by
  refine qmg (Zf _ _ .nil) (Zf _ _ .nil) fun x=>?_;rw[Fg,Fg];unfold pc;simp only[jy,List.not_mem_nil,or_false]
  constructor
  ·rintro(h|h|h|h)
   ·exact .inl (.inl h)
   ·exact .inr (.inl h)
   ·exact .inl (.inr h)
   exact .inr (.inr h)
  rintro((h|h)|(h|h))
  ·exact .inl h
  ·exact .inr (.inr (.inl h))
  ·exact .inr (.inl h)
  exact .inr (.inr (.inr h))
 have d:=tG (pc g h++pc h g) [];have k:=DH h g;rw[jb]at d;simp only[jc]at d;have b:=MarkR.list_eq (n:=n) (MarkR.nil.adds (l:=g.nodes.flatMap (VO h.nodes)++(h.nodes.flatMap (VO g.nodes)++(g.edges.flatMap (UU h.edges)++h.edges.flatMap (UU g.edges))))) (by rw[he]; omega);rw[he,fT,fT,fT]at b;obtain⟨g1,g2⟩:=g;obtain⟨h1,h2⟩:=h
 constructor
 ·unfold ur
  simp only;rw[m1,qc,m2,qc,m3,qc,m4,qc,b,qc]
 unfold py;simp only;rw[s1,qc,s2,qc,dw]
theorem qaj (g h:Graph):Xg (pc h g++pc g h) []=Xg (pc g h++pc h g) []:=by
 refine qmg (Zf _ _ .nil) (Zf _ _ .nil) fun x=>?_;rw[Fg,Fg,jy,jy];simp only[List.not_mem_nil,or_false];exact Or.comm
end
theorem qhx {A:Type} {key:A->Int}:∀ {a b:List A},UpI key a->UpI key b->(∀ x∈a,x∈b)->(∀ x∈b,x∈a)->a=b
 | [],[],_,_,_,_=>rfl
 | [],y::b,_,_,_,h=>by have:=h y (by simp); simp at this
 | x::a,[],_,_,h,_=>by have:=h x (by simp); simp at this
 | x::a,y::b,ha,hb,h1,h2=>by
  have c:=List.pairwise_cons.1 ha;have d:=List.pairwise_cons.1 hb;have f:x=y:=by
   rcases jg.1 (h1 x (by simp))with e|g
   ·exact e
   rcases jg.1 (h2 y (by simp))with e|i
   ·exact e.symm
   have:=d.1 x g;have:=c.1 y i;omega
  subst f;rw[qhx c.2 d.2 (fun z hz=>?_) (fun z hz=>?_)]
  ·rcases jg.1 (h1 z (by simp[hz]))with e|h
   ·subst e; have:=c.1 z hz; omega
   exact h
  rcases jg.1 (h2 z (by simp[hz]))with e|h
  ·subst e; have:=d.1 z hz; omega
  exact h
theorem NP {h:List Node} {d:Node}:VO h d=[]↔ZB Node.id h d.id=some d:=by
 unfold VO;split
 ·rename_i e; exact⟨fun _=>e,fun _=>rfl⟩
 rename_i e; exact⟨fun x=>by simp[aM]at x,fun x=>absurd x e⟩
theorem NO {h:List Edge} {d:Edge}:UU h d=[]↔ZB Edge.id h d.id=some d:=by
 unfold UU;split
 ·rename_i e; exact⟨fun _=>e,fun _=>rfl⟩
 rename_i e; exact⟨fun x=>by simp[qo7]at x,fun x=>absurd x e⟩
theorem aC {A:Type} {key:A->Int} {l:List A} (h:UpI key l) {d:A} (a:d∈l):ZB key l (key d)=some d:=by
 obtain⟨i,b⟩:=List.getElem?_of_mem a;exact qhh h b rfl
theorem qhm {n:Nat} {g h:Graph} (b:GOk n g) (d:GOk n h):Xg (pc g h++pc h g) []=[]↔g=h:=by
 constructor
 ·intro e
  have c:∀ x,x ∉ pc g h++pc h g:=fun x a=>by
   have:x∈Xg (pc g h++pc h g) []:=(Fg x _ _).2 (.inl a);rw[e]at this;simp at this
  have l:pc g h++pc h g=[]:=List.eq_nil_iff_forall_not_mem.2 c;obtain⟨a1,a2⟩:=List.append_eq_nil_iff.1 l;obtain⟨f,i⟩:=List.append_eq_nil_iff.1 a1;obtain⟨j,k⟩:=List.append_eq_nil_iff.1 a2;rw[List.flatMap_eq_nil_iff]at f i j k;have e1:g.nodes=h.nodes:=qhx b.upN d.upN (fun x a=>(Fu (NP.1 (f x a))).1) (fun x a=>(Fu (NP.1 (j x a))).1);have e2:g.edges=h.edges:=qhx b.upE d.upE (fun x a=>(Fu (NO.1 (i x a))).1) (fun x a=>(Fu (NO.1 (k x a))).1);obtain⟨g1,g2⟩:=g;obtain⟨h1,h2⟩:=h;simp only at e1 e2;rw[e1,e2]
 rintro rfl;have:pc g g=[]:=by
  unfold pc;rw[List.flatMap_eq_nil_iff.2 (fun x a=>NP.2 (aC b.upN a)),List.flatMap_eq_nil_iff.2 (fun x a=>NO.2 (aC b.upE a))]
  rfl
 rw[this];rfl
end W
end
section
open Go Ax
namespace W
theorem Tn {A:Type} {B:(Int->Option Bool)->Int->Option Bool} {l:List A} {Q:Nat->A->Prop} {R:Prop} {rest:Option Bool}
  (p:∀ (k:Nat) x d,l[k]? =some x->∃ b,B d (k:Int)=(bif b then d ((k+1:Nat):Int)else some false)/\(b=true->Q k x))
  (he:∀ d,B d ((l.length:Nat):Int)=rest) (a:∃ r,rest=some r/\(r=true->R)) {n:Nat} (hn:l.length<n) :
  ∃ r,qo B n (0:Int)=some r/\(r=true->(∀ (k:Nat) x,l[k]? =some x->Q k x)/\R):=by
 obtain⟨r0,e,f⟩:=a;have main:∀ m k:Nat,k<=l.length->l.length - k<m->∃ r,qo B m (k:Int)=some r/\(r=true->(∀ (j:Nat) x,k<=j->l[j]? =some x->Q j x)/\R):=by
  intro m
  induction m with
  | zero=>intro k _ h; omega
  | succ m ih=>
   intro k s hm;rw[qO];by_cases h:k=l.length
   ·subst h
    exact⟨r0,by rw[he,e],fun h=>⟨fun j x q c=>by have:=qL c; omega,f h⟩⟩
   have h1:k<l.length:=by omega
   obtain⟨b,g,i⟩:=p k _ (qo B m) (jf h1);rw[g];cases b with
   | false=>exact⟨false,rfl,fun h=>by cases h⟩
   | true=>
    obtain⟨r,h3,h4⟩:=ih (k+1) (by omega) (by omega);refine⟨r,h3,fun a=>⟨fun j x q c=>?_,(h4 a).2⟩⟩;by_cases o:j=k
    ·subst o
     rw[jf h1]at c;cases c;exact i rfl
    exact(h4 a).1 j x (by omega) c
 obtain⟨r,h1,h2⟩:=main n 0 (by omega) (by omega);exact⟨r,h1,fun a=>⟨fun k x c=>(h2 a).1 k x (jS _) c,(h2 a).2⟩⟩
theorem qmf {A:Type} {key:A->Int} {l:List A} (h:∀ (k:Nat) x y,l[k]? =some x->l[k+1]? =some y->key x<key y):UpI key l:=by
 have step:∀ (d i:Nat) x y,l[i]? =some x->l[i+d+1]? =some y->key x<key y:=by
  intro d
  induction d with
  | zero=>intro i x y b a; exact h i x y b a
  | succ d ih=>
   intro i x y b a;have g:=qL a;obtain⟨z,hz⟩:∃ z,l[i+d+1]? =some z:=⟨_,jf (by omega)⟩;have h1:=ih i x z b hz;have h2:=h (i+d+1) z y hz a;omega
 refine List.pairwise_iff_getElem.2 fun i j c e f=>?_;have:=step (j - i - 1) i l[i] l[j] (jf c) (by rw[show i+(j - i - 1)+1=j by omega]; exact jf e);exact this
theorem qnx {k:Nat} (a:0<k) (h:k<=1152921504606846976):kwr .i64 ((k:Int) - 1)=((k - 1:Nat):Int):=by
 rw[UW (by omega) (by omega)]; omega
section
variable {n:Nat} (hn:n<=137438953472) (h400:2000000<n)
include hn h400
theorem RY {l:List (List UInt8)} (h:l.length<n):∃ b,QK n l=some b:=by
 obtain⟨r,h1,_⟩:=Tn (l:=l) (B:=fO n l) (Q:=fun _ _=>True) (R:=True) (rest:=some true) (fun k x e a=>by
  have d:=qL a;cases k with
  | zero=>
   simp only[fO,gx,qn,qx d,ql,qf a,qG,show decide ((((0:Nat):Int))>0)=false from rfl,Bool.and_false,fU,qk];rw[qU (by omega)];generalize (bif decide (((x.length:Nat):Int)≥1)then decide (((x.length:Nat):Int)<=64)else false)=b;refine⟨b,?_,fun _=>trivial⟩
   cases b<;>rfl
  | succ k=>
   obtain⟨z,hz⟩:∃ z,l[k]? =some z:=⟨_,jf (by omega)⟩;simp only[fO,gx,qn,qx d,ql,qf a,qG,show decide ((((k+1:Nat):Int))>0)=true from kdt (by omega),qnx (show 0<k+1 by omega) (by omega),Nat.add_sub_cancel,qf hz];rw[qU (by omega)];generalize (bif decide (((x.length:Nat):Int)≥1)then decide (((x.length:Nat):Int)<=64)else false)=b;cases b with
   | false=>exact⟨false,rfl,fun _=>trivial⟩
   | true=>
    simp only[jp,jo,Bool.true_and,zg,qG,qk,ql];generalize (Op.bytesLess x z||x==z)=c;exact⟨!c,by cases c<;>rfl,fun _=>trivial⟩)
  (fun e=>by simp only[fO,qn,qm,qk]) ⟨true,rfl,fun _=>trivial⟩ h
 exact⟨r,h1⟩
theorem oU {v:Val} (o:tm v+500<n):∃ b,sc n v=some b/\(b=true->ShOk v):=by
 obtain⟨m,f,a⟩:=Tp (n:=n) (by omega) (v:=v) (by omega);obtain⟨p,hp⟩:=aj n hn v (by omega);obtain⟨k,b,i,s,l,ks⟩:=v;unfold sc;simp only[a,hp];cases q:(k != 0)with
 | false=>exact⟨false,rfl,fun h=>by cases h⟩
 | true=>
  cases m with
  | false=>exact⟨false,rfl,fun h=>by cases h⟩
  | true=>
   refine⟨p,by cases p<;>rfl,fun _=>?_⟩;have d:∃ c',uO n (.mk k b i s l ks) 32 0=some (c',true):=by
    unfold nv at a
    dsimp only at a
    obtain⟨⟨c,r⟩,g,j⟩:=Fh a;cases j;exact⟨c,g⟩
   obtain⟨c',e⟩:=d;exact(ql4 n hn k b i s l ks 32 0 c' (by omega) e).2
theorem qbz {ks:List (List UInt8)} {vs:List Val} (a:ks.length<n) (e:br vs+500<n):∃ b,ZY n ks vs=some b/\(b=true->ks.length=vs.length/\∀ v∈vs,ShOk v):=by
 have p:=vD vs;obtain⟨q,f⟩:=RY hn h400 a;obtain⟨r,h1,h2⟩:=Tn (l:=vs) (B:=mI n vs ks) (Q:=fun _ v=>ShOk v) (R:=ks.length=vs.length) (rest:=some (bif((((ks.length:Nat):Int)==((vs.length:Nat):Int)))then q else false)) (fun k x g c=>by
  have a:=qL c;obtain⟨b,j,m⟩:=oU hn h400 (v:=x) (by have:=vM (qw c); omega);refine⟨b,?_,m⟩;obtain⟨x1,x2,s,t,u,w⟩:=x;simp only[mI,ze,qx a,ql,qf c,qG,j];rw[qU (by omega)];cases b<;>rfl)
  (fun g=>by
   simp only[mI,ze,qn,qm,qk,f];cases d:(((ks.length:Nat):Int)==((vs.length:Nat):Int))<;>rfl)
  ⟨_,rfl,fun h=>by
   cases d:(((ks.length:Nat):Int)==((vs.length:Nat):Int))with
   | true=>have:=beq_iff_eq.1 d; omega
   | false=>rw[d]at h; cases h⟩ (n:=n) (by omega)
 refine⟨r,h1,fun h=>⟨(h2 h).2,fun v e=>?_⟩⟩;obtain⟨i,o⟩:=List.getElem?_of_mem e;exact(h2 h).1 i v o
theorem qc9 {d:Node} (e:dy d+500<n):∃ b,tx n d=some b/\(b=true->GNOk n d):=by
 obtain⟨g1,g2,g3⟩:=Ho hn d;obtain⟨p,hp⟩:=RY hn h400 (l:=d.labels) (by omega);obtain⟨q,c,a⟩:=qbz hn h400 (ks:=d.keys) (vs:=d.vals) (by omega) (by omega);obtain⟨i,l,ks,vs⟩:=d;simp only at hp c a;unfold tx;simp only[hp,c];cases decide (i≥1)with
 | false=>exact⟨false,rfl,fun h=>by cases h⟩
 | true=>
  cases p with
  | false=>exact⟨false,rfl,fun h=>by cases h⟩
  | true=>exact⟨q,by cases q<;>rfl,fun h=>⟨(a h).1,(a h).2⟩⟩
theorem oM {d:Edge} (g:tQ d+500<n):∃ b,tw n d=some b:=by
 obtain⟨g1,g2,g3⟩:=RG hn d;obtain⟨q,e,f⟩:=qbz hn h400 (ks:=d.keys) (vs:=d.vals) (by omega) (by omega);obtain⟨i,a,b,ty,ks,vs⟩:=d;simp only at e;unfold tw gx;simp only[e];cases decide (i≥1)with
 | false=>exact⟨false,rfl⟩
 | true=>
  generalize (bif decide (((ty.length:Nat):Int)≥1)then decide (((ty.length:Nat):Int)<=64)else false)=c;cases c with
  | false=>exact⟨false,rfl⟩
  | true=>exact⟨q,by cases q<;>rfl⟩
theorem qgh {g:Graph} (P:VS g<=1048576):∃ b,Gf n g=some b/\(b=true->GOk n g):=by
 have gl:=qjc (g:=g);have A:=fun d (h:d∈g.nodes)=>Fk (g:=g) h
 have a:=fun d (h:d∈g.edges)=>VB (g:=g) h
 obtain⟨N,E⟩:=g;simp only at gl A a;have e2:∃ r,qo (cG n E N) n (0:Int)=some r/\(r=true->UpI Edge.id E):=by
  obtain⟨r,h1,h2⟩:=Tn (l:=E) (B:=cG n E N) (Q:=fun k d=>∀ j y,k=j+1->E[j]? =some y->y.id<d.id) (R:=True)
   (rest:=some (bif(decide (((N.length:Nat):Int)<=(4096:Int)))then(decide (((E.length:Nat):Int)<=(4096:Int)))else false)) (fun k d J f=>by
   have F:=qL f;have K:=a d (qw f);obtain⟨b,v⟩:=oM hn h400 (d:=d) (by omega);obtain⟨p,hp,_⟩:=ES hn (l:=N) (n:=n) (by omega) E d.from_;obtain⟨q,I,_⟩:=ES hn (l:=N) (n:=n) (by omega) E d.to;cases k with
   | zero=>
    obtain⟨i,c,e,m,o,s⟩:=d;simp only at hp I;simp only[cG,xS,qx F,ql,qf f,qG,v,show decide ((((0:Nat):Int))>0)=false from rfl,Bool.and_false,fU,hp,I];rw[qU (by omega)];cases b with
    | false=>exact⟨false,rfl,fun h=>by cases h⟩
    | true=>
     simp only[jp,jo,qk,zg,qG];cases h1:decide (p<0)with
     | true=>exact⟨false,rfl,fun h=>by cases h⟩
     | false=>
      simp only[qk,jo,zg,qG];cases h2:decide (q<0)with
      | true=>exact⟨false,rfl,fun h=>by cases h⟩
      | false=>exact⟨true,rfl,fun _ j y h=>by omega⟩
   | succ k=>
    obtain⟨z,hz⟩:∃ z,E[k]? =some z:=⟨_,jf (by omega)⟩;have D:=hz;obtain⟨i,c,e,m,o,s⟩:=d;obtain⟨j,t,u,C,S,T⟩:=z;simp only at hp I;simp only[cG,xS,qx F,ql,qf f,qG,v,show decide ((((k+1:Nat):Int))>0)=true from kdt (by omega),Bool.and_true,hp,I,qnx (show 0<k+1 by omega) (by omega),Nat.add_sub_cancel,qf hz];rw[qU (by omega)];cases b with
    | false=>exact⟨false,rfl,fun h=>by cases h⟩
    | true=>
     simp only[jp,jo,qk,zg,qG];cases G:decide (i<=j)with
     | true=>exact⟨false,rfl,fun h=>by cases h⟩
     | false=>
      have G:=of_decide_eq_false G;simp only[qk,jo,zg,qG];cases h1:decide (p<0)with
      | true=>exact⟨false,rfl,fun h=>by cases h⟩
      | false=>
       simp only[qk,jo,zg,qG];cases h2:decide (q<0)with
       | true=>exact⟨false,rfl,fun h=>by cases h⟩
       | false=>exact⟨true,rfl,fun _ L y h w=>by
         obtain rfl:k=L:=by omega
         rw[D]at w; cases w;show j<i;omega⟩)
   (fun J=>by simp only[cG,xT,xS,qm,qk]) ⟨_,rfl,fun _=>trivial⟩ (n:=n) (by omega)
  exact⟨r,h1,fun h=>qmf fun k x y M w=>(h2 h).1 (k+1) y w k x rfl M⟩
 obtain⟨r,h1,h2⟩:=Tn (l:=N) (B:=nG n N E) (Q:=fun k d=>GNOk n d/\∀ j y,k=j+1->N[j]? =some y->y.id<d.id) (R:=UpI Edge.id E) (rest:=qo (cG n E N) n (0:Int)) (fun k d J f=>by
   have F:=qL f;have K:=A d (qw f);obtain⟨b,v,H⟩:=qc9 hn h400 (d:=d) (by omega);cases k with
   | zero=>
    obtain⟨i,c,e,m⟩:=d;simp only[nG,xT,qx F,ql,qf f,qG,v,show decide ((((0:Nat):Int))>0)=false from rfl,Bool.and_false,fU];rw[qU (by omega)];cases b with
    | false=>exact⟨false,rfl,fun h=>by cases h⟩
    | true=>exact⟨true,rfl,fun _=>⟨H rfl,fun j y h=>by omega⟩⟩
   | succ k=>
    obtain⟨z,hz⟩:∃ z,N[k]? =some z:=⟨_,jf (by omega)⟩;have D:=hz;obtain⟨i,c,e,m⟩:=d;obtain⟨j,t,u,C⟩:=z;simp only[nG,xT,qx F,ql,qf f,qG,v,show decide ((((k+1:Nat):Int))>0)=true from kdt (by omega),Bool.and_true,qnx (show 0<k+1 by omega) (by omega),Nat.add_sub_cancel,qf hz];rw[qU (by omega)];cases b with
    | false=>exact⟨false,rfl,fun h=>by cases h⟩
    | true=>
     simp only[jp,jo,qk,zg,qG];cases G:decide (i<=j)with
     | true=>exact⟨false,rfl,fun h=>by cases h⟩
     | false=>
      have G:=of_decide_eq_false G;exact⟨true,rfl,fun _=>⟨H rfl,fun L y h w=>by
       obtain rfl:k=L:=by omega
       rw[D]at w; cases w;show j<i;omega⟩⟩)
  (fun J=>by simp only[nG,xT,qm,qk]) e2 (n:=n) (by omega)
 refine⟨r,h1,fun h=>⟨qmf fun k x y M w=>((h2 h).1 (k+1) y w).2 k x rfl M,(h2 h).2,fun d f=>?_⟩⟩;obtain⟨i,O⟩:=List.getElem?_of_mem f;exact((h2 h).1 i d O).1
theorem qe7 (g:Graph):∃ b,Vi n ⟨[]⟩ g=some b:=by
 obtain⟨L,a⟩:=Nz hn (cl:=[]) (by simp[xq]; omega);obtain⟨g1,g2⟩:=g;unfold Vi;simp only[a,qG];exact⟨_,rfl⟩
end
theorem qkn (v:Val):2<=tm v:=by
 obtain⟨k,b,i,s,l,ks⟩:=v;have:=vD l;simp only[tm]; omega
theorem NU:∀ l:List Val,3 * l.length+1<=br l
 | []=>by simp[br]
 | v::l=>by have:=NU l; have:=qkn v; simp only[br,ja]; omega
theorem qaf {a b:Nat} (h:a<=b):a * a<=b * b:=Nat.mul_le_mul h h
theorem qrl (L K B:Nat) (h:L+4 * K<=B):16 * (L * K)<=B * B:=by
 refine Nat.le_trans ?_ (qaf h);rcases Nat.le_total L (4 * K)with h1|h1
 ·obtain⟨t,c⟩:=Nat.exists_eq_add_of_le h1
  have e1:16 * (L * K)=4 * (L * (4 * K)):=by rw[← Nat.mul_assoc L 4 K,Nat.mul_comm L 4,Nat.mul_assoc 4 L K,← Nat.mul_assoc 4 4]
  rw[e1,c];have:(L+(L+t)) * (L+(L+t))=4 * (L * (L+t))+t * t:=by
   simp only[Nat.mul_add,Nat.add_mul,Nat.mul_comm t L]; omega
  omega
 obtain⟨t,rfl⟩:=Nat.exists_eq_add_of_le h1;have:(4 * K+t+4 * K) * (4 * K+t+4 * K)=16 * ((4 * K+t) * K)+t * t:=by
  have e:∀ a b:Nat,4 * a * (4 * b)=16 * (a * b):=fun a b=>by rw[Nat.mul_assoc,Nat.mul_left_comm a 4 b,← Nat.mul_assoc 4 4]
  have e2:4 * K * t=4 * (K * t):=Nat.mul_assoc _ _ _;have e3:t * (4 * K)=4 * (K * t):=by rw[Nat.mul_left_comm,Nat.mul_comm t K]
  have e4:4 * K * K=4 * (K * K):=Nat.mul_assoc _ _ _;simp only[Nat.mul_add,Nat.add_mul,e,e2,e3,e4,Nat.mul_comm t K]; omega
 omega
theorem qq4 (d:Node):16 * wN d<=16 * dy d+dy d * dy d:=by
 have h1:=xi d.labels;have h2:=xi d.keys;have h3:=NU d.vals;have hz:(d.keys.zip d.vals).length<=d.keys.length/\(d.keys.zip d.vals).length<=d.vals.length:=by rw[List.length_zip]; omega
 have:=qrl d.labels.length (d.keys.zip d.vals).length (dy d) (by unfold dy; omega);unfold wN;rw[NT,Nat.mul_add d.labels.length];have:1+d.labels.length<=dy d:=by unfold dy; omega
 omega
theorem qmc {A:Type} {f w:A->Nat} (h:∀ x,16 * w x<=16 * f x+f x * f x):∀ l:List A,16 * (l.map w).sum<=16 * (l.map f).sum+(l.map f).sum * (l.map f).sum
 | []=>jS _
 | x::l=>by
  have h1:=qmc h l;have h2:=h x;simp only[jk,jA,Nat.mul_add,Nat.add_mul]at h1 h2 ⊢;have:0<=f x * (l.map f).sum:=jS _;omega
theorem qh1 (g:Graph):16 * qiv g<=32 * VS g+VS g * VS g:=by
 have h1:=qmc qq4 g.nodes;have h2:(g.edges.map fun _=>2).sum<=2 * (g.edges.map tQ).sum:=by
  have:=zc tQ (fun d=>by unfold tQ; omega) g.edges
  rw[NT]; omega
 have h3:=qaf (show(g.nodes.map dy).sum<=VS g by unfold VS; omega);have:16 * (g.nodes.map dy).sum+32 * (g.edges.map tQ).sum<=32 * VS g:=by unfold VS; omega
 unfold qiv;omega
theorem oI {n:Nat} (hn:n<=137438953472) (H:137438953472<=n) {g h:Graph} (C:VS g+VS h<=1048576):ni n g h=some true:=by
 obtain⟨f1,q⟩:=qe7 hn (by omega) g;obtain⟨f2,s⟩:=qe7 hn (by omega) h;obtain⟨m1,t,b⟩:=qgh hn (by omega) (g:=g) (by omega);obtain⟨m2,u,f⟩:=qgh hn (by omega) (g:=h) (by omega);have hw:=ic (n:=n) (by omega);have w1:=qh1 g;have w2:=qh1 h;have sq:=qaf C;have D:(VS g+VS h) * (VS g+VS h)=VS g * VS g+VS h * VS h+2 * (VS g * VS h):=by
  simp only[Nat.mul_add,Nat.add_mul,Nat.mul_comm (VS h) (VS g)]; omega
 have E:qiv g+qiv h+3<n:=by omega
 have gl:=qjc (g:=g);have I:=qjc (g:=h);have main:GOk n g->GOk n h->(bnd (ur n g h) fun e=>bnd (py n g h) fun m=>bnd (qY n e m) fun c=>
   bnd (qD c (ur n h g)) fun o=>bnd (qD c (qY n o e)) fun i=>bnd (qD (bif c then i else false) (ZG n g h)) fun j=>
   bnd (qD (bif(bif c then i else false)then(((((qi e).length:Nat):Int)==(0:Int))==j)else false) (gP n)) fun p=>
   some (bif(bif(bif c then i else false)then(((((qi e).length:Nat):Int)==(0:Int))==j)else false)then p else false))=some true:=fun v w=>by
  obtain⟨t1,t2⟩:=HF hn (by omega) v w (by omega) (by omega) (by omega);obtain⟨t3,_⟩:=HF hn (by omega) w v (by omega) (by omega) (by omega);rw[qaj hn (by omega)]at t3;have k:=qhm v w;have l:=tG (pc g h++pc h g) [];have F:=DH g h;have G:=DH h g;rw[jb]at l;simp only[jc]at l;have B:=Xn (n:=n) (x:=Xg (pc g h++pc h g) []) (by omega) hn;obtain⟨r,y,z⟩:=qj4 hn (g:=g) (h:=h) (by omega) (by omega) (fun d A=>by have:=Fk A; omega) (fun d A=>by have:=VB A; omega)
  generalize Xg (pc g h++pc h g) []=T at *;rw[t1,qc,t2,qc,B,qc];simp only[zg,t3,B,qG,ql,y];have he:(((((qi T).length:Nat):Int)==(0:Int))==r)=true:=by
   rw[beq_iff_eq,Bool.eq_iff_iff,beq_iff_eq,z,← k,qn];cases T with
   | nil=>simp
   | cons a T=>simp; omega
  rw[he];simp only[zg,hw,qG,ql]
 obtain⟨g1,g2⟩:=g;obtain⟨h1,h2⟩:=h;unfold ni;simp only[q,s,t,u,qG];cases f1 with
 | false=>simp only[jo,jp,fU,qG,ql,hw]
 | true=>
  cases f2 with
  | false=>simp only[jo,jp,fU,zg,qG,ql,qk,hw]
  | true=>
   cases m1 with
   | false=>simp only[jo,jp,fU,zg,qG,ql,qk,hw]
   | true=>
    cases m2 with
    | false=>simp only[jo,jp,fU,zg,qG,ql,qk,hw]
    | true=>
     simp only[jo,jp,zg,qG,ql,qk];exact main (b rfl) (f rfl)
end W
end
section
open Go Go.Proofs Ax
namespace W
open Go.Proofs.YtlnipohgljbfiaaGreat
theorem gJ:∀ l:List qe,uF l=(l.map fun x=>dC x+1).sum+1
 | []=>rfl
 | x::l=>by simp only[uF,jk,jA]; rw[gJ l]; omega
theorem gL:∀ l:List Val,br l=(l.map fun x=>tm x+1).sum+1
 | []=>rfl
 | x::l=>by simp only[br,jk,jA]; rw[gL l]; omega
variable {Hd:Type} {enc:TypeId×Value->Hd} {w:World}
theorem DD {H:PH}:∀ {a:List PV} {b:List PV} {x y:List Value},zS H a x->zS H b y->zS H (a++b) (x++y)
 | [],_,x,_,h,h'=>by
  have:x=[]:=by simpa[zS]using h
  subst this; exact h'
 | p::a,_,x,_,h,h'=>by
  simp only[zS]at h;obtain⟨v,vs,rfl,h1,h2⟩:=h;simp only[List.cons_append,zS];exact⟨_,_,rfl,h1,DD h2 h'⟩
theorem sP {H:PH} {a b:List PV} {cs:List Value} {o z:Nat} (h:zS H a ((cs.drop o).take z)/\∀ u∈(cs.drop o).take z,u.oneCell'=true) (c:zS H b (cs.drop (o+z))/\∀ u∈cs.drop (o+z),u.oneCell'=true) :
  zS H (a++b) (cs.drop o)/\∀ u∈cs.drop o,u.oneCell'=true:=by
 have e:cs.drop o=(cs.drop o).take z++cs.drop (o+z):=by rw[← List.drop_drop,List.take_append_drop]
 refine⟨by rw[e]; exact DD h.1 c.1,fun u hu=>?_⟩;rw[e]at hu;rcases jy.1 hu with hu|hu
 ·exact h.2 u hu
 exact c.2 u hu
theorem eX {H:PH} {cs:List Value} {z:Nat} (h:cs.length=z):zS H [] (cs.drop z)/\∀ u∈cs.drop z,u.oneCell'=true:=by
 have:cs.drop z=[]:=List.drop_eq_nil_of_le (by omega);rw[this];exact⟨rfl,fun u hu=>by cases hu⟩
theorem DI {α:Type} {a:α->Nat}:∀ (l:List α) (elems:List (DataW Hd)),l.length=elems.length->(∀ (i:Nat) (d:DataW Hd) (v:α),elems[i]? =some d->l[i]? =some v->a v<=Rows.uptoBulk d)->(l.map a).sum<=Rows.uptoBulkAll elems
 | [],_,_,_=>jS _
 | v::l,[],h,_=>by simp at h
 | v::l,d::elems,h,hh=>by
  have:=DI l elems (by simpa using h) fun i d v b c=>hh (i+1) d v (by simpa using b) (by simpa using c)
  have:=hh 0 d v rfl rfl;simp only[jk,jA,Rows.uptoBulkAll]; omega
theorem dg {α:Type} [Inhabited α] {P:Program} {t e:TypeId} {z n:Nat} {row:α->List PV} {f:α->Nat} {rws:List α->List (List PV)} (g:P.underlying t=some (.slice e)) (hz:P.cellsOf e=z) (c:1<=z)
  (a:∀ v,(row v).length=z) (i:∀ l,rws l=l.map row) (d:∀ m,m<n->xF enc P w e m row f Rows.uptoBulk):xF enc P w t n (fun l:List α=>[PV.sl (rws l)]) (fun l=>(l.map f).sum+1) Rows.uptoBulk:=by
 intro cs x h;obtain⟨l,v,rfl,o,r,b⟩:=RV g hz c a d h;refine⟨l,?_,by simpa using o,?_⟩
 ·simp only[zS]
  exact⟨_,_,rfl,by rw[i]; exact r,rfl⟩
 rcases b with ⟨e,rfl⟩|⟨j,rest,e,k,p⟩
 ·rw[e]; simp[Rows.uptoBulk]
 rw[e];have:=DI l j k p;simp only[Rows.uptoBulk]; omega
theorem rd3 (n:Nat):xF (α:=Int) enc Tryz.prog w 3 n (fun i=>[PV.int .i64 i]) (isz) Rows.uptoBulk:=by
 intro cs x h;obtain⟨k,e,rfl,hw⟩:=DataW.trod_int Tryz.underlying3 h;cases e;exact⟨k,by simp[zS,zn],by simp[Value.oneCell'],by simp only[Rows.uptoBulk]; exact Nat.le_of_eq (qa9 (by simpa[Lit.wf]using hw))⟩
theorem rd4 (n:Nat):xF (α:=Bool) enc Tryz.prog w 4 n (fun b=>[PV.bool b]) (fun _=>1) Rows.uptoBulk:=by
 intro cs x h;obtain⟨k,e,rfl⟩:=DataW.trod_bool Tryz.underlying4 h;cases e;exact⟨k,by simp[zS,zn],by simp[Value.oneCell'],by simp[Rows.uptoBulk]⟩
theorem rd2 (n:Nat):xF (α:=Int) enc Tryz.prog w 2 n (fun i=>[PV.int .i64 i]) (isz) Rows.uptoBulk:=by
 intro cs x h;obtain⟨k,e,rfl,hw⟩:=DataW.trod_int Tryz.underlying2 h;cases e;exact⟨k,by simp[zS,zn],by simp[Value.oneCell'],by simp only[Rows.uptoBulk]; exact Nat.le_of_eq (qa9 (by simpa[Lit.wf]using hw))⟩
theorem rd9 (n:Nat):xF (α:=List UInt8) enc Tryz.prog w 9 n (fun s=>[PV.str s]) (fun s=>1+s.length) Rows.uptoBulk:=by
 intro cs x h;obtain⟨s,e,rfl,_⟩:=DataW.trod_string Tryz.underlying9 h;cases e;exact⟨s.data.toList,by simp[zS,zn],by simp[Value.oneCell'],by simp[Rows.uptoBulk]; omega⟩
theorem qg7 (n:Nat):xF (α:=List (List UInt8)) enc Tryz.prog w 26 n (fun l=>[PV.sl (qi l)]) (fun l=>(l.map (fun s=>1+s.length)).sum+1) Rows.uptoBulk:=
 dg (α:=List UInt8) (z:=1) (rws:=qi) Tryz.underlying26 (by kernel_rfl) (by decide) (fun _=>rfl) (fun _=>rfl) (fun m hm=>rd9 m)
theorem qqd (n:Nat):xF (α:=Val) enc Tryz.prog w 28 n (Val.cells) (fun x=>tm x+1) Rows.uptoBulk:=by
 induction n using Nat.strongRecOn with
 | ind n ih=>
 intro cs x h;obtain⟨xs,m,rfl,rfl,b,i,a⟩:=DataW.trod_struct Tryz.underlying28 h;rw[show Tryz.prog.cellsOf 28=6 by kernel_rfl]at b;have c:xs.length=6:=i;obtain⟨d,y1,y2,e,f,g,rfl⟩:∃ d y1 y2 e f g,xs=[d,y1,y2,e,f,g]:=by
  match xs,c with
  | [d,y1,y2,e,f,g],_=>exact⟨d,y1,y2,e,f,g,rfl⟩
 have f0:=a 0 _ rfl;change DataW.trod enc Tryz.prog w 0 _ true m 3 ((cs.drop 0).take (Tryz.prog.cellsOf 3))=some d at f0;rw[show Tryz.prog.cellsOf 3=1 by kernel_rfl]at f0;obtain⟨v0,r0,o0,k⟩:=rd3 m _ _ f0;have f1:=a 1 _ rfl;change DataW.trod enc Tryz.prog w 0 _ true m 4 ((cs.drop 1).take (Tryz.prog.cellsOf 4))=some y1 at f1;rw[show Tryz.prog.cellsOf 4=1 by kernel_rfl]at f1;obtain⟨v1,l,o1,o⟩:=rd4 m _ _ f1;have f2:=a 2 _ rfl;change DataW.trod enc Tryz.prog w 0 _ true m 2 ((cs.drop 2).take (Tryz.prog.cellsOf 2))=some y2 at f2;rw[show Tryz.prog.cellsOf 2=1 by kernel_rfl]at f2;obtain⟨v2,p,o2,q⟩:=rd2 m _ _ f2;have f3:=a 3 _ rfl;change DataW.trod enc Tryz.prog w 0 _ true m 9 ((cs.drop 3).take (Tryz.prog.cellsOf 9))=some e at f3;rw[show Tryz.prog.cellsOf 9=1 by kernel_rfl]at f3;obtain⟨v3,r,s,t⟩:=rd9 m _ _ f3;have f4:=a 4 _ rfl;change DataW.trod enc Tryz.prog w 0 _ true m 25 ((cs.drop 4).take (Tryz.prog.cellsOf 25))=some f at f4;rw[show Tryz.prog.cellsOf 25=1 by kernel_rfl]at f4;obtain⟨v4,u,v,y⟩:=(dg (α:=Val) (z:=6) (rws:=Val.rows) Tryz.underlying25 (by kernel_rfl) (by decide) (XJ) (rows_eq) (fun j A=>ih j (Nat.lt_trans A (Nat.lt_succ_self _)))) _ _ f4
 have f5:=a 5 _ rfl;change DataW.trod enc Tryz.prog w 0 _ true m 26 ((cs.drop 5).take (Tryz.prog.cellsOf 26))=some g at f5;rw[show Tryz.prog.cellsOf 26=1 by kernel_rfl]at f5;obtain⟨v5,B,C,D⟩:=qg7 m _ _ f5;have key:=sP ⟨r0,o0⟩ (sP ⟨l,o1⟩ (sP ⟨p,o2⟩ (sP ⟨r,s⟩ (sP ⟨u,v⟩ (sP ⟨B,C⟩ (eX b))))));rw[List.drop_zero]at key;refine⟨⟨v0,v1,v2,v3,v4,v5⟩,?_,key.2,?_⟩
 ·have key:=key.1
  exact key
 simp only[tm,Rows.uptoBulk,Rows.uptoBulkAll,jk,jN,gJ,gL,sS,Un,xq];simp only[]at k o q t y D;omega
theorem qrg (n:Nat):xF (α:=List (Val)) enc Tryz.prog w 25 n (fun l=>[PV.sl (Val.rows l)]) (fun l=>(l.map (fun x=>tm x+1)).sum+1) Rows.uptoBulk:=
 dg (α:=Val) (z:=6) (rws:=Val.rows) Tryz.underlying25 (by kernel_rfl) (by decide) (XJ) (rows_eq) (fun m hm=>qqd m)
theorem qsb (n:Nat):xF (α:=Node) enc Tryz.prog w 74 n (Node.cells) (dy) Rows.uptoBulk:=by
 intro cs x h;obtain⟨xs,m,rfl,rfl,a,f,e⟩:=DataW.trod_struct Tryz.underlying74 h;rw[show Tryz.prog.cellsOf 74=4 by kernel_rfl]at a;have b:xs.length=4:=f;obtain⟨c,y1,y2,d,rfl⟩:∃ c y1 y2 d,xs=[c,y1,y2,d]:=by
  match xs,b with
  | [c,y1,y2,d],_=>exact⟨c,y1,y2,d,rfl⟩
 have f0:=e 0 _ rfl;change DataW.trod enc Tryz.prog w 0 _ true m 2 ((cs.drop 0).take (Tryz.prog.cellsOf 2))=some c at f0;rw[show Tryz.prog.cellsOf 2=1 by kernel_rfl]at f0;obtain⟨v0,r0,o0,g⟩:=rd2 m _ _ f0;have f1:=e 1 _ rfl;change DataW.trod enc Tryz.prog w 0 _ true m 26 ((cs.drop 1).take (Tryz.prog.cellsOf 26))=some y1 at f1;rw[show Tryz.prog.cellsOf 26=1 by kernel_rfl]at f1;obtain⟨v1,i,o1,j⟩:=qg7 m _ _ f1;have f2:=e 2 _ rfl;change DataW.trod enc Tryz.prog w 0 _ true m 26 ((cs.drop 2).take (Tryz.prog.cellsOf 26))=some y2 at f2;rw[show Tryz.prog.cellsOf 26=1 by kernel_rfl]at f2;obtain⟨v2,k,o2,l⟩:=qg7 m _ _ f2;have f3:=e 3 _ rfl;change DataW.trod enc Tryz.prog w 0 _ true m 25 ((cs.drop 3).take (Tryz.prog.cellsOf 25))=some d at f3;rw[show Tryz.prog.cellsOf 25=1 by kernel_rfl]at f3;obtain⟨v3,o,p,q⟩:=qrg m _ _ f3;have key:=sP ⟨r0,o0⟩ (sP ⟨i,o1⟩ (sP ⟨k,o2⟩ (sP ⟨o,p⟩ (eX a))));rw[List.drop_zero]at key;refine⟨⟨v0,v1,v2,v3⟩,?_,key.2,?_⟩
 ·have key:=key.1
  exact key
 simp only[dy,Rows.uptoBulk,Rows.uptoBulkAll,jk,jN,gJ,gL,sS,Un,xq];simp only[]at g j l q;omega
theorem qsc (n:Nat):xF (α:=Edge) enc Tryz.prog w 88 n (Edge.cells) (tQ) Rows.uptoBulk:=by
 intro cs x h;obtain⟨xs,m,rfl,rfl,b,i,a⟩:=DataW.trod_struct Tryz.underlying88 h;rw[show Tryz.prog.cellsOf 88=6 by kernel_rfl]at b;have c:xs.length=6:=i;obtain⟨d,y1,y2,e,f,g,rfl⟩:∃ d y1 y2 e f g,xs=[d,y1,y2,e,f,g]:=by
  match xs,c with
  | [d,y1,y2,e,f,g],_=>exact⟨d,y1,y2,e,f,g,rfl⟩
 have f0:=a 0 _ rfl;change DataW.trod enc Tryz.prog w 0 _ true m 2 ((cs.drop 0).take (Tryz.prog.cellsOf 2))=some d at f0;rw[show Tryz.prog.cellsOf 2=1 by kernel_rfl]at f0;obtain⟨v0,r0,o0,j⟩:=rd2 m _ _ f0;have f1:=a 1 _ rfl;change DataW.trod enc Tryz.prog w 0 _ true m 2 ((cs.drop 1).take (Tryz.prog.cellsOf 2))=some y1 at f1;rw[show Tryz.prog.cellsOf 2=1 by kernel_rfl]at f1;obtain⟨v1,k,o1,l⟩:=rd2 m _ _ f1;have f2:=a 2 _ rfl;change DataW.trod enc Tryz.prog w 0 _ true m 2 ((cs.drop 2).take (Tryz.prog.cellsOf 2))=some y2 at f2;rw[show Tryz.prog.cellsOf 2=1 by kernel_rfl]at f2;obtain⟨v2,o,o2,p⟩:=rd2 m _ _ f2;have f3:=a 3 _ rfl;change DataW.trod enc Tryz.prog w 0 _ true m 9 ((cs.drop 3).take (Tryz.prog.cellsOf 9))=some e at f3;rw[show Tryz.prog.cellsOf 9=1 by kernel_rfl]at f3;obtain⟨v3,q,r,s⟩:=rd9 m _ _ f3;have f4:=a 4 _ rfl;change DataW.trod enc Tryz.prog w 0 _ true m 26 ((cs.drop 4).take (Tryz.prog.cellsOf 26))=some f at f4;rw[show Tryz.prog.cellsOf 26=1 by kernel_rfl]at f4;obtain⟨v4,t,u,v⟩:=qg7 m _ _ f4;have f5:=a 5 _ rfl;change DataW.trod enc Tryz.prog w 0 _ true m 25 ((cs.drop 5).take (Tryz.prog.cellsOf 25))=some g at f5;rw[show Tryz.prog.cellsOf 25=1 by kernel_rfl]at f5;obtain⟨v5,y,z,A⟩:=qrg m _ _ f5;have key:=sP ⟨r0,o0⟩ (sP ⟨k,o1⟩ (sP ⟨o,o2⟩ (sP ⟨q,r⟩ (sP ⟨t,u⟩ (sP ⟨y,z⟩ (eX b))))));rw[List.drop_zero]at key;refine⟨⟨v0,v1,v2,v3,v4,v5⟩,?_,key.2,?_⟩
 ·have key:=key.1
  exact key
 simp only[tQ,Rows.uptoBulk,Rows.uptoBulkAll,jk,jN,gJ,gL,sS,Un,xq];simp only[]at j l p s v A;omega
theorem qrv (n:Nat):xF (α:=List (Node)) enc Tryz.prog w 37 n (fun l=>[PV.sl (Node.rows l)]) (fun l=>(l.map (dy)).sum+1) Rows.uptoBulk:=
 dg (α:=Node) (z:=4) (rws:=Node.rows) Tryz.underlying37 (by kernel_rfl) (by decide) (tk.hz) (fun _=>rfl) (fun m hm=>qsb m)
theorem qrw (n:Nat):xF (α:=List (Edge)) enc Tryz.prog w 38 n (fun l=>[PV.sl (Edge.rows l)]) (fun l=>(l.map (tQ)).sum+1) Rows.uptoBulk:=
 dg (α:=Edge) (z:=6) (rws:=Edge.rows) Tryz.underlying38 (by kernel_rfl) (by decide) (tP.hz) (fun _=>rfl) (fun m hm=>qsc m)
theorem qrx (n:Nat):xF (α:=Graph) enc Tryz.prog w 40 n (Graph.cells) (VS) Rows.uptoBulk:=by
 intro cs x h;obtain⟨xs,m,rfl,rfl,a,d,e⟩:=DataW.trod_struct Tryz.underlying40 h;rw[show Tryz.prog.cellsOf 40=2 by kernel_rfl]at a;have b:xs.length=2:=d;obtain⟨c,y1,rfl⟩:∃ c y1,xs=[c,y1]:=by
  match xs,b with
  | [c,y1],_=>exact⟨c,y1,rfl⟩
 have f0:=e 0 _ rfl;change DataW.trod enc Tryz.prog w 0 _ true m 37 ((cs.drop 0).take (Tryz.prog.cellsOf 37))=some c at f0;rw[show Tryz.prog.cellsOf 37=1 by kernel_rfl]at f0;obtain⟨v0,r0,o0,f⟩:=qrv m _ _ f0;have f1:=e 1 _ rfl;change DataW.trod enc Tryz.prog w 0 _ true m 38 ((cs.drop 1).take (Tryz.prog.cellsOf 38))=some y1 at f1;rw[show Tryz.prog.cellsOf 38=1 by kernel_rfl]at f1;obtain⟨v1,g,o1,i⟩:=qrw m _ _ f1;have key:=sP ⟨r0,o0⟩ (sP ⟨g,o1⟩ (eX a));rw[List.drop_zero]at key;refine⟨⟨v0,v1⟩,?_,key.2,?_⟩
 ·have key:=key.1
  exact key
 simp only[VS,Rows.uptoBulk,Rows.uptoBulkAll,jk,jN,gJ,gL,sS,Un,xq];simp only[]at f i;omega
end W
end
section
namespace W
open Go Go.Proofs Ax Go.RowKit Go.ChangeShapes Go.WideShapes Go.ChangeAt
open Go.Proofs.YtlnipohgljbfiaaGreat Go.ChangeMaps
theorem own:ownKnob Tryz.prog.godebug=none:=by kernel_rfl
theorem TG:laidOutB Tryz.prog=true:=by kernel_rfl
theorem root {W:World} (h:W.ShapedOpen Tryz.prog):∃ m,W.cell? ⟨0,0,none⟩=some (.int .i64 m):=Tryz.laysM144.s1_3 W h
section
variable {Hd:Type} {enc:TypeId×Value->Hd} {W:World}
set_option maxRecDepth 100000 in
theorem NL {v0:Value} {d0:DataW Hd} {p:List MemPlace} {b:Nat} (a:Value.okWide Tryz.prog W .any b 40 v0) (h:DataW.Trod enc Tryz.prog W 0 (fun _=>true) true 40 v0 d0 p) :
  ∃ s:Graph,zn (Dn W) (.agg (nZ.cells s)) v0/\VS s<=Rows.uptoBulk d0:=by
 obtain⟨cs,rfl,_⟩:=okWide_struct Tryz.underlying40 a;obtain⟨fuel,h⟩:=h;obtain⟨v,r,_,c⟩:=qrx fuel _ _ h;refine⟨v,?_,c⟩;simp only[zn];exact⟨cs.toList,by simp,r⟩
end
noncomputable def CD (os:Os):World:=World.holding Tryz.prog os ⟨#[],#[],[]⟩
abbrev VG:Value:=.agg #[.slice none 0 0,.slice none 0 0]
abbrev DG (H:Type):DataW H:=.agg [.nil,.nil]
end W
end
section
namespace W
open Go Go.Proofs Go.RowKit Go.ChangeShapes Go.WideShapes Go.ChangeAt
open Go.Proofs.YtlnipohgljbfiaaGreat Go.ChangeMaps
theorem qqm {a b:Bool} (c:a=true) (d:b=true):(a&&b)=true:=by rw[c,d]; rfl
set_option maxHeartbeats 4000000 in
theorem qo9:joinedFacts Tryz.pinned.checked.prog 4 Tryz.f4 (Rows.OpenSpec.upto Rows.marksTouchesSpec).bare Rows.marksTouchesUptoRow=true:=by
 unfold joinedFacts
 repeat' with_reducible refine qqm ?_ ?_
 all_goals (as_aux_lemma=>kernel_rfl)
end W
end
