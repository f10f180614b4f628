/- A part of the proof: the plain law. -/
import Derived.Test.YtmblnmgpmdapnaaGreatC
import Derived.Test.YtmblnmgpmdapnaaGreatD
import Derived.Test.YtmblnmgpmdapnaaGreatE
import Derived.Test.YtmblnmgpmdapnaaGreatF
import Derived.Test.YtmblnmgpmdapnaaGreatG
import Derived.Test.YtmblnmgpmdapnaaGreatH
import Derived.Test.YtmblnmgpmdapnaaGreatI
import Derived.Test.YtmblnmgpmdapnaaGreatJ
import Derived.Test.YtmblnmgpmdapnaaGreatK
set_option linter.unusedVariables false
set_option linter.unusedSimpArgs false
set_option linter.unnecessarySimpa false
set_option linter.deprecated false
set_option linter.unusedSectionVars false
set_option linter.constructorNameAsVariable false
section
open Go Ax
namespace W
section
variable {K V:Type} [BEq K] [LawfulBEq K]
end
abbrev Env:=List (List UInt8×Int)
def qcr (v:Env) (s:List UInt8):Int:=qed v s 0
end W
end
section
open Go Ax
namespace W
mutual
def zax:Val->Nat
 | .mk _ _ _ s l ks=>1+s.length+q1q l+(ks.map fun k=>1+k.length).sum
def q1q:List Val->Nat
 | []=>1
 | v::l=>1+zax v+q1q l
end
def qwe (l:List (List UInt8)):Nat:=(l.map fun k=>1+k.length).sum
theorem qef (l:List (List UInt8)):l.length<=qwe l:=by
 induction l with
 | nil=>simp[qwe]
 | cons x l ih=>simp only[qwe,List.map_cons,List.sum_cons,List.length_cons]at ih ⊢; omega
mutual
def qkb:qaa->Nat
 | .mk _ name val names args=>1+name.length+zax val+qwe names+qf0 args
def qf0:List qaa->Nat
 | []=>1
 | x::l=>1+qkb x+qf0 l
end
@[simp] theorem qas (l:List qaa):(qaa.rows l).length=l.length:=by rw[qaa.rows_eq]; simp
end W
end
section
open Go Ax
namespace W
end W
end
section
open Go Ax
namespace W
end W
end
section
open Go Ax
namespace W
def qmr (v:Env) (s:List UInt8) (k:Int):Env:=if s=[]\/qcr v s≠0 then v else v++[(s,k)]
theorem zkn {m b:Nat} (h:m<=1073741824) (hb:b<=1024):decide (m * b<=140737488355328)=true:=by
 refine decide_eq_true ?_;have:m * b<=1073741824 * 1024:=Nat.mul_le_mul h hb;omega
end W
end
section
open Go Ax
namespace W
theorem qbu {A:Type} (f:A->Nat):∀ {l:List A} {x:A},x∈l->f x<=(l.map f).sum
 | y::l,x,h=>by
  rcases List.mem_cons.1 h with rfl|h
  ·simp
  ·have:=qbu f h; simp; omega
theorem qbj {A:Type} (f:A->Nat) (hf:∀ x,1<=f x):∀ l:List A,l.length<=(l.map f).sum
 | []=>by simp
 | x::l=>by have:=qbj f hf l; have:=hf x; simp; omega
def qgv (d:qaf):Nat:=1+d.var_.length+qwe d.labels+qwe d.keys+qf0 d.vals
def qng (d:qah):Nat:=1+d.var_.length+d.type_.length+qwe d.keys+qf0 d.vals
def qir (p:qa9):Nat:=1+(p.nodes.map qgv).sum+(p.edges.map qng).sum
@[simp] theorem qc7 (l:List qaf):(qaf.rows l).length=l.length:=by simp[qaf.rows]
@[simp] theorem qf5 (l:List qah):(qah.rows l).length=l.length:=by simp[qah.rows]
@[simp] theorem qcp (l:List qa9):(qa9.rows l).length=l.length:=by simp[qa9.rows]
end W
end
section
open Go Ax
namespace W
end W
end
section
open Go Ax
namespace W
def qwa (l:List qa9):Nat:=1+(l.map qir).sum
end W
end
section
open Go Ax
namespace W
end W
end
section
open Go Ax
namespace W
@[simp] theorem qvh (l:List qbo):(qbo.rows l).length=l.length:=by simp[qbo.rows]
@[simp] theorem qvo (l:List qat):(qat.rows l).length=l.length:=by simp[qat.rows]
@[simp] theorem qx7 (l:List qag):(qag.rows l).length=l.length:=by simp[qag.rows]
def qta (i:qbo):Nat:=1+i.as_.length+qkb i.e
def qic (s:qat):Nat:=1+qkb s.e
def qio (s:qag):Nat:=1+s.var_.length+s.key.length+s.label.length+qkb s.e
def qdb (c:qab):Nat:=1+qwa c.paths+qf0 c.where_+qkb c.e+c.var_.length+(c.items.map qta).sum+(c.order.map qic).sum+qf0 c.skip+qf0 c.limit+(c.sets.map qio).sum+qwe c.vars
end W
end
section
open Go Ax
namespace W
end W
end
section
open Go Ax
namespace W
end W
end
section
open Go Ax
namespace W
end W
end
section
open Go Ax
namespace W
end W
end
section
open Go Ax
namespace W
@[simp] theorem qby (l:List qab):(qab.rows l).length=l.length:=by simp[qab.rows]
def qca (l:List qab):Nat:=(l.map qdb).sum
end W
end
section
open Go Ax
namespace W
def upB (b:UInt8):UInt8:=if 97<=b.toNat/\b.toNat<=122 then UInt8.ofNat (b.toNat - 32)else b
set_option maxRecDepth 100000 in
theorem zxc:∀ m:Fin 256,97<=m.val/\m.val<=122->u8I (IntKind.u8.wrap ((m.val:Int) - 32))=some (UInt8.ofNat (m.val - 32)):=by decide
theorem zrj (b:UInt8) (h:97<=b.toNat/\b.toNat<=122):u8I (IntKind.u8.wrap ((b.toNat:Int) - 32))=some (upB b):=by
 have:=zxc ⟨b.toNat,b.toNat_lt⟩ h;unfold upB;rw[if_pos h];exact this
theorem zvx (b:UInt8):u8I (b.toNat:Int)=some b:=by
 unfold u8I;have:=b.toNat_lt;rw[if_pos (by omega)];simp
def qmq (s:List UInt8):List UInt8:=s.map upB
theorem zux (b:UInt8):(bif decide ((b.toNat:Int)≥97)then decide ((b.toNat:Int)<=122)else false)=decide (97<=b.toNat/\b.toNat<=122):=by
 by_cases h1:97<=b.toNat<;>by_cases h2:b.toNat<=122
 ·rw[decide_eq_true (by omega:(b.toNat:Int)≥97),decide_eq_true (by omega:(b.toNat:Int)<=122),decide_eq_true ⟨h1,h2⟩]; rfl
 ·rw[decide_eq_true (by omega:(b.toNat:Int)≥97),decide_eq_false (by omega:¬ (b.toNat:Int)<=122),decide_eq_false (by omega:¬ (97<=b.toNat/\b.toNat<=122))]; rfl
 ·rw[decide_eq_false (by omega:¬ (b.toNat:Int)≥97),decide_eq_false (by omega:¬ (97<=b.toNat/\b.toNat<=122))]; rfl
 ·rw[decide_eq_false (by omega:¬ (b.toNat:Int)≥97),decide_eq_false (by omega:¬ (97<=b.toNat/\b.toNat<=122))]; rfl
theorem za8 {n:Nat} {s:List UInt8} (h:s.length<n) (hn:n<=1073741824):qt7 n s=some (qmq s):=by
 unfold qt7;have:=qj5 (B:=qlu n s) (fun k=>((s.take k).map upB,(k:Int))) s.length (r:=some (qmq s))
  (fun k hk nx=>by
   obtain⟨b,hb⟩:∃ b,s[k]? =some b:=⟨s[k],List.getElem?_eq_getElem hk⟩;have ht:(s.take (k+1)).map upB=(s.take k).map upB++[upB b]:=by rw[List.take_succ,hb]; simp
   simp only[qlu,qa6 hk,cond_true,qaj hb,qae,zux];rw[ht];have hc:decide ((qau ((s.take k).map upB++[upB b])).length * 1<=140737488355328)=true:=zkn (by simp; omega) (by omega);by_cases hl:97<=b.toNat/\b.toNat<=122
   ·rw[decide_eq_true hl,cond_true]
    simp only[qlt,zrj b hl,qae];rw[qa2 hc,qb7 (by omega)]
   ·rw[decide_eq_false hl,cond_false]
    have hu:upB b=b:=by unfold upB; rw[if_neg hl]
    rw[hu]at hc ⊢;simp only[qlt,zvx,qae];rw[qa2 hc,qb7 (by omega)])
  (fun nx=>by simp only[qlu,qar,cond_false,List.take_length]; rfl) h
 simpa using this
theorem zbn {n:Nat} {s:List UInt8} (h:s.length<n) (hn:n<=1073741824):qro n s=some (qmq s):=by
 unfold qro;have:=qj5 (B:=ql8 n s) (fun k=>((k:Int),(s.take k).map upB++s.drop k)) s.length (r:=some (qmq s))
  (fun k hk nx=>by
   obtain⟨b,hb⟩:∃ b,s[k]? =some b:=⟨s[k],List.getElem?_eq_getElem hk⟩;have hd:s.drop k=b::s.drop (k+1):=by rw[List.drop_eq_getElem_cons hk]; rw[List.getElem?_eq_getElem hk]at hb; cases hb; rfl
   have htl:((s.take k).map upB).length=k:=by simp; omega
   have hg:((s.take k).map upB++s.drop k)[k]? =some b:=by rw[List.getElem?_append_right (by omega),htl,hd]; simp
   have hlen:k<((s.take k).map upB++s.drop k).length:=(List.getElem?_eq_some_iff.1 hg).1;have ht:(s.take (k+1)).map upB++s.drop (k+1)=(s.take k).map upB++(upB b::s.drop (k+1)):=by rw[List.take_succ,hb]; simp
   simp only[ql8,qa6 hk,cond_true,qkc,qae];rw[q5k hlen,hg,qae,zux,ht];by_cases hl:97<=b.toNat/\b.toNat<=122
   ·rw[decide_eq_true hl,cond_true,q5k hlen,zrj b hl,qae,q5k hlen]
    simp only[ql7];rw[qb7 (by omega),hd];rw[List.set_append_right _ _ (by omega),htl,Nat.sub_self];rfl
   ·rw[decide_eq_false hl,cond_false]
    have hu:upB b=b:=by unfold upB; rw[if_neg hl]
    simp only[ql7];rw[qb7 (by omega),hd,hu])
  (fun nx=>by simp only[ql8,qar,cond_false,List.take_length,List.drop_length,List.append_nil]; rfl) h
 simpa using this
def zac (b:UInt8):Bool:=decide (97<=b.toNat/\b.toNat<=122)||decide (65<=b.toNat/\b.toNat<=90)||decide (b.toNat=95)
def zfb (b:UInt8):Bool:=decide (48<=b.toNat/\b.toNat<=57)
def q1n (s:List UInt8):Bool:=match s with
 | []=>false
 | b::l=>decide (l.length<64)&&zac b&&l.all fun c=>zac c||zfb c
theorem qt4 (n:Nat) (b:UInt8):qiy n (b.toNat:Int)=some (zac b):=by
 unfold qiy zac;rw[zux];congr 1;by_cases h0:97<=b.toNat/\b.toNat<=122
 ·simp[h0]
 ·by_cases h1:65<=b.toNat/\b.toNat<=90
  ·rw[decide_eq_false h0,decide_eq_true h1,decide_eq_true (by omega:(b.toNat:Int)≥65),decide_eq_true (by omega:(b.toNat:Int)<=90)]; rfl
  ·have:(bif decide ((b.toNat:Int)≥65)then decide ((b.toNat:Int)<=90)else false)=false:=by
    by_cases h2:65<=b.toNat
    ·rw[decide_eq_true (by omega:(b.toNat:Int)≥65),decide_eq_false (by omega:¬ (b.toNat:Int)<=90)]; rfl
    ·rw[decide_eq_false (by omega:¬ (b.toNat:Int)≥65)]; rfl
   rw[decide_eq_false h0,this,decide_eq_false h1];by_cases h3:b.toNat=95
   ·simp[h3]
   ·have h3':((b.toNat:Int)==95)=false:=beq_eq_false_iff_ne.2 (by omega)
    simp only[Bool.or_false,Bool.false_or,cond_false];rw[h3',decide_eq_false h3]
theorem za6 (n:Nat) (b:UInt8):qk4 n (b.toNat:Int)=some (zfb b):=by
 unfold qk4 zfb;congr 1;by_cases h1:48<=b.toNat<;>by_cases h2:b.toNat<=57
 ·rw[decide_eq_true (by omega:(b.toNat:Int)≥48),decide_eq_true (by omega:(b.toNat:Int)<=57),decide_eq_true ⟨h1,h2⟩]; rfl
 ·rw[decide_eq_true (by omega:(b.toNat:Int)≥48),decide_eq_false (by omega:¬ (b.toNat:Int)<=57),decide_eq_false (by omega:¬ (48<=b.toNat/\b.toNat<=57))]; rfl
 ·rw[decide_eq_false (by omega:¬ (b.toNat:Int)≥48),decide_eq_false (by omega:¬ (48<=b.toNat/\b.toNat<=57))]; rfl
 ·rw[decide_eq_false (by omega:¬ (b.toNat:Int)≥48),decide_eq_false (by omega:¬ (48<=b.toNat/\b.toNat<=57))]; rfl
theorem zdq {n:Nat} {s:List UInt8} (h:s.length<n) (hn:n<=1073741824):qwi n s=some (q1n s):=by
 unfold qwi;cases s with
 | nil=>rfl
 | cons b l=>
  by_cases hl:l.length<64
  ·have hc:(bif decide ((((b::l).length:Nat):Int)<1)then true else decide ((((b::l).length:Nat):Int)>64))=false:=by
    rw[decide_eq_false (by simp; omega),decide_eq_false (by simp; omega)]; rfl
   simp only[hc,Bool.not_false,qc3,qr8,qae,qt4,cond_false,q1n];rw[decide_eq_true hl];cases hb:zac b with
   | false=>rfl
   | true=>
    simp only[Bool.not_true,cond_false,Bool.true_and];have e:=qc4 (B:=qnl n (b::l)) (fun k=>((k:Nat):Int)) (l:=b::l) (fun c=>if(zac c||zfb c)=true then none else some false) (rest:=some true)
     (fun k x nx hx=>by
      have hk:=qbm hx;simp only[qnl,qa6 hk,cond_true,qaj hx,qae,qt4];rw[qb7 (by omega)];cases h1:zac x with
      | true=>simp
      | false=>
       simp only[Bool.not_false,qc3,qae,za6,cond_true];cases zfb x<;>simp)
     (fun nx=>by simp only[qnl,qar,cond_false]) (n:=n) h
    refine Eq.trans e ?_;have key:∀ l:List UInt8,qe5 (R:=Bool) (fun c=>if(zac c||zfb c)=true then none else some false) l=if(l.all fun c=>zac c||zfb c)=true then none else some false:=by
     intro l
     induction l with
     | nil=>rfl
     | cons c l ih=>
      simp only[qe5,List.all_cons,ih];by_cases hc:(zac c||zfb c)=true<;>simp only[hc,if_true,Bool.true_and,Bool.not_eq_true]<;>simp_all
    rw[key];simp only[List.all_cons,hb,Bool.true_or,Bool.true_and];cases(l.all fun c=>zac c||zfb c)<;>rfl
  ·have hc:(bif decide ((((b::l).length:Nat):Int)<1)then true else decide ((((b::l).length:Nat):Int)>64))=true:=by
    rw[decide_eq_false (by simp; omega),decide_eq_true (by simp; omega)]; rfl
   simp only[hc,Bool.not_true,zfg,qae,cond_true,q1n];rw[decide_eq_false hl];rfl
end W
end
section
open Go Ax
namespace W
theorem zty {l:List UInt8} {i:Nat} {b:UInt8} (h:l[i]? =some b):(⟨l.toArray⟩:ByteArray).get! i=b:=by
 have hi:=(List.getElem?_eq_some_iff.1 h).1;have:(⟨l.toArray⟩:ByteArray).get! i=l.toArray[i]!:=rfl;rw[this];simp[getElem!_def,h]
theorem zqp {l:List UInt8} {i:Nat} {b:UInt8} (h:l[i]? =some b) (hb:b.toNat<128):qba l i=b.toNat/\qd0 l i=i+1:=by
 unfold qba qd0 Utf8.decode;simp only[Nat.add_zero,zty h];rw[if_pos (by omega)];exact⟨rfl,rfl⟩
theorem zvo {l:List UInt8} {i:Nat} {b:UInt8} (h:l[i]? =some b) (hb:¬ b.toNat<128):128<=qba l i:=by
 unfold qba Utf8.decode;simp only[Nat.add_zero,zty h];rw[if_neg (by omega)];have he:128<=Utf8.runeError:=by decide
 split
 ·split
  ·simp only; omega
  ·exact he
 ·split
  ·split
   ·rename_i h1
    simp only[Bool.and_eq_true,decide_eq_true_eq,ge_iff_le]at h1;simp only; omega
   ·exact he
  ·split
   ·split
    ·rename_i h1
     simp only[Bool.and_eq_true,decide_eq_true_eq,ge_iff_le]at h1;simp only; omega
    ·exact he
   ·exact he
def zch (k:Nat) (b:UInt8):Bool:=!zac b&&(k==0||!zfb b)
def q6m:Nat->List UInt8->Bool
 | _,[]=>true
 | k,b::l=>!zch k b&&q6m (k+1) l
theorem zan:∀ (l:List UInt8) (k:Nat),q6m (k+1) l=l.all fun c=>zac c||zfb c
 | [],k=>rfl
 | b::l,k=>by
  simp only[q6m,List.all_cons,zan l (k+1),zch];rw[show((k+1==0)=false)from rfl];cases zac b<;>cases zfb b<;>rfl
theorem zso (l:List UInt8):(q6m 0 l&&(!(l==[])&&decide (l.length<=64)))=q1n l:=by
 cases l with
 | nil=>rfl
 | cons b l=>
  simp only[q6m,zan,q1n,zch,beq_self_eq_true,Bool.true_or,Bool.and_true,Bool.not_not];have h1:(!((b::l)==[]))=true:=rfl;have h2:decide ((b::l).length<=64)=decide (l.length<64):=by
   by_cases h:l.length<64
   ·rw[decide_eq_true h,decide_eq_true (by simp; omega)]
   ·rw[decide_eq_false h,decide_eq_false (by simp; omega)]
  rw[h1,h2,Bool.true_and];cases zac b<;>cases decide (l.length<64)<;>simp
theorem zqo {l:List UInt8} {k:Nat} {b:UInt8} (h:l[k]? =some b) :
  (bif !(bif(bif(bif decide (((qba l k:Nat):Int)≥97)then decide (((qba l k:Nat):Int)<=122)else false)then true else(bif decide (((qba l k:Nat):Int)≥65)then decide (((qba l k:Nat):Int)<=90)else false))then true else(((qba l k:Nat):Int)==95))then(bif(bif(((k:Nat):Int)==0)then true else decide (((qba l k:Nat):Int)<48))then true else decide (((qba l k:Nat):Int)>57))else false)=zch k b:=by
 by_cases hb:b.toNat<128
 ·rw[(zqp h hb).1]
  have hl:=qt4 0 b;unfold qiy at hl;rw[Option.some.inj hl];have hz:(((k:Nat):Int)==0)=(k==0):=by
   by_cases hk:k=0
   ·subst hk; rfl
   ·rw[beq_eq_false_iff_ne.2 hk,beq_eq_false_iff_ne.2 (by omega)]
  rw[hz];unfold zch zfb;cases hL:zac b with
  | true=>rfl
  | false=>
   simp only[Bool.not_false,cond_true,Bool.true_and];cases hk:(k==0)with
   | true=>rfl
   | false=>
    simp only[cond_false,Bool.false_or];by_cases h1:b.toNat<48
    ·rw[decide_eq_true (by omega:(b.toNat:Int)<48),decide_eq_false (by omega:¬ (48<=b.toNat/\b.toNat<=57))]; rfl
    ·by_cases h2:57<b.toNat
     ·rw[decide_eq_false (by omega:¬ (b.toNat:Int)<48),decide_eq_true (by omega:(b.toNat:Int)>57),decide_eq_false (by omega:¬ (48<=b.toNat/\b.toNat<=57))]; rfl
     ·rw[decide_eq_false (by omega:¬ (b.toNat:Int)<48),decide_eq_false (by omega:¬ (b.toNat:Int)>57),decide_eq_true (by omega:(48<=b.toNat/\b.toNat<=57))]; rfl
 ·have hr:=zvo h hb
  have hbad:zch k b=true:=by
   unfold zch zac zfb;rw[decide_eq_false (by omega:¬ (97<=b.toNat/\b.toNat<=122)),decide_eq_false (by omega:¬ (65<=b.toNat/\b.toNat<=90)),decide_eq_false (by omega:¬ b.toNat=95),decide_eq_false (by omega:¬ (48<=b.toNat/\b.toNat<=57))];cases(k==0)<;>rfl
  rw[hbad];generalize qba l k=c at *;rw[decide_eq_false (by omega:¬ (c:Int)<=122),decide_eq_false (by omega:¬ (c:Int)<=90),beq_eq_false_iff_ne.2 (by omega:¬ (c:Int)=95),decide_eq_true (by omega:(c:Int)>57)];cases decide ((c:Int)≥97)<;>cases decide ((c:Int)≥65)<;>cases((k:Int)==0)<;>cases decide ((c:Int)<48)<;>rfl
theorem q1v {n:Nat} {l:List UInt8} (h:l.length<n):qpx n l=some (q1n l):=by
 unfold qpx;have main:∀ (suf:List UInt8) (k m:Nat),(∀ j,suf[j]? =l[k+j]?)->k+suf.length=l.length->suf.length<m->qam (qmb n l) m k=some (q6m k suf&&(!(l==[])&&decide (l.length<=64))):=by
  intro suf
  induction suf with
  | nil=>
   intro k m hs hk hm;obtain⟨m,rfl⟩:=Nat.exists_eq_succ_of_ne_zero (by omega:m≠0);have:k=l.length:=by simpa using hk
   subst this;rw[qa3];simp only[qmb];rw[decide_eq_false (Nat.lt_irrefl _),cond_false];have:decide (((l.length:Nat):Int)<=64)=decide (l.length<=64):=by
    by_cases h:l.length<=64
    ·rw[decide_eq_true h,decide_eq_true (by omega)]
    ·rw[decide_eq_false h,decide_eq_false (by omega)]
   rw[this];simp only[q6m,Bool.true_and];cases(l==[])<;>rfl
  | cons b suf ih=>
   intro k m hs hk hm;obtain⟨m,rfl⟩:=Nat.exists_eq_succ_of_ne_zero (by omega:m≠0);have hb:l[k]? =some b:=by have:=hs 0; simpa using this.symm
   have hkl:=qbm hb;rw[qa3];simp only[qmb];rw[decide_eq_true hkl,cond_true,zqo hb];simp only[q6m];cases hB:zch k b with
   | true=>rfl
   | false=>
    have h128:b.toNat<128:=Decidable.byContradiction fun hn=>by
     have:zch k b=true:=by
      unfold zch zac zfb;rw[decide_eq_false (by omega:¬ (97<=b.toNat/\b.toNat<=122)),decide_eq_false (by omega:¬ (65<=b.toNat/\b.toNat<=90)),decide_eq_false (by omega:¬ b.toNat=95),decide_eq_false (by omega:¬ (48<=b.toNat/\b.toNat<=57))];cases(k==0)<;>rfl
     rw[this]at hB;cases hB
    rw[cond_false,cond_true,(zqp hb h128).2,ih (k+1) m (fun j=>by have:=hs (j+1); rw[show k+1+j=k+(j+1) by omega]; simpa using this) (by simp at hk; omega) (by simp at hm; omega)]
    rfl
 have:=main l 0 n (fun j=>by simp) (by simp) h
 rw[zso]at this;exact this
def Wd:List (List UInt8)->List UInt8
 | []=>[32]
 | x::ws=>32::(x++Wd ws)
theorem zns:∀ ws,∃ t,Wd ws=32::t
 | []=>⟨[],rfl⟩
 | x::ws=>⟨_,rfl⟩
theorem zue:∀ (w x r t:List UInt8),32 ∉ w->32 ∉ x->(w++32::r) <+: (x++32::t)->w=x
 | [],[],_,_,_,_,_=>rfl
 | [],b::x,r,t,_,hx,h=>by
  simp only[List.nil_append,List.cons_append,List.cons_prefix_cons]at h;exact absurd (h.1 ▸ List.mem_cons_self) hx
 | a::w,[],r,t,hw,_,h=>by
  simp only[List.nil_append,List.cons_append,List.cons_prefix_cons]at h;exact absurd (h.1 ▸ List.mem_cons_self) hw
 | a::w,b::x,r,t,hw,hx,h=>by
  simp only[List.cons_append,List.cons_prefix_cons]at h;rw[h.1,zue w x r t (fun hm=>hw (List.mem_cons_of_mem _ hm)) (fun hm=>hx (List.mem_cons_of_mem _ hm)) h.2]
theorem zp2:∀ (ws:List (List UInt8)) (w:List UInt8),(∀ x∈ws,32 ∉ x)->32 ∉ w->∀ j,(32::(w++[32])) <+: (Wd ws).drop j->w∈ws
 | [],w,_,_,j,h=>by
  have:=h.length_le;simp[Wd]at this;omega
 | x::ws,w,hws,hw,j,h=>by
  cases j with
  | zero=>
   simp only[Wd,List.drop_zero,List.cons_prefix_cons,true_and]at h;obtain⟨t,ht⟩:=zns ws;rw[ht]at h;rw[zue w x [] t hw (hws x (by simp)) h];simp
  | succ j=>
   simp only[Wd,List.drop_succ_cons]at h;by_cases hj:j<x.length
   ·rw[List.drop_append_of_le_length (by omega),List.drop_eq_getElem_cons hj,List.cons_append,List.cons_prefix_cons]at h
    exact absurd (by rw[h.1]; exact List.getElem_mem hj) (hws x (by simp))
   ·rw[List.drop_append,List.drop_eq_nil_of_le (by omega),List.nil_append]at h
    exact List.mem_cons_of_mem _ (zp2 ws w (fun y hy=>hws y (List.mem_cons_of_mem _ hy)) hw _ h)
theorem zpy:∀ (ws:List (List UInt8)) (w:List UInt8),w∈ws->∃ j,j<=(Wd ws).length/\(32::(w++[32])) <+: (Wd ws).drop j
 | x::ws,w,h=>by
  rcases List.mem_cons.1 h with rfl|h
  ·obtain⟨t,ht⟩:=zns ws
   refine⟨0,Nat.zero_le _,?_⟩;simp only[Wd,List.drop_zero,ht];exact⟨t,by simp⟩
  ·obtain⟨j,hj,hp⟩:=zpy ws w h
   refine⟨x.length+j+1,by simp[Wd]; omega,?_⟩;simp only[Wd,List.drop_succ_cons];rw[List.drop_append,List.drop_eq_nil_of_le (by omega),List.nil_append,Nat.add_sub_cancel_left];exact hp
theorem zg4 {ws:List (List UInt8)} {w:List UInt8} (hws:∀ x∈ws,32 ∉ x) (hw:32 ∉ w):Lib.contains (Wd ws) (32::(w++[32]))=ws.contains w:=by
 unfold Lib.contains;rcases Lib.index_spec (Wd ws) (32::(w++[32]))with ⟨h1,h2⟩|⟨i,h1,_,h2,_⟩
 ·rw[h1]
  have:¬ w∈ws:=fun hm=>by
   obtain⟨j,hj,hp⟩:=zpy ws w hm;have:=h2 j hj;unfold Lib.occAt at this;rw[List.isPrefixOf_iff_prefix.2 hp]at this;cases this
  have h3:ws.contains w=false:=by simpa using this
  rw[h3];rfl
 ·rw[h1]
  unfold Lib.occAt at h2;have:=zp2 ws w hws hw i (List.isPrefixOf_iff_prefix.1 h2);have h3:ws.contains w=true:=by simpa using this
  rw[h3];exact decide_eq_true (by omega)
end W
end
section
open Go Ax
set_option maxRecDepth 4000
namespace W
def q58:List (List UInt8):=[([77,65,84,67,72]:List UInt8),([87,72,69,82,69]:List UInt8),([85,78,87,73,78,68]:List UInt8),([65,83]:List UInt8),([87,73,84,72]:List UInt8),([67,82,69,65,84,69]:List UInt8),([77,69,82,71,69]:List UInt8),([83,69,84]:List UInt8),([82,69,77,79,86,69]:List UInt8),([68,69,76,69,84,69]:List UInt8),([68,69,84,65,67,72]:List UInt8),([82,69,84,85,82,78]:List UInt8),([68,73,83,84,73,78,67,84]:List UInt8),([79,82,68,69,82]:List UInt8),([66,89]:List UInt8),([65,83,67]:List UInt8),([68,69,83,67]:List UInt8),([83,75,73,80]:List UInt8),([76,73,77,73,84]:List UInt8),([65,78,68]:List UInt8),([79,82]:List UInt8),([88,79,82]:List UInt8),([78,79,84]:List UInt8),([73,78]:List UInt8),([73,83]:List UInt8),([78,85,76,76]:List UInt8),([84,82,85,69]:List UInt8),([70,65,76,83,69]:List UInt8)]
theorem ztj:∀ x∈q58,(32:UInt8) ∉ x:=by decide
theorem ztk:([32,77,65,84,67,72,32,87,72,69,82,69,32,85,78,87,73,78,68,32,65,83,32,87,73,84,72,32,67,82,69,65,84,69,32,77,69,82,71,69,32,83,69,84,32,82,69,77,79,86,69,32,68,69,76,69,84,69,32,68,69,84,65,67,72,32,82,69,84,85,82,78,32,68,73,83,84,73,78,67,84,32,79,82,68,69,82,32,66,89,32,65,83,67,32,68,69,83,67,32,83,75,73,80,32,76,73,77,73,84,32,65,78,68,32,79,82,32,88,79,82,32,78,79,84,32,73,78,32,73,83,32,78,85,76,76,32,84,82,85,69,32,70,65,76,83,69,32]:List UInt8)=Wd q58:=by kernel_rfl
theorem zxb {b:UInt8} (h:(zac b||zfb b)=true):upB b≠32:=by
 intro hc;unfold upB at hc;split at hc
 ·rename_i hb
  have:=congrArg UInt8.toNat hc;rw[UInt8.toNat_ofNat']at this;simp at this;omega
 ·subst hc
  revert h
  decide
theorem zsn {s:List UInt8} (h:q1n s=true):32 ∉ qmq s:=by
 intro hm;unfold qmq at hm;obtain⟨b,hb,he⟩:=List.mem_map.1 hm;refine zxb ?_ he;cases s with
 | nil=>cases hb
 | cons c s=>
  simp only[q1n,Bool.and_eq_true,List.all_eq_true]at h;rcases List.mem_cons.1 hb with rfl|hb
  ·simp[h]
  ·exact(by simpa using h.2 b hb)
theorem zrk (s:List UInt8):(qmq s).length=s.length:=by simp[qmq]
def qdi (s:List UInt8):Bool:=q1n s&&!(q58.contains (qmq s))
theorem zdt {n:Nat} {s:List UInt8} (h:s.length<n) (h2:28<n) (hn:n<=1073741824) :
  qtt n s=some (if q58.contains (qmq s)then(qmq s,true)else([],false)):=by
 unfold qtt;rw[show qxh n=some q58 from rfl,qae,za8 h hn,qae];have hl:q58.length=28:=rfl;refine Eq.trans (qc4 (B:=qnm n q58 (qmq s)) (fun k=>(k:Int)) (l:=q58) (fun w=>if w=qmq s then some (qmq s,true)else none) (rest:=some ([],false)) ?_ ?_ (by omega)) ?_
 ·intro k x nx hx
  have hk:=qbm hx;unfold qnm;rw[qa0,qa6 hk,cond_true,qaj hx,qae,qb7 (by omega)];by_cases hw:x=qmq s
  ·subst hw
   simp
  ·rw[if_neg hw,beq_eq_false_iff_ne.2 hw]
   rfl
 ·intro nx
  unfold qnm;rw[qa0,qar];rfl
 ·have:∀ l:List (List UInt8),qe5 (fun w=>if w=qmq s then some (qmq s,true)else none) l=if l.contains (qmq s)then some (qmq s,true)else none:=by
   intro l
   induction l with
   | nil=>rfl
   | cons a l ih=>
    simp only[qe5,ih];by_cases ha:a=qmq s
    ·subst ha
     simp
    ·rw[if_neg ha]
     have:(a::l).contains (qmq s)=l.contains (qmq s):=by
      rw[List.contains_cons,beq_eq_false_iff_ne.2 (Ne.symm ha),Bool.false_or]
     rw[this]
  rw[this];cases q58.contains (qmq s)<;>rfl
theorem qho {n:Nat} {s:List UInt8} (h:s.length<n) (h2:28<n) (hn:n<=1073741824):qgb n s=some (qdi s):=by
 unfold qgb;rw[zdt h h2 hn,qae];unfold qdi;cases q58.contains (qmq s)<;>simp[zdq h hn]<;>cases q1n s<;>rfl
theorem qzo (n:Nat) {a:List UInt8} (b:List UInt8) (h:a.length<4294967281):qmn n a b=some (Lib.contains a b):=q5k h
theorem zps {P Q:Prop} [Decidable P] [Decidable Q] (hp:P) (hq:Q) {b:Bool} {o:Option Bool} {w:Bool} (ho:b=true->o=some w) (x:List UInt8) :
  chk (bif !(!b)then decide P else true) (chk (bif !(!b)then decide Q else true) (bnd (qaw (!(!b)) o) fun x4=>bif(bif !b then true else !x4)then some (([]:List UInt8),false)else some (x,true)))=some (if b&&w then(x,true)else([],false)):=by
 cases b with
 | false=>simp
 | true=>simp[hp,hq,ho rfl]; cases w<;>rfl
theorem zhr {n:Nat} {s c:List UInt8} (h:s.length<n) (hn:n<=1073741824) (hl:c.length=148) (hc:q1n s=true->Lib.contains c (32::(qmq s++[32]))=q58.contains (qmq s)) :
  (bnd (qro n s) fun x2=>
 bnd (qpx n s) fun x3=>
 chk (bif(!(!x3))then decide (((([32]:List UInt8).length+x2.length:Nat):Int)<=qhk)else true) (
 chk (bif(!(!x3))then decide ((((([32]:List UInt8)++x2).length+([32]:List UInt8).length:Nat):Int)<=qhk)else true) (
 bnd (qaw (!(!x3)) (qmn n c ((([32]:List UInt8)++x2)++([32]:List UInt8)))) fun x4=>
 bif(bif(!x3)then true else(!x4))then(
 some (([]:List UInt8),false))
 else(
 some (x2,true)))))=some (if qdi s||!(q1n s)then([],false)else(qmq s,true)):=by
 rw[zbn h hn,qae,q1v h,qae];have hu:=zrk s;have hM:(s.length:Int)+2<=qhk:=by unfold qhk; omega
 have h1:((([32]:List UInt8).length+(qmq s).length:Nat):Int)<=qhk:=by
  rw[show([32]:List UInt8).length=1 from rfl,hu]; generalize qhk=m at *; omega
 have h2:(((([32]:List UInt8)++(qmq s)).length+([32]:List UInt8).length:Nat):Int)<=qhk:=by
  rw[List.length_append,show([32]:List UInt8).length=1 from rfl,hu]; generalize qhk=m at *; omega
 refine(zps h1 h2 (w:=q58.contains (qmq s)) (fun hs=>?_) (qmq s)).trans ?_
 ·rw[qzo n _ (by omega),show([32]++qmq s++[32]:List UInt8)=32::(qmq s++[32]) by simp,hc hs]
 ·unfold qdi
  cases q1n s<;>cases q58.contains (qmq s)<;>rfl
set_option maxRecDepth 100000 in
theorem zsi:([32,77,65,84,67,72,32,87,72,69,82,69,32,85,78,87,73,78,68,32,65,83,32,87,73,84,72,32,67,82,69,65,84,69,32,77,69,82,71,69,32,83,69,84,32,82,69,77,79,86,69,32,68,69,76,69,84,69,32,68,69,84,65,67,72,32,82,69,84,85,82,78,32,68,73,83,84,73,78,67,84,32,79,82,68,69,82,32,66,89,32,65,83,67,32,68,69,83,67,32,83,75,73,80,32,76,73,77,73,84,32,65,78,68,32,79,82,32,88,79,82,32,78,79,84,32,73,78,32,73,83,32,78,85,76,76,32,84,82,85,69,32,70,65,76,83,69,32]:List UInt8).length=148:=by kernel_rfl
set_option maxRecDepth 100000 in
theorem zd9 {n:Nat} {s:List UInt8} (h:s.length<n) (hn:n<=1073741824) :
  q0g n s=some (if qdi s||!(q1n s)then([],false)else(qmq s,true)):=
 zhr h hn zsi (fun hs=>(congrArg (fun c=>Lib.contains c (32::(qmq s++[32]))) ztk).trans (zg4 ztj (zsn hs)))
theorem qhb {n:Nat} {s:List UInt8} (h:s.length<n) (hn:n<=1073741824):qe4 n s=some (qdi s):=by
 unfold qe4;rw[zd9 h hn,qae];cases hs:q1n s<;>cases hp:qdi s<;>simp[q1v h,hs]<;>simp[qdi,hs]at hp
end W
end
section
open Go Ax
namespace W
theorem zxf {k:Nat} (h:k+1<=1152921504606846976):IntKind.i64.wrap (((k+1:Nat):Int) - 1)=((k:Nat):Int):=by
 rw[qw3 (by omega) (by omega)]; omega
theorem zvi (x:List UInt8):(decide (((x.length:Nat):Int)<1))=(x==[]):=by
 cases x with
 | nil=>rfl
 | cons a x=>simp; omega
theorem ztg (n:Nat) (ks:List (List UInt8)) (c d:Int) (l:List Val) (g:Val->Int->Int->Option (Int×Bool)) (hn:n<=1073741824):∀ m k:Nat,k<=ks.length->ks.length - k<m->ks.length<n ->
  ∃ b,qam (qij n ks) m (k:Int)=some b/\qam (qmv n ks c l g d) m (k:Int)=bif b then qmt n l g d c ()else some (IntKind.i64.wrap (c+1),false):=by
 intro m
 induction m with
 | zero=>intro k _ h; omega
 | succ m ih=>
  intro k hk hm hl;rw[qa3,qa3];by_cases he:k=ks.length
  ·subst he
   refine⟨true,?_,?_⟩
   ·simp only[qij,qa0,qar,cond_false]
   ·simp only[qmv,qa0,qar,cond_false,cond_true]
  ·have hkl:k<ks.length:=by omega
   obtain⟨x,hx⟩:∃ x,ks[k]? =some x:=⟨_,List.getElem?_eq_getElem hkl⟩;obtain⟨b,h1,h2⟩:=ih (k+1) (by omega) (by omega) hl;rw[← qb7 (by omega)]at h1 h2;simp only[qij,qmv,qa0,qa6 hkl,cond_true,qaj hx,qae,zvi];cases hE:x==[]with
   | true=>exact⟨false,by simp,by simp⟩
   | false=>
    simp only[Bool.not_false,qc3,qae,cond_false];cases hB:decide (((x.length:Nat):Int)>64)with
    | true=>exact⟨false,by simp,by simp⟩
    | false=>
     cases k with
     | zero=>
      refine⟨b,?_,?_⟩
      ·simpa using h1
      ·simpa using h2
     | succ k=>
      have h0:decide ((((k+1:Nat):Int))>0)=true:=decide_eq_true (by omega);obtain⟨y,hy⟩:∃ y,ks[k]? =some y:=⟨_,List.getElem?_eq_getElem (by omega)⟩;simp only[h0,Bool.not_false,Bool.and_true,qc3,zxf (show k+1<=1152921504606846976 by omega),qaj hy,qae,cond_true,cond_false,zky];cases Op.bytesLess y x with
      | false=>exact⟨false,by simp,by simp⟩
      | true=>exact⟨b,by simpa using h1,by simpa using h2⟩
theorem qrd:∀ l:List Val,l.length<q1q l
 | []=>by simp[q1q]
 | x::l=>by have:=qrd l; simp only[q1q,List.length_cons]; omega
theorem q0c:∀ {l:List Val} {x:Val},x∈l->zax x+2<=q1q l
 | y::l,x,h=>by
  simp only[q1q];rcases List.mem_cons.1 h with rfl|h
  ·have:=qrd l; omega
  ·have:=q0c h; omega
theorem zth (n:Nat) (l:List Val) (g g':Val->Int->Int->Option (Int×Bool)) (d:Int) (hn:n<=1073741824)
  (hg:∀ v∈l,∀ d c,∃ r,g v d c=some r/\g' v d c=some r):∀ m k:Nat,∀ c:Int,k<=l.length->l.length - k<m->l.length<n ->
  ∃ r,qam (qgu n l g d) m (c,true,(k:Int))=some r/\qam (qmu n l g' d) m (c,(k:Int))=some r:=by
 intro m
 induction m with
 | zero=>intro k _ _ h; omega
 | succ m ih=>
  intro k c hk hm hl;rw[qa3,qa3];by_cases he:k=l.length
  ·subst he
   refine⟨(c,true),?_,?_⟩
   ·simp only[qgu,qfv,qar,cond_false]
   ·simp only[qmu,qfv,qar,cond_false]
  ·have hkl:k<l.length:=by omega
   obtain⟨x,hx⟩:∃ x,l[k]? =some x:=⟨_,List.getElem?_eq_getElem hkl⟩;obtain⟨⟨c2,b⟩,h1,h2⟩:=hg x (qbg hx) (IntKind.i64.wrap (d - 1)) c;obtain⟨x1,x2,x3,x4,x5,x6⟩:=x;simp only[qgu,qmu,qfv,qa6 hkl,cond_true,qaj hx,qae,h1,h2];rw[qb7 (by omega)];cases b with
   | true=>
    obtain⟨r,h3,h4⟩:=ih (k+1) c2 (by omega) (by omega) hl;exact⟨r,h3,by simpa using h4⟩
   | false=>
    refine⟨(c2,false),?_,by simp⟩;obtain⟨m,rfl⟩:∃ m',m=m'+1:=⟨m - 1,by omega⟩;rw[qa3];simp only[qgu,Bool.cond_self,cond_false]
theorem zun (n:Nat) {x1:Int} (h7:x1<=7) (x2:Bool) (x3:Int) (x4:List UInt8) (x5:List Val) (x6:List (List UInt8)):qsb n ⟨x1,x2,x3,x4,x5,x6⟩=qqa n ⟨x1,x2,x3,x4,x5,x6⟩:=by
 simp only[qqa,qsb];have e6:decide (x1≥6)=(x1==6||x1==7):=by
  rw[Bool.eq_iff_iff]; simp; omega
 have e5:decide ((((Val.rows x5).length:Nat):Int)>0)=!((((Val.rows x5).length:Nat):Int)==0):=by
  generalize (Val.rows x5).length=m;cases m with
  | zero=>rfl
  | succ m=>rw[decide_eq_true (by omega),beq_eq_false_iff_ne.2 (by omega)]; rfl
 have a1:(bif(x1 != 1)then x2 else false)=!(bif(x1==1)then true else !x2):=by
  rw[bne]; cases(x1==1)<;>cases x2<;>rfl
 have a2:(bif(bif(bif(x1 != 2)then(x1 != 6)else false)then(x1 != 7)else false)then(x3 != 0)else false)=!(bif(bif(x1==2)then true else decide (x1≥6))then true else(x3==0)):=by
  rw[e6,bne,bne,bne,bne]; cases(x1==2)<;>cases(x1==6)<;>cases(x1==7)<;>cases(x3==0)<;>rfl
 have a3:(bif(x1 != 3)then(!(x4==([]:List UInt8)))else false)=!(bif(x1==3)then true else(x4==([]:List UInt8))):=by
  rw[bne]; cases(x1==3)<;>cases(x4==([]:List UInt8))<;>rfl
 have a4:(bif(bif(x1 != 4)then(x1 != 5)else false)then decide ((((Val.rows x5).length:Nat):Int)>0)else false)=!(bif(bif(x1==4)then true else(x1==5))then true else((((Val.rows x5).length:Nat):Int)==0)):=by
  rw[e5,bne,bne]; cases(x1==4)<;>cases(x1==5)<;>cases((((Val.rows x5).length:Nat):Int)==0)<;>rfl
 rw[a1,a2,a3,a4];generalize (bif(x1==1)then true else !x2)=A;generalize (bif(bif(x1==2)then true else decide (x1≥6))then true else(x3==0))=B;generalize (bif(x1==3)then true else(x4==([]:List UInt8)))=C;generalize (bif(bif(x1==4)then true else(x1==5))then true else((((Val.rows x5).length:Nat):Int)==0))=D;cases A<;>cases B<;>cases C<;>cases D<;>rfl
theorem qz1:∀ n:Nat,n<=1073741824->∀ v d c,zax v<n->∃ r,qjl n v d c=some r/\qkf n v d c=some r:=by
 intro n
 induction n with
 | zero=>intro _ _ _ _ h; omega
 | succ n ih=>
  intro hn v d c hv;obtain⟨x1,x2,x3,x4,x5,x6⟩:=v;have hb:q1q x5<n/\x6.length<n:=by
   have:=qef x6;simp only[qwe]at this;simp only[zax]at hv;have h0:=qrd x5;omega
  have hl:=qrd x5;have hg:∀ v∈x5,∀ d c,∃ r,qjl n v d c=some r/\qkf n v d c=some r:=fun v hm d c=>ih (by omega) v d c (by have:=q0c hm; omega)
  have hloop:∀ c,∃ r,qam (qgu n x5 (qjl n) d) n (c,true,(0:Int))=some r/\qam (qmu n x5 (qkf n) d) n (c,(0:Int))=some r:=fun c=>
   zth n x5 _ _ d (by omega) hg n 0 c (by omega) (by omega) (by omega)
  obtain⟨kb,hk1,hk2⟩:=ztg n x6 c d x5 (qkf n) (by omega) n 0 (by omega) (by omega) hb.2;obtain⟨r,hr1,hr2⟩:=hloop (IntKind.i64.wrap (c+1));simp only[qjl,qkf,qtd,qwg,qvb];generalize hC:IntKind.i64.wrap (c+1)=C at *;have hvw:∃ G:Bool,(bif(bif(bif(decide (d<1))then true else(decide (C>4096)))then true else(decide (x1<0)))then true else(decide (x1>7)))=G /\
    (bif(bif(bif(decide (C>4096))then true else(decide (d<1)))then true else(decide (x1<0)))then true else(decide (x1>7)))=G/\(G=false->x1<=7):=by
   refine⟨_,rfl,?_,?_⟩
   ·cases decide (C>4096)<;>cases decide (d<1)<;>rfl
   ·cases decide (C>4096)<;>cases decide (d<1)<;>cases decide (x1<0)<;>simp
  obtain⟨G,hG1,hG2,hG3⟩:=hvw;rw[hG1,hG2];cases G with
  | true=>exact⟨(C,false),by simp,by simp⟩
  | false=>
   have h7:=hG3 rfl;rw[zun n h7];obtain⟨B,hB⟩:∃ B,qqa n ⟨x1,x2,x3,x4,x5,x6⟩=some B:=⟨_,rfl⟩;rw[hB];have e6:decide (x1≥6)=(bif(x1==6)then true else(x1==7)):=by
    rw[Bool.eq_iff_iff]; simp; omega
   rw[e6];cases B with
   | false=>exact⟨(C,false),by simp,by simp⟩
   | true=>
    simp only[Bool.not_false,Bool.not_true,qc3,qae,cond_false,cond_true];cases hT:(bif(bif(x1==6)then true else(x1==7))then decide (x3<1)else false)with
    | true=>exact⟨(C,false),by simp,by simp⟩
    | false=>
     cases h5:(x1==5)with
     | false=>
      refine⟨r,?_,?_⟩
      ·simpa using hr1
      ·simpa[qmt,hC]using hr2
     | true=>
      cases hN:((((qak x6).length:Nat):Int) != (((Val.rows x5).length:Nat):Int))with
      | true=>exact⟨(C,false),by simp,by simp⟩
      | false=>
       simp only[Bool.not_false,Bool.and_true,qc3,cond_false,cond_true];have hk1':qam (qij n x6) n (0:Int)=some kb:=hk1;have hk2':qam (qmv n x6 c x5 (qkf n) d) n (0:Int)=_:=hk2;rw[hk1',hk2',qae];cases kb with
       | true=>
        refine⟨r,?_,?_⟩
        ·simpa using hr1
        ·simpa[qmt,hC]using hr2
       | false=>exact⟨(C,false),by simp,by simp⟩
end W
end
section
open Go Ax
namespace W
end W
end
section
open Go Ax
namespace W
end W
end
section
open Go Ax
namespace W
end W
end
section
open Go Ax
namespace W
end W
end
section
open Go Ax
namespace W
end W
end
section
open Go Ax
namespace W
end W
end
section
open Go Ax
namespace W
end W
end
section
open Go Ax
namespace W
end W
end
section
open Go Ax
namespace W
end W
end
section
open Go Ax
namespace W
end W
end
section
open Go Ax
namespace W
end W
end
section
open Go Ax
namespace W
def zss (c:qab):qab:=(qub 0 c).getD default
end W
end
section
open Go Ax
namespace W
end W
end
section
open Go Ax
namespace W
end W
end
section
open Go Ax
namespace W
end W
end
section
open Go Ax
namespace W
end W
end
section
open Go Ax
namespace W
abbrev PG:=List qbr×Int×Int
def g3 (g:qbc):PG:=(g.parts,g.least,g.most)
section
variable {n:Nat} (hn:n<=1073741824) {x1:Int} {x2:List qa9} {x3:List qaa} {x4:Int} {x5:List UInt8} {x6:Int} {x7:Bool} {x8:Int} {x9:List UInt8} {x10:List Val} {x11:List (List UInt8)} {x12:List (List UInt8)} {x13:List qaa} {x14:List UInt8} {x15:List qbo} {x16:Bool} {x17:List qat} {x18:List qaa} {x19:List qaa} {x20:List qag} {x21:List (List UInt8)} {x22:Bool}
include hn
end
end W
end
section
open Go Ax
namespace W
@[simp] theorem qxv (l:List qbc):(qbc.rows l).length=l.length:=by simp[qbc.rows]
end W
end
section
open Go Ax
namespace W
end W
end
section
open Go Ax
namespace W
structure LenOk (c:qab):Prop where
 paths:c.paths.length<=1048576
 items:c.items.length<=1048576
 order:c.order.length<=1048576
 sets:c.sets.length<=1048576
 vars:c.vars.length<=1048576
end W
end
section
open Go Ax
namespace W
end W
end
section
open Go Ax
namespace W
section
variable {n:Nat} (hn:n<=1073741824) {cl:List qab} (h:42+qca cl<n) (hM:∀ c∈cl,LenOk c)
include hn h hM
end
end W
end
section
open Go Ax
namespace W
end W
end
section
open Go Ax
namespace W
section
variable {n:Nat} (hn:n<=1073741824) {cl:List qab} (h:8 * qca cl+400<n) (hM:∀ c∈cl,LenOk c)
include hn h hM
end
end W
end
section
open Go Ax
namespace W
def qyw (c:qab):Int:=
 if c.kind=1\/c.kind=2 then 1
 else if c.kind≠3/\c.kind≠9 then 3
 else if c.unique=true\/c.order≠[]\/c.skip≠[]\/c.limit≠[]then 2
 else if(c.items.any fun i=>match i.e with|.mk op _ _ _ _=>op==14)=true then 2 else 1
end W
end
section
open Go Ax
namespace W
@[simp] theorem qek (l:List qda):(qda.rows l).length=l.length:=by simp[qda.rows]
@[simp] theorem qdo (l:List qao):(qao.rows l).length=l.length:=by simp[qao.rows]
end W
end
section
open Go Ax
namespace W
end W
end
section
open Go Ax
namespace W
def zm1 (out:List qao) (k i:Int) (sk:List qda):List qao:=
 match out.getLast? with
 | some s=>bif(k==1)&&(s.kind==1)then out.dropLast++[⟨s.kind,s.from_,i,s.seeks++sk⟩]else out++[⟨k,i,i,sk⟩]
 | none=>[⟨k,i,i,sk⟩]
theorem qx9 (k i:Int) (sk:List qda):zm1 [] k i sk=[⟨k,i,i,sk⟩]:=rfl
theorem quz (l:List qao) (s:qao) (k i:Int) (sk:List qda):zm1 (l++[s]) k i sk=bif(k==1)&&(s.kind==1)then l++[⟨s.kind,s.from_,i,s.seeks++sk⟩]else(l++[s])++[⟨k,i,i,sk⟩]:=by
 unfold zm1;rw[List.getLast?_concat];simp only[List.dropLast_concat]
theorem qp1 (out:List qao):out=[]\/∃ l s,out=l++[s]:=by
 by_cases h:out=[]
 ·exact .inl h
 ·exact .inr ⟨out.dropLast,out.getLast h,(List.dropLast_concat_getLast h).symm⟩
theorem qtn {A:Type} (l:List A) (s:A):(l++[s])[l.length]? =some s:=by simp
section
variable {n:Nat} (hn:n<=1073741824) {cl:List qab} {may:Bool}
include hn
end
end W
end
section
open Go Ax
namespace W
section
variable {n:Nat} (hn:n<=1073741824) {cl:List qab} {may:Bool}
include hn
end
section
variable {n:Nat} (hn:n<=1073741824) {cl:List qab} (h:8 * qca cl+400<n) (hM:∀ c∈cl,LenOk c)
include hn h hM
end
end W
end
section
open Go Ax
namespace W
def nm (s:List UInt8):List UInt8:=if s=[]then[]else s++[95,55]
structure RenOk (f:Env->Env):Prop where
 kind:∀ v s,qcr (f v) (nm s)=qcr v s
 wth:∀ v s k,qmr (f v) (nm s) k=f (qmr v s k)
section
variable {f:Env->Env} (hf:RenOk f)
include hf
end
def rr (f:Env->Env) (r:Int×Env):Int×Env:=(r.1,f r.2)
section
variable {f:Env->Env} (hf:RenOk f)
include hf
end
section
variable {f:Env->Env} (hf:RenOk f)
include hf
end
end W
end
section
open Go Ax
namespace W
end W
end
section
open Go Ax
namespace W
section
variable {P:List UInt8->Prop}
end
section
variable {n:Nat} (hn:n<=1073741824) {cl:List qab} (h:32 * qca cl+2000<n) (hM:∀ c∈cl,LenOk c)
include hn h hM
end
end W
end
section
open Go Ax
namespace W
theorem ztl (m:Nat):qet (m+400)=some true:=by kernel_rfl
theorem qyd {n:Nat} (h:400<=n):qet n=some true:=by
 obtain⟨m,rfl⟩:=Nat.exists_eq_add_of_le h;rw[Nat.add_comm]; exact ztl m
section
variable {n:Nat} (hn:n<=1073741824) {cl:List qab} (h:32 * qca cl+2000<n) (hM:∀ c∈cl,LenOk c)
include hn h hM
end
end W
end
section
open Go Ax
namespace W
inductive Cov (cl:List qab):List qao->Nat->Prop where
 | nil:Cov cl [] 0
 | snoc {l:List qao} {s:qao} {a e:Nat} (h:Cov cl l a) (h1:s.from_=(a:Int)) (h2:s.to=(e:Int)) (h3:a<=e) (h4:s.kind≠1->e=a) (h5:∀ s',l.getLast? =some s'->¬ (s'.kind=1/\s.kind=1))
   (h6:∀ j,a<=j->j<=e->∃ c,cl[j]? =some c/\qyw c=s.kind):Cov cl (l++[s]) (e+1)
theorem Cov.last {cl:List qab} {out:List qao} {k:Nat} (h:Cov cl out k):(k:Int)=match out.getLast? with|none=>0|some s=>s.to+1:=by
 cases h with
 | nil=>rfl
 | snoc h h1 h2 h3 h4 h5 h6=>rw[List.getLast?_concat]; simp only; omega
theorem Cov.one {cl:List qab} {out:List qao} {a b:Nat} (h:Cov cl out a) (h':Cov cl out b):a=b:=by
 have h1:=h.last;have h2:=h'.last;rw[← h2]at h1;omega
theorem Cov.step {cl:List qab} {out:List qao} {k:Nat} (h:Cov cl out k) {c:qab} (hc:cl[k]? =some c) (sk:List qda):Cov cl (zm1 out (qyw c) (k:Int) sk) (k+1):=by
 have hone:∀ j,k<=j->j<=k->∃ c',cl[j]? =some c'/\qyw c'=qyw c:=fun j h1 h2=>by
  obtain rfl:j=k:=by omega
  exact⟨c,hc,rfl⟩
 rcases qp1 out with rfl|⟨l,s,rfl⟩
 ·rw[qx9]
  exact Cov.snoc (l:=[]) (s:=⟨qyw c,(k:Int),(k:Int),sk⟩) h rfl rfl (Nat.le_refl _) (fun _=>rfl) (fun s' h=>by simp at h) hone
 ·rw[quz]
  cases hb:(qyw c==1)&&(s.kind==1)with
  | true=>
   simp only[Bool.and_eq_true,beq_iff_eq]at hb;obtain⟨hb1,hb2⟩:=hb;generalize ho:l++[s]=out at h;cases h with
   | nil=>exact absurd (congrArg List.length ho) (by simp)
   | snoc h0 h1 h2 h3 h4 h5 h6=>
    rename_i l' s' a e;have hl:l=l'/\s=s':=by
     have:=List.append_inj' ho rfl;exact⟨this.1,by simpa using this.2⟩
    obtain⟨rfl,rfl⟩:=hl;rw[cond_true];refine Cov.snoc (l:=l) (s:=⟨s.kind,s.from_,((e+1:Nat):Int),s.seeks++sk⟩) h0 h1 rfl (by omega) (fun hne=>absurd hb2 hne) h5 (fun j hj1 hj2=>?_)
    by_cases hj:j<=e
    ·exact h6 j hj1 hj
    ·obtain rfl:j=e+1:=by omega
     exact⟨c,hc,by rw[hb1,hb2]⟩
  | false=>
   rw[cond_false];refine Cov.snoc (l:=l++[s]) (s:=⟨qyw c,(k:Int),(k:Int),sk⟩) h rfl rfl (Nat.le_refl _) (fun _=>rfl) (fun s' hs'=>?_) hone
   rw[List.getLast?_concat]at hs';cases hs';rintro⟨h1,h2⟩;simp only at h2;rw[h1,h2]at hb;cases hb
theorem Cov.at{cl:List qab} {out:List qao} {k:Nat} (h:Cov cl out k):∀ (i:Nat) (s:qao),out[i]? =some s->∃ a e,Cov cl (out.take i) a/\s.from_=((a:Nat):Int)/\s.to=((e:Nat):Int)/\a<=e/\(s.kind≠1->e=a) /\
  (∀ s',(out.take i).getLast? =some s'->¬ (s'.kind=1/\s.kind=1))/\(∀ j,a<=j->j<=e->∃ c,cl[j]? =some c/\qyw c=s.kind)/\Cov cl (out.take (i+1)) (e+1):=by
 induction h with
 | nil=>intro i s hs; simp at hs
 | snoc h h1 h2 h3 h4 h5 h6 ih=>
  rename_i l s0 a e;intro i s hs;by_cases hi:i<l.length
  ·rw[List.getElem?_append_left hi]at hs
   have:=ih i s hs;rw[List.take_append_of_le_length (by omega),List.take_append_of_le_length (by omega)];exact this
  ·have hil:i=l.length:=by
    have:=(List.getElem?_eq_some_iff.1 hs).1;simp at this;omega
   subst hil;rw[qtn]at hs;cases hs;refine⟨a,e,?_,h1,h2,h3,h4,?_,h6,?_⟩
   ·rw[List.take_left]; exact h
   ·rw[List.take_left]; exact h5
   ·rw[List.take_of_length_le (by simp)]
    exact Cov.snoc h h1 h2 h3 h4 h5 h6
section
variable {n:Nat} (hn:n<=1073741824) {cl:List qab}
include hn
end
section
variable {n:Nat} (hn:n<=1073741824) {cl:List qab} (h:8 * qca cl+400<n) (hM:∀ c∈cl,LenOk c)
include hn h hM
end
end W
end
section
open Go Ax
namespace W
section
variable {n:Nat} (hn:n<=1073741824) {cl:List qab} {may:Bool}
include hn
end
section
variable {n:Nat} (hn:n<=1073741824) {cl:List qab} (h:8 * qca cl+400<n) (hM:∀ c∈cl,LenOk c)
include hn h hM
end
end W
end
section
open Go Ax
namespace W
def dgB (m:Nat):UInt8:=UInt8.ofNat (48+m)
def zk3 (m:Nat):List UInt8:=if h:m<10 then[dgB m]else zk3 (m / 10)++[dgB (m % 10)]
theorem qxr {m:Nat} (h:m<10):zk3 m=[dgB m]:=by rw[zk3,dif_pos h]
theorem q9y {m:Nat} (h:¬ m<10):zk3 m=zk3 (m / 10)++[dgB (m % 10)]:=by rw[zk3,dif_neg h]
theorem qvg:∀ (d m:Nat),m<10 ^ (d+1)->(zk3 m).length<=d+1/\1<=(zk3 m).length
 | 0,m,h=>by rw[qxr (by simpa using h)]; simp
 | d+1,m,h=>by
  by_cases hm:m<10
  ·rw[qxr hm]; simp
  ·rw[q9y hm,List.length_append]
   have:=qvg d (m / 10) (by rw[Nat.div_lt_iff_lt_mul (by decide)]; rw[Nat.pow_succ]at h; exact h);simp only[List.length_cons,List.length_nil];omega
def q4w (i:Int):List UInt8:=if i<0 then 45::zk3 (-i).toNat else zk3 i.toNat
theorem zg7 {m:Nat} (h:m<10):(dgB m).toNat=48+m:=by
 unfold dgB;rw[UInt8.toNat_ofNat'];omega
theorem zuh {m:Nat} (h:m<10):u8I ((48+m:Nat):Int)=some (dgB m):=by
 rw[← zg7 h]; exact zf4 _
theorem p19:(10:Nat) ^ 19=10000000000000000000:=by decide
theorem q76 {i:Int} (h0:-9223372036854775808<=i) (h1:i<=9223372036854775807):(q4w i).length<=20:=by
 unfold q4w;split
 ·have:=(qvg 18 (-i).toNat (by rw[p19]; omega)).1
  simp only[List.length_cons]; omega
 ·have:=(qvg 18 i.toNat (by rw[p19]; omega)).1
  omega
theorem zui (z:Int) (h0:0<=z) (h1:z<256):IntKind.u8.wrap z=z:=by
 show z % (2 ^ 8:Int)=z;omega
theorem zrh (z:Int) (h0:0<=z) (h1:z<18446744073709551616):IntKind.u64.wrap z=z:=by
 show z % (2 ^ 64:Int)=z;omega
theorem zxa (z:Int) (h0:-9223372036854775808<=z) (h1:z<0):IntKind.u64.wrap (0 - IntKind.u64.wrap z) = -z:=by
 show(0 - z % (2 ^ 64:Int)) % (2 ^ 64:Int) = -z;omega
theorem qbt {a b:Nat} (h:a+b<=1073741824):decide (((a+b:Nat):Int)<=qhk)=true:=decide_eq_true (by unfold qhk; omega)
theorem zqg:∀ (d:Nat) (m:Nat) (f:Nat),d<=18->m<10 ^ (d+1)->m<=9223372036854775807->d+1<=f->qh0 f (m:Int)=some (zk3 m):=by
 intro d
 induction d with
 | zero=>
  intro m f hd hm hi hf;obtain⟨f,rfl⟩:=Nat.exists_eq_succ_of_ne_zero (by omega:f≠0);have hm:m<10:=by simpa using hm
  simp only[qh0,qrh];rw[show(((m:Nat):Int) == -9223372036854775808)=false from by rw[beq_eq_false_iff_ne]; omega,cond_false,decide_eq_false (by omega:¬ (m:Int)<0),cond_false];rw[show Int.tmod (m:Int) 10=((m % 10:Nat):Int)from by rw[Int.ofNat_tmod]; rfl,Nat.mod_eq_of_lt hm,q59 _ (by omega) (by omega),zui _ (by omega) (by omega)];rw[show(48:Int)+(m:Int)=((48+m:Nat):Int)from by simp,zuh hm,qae,decide_eq_true (by omega:(m:Int)<10),cond_true,qxr hm]
 | succ d ih=>
  intro m f hd hm hi hf;obtain⟨f,rfl⟩:=Nat.exists_eq_succ_of_ne_zero (by omega:f≠0);have hr:m % 10<10:=Nat.mod_lt _ (by decide);simp only[qh0,qrh];rw[show(((m:Nat):Int) == -9223372036854775808)=false from by rw[beq_eq_false_iff_ne]; omega,cond_false,decide_eq_false (by omega:¬ (m:Int)<0),cond_false];rw[show Int.tmod (m:Int) 10=((m % 10:Nat):Int)from by rw[Int.ofNat_tmod]; rfl,q59 _ (by omega) (by omega),zui _ (by omega) (by omega)];rw[show(48:Int)+((m % 10:Nat):Int)=((48+m % 10:Nat):Int)from by simp,zuh hr,qae];by_cases hm10:m<10
  ·rw[decide_eq_true (by omega:(m:Int)<10),cond_true,Nat.mod_eq_of_lt hm10,qxr hm10]
  ·have hq:m / 10<10 ^ (d+1):=by rw[Nat.div_lt_iff_lt_mul (by decide)]; rw[Nat.pow_succ]at hm; exact hm
   rw[decide_eq_false (by omega:¬ (m:Int)<10),cond_false,show Int.tdiv (m:Int) 10=((m / 10:Nat):Int)from by rw[Int.ofNat_tdiv]; rfl,q59 _ (by omega) (by omega),ih (m / 10) f (by omega) hq (by omega) (by omega),qae];have hl:=(qvg d (m / 10) hq).1;rw[qa2 (qbt (by simp only[List.length_cons,List.length_nil]; omega)),q9y hm10]
theorem q79 {f:Nat} (hf:400<=f) {i:Int} (h0:-9223372036854775808<=i) (h1:i<=9223372036854775807):qh0 f i=some (q4w i):=by
 by_cases hneg:i<0
 ·by_cases hl:i = -9223372036854775808
  ·subst hl
   obtain⟨f,rfl⟩:=Nat.exists_eq_succ_of_ne_zero (by omega:f≠0);rw[show q4w (-9223372036854775808)=[45,57,50,50,51,51,55,50,48,51,54,56,53,52,55,55,53,56,48,56]from by
    unfold q4w;rw[if_pos (by decide)];have e:(-(-9223372036854775808:Int)).toNat=9223372036854775808:=by decide
    rw[e]
    iterate 18 rw[q9y (by decide)]
    rw[qxr (by decide)];rfl]
   rfl
  ·obtain⟨f,rfl⟩:=Nat.exists_eq_succ_of_ne_zero (by omega:f≠0)
   simp only[qh0,qrh];rw[show(i == -9223372036854775808)=false from by rw[beq_eq_false_iff_ne]; exact hl,cond_false,decide_eq_true hneg,cond_true,q59 _ (by omega) (by omega)];rw[show(0:Int) - i=(((-i).toNat:Nat):Int)from by omega,zqg 18 (-i).toNat f (by omega) (by rw[p19]; omega) (by omega) (by omega),qae];have hlen:=(qvg 18 (-i).toNat (by rw[p19]; omega)).1;rw[qa2 (qbt (by simp only[List.length_cons,List.length_nil]; omega))];unfold q4w;rw[if_pos hneg];rfl
 ·rw[show i=((i.toNat:Nat):Int)from by omega,zqg 18 i.toNat f (by omega) (by rw[p19]; omega) (by omega) (by omega)]
  unfold q4w;rw[if_neg (by omega),Int.toNat_natCast]
theorem q8a {A:Type}:∀ (b:List A) (k:Nat) (x:A),k<b.length->(b.set k x).drop k=x::b.drop (k+1)
 | [],_,_,h=>by simp at h
 | a::b,0,x,_=>rfl
 | a::b,k+1,x,h=>by simpa using q8a b k x (by simpa using h)
theorem zud {n a:Nat} {b:List UInt8} (ha:a<20) (hb:b.length=20):qn2 n ((a:Int),b)=some (b.drop a):=by
 unfold qn2;simp only;rw[qkc,qae,qa2 (decide_eq_true ha),qa2 (decide_eq_true (by omega))];rw[List.take_of_length_le (by rw[List.length_drop]; omega)]
theorem zur {m:Nat} (h:m<10):([(48:UInt8),(49:UInt8),(50:UInt8),(51:UInt8),(52:UInt8),(53:UInt8),(54:UInt8),(55:UInt8),(56:UInt8),(57:UInt8)]:List UInt8)[m]? =some (dgB m):=by
 have:m=0\/m=1\/m=2\/m=3\/m=4\/m=5\/m=6\/m=7\/m=8\/m=9:=by omega
 rcases this with rfl|rfl|rfl|rfl|rfl|rfl|rfl|rfl|rfl|rfl<;>rfl
def zta (i:Int):List UInt8:=if i<0 then[45]else[]
theorem zls (n:Nat) (i:Int):∀ (d m a f:Nat) (b:List UInt8),m<10 ^ (d+1)->d<=18->m<=9223372036854775808->(zk3 m).length+(zta i).length<=a->a<=20->b.length=20->d+1<=f ->
  qam (qn3 n i) f ((a:Int),(m:Int),b)=some (zta i++zk3 m++b.drop a):=by
 intro d;have hstep:∀ (m a:Nat) (b:List UInt8) (nx:Int×Int×List UInt8->Option (List UInt8)),m<=9223372036854775808->1<=a->a<=20->b.length=20->(m<10->1+(zta i).length<=a) ->
   qn3 n i nx ((a:Int),(m:Int),b)=(if m<10 then some (zta i++dgB (m % 10)::b.drop a)else nx (((a - 1:Nat):Int),((m / 10:Nat):Int),b.set (a - 1) (dgB (m % 10)))):=by
  intro m a b nx hm ha ha2 hb hs;have hr:m % 10<10:=Nat.mod_lt _ (by decide);simp only[qn3];rw[show Int.tmod (m:Int) 10=((m % 10:Nat):Int)from by rw[Int.ofNat_tmod]; rfl,qkc,qae,qa2 (decide_eq_true hr),zur hr,qae];rw[qw3 (by omega) (by omega),show(a:Int) - 1=((a - 1:Nat):Int)from by omega,qkc,qae,qa2 (decide_eq_true (by omega)),zf4,qae,qa2 (decide_eq_true (by omega))];have hbl:(b.set (a - 1) (dgB (m % 10))).length=20:=by rw[List.length_set]; exact hb
  have hd1:(b.set (a - 1) (dgB (m % 10))).drop (a - 1)=dgB (m % 10)::b.drop a:=by
   rw[q8a b (a - 1) _ (by omega),show a - 1+1=a from by omega]
  by_cases h10:m<10
  ·have hs:=hs h10
   rw[decide_eq_true (by omega:(m:Int)<10),cond_true,if_pos h10];unfold zta at hs ⊢;by_cases hneg:i<0
   ·rw[decide_eq_true hneg,cond_true,if_pos hneg]
    rw[if_pos hneg]at hs;simp only[List.length_cons,List.length_nil]at hs;rw[qw3 (by omega) (by omega),show((a - 1:Nat):Int) - 1=((a - 2:Nat):Int)from by omega,qkc,qae,qa2 (decide_eq_true (by omega)),show u8I (45:Int)=some 45 from rfl,qae,qa2 (decide_eq_true (by omega))];rw[zud (by omega) (by rw[List.length_set]; exact hbl),q8a _ (a - 2) _ (by omega),show a - 2+1=a - 1 from by omega,hd1];rfl
   ·rw[decide_eq_false hneg,cond_false,if_neg hneg,zud (by omega) hbl,hd1]
    rfl
  ·rw[decide_eq_false (by omega:¬ (m:Int)<10),cond_false,if_neg h10,show Int.tdiv (m:Int) 10=((m / 10:Nat):Int)from by rw[Int.ofNat_tdiv]; rfl,zrh _ (by omega) (by omega)]
 induction d with
 | zero=>
  intro m a f b hm hd hi ha ha2 hb hf;obtain⟨f,rfl⟩:=Nat.exists_eq_succ_of_ne_zero (by omega:f≠0);have hm:m<10:=by simpa using hm
  rw[qxr hm]at ha ⊢;simp only[List.length_cons,List.length_nil]at ha;rw[qa3,hstep m a b _ hi (by omega) ha2 hb (fun _=>by omega),if_pos hm,Nat.mod_eq_of_lt hm]
  simp
 | succ d ih=>
  intro m a f b hm hd hi ha ha2 hb hf;obtain⟨f,rfl⟩:=Nat.exists_eq_succ_of_ne_zero (by omega:f≠0);have h1:=(qvg (d+1) m hm).2;rw[qa3,hstep m a b _ hi (by omega) ha2 hb (fun h10=>by rw[qxr h10]at ha; simpa using ha)]
  by_cases h10:m<10
  ·rw[if_pos h10,qxr h10,Nat.mod_eq_of_lt h10]; simp
  ·have hq:m / 10<10 ^ (d+1):=by rw[Nat.div_lt_iff_lt_mul (by decide)]; rw[Nat.pow_succ]at hm; exact hm
   rw[q9y h10]at ha ⊢;simp only[List.length_append,List.length_cons,List.length_nil]at ha;rw[if_neg h10,ih (m / 10) (a - 1) f _ hq (by omega) (by omega) (by omega) (by omega) (by rw[List.length_set]; exact hb) (by omega),q8a b (a - 1) _ (by omega),show a - 1+1=a from by omega];simp
theorem q77 {f:Nat} (hf:400<=f) {i:Int} (h0:-9223372036854775808<=i) (h1:i<=9223372036854775807):qp9 f i=some (q4w i):=by
 unfold qp9 q0h;have hl:(List.replicate 20 (0:UInt8)).length=20:=by simp
 have hdrop:(List.replicate 20 (0:UInt8)).drop 20=[]:=rfl;by_cases hneg:i<0
 ·rw[decide_eq_true hneg,cond_true,qae,zxa i h0 hneg,show -i=(((-i).toNat:Nat):Int)from by omega]
  have hlen:=(qvg 18 (-i).toNat (by rw[p19]; omega)).1;have:=zls f i 18 (-i).toNat 20 f (List.replicate 20 0) (by rw[p19]; omega) (by omega) (by omega) (by unfold zta; rw[if_pos hneg]; simp only[List.length_cons,List.length_nil]; omega) (by omega) hl (by omega);rw[hdrop]at this;refine this.trans ?_;unfold zta q4w;rw[if_pos hneg,if_pos hneg];simp
 ·rw[decide_eq_false hneg,cond_false,qae,zrh i (by omega) (by omega)]
  have hlen:=(qvg 18 i.toNat (by rw[p19]; omega)).1;have:=zls f i 18 i.toNat 20 f (List.replicate 20 0) (by rw[p19]; omega) (by omega) (by omega) (by unfold zta; rw[if_neg hneg]; simp only[List.length_nil]; omega) (by omega) hl (by omega);rw[hdrop]at this;rw[show i=((i.toNat:Nat):Int)from by omega]at this ⊢;rw[Int.toNat_natCast]at this;refine this.trans ?_;unfold zta q4w;rw[if_neg (by omega),if_neg (by omega),Int.toNat_natCast];simp
end W
end
section
open Go Ax
namespace W
def ctB (b:UInt8):Bool:=decide (128<=b.toNat/\b.toNat<192)
def qmj:List UInt8->Nat
 | []=>0
 | c::t=>
  if c.toNat<128 then 1
  else if c.toNat<194\/244<c.toNat then 0
  else match t with
   | []=>0
   | d::t2=>
    if ctB d=false then 0
    else if c.toNat<224 then 2
    else match t2 with
     | []=>0
     | e::t3=>
      if ctB e=false\/(c.toNat=224/\d.toNat<160)\/(c.toNat=237/\160<=d.toNat)then 0
      else if c.toNat<240 then 3
      else match t3 with
       | []=>0
       | f::_=>if ctB f=false\/(c.toNat=240/\d.toNat<144)\/(c.toNat=244/\144<=d.toNat)then 0 else 4
theorem qt1 (c:UInt8) (t:List UInt8):qmj (c::t)=if c.toNat<128 then 1
  else if c.toNat<194\/244<c.toNat then 0
  else match t with
   | []=>0
   | d::t2=>
    if ctB d=false then 0
    else if c.toNat<224 then 2
    else match t2 with
     | []=>0
     | e::t3=>
      if ctB e=false\/(c.toNat=224/\d.toNat<160)\/(c.toNat=237/\160<=d.toNat)then 0
      else if c.toNat<240 then 3
      else match t3 with
       | []=>0
       | f::_=>if ctB f=false\/(c.toNat=240/\d.toNat<144)\/(c.toNat=244/\144<=d.toNat)then 0 else 4:=rfl
def zjl (s:List UInt8):Nat×Nat:=
 let at' (k:Nat):Nat:=((s[k]?).getD 0).toNat
 let cont (k:Nat):Bool:=decide (k<s.length)&&at' k / 64==2
 let b0:=at' 0
 if b0<0x80 then(b0,1)
 else if b0 / 32==6&&cont 1 then
  let c:=(b0 % 32) * 64+at' 1 % 64
  if c≥0x80 then(c,2)else(Utf8.runeError,1)
 else if b0 / 16==14&&cont 1&&cont 2 then
  let c:=(b0 % 16) * 4096+(at' 1 % 64) * 64+at' 2 % 64
  if c≥0x800&&Utf8.valid c then(c,3)else(Utf8.runeError,1)
 else if b0 / 8==30&&cont 1&&cont 2&&cont 3 then
  let c:=(b0 % 8) * 262144+(at' 1 % 64) * 4096+(at' 2 % 64) * 64+at' 3 % 64
  if c≥0x10000&&Utf8.valid c then(c,4)else(Utf8.runeError,1)
 else(Utf8.runeError,1)
theorem ztt (l:List UInt8) (i:Nat):Utf8.decode ⟨l.toArray⟩ i=zjl (l.drop i):=by
 have h1:∀ k,((⟨l.toArray⟩:ByteArray).get! (i+k)).toNat=(((l.drop i)[k]?).getD 0).toNat:=fun k=>by
  have:(⟨l.toArray⟩:ByteArray).get! (i+k)=l.toArray[i+k]!:=rfl;rw[this,List.getElem?_drop];congr 1;cases h:l[i+k]? with
  | none=>simp[getElem!_def,h]; rfl
  | some b=>simp[getElem!_def,h]
 have h2:∀ k,decide (i+k<(⟨l.toArray⟩:ByteArray).size)=decide (k<(l.drop i).length):=fun k=>by
  rw[ByteArray.size_mk_toArray,List.length_drop];exact decide_eq_decide.2 (by omega)
 unfold Utf8.decode zjl;simp only[h1,h2]
theorem ztf {r:Nat} (h:r<55296):Utf8.valid (r:Int)=true:=by
 unfold Utf8.valid;simp only[Bool.or_eq_true,Bool.and_eq_true,decide_eq_true_eq]
 left; omega
theorem zlz {r:Nat} (h1:57344<=r) (h2:r<=1114111):Utf8.valid (r:Int)=true:=by
 unfold Utf8.valid;simp only[Bool.or_eq_true,Bool.and_eq_true,decide_eq_true_eq]
 right; omega
theorem zf5 {r:Nat} (h:(55296<=r/\r<57344)\/1114111<r):Utf8.valid (r:Int)=false:=by
 unfold Utf8.valid;simp only[Bool.or_eq_false_iff,Bool.and_eq_false_iff,decide_eq_false_iff_not];omega
theorem qpz {b:UInt8}:ctB b=true↔b.toNat / 64=2:=by
 unfold ctB;rw[decide_eq_true_eq];omega
theorem zuq {c:UInt8} {t:List UInt8} (h:c.toNat<128):zjl (c::t)=(c.toNat,1):=by
 unfold zjl;simp only[List.getElem?_cons_zero,Option.getD_some];rw[if_pos h]
theorem zwl {c d:UInt8} {t:List UInt8} (h1:194<=c.toNat) (h2:c.toNat<224) (hd:ctB d=true):zjl (c::d::t)=((c.toNat % 32) * 64+d.toNat % 64,2):=by
 have hd:=qpz.1 hd;unfold zjl;simp only[List.getElem?_cons_zero,List.getElem?_cons_succ,Option.getD_some,List.length_cons];rw[if_neg (by omega),if_pos (by simp only[Bool.and_eq_true,beq_iff_eq,decide_eq_true_eq]; omega),if_pos (by omega)]
theorem zwm {c d e:UInt8} {t:List UInt8} (h1:224<=c.toNat) (h2:c.toNat<240) (hd:ctB d=true) (he:ctB e=true) (hx:¬ (c.toNat=224/\d.toNat<160)) (hy:¬ (c.toNat=237/\160<=d.toNat)) :
  zjl (c::d::e::t)=((c.toNat % 16) * 4096+(d.toNat % 64) * 64+e.toNat % 64,3):=by
 have hd:=qpz.1 hd;have he:=qpz.1 he;unfold zjl;simp only[List.getElem?_cons_zero,List.getElem?_cons_succ,Option.getD_some,List.length_cons];rw[if_neg (by omega),if_neg (by simp only[Bool.and_eq_true,beq_iff_eq,decide_eq_true_eq]; omega),if_pos (by simp only[Bool.and_eq_true,beq_iff_eq,decide_eq_true_eq]; omega)];rw[if_pos];rw[Bool.and_eq_true,decide_eq_true_eq];refine⟨by omega,?_⟩;by_cases hs:(c.toNat % 16) * 4096+(d.toNat % 64) * 64+e.toNat % 64<55296
 ·exact ztf hs
 ·exact zlz (by omega) (by omega)
theorem zwn {c d e f:UInt8} {t:List UInt8} (h1:240<=c.toNat) (h2:c.toNat<245) (hd:ctB d=true) (he:ctB e=true) (hf:ctB f=true) (hx:¬ (c.toNat=240/\d.toNat<144)) (hy:¬ (c.toNat=244/\144<=d.toNat)) :
  zjl (c::d::e::f::t)=((c.toNat % 8) * 262144+(d.toNat % 64) * 4096+(e.toNat % 64) * 64+f.toNat % 64,4):=by
 have hd:=qpz.1 hd;have he:=qpz.1 he;have hf:=qpz.1 hf;unfold zjl;simp only[List.getElem?_cons_zero,List.getElem?_cons_succ,Option.getD_some,List.length_cons];rw[if_neg (by omega),if_neg (by simp only[Bool.and_eq_true,beq_iff_eq,decide_eq_true_eq]; omega),if_neg (by simp only[Bool.and_eq_true,beq_iff_eq,decide_eq_true_eq]; omega),if_pos (by simp only[Bool.and_eq_true,beq_iff_eq,decide_eq_true_eq]; omega)];rw[if_pos];rw[Bool.and_eq_true,decide_eq_true_eq];exact⟨by omega,zlz (by omega) (by omega)⟩
theorem zwk {c:UInt8} {t:List UInt8} (hc:128<=c.toNat) (hs:qmj (c::t)=0):zjl (c::t)=(65533,1):=by
 have hlt:=c.toNat_lt;have he:Utf8.runeError=65533:=rfl;unfold zjl;simp only[List.getElem?_cons_zero,List.getElem?_cons_succ,Option.getD_some,List.length_cons,he];rw[if_neg (by omega)];rw[qt1,if_neg (by omega)]at hs;split
 ·
  rename_i h1;simp only[Bool.and_eq_true,beq_iff_eq,decide_eq_true_eq]at h1;split
  ·rename_i h2
   exfalso;cases t with
   | nil=>simp at h1
   | cons d t=>
    simp only[List.getElem?_cons_zero,Option.getD_some]at h1 h2;rw[if_neg (by omega)]at hs;simp only[qpz.2 h1.2.2,Bool.true_eq_false,if_false]at hs;rw[if_pos (by omega)]at hs;cases hs
  ·rfl
 ·split
  ·rename_i h0 h1
   simp only[Bool.and_eq_true,beq_iff_eq,decide_eq_true_eq]at h1;split
   ·rename_i h2
    exfalso;rw[Bool.and_eq_true,decide_eq_true_eq]at h2;cases t with
    | nil=>simp at h1
    | cons d t=>
     cases t with
     | nil=>simp at h1
     | cons e t=>
      simp only[List.getElem?_cons_zero,List.getElem?_cons_succ,Option.getD_some]at h1 h2;rw[if_neg (by omega)]at hs;simp only[qpz.2 h1.1.2.2,qpz.2 h1.2.2,Bool.true_eq_false,if_false,false_or]at hs;rw[if_neg (by omega)]at hs;have hv:=h2.2;rw[if_neg (by
       rintro(⟨a,b⟩|⟨a,b⟩)
       ·omega
       ·rw[zf5 (by left; omega)]at hv; cases hv),if_pos (by omega)]at hs
      cases hs
   ·rfl
  ·split
   ·rename_i h00 h0 h1
    simp only[Bool.and_eq_true,beq_iff_eq,decide_eq_true_eq]at h1;split
    ·rename_i h2
     exfalso;rw[Bool.and_eq_true,decide_eq_true_eq]at h2;cases t with
     | nil=>simp at h1
     | cons d t=>
      cases t with
      | nil=>simp at h1
      | cons e t=>
       cases t with
       | nil=>simp at h1
       | cons f t=>
        simp only[List.getElem?_cons_zero,List.getElem?_cons_succ,Option.getD_some]at h1 h2;have hv:=h2.2;have h244:¬ 244<c.toNat:=fun h=>by
         rw[zf5 (by right; omega)]at hv; cases hv
        rw[if_neg (by omega)]at hs;simp only[qpz.2 h1.1.1.2.2,qpz.2 h1.1.2.2,qpz.2 h1.2.2,Bool.true_eq_false,if_false,false_or]at hs;rw[if_neg (by omega),if_neg (by omega),if_neg (by omega),if_neg (by
         rintro(⟨a,b⟩|⟨a,b⟩)
         ·omega
         ·rw[zf5 (by right; omega)]at hv; cases hv)]at hs
        cases hs
    ·rfl
   ·rfl
theorem zkp (n:Nat) {l:List UInt8} {i:Nat} (h:l.length<=1073741824):qri n l (i:Int)=some (match l[i]? with|some b=>ctB b|none=>false):=by
 unfold qri;cases hi:l[i]? with
 | none=>
  have hl:l.length<=i:=List.getElem?_eq_none_iff.1 hi;rw[decide_eq_false (by omega:¬ (i:Int)<((l.length:Nat):Int))];rfl
 | some b=>
  have hl:=qbm hi;rw[qa6 hl];simp only[qaj hi,qc3,qae,cond_true];unfold ctB;by_cases h1:128<=b.toNat
  ·rw[decide_eq_true (by omega:(b.toNat:Int)≥128)]
   simp only[qc3,qae,cond_true];exact congrArg some (decide_eq_decide.2 (by omega))
  ·rw[decide_eq_false (by omega:¬ (b.toNat:Int)≥128)]
   simp only[qaw,cond_false,qae];rw[decide_eq_false (by omega)]
theorem zvr (n:Nat) {l:List UInt8} {i:Nat} (h:l.length<=1073741824) (hi:i<=l.length):qts n l (i:Int)=some ((qmj (l.drop i):Nat):Int):=by
 unfold qts;by_cases he:i=l.length
 ·rw[decide_eq_true (by omega:(i:Int)≥((l.length:Nat):Int)),cond_true,List.drop_eq_nil_of_le (by omega)]
  rfl
 ·rw[decide_eq_false (by omega:¬ (i:Int)≥((l.length:Nat):Int)),cond_false]
  have hx:=List.getElem?_eq_getElem (show i<l.length by omega);have hd:l.drop i=l[i]::l.drop (i+1):=List.drop_eq_getElem_cons (by omega);generalize l[i]=c at hx hd;have t1:=zkp n (i:=i+1) h;have t2:=zkp n (i:=i+2) h;have t3:=zkp n (i:=i+3) h;have g1:l[i+1]? =(l.drop (i+1))[0]?:=by rw[List.getElem?_drop]
  have g2:l[i+2]? =(l.drop (i+1))[1]?:=by rw[List.getElem?_drop]
  have g3:l[i+3]? =(l.drop (i+1))[2]?:=by rw[List.getElem?_drop]
  rw[g1]at t1;rw[g2]at t2;rw[g3]at t3;rw[hd];have w1:IntKind.i64.wrap ((i:Int)+1)=((i+1:Nat):Int):=qb7 (by omega);have w2:IntKind.i64.wrap ((i:Int)+2)=((i+2:Nat):Int):=by rw[qw3 (by omega) (by omega)]; omega
  have w3:IntKind.i64.wrap ((i:Int)+3)=((i+3:Nat):Int):=by rw[qw3 (by omega) (by omega)]; omega
  simp only[qaj hx,qae,w1,w2,w3,t1,t2,t3];generalize hT:l.drop (i+1)=t at *;rw[qt1];by_cases h128:c.toNat<128
  ·rw[decide_eq_true (by omega:(c.toNat:Int)<128),cond_true,if_pos h128]; rfl
  ·rw[decide_eq_false (by omega:¬ (c.toNat:Int)<128),cond_false,if_neg h128]
   by_cases h194:c.toNat<194\/244<c.toNat
   ·rw[if_pos h194]
    have:(bif decide ((c.toNat:Int)<194)then true else decide ((c.toNat:Int)>244))=true:=by
     rcases h194 with h|h
     ·rw[decide_eq_true (by omega:(c.toNat:Int)<194)]; rfl
     ·rw[decide_eq_true (by omega:(c.toNat:Int)>244)]; cases decide ((c.toNat:Int)<194)<;>rfl
    rw[this]; rfl
   ·rw[if_neg h194]
    have:(bif decide ((c.toNat:Int)<194)then true else decide ((c.toNat:Int)>244))=false:=by
     rw[decide_eq_false (by omega:¬ (c.toNat:Int)<194),decide_eq_false (by omega:¬ (c.toNat:Int)>244)]; rfl
    rw[this];simp only[Bool.not_false,qc3,qae,cond_false];cases t with
    | nil=>rfl
    | cons d t=>
     simp only[List.getElem?_cons_zero,List.getElem?_cons_succ];cases hcd:ctB d with
     | false=>rfl
     | true=>
      simp only[Bool.not_true,cond_false,Bool.true_eq_false,if_false];have hd1:l[i+1]? =some d:=by rw[g1]; rfl
      by_cases h224:c.toNat<224
      ·rw[decide_eq_true (by omega:(c.toNat:Int)<224),cond_true,if_pos h224]; rfl
      ·rw[decide_eq_false (by omega:¬ (c.toNat:Int)<224),cond_false,if_neg h224,qaj hd1,qae]
       cases t with
       | nil=>rfl
       | cons e t=>
        simp only[List.getElem?_cons_zero,List.getElem?_cons_succ];have hb:∀ (x y:Bool) (p q r s:Prop) [Decidable p] [Decidable q] [Decidable r] [Decidable s],True:=fun _ _ _ _ _ _=>trivial
        have hq:(bif bif !ctB e then true else bif((c.toNat:Int)==224)then decide ((d.toNat:Int)<160)else false then true else bif((c.toNat:Int)==237)then decide ((d.toNat:Int)≥160)else false)=decide (ctB e=false\/(c.toNat=224/\d.toNat<160)\/(c.toNat=237/\160<=d.toNat)):=by
         cases ctB e with
         | false=>simp
         | true=>
          by_cases a:c.toNat=224
          ·have a2:((c.toNat:Int)==224)=true:=by rw[beq_iff_eq]; omega
           have a3:((c.toNat:Int)==237)=false:=by rw[beq_eq_false_iff_ne]; omega
           rw[a2,a3];simp only[Bool.not_true,cond_false,cond_true];by_cases b:d.toNat<160
           ·rw[decide_eq_true (by omega:(d.toNat:Int)<160),decide_eq_true (.inr (.inl ⟨a,b⟩))]; rfl
           ·rw[decide_eq_false (by omega:¬ (d.toNat:Int)<160),decide_eq_false (by rintro(h|⟨h,h'⟩|⟨h,h'⟩)<;>first|cases h; done|omega)]; rfl
          ·have a2:((c.toNat:Int)==224)=false:=by rw[beq_eq_false_iff_ne]; omega
           rw[a2];simp only[Bool.not_true,cond_false];by_cases b:c.toNat=237
           ·have b2:((c.toNat:Int)==237)=true:=by rw[beq_iff_eq]; omega
            rw[b2,cond_true];exact decide_eq_decide.2 ⟨fun h=>.inr (.inr ⟨b,by omega⟩),fun h=>by rcases h with h|⟨h,h'⟩|⟨h,h'⟩<;>first|cases h; done|omega⟩
           ·have b2:((c.toNat:Int)==237)=false:=by rw[beq_eq_false_iff_ne]; omega
            rw[b2,cond_false,decide_eq_false (by rintro(h|⟨h,h'⟩|⟨h,h'⟩)<;>first|cases h; done|omega)]
        rw[hq];by_cases hz:ctB e=false\/(c.toNat=224/\d.toNat<160)\/(c.toNat=237/\160<=d.toNat)
        ·rw[decide_eq_true hz,cond_true,if_pos hz]; rfl
        ·rw[decide_eq_false hz,cond_false,if_neg hz]
         by_cases h240:c.toNat<240
         ·rw[decide_eq_true (by omega:(c.toNat:Int)<240),cond_true,if_pos h240]; rfl
         ·rw[decide_eq_false (by omega:¬ (c.toNat:Int)<240),cond_false,if_neg h240]
          cases t with
          | nil=>rfl
          | cons f t=>
           simp only[List.getElem?_cons_zero];have hq:(bif bif !ctB f then true else bif((c.toNat:Int)==240)then decide ((d.toNat:Int)<144)else false then true else bif((c.toNat:Int)==244)then decide ((d.toNat:Int)≥144)else false)=decide (ctB f=false\/(c.toNat=240/\d.toNat<144)\/(c.toNat=244/\144<=d.toNat)):=by
            cases ctB f with
            | false=>simp
            | true=>
             by_cases a:c.toNat=240
             ·have a2:((c.toNat:Int)==240)=true:=by rw[beq_iff_eq]; omega
              have a3:((c.toNat:Int)==244)=false:=by rw[beq_eq_false_iff_ne]; omega
              rw[a2,a3];simp only[Bool.not_true,cond_false,cond_true];by_cases b:d.toNat<144
              ·rw[decide_eq_true (by omega:(d.toNat:Int)<144),decide_eq_true (.inr (.inl ⟨a,b⟩))]; rfl
              ·rw[decide_eq_false (by omega:¬ (d.toNat:Int)<144),decide_eq_false (by rintro(h|⟨h,h'⟩|⟨h,h'⟩)<;>first|cases h; done|omega)]; rfl
             ·have a2:((c.toNat:Int)==240)=false:=by rw[beq_eq_false_iff_ne]; omega
              rw[a2];simp only[Bool.not_true,cond_false];by_cases b:c.toNat=244
              ·have b2:((c.toNat:Int)==244)=true:=by rw[beq_iff_eq]; omega
               rw[b2,cond_true];exact decide_eq_decide.2 ⟨fun h=>.inr (.inr ⟨b,by omega⟩),fun h=>by rcases h with h|⟨h,h'⟩|⟨h,h'⟩<;>first|cases h; done|omega⟩
              ·have b2:((c.toNat:Int)==244)=false:=by rw[beq_eq_false_iff_ne]; omega
               rw[b2,cond_false,decide_eq_false (by rintro(h|⟨h,h'⟩|⟨h,h'⟩)<;>first|cases h; done|omega)]
           rw[hq];by_cases hz:ctB f=false\/(c.toNat=240/\d.toNat<144)\/(c.toNat=244/\144<=d.toNat)
           ·rw[decide_eq_true hz,cond_true,if_pos hz]; rfl
           ·rw[decide_eq_false hz,cond_false,if_neg hz]; rfl
end W
end
section
open Go Ax
namespace W
def zuv (x:Nat):UInt8:=([48,49,50,51,52,53,54,55,56,57,97,98,99,100,101,102]:List UInt8).getD x 0
def zc2 (c:UInt8):List UInt8:=[zuv (c.toNat / 16),zuv (c.toNat % 16)]
def zdc:List UInt8->List UInt8
 | []=>[]
 | c::t=>
  if qmj (c::t)=0\/c.toNat=127 then 92::120::zc2 c
  else if c.toNat=39\/c.toNat=92 then[92,c]
  else if c.toNat=10 then[92,110]
  else if c.toNat=9 then[92,116]
  else if c.toNat=13 then[92,114]
  else if c.toNat<32 then 92::120::zc2 c
  else(c::t).take (qmj (c::t))
theorem qx5 (c:UInt8) (t:List UInt8):zdc (c::t)=if qmj (c::t)=0\/c.toNat=127 then 92::120::zc2 c
  else if c.toNat=39\/c.toNat=92 then[92,c]
  else if c.toNat=10 then[92,110]
  else if c.toNat=9 then[92,116]
  else if c.toNat=13 then[92,114]
  else if c.toNat<32 then 92::120::zc2 c
  else(c::t).take (qmj (c::t)):=rfl
def q8d (s:List UInt8):Nat:=if qmj s=0 then 1 else qmj s
def qrc:Nat->List UInt8->List UInt8
 | 0,_=>[]
 | _+1,[]=>[]
 | g+1,c::t=>zdc (c::t)++qrc g ((c::t).drop (q8d (c::t)))
theorem zdf (g:Nat):qrc g []=[]:=by cases g<;>rfl
def q6n (s:List UInt8):List UInt8:=39::(qrc s.length s++[39])
theorem q8c (s:List UInt8):qmj s<=4/\qmj s<=s.length:=by
 cases s with
 | nil=>exact⟨by decide,by decide⟩
 | cons c t=>
  rw[qt1];split
  ·exact⟨by decide,by simp only[List.length_cons]; omega⟩
  ·split
   ·exact⟨by decide,by omega⟩
   ·cases t with
    | nil=>exact⟨Nat.zero_le _,Nat.zero_le _⟩
    | cons d t=>
     simp only;split
     ·exact⟨by decide,by omega⟩
     ·split
      ·exact⟨by decide,by simp only[List.length_cons]; omega⟩
      ·cases t with
       | nil=>exact⟨Nat.zero_le _,Nat.zero_le _⟩
       | cons e t=>
        simp only;split
        ·exact⟨by decide,by omega⟩
        ·split
         ·exact⟨by decide,by simp only[List.length_cons]; omega⟩
         ·cases t with
          | nil=>exact⟨Nat.zero_le _,Nat.zero_le _⟩
          | cons f t=>
           simp only;split
           ·exact⟨by decide,by omega⟩
           ·exact⟨by decide,by simp only[List.length_cons]; omega⟩
theorem q4l {c:UInt8} {t:List UInt8} (h:c.toNat<128):qmj (c::t)=1:=by rw[qt1,if_pos h]
theorem zre {c:UInt8} {t:List UInt8}:1<=q8d (c::t)/\q8d (c::t)<=(c::t).length:=by
 have:=(q8c (c::t)).2;unfold q8d;split
 ·simp
 ·omega
theorem zmo (s:List UInt8):(zdc s).length<=4:=by
 cases s with
 | nil=>simp[zdc]
 | cons c t=>
  have:=(q8c (c::t)).1;have hh:(zc2 c).length=2:=rfl;rw[qx5]
  repeat' split
  all_goals simp only[List.length_cons,List.length_nil,List.length_take,hh]
  all_goals omega
theorem zde:∀ (g:Nat) (s:List UInt8),(qrc g s).length<=4 * g
 | 0,s=>by simp[qrc]
 | g+1,[]=>by simp[qrc]
 | g+1,c::t=>by
  have h1:=zmo (c::t);have h2:=zde g ((c::t).drop (q8d (c::t)));simp only[qrc,List.length_append];omega
theorem zjo:∀ m:Fin 256,qwj 0 ((m.val:Nat):Int)=some [zuv (m.val / 16),zuv (m.val % 16)] /\
  idx ([48,49,50,51,52,53,54,55,56,57,97,98,99,100,101,102]:List UInt8) (Int.fdiv ((m.val:Nat):Int) (2 ^ (min (Int.toNat (4:Int)) IntKind.u8.bits)))=some (zuv (m.val / 16)) /\
  idx ([48,49,50,51,52,53,54,55,56,57,97,98,99,100,101,102]:List UInt8) (IntKind.u8.wrap (((BitVec.ofInt IntKind.u8.bits ((m.val:Nat):Int) &&& BitVec.ofInt IntKind.u8.bits (15:Int)).toNat:Nat):Int))=some (zuv (m.val % 16)):=by decide +kernel
theorem zt1 (n:Nat) (c:UInt8):qwj n ((c.toNat:Nat):Int)=some (zc2 c):=(zjo ⟨c.toNat,c.toNat_lt⟩).1
theorem zlt:(∀ x:Fin 32,u8I (IntKind.u8.wrap (((BitVec.ofInt IntKind.u8.bits (192:Int) ||| BitVec.ofInt IntKind.u8.bits ((x.val:Nat):Int)).toNat:Nat):Int))=some (UInt8.ofNat (192+x.val))) /\
  (∀ x:Fin 16,u8I (IntKind.u8.wrap (((BitVec.ofInt IntKind.u8.bits (224:Int) ||| BitVec.ofInt IntKind.u8.bits ((x.val:Nat):Int)).toNat:Nat):Int))=some (UInt8.ofNat (224+x.val))) /\
  (∀ x:Fin 8,u8I (IntKind.u8.wrap (((BitVec.ofInt IntKind.u8.bits (240:Int) ||| BitVec.ofInt IntKind.u8.bits ((x.val:Nat):Int)).toNat:Nat):Int))=some (UInt8.ofNat (240+x.val))) /\
  (∀ y:Fin 256,u8I (IntKind.u8.wrap (((BitVec.ofInt IntKind.u8.bits (128:Int) ||| BitVec.ofInt IntKind.u8.bits (IntKind.u8.wrap (((BitVec.ofInt IntKind.u8.bits ((y.val:Nat):Int) &&& BitVec.ofInt IntKind.u8.bits (63:Int)).toNat:Nat):Int))).toNat:Nat):Int))=some (UInt8.ofNat (128+y.val % 64))):=by decide +kernel
theorem zyk {x:Nat} (h:x<32):u8I (IntKind.u8.wrap (((BitVec.ofInt IntKind.u8.bits (192:Int) ||| BitVec.ofInt IntKind.u8.bits ((x:Nat):Int)).toNat:Nat):Int))=some (UInt8.ofNat (192+x)):=zlt.1 ⟨x,h⟩
theorem zyl {x:Nat} (h:x<16):u8I (IntKind.u8.wrap (((BitVec.ofInt IntKind.u8.bits (224:Int) ||| BitVec.ofInt IntKind.u8.bits ((x:Nat):Int)).toNat:Nat):Int))=some (UInt8.ofNat (224+x)):=zlt.2.1 ⟨x,h⟩
theorem zym {x:Nat} (h:x<8):u8I (IntKind.u8.wrap (((BitVec.ofInt IntKind.u8.bits (240:Int) ||| BitVec.ofInt IntKind.u8.bits ((x:Nat):Int)).toNat:Nat):Int))=some (UInt8.ofNat (240+x)):=zlt.2.2.1 ⟨x,h⟩
theorem zv5 {y:Nat} (h:y<256):u8I (IntKind.u8.wrap (((BitVec.ofInt IntKind.u8.bits (128:Int) ||| BitVec.ofInt IntKind.u8.bits (IntKind.u8.wrap (((BitVec.ofInt IntKind.u8.bits ((y:Nat):Int) &&& BitVec.ofInt IntKind.u8.bits (63:Int)).toNat:Nat):Int))).toNat:Nat):Int))=some (UInt8.ofNat (128+y % 64)):=zlt.2.2.2 ⟨y,h⟩
theorem fdn (r k:Nat):Int.fdiv (r:Int) ((k:Nat):Int)=((r / k:Nat):Int):=by
 rw[Int.fdiv_eq_ediv_of_nonneg _ (by omega)]; rfl
theorem fd6 (r:Nat):Int.fdiv (r:Int) (2 ^ (min (Int.toNat (6:Int)) IntKind.i32.bits))=((r / 64:Nat):Int):=fdn r 64
theorem zyb (r:Nat):Int.fdiv (r:Int) (2 ^ (min (Int.toNat (12:Int)) IntKind.i32.bits))=((r / 4096:Nat):Int):=fdn r 4096
theorem zyj (r:Nat):Int.fdiv (r:Int) (2 ^ (min (Int.toNat (18:Int)) IntKind.i32.bits))=((r / 262144:Nat):Int):=fdn r 262144
theorem u8w (r:Nat):IntKind.u8.wrap (r:Int)=((r % 256:Nat):Int):=by
 show(r:Int) % (2 ^ 8:Int)=_;omega
theorem zyf {r:Nat} (h:r<4294967296):IntKind.u32.wrap (r:Int)=(r:Int):=by
 show(r:Int) % (2 ^ 32:Int)=_;omega
theorem bOf {m:Nat} {c:UInt8} (h:m=c.toNat):UInt8.ofNat m=c:=by subst h; exact UInt8.ofNat_toNat
theorem zkq (l:List UInt8) (i k:Nat):(l.take (i+k)).drop i=(l.drop i).take k:=by
 rw[List.drop_take,Nat.add_sub_cancel_left]
section
variable {n:Nat} {l:List UInt8} (hl:8 * l.length+64<=1073741824)
include hl
theorem zsv:∀ (g i f:Nat) (acc:List UInt8),i<=l.length->l.length - i<=g->l.length - i<f->acc.length+4 * (l.length - i)<=4 * l.length+16 ->
  qam (qe0 n l) f (acc,(i:Int))=some (acc++(qrc g (l.drop i)++[39])):=by
 intro g
 induction g with
 | zero=>
  intro i f acc hi hg hf ha;obtain⟨f,rfl⟩:=Nat.exists_eq_succ_of_ne_zero (by omega:f≠0);have:i=l.length:=by omega
  subst this;rw[qa3];generalize qam (qe0 n l) f=nx;unfold qe0
  dsimp only
  rw[qar,cond_false];rw[qa2 (qbt (by simp only[List.length_cons,List.length_nil]; omega))];rfl
 | succ g ih=>
  intro i f acc hi hg hf ha;obtain⟨f,rfl⟩:=Nat.exists_eq_succ_of_ne_zero (by omega:f≠0);rw[qa3];by_cases he:i=l.length
  ·subst he
   rw[List.drop_length,zdf];generalize qam (qe0 n l) f=nx;unfold qe0
   dsimp only
   rw[qar,cond_false];rw[qa2 (qbt (by simp only[List.length_cons,List.length_nil]; omega))];rfl
  ·have hlt:i<l.length:=by omega
   have hx:=List.getElem?_eq_getElem hlt;have hd:l.drop i=l[i]::l.drop (i+1):=List.drop_eq_getElem_cons hlt;have hsg:=zvr n (l:=l) (i:=i) (by omega) hi;have hstp:=zre (c:=l[i]) (t:=l.drop (i+1));have hsle:=q8c (l[i]::l.drop (i+1));have hnext:∀ (p:List UInt8) (j:Nat),p.length<=4->j=i+q8d (l[i]::l.drop (i+1))->qam (qe0 n l) f (acc++p,(j:Int))=some (acc++(p++qrc g ((l[i]::l.drop (i+1)).drop (q8d (l[i]::l.drop (i+1))))++[39])):=by
    intro p j hp hj;subst hj;have hlen:(l[i]::l.drop (i+1)).length=l.length - i:=by rw[← hd,List.length_drop]
    rw[ih (i+q8d (l[i]::l.drop (i+1))) f (acc++p) (by omega) (by omega) (by omega) (by rw[List.length_append]; omega)];rw[← hd,List.drop_drop];simp
   rw[hd]at hsg;rw[hd,qrc];have hlen:(l[i]::l.drop (i+1)).length=l.length - i:=by rw[← hd,List.length_drop]
   have hsl:∀ k,(l.take (i+k)).drop i=(l[i]::l.drop (i+1)).take k:=fun k=>by rw[zkq,hd]
   generalize l[i]=c at *;generalize l.drop (i+1)=t at *;generalize qam (qe0 n l) f=nx at hnext ⊢;unfold qe0
   dsimp only[qfj]
   rw[qa6 hlt,cond_true,hsg,qae,qaj hx,qae];rw[qx5];have hwk:∀ k:Nat,k<=4->IntKind.i64.wrap ((i:Int)+((k:Nat):Int))=((i+k:Nat):Int):=fun k hk=>by rw[qw3 (by omega) (by omega)]; omega
   have hhl:(zc2 c).length=2:=rfl;by_cases h0:qmj (c::t)=0\/c.toNat=127
   ·rw[if_pos h0]
    have hb:(bif((qmj (c::t):Nat):Int)==0 then true else((c.toNat:Nat):Int)==127)=true:=by
     rcases h0 with h|h
     ·rw[h]; rfl
     ·rw[h]; cases(((qmj (c::t):Nat):Int)==0)<;>rfl
    have hst:q8d (c::t)=1:=by
     unfold q8d;rcases h0 with h|h
     ·rw[if_pos h]
     ·rw[q4l (by omega)]; rfl
    rw[hb,cond_true,qa2 (qbt (by simp only[List.length_cons,List.length_nil]; omega)),zt1,qae,qa2 (qbt (by simp only[List.length_append,List.length_cons,List.length_nil]; omega))];rw[show IntKind.i64.wrap ((i:Int)+1)=((i+1:Nat):Int)from hwk 1 (by omega)];rw[show(acc++[92,120])++zc2 c=acc++(92::120::zc2 c)from by simp,hnext _ (i+1) (by simp[hhl]) (by rw[hst])]
   ·rw[if_neg h0]
    simp only[not_or]at h0;obtain⟨h0,h127⟩:=h0;have hst:q8d (c::t)=qmj (c::t):=by unfold q8d; rw[if_neg h0]
    have hb:(bif((qmj (c::t):Nat):Int)==0 then true else((c.toNat:Nat):Int)==127)=false:=by
     rw[show(((qmj (c::t):Nat):Int)==0)=false from by rw[beq_eq_false_iff_ne]; omega,show(((c.toNat:Nat):Int)==127)=false from by rw[beq_eq_false_iff_ne]; omega]; rfl
    rw[hb,cond_false];by_cases h39:c.toNat=39\/c.toNat=92
    ·rw[if_pos h39]
     have h1:qmj (c::t)=1:=q4l (by omega);have hb:(bif((c.toNat:Nat):Int)==39 then true else((c.toNat:Nat):Int)==92)=true:=by
      rcases h39 with h|h<;>rw[h]<;>rfl
     rw[hb,cond_true,qa2 (qbt (by simp only[List.length_cons,List.length_nil]; omega)),show IntKind.i64.wrap ((i:Int)+1)=((i+1:Nat):Int)from hwk 1 (by omega),qkc,qae,qkc,qae,qa2 (decide_eq_true ⟨by omega,by omega⟩),hsl 1];rw[show(c::t).take 1=[c]from rfl,qa2 (qbt (by simp only[List.length_append,List.length_cons,List.length_nil]; omega)),hwk _ hsle.1];rw[show(acc++[92])++[c]=acc++[92,c]from by simp,hnext _ (i+qmj (c::t)) (by simp) (by rw[hst])]
    ·rw[if_neg h39]
     simp only[not_or]at h39;have hb:(bif((c.toNat:Nat):Int)==39 then true else((c.toNat:Nat):Int)==92)=false:=by
      rw[show(((c.toNat:Nat):Int)==39)=false from by rw[beq_eq_false_iff_ne]; omega,show(((c.toNat:Nat):Int)==92)=false from by rw[beq_eq_false_iff_ne]; omega]; rfl
     rw[hb,cond_false];by_cases h10:c.toNat=10
     ·rw[if_pos h10,show(((c.toNat:Nat):Int)==10)=true from by rw[beq_iff_eq]; omega,cond_true,qa2 (qbt (by simp only[List.length_cons,List.length_nil]; omega)),hwk _ hsle.1,hnext _ (i+qmj (c::t)) (by simp) (by rw[hst])]
     ·rw[if_neg h10,show(((c.toNat:Nat):Int)==10)=false from by rw[beq_eq_false_iff_ne]; omega,cond_false]
      by_cases h9:c.toNat=9
      ·rw[if_pos h9,show(((c.toNat:Nat):Int)==9)=true from by rw[beq_iff_eq]; omega,cond_true,qa2 (qbt (by simp only[List.length_cons,List.length_nil]; omega)),hwk _ hsle.1,hnext _ (i+qmj (c::t)) (by simp) (by rw[hst])]
      ·rw[if_neg h9,show(((c.toNat:Nat):Int)==9)=false from by rw[beq_eq_false_iff_ne]; omega,cond_false]
       by_cases h13:c.toNat=13
       ·rw[if_pos h13,show(((c.toNat:Nat):Int)==13)=true from by rw[beq_iff_eq]; omega,cond_true,qa2 (qbt (by simp only[List.length_cons,List.length_nil]; omega)),hwk _ hsle.1,hnext _ (i+qmj (c::t)) (by simp) (by rw[hst])]
       ·rw[if_neg h13,show(((c.toNat:Nat):Int)==13)=false from by rw[beq_eq_false_iff_ne]; omega,cond_false]
        by_cases h32:c.toNat<32
        ·rw[if_pos h32,decide_eq_true (by omega:((c.toNat:Nat):Int)<32),cond_true,qa2 (qbt (by simp only[List.length_cons,List.length_nil]; omega)),zt1,qae,qa2 (qbt (by simp only[List.length_append,List.length_cons,List.length_nil]; omega)),hwk _ hsle.1]
         rw[show(acc++[92,120])++zc2 c=acc++(92::120::zc2 c)from by simp,hnext _ (i+qmj (c::t)) (by simp[hhl]) (by rw[hst])]
        ·rw[if_neg h32,decide_eq_false (by omega:¬ ((c.toNat:Nat):Int)<32),cond_false,hwk _ hsle.1,qkc,qae,qkc,qae,qa2 (decide_eq_true ⟨by omega,by omega⟩),hsl,qa2 (qbt (by rw[List.length_take]; omega))]
         rw[hnext _ (i+qmj (c::t)) (by rw[List.length_take]; omega) (by rw[hst])]
theorem zqh (hn:l.length<n):qt5 n l=some (q6n l):=by
 unfold qt5 q6n;have:=zsv (n:=n) hl l.length 0 n [39] (by omega) (by omega) (by omega) (by simp only[List.length_cons,List.length_nil]; omega);exact this
end
end W
end
section
open Go Ax
namespace W
theorem zqd (n:Nat) (s p:List UInt8):qgh n s p=some (decide (p.length<=s.length)&&s.take p.length==p):=by
 unfold qgh qee;by_cases h:p.length<=s.length
 ·rw[decide_eq_true (by omega:((s.length:Nat):Int)≥((p.length:Nat):Int)),decide_eq_true h]
  simp only[qkc,qc3,qae,cond_true];rw[qa2 (decide_eq_true h)];rfl
 ·rw[decide_eq_false (by omega:¬ ((s.length:Nat):Int)≥((p.length:Nat):Int)),decide_eq_false h]
  rfl
theorem zk2 {c:UInt8} {t:List UInt8} {k:Nat} (hk:qmj (c::t)=k+2):∃ r:Nat,zjl (c::t)=(r,k+2)/\128<=r/\r<=1114111/\194<=c.toNat /\
  ((k=0/\r<=2047/\(c::t).take 2=[UInt8.ofNat (192+r / 64 % 256),UInt8.ofNat (128+r % 256 % 64)]) \/
   (k=1/\2048<=r/\r<=65535/\(r<55296\/57343<r)/\(c::t).take 3=[UInt8.ofNat (224+r / 4096 % 256),UInt8.ofNat (128+r / 64 % 256 % 64),UInt8.ofNat (128+r % 256 % 64)]/\(r=65533->(c::t).take 3=[239,191,189])) \/
   (k=2/\65536<=r/\(c::t).take 4=[UInt8.ofNat (240+r / 262144 % 256),UInt8.ofNat (128+r / 4096 % 256 % 64),UInt8.ofNat (128+r / 64 % 256 % 64),UInt8.ofNat (128+r % 256 % 64)])):=by
 rw[qt1]at hk;split at hk
 ·omega
 ·rename_i h128
  split at hk
  ·omega
  ·rename_i h194
   cases t with
   | nil=>cases hk
   | cons d t=>
    simp only at hk;split at hk
    ·omega
    ·rename_i hcd
     simp only[Bool.not_eq_false]at hcd;have hd:=qpz.1 hcd;have hdl:=d.toNat_lt;split at hk
     ·rename_i h224
      obtain rfl:k=0:=by omega
      refine⟨_,zwl (by omega) h224 hcd,by omega,by omega,by omega,.inl ⟨rfl,by omega,?_⟩⟩;rw[bOf (c:=c) (by omega),bOf (c:=d) (by omega)];rfl
     ·rename_i h224
      cases t with
      | nil=>cases hk
      | cons e t=>
       simp only at hk;split at hk
       ·omega
       ·rename_i hne
        simp only[not_or,Bool.not_eq_false]at hne;obtain⟨hce,hx,hy⟩:=hne;have he:=qpz.1 hce;have hel:=e.toNat_lt;split at hk
        ·rename_i h240
         obtain rfl:k=1:=by omega
         refine⟨_,zwm (by omega) h240 hcd hce hx hy,by omega,by omega,by omega,.inr (.inl ⟨rfl,by omega,by omega,by omega,?_,fun h=>?_⟩)⟩
         ·rw[bOf (c:=c) (by omega),bOf (c:=d) (by omega),bOf (c:=e) (by omega)]
          rfl
         ·have e1:c=239:=UInt8.toNat_inj.1 (by show c.toNat=239; omega)
          have e2:d=191:=UInt8.toNat_inj.1 (by show d.toNat=191; omega);have e3:e=189:=UInt8.toNat_inj.1 (by show e.toNat=189; omega);rw[e1,e2,e3];rfl
        ·rename_i h240
         cases t with
         | nil=>cases hk
         | cons f t=>
          simp only at hk;split at hk
          ·omega
          ·rename_i hne
           simp only[not_or,Bool.not_eq_false]at hne;obtain⟨hcf,hx2,hy2⟩:=hne;have hf:=qpz.1 hcf;have hfl:=f.toNat_lt;obtain rfl:k=2:=by omega
           refine⟨_,zwn (by omega) (by omega) hcd hce hcf hx2 hy2,by omega,by omega,by omega,.inr (.inr ⟨rfl,by omega,?_⟩)⟩;rw[bOf (c:=c) (by omega),bOf (c:=d) (by omega),bOf (c:=e) (by omega),bOf (c:=f) (by omega)];rfl
theorem ztb {t:List UInt8}:qmj ((239:UInt8)::191::189::t)=3:=rfl
theorem zts {s:List UInt8} (h:s.length<=1073741824):decide ((qau s).length * 1<=140737488355328)=true:=decide_eq_true (by rw[zgz]; omega)
section
variable {n:Nat} {l:List UInt8} (hl:8 * l.length+64<=1073741824)
include hl
theorem zqx:∀ (g i f:Nat) (acc:List UInt8),i<=l.length->l.length - i<=g->l.length - i<f->acc.length+4 * (l.length - i)<=4 * l.length+16 ->
  qam (qfs n l) f (acc,i)=some (acc++(qrc g (l.drop i)++[39])):=by
 intro g;have hend:∀ (acc:List UInt8) (nx:List UInt8×Nat->Option (List UInt8)),acc.length<=4 * l.length+16->qfs n l nx (acc,l.length)=some (acc++[39]):=by
  intro acc nx ha;unfold qfs
  dsimp only
  rw[decide_eq_false (Nat.lt_irrefl _),cond_false,qa2 (zts (by rw[List.length_append]; simp only[List.length_cons,List.length_nil]; omega))]
 induction g with
 | zero=>
  intro i f acc hi hg hf ha;obtain⟨f,rfl⟩:=Nat.exists_eq_succ_of_ne_zero (by omega:f≠0);have:i=l.length:=by omega
  subst this;rw[qa3,hend acc _ (by omega)];rfl
 | succ g ih=>
  intro i f acc hi hg hf ha;obtain⟨f,rfl⟩:=Nat.exists_eq_succ_of_ne_zero (by omega:f≠0);rw[qa3];by_cases he:i=l.length
  ·subst he
   rw[List.drop_length,zdf,hend acc _ (by omega)];rfl
  ·have hlt:i<l.length:=by omega
   have hx:=List.getElem?_eq_getElem hlt;have hd:l.drop i=l[i]::l.drop (i+1):=List.drop_eq_getElem_cons hlt;have hstp:=zre (c:=l[i]) (t:=l.drop (i+1));have hsle:=q8c (l[i]::l.drop (i+1));have hlen:(l[i]::l.drop (i+1)).length=l.length - i:=by rw[← hd,List.length_drop]
   have hnext:∀ (p:List UInt8) (j:Nat),p.length<=4->j=i+q8d (l[i]::l.drop (i+1))->qam (qfs n l) f (acc++p,j)=some (acc++(p++qrc g ((l[i]::l.drop (i+1)).drop (q8d (l[i]::l.drop (i+1))))++[39])):=by
    intro p j hp hj;subst hj;rw[ih (i+q8d (l[i]::l.drop (i+1))) f (acc++p) (by omega) (by omega) (by omega) (by rw[List.length_append]; omega)];rw[← hd,List.drop_drop];simp
   have hrA:qba l i=(zjl (l[i]::l.drop (i+1))).1:=by unfold qba; rw[ztt,hd]
   have hrB:qd0 l i=i+(zjl (l[i]::l.drop (i+1))).2:=by unfold qd0; rw[ztt,hd]
   have hpre:=zqd n (l.drop i) [239,191,189];rw[hd]at hpre ⊢;rw[qrc];generalize hcc:l[i]=c at *;generalize htt:l.drop (i+1)=t at *;generalize qam (qfs n l) f=nx at hnext ⊢;have hhl:(zc2 c).length=2:=rfl;have hcl:=c.toNat_lt;have hB:∀ p:List UInt8,p.length<=8->decide ((qau (acc++p)).length * 1<=140737488355328)=true:=fun p hp=>zts (by rw[List.length_append]; omega)
   have hx1:=(zjo ⟨c.toNat,hcl⟩).2.1;have hx2:=(zjo ⟨c.toNat,hcl⟩).2.2;simp only at hx1 hx2;have hcode:∀ j,j=i+q8d (c::t)->(chk (decide ((qau (acc++([92,120]:List UInt8))).length * 1<=140737488355328)) (
     bnd (idx ([48,49,50,51,52,53,54,55,56,57,97,98,99,100,101,102]:List UInt8) (Int.fdiv ((c.toNat:Nat):Int) (2 ^ (min (Int.toNat (4:Int)) IntKind.u8.bits)))) fun x18=>
     chk (decide ((qau ((acc++([92,120]:List UInt8))++[x18])).length * 1<=140737488355328)) (
     bnd (idx ([48,49,50,51,52,53,54,55,56,57,97,98,99,100,101,102]:List UInt8) (IntKind.u8.wrap (((BitVec.ofInt IntKind.u8.bits ((c.toNat:Nat):Int) &&& BitVec.ofInt IntKind.u8.bits (15:Int)).toNat:Nat):Int))) fun x19=>
     chk (decide ((qau (((acc++([92,120]:List UInt8))++[x18])++[x19])).length * 1<=140737488355328)) (
     nx ((((acc++([92,120]:List UInt8))++[x18])++[x19]),j)))))=some (acc++(92::120::zc2 c++qrc g ((c::t).drop (q8d (c::t)))++[39])):=by
    intro j hj;rw[qa2 (hB _ (by simp)),hx1,qae,List.append_assoc,qa2 (hB _ (by simp)),hx2,qae,List.append_assoc,qa2 (hB _ (by simp))];exact hnext (92::120::zc2 c) j (by simp[hhl]) hj
   unfold qfs
   dsimp only
   rw[decide_eq_true hlt,cond_true,cond_true,hrA,hrB,qx5];have hi0:idx l ((i:Nat):Int)=some c:=qaj hx;by_cases h0:qmj (c::t)=0
   ·
    have h128:128<=c.toNat:=Decidable.byContradiction fun h=>by rw[q4l (by omega)]at h0; cases h0
    have hnp:(decide ((([239,191,189]:List UInt8).length)<=(c::t).length)&&(c::t).take (([239,191,189]:List UInt8).length)==([239,191,189]:List UInt8))=false:=by
     cases hb:(decide ((([239,191,189]:List UInt8).length)<=(c::t).length)&&(c::t).take (([239,191,189]:List UInt8).length)==([239,191,189]:List UInt8))with
     | false=>rfl
     | true=>
      exfalso;simp only[Bool.and_eq_true,decide_eq_true_eq,beq_iff_eq]at hb;have e:=hb.2
      match t,hb.1 with
      | d::e'::t',_=>
       simp only[List.length_cons,List.length_nil,List.take_succ_cons,List.take_zero,List.cons.injEq,and_true]at e;obtain⟨rfl,rfl,rfl⟩:=e;rw[ztb]at h0;cases h0
    have hst:q8d (c::t)=1:=by unfold q8d; rw[if_pos h0]
    rw[if_pos (.inl h0),zwk h128 h0];simp only;rw[show(bif(((65533:Nat):Int)==92)then true else(((65533:Nat):Int)==39))=false from rfl,cond_false,show(((65533:Nat):Int)==10)=false from rfl,cond_false,show(((65533:Nat):Int)==9)=false from rfl,cond_false,show(((65533:Nat):Int)==13)=false from rfl,cond_false];rw[show((!(bif decide (((65533:Nat):Int)<32)then true else(((65533:Nat):Int)==127)))&&(((65533:Nat):Int)==65533))=true from rfl,qkc,qc3,qae,cond_true,qa2 (decide_eq_true hi),hd,hpre,hnp,qc3,qae];rw[show(bif(bif decide (((65533:Nat):Int)<32)then true else(((65533:Nat):Int)==127))then true else(bif(((65533:Nat):Int)==65533)then(!false)else false))=true from rfl,cond_true,hi0,qae];exact hcode _ (by rw[hst])
   ·by_cases h128:c.toNat<128
    ·have h1:qmj (c::t)=1:=q4l h128
     have hst:q8d (c::t)=1:=by unfold q8d; rw[if_neg h0,h1]
     have hu:IntKind.u32.wrap ((c.toNat:Nat):Int)=((c.toNat:Nat):Int):=zyf (by omega);have hu8:u8I (IntKind.u8.wrap ((c.toNat:Nat):Int))=some c:=by rw[u8w,Nat.mod_eq_of_lt hcl]; exact zf4 c
     rw[zuq h128];simp only;rw[hu];by_cases h39:c.toNat=39\/c.toNat=92
     ·rw[if_neg (by omega),if_pos h39]
      rw[show(bif(((c.toNat:Nat):Int)==92)then true else(((c.toNat:Nat):Int)==39))=true from by rcases h39 with h|h<;>rw[h]<;>rfl,cond_true,qa2 (hB _ (by simp)),decide_eq_true (by omega:((c.toNat:Nat):Int)<=127),cond_true,hu8,qae,List.append_assoc,qa2 (hB _ (by simp))]
      exact hnext [92,c] _ (by simp) (by rw[hst])
     ·simp only[not_or]at h39
      rw[show(bif(((c.toNat:Nat):Int)==92)then true else(((c.toNat:Nat):Int)==39))=false from by
       rw[show(((c.toNat:Nat):Int)==92)=false from by rw[beq_eq_false_iff_ne]; omega,show(((c.toNat:Nat):Int)==39)=false from by rw[beq_eq_false_iff_ne]; omega]; rfl,cond_false]
      by_cases h10:c.toNat=10
      ·rw[if_neg (by omega),if_neg (by omega),if_pos h10,show(((c.toNat:Nat):Int)==10)=true from by rw[h10]; rfl,cond_true,qa2 (hB _ (by simp))]
       exact hnext [92,110] _ (by simp) (by rw[hst])
      ·rw[show(((c.toNat:Nat):Int)==10)=false from by rw[beq_eq_false_iff_ne]; omega,cond_false]
       by_cases h9:c.toNat=9
       ·rw[if_neg (by omega),if_neg (by omega),if_neg h10,if_pos h9,show(((c.toNat:Nat):Int)==9)=true from by rw[h9]; rfl,cond_true,qa2 (hB _ (by simp))]
        exact hnext [92,116] _ (by simp) (by rw[hst])
       ·rw[show(((c.toNat:Nat):Int)==9)=false from by rw[beq_eq_false_iff_ne]; omega,cond_false]
        by_cases h13:c.toNat=13
        ·rw[if_neg (by omega),if_neg (by omega),if_neg h10,if_neg h9,if_pos h13,show(((c.toNat:Nat):Int)==13)=true from by rw[h13]; rfl,cond_true,qa2 (hB _ (by simp))]
         exact hnext [92,114] _ (by simp) (by rw[hst])
        ·rw[show(((c.toNat:Nat):Int)==13)=false from by rw[beq_eq_false_iff_ne]; omega,cond_false]
         have hff:(((c.toNat:Nat):Int)==65533)=false:=by rw[beq_eq_false_iff_ne]; omega
         rw[hff,Bool.and_false];simp only[qaw,cond_false,qae];rw[qa2 (by rfl:true=true)];by_cases hlo:c.toNat<32\/c.toNat=127
         ·rw[show(bif(bif decide (((c.toNat:Nat):Int)<32)then true else(((c.toNat:Nat):Int)==127))then true else false)=true from by
           rcases hlo with h|h
           ·rw[decide_eq_true (by omega:((c.toNat:Nat):Int)<32)]; rfl
           ·rw[h]; rfl,cond_true,hi0,qae]
          have hpc:(if qmj (c::t)=0\/c.toNat=127 then 92::120::zc2 c
            else if c.toNat=39\/c.toNat=92 then[92,c]
            else if c.toNat=10 then[92,110]
            else if c.toNat=9 then[92,116]
            else if c.toNat=13 then[92,114]
            else if c.toNat<32 then 92::120::zc2 c
            else(c::t).take (qmj (c::t)))=92::120::zc2 c:=by
           by_cases h127:c.toNat=127
           ·rw[if_pos (.inr h127)]
           ·rw[if_neg (by omega),if_neg (by omega),if_neg h10,if_neg h9,if_neg h13,if_pos (by omega)]
          rw[hpc];exact hcode _ (by rw[hst])
         ·simp only[not_or]at hlo
          rw[show(bif(bif decide (((c.toNat:Nat):Int)<32)then true else(((c.toNat:Nat):Int)==127))then true else false)=false from by
           rw[decide_eq_false (by omega:¬ ((c.toNat:Nat):Int)<32),show(((c.toNat:Nat):Int)==127)=false from by rw[beq_eq_false_iff_ne]; omega]; rfl,cond_false]
          rw[decide_eq_true (by omega:((c.toNat:Nat):Int)<=127),cond_true,hu8,qae,qa2 (hB _ (by simp))];rw[if_neg (by omega),if_neg (by omega),if_neg h10,if_neg h9,if_neg h13,if_neg hlo.1,h1];exact hnext [c] _ (by simp) (by rw[hst])
    ·
     have h1:qmj (c::t)≠1:=fun h=>by
      rw[qt1,if_neg h128]at h;split at h
      ·cases h
      ·split at h
       ·cases h
       ·split at h
        ·cases h
        ·split at h
         ·cases h
         ·split at h
          ·cases h
          ·split at h
           ·cases h
           ·split at h
            ·cases h
            ·split at h
             ·cases h
             ·split at h<;>cases h
     obtain⟨k,hk⟩:∃ k,qmj (c::t)=k+2:=⟨qmj (c::t) - 2,by omega⟩;obtain⟨r,hr,hr128,hrm,hc194,hcase⟩:=zk2 hk;have hst:q8d (c::t)=k+2:=by unfold q8d; rw[if_neg h0,hk]
     have hu:IntKind.u32.wrap ((r:Nat):Int)=((r:Nat):Int):=zyf (by omega);rw[hr];simp only;rw[hu];rw[if_neg (by omega),if_neg (by omega),if_neg (by omega),if_neg (by omega),if_neg (by omega),if_neg (by omega),hk];rw[show(bif(((r:Nat):Int)==92)then true else(((r:Nat):Int)==39))=false from by
      rw[show(((r:Nat):Int)==92)=false from by rw[beq_eq_false_iff_ne]; omega,show(((r:Nat):Int)==39)=false from by rw[beq_eq_false_iff_ne]; omega]; rfl,cond_false,show(((r:Nat):Int)==10)=false from by rw[beq_eq_false_iff_ne]; omega,cond_false,show(((r:Nat):Int)==9)=false from by rw[beq_eq_false_iff_ne]; omega,cond_false,show(((r:Nat):Int)==13)=false from by rw[beq_eq_false_iff_ne]; omega,cond_false]
     have hlow:(bif decide (((r:Nat):Int)<32)then true else(((r:Nat):Int)==127))=false:=by
      rw[decide_eq_false (by omega:¬ ((r:Nat):Int)<32),show(((r:Nat):Int)==127)=false from by rw[beq_eq_false_iff_ne]; omega]; rfl
     rw[hlow];have hgo:∀ (K:Option (List UInt8)) (C:UInt8->Option (List UInt8)),(bnd (qaw ((!false)&&(((r:Nat):Int)==65533)) (qwb ((i:Nat):Int))) fun x15=>
       chk (bif((!false)&&(((r:Nat):Int)==65533))then decide (x15<=l.length)else true) (
       bnd (qaw ((!false)&&(((r:Nat):Int)==65533)) (qgh n (l.drop x15) ([239,191,189]:List UInt8))) fun x16=>
       bif(bif false then true else(bif(((r:Nat):Int)==65533)then(!x16)else false))then(bnd (idx l ((i:Nat):Int)) C)else K))=K:=by
      intro K C;by_cases hff:r=65533
      ·have hp3:(decide ((([239,191,189]:List UInt8).length)<=(c::t).length)&&(c::t).take (([239,191,189]:List UInt8).length)==([239,191,189]:List UInt8))=true:=by
        rcases hcase with ⟨_,h,_⟩|⟨hk1,_,_,_,_,h⟩|⟨_,h,_⟩
        ·omega
        ·have h3:=h hff
         have hle:=hsle.2;rw[hk,hk1]at hle;simp only[Bool.and_eq_true,decide_eq_true_eq,beq_iff_eq];exact⟨hle,h3⟩
        ·omega
       subst hff;rw[show((!false)&&(((65533:Nat):Int)==65533))=true from rfl,qkc,qc3,qae,cond_true,qa2 (decide_eq_true hi),hd,hpre,hp3,qc3,qae];rfl
      ·have:(((r:Nat):Int)==65533)=false:=by rw[beq_eq_false_iff_ne]; omega
       rw[this];rfl
     rw[hgo];rw[decide_eq_false (by omega:¬ ((r:Nat):Int)<=127),cond_false];rcases hcase with ⟨rfl,hr1,hb⟩|⟨rfl,hr1,hr2,hr3,hb,_⟩|⟨rfl,hr1,hb⟩
     ·rw[decide_eq_true (by omega:((r:Nat):Int)<=2047),cond_true,fd6,u8w (r / 64),zyk (by omega),qae,u8w r,zv5 (by omega),qae,qa2 (hB _ (by simp))]
      have:=hnext ((c::t).take 2) (i+(0+2)) (by rw[List.length_take]; omega) (by rw[hst]);rw[hb]at this;rw[show(c::t).take (0+2)=[UInt8.ofNat (192+r / 64 % 256),UInt8.ofNat (128+r % 256 % 64)]from hb];exact this
     ·rw[decide_eq_false (by omega:¬ ((r:Nat):Int)<=2047),cond_false]
      have hk6:qii n l i acc nx true=some (acc++((c::t).take (1+2)++qrc g ((c::t).drop (q8d (c::t)))++[39])):=by
       unfold qii;rw[cond_true,decide_eq_true hlt,cond_true,hrA,hrB,hr]
       dsimp only
       rw[zyb,u8w (r / 4096),zyl (by omega),qae,fd6,u8w (r / 64),zv5 (by omega),qae,u8w r,zv5 (by omega),qae,qa2 (hB _ (by simp))];have:=hnext ((c::t).take 3) (i+(1+2)) (by rw[List.length_take]; omega) (by rw[hst]);rw[hb]at this;rw[show(c::t).take (1+2)=[UInt8.ofNat (224+r / 4096 % 256),UInt8.ofNat (128+r / 64 % 256 % 64),UInt8.ofNat (128+r % 256 % 64)]from hb];exact this
      by_cases hs:r<55296
      ·rw[decide_eq_true (by omega:((r:Nat):Int)<55296),cond_true]
       exact hk6
      ·rw[decide_eq_false (by omega:¬ ((r:Nat):Int)<55296),cond_false,decide_eq_true (by omega:(57343:Int)<((r:Nat):Int)),cond_true,decide_eq_true (by omega:((r:Nat):Int)<=65535)]
       exact hk6
     ·rw[decide_eq_false (by omega:¬ ((r:Nat):Int)<=2047),cond_false,decide_eq_false (by omega:¬ ((r:Nat):Int)<55296),cond_false,decide_eq_true (by omega:(57343:Int)<((r:Nat):Int)),cond_true,decide_eq_false (by omega:¬ ((r:Nat):Int)<=65535)]
      unfold qii;rw[cond_false,decide_eq_true hlt,cond_true,hrA,hrB,hr]
      dsimp only
      rw[hu,decide_eq_true (by omega:((r:Nat):Int)>65535),cond_true,decide_eq_true (by omega:((r:Nat):Int)<=1114111),cond_true];rw[zyj,u8w (r / 262144),zym (by omega),qae,zyb,u8w (r / 4096),zv5 (by omega),qae,fd6,u8w (r / 64),zv5 (by omega),qae,u8w r,zv5 (by omega),qae,qa2 (hB _ (by simp))];have:=hnext ((c::t).take 4) (i+(2+2)) (by rw[List.length_take]; omega) (by rw[hst]);rw[hb]at this;rw[show(c::t).take (2+2)=[UInt8.ofNat (240+r / 262144 % 256),UInt8.ofNat (128+r / 4096 % 256 % 64),UInt8.ofNat (128+r / 64 % 256 % 64),UInt8.ofNat (128+r % 256 % 64)]from hb];exact this
theorem zmz (hn:l.length<n):qsj n l=some (q6n l):=by
 unfold qsj q6n;rw[qa2 (zts (by simp))];have:=zqx (n:=n) hl l.length 0 n [39] (by omega) (by omega) (by omega) (by simp only[List.length_cons,List.length_nil]; omega);exact this
end
end W
end
section
open Go Ax
namespace W
def kyS (s:List UInt8):List UInt8:=bif qdi s then s else q6n s
theorem zmq (s:List UInt8):(q6n s).length<=4 * s.length+2:=by
 have:=zde s.length s;unfold q6n;simp only[List.length_cons,List.length_append,List.length_nil];omega
theorem zpg (s:List UInt8):(kyS s).length<=4 * s.length+2:=by
 have:=zmq s;unfold kyS;cases qdi s
 ·exact this
 ·show s.length<=_; omega
theorem ziq {n:Nat} (hn:n<=1073741824) {s:List UInt8} (hl:8 * s.length+64<=1073741824) (h:s.length<n):qrr n s=some (kyS s):=by
 unfold qrr kyS;rw[qhb h hn,qae];cases qdi s with
 | true=>rfl
 | false=>rw[cond_false,cond_false,zmz hl h]; rfl
theorem zqi {n:Nat} (hn:n<=1073741824) (h28:28<n) {s:List UInt8} (hl:8 * s.length+64<=1073741824) (h:s.length<n):qwk n s=some (kyS s):=by
 unfold qwk kyS;rw[qho h h28 hn,qae];cases qdi s with
 | true=>rfl
 | false=>rw[cond_false,cond_false,zqh hl h]; rfl
def q4t (k:Int):List UInt8:=if k=1 then[102,108,111,119]else if k=2 then[119,104,111,108,101]else[119,114,105,116,101]
def qyy (x:qda):List UInt8:=[59,32,115,101,101,107,32]++q4w x.clause++[32]++q4w x.path++[32]++kyS x.label++[46]++kyS x.key
def zjn (s:qao):List UInt8:=q4t s.kind++[32]++q4w s.from_++(if s.to≠s.from_ then[32,116,111,32]++q4w s.to else[])
def q23 (s:qao):List UInt8:=zjn s++s.seeks.flatMap qyy++[10]
def zwo (i:Int):Prop:=-9223372036854775808<=i/\i<=9223372036854775807
def isz (i:Int):Nat:=if -9223372036854775808<=i/\i<=9223372036854775807 then 1 else 1099511627776
theorem zwp {i:Int} (h:IntKind.i64.min<=i/\i<=IntKind.i64.max):isz i=1:=by
 have e1:IntKind.i64.min = -9223372036854775808:=by decide
 have e2:IntKind.i64.max=9223372036854775807:=by decide
 rw[e1,e2]at h;unfold isz;rw[if_pos h]
theorem zlb {i:Int} (h:isz i<1099511627776):zwo i:=by
 unfold isz at h;split at h
 ·rename_i hh; exact hh
 ·omega
theorem q96 (i:Int):1<=isz i:=by unfold isz; split<;>omega
def q26 (x:qda):Nat:=isz x.clause+isz x.path+(1+x.label.length)+(1+x.key.length)+1
def qw2 (s:qao):Nat:=isz s.kind+isz s.from_+isz s.to+((s.seeks.map q26).sum+1)+1
structure SeekIn (x:qda):Prop where
 c:zwo x.clause
 p:zwo x.path
 l:x.label.length<=1048576
 k:x.key.length<=1048576
theorem zw6 {x:qda} (h:q26 x<=1048576):SeekIn x:=by
 unfold q26 at h;exact⟨zlb (by omega),zlb (by omega),by omega,by omega⟩
theorem zqu {x:qda} (h:SeekIn x):(qyy x).length<=16 * q26 x:=by
 have h1:=q76 h.c.1 h.c.2;have h2:=q76 h.p.1 h.p.2;have h3:=zpg x.label;have h4:=zpg x.key;have h5:=q96 x.clause;have h6:=q96 x.path;unfold qyy q26;simp only[List.length_append,List.length_cons,List.length_nil];omega
theorem zim:∀ (l:List qda),(∀ x∈l,SeekIn x)->(l.flatMap qyy).length<=16 * (l.map q26).sum
 | [],_=>by simp
 | x::l,h=>by
  have h1:=zqu (h x (by simp));have h2:=zim l (fun y hy=>h y (by simp[hy]))
  simp only[List.flatMap_cons,List.length_append,List.map_cons,List.sum_cons];omega
structure StageIn (s:qao):Prop where
 f:zwo s.from_
 t:zwo s.to
 s:∀ x∈s.seeks,SeekIn x
theorem zvu {s:qao} (h:qw2 s<=1048576):StageIn s:=by
 unfold qw2 at h;refine⟨zlb (by omega),zlb (by omega),fun x hx=>zw6 ?_⟩
 have:=qbu q26 hx;omega
theorem zav (k:Int):(q4t k).length<=5:=by unfold q4t; split<;>(try split)<;>decide
theorem zo1 {s:qao} (h:StageIn s):(zjn s).length<=50:=by
 have h1:=q76 h.f.1 h.f.2;have h2:=q76 h.t.1 h.t.2;have h3:=zav s.kind;unfold zjn;split<;>simp only[List.length_append,List.length_cons,List.length_nil]<;>omega
theorem zpt {s:qao} (h:StageIn s):(q23 s).length<=16 * qw2 s:=by
 have h1:=zo1 h;have h2:=zim s.seeks h.s;have h3:=q96 s.kind;have h4:=q96 s.from_;have h5:=q96 s.to;unfold q23 qw2;simp only[List.length_append,List.length_cons,List.length_nil];omega
theorem zae:∀ (l:List qao),(∀ x∈l,StageIn x)->(l.flatMap q23).length<=16 * (l.map qw2).sum
 | [],_=>by simp
 | x::l,h=>by
  have h1:=zpt (h x (by simp));have h2:=zae l (fun y hy=>h y (by simp[hy]))
  simp only[List.flatMap_cons,List.length_append,List.map_cons,List.sum_cons];omega
theorem q4c {A S R:Type} {B:(S->Option R)->S->Option R} (mk:Nat->List UInt8->S) {l:List A} (g:A->List UInt8) (K:List UInt8->Option R) (M:Nat)
  (step:∀ (k:Nat) (x:A) (nx:S->Option R) (t:List UInt8),l[k]? =some x->t.length+(g x).length<=M->B nx (mk k t)=nx (mk (k+1) (t++g x)))
  (hend:∀ (nx:S->Option R) (t:List UInt8),t.length<=M->B nx (mk l.length t)=K t) {n:Nat} (hn:l.length<n) (t0:List UInt8) (hM:t0.length+(l.flatMap g).length<=M):qam B n (mk 0 t0)=K (t0++l.flatMap g):=by
 have main:∀ (suf:List A) (k m:Nat) (t:List UInt8),(∀ j,suf[j]? =l[k+j]?)->k+suf.length=l.length->suf.length<m->t.length+(suf.flatMap g).length<=M->qam B m (mk k t)=K (t++suf.flatMap g):=by
  intro suf
  induction suf with
  | nil=>
   intro k m t hs hk hm hM;obtain⟨m,rfl⟩:=Nat.exists_eq_succ_of_ne_zero (by omega:m≠0);have:k=l.length:=by simpa using hk
   subst this;rw[qa3,hend _ t (by simpa using hM)];simp
  | cons x suf ih=>
   intro k m t hs hk hm hM;obtain⟨m,rfl⟩:=Nat.exists_eq_succ_of_ne_zero (by omega:m≠0);have hx:l[k]? =some x:=by have:=hs 0; simpa using this.symm
   simp only[List.flatMap_cons,List.length_append]at hM;rw[qa3,step k x _ t hx (by omega),ih (k+1) m (t++g x) (fun j=>by have:=hs (j+1); rw[show k+1+j=k+(j+1) by omega]; simpa using this) (by simp at hk; omega) (by simp at hm; omega) (by rw[List.length_append]; omega)]
   simp
 exact main l 0 n t0 (by simp) (by simp) hn hM
section
variable {n:Nat} (hn:n<=1073741824) (h400:400<=n) (h20:1048576<n)
include hn h400 h20
theorem zvk {l:List qda} (hl:l.length<n) (hs:∀ x∈l,SeekIn x) (i:Nat) (hi:i<1073741824) (nx:Int×List UInt8->Option (List UInt8)) (t0:List UInt8) (hM:t0.length+(l.flatMap qyy).length+1<=536870912) :
  qam (qj3 n l nx (i:Int)) n ((0:Int),t0)=nx (((i+1:Nat):Int),t0++l.flatMap qyy++[10]):=by
 refine q4c (B:=qj3 n l nx (i:Int)) (fun k t=>((k:Int),t)) qyy (fun t=>nx (((i+1:Nat):Int),t++[10])) 536870911 (fun k x nx2 t hx ht=>?_) (fun nx2 t ht=>?_) hl t0 (by omega)
 ·have hk:=qbm hx
  obtain⟨hc,hp,hlb,hkb⟩:=hs x (qbg hx);have n1:=q77 h400 hc.1 hc.2;have n2:=q77 h400 hp.1 hp.2;have k1:=ziq hn (s:=x.label) (by omega) (by omega);have k2:=ziq hn (s:=x.key) (by omega) (by omega);obtain⟨y1,y2,y3,y4⟩:=x;unfold qyy at ht ⊢;simp only at ht n1 n2 k1 k2 ⊢;simp only[List.length_append]at ht;generalize q4w y1=N1 at *;generalize q4w y2=N2 at *;generalize kyS y3=K1 at *;generalize kyS y4=K2 at *;unfold qj3
  dsimp only
  rw[qek,qa6 hk,cond_true,qaj hx,qae,n1,qae];simp only[List.length_cons,List.length_nil]at ht;rw[qa2 (qbt (by simp only[List.length_append,List.length_cons,List.length_nil]; omega)),qa2 (qbt (by simp only[List.length_append,List.length_cons,List.length_nil]; omega)),n2,qae,
   qa2 (qbt (by simp only[List.length_append,List.length_cons,List.length_nil]; omega)),qa2 (qbt (by simp only[List.length_append,List.length_cons,List.length_nil]; omega)),k1,qae,
   qa2 (qbt (by simp only[List.length_append,List.length_cons,List.length_nil]; omega)),qa2 (qbt (by simp only[List.length_append,List.length_cons,List.length_nil]; omega)),k2,qae,
   qa2 (qbt (by simp only[List.length_append,List.length_cons,List.length_nil]; omega)),qa2 (zts (by simp only[List.length_append,List.length_cons,List.length_nil]; omega)),qb7 (by omega)]
 ·unfold qj3
  dsimp only
  rw[qek,qar,cond_false,qa2 (zts (by rw[List.length_append]; simp only[List.length_cons,List.length_nil]; omega)),qb7 (by omega)]
theorem zvn {out:List qao} {s:qao} {i:Nat} (hi:out[i]? =some s) (hl:s.seeks.length<n) (hs:∀ x∈s.seeks,SeekIn x) (hi2:i<1073741824) (nx:List UInt8×Int->Option (List UInt8)) (t0:List UInt8) (hM:t0.length+(s.seeks.flatMap qyy).length+1<=536870912) :
  qam (qla n out (i:Int) nx) n (t0,(0:Int))=nx (t0++s.seeks.flatMap qyy++[10],((i+1:Nat):Int)):=by
 obtain⟨s1,s2,s3,l⟩:=s;simp only at hl hs hM ⊢;refine q4c (B:=qla n out (i:Int) nx) (fun k t=>(t,(k:Int))) qyy (fun t=>nx (t++[10],((i+1:Nat):Int))) 536870911 (fun k x nx2 t hx ht=>?_) (fun nx2 t ht=>?_) hl t0 (by omega)
 ·have hk:=qbm hx
  obtain⟨hc,hp,hlb,hkb⟩:=hs x (qbg hx);have n1:=q79 h400 hc.1 hc.2;have n2:=q79 h400 hp.1 hp.2;have k1:=zqi hn (by omega) (s:=x.label) (by omega) (by omega);have k2:=zqi hn (by omega) (s:=x.key) (by omega) (by omega);obtain⟨y1,y2,y3,y4⟩:=x;unfold qyy at ht ⊢;simp only at ht n1 n2 k1 k2 ⊢;simp only[List.length_append]at ht;generalize q4w y1=N1 at *;generalize q4w y2=N2 at *;generalize kyS y3=K1 at *;generalize kyS y4=K2 at *;unfold qla
  dsimp only
  rw[qaj hi,qae]
  dsimp only
  rw[qek,qa6 hk,cond_true,qae]
  dsimp only
  rw[qaj hx,qae];simp only[List.length_cons,List.length_nil]at ht;rw[qa2 (qbt (by simp only[List.length_append,List.length_cons,List.length_nil]; omega)),n1,qae,qa2 (qbt (by simp only[List.length_append,List.length_cons,List.length_nil]; omega)),qa2 (qbt (by simp only[List.length_append,List.length_cons,List.length_nil]; omega)),n2,qae,
   qa2 (qbt (by simp only[List.length_append,List.length_cons,List.length_nil]; omega)),qa2 (qbt (by simp only[List.length_append,List.length_cons,List.length_nil]; omega)),k1,qae,
   qa2 (qbt (by simp only[List.length_append,List.length_cons,List.length_nil]; omega)),qa2 (qbt (by simp only[List.length_append,List.length_cons,List.length_nil]; omega)),k2,qae,
   qa2 (qbt (by simp only[List.length_append,List.length_cons,List.length_nil]; omega)),qb7 (by omega)]
  simp only[List.append_assoc]
 ·unfold qla
  dsimp only
  rw[qaj hi,qae]
  dsimp only
  rw[qek,qar,cond_false,qa2 (qbt (by simp only[List.length_cons,List.length_nil]; omega)),qb7 (by omega)]
theorem zh5 {l:List qao} (hl:l.length<n) (hs:∀ s∈l,StageIn s/\s.seeks.length<n) (hM:(l.flatMap q23).length<=268435456):qpw n l=some (l.flatMap q23):=by
 unfold qpw;have:=q4c (B:=qma n l) (fun k t=>((k:Int),t)) q23 (fun t=>some t) 268435456 (fun k s nx t hx ht=>by
  have hk:=qbm hx;obtain⟨⟨hf,ht2,hsk⟩,hsl⟩:=hs s (qbg hx);have n1:=q77 h400 hf.1 hf.2;have n2:=q77 h400 ht2.1 ht2.2;have hseek:=fun t0 hM=>zvk hn h400 h20 (l:=s.seeks) hsl hsk k (by omega) nx t0 hM
  obtain⟨s1,s2,s3,sk⟩:=s;unfold q23 zjn at ht ⊢;simp only at ht n1 n2 hseek ⊢;have hw:qun n s1=some (q4t s1):=by
   unfold qun q4t;by_cases h1:s1=1
   ·subst h1; rfl
   ·rw[beq_eq_false_iff_ne.2 h1,cond_false,if_neg h1]
    by_cases h2:s1=2
    ·subst h2; rfl
    ·rw[beq_eq_false_iff_ne.2 h2,cond_false,if_neg h2]
  have hwl:=zav s1;generalize q4t s1=W1 at *;generalize q4w s2=N1 at *;generalize q4w s3=N2 at *;generalize sk.flatMap qyy=SK at *;unfold qma
  dsimp only[qo2]
  rw[qdo,qa6 hk,cond_true,qaj hx,qae]
  dsimp only
  rw[hw,qae];simp only[List.length_append,List.length_cons,List.length_nil]at ht;by_cases he:s3=s2
  ·have:(s3 != s2)=false:=by rw[he]; simp
   rw[if_neg (by simpa using he)]at ht ⊢;simp only[List.length_nil]at ht;rw[qa2 (qbt (by simp only[List.length_append,List.length_cons,List.length_nil]; omega)),n1,qae,qa2 (qbt (by simp only[List.length_append,List.length_cons,List.length_nil]; omega)),qa2 (zts (by simp only[List.length_append,List.length_cons,List.length_nil]; omega)),this,cond_false];rw[hseek _ (by simp only[List.length_append,List.length_cons,List.length_nil]; omega)];simp only[List.append_assoc,List.append_nil]
  ·have:(s3 != s2)=true:=bne_iff_ne.2 he
   rw[if_pos (by simpa using he)]at ht ⊢;simp only[List.length_append,List.length_cons,List.length_nil]at ht;rw[qa2 (qbt (by simp only[List.length_append,List.length_cons,List.length_nil]; omega)),n1,qae,qa2 (qbt (by simp only[List.length_append,List.length_cons,List.length_nil]; omega)),qa2 (zts (by simp only[List.length_append,List.length_cons,List.length_nil]; omega)),this,cond_true,n2,qae];rw[qa2 (qbt (by simp only[List.length_append,List.length_cons,List.length_nil]; omega)),qa2 (zts (by simp only[List.length_append,List.length_cons,List.length_nil]; omega))];rw[hseek _ (by simp only[List.length_append,List.length_cons,List.length_nil]; omega)];simp only[List.append_assoc]) (fun nx t ht=>by
  unfold qma
  dsimp only
  rw[qdo,qar,cond_false]) hl [] (by simpa using hM)
 simpa using this
theorem zlu {l:List qao} (hl:l.length<n) (hs:∀ s∈l,StageIn s/\s.seeks.length<n) (hM:(l.flatMap q23).length<=268435456):qtw n l=some (l.flatMap q23):=by
 unfold qtw;have:=q4c (B:=qn1 n l) (fun k t=>(t,(k:Int))) q23 (fun t=>some t) 268435456 (fun k s nx t hx ht=>by
  have hk:=qbm hx;obtain⟨⟨hf,ht2,hsk⟩,hsl⟩:=hs s (qbg hx);have n1:=q79 h400 hf.1 hf.2;have n2:=q79 h400 ht2.1 ht2.2;have hseek:=fun t0 hM=>zvn hn h400 h20 hx hsl hsk (by omega) nx t0 hM
  obtain⟨s1,s2,s3,sk⟩:=s;unfold q23 zjn at ht ⊢;simp only at ht n1 n2 hseek ⊢;have hwl:=zav s1;have hk8:qn0 n t l (k:Int) nx (q4t s1)=nx (t++(q4t s1++[32]++q4w s2++(if s3≠s2 then[32,116,111,32]++q4w s3 else[])++sk.flatMap qyy++[10]),((k+1:Nat):Int)):=by
   generalize q4t s1=W1 at *;generalize q4w s2=N1 at *;generalize q4w s3=N2 at *;generalize sk.flatMap qyy=SK at *;unfold qn0
   dsimp only[qqw]
   simp only[List.length_append,List.length_cons,List.length_nil]at ht;by_cases he:s3=s2
   ·have:(s3 != s2)=false:=by rw[he]; simp
    rw[if_neg (by simpa using he)]at ht ⊢;simp only[List.length_nil]at ht;rw[qa2 (qbt (by omega)),qa2 (qbt (by simp only[List.length_append,List.length_cons,List.length_nil]; omega)),qaj hx,qae]
    dsimp only
    rw[n1,qae,qa2 (qbt (by simp only[List.length_append,List.length_cons,List.length_nil]; omega)),qae]
    dsimp only
    rw[qae]
    dsimp only
    rw[this,cond_false,hseek _ (by simp only[List.length_append,List.length_cons,List.length_nil]; omega)];simp only[List.append_assoc,List.append_nil]
   ·have:(s3 != s2)=true:=bne_iff_ne.2 he
    rw[if_pos (by simpa using he)]at ht ⊢;simp only[List.length_append,List.length_cons,List.length_nil]at ht;rw[qa2 (qbt (by omega)),qa2 (qbt (by simp only[List.length_append,List.length_cons,List.length_nil]; omega)),qaj hx,qae]
    dsimp only
    rw[n1,qae,qa2 (qbt (by simp only[List.length_append,List.length_cons,List.length_nil]; omega)),qae]
    dsimp only
    rw[qae]
    dsimp only
    rw[this,cond_true,qa2 (qbt (by simp only[List.length_append,List.length_cons,List.length_nil]; omega)),qae]
    dsimp only
    rw[n2,qae,qa2 (qbt (by simp only[List.length_append,List.length_cons,List.length_nil]; omega)),hseek _ (by simp only[List.length_append,List.length_cons,List.length_nil]; omega)];simp only[List.append_assoc]
  have hk7:∀ w:List UInt8,(s1≠2->w=q4t s1)->qnz n l (k:Int) t nx w=nx (t++(q4t s1++[32]++q4w s2++(if s3≠s2 then[32,116,111,32]++q4w s3 else[])++sk.flatMap qyy++[10]),((k+1:Nat):Int)):=by
   intro w hw;unfold qnz
   dsimp only
   rw[qaj hx,qae]
   dsimp only
   by_cases h2:s1=2
   ·subst h2
    rw[show((2:Int)==2)=true from rfl,cond_true];exact hk8
   ·rw[beq_eq_false_iff_ne.2 h2,cond_false,hw h2]
    exact hk8
  unfold qn1
  dsimp only
  rw[qdo,qa6 hk,cond_true,qaj hx,qae]
  dsimp only
  by_cases h1:s1=1
  ·subst h1
   rw[show((1:Int)==1)=true from rfl,cond_true];exact hk7 _ (fun _=>rfl)
  ·rw[beq_eq_false_iff_ne.2 h1,cond_false]
   exact hk7 _ (fun h2=>by unfold q4t; rw[if_neg h1,if_neg h2])) (fun nx t ht=>by
  unfold qn1
  dsimp only
  rw[qdo,qar,cond_false]) hl [] (by simpa using hM)
 simpa using this
end
end W
end
section
open Go Ax
namespace W
theorem ztu {m:Nat} (h:m<10):dgB m≠10:=fun e=>by
 have:=zg7 h;rw[e]at this;have e2:(10:UInt8).toNat=10:=rfl;omega
theorem zoc:∀ (m:Nat),(10:UInt8) ∉ zk3 m:=by
 intro m
 induction m using Nat.strongRecOn with
 | ind m ih=>
  by_cases h:m<10
  ·rw[qxr h]
   intro hm;exact ztu h (List.mem_singleton.1 hm).symm
  ·rw[q9y h]
   intro hm;rcases List.mem_append.1 hm with hm|hm
   ·exact ih (m / 10) (Nat.div_lt_self (by omega) (by decide)) hm
   ·exact ztu (Nat.mod_lt _ (by decide)) (List.mem_singleton.1 hm).symm
theorem zfv (i:Int):(10:UInt8) ∉ q4w i:=by
 unfold q4w;split
 ·intro hm
  rcases List.mem_cons.1 hm with hm|hm
  ·cases hm
  ·exact zoc _ hm
 ·exact zoc _
theorem zo2:∀ x:Fin 16,zuv x.val≠10:=by decide
theorem zuu (c:UInt8):(10:UInt8) ∉ zc2 c:=by
 have hc:=c.toNat_lt;unfold zc2;intro hm;simp only[List.mem_cons,List.not_mem_nil,or_false]at hm;rcases hm with hm|hm
 ·exact zo2 ⟨c.toNat / 16,by omega⟩ hm.symm
 ·exact zo2 ⟨c.toNat % 16,by omega⟩ hm.symm
theorem qto {m:Nat} (h1:128<=m) (h2:m<256):(10:UInt8)≠UInt8.ofNat m:=fun e=>by
 have:=congrArg UInt8.toNat e;rw[UInt8.toNat_ofNat']at this;have e2:(10:UInt8).toNat=10:=rfl;omega
theorem zxz {c:UInt8} (h:c.toNat≠10):(10:UInt8)≠c:=fun e=>h (by rw[← e]; rfl)
theorem zp9 (s:List UInt8):(10:UInt8) ∉ zdc s:=by
 cases s with
 | nil=>simp[zdc]
 | cons c t=>
  have hh:=zuu c;have hcl:=c.toNat_lt;have hcode:(10:UInt8) ∉ (92::120::zc2 c):=fun hm=>by
   simp only[List.mem_cons]at hm;rcases hm with hm|hm|hm
   ·cases hm
   ·cases hm
   ·exact hh hm
  rw[qx5];split
  ·exact hcode
  ·rename_i h0
   split
   ·rename_i h39
    intro hm;simp only[List.mem_cons,List.not_mem_nil,or_false]at hm;rcases hm with hm|hm
    ·cases hm
    ·exact zxz (by omega) hm
   ·split
    ·decide
    ·rename_i h10
     split
     ·decide
     ·split
      ·decide
      ·split
       ·exact hcode
       ·simp only[not_or]at h0
        by_cases h128:c.toNat<128
        ·rw[q4l h128]
         intro hm;exact zxz h10 (List.mem_singleton.1 hm)
        ·by_cases h1:qmj (c::t)=1
         ·rw[h1]
          intro hm;exact zxz h10 (List.mem_singleton.1 hm)
         ·obtain⟨k,hk⟩:∃ k,qmj (c::t)=k+2:=⟨qmj (c::t) - 2,by omega⟩
          obtain⟨r,hr,hr128,hrm,hc194,hcase⟩:=zk2 hk;rw[hk];intro hm;rcases hcase with ⟨rfl,hr1,hb⟩|⟨rfl,hr1,hr2,hr3,hb,_⟩|⟨rfl,hr1,hb⟩
          ·rw[show(c::t).take (0+2)=_ from hb]at hm
           simp only[List.mem_cons,List.not_mem_nil,or_false]at hm;rcases hm with hm|hm
           ·exact qto (by omega) (by omega) hm
           ·exact qto (by omega) (by omega) hm
          ·rw[show(c::t).take (1+2)=_ from hb]at hm
           simp only[List.mem_cons,List.not_mem_nil,or_false]at hm;rcases hm with hm|hm|hm
           ·exact qto (by omega) (by omega) hm
           ·exact qto (by omega) (by omega) hm
           ·exact qto (by omega) (by omega) hm
          ·rw[show(c::t).take (2+2)=_ from hb]at hm
           simp only[List.mem_cons,List.not_mem_nil,or_false]at hm;rcases hm with hm|hm|hm|hm
           ·exact qto (by omega) (by omega) hm
           ·exact qto (by omega) (by omega) hm
           ·exact qto (by omega) (by omega) hm
           ·exact qto (by omega) (by omega) hm
theorem zh9:∀ (g:Nat) (s:List UInt8),(10:UInt8) ∉ qrc g s
 | 0,s=>by simp[qrc]
 | g+1,[]=>by simp[qrc]
 | g+1,c::t=>by
  simp only[qrc];intro hm;rcases List.mem_append.1 hm with hm|hm
  ·exact zp9 _ hm
  ·exact zh9 g _ hm
theorem zt7 (s:List UInt8):(10:UInt8) ∉ kyS s:=by
 unfold kyS;cases hp:qdi s with
 | false=>
  rw[cond_false];unfold q6n;intro hm;simp only[List.mem_cons,List.mem_append,List.not_mem_nil,or_false]at hm;rcases hm with hm|hm|hm
  ·cases hm
  ·exact zh9 _ _ hm
  ·cases hm
 | true=>
  rw[cond_true];unfold qdi at hp;rw[Bool.and_eq_true]at hp;have hn:=hp.1;intro hm;cases s with
  | nil=>cases hm
  | cons b l=>
   unfold q1n at hn;simp only[Bool.and_eq_true,List.all_eq_true]at hn;have hbad:∀ c:UInt8,c=10->(zac c||zfb c)=false:=by rintro c rfl; decide
   rcases List.mem_cons.1 hm with rfl|hm
   ·have h1:zac 10=false:=by decide
    simp[h1]at hn
   ·have h2:(zac 10||zfb 10)=false:=by decide
    have h3:(zac 10||zfb 10)=true:=by
     first
      | exact hn.2 10 hm
      | exact hn.1.2 10 hm
      | exact hn.2.2 10 hm
      | exact hn.1 10 hm
    rw[h2]at h3;cases h3
theorem zti (k:Int):(10:UInt8) ∉ q4t k:=by unfold q4t; split<;>(try split)<;>decide
theorem zs9 (x:qda):(10:UInt8) ∉ qyy x:=by
 have h1:=zfv x.clause;have h2:=zfv x.path;have h3:=zt7 x.label;have h4:=zt7 x.key;unfold qyy;simp only[List.mem_append,h1,h2,h3,h4,or_false]
 decide
theorem zsa (s:qao):(10:UInt8) ∉ zjn s:=by
 have h1:=zfv s.from_;have h2:=zfv s.to;have h3:=zti s.kind;unfold zjn;split
 ·simp only[List.mem_append,h1,h2,h3,or_false,false_or]
  decide
 ·simp only[List.mem_append,h1,h3,or_false,false_or]
  decide
theorem zj7 (s:qao):(q23 s).count 10=1:=by
 unfold q23;rw[List.count_append,List.count_append,List.count_eq_zero.2 (zsa s),List.count_eq_zero.2 (fun hm=>by
  obtain⟨x,_,hx⟩:=List.mem_flatMap.1 hm;exact zs9 x hx)]
 rfl
theorem zad:∀ l:List qao,(l.flatMap q23).count 10=l.length
 | []=>rfl
 | s::l=>by
  simp only[List.flatMap_cons,List.count_append,zj7,zad l,List.length_cons];omega
theorem zsj {n:Nat} (hn:n<=1073741824) {t:List UInt8} (h:t.length<n):qul n t=some ((t.count 10:Nat):Int):=by
 unfold qul;have main:∀ (suf:List UInt8) (k m c:Nat),(∀ j,suf[j]? =t[k+j]?)->k+suf.length=t.length->suf.length<m->c<=k->qam (ql5 n t) m ((c:Int),(k:Int))=some ((c+suf.count 10:Nat):Int):=by
  intro suf
  induction suf with
  | nil=>
   intro k m c hs hk hm hc;obtain⟨m,rfl⟩:=Nat.exists_eq_succ_of_ne_zero (by omega:m≠0);have:k=t.length:=by simpa using hk
   subst this;rw[qa3];simp only[ql5,qar,cond_false];rfl
  | cons b suf ih=>
   intro k m c hs hk hm hc;obtain⟨m,rfl⟩:=Nat.exists_eq_succ_of_ne_zero (by omega:m≠0);have hb:t[k]? =some b:=by have:=hs 0; simpa using this.symm
   have hkl:=qbm hb;have hnext:=fun c' hc'=>ih (k+1) m c' (fun j=>by have:=hs (j+1); rw[show k+1+j=k+(j+1) by omega]; simpa using this) (by simp at hk; omega) (by simp at hm; omega) hc'
   rw[qa3];simp only[ql5,qa6 hkl,cond_true,qaj hb,qae,qo0];have hk1:IntKind.i64.wrap ((k:Int)+1)=((k+1:Nat):Int):=qb7 (by omega);have hc1:IntKind.i64.wrap ((c:Int)+1)=((c+1:Nat):Int):=qb7 (by omega);rw[List.count_cons];by_cases h10:b=10
   ·subst h10
    rw[show((((10:UInt8).toNat:Nat):Int)==10)=true from rfl,cond_true,hk1,hc1,hnext (c+1) (by omega)];simp only[beq_self_eq_true,if_true];congr 1;omega
   ·have h1:(((b.toNat:Nat):Int)==10)=false:=by
     rw[beq_eq_false_iff_ne];intro e;exact h10 (UInt8.toNat_inj.1 (by show b.toNat=10; omega))
    rw[h1,cond_false,hk1,hnext c (by omega),beq_eq_false_iff_ne.2 h10];simp
 have:=main t 0 n 0 (by simp) (by simp) h (by omega);simpa using this
theorem zpo {n:Nat} (hn:n<=1073741824) (h:33554432<n) {l:List qao} (hl:(l.map qw2).sum<=1048576):qql n l=some true:=by
 have hlen:=qbj qw2 (fun s=>by unfold qw2; omega) l
 have hin:∀ s∈l,StageIn s/\s.seeks.length<n:=fun s hs=>by
  have h1:=qbu qw2 hs;refine⟨zvu (by omega),?_⟩;have h2:=qbj q26 (fun x=>by unfold q26; omega) s.seeks
  have h3:(s.seeks.map q26).sum<=qw2 s:=by unfold qw2; omega
  omega
 have hM:=zae l (fun s hs=>(hin s hs).1);unfold qql;rw[zh5 hn (by omega) (by omega) (by omega) hin (by omega),zlu hn (by omega) (by omega) (by omega) hin (by omega),qae,qae];rw[beq_self_eq_true,Bool.not_true,cond_false,zsj hn (by omega),qae,zad,qdo,beq_self_eq_true,qc3,qyd (by omega),qae];rfl
end W
end
