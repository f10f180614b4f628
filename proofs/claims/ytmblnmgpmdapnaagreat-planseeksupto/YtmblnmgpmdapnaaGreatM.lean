/- A part of the proof: the plain law. -/
import Derived.Test.YtmblnmgpmdapnaaGreatRows
import Derived.Test.YtmblnmgpmdapnaaGreatShelf
import Derived.Deep.DeepHandedRow
import Derived.ChangeMaps5
import Derived.LaidLaws
import Derived.OpenShut
import Derived.Test.YtmblnmgpmdapnaaGreatB
import Derived.Test.YtmblnmgpmdapnaaGreatL
set_option linter.unusedVariables false
set_option linter.unusedSimpArgs false
set_option linter.unnecessarySimpa false
set_option linter.deprecated false
set_option linter.unusedSectionVars false
set_option linter.constructorNameAsVariable false
section
open Go Ax
namespace W
def wr (k:Int):Bool:=bif decide (k≥4)then decide (k<=8)else false
theorem zjk (n:Nat) (k:Int):qip n k=some (wr k):=by
 unfold qip wr;congr 1;by_cases h4:k=4; · subst h4; rfl
 by_cases h5:k=5; · subst h5; rfl
 by_cases h6:k=6; · subst h6; rfl
 by_cases h7:k=7; · subst h7; rfl
 by_cases h8:k=8; · subst h8; rfl
 rw[beq_eq_false_iff_ne.2 h4,beq_eq_false_iff_ne.2 h5,beq_eq_false_iff_ne.2 h6,beq_eq_false_iff_ne.2 h7,beq_eq_false_iff_ne.2 h8];by_cases h:k≥4
 ·rw[decide_eq_true h,decide_eq_false (by omega)]; rfl
 ·rw[decide_eq_false h]; rfl
def zl7 (cl:List qab):Bool:=match cl.getLast? with|some c=>(c.kind==9)||wr c.kind|none=>false
def zqb (cl:List qab):Bool:=(decide (0<cl.length)&&decide (cl.length<=64))&&zl7 cl
def qto (n:Nat):List qab->Bool
 | []=>true
 | c::l=>(zqt n c&&!((c.kind==9)&&!l.isEmpty))&&qto n l
def q8u (n:Nat) (cl:List qab):Bool:=zqb cl&&qto n cl
theorem zqu {n:Nat} {cl:List qab} (h:q8u n cl=true):0<cl.length/\cl.length<=64:=by
 unfold q8u zqb at h;simp only[Bool.and_eq_true,decide_eq_true_eq]at h;exact h.1.1
theorem zhk:∀ (ok e a nine lt r:Bool),(bif bif bif !ok then true else e then true else bif nine then lt else false then some false else bif a then some r else some false)=some (((ok&&!e&&a)&&!(nine&&lt))&&r):=by
 intro ok e a nine lt r;cases ok<;>cases e<;>cases a<;>cases nine<;>cases lt<;>cases r<;>rfl
theorem zk4 {cl:List qab} {k:Nat}:decide ((((k+1:Nat):Int))<((cl.length:Nat):Int))=!(cl.drop (k+1)).isEmpty:=by
 rw[Bool.eq_iff_iff,decide_eq_true_eq,Bool.not_eq_true',List.isEmpty_eq_false_iff,ne_eq,List.drop_eq_nil_iff];omega
section
variable {n:Nat} (hn:n<=1073741824) {cl:List qab} (h:42+qcn cl<n) (hM:∀ c∈cl,LenOk c)
include hn h hM
theorem zjq:∀ m k:Nat,k<=cl.length->cl.length - k<m->qan (qfs n cl) m (k:Int)=some (qto n (cl.drop k)):=by
 have hlen:=qbi qde qkx cl;unfold qcn at h;intro m
 induction m with
 | zero=>intro k _ h; omega
 | succ m ih=>
  intro k hk hm;rw[qbg];by_cases he:k=cl.length
  ·subst he
   rw[List.drop_length];simp only[qfs,qbt,qas,cond_false];rfl
  ·have hkl:k<cl.length:=by omega
   have hx:=List.getElem?_eq_getElem hkl;rw[List.drop_eq_getElem_cons hkl];generalize cl[k]=x at hx;have hb:=qb6 qde (qbk hx);obtain⟨_,_,gl,ok,ho,hg5,hgp,hval⟩:=q31 hn (c:=x) (by omega) (hM _ (qbk hx));have hgl:=zgt hn hgp (by omega) (qan (qfs n cl) m) (k:=k) (by omega);rw[ih (k+1) (by omega) (by omega)]at hgl;have hd:=zk4 (cl:=cl) (k:=k);unfold qto;rw[← hval];clear hval;obtain⟨x1,x2,x3,⟨x4,x5,⟨x6,x7,x8,x9,x10,x11⟩,x12,x13⟩,x14,x15,x16,x17,x18,x19,x20,x21,x22⟩:=x;simp only[qfs,qbt,qa7 hkl,cond_true,qal hx,qah,ho,qwl,hgl];rw[qcg (by omega),hd];exact zhk _ _ _ _ _ _
theorem zqv (nx:Int->Option Bool):qma n cl nx ((cl.length:Nat):Int)=some (zqb cl):=by
 have hlen:=qbi qde qkx cl;unfold qcn at h;simp only[qma,qbt,qas,cond_false,zjk];by_cases h0:cl=[]
 ·subst h0; rfl
 ·obtain⟨l,c,rfl⟩:∃ l c,cl=l++[c]:=⟨cl.dropLast,cl.getLast h0,(List.dropLast_concat_getLast h0).symm⟩
  have e1:IntKind.i64.wrap ((((l++[c]).length:Nat):Int) - 1)=((l.length:Nat):Int):=by
   rw[q1t (by omega) (by omega)]; simp
  have e2:(l++[c])[l.length]? =some c:=by simp
  have e3:zl7 (l++[c])=((c.kind==9)||wr c.kind):=by unfold zl7; simp
  rw[e1,qal e2];unfold zqb;rw[e3];have e4:decide ((((l++[c]).length:Nat):Int)>0)=true:=decide_eq_true (by simp only[List.length_append,List.length_cons,List.length_nil]; omega);have e5:decide (0<(l++[c]).length)=true:=decide_eq_true (by simp);have e6:decide ((((l++[c]).length:Nat):Int)<=64)=decide ((l++[c]).length<=64):=by
   rw[Bool.eq_iff_iff]; simp only[decide_eq_true_eq]; omega
  rw[e4,e5,e6,cond_true];generalize decide ((l++[c]).length<=64)=d;clear e1 e2 e3 e4 e5 e6 h hM hlen h0;obtain⟨x1,x2,x3,⟨x4,x5,⟨x6,x7,x8,x9,x10,x11⟩,x12,x13⟩,x14,x15,x16,x17,x18,x19,x20,x21,x22⟩:=c;cases d with
  | false=>rfl
  | true=>
   simp only[qd6,qah,Bool.true_and];cases hk:(x1==9)with
   | true=>rfl
   | false=>
    simp only[Bool.not_false,qd6,qah];rfl
theorem zok:∀ m k:Nat,k<=cl.length->cl.length - k<m->qan (qma n cl) m (k:Int)=bif qto n (cl.drop k)then some (zqb cl)else some false:=by
 have hlen:=qbi qde qkx cl;have hend:=zqv hn h hM;unfold qcn at h;intro m
 induction m with
 | zero=>intro k _ h; omega
 | succ m ih=>
  intro k hk hm;rw[qbg];by_cases he:k=cl.length
  ·subst he
   rw[List.drop_length,hend];rfl
  ·have hkl:k<cl.length:=by omega
   have hx:=List.getElem?_eq_getElem hkl;rw[List.drop_eq_getElem_cons hkl];generalize cl[k]=x at hx;have hb:=qb6 qde (qbk hx);obtain⟨hmay,_⟩:=q31 hn (c:=x) (by omega) (hM _ (qbk hx));have hd:=zk4 (cl:=cl) (k:=k);have ih':=ih (k+1) (by omega) (by omega);unfold qto;obtain⟨x1,x2,x3,⟨x4,x5,⟨x6,x7,x8,x9,x10,x11⟩,x12,x13⟩,x14,x15,x16,x17,x18,x19,x20,x21,x22⟩:=x;simp only[qma,qbt,qa7 hkl,cond_true,qal hx,qah,hmay];rw[qcg (by omega),hd,ih'];cases zqt n _ with
   | false=>rfl
   | true=>
    simp only[Bool.not_true,Bool.not_false,qd6,qah,cond_false];cases(x1==9)<;>cases(cl.drop (k+1)).isEmpty<;>rfl
theorem zmg:qps n ⟨cl⟩=some (q8u n cl):=by
 have hlen:=qbi qde qkx cl;have e:=zok hn h hM n 0 (by omega) (by unfold qcn at h; omega);unfold qps q8u;refine Eq.trans e ?_;rw[List.drop_zero];cases qto n cl<;>cases zqb cl<;>rfl
theorem zfr:qne n ⟨cl⟩=some (q8u n cl):=by
 have hlen:=qbi qde qkx cl;have e:=zjq hn h hM n 0 (by omega) (by unfold qcn at h; omega);rw[List.drop_zero]at e;unfold qne q8u;unfold qcn at h;simp only[qbt,qq7];by_cases h0:cl=[]
 ·subst h0; rfl
 ·obtain⟨l,c,rfl⟩:∃ l c,cl=l++[c]:=⟨cl.dropLast,cl.getLast h0,(List.dropLast_concat_getLast h0).symm⟩
  have e1:IntKind.i64.wrap ((((l++[c]).length:Nat):Int) - 1)=((l.length:Nat):Int):=by
   rw[q1t (by omega) (by omega)]; simp
  have e2:(l++[c])[l.length]? =some c:=by simp
  have e3:zl7 (l++[c])=((c.kind==9)||wr c.kind):=by unfold zl7; simp
  rw[e1,qal e2];unfold zqb;rw[e3];have e4:decide ((((l++[c]).length:Nat):Int)<1)=false:=decide_eq_false (by simp only[List.length_append,List.length_cons,List.length_nil]; omega);have e5:decide (0<(l++[c]).length)=true:=decide_eq_true (by simp);have e6:decide ((((l++[c]).length:Nat):Int)>64)=!decide ((l++[c]).length<=64):=by
   rw[Bool.eq_iff_iff]; simp only[decide_eq_true_eq,Bool.not_eq_true',decide_eq_false_iff_not]; omega
  rw[e4,e5,e6,cond_false];have e':qan (qfs n (l++[c])) n 0=some (qto n (l++[c])):=e;rw[e'];generalize qto n (l++[c])=g;generalize decide ((l++[c]).length<=64)=d;clear e1 e2 e3 e4 e5 e6 h hM hlen h0 e e';obtain⟨x1,x2,x3,⟨x4,x5,⟨x6,x7,x8,x9,x10,x11⟩,x12,x13⟩,x14,x15,x16,x17,x18,x19,x20,x21,x22⟩:=c;cases d with
  | false=>rfl
  | true=>
   simp only[Bool.not_true,Bool.not_false,qd6,qah,Bool.true_and];unfold wr;cases(bif decide (x1≥4)then decide (x1<=8)else false)with
   | true=>cases(x1==9)<;>cases g<;>rfl
   | false=>
    simp only[Bool.not_false,qd6,qah];unfold bne;cases(x1==9)<;>cases g<;>rfl
theorem q8d:q8u n cl=true->∀ c∈cl,WfC c:=by
 unfold qcn at h;intro hm;unfold q8u at hm;rw[Bool.and_eq_true]at hm;have key:∀ l:List qab,(∀ c∈l,c∈cl)->qto n l=true->∀ c∈l,WfC c:=by
  intro l
  induction l with
  | nil=>intro _ _ c hc; cases hc
  | cons a l ih=>
   intro hs hg c hc;simp only[qto,Bool.and_eq_true]at hg;have hb:=qb6 qde (hs a (by simp));rcases List.mem_cons.1 hc with rfl|hc
   ·exact((q31 hn (c:=c) (by omega) (hM _ (hs c (by simp)))).2.1 hg.1.1).1
   ·exact ih (fun c hc=>hs c (by simp[hc])) hg.2 c hc
 exact key cl (fun c hc=>hc) hm.2
end
end W
end
section
open Go Ax
namespace W
theorem qre {R:Type} {B:(Int×Int->Option R)->Int×Int->Option R} {len:Nat} (K:Int->Option R) (hs:∀ k:Nat,k<len->∀ (acc:Int) (nx:Int×Int->Option R),B nx (acc,(k:Int))=K acc\/∃ acc',B nx (acc,(k:Int))=nx (acc',((k+1:Nat):Int)))
  (he:∀ (acc:Int) (nx:Int×Int->Option R),B nx (acc,(len:Int))=K acc) {n:Nat} (hn:len<n) (acc:Int):∃ acc',qan B n (acc,(0:Int))=K acc':=by
 have key:∀ (m k:Nat) (acc:Int),k<=len->len - k<m->∃ acc',qan B m (acc,(k:Int))=K acc':=by
  intro m
  induction m with
  | zero=>intro k _ _ h; omega
  | succ m ih=>
   intro k acc hk hm;rw[qbg];by_cases h:k=len
   ·subst h; exact⟨_,he _ _⟩
   ·rcases hs k (by omega) acc (qan B m)with h|⟨acc',h⟩
    ·exact⟨_,h⟩
    ·rw[h]; exact ih (k+1) acc' (by omega) (by omega)
 exact key n 0 acc (by omega) (by omega)
theorem zmq:∀ n:Nat,n<=1073741824->∀ v:Val,zah v<n->∃ r,ql5 n v=some r:=by
 intro n
 induction n with
 | zero=>intro _ v h; omega
 | succ n ih=>
  intro hn v hv;obtain⟨x1,x2,x3,x4,x5,x6⟩:=v;have hl:=qqi x5;simp only[zah]at hv;simp only[ql5,qtx];obtain⟨a,h⟩:=qre (B:=qk9 n x5 (ql5 n)) (len:=x5.length) some
   (fun k hk acc nx=>by
    have hx:=List.getElem?_eq_getElem hk;generalize x5[k]=y at hx;obtain⟨r,hr⟩:=ih (by omega) y (by have:=qyx (qbk hx); omega);obtain⟨y1,y2,y3,y4,y5,y6⟩:=y
    right
    simp only[qk9,qfm,qa7 hk,cond_true,qal hx,qah,hr];rw[qcg (by omega)];exact⟨_,rfl⟩)
   (fun acc nx=>by simp only[qk9,qfm,qas,cond_false]) (n:=n) (by omega) 1
  exact⟨_,h⟩
theorem qyy:∀ n:Nat,n<=1073741824->∀ x:qaa,qki x<n->∀ m:Int,∃ r,qgz n x m=some r:=by
 intro n
 induction n with
 | zero=>intro _ v h; omega
 | succ n ih=>
  intro hn x hx m;obtain⟨x1,x2,⟨x3,x4,x5,x6,x7,x8⟩,x9,x10⟩:=x;have hl:=qdx x10;simp only[qki]at hx;obtain⟨p,hp⟩:=zmq n (by omega) ⟨x3,x4,x5,x6,x7,x8⟩ (by omega);simp only[qgz,qty,hp,qah];obtain⟨a,h⟩:=qre (B:=qlh n x10 m (qgz n)) (len:=x10.length) some
   (fun k hk acc nx=>by
    have hx:=List.getElem?_eq_getElem hk;generalize x10[k]=y at hx;simp only[qlh,qaq,qa7 hk,cond_true];by_cases hc:acc<m
    ·obtain⟨r,hr⟩:=ih (by omega) y (by have:=qha (qbk hx); omega) (IntKind.i64.wrap (m - acc))
     obtain⟨y1,y2,⟨y3,y4,y5,y6,y7,y8⟩,y9,y10⟩:=y
     right
     simp only[decide_eq_true hc,cond_true,qal hx,qah,hr];rw[qcg (by omega)];exact⟨_,rfl⟩
    ·left; rw[decide_eq_false hc]; rfl)
   (fun acc nx=>by simp only[qlh,qaq,qas,cond_false]) (n:=n) (by omega) _
  exact⟨_,h⟩
theorem qrx {n:Nat} (hn:n<=1073741824) {l:List qaa} (h:qf1 l<n) (m:Int):∃ r,qgb n l m=some r:=by
 have hl:=qdx l;unfold qgb;exact qre (B:=qhp n l m) (len:=l.length) some
  (fun k hk acc nx=>by
   have hx:=List.getElem?_eq_getElem hk;generalize l[k]=y at hx;simp only[qhp,qaq,qa7 hk,cond_true];by_cases hc:acc<m
   ·obtain⟨r,hr⟩:=qyy n hn y (by have:=qha (qbk hx); omega) (IntKind.i64.wrap (m - acc))
    obtain⟨y1,y2,⟨y3,y4,y5,y6,y7,y8⟩,y9,y10⟩:=y
    right
    simp only[decide_eq_true hc,cond_true,qal hx,qah,hr];rw[qcg (by omega)];exact⟨_,rfl⟩
   ·left; rw[decide_eq_false hc]; rfl)
  (fun acc nx=>by simp only[qhp,qaq,qas,cond_false]) (n:=n) (by omega) 0
theorem q8c {n:Nat} (hn:n<=1073741824) {cl:List qab} (h:qcn cl<n):∃ r,qoy n ⟨cl⟩=some r:=by
 have hlen:=qbi qde qkx cl;unfold qcn at h;unfold qoy;obtain⟨a,e⟩:=qre (B:=qlc n cl) (len:=cl.length) (fun acc=>some (decide (acc≥3000)))
  (fun k hk acc nx=>by
   have hx:=List.getElem?_eq_getElem hk;generalize cl[k]=c at hx;have hb:qde c<n:=by have:=qb6 qde (qbk hx); omega
   simp only[qlc,qbt,qa7 hk,cond_true];by_cases hc:acc<3000
   ·right
    have hp:=qbi qjt (fun p=>by unfold qjt; omega) c.paths
    have hi:=qbi qsb (fun p=>by unfold qsb; omega) c.items
    have ho:=qbi qhy (fun p=>by unfold qhy; omega) c.order
    have hs:=qbi qib (fun p=>by unfold qib; omega) c.sets
    have mp:∀ p∈c.paths,qjt p<n:=fun p hm=>by have:=qb6 qjt hm; unfold qde qwo at hb; omega
    have mi:∀ p∈c.items,qki p.e<n:=fun p hm=>by have:=qb6 qsb hm; have e:qsb p=1+p.as_.length+qki p.e:=rfl; unfold qde at hb; omega
    have mo:∀ p∈c.order,qki p.e<n:=fun p hm=>by have:=qb6 qhy hm; have e:qhy p=1+qki p.e:=rfl; unfold qde at hb; omega
    have ms:∀ p∈c.sets,qki p.e<n:=fun p hm=>by have:=qb6 qib hm; have e:qib p=1+p.var_.length+p.key.length+p.label.length+qki p.e:=rfl; unfold qde at hb; omega
    obtain⟨r1,h1⟩:=qyy n hn c.e (by unfold qde at hb; omega) 3000;obtain⟨r2,h2⟩:=qrx hn (l:=c.where_) (by unfold qde at hb; omega) 3000;obtain⟨r3,h3⟩:=qrx hn (l:=c.skip) (by unfold qde at hb; omega) 3000;obtain⟨r4,h4⟩:=qrx hn (l:=c.limit) (by unfold qde at hb; omega) 3000;unfold qde qwo at hb;obtain⟨x1,x5,x6,⟨x7,x8,⟨x9,x10,x11,x12,x13,x14⟩,x15,x16⟩,x17,x18,x19,x20,x21,x22,x23,x24,x25⟩:=c;simp only at hp hi ho hs mp mi mo ms h1 h2 h3 h4 hb;simp only[decide_eq_true hc,cond_true,qal hx,qah,h1,h2,h3,h4];have L7:∀ acc:Int,∃ acc',qan (qhg n x23 nx (k:Int)) n (acc,(0:Int))=nx (acc',((k+1:Nat):Int)):=fun acc=>qre (B:=qhg n x23 nx (k:Int)) (len:=x23.length) (fun acc=>nx (acc,((k+1:Nat):Int)))
     (fun j hj acc nx2=>by
      have hy:=List.getElem?_eq_getElem hj;generalize x23[j]=y at hy;simp only[qhg,qaf.rows,List.length_map,qa7 hj,cond_true];by_cases hc:acc<3000
      ·obtain⟨r,hr⟩:=qyy n hn y.e (ms y (qbk hy)) 3000
       obtain⟨z1,z2,z3,⟨y1,y2,⟨y3,y4,y5,y6,y7,y8⟩,y9,y10⟩⟩:=y;simp only at hr
       right
       simp only[decide_eq_true hc,cond_true,qal hy,qah,hr];rw[qcg (k:=j) (by omega)];exact⟨_,rfl⟩
      ·left; rw[decide_eq_false hc,cond_false,qcg (by omega)])
     (fun acc nx2=>by
      simp only[qhg,qaf.rows,List.length_map,qas,cond_false];rw[qcg (by omega)]) (n:=n) (by omega) acc
    have L6:∀ acc:Int,∃ acc',qan (qhf n x20 x23 nx (k:Int)) n (acc,(0:Int))=nx (acc',((k+1:Nat):Int)):=fun acc=>by
     obtain⟨a,ha⟩:=qre (B:=qhf n x20 x23 nx (k:Int)) (len:=x20.length) (fun acc=>qan (qhg n x23 nx (k:Int)) n (acc,(0:Int)))
      (fun j hj acc nx2=>by
       have hy:=List.getElem?_eq_getElem hj;generalize x20[j]=y at hy;simp only[qhf,qar.rows,List.length_map,qa7 hj,cond_true];by_cases hc:acc<3000
       ·obtain⟨r,hr⟩:=qyy n hn y.e (mo y (qbk hy)) 3000
        obtain⟨⟨y1,y2,⟨y3,y4,y5,y6,y7,y8⟩,y9,y10⟩,z1⟩:=y;simp only at hr
        right
        simp only[decide_eq_true hc,cond_true,qal hy,qah,hr];rw[qcg (k:=j) (by omega)];exact⟨_,rfl⟩
       ·left; rw[decide_eq_false hc,cond_false])
      (fun acc nx2=>by simp only[qhf,qar.rows,List.length_map,qas,cond_false]) (n:=n) (by omega) acc
     rw[ha]; exact L7 a
    have L5:∀ acc:Int,∃ acc',qan (qhe n x18 x20 x23 nx (k:Int)) n (acc,(0:Int))=nx (acc',((k+1:Nat):Int)):=fun acc=>by
     obtain⟨a,ha⟩:=qre (B:=qhe n x18 x20 x23 nx (k:Int)) (len:=x18.length) (fun acc=>qan (qhf n x20 x23 nx (k:Int)) n (acc,(0:Int)))
      (fun j hj acc nx2=>by
       have hy:=List.getElem?_eq_getElem hj;generalize x18[j]=y at hy;simp only[qhe,qbj.rows,List.length_map,qa7 hj,cond_true];by_cases hc:acc<3000
       ·obtain⟨r,hr⟩:=qyy n hn y.e (mi y (qbk hy)) 3000
        obtain⟨⟨y1,y2,⟨y3,y4,y5,y6,y7,y8⟩,y9,y10⟩,z1⟩:=y;simp only at hr
        right
        simp only[decide_eq_true hc,cond_true,qal hy,qah,hr];rw[qcg (k:=j) (by omega)];exact⟨_,rfl⟩
       ·left; rw[decide_eq_false hc,cond_false])
      (fun acc nx2=>by simp only[qhe,qbj.rows,List.length_map,qas,cond_false]) (n:=n) (by omega) acc
     rw[ha]; exact L6 a
    have L2:∀ acc:Int,∃ acc',qan (qje n x5 x18 x20 x23 nx (k:Int)) n (acc,(0:Int))=nx (acc',((k+1:Nat):Int)):=fun acc=>by
     obtain⟨a,ha⟩:=qre (B:=qje n x5 x18 x20 x23 nx (k:Int)) (len:=x5.length) (fun acc=>qan (qhe n x18 x20 x23 nx (k:Int)) n (acc,(0:Int)))
      (fun j hj acc nx2=>by
       have hy:=List.getElem?_eq_getElem hj;generalize x5[j]=p at hy;have hpb:=mp p (qbk hy);simp only[qje,qck,qa7 hj,cond_true];by_cases hc:acc<3000
       ·right
        rw[decide_eq_true hc,cond_true];obtain⟨nodes,edges⟩:=p;unfold qjt at hpb;simp only at hpb;have hn1:=qbi qia (fun p=>by unfold qia; omega) nodes
        have hn2:=qbi qmt (fun p=>by unfold qmt; omega) edges
        obtain⟨b,hb3⟩:=qre (B:=qld n x5 (j:Int) nx2) (len:=nodes.length) (fun acc=>qan (qjf n x5 (j:Int) nx2) n (acc,(0:Int)))
         (fun i hi acc nx3=>by
          have hz:=List.getElem?_eq_getElem hi;generalize nodes[i]=d at hz;have hdb:qia d<n:=by have:=qb6 qia (qbk hz); omega
          simp only[qld,qal hy,qah,qc1,qa7 hi,cond_true];by_cases hc:acc<3000
          ·obtain⟨r,hr⟩:=qrx hn (l:=d.vals) (by unfold qia at hdb; omega) 3000
           obtain⟨d1,d2,d3,d4⟩:=d;simp only at hr
           right
           simp only[decide_eq_true hc,cond_true,qal hz,qah,hr];rw[qcg (k:=i) (by omega)];exact⟨_,rfl⟩
          ·left; rw[decide_eq_false hc,cond_false])
         (fun acc nx3=>by simp only[qld,qal hy,qah,qc1,qas,cond_false]) (n:=n) (by omega) acc
        rw[hb3];exact qre (B:=qjf n x5 (j:Int) nx2) (len:=edges.length) (fun acc=>nx2 (acc,((j+1:Nat):Int)))
         (fun i hi acc nx3=>by
          have hz:=List.getElem?_eq_getElem hi;generalize edges[i]=d at hz;have hdb:qmt d<n:=by have:=qb6 qmt (qbk hz); omega
          simp only[qjf,qal hy,qah,qfv,qa7 hi,cond_true];by_cases hc:acc<3000
          ·obtain⟨r,hr⟩:=qrx hn (l:=d.vals) (by unfold qmt at hdb; omega) 3000
           obtain⟨d1,d2,d3,d4,d5⟩:=d;simp only at hr
           right
           simp only[decide_eq_true hc,cond_true,qal hz,qah,hr];rw[qcg (k:=i) (by omega)];exact⟨_,rfl⟩
          ·left; rw[decide_eq_false hc,cond_false,qcg (by omega)])
         (fun acc nx3=>by
          simp only[qjf,qal hy,qah,qfv,qas,cond_false];rw[qcg (by omega)]) (n:=n) (by omega) b
       ·left; rw[decide_eq_false hc,cond_false])
      (fun acc nx2=>by simp only[qje,qck,qas,cond_false]) (n:=n) (by omega) acc
     rw[ha]; exact L5 a
    exact L2 _
   ·left; rw[decide_eq_false hc]; rfl)
  (fun acc nx=>by simp only[qlc,qbt,qas,cond_false]) (n:=n) (by omega) 0
 exact⟨_,e⟩
end W
end
section
open Go Ax
namespace W
theorem zh7:∀ (l:List qab) (t v:Env),EnvOk t->(∀ c∈l,WfC c)->qfj qqa t l=.inr v->EnvOk v/\v.length<=t.length+2 * (l.map qde).sum
 | [],t,v,ht,_,e=>by cases e; exact⟨ht,by omega⟩
 | c::l,t,v,ht,hw,e=>by
  simp only[qfj,qqa]at e;by_cases h0:(qf9 t c).1=0
  ·rw[if_neg (by simpa using h0)]at e
   have h1:=zar ht (hw c (by simp)) h0;have h2:=zh7 l _ v h1.1 (fun c hc=>hw c (by simp[hc])) e
   simp only[List.map_cons,List.sum_cons];exact⟨h2.1,by omega⟩
  ·rw[if_pos h0]at e; cases e
theorem zo8 (cl:List qab) (m:Nat):((cl.take m).map qde).sum<=(cl.map qde).sum:=by
 have h0:cl.take m++cl.drop m=cl:=List.take_append_drop m cl;have:((cl.take m++cl.drop m).map qde).sum=((cl.take m).map qde).sum+((cl.drop m).map qde).sum:=by rw[List.map_append,List.sum_append]
 rw[h0]at this;omega
theorem zfg {may:Bool} {cl:List qab} (hw:may=true->∀ c∈cl,WfC c) (at_:Int):(qh9 may cl at_).1.length<=2 * qcn cl/\(qh9 may cl at_).2.1.length<=2 * qcn cl:=by
 unfold qh9 qcn;split
 ·simp
 ·rename_i hc
  simp only[not_or,Bool.not_eq_false]at hc;have ht:=zo8 cl at_.toNat;cases hf:qfj qqa [] (cl.take at_.toNat)with
  | inl e=>simp
  | inr v=>
   have:=(zh7 _ _ v zad (fun c hc'=>hw hc.1 c (List.mem_of_mem_take hc')) hf).2
   simp only[List.length_map,List.length_nil]at this ⊢;omega
section
variable {n:Nat} (hn:n<=1073741824) {cl:List qab} (h:8 * qcn cl+400<n) (hM:∀ c∈cl,LenOk c)
include hn h hM
theorem q4c (at_:Int):qiv n ⟨cl⟩ at_=some (qh9 (q8u n cl) cl at_)/\qh2 n ⟨cl⟩ at_=some (qh9 (q8u n cl) cl at_):=
 ⟨q49 hn (zfr hn (by omega) hM) (q8d hn (by omega) hM) (by omega) at_,q9a hn (zmg hn (by omega) hM) (q8d hn (by omega) hM) (by omega) at_⟩
def qrs (may:Bool) (cl:List qab):List (List UInt8)×Int:=
 let r:=qh9 may cl cl.length
 if r.2.2=0/\(∃ c,cl.getLast? =some c/\c.kind=9)then(r.1,0)else([],r.2.2)
omit hn h hM in
theorem zi6 {may:Bool} (hl:may=true->cl≠[]) (hsz:cl.length<=1073741824):(bnd (some (qh9 may cl cl.length)) fun⟨x2,x3,x4⟩=>
  bnd (qaw (!(x4 != (0:Int))) (idx cl (IntKind.i64.wrap (((cl.length:Nat):Int) - (1:Int))))) fun⟨x5,x6,x7,⟨x8,x9,⟨x10,x11,x12,x13,x14,x15⟩,x16,x17⟩,x18,x19,x20,x21,x22,x23,x24,x25,x26⟩=>
  bif(bif(x4 != (0:Int))then true else(x5 != (9:Int)))then(some (([]:List (List UInt8)),x4))else(some (x2,(0:Int))))=some (qrs may cl):=by
 unfold qrs;cases hr:qh9 may cl cl.length with
 | mk a be=>
  obtain⟨b,e⟩:=be;simp only[qah];by_cases he:e=0
  ·subst he
   have hc:cl≠[]:=by
    intro h0;apply hl _ h0;cases may with
    | true=>rfl
    | false=>
     unfold qh9 at hr;rw[if_pos (.inl rfl)]at hr;cases hr
   obtain⟨l,c,rfl⟩:∃ l c,cl=l++[c]:=⟨cl.dropLast,cl.getLast hc,(List.dropLast_concat_getLast hc).symm⟩;have e1:IntKind.i64.wrap ((((l++[c]).length:Nat):Int) - 1)=((l.length:Nat):Int):=by
    rw[q1t (by omega) (by omega)]; simp
   have e2:(l++[c])[l.length]? =some c:=by simp
   have e3:(l++[c]).getLast? =some c:=by simp
   rw[e1,show(!((0:Int) != 0))=true from rfl,qd6,qal e2,qah,e3];clear hr e1 e2 e3 hl hsz hc;obtain⟨x1,x2,x3,⟨x4,x5,⟨x6,x7,x8,x9,x10,x11⟩,x12,x13⟩,x14,x15,x16,x17,x18,x19,x20,x21,x22⟩:=c;by_cases h9:x1=9
   ·subst h9
    rw[if_pos ⟨rfl,_,rfl,rfl⟩];rfl
   ·rw[if_neg (by rintro⟨_,c,hc,hk⟩; cases hc; exact h9 hk)]
    show(bif(bif((0:Int) != 0)then true else(x1 != 9))then _ else _)=_;rw[show(x1 != 9)=true from by simpa using h9];rfl
  ·rw[if_neg (by rintro⟨h0,_⟩; exact he h0)]
   have:(e != 0)=true:=by simpa using he
   rw[this];rfl
theorem zi5:qp1 n ⟨cl⟩=some (qrs (q8u n cl) cl)/\q0s n ⟨cl⟩=some (qrs (q8u n cl) cl):=by
 have hlen:=qbi qde qkx cl;have hl:q8u n cl=true->cl≠[]:=fun hm h0=>by have:=(zqu hm).1; rw[h0]at this; simp at this
 have hc:=zi6 hl (by unfold qcn at h; omega);obtain⟨n1,n2⟩:=q4c hn h hM cl.length;refine⟨?_,?_⟩
 ·unfold qp1
  simp only[qbt,n1];exact hc
 ·unfold q0s
  simp only[qbt,n2];exact hc
end
end W
end
section
open Go Ax
namespace W
def qym (c:qab):Int:=
 if c.kind=1\/c.kind=2 then 1
 else if c.kind≠3/\c.kind≠9 then 3
 else if c.unique=true\/c.order≠[]\/c.skip≠[]\/c.limit≠[]then 2
 else if(c.items.any fun i=>match i.e with|.mk op _ _ _ _=>op==14)=true then 2 else 1
theorem qy3 {A:Type} (p:A->Bool) {R:Type} (r:R):∀ l:List A,qew (fun x=>bif p x then some r else none) l=(bif l.any p then some r else none)
 | []=>rfl
 | x::l=>by
  simp only[qew,List.any_cons];cases p x with
  | true=>rfl
  | false=>simpa using qy3 p r l
theorem qqd (l:List qbj):(qbj.rows l).length=l.length:=by simp[qbj.rows]
theorem q20 (l:List qar):(qar.rows l).length=l.length:=by simp[qar.rows]
theorem q2h (l:List qaa):(qaa.rows l).length=l.length:=by rw[qaa.rows_eq]; simp
def zhz (i:qbj):Bool:=match i.e with|.mk op _ _ _ _=>op==14
theorem zbz {n:Nat} (hn:n<=1073741824) {c:qab} (h:c.items.length<n):q3k n c=some (qym c):=by
 obtain⟨x1,x2,x3,⟨x4,x5,⟨x6,x7,x8,x9,x10,x11⟩,x12,x13⟩,x14,x15,x16,x17,x18,x19,x20,x21,x22⟩:=c;simp only at h;unfold q3k qym;simp only[qqd,q20,q2h];by_cases h1:x1=1\/x1=2
 ·have:(bif x1==(1:Int)then true else x1==2)=true:=by rcases h1 with rfl|rfl<;>rfl
  rw[this,cond_true,if_pos h1]
 ·have h2:(bif x1==(1:Int)then true else x1==2)=false:=by
   simp only[not_or]at h1;rw[beq_eq_false_iff_ne.2 h1.1,beq_eq_false_iff_ne.2 h1.2]; rfl
  rw[h2,cond_false,if_neg h1];by_cases h3:x1≠3/\x1≠9
  ·have:(bif x1 != (3:Int)then x1 != 9 else false)=true:=by
    rw[bne_iff_ne.2 h3.1,bne_iff_ne.2 h3.2]; rfl
   rw[this,cond_true,if_pos h3]
  ·have h4:(bif x1 != (3:Int)then x1 != 9 else false)=false:=by
    by_cases h5:x1=3
    ·subst h5; rfl
    ·by_cases h6:x1=9
     ·subst h6; rfl
     ·exact absurd ⟨h5,h6⟩ h3
   rw[h4,cond_false,if_neg h3];have hz:∀ {A:Type} (l:List A),decide (((l.length:Nat):Int)>0)=!decide (l=[]):=by
    intro A l;cases l with
    | nil=>rfl
    | cons a l=>rw[decide_eq_true (by simp only[List.length_cons]; omega),decide_eq_false (by simp)]; rfl
   simp only[hz];by_cases h5:x16=true\/x17≠[]\/x18≠[]\/x19≠[]
   ·have:(bif bif bif x16 then true else !decide (x17=[])then true else !decide (x18=[])then true else !decide (x19=[]))=true:=by
     rcases h5 with rfl|h5|h5|h5
     ·rfl
     ·rw[decide_eq_false h5]; cases x16<;>rfl
     ·rw[decide_eq_false h5]; cases x16<;>cases decide (x17=[])<;>rfl
     ·rw[decide_eq_false h5]; cases x16<;>cases decide (x17=[])<;>cases decide (x18=[])<;>rfl
    rw[this,cond_true,if_pos h5]
   ·simp only[not_or,Bool.not_eq_true,ne_eq,Decidable.not_not]at h5
    obtain⟨rfl,rfl,rfl,rfl⟩:=h5;rw[if_neg (by simp)];refine(qcy (B:=qsi n x15) (fun k=>((k:Nat):Int)) (l:=x15) (fun i=>bif zhz i then some (2:Int)else none) (rest:=some 1) (fun k x nx hx=>?_) (fun nx=>by simp only[qsi,qqd,qas,cond_false]) (n:=n) h).trans ?_
    ·have hk:=qb0 hx
     obtain⟨⟨y1,y2,⟨y3,y4,y5,y6,y7,y8⟩,y9,y10⟩,y11⟩:=x;simp only[qsi,qqd,qa7 hk,cond_true,qal hx,qah,zhz];rw[qcg (by omega)];cases y1==14<;>rfl
    ·rw[qy3]
     show _=some (if(x15.any zhz)=true then(2:Int)else 1);cases x15.any zhz<;>rfl
theorem q6y {n:Nat} (hn:n<=1073741824) {c:qab} (h:c.items.length<n) (hs:c.order.length+c.skip.length+c.limit.length<=1073741824):qrk n c=some (qym c - 1):=by
 obtain⟨x1,x2,x3,⟨x4,x5,⟨x6,x7,x8,x9,x10,x11⟩,x12,x13⟩,x14,x15,x16,x17,x18,x19,x20,x21,x22⟩:=c;simp only at h hs;have hidx:qbb n x15=some (x15.any zhz):=by
  unfold qbb qb3;have key:∃ r:Int,qan (qau n x15) n (0:Int)=some r/\decide (r≥0)=x15.any zhz:=by
   have main:∀ m k:Nat,k<=x15.length->x15.length - k<m->∃ r:Int,qan (qau n x15) m (k:Int)=some r/\decide (r≥0)=(x15.drop k).any zhz:=by
    intro m
    induction m with
    | zero=>intro k _ h; omega
    | succ m ih=>
     intro k hk hm;rw[qbg];by_cases he:k=x15.length
     ·subst he
      refine⟨-1,by simp only[qau,qqd,qas,cond_false],?_⟩;rw[List.drop_length]; rfl
     ·have h1:k<x15.length:=by omega
      have hx:=List.getElem?_eq_getElem h1;rw[List.drop_eq_getElem_cons h1];generalize x15[k]=x at hx ⊢;obtain⟨r,hr1,hr2⟩:=ih (k+1) (by omega) (by omega);obtain⟨⟨y1,y2,⟨y3,y4,y5,y6,y7,y8⟩,y9,y10⟩,y11⟩:=x;simp only[qau,qp0,qqd,qa7 h1,cond_true,qal hx,qah,List.any_cons,zhz];rw[qcg (by omega)];cases y1==14 with
      | true=>exact⟨k,rfl,by simp⟩
      | false=>exact⟨r,hr1,by simpa using hr2⟩
   obtain⟨r,h1,h2⟩:=main n 0 (by omega) (by omega);exact⟨r,h1,by simpa using h2⟩
  obtain⟨r,h1,h2⟩:=key;rw[h1,qah,h2]
 have hsum:decide (IntKind.i64.wrap (IntKind.i64.wrap (((x17.length:Nat):Int)+((x18.length:Nat):Int))+((x19.length:Nat):Int))>0)=!(decide (x17=[])&&decide (x18=[])&&decide (x19=[])):=by
  rw[q1t (i:=((x17.length:Nat):Int)+((x18.length:Nat):Int)) (by omega) (by omega),q1t (by omega) (by omega)];cases x17 with
  | cons a l=>rw[decide_eq_true (by simp only[List.length_cons]; omega),decide_eq_false (by simp)]; rfl
  | nil=>
   cases x18 with
   | cons a l=>rw[decide_eq_true (by simp only[List.length_cons]; omega),decide_eq_false (p:=a::l=[]) (by simp)]; rfl
   | nil=>
    cases x19 with
    | cons a l=>rw[decide_eq_true (by simp only[List.length_cons]; omega),decide_eq_false (p:=a::l=[]) (by simp)]; rfl
    | nil=>rfl
 unfold qrk qym;simp only[qmi,hidx,qah,q20,q2h,hsum,qk5,qmh];by_cases h3:x1=3\/x1=9
 ·have e1:¬ (x1=1\/x1=2):=by omega
  have e2:¬ (x1≠3/\x1≠9):=by omega
  rw[if_neg e1,if_neg e2];have hcase:(bif bif bif x15.any zhz then true else x16 then true else !(decide (x17=[])&&decide (x18=[])&&decide (x19=[]))then some (1:Int)else some 0) =
    some ((if x16=true\/x17≠[]\/x18≠[]\/x19≠[]then 2 else if(x15.any fun i=>match i.e with|.mk op _ _ _ _=>op==14)=true then 2 else 1) - 1):=by
   show _=some ((if x16=true\/x17≠[]\/x18≠[]\/x19≠[]then 2 else if(x15.any zhz)=true then 2 else 1) - 1);cases x15.any zhz<;>cases x16<;>by_cases a:x17=[]<;>by_cases b:x18=[]<;>by_cases d:x19=[]<;>simp[a,b,d]
  rcases h3 with rfl|rfl
  ·exact hcase
  ·exact hcase
 ·simp only[not_or]at h3
  rw[beq_eq_false_iff_ne.2 h3.1,beq_eq_false_iff_ne.2 h3.2];simp only[cond_false];by_cases h1:x1=1
  ·subst h1; rfl
  ·by_cases h2:x1=2
   ·subst h2; rfl
   ·rw[beq_eq_false_iff_ne.2 h1,beq_eq_false_iff_ne.2 h2,if_neg (by omega),if_pos ⟨h3.1,h3.2⟩]
    rfl
end W
end
section
open Go Ax
namespace W
def q1s (p:qa6):List (List UInt8):=p.nodes.map qae.var_
def zde (b:List (List UInt8)) (d:qae):Bool:=!decide (d.labels=[])&&!decide (d.keys=[])&&!(!(d.var_==[])&&b.any (· == d.var_))
def q8n (b:List (List UInt8)) (at_ i:Int) (p:qa6):List qep:=
 match p.nodes with
 | []=>[]
 | d::_=>bif zde b d then[⟨at_,i,d.labels.headD [],d.keys.headD []⟩]else[]
def qtw (at_:Int):List (List UInt8)->Nat->List qa6->List qep
 | _,_,[]=>[]
 | b,i,p::ps=>q8n b at_ (i:Int) p++qtw at_ (b++q1s p) (i+1) ps
theorem zfv (b:List (List UInt8)) (at_ i:Int) (p:qa6):(q8n b at_ i p).length<=1:=by
 unfold q8n;split
 ·simp
 ·cases zde b _<;>simp
theorem zfw (at_:Int):∀ (ps:List qa6) (b:List (List UInt8)) (i:Nat),(qtw at_ b i ps).length<=ps.length
 | [],_,_=>by simp[qtw]
 | p::ps,b,i=>by
  have h1:=zfv b at_ (i:Int) p;have h2:=zfw at_ ps (b++q1s p) (i+1);simp only[qtw,List.length_append,List.length_cons];omega
theorem qzf {n:Nat} (hn:n<=1073741824) {l:List (List UInt8)} {v:List UInt8} (h:l.length<n):qdh n l v=some (l.any (· == v)):=by
 unfold qdh qfa;have main:∀ m k:Nat,k<=l.length->l.length - k<m->∃ r:Int,qan (qch n l v) m (k:Int)=some r/\decide (r≥0)=(l.drop k).any (· == v):=by
  intro m
  induction m with
  | zero=>intro k _ h; omega
  | succ m ih=>
   intro k hk hm;rw[qbg];by_cases he:k=l.length
   ·subst he
    refine⟨-1,by simp only[qch,qaz,qas,cond_false],?_⟩;rw[List.drop_length]; rfl
   ·have h1:k<l.length:=by omega
    have hx:=List.getElem?_eq_getElem h1;rw[List.drop_eq_getElem_cons h1];generalize l[k]=x at hx ⊢;obtain⟨r,hr1,hr2⟩:=ih (k+1) (by omega) (by omega);simp only[qch,qaz,qa7 h1,cond_true,qal hx,qah,List.any_cons];rw[qcg (by omega)];by_cases hv:v=x
    ·subst hv
     exact⟨k,by simp,by simp⟩
    ·rw[beq_eq_false_iff_ne.2 hv,beq_eq_false_iff_ne.2 (fun e=>hv e.symm)]
     exact⟨r,hr1,by simpa using hr2⟩
 obtain⟨r,h1,h2⟩:=main n 0 (by omega) (by omega);have h1:qan (qch n l v) n (0:Int)=some r:=h1;rw[h1,qah,h2];simp
theorem zes {A C R:Type} (g:A->C):∀ (l:List A) (b:List C),qfj (R:=R) (fun t d=>.inr (t++[g d])) b l=.inr (b++l.map g)
 | [],b=>by simp[qfj]
 | x::l,b=>by
  simp only[qfj];rw[zes g l (b++[g x])];simp
theorem zlq {A:Type} [Inhabited A] (g:Bool) (a:A):qaw g (some a)=some (if g=true then a else default):=by cases g<;>rfl
theorem zqm {A:Type} (l:List A):decide (((l.length:Nat):Int)>0)=!decide (l=[]):=by
 cases l with
 | nil=>rfl
 | cons a l=>rw[decide_eq_true (by simp only[List.length_cons]; omega),decide_eq_false (by simp)]; rfl
theorem zoh {A:Type} (l:List A):((((l.length:Nat):Int))==0)=decide (l=[]):=by
 cases l with
 | nil=>rfl
 | cons a l=>rw[decide_eq_false (by simp)]; rw[beq_eq_false_iff_ne]; simp only[List.length_cons]; omega
@[simp] theorem qgn (l:List qep):(qep.rows l).length=l.length:=by simp[qep.rows]
@[simp] theorem qfl (l:List qa1):(qa1.rows l).length=l.length:=by simp[qa1.rows]
theorem zjs {n:Nat} (hn:n<=1073741824) {ps:List qa6} (at_:Int) (hw:∀ p∈ps,p.nodes≠[]) (hp:ps.length<n) (hb:∀ p∈ps,p.nodes.length<n):∀ (suf:List qa6) (k m:Nat) (acc:List qep) (b:List (List UInt8)),
  (∀ j,suf[j]? =ps[k+j]?)->k+suf.length=ps.length->suf.length<m->acc.length<=k->b.length+(suf.map fun p=>p.nodes.length).sum<n ->
  qan (qed n ps at_) m (acc,b,(k:Int))=some (acc++qtw at_ b k suf):=by
 intro suf
 induction suf with
 | nil=>
  intro k m acc b hs hk hm ha hB;obtain⟨m,rfl⟩:=Nat.exists_eq_succ_of_ne_zero (by omega:m≠0);have:k=ps.length:=by simpa using hk
  subst this;rw[qbg];simp only[qed,qck,qas,cond_false,qtw,List.append_nil]
 | cons p suf ih=>
  intro k m acc b hs hk hm ha hB;obtain⟨m,rfl⟩:=Nat.exists_eq_succ_of_ne_zero (by omega:m≠0);have hx:ps[k]? =some p:=by have:=hs 0; simpa using this.symm
  have hkl:=qb0 hx;have hpm:=qbk hx;have hne:=hw p hpm;have hpn:=hb p hpm;simp only[List.map_cons,List.sum_cons]at hB;rw[qbg];obtain⟨nodes,edges⟩:=p;simp only at hne hpn hB;have hk3:∀ acc',qkb n nodes (qan (qed n ps at_) m) (k:Int) b acc'=qan (qed n ps at_) m (acc',b++nodes.map qae.var_,((k+1:Nat):Int)):=by
   intro acc';unfold qkb;refine(qmv (B:=qkc n nodes (qan (qed n ps at_) m) acc' (k:Int)) (fun j t=>(t,(j:Int))) (fun j t=>t.length=b.length+j) (l:=nodes) (R:=List qep) (fun t d=>.inr (t++[d.var_])) (rest:=fun t=>qan (qed n ps at_) m (acc',t,((k+1:Nat):Int)))
    (fun j d t nx hd ht=>?_) (fun j d t t' hd ht e=>?_) (fun t nx ht=>?_) hpn (t0:=b) (by simp)).trans ?_
   ·have hj:=qb0 hd
    obtain⟨y1,y2,y3,y4⟩:=d;simp only[qkc,qc1,qa7 hj,cond_true,qal hd,qah,qaz];rw[qd5 (decide_eq_true (by rw[List.length_append]; simp only[List.length_cons,List.length_nil]; omega)),qcg (by omega)];rfl
   ·cases e; simp[ht]; omega
   ·simp only[qkc,qc1,qas,cond_false]
    rw[qcg (by omega)]
   ·rw[zes qae.var_ nodes b]; rfl
  have hstep:∀ acc',acc'.length<=k+1->qan (qed n ps at_) m (acc',b++nodes.map qae.var_,((k+1:Nat):Int))=some (acc'++qtw at_ (b++nodes.map qae.var_) (k+1) suf):=fun acc' ha'=>
   ih (k+1) m acc' _ (fun j=>by have:=hs (j+1); rw[show k+1+j=k+(j+1) by omega]; simpa using this) (by simp at hk; omega) (by simp at hm; omega) ha' (by rw[List.length_append,List.length_map]; omega)
  cases nodes with
  | nil=>exact absurd rfl hne
  | cons d ds=>
   have hi0:idx (d::ds) (0:Int)=some d:=qal (i:=0) rfl;simp only[qed,qck,qa7 hkl,cond_true,qal hx,qah,hi0,qaz,zqm];obtain⟨v,ls,ks,xs⟩:=d;rw[qzf hn (by simp only[List.length_cons]at hB; omega),zlq,qah];simp only[qtw,q8n,zde,q1s];cases ls with
   | nil=>
    simp only[decide_true,Bool.not_true,cond_false,Bool.false_and,List.nil_append];rw[hk3,hstep acc (by omega)]
   | cons a ls=>
    cases ks with
    | nil=>
     simp only[decide_true,Bool.not_true,cond_false,Bool.false_and,Bool.and_false,List.nil_append];have:decide ((a::ls)=[])=false:=by simp
     rw[this];simp only[Bool.not_false,cond_true,cond_false];rw[hk3,hstep acc (by omega)]
    | cons c ks=>
     have e1:decide ((a::ls)=[])=false:=by simp
     have e2:decide ((c::ks)=[])=false:=by simp
     have ia:idx (a::ls) (0:Int)=some a:=qal (i:=0) rfl;have ic:idx (c::ks) (0:Int)=some c:=qal (i:=0) rfl;rw[e1,e2];simp only[Bool.not_false,cond_true,Bool.true_and,ia,ic,qah,List.headD_cons];cases hv:(v==[])with
     | true=>
      simp only[Bool.not_true,Bool.false_and,Bool.not_false,cond_false,cond_true];rw[qd5 (decide_eq_true (by rw[qgn,List.length_append]; simp only[List.length_cons,List.length_nil]; omega)),hk3,hstep _ (by simp; omega),List.append_assoc]
     | false=>
      simp only[Bool.not_false,Bool.true_and,cond_true,if_true];cases b.any (· == v)with
      | true=>
       simp only[Bool.not_true,cond_false,List.nil_append];rw[hk3,hstep acc (by omega)]
      | false=>
       simp only[Bool.not_false,cond_true];rw[qd5 (decide_eq_true (by rw[qgn,List.length_append]; simp only[List.length_cons,List.length_nil]; omega)),hk3,hstep _ (by simp; omega),List.append_assoc]
theorem q60 {n:Nat} (hn:n<=1073741824) {c:qab} (at_:Int) {names:List (List UInt8)} (hw:c.kind=1->∀ p∈c.paths,p.nodes≠[]) (hp:c.paths.length<n) (hb:∀ p∈c.paths,p.nodes.length<n)
  (hB:names.length+(c.paths.map fun p=>p.nodes.length).sum<n):qmj n c at_ names=some (if c.kind=1 then qtw at_ names 0 c.paths else[]):=by
 obtain⟨x1,x2,x3,⟨x4,x5,⟨x6,x7,x8,x9,x10,x11⟩,x12,x13⟩,x14,x15,x16,x17,x18,x19,x20,x21,x22⟩:=c;unfold qmj;simp only at hw hp hb hB ⊢;by_cases h1:x1=1
 ·subst h1
  rw[if_pos rfl,show((1:Int) != 1)=false from rfl,cond_false,qaz,qd5 (decide_eq_true (by omega))];have:=zjs hn at_ (hw rfl) hp hb x2 0 n [] names (by simp) (by simp) hp (by simp) hB;simpa using this
 ·rw[if_neg h1,show(x1 != 1)=true from bne_iff_ne.2 h1,cond_true]
end W
end
section
open Go Ax
namespace W
def zeh (names:List (List UInt8)) (l:List qa6) (v:List UInt8):Bool:=names.any (· == v)||l.any fun p=>p.nodes.any fun d=>d.var_==v
theorem zks (names:List (List UInt8)) (l:List qa6) (v:List UInt8):(names++l.flatMap q1s).any (· == v)=zeh names l v:=by
 unfold zeh;rw[List.any_append,List.any_flatMap];congr 2;funext p;simp[q1s,List.any_map,Function.comp_def]
theorem qyr {R:Type} (b:Bool) (r:R) (o:Option R):orE (bif b then some r else none) o=bif b then some r else o:=by cases b<;>rfl
theorem q9e {n:Nat} (hn:n<=1073741824) {c:qab} {k:Nat} (hk:k<=c.paths.length) (hp:c.paths.length<n) (hb:∀ p∈c.paths,p.nodes.length<n) {names:List (List UInt8)} (hl:names.length<n) (v:List UInt8) :
  q0u n c (k:Int) names v=some (zeh names (c.paths.take k) v):=by
 obtain⟨x1,x2,x3,⟨x4,x5,⟨x6,x7,x8,x9,x10,x11⟩,x12,x13⟩,x14,x15,x16,x17,x18,x19,x20,x21,x22⟩:=c;simp only at hk hp hb;unfold q0u;have inner:∀ (i:Nat) (p:qa6) (nx2:Int->Option Bool),x2[i]? =some p->qan (qn9 n x2 (i:Int) v nx2) n (0:Int)=bif(p.nodes.any fun d=>d.var_==v)then some true else nx2 ((i+1:Nat):Int):=by
  intro i p nx2 hi;have hpn:=hb p (qbk hi);have hil:=qb0 hi;refine(qcy (B:=qn9 n x2 (i:Int) v nx2) (fun j=>((j:Nat):Int)) (l:=p.nodes) (fun d=>bif d.var_==v then some true else none) (rest:=nx2 ((i+1:Nat):Int)) (fun j d nx hd=>?_) (fun nx=>?_) (n:=n) hpn).trans ?_
  ·have hj:=qb0 hd
   obtain⟨nodes,edges⟩:=p;obtain⟨y1,y2,y3,y4⟩:=d;simp only[qn9,qal hi,qah,qc1];simp only at hj hd hpn;rw[qa7 hj,cond_true,qal hd,qah,qcg (by omega),qyr]
  ·obtain⟨nodes,edges⟩:=p
   simp only[qn9,qal hi,qah,qc1,qas,cond_false];rw[qcg (by omega)]
  ·rw[qy3,qyr]
 have mid:qan (qn8 n (k:Int) x2 v) n (0:Int)=some ((x2.take k).any fun p=>p.nodes.any fun d=>d.var_==v):=by
  have hlen:(x2.take k).length=k:=by rw[List.length_take]; omega
  refine(qcy (B:=qn8 n (k:Int) x2 v) (fun j=>((j:Nat):Int)) (l:=x2.take k) (fun p=>bif(p.nodes.any fun d=>d.var_==v)then some true else none) (rest:=some false) (fun j p nx hj=>?_) (fun nx=>?_) (n:=n) (by omega)).trans ?_
  ·have hjk:=qb0 hj
   rw[hlen]at hjk;have hj2:x2[j]? =some p:=by rw[List.getElem?_take,if_pos hjk]at hj; exact hj
   simp only[qn8,qa7 hjk,cond_true];rw[inner j p nx hj2,qyr]
  ·rw[hlen]
   simp only[qn8,qas,cond_false]
  ·rw[qy3,qyr]
   cases(x2.take k).any fun p=>p.nodes.any fun d=>d.var_==v<;>rfl
 refine(qcy (B:=qq5 n names v (k:Int) x2) (fun j=>((j:Nat):Int)) (l:=names) (fun x=>bif x==v then some true else none) (rest:=some ((x2.take k).any fun p=>p.nodes.any fun d=>d.var_==v)) (fun j x nx hj=>?_) (fun nx=>?_) (n:=n) hl).trans ?_
 ·have hjl:=qb0 hj
  simp only[qq5,qaz,qa7 hjl,cond_true,qal hj,qah];rw[qcg (by omega),qyr]
 ·simp only[qq5,qaz,qas,cond_false]
  exact mid
 ·rw[qy3,qyr]
  unfold zeh;cases names.any (· == v)<;>rfl
theorem q9d {n:Nat} (hn:n<=1073741824) {cl:List qab} {i:Nat} {c:qab} (hc:cl[i]? =some c) {nm:List (List UInt8)×List Int×Int} (hN:qh2 n ⟨cl⟩ (i:Int)=some nm)
  (hw:c.kind=1->∀ p∈c.paths,p.nodes≠[]) (hp:c.paths.length<n) (hb:∀ p∈c.paths,p.nodes.length<n) (hB:nm.1.length<n) :
  qtg n ⟨cl⟩ (i:Int)=some (if c.kind=1 then qtw (i:Int) nm.1 0 c.paths else[]):=by
 obtain⟨names,ks,e⟩:=nm;obtain⟨x1,x2,x3,⟨x4,x5,⟨x6,x7,x8,x9,x10,x11⟩,x12,x13⟩,x14,x15,x16,x17,x18,x19,x20,x21,x22⟩:=c;unfold qtg;simp only[qal hc,qah,hN];simp only at hw hp hb hB;have hbd:=fun(k:Nat) (hk:k<=x2.length) (v:List UInt8)=>q9e hn (c:=⟨x1,x2,x3,⟨x4,x5,⟨x6,x7,x8,x9,x10,x11⟩,x12,x13⟩,x14,x15,x16,x17,x18,x19,x20,x21,x22⟩) hk hp hb hB v;by_cases h1:x1=1
 ·subst h1
  rw[if_pos rfl];have main:∀ (suf:List qa6) (k m:Nat) (acc:List qep),(∀ j,suf[j]? =x2[k+j]?)->k+suf.length=x2.length->suf.length<m->acc.length<=k ->
    qan (qlm n x2 1 x3 x4 x5 x6 x7 x8 x9 x10 x11 x12 x13 x14 x15 x16 x17 x18 x19 x20 x21 x22 names (i:Int)) m (acc,(k:Int))=some (acc++qtw (i:Int) (names++(x2.take k).flatMap q1s) k suf):=by
   intro suf
   induction suf with
   | nil=>
    intro k m acc hs hk hm ha;obtain⟨m,rfl⟩:=Nat.exists_eq_succ_of_ne_zero (by omega:m≠0);have:k=x2.length:=by simpa using hk
    subst this;rw[qbg];simp only[qlm,qck,qas,cond_false,qtw,List.append_nil]
   | cons p suf ih=>
    intro k m acc hs hk hm ha;obtain⟨m,rfl⟩:=Nat.exists_eq_succ_of_ne_zero (by omega:m≠0);have hx:x2[k]? =some p:=by have:=hs 0; simpa using this.symm
    have hkl:=qb0 hx;have hne:=hw rfl p (qbk hx);have htake:names++(x2.take (k+1)).flatMap q1s=(names++(x2.take k).flatMap q1s)++q1s p:=by
     rw[List.take_succ,hx]; simp
    have hstep:∀ acc',acc'.length<=k+1->qan (qlm n x2 1 x3 x4 x5 x6 x7 x8 x9 x10 x11 x12 x13 x14 x15 x16 x17 x18 x19 x20 x21 x22 names (i:Int)) m (acc',((k+1:Nat):Int))=some (acc'++qtw (i:Int) ((names++(x2.take k).flatMap q1s)++q1s p) (k+1) suf):=fun acc' ha'=>by
     rw[← htake];exact ih (k+1) m acc' (fun j=>by have:=hs (j+1); rw[show k+1+j=k+(j+1) by omega]; simpa using this) (by simp at hk; omega) (by simp at hm; omega) ha'
    rw[qbg];obtain⟨nodes,edges⟩:=p;cases nodes with
    | nil=>exact absurd rfl hne
    | cons d ds=>
     have hi0:idx (d::ds) (0:Int)=some d:=qal (i:=0) rfl;simp only[qlm,qck,qa7 hkl,cond_true,qal hx,qah,hi0,qaz,zoh,quu,beq_self_eq_true];rw[hbd k (by omega) d.var_,zlq,qah,qcg (by omega)];simp only[qtw,q8n,zde,zks];obtain⟨v,ls,ks,xs⟩:=d;cases ls with
     | nil=>
      simp only[decide_true,Bool.not_true,cond_false,cond_true,Bool.false_and,List.nil_append];rw[hstep acc (by omega)]
     | cons a ls=>
      have e1:decide ((a::ls)=[])=false:=by simp
      cases ks with
      | nil=>
       rw[e1];simp only[decide_true,Bool.not_true,Bool.not_false,cond_false,cond_true,Bool.false_and,Bool.and_false,List.nil_append];rw[hstep acc (by omega)]
      | cons c ks=>
       have e2:decide ((c::ks)=[])=false:=by simp
       have ia:idx (a::ls) (0:Int)=some a:=qal (i:=0) rfl;have ic:idx (c::ks) (0:Int)=some c:=qal (i:=0) rfl;rw[e1,e2];simp only[Bool.not_false,cond_true,cond_false,Bool.true_and,ia,ic,qah,List.headD_cons];cases hv:(v==[])with
       | true=>
        simp only[Bool.not_true,Bool.false_and,Bool.not_false,cond_false,cond_true];rw[qd5 (decide_eq_true (by rw[qgn,List.length_append]; simp only[List.length_cons,List.length_nil]; omega)),hstep _ (by simp; omega),List.append_assoc]
       | false=>
        simp only[Bool.not_false,Bool.true_and,cond_true,if_true];cases zeh names (x2.take k) v with
        | true=>
         simp only[Bool.not_true,cond_true,cond_false,List.nil_append];rw[hstep acc (by omega)]
        | false=>
         simp only[Bool.not_false,cond_true,cond_false];rw[qd5 (decide_eq_true (by rw[qgn,List.length_append]; simp only[List.length_cons,List.length_nil]; omega)),hstep _ (by simp; omega),List.append_assoc]
  have:=main x2 0 n [] (by simp) (by simp) hp (by simp);simpa using this
 ·rw[if_neg h1]
  obtain⟨m,rfl⟩:=Nat.exists_eq_succ_of_ne_zero (by omega:n≠0);rw[qbg];simp only[qlm,qck];have:(bif decide ((0:Int)<((x2.length:Nat):Int))then x1==(1:Int)else false)=false:=by
   rw[beq_eq_false_iff_ne.2 h1]; cases decide ((0:Int)<((x2.length:Nat):Int))<;>rfl
  rw[this,cond_false]
end W
end
section
open Go Ax
namespace W
def zkc (out:List qa1):List qep:=match out.getLast? with|some s=>s.seeks|none=>[]
def zne (out:List qa1) (k i:Int) (sk:List qep):List qa1:=
 match out.getLast? with
 | some s=>bif(k==1)&&(s.kind==1)then out.dropLast++[⟨s.kind,s.from_,i,s.seeks++sk⟩]else out++[⟨k,i,i,sk⟩]
 | none=>[⟨k,i,i,sk⟩]
theorem qy9 (k i:Int) (sk:List qep):zne [] k i sk=[⟨k,i,i,sk⟩]:=rfl
theorem qvs (l:List qa1) (s:qa1) (k i:Int) (sk:List qep):zne (l++[s]) k i sk=bif(k==1)&&(s.kind==1)then l++[⟨s.kind,s.from_,i,s.seeks++sk⟩]else(l++[s])++[⟨k,i,i,sk⟩]:=by
 unfold zne;rw[List.getLast?_concat];simp only[List.dropLast_concat]
theorem qk8 (l:List qa1) (s:qa1):zkc (l++[s])=s.seeks:=by unfold zkc; rw[List.getLast?_concat]
theorem qqy (out:List qa1):out=[]\/∃ l s,out=l++[s]:=by
 by_cases h:out=[]
 ·exact .inl h
 ·exact .inr ⟨out.dropLast,out.getLast h,(List.dropLast_concat_getLast h).symm⟩
theorem qso {A:Type} (l:List A) (s:A):(l++[s])[l.length]? =some s:=by simp
theorem q6e {A:Type} (l:List A) (s t:A):(l++[s]).set l.length t=l++[t]:=by
 induction l with
 | nil=>rfl
 | cons a l ih=>simp[ih]
theorem q8g {l:List qa1} {s:qa1} (h:l.length<=1073741824):qxb (IntKind.i64.wrap ((((l++[s]).length:Nat):Int) - 1))=some l.length:=by
 rw[q1t (by omega) (by simp only[List.length_append,List.length_cons,List.length_nil]; omega)];rw[show(((l++[s]).length:Nat):Int) - 1=((l.length:Nat):Int)from by simp];exact q2v _
theorem zaz (c:qab):qym c=1\/qym c=2\/qym c=3:=by
 unfold qym;split
 ·exact .inl rfl
 ·split
  ·exact .inr (.inr rfl)
  ·split
   ·exact .inr (.inl rfl)
   ·split
    ·exact .inr (.inl rfl)
    ·exact .inl rfl
def skS (may:Bool) (cl:List qab) (i:Nat) (c:qab):List qep:=if c.kind=1 then qtw (i:Int) (qh9 may cl (i:Int)).1 0 c.paths else[]
def qqg (may:Bool) (cl:List qab):List qa1->Nat->List qab->List qa1
 | out,_,[]=>out
 | out,i,c::cs=>qqg may cl (zne out (qym c) (i:Int) (skS may cl i c)) (i+1) cs
theorem zhq (may:Bool) (cl:List qab) (i:Nat) (c:qab):(skS may cl i c).length<=qde c:=by
 have h1:=qbi qjt q6d c.paths;have h2:c.paths.length<=qde c:=by unfold qde qwo; omega
 unfold skS;split
 ·have:=zfw (i:Int) c.paths (qh9 may cl (i:Int)).1 0; omega
 ·simp
theorem zh1 (c:qab):c.items.length<=qde c/\c.order.length+c.skip.length+c.limit.length<=qde c/\c.paths.length<=qde c/\(c.paths.map fun p=>p.nodes.length).sum<=qde c/\∀ p∈c.paths,p.nodes.length<=qde c:=by
 have h1:=qbi qjt q6d c.paths;have h2:=qbi qsb (fun p=>by unfold qsb; omega) c.items
 have h3:=qbi qhy (fun p=>by unfold qhy; omega) c.order
 have h4:=qdx c.skip;have h5:=qdx c.limit;have hnd:∀ p:qa6,p.nodes.length<=qjt p:=fun p=>by
  have:=qbi qia (fun d=>by unfold qia; omega) p.nodes
  unfold qjt; omega
 have h6:(c.paths.map fun p=>p.nodes.length).sum<=(c.paths.map qjt).sum:=by
  induction c.paths with
  | nil=>simp
  | cons p l ih=>have:=hnd p; simp only[List.map_cons,List.sum_cons]; omega
 refine⟨by unfold qde; omega,by unfold qde; omega,by unfold qde qwo; omega,by unfold qde qwo; omega,fun p hp=>?_⟩;have:=hnd p;have:=qb6 qjt hp;unfold qde qwo; omega
section
variable {n:Nat} (hn:n<=1073741824) {cl:List qab} {may:Bool}
include hn
theorem zqz {x1:Int} {x2:List qa6} {x3:List qaa} {x4:Int} {x5:List UInt8} {x6:Int} {x7:Bool} {x8:Int} {x9:List UInt8} {x10:List Val} {x11:List (List UInt8)} {x12:List (List UInt8)} {x13:List qaa} {x14:List UInt8} {x15:List qbj} {x16:Bool} {x17:List qar} {x18 x19:List qaa} {x20:List qaf} {x21:List (List UInt8)} {x22:Bool}
  (at_:Nat) {names:List (List UInt8)} {sk:List qep} (hs:qmj n ⟨x1,x2,x3,⟨x4,x5,⟨x6,x7,x8,x9,x10,x11⟩,x12,x13⟩,x14,x15,x16,x17,x18,x19,x20,x21,x22⟩ (at_:Int) names=some sk) (hat:at_<1073741824) (l:List qa1) (s:qa1) (hl:l.length<1073741824) (tl:List qep) (ht:tl.length=s.seeks.length) (hz:s.seeks.length+sk.length<2147483648)
  (nx:List qep×List qa1×Int->Option (List qa1×Int)) :
  qjm n x1 x2 x3 x4 x5 x6 x7 x8 x9 x10 x11 x12 x13 x14 x15 x16 x17 x18 x19 x20 x21 x22 (at_:Int) names nx (l++[s],tl) =
   nx (s.seeks++sk,l++[⟨s.kind,s.from_,s.to,s.seeks++sk⟩],((at_+1:Nat):Int)):=by
 obtain⟨s1,s2,s3,s4⟩:=s;simp only at ht hz;have h1:decide (l.length<(l++[(⟨s1,s2,s3,s4⟩:qa1)]).length)=true:=decide_eq_true (by simp);have h2:decide (l.length+1=(l++[(⟨s1,s2,s3,s4⟩:qa1)]).length)=true:=decide_eq_true (by simp);unfold qjm;simp only[qfl,qgn];rw[q8g (by omega),qah,qd5 h1,qso,qah,qd5 h2,qd5 (decide_eq_true ht),hs,qah,qd5 (decide_eq_true (by simp only[List.length_append]; omega)),qd5 h2,qah,q6e,qcg (by omega)]
omit hn in
theorem zpf (c:qab):IntKind.i64.wrap (1+(qym c - 1))=qym c:=by
 rcases zaz c with h|h|h<;>rw[h]<;>rfl
omit hn in
theorem zr3 {l:List qa1} {s:qa1} (h:l.length<1073741824):decide ((l++[s]).length * 48<=140737488355328)=true:=decide_eq_true (by rw[List.length_append]; simp only[List.length_cons,List.length_nil]; omega)
omit hn in
theorem zia {A:Type} [Inhabited A] (a:A) (f:A->Option (List qa1×Int)):bnd (qaw true (some a)) f=f a:=rfl
theorem zmt (hN:∀ i,i<cl.length->∃ nm:List (List UInt8)×List Int,qiv n ⟨cl⟩ (i:Int)=some (qh9 may cl (i:Int))/\qh9 may cl (i:Int)=(nm.1,nm.2,0)/\nm.1.length<=2 * qcn cl) (hw:∀ c∈cl,c.kind=1->∀ p∈c.paths,p.nodes≠[]) (h:8 * qcn cl+8<n) :
  ∀ (suf:List qab) (k m:Nat) (out:List qa1),(∀ j,suf[j]? =cl[k+j]?)->k+suf.length=cl.length->suf.length<m->out.length<=k->(zkc out).length+(suf.map qde).sum<=qcn cl ->
   qan (qhl n cl) m (zkc out,out,(k:Int))=some (qqg may cl out k suf,0):=by
 intro suf;have hlen:=qbi qde qkx cl;have hcb:(cl.map qde).sum=qcn cl:=rfl
 induction suf with
 | nil=>
  intro k m out hs hk hm ho hz;obtain⟨m,rfl⟩:=Nat.exists_eq_succ_of_ne_zero (by omega:m≠0);have:k=cl.length:=by simpa using hk
  subst this;rw[qbg];simp only[qhl,qbt,qas,cond_false,qqg]
 | cons c suf ih=>
  intro k m out hs hk hm ho hz;obtain⟨m,rfl⟩:=Nat.exists_eq_succ_of_ne_zero (by omega:m≠0);have hx:cl[k]? =some c:=by have:=hs 0; simpa using this.symm
  have hkl:=qb0 hx;have hcm:=qbk hx;have hcz:qde c<=qcn cl:=by rw[← hcb]; exact qb6 qde hcm
  obtain⟨z1,z2,z3,z4,z5⟩:=zh1 c;simp only[List.map_cons,List.sum_cons]at hz;obtain⟨⟨ns,ks⟩,hn1,hn2,hn3⟩:=hN k hkl;simp only at hn2 hn3;have hsk0:=zhq may cl k c;have hseek:qmj n c (k:Int) ns=some (skS may cl k c):=by
   rw[q60 hn (k:Int) (hw c hcm) (by omega) (fun p hp=>by have:=z5 p hp; omega) (by omega)]
   unfold skS;rw[hn2]
  have hneed:=q6y hn (c:=c) (by omega) (by omega);have hnext:∀ out',out'.length<=k+1->(zkc out').length+(suf.map qde).sum<=qcn cl->qan (qhl n cl) m (zkc out',out',((k+1:Nat):Int))=some (qqg may cl out' (k+1) suf,0):=fun out' ho' hz'=>
   ih (k+1) m out' (fun j=>by have:=hs (j+1); rw[show k+1+j=k+(j+1) by omega]; simpa using this) (by simp at hk; omega) (by simp at hm; omega) ho' hz'
  have hfin:∀ (l:List qa1) (s:qa1) (tl:List qep) (nx:List qep×List qa1×Int->Option (List qa1×Int)),True:=fun _ _ _ _=>trivial
  rw[qbg];have hpl:qqg may cl out k (c::suf)=qqg may cl (zne out (qym c) (k:Int) (skS may cl k c)) (k+1) suf:=rfl;rw[hpl];have hk3:=fun(l:List qa1) (s:qa1) (hl:l.length<1073741824) (tl:List qep) (ht:tl.length=s.seeks.length) (hz:s.seeks.length+(skS may cl k c).length<2147483648) nx=>
   (fun{x1 x2 x3 x4 x5 x6 x7 x8 x9 x10 x11 x12 x13 x14 x15 x16 x17 x18 x19 x20 x21 x22} hs=>zqz (n:=n) hn (x1:=x1) (x2:=x2) (x3:=x3) (x4:=x4) (x5:=x5) (x6:=x6) (x7:=x7) (x8:=x8) (x9:=x9) (x10:=x10) (x11:=x11) (x12:=x12) (x13:=x13) (x14:=x14) (x15:=x15) (x16:=x16) (x17:=x17) (x18:=x18) (x19:=x19) (x20:=x20) (x21:=x21) (x22:=x22) k (names:=ns) (sk:=skS may cl k c) hs (by omega) l s hl tl ht hz nx)
  have hwk:=zpf c;have hrng:=zaz c;generalize hK:qym c=K at *;generalize hS:skS may cl k c=S at *;clear hK hS;obtain⟨x1,x2,x3,⟨x4,x5,⟨x6,x7,x8,x9,x10,x11⟩,x12,x13⟩,x14,x15,x16,x17,x18,x19,x20,x21,x22⟩:=c;simp only[qhl,qbt,qa7 hkl,cond_true,qal hx,qah,hn1,hn2,qfl,hneed,hwk];rw[show((0:Int) != 0)=false from rfl,cond_false];have hpush:chk (decide ((out++[(⟨K,(k:Int),(k:Int),[]⟩:qa1)]).length * 48<=140737488355328)) (qjm n x1 x2 x3 x4 x5 x6 x7 x8 x9 x10 x11 x12 x13 x14 x15 x16 x17 x18 x19 x20 x21 x22 (k:Int) ns (qan (qhl n cl) m) (out++[⟨K,(k:Int),(k:Int),[]⟩],[]))=some (qqg may cl (out++[⟨K,(k:Int),(k:Int),S⟩]) (k+1) suf,0):=by
   rw[qd5 (zr3 (by omega)),hk3 out ⟨K,(k:Int),(k:Int),[]⟩ (by omega) [] rfl (by simp; omega) _ hseek];simp only[List.nil_append];have:=hnext (out++[⟨K,(k:Int),(k:Int),S⟩]) (by rw[List.length_append]; simp only[List.length_cons,List.length_nil]; omega) (by rw[qk8]; simp only; omega);rw[qk8]at this;exact this
  rcases qqy out with rfl|⟨l,s,rfl⟩
  ·rw[qy9]
   have hg:(bif(K - 1==(0:Int))then decide ((((([]:List qa1).length):Nat):Int)>(0:Int))else false)=false:=by cases(K - 1==(0:Int))<;>rfl
   rw[hg];simp only[qaw,cond_false,qah];exact hpush
  ·rw[qvs]
   rw[qk8]at hz;have hll:(l++[s]).length=l.length+1:=by simp
   have hpos:decide ((((l++[s]).length:Nat):Int)>0)=true:=decide_eq_true (by rw[hll]; omega);rw[hpos];by_cases hk1:K=1
   ·subst hk1
    rw[show((1:Int) - 1==0)=true from rfl,cond_true,q8g (by omega),zia];rw[qd5 (by rw[cond_true]; exact decide_eq_true (by rw[hll]; omega)),qso,zia];simp only[cond_true];rw[show((1:Int)==1)=true from rfl,Bool.true_and];cases hsk:(s.kind==1)with
    | true=>
     obtain⟨s1,s2,s3,s4⟩:=s;simp only at hsk hz;simp only[hsk,cond_true,qah];rw[qd5 (decide_eq_true (by rw[hll]; omega)),qso];simp only[qah,q6e,qk8];rw[hk3 l ⟨s1,s2,(k:Int),s4⟩ (by omega) s4 rfl (by simp only; omega) _ hseek];have:=hnext (l++[⟨s1,s2,(k:Int),s4++S⟩]) (by rw[List.length_append]; simp only[List.length_cons,List.length_nil]; omega) (by rw[qk8]; simp only[List.length_append]; omega);rw[qk8]at this;exact this
    | false=>
     obtain⟨s1,s2,s3,s4⟩:=s;simp only at hsk;simp only[hsk,cond_false];exact hpush
   ·have hg:(K - 1==(0:Int))=false:=by rw[beq_eq_false_iff_ne]; omega
    rw[hg];simp only[qaw,cond_false,qah];rw[show((K==1)=false)from by rw[beq_eq_false_iff_ne]; exact hk1];simp only[Bool.false_and,cond_false];exact hpush
end
end W
end
section
open Go Ax
namespace W
section
variable {n:Nat} (hn:n<=1073741824) {cl:List qab} {may:Bool}
include hn
theorem zr9 (at_:Nat) {sk:List qep} (hs:qtg n ⟨cl⟩ (at_:Int)=some sk) (hat:at_<1073741824) (l:List qa1) (s:qa1) (hl:l.length<1073741824) (tl:List qep) (ht:tl.length=s.seeks.length) (hz:s.seeks.length+sk.length<2147483648)
  (nx:List qep×List qa1×Int->Option (List qa1×Int)) :
  qpz n cl (at_:Int) nx (((l.length+1:Nat):Int),l++[s],tl)=nx (s.seeks++sk,l++[⟨s.kind,s.from_,(at_:Int),s.seeks++sk⟩],((at_+1:Nat):Int)):=by
 obtain⟨s1,s2,s3,s4⟩:=s;simp only at ht hz;have hn1:qxb (IntKind.i64.wrap (((l.length+1:Nat):Int) - 1))=some l.length:=by
  rw[q1t (by omega) (by omega),show((l.length+1:Nat):Int) - 1=((l.length:Nat):Int)from by simp];exact q2v _
 have h1:∀ s:qa1,decide (l.length<(l++[s]).length)=true:=fun s=>decide_eq_true (by simp)
 have h2:∀ s:qa1,decide (l.length+1=(l++[s]).length)=true:=fun s=>decide_eq_true (by simp)
 unfold qpz;simp only[qfl,qgn];rw[hn1,qah,qd5 (h1 _),qso,qah,hs,qah,qah,qd5 (h1 _)];simp only[q6e];rw[qso,qah,qd5 (h2 _),qd5 (decide_eq_true ht),qd5 (decide_eq_true (by simp only[List.length_append]; omega)),qah,qd5 (h1 _),qd5 (h2 _),qso,qcg (by omega)];simp only[qah,q6e]
theorem zov (hN:∀ i,i<cl.length->∃ nm:List (List UInt8)×List Int,qh2 n ⟨cl⟩ (i:Int)=some (qh9 may cl (i:Int))/\qh9 may cl (i:Int)=(nm.1,nm.2,0)/\nm.1.length<=2 * qcn cl) (hw:∀ c∈cl,c.kind=1->∀ p∈c.paths,p.nodes≠[]) (h:8 * qcn cl+8<n) :
  ∀ (suf:List qab) (k m:Nat) (out:List qa1),(∀ j,suf[j]? =cl[k+j]?)->k+suf.length=cl.length->suf.length<m->out.length<=k->(zkc out).length+(suf.map qde).sum<=qcn cl ->
   qan (qna n cl) m (zkc out,out,(k:Int))=some (qqg may cl out k suf,0):=by
 intro suf;have hlen:=qbi qde qkx cl;have hcb:(cl.map qde).sum=qcn cl:=rfl
 induction suf with
 | nil=>
  intro k m out hs hk hm ho hz;obtain⟨m,rfl⟩:=Nat.exists_eq_succ_of_ne_zero (by omega:m≠0);have:k=cl.length:=by simpa using hk
  subst this;rw[qbg];simp only[qna,qbt,qas,cond_false,qqg]
 | cons c suf ih=>
  intro k m out hs hk hm ho hz;obtain⟨m,rfl⟩:=Nat.exists_eq_succ_of_ne_zero (by omega:m≠0);have hx:cl[k]? =some c:=by have:=hs 0; simpa using this.symm
  have hkl:=qb0 hx;have hcm:=qbk hx;have hcz:qde c<=qcn cl:=by rw[← hcb]; exact qb6 qde hcm
  obtain⟨z1,z2,z3,z4,z5⟩:=zh1 c;simp only[List.map_cons,List.sum_cons]at hz;obtain⟨⟨ns,ks⟩,hn1,hn2,hn3⟩:=hN k hkl;simp only at hn2 hn3;have hsk0:=zhq may cl k c;have hseek:qtg n ⟨cl⟩ (k:Int)=some (skS may cl k c):=by
   rw[q9d hn hx hn1 (hw c hcm) (by omega) (fun p hp=>by have:=z5 p hp; omega) (by rw[hn2]; simp only; omega)]
   rfl
  have hkind:=zbz hn (c:=c) (by omega);have hnext:∀ out',out'.length<=k+1->(zkc out').length+(suf.map qde).sum<=qcn cl->qan (qna n cl) m (zkc out',out',((k+1:Nat):Int))=some (qqg may cl out' (k+1) suf,0):=fun out' ho' hz'=>
   ih (k+1) m out' (fun j=>by have:=hs (j+1); rw[show k+1+j=k+(j+1) by omega]; simpa using this) (by simp at hk; omega) (by simp at hm; omega) ho' hz'
  rw[qbg];have hpl:qqg may cl out k (c::suf)=qqg may cl (zne out (qym c) (k:Int) (skS may cl k c)) (k+1) suf:=rfl;rw[hpl];have hk3:=fun(l:List qa1) (s:qa1) (hl:l.length<1073741824) (tl:List qep) (ht:tl.length=s.seeks.length) (hz:s.seeks.length+(skS may cl k c).length<2147483648) nx=>zr9 (n:=n) hn k (cl:=cl) (sk:=skS may cl k c) hseek (by omega) l s hl tl ht hz nx;generalize hK:qym c=K at *;generalize hS:skS may cl k c=S at *;clear hK hS;obtain⟨x1,x2,x3,⟨x4,x5,⟨x6,x7,x8,x9,x10,x11⟩,x12,x13⟩,x14,x15,x16,x17,x18,x19,x20,x21,x22⟩:=c;simp only[qna,qbt,qa7 hkl,cond_true,qal hx,qah,qfl,hkind];have hpush:chk (decide ((out++[(⟨K,(k:Int),(0:Int),[]⟩:qa1)]).length * 48<=140737488355328)) (qpz n cl (k:Int) (qan (qna n cl) m) (IntKind.i64.wrap (((out.length:Nat):Int)+1),out++[⟨K,(k:Int),(0:Int),[]⟩],[]))=some (qqg may cl (out++[⟨K,(k:Int),(k:Int),S⟩]) (k+1) suf,0):=by
   rw[qd5 (zr3 (by omega)),qcg (by omega),hk3 out ⟨K,(k:Int),(0:Int),[]⟩ (by omega) [] rfl (by simp; omega) _];simp only[List.nil_append];have:=hnext (out++[⟨K,(k:Int),(k:Int),S⟩]) (by rw[List.length_append]; simp only[List.length_cons,List.length_nil]; omega) (by rw[qk8]; simp only; omega);rw[qk8]at this;exact this
  rcases qqy out with rfl|⟨l,s,rfl⟩
  ·rw[qy9]
   have hg:(bif(K != (1:Int))then true else((((([]:List qa1).length):Nat):Int)==(0:Int)))=true:=by cases(K != (1:Int))<;>rfl
   rw[hg];simp only[Bool.not_true,qaw,cond_false,cond_true,qah];exact hpush
  ·rw[qvs]
   rw[qk8]at hz;have hll:(l++[s]).length=l.length+1:=by simp
   have hpos:((((l++[s]).length:Nat):Int)==0)=false:=by rw[beq_eq_false_iff_ne,hll]; omega
   rw[hpos];by_cases hk1:K=1
   ·subst hk1
    rw[show((1:Int) != 1)=false from rfl,cond_false,Bool.not_false,q8g (by omega),zia];rw[qd5 (by rw[cond_true]; exact decide_eq_true (by rw[hll]; omega)),qso,zia];simp only[cond_false];rw[show((1:Int)==1)=true from rfl,Bool.true_and];cases hsk:(s.kind==1)with
    | true=>
     obtain⟨s1,s2,s3,s4⟩:=s;simp only at hsk hz;have hsk':(s1 != 1)=false:=by unfold bne; rw[hsk]; rfl
     simp only[hsk',cond_false,cond_true];rw[hll,qk8,hk3 l ⟨s1,s2,s3,s4⟩ (by omega) s4 rfl (by simp only; omega) _];have:=hnext (l++[⟨s1,s2,(k:Int),s4++S⟩]) (by rw[List.length_append]; simp only[List.length_cons,List.length_nil]; omega) (by rw[qk8]; simp only[List.length_append]; omega);rw[qk8]at this;exact this
    | false=>
     obtain⟨s1,s2,s3,s4⟩:=s;simp only at hsk;have hsk':(s1 != 1)=true:=by unfold bne; rw[hsk]; rfl
     simp only[hsk',cond_true,cond_false];exact hpush
   ·have hg:(K != (1:Int))=true:=by rw[bne_iff_ne]; omega
    rw[hg];simp only[Bool.not_true,qaw,cond_false,cond_true,qah];rw[show((K==1)=false)from by rw[beq_eq_false_iff_ne]; exact hk1];simp only[Bool.false_and,cond_false];exact hpush
end
theorem zav {A R T:Type} (F:T->A->R ⊕ T):∀ (l:List A) (t v:T),qfj F t l=.inr v->∀ i,∃ u,qfj F t (l.take i)=.inr u
 | [],t,v,h,i=>⟨t,by simp[qfj]⟩
 | a::l,t,v,h,0=>⟨t,rfl⟩
 | a::l,t,v,h,i+1=>by
  simp only[qfj,List.take_succ_cons]at h ⊢;cases hF:F t a with
  | inl r=>rw[hF]at h; cases h
  | inr t'=>rw[hF]at h; exact zav F l t' v h i
theorem q8f {may:Bool} {cl:List qab} (e:(qrs may cl).2=0):may=true/\∀ i,i<=cl.length->∃ nm:List (List UInt8)×List Int,qh9 may cl (i:Int)=(nm.1,nm.2,0):=by
 have e2:(qh9 may cl cl.length).2.2=0:=by
  unfold qrs at e;simp only at e;split at e
  ·rename_i h; exact h.1
  ·exact e
 unfold qh9 at e2;by_cases hm:may=true
 ·subst hm
  refine⟨rfl,fun i hi=>?_⟩;rw[if_neg (by simp only[Bool.true_eq_false,false_or,not_or]; omega),Int.toNat_natCast,List.take_length]at e2;have hne:∀ (l:List qab) (t:Env) (e:Int),qfj qqa t l=.inl e->e≠0:=by
   intro l
   induction l with
   | nil=>intro t e h; cases h
   | cons c l ih=>
    intro t e h;simp only[qfj]at h;cases hc:qqa t c with
    | inl r=>
     rw[hc]at h;cases h;unfold qqa at hc;split at hc
     ·rename_i h0; cases hc; exact h0
     ·cases hc
    | inr t'=>rw[hc]at h; exact ih t' e h
  cases hf:qfj qqa [] cl with
  | inl r=>rw[hf]at e2; exact absurd e2 (hne cl [] r hf)
  | inr v=>
   obtain⟨u,hu⟩:=zav qqa cl [] v hf i;refine⟨(u.map (·.1),u.map (·.2)),?_⟩
   unfold qh9;rw[if_neg (by simp only[Bool.true_eq_false,false_or,not_or]; omega),Int.toNat_natCast,hu]
 ·simp only[Bool.not_eq_true]at hm
  subst hm;rw[if_pos (.inl rfl)]at e2;exact absurd e2 (by decide)
def qz8 (may:Bool) (cl:List qab):List qa1×Int:=if(qrs may cl).2=0 then(qqg may cl [] 0 cl,0)else([],(qrs may cl).2)
section
variable {n:Nat} (hn:n<=1073741824) {cl:List qab} (h:8 * qcn cl+400<n) (hM:∀ c∈cl,LenOk c)
include hn h hM
theorem q2x:qkr n ⟨cl⟩=some (qz8 (q8u n cl) cl)/\zal n ⟨cl⟩=some (qz8 (q8u n cl) cl):=by
 obtain⟨c1,c2⟩:=zi5 hn h hM;have hlen:=qbi qde qkx cl;have hcb:(cl.map qde).sum=qcn cl:=rfl;have hwf:=q8d hn (by omega) hM;have hnl:=fun at_=>(zfg hwf at_).1;have hNB:=fun at_=>q4c hn h hM at_
 generalize hmay:q8u n cl=may at *;unfold qkr zal qz8;simp only[c1,c2];cases hc:qrs may cl with
 | mk a e=>
  simp only[qah];by_cases he:e=0
  ·subst he
   rw[if_pos rfl,show((0:Int) != 0)=false from rfl];simp only[cond_false];obtain⟨hm,hnm⟩:=q8f (may:=may) (cl:=cl) (by rw[hc]);have hw:∀ c∈cl,c.kind=1->∀ p∈c.paths,p.nodes≠[]:=fun c hcm _ p hp e=>by
    have:=((hwf hm c hcm).paths p hp).len;rw[e]at this;simp at this
   refine⟨?_,?_⟩
   ·exact zmt hn (fun i hi=>by obtain⟨nm,h1⟩:=hnm i (by omega); refine⟨nm,(hNB i).1,h1,?_⟩; have:=hnl (i:Int); rw[h1]at this; exact this) hw (by omega) cl 0 n [] (by simp) (by simp) (by omega) (by simp) (by rw[hcb]; simp[zkc])
   ·exact zov hn (fun i hi=>by obtain⟨nm,h1⟩:=hnm i (by omega); refine⟨nm,(hNB i).2,h1,?_⟩; have:=hnl (i:Int); rw[h1]at this; exact this) hw (by omega) cl 0 n [] (by simp) (by simp) (by omega) (by simp) (by rw[hcb]; simp[zkc])
  ·rw[if_neg he,show(e != 0)=true from bne_iff_ne.2 he]
   exact⟨rfl,rfl⟩
end
end W
end
section
open Go Ax
namespace W
def nm (s:List UInt8):List UInt8:=if s=[]then[]else s++[95,55]
structure RenOk (f:Env->Env):Prop where
 kind:∀ v s,qcm (f v) (nm s)=qcm v s
 wth:∀ v s k,ql4 (f v) (nm s) k=f (ql4 v s k)
section
variable {f:Env->Env} (hf:RenOk f)
include hf
end
def rr (f:Env->Env) (r:Int×Env):Int×Env:=(r.1,f r.2)
section
variable {f:Env->Env} (hf:RenOk f)
include hf
end
section
variable {f:Env->Env} (hf:RenOk f)
include hf
end
end W
end
section
open Go Ax
namespace W
end W
end
section
open Go Ax
namespace W
section
variable {P:List UInt8->Prop}
end
section
variable {n:Nat} (hn:n<=1073741824) {cl:List qab} (h:32 * qcn cl+2000<n) (hM:∀ c∈cl,LenOk c)
include hn h hM
end
end W
end
section
open Go Ax
namespace W
theorem zpe (m:Nat):qf3 (m+400)=some true:=by kernel_rfl
theorem q28 {n:Nat} (h:400<=n):qf3 n=some true:=by
 obtain⟨m,rfl⟩:=Nat.exists_eq_add_of_le h;rw[Nat.add_comm]; exact zpe m
theorem zo7 (out:List qa1) (k i:Int) (sk:List qep):(zne out k i sk).length<=out.length+1:=by
 rcases qqy out with rfl|⟨l,s,rfl⟩
 ·simp[qy9]
 ·rw[qvs]
  cases(k==1)&&(s.kind==1)<;>simp
def q55 (l:List qa1):Nat:=(l.map fun s=>s.seeks.length).sum
theorem zju (out:List qa1) (k i:Int) (sk:List qep):q55 (zne out k i sk)=q55 out+sk.length:=by
 rcases qqy out with rfl|⟨l,s,rfl⟩
 ·simp[qy9,q55]
 ·rw[qvs]
  unfold q55;cases(k==1)&&(s.kind==1)<;>simp<;>omega
theorem za7 (may:Bool) (cl:List qab):∀ (suf:List qab) (out:List qa1) (i:Nat),(qqg may cl out i suf).length<=out.length+suf.length/\q55 (qqg may cl out i suf)<=q55 out+(suf.map qde).sum
 | [],out,i=>by simp[qqg]
 | c::suf,out,i=>by
  obtain⟨h1,h2⟩:=za7 may cl suf (zne out (qym c) (i:Int) (skS may cl i c)) (i+1);have h3:=zo7 out (qym c) (i:Int) (skS may cl i c);have h4:=zju out (qym c) (i:Int) (skS may cl i c);have h5:=zhq may cl i c;simp only[qqg,List.length_cons,List.map_cons,List.sum_cons];exact⟨by omega,by omega⟩
theorem q4e (may:Bool) (cl:List qab):(qz8 may cl).1.length<=qcn cl/\q55 (qz8 may cl).1<=qcn cl/\∀ s∈(qz8 may cl).1,s.seeks.length<=qcn cl:=by
 have hlen:=qbi qde qkx cl;have hcb:(cl.map qde).sum=qcn cl:=rfl;have key:(qz8 may cl).1.length<=qcn cl/\q55 (qz8 may cl).1<=qcn cl:=by
  unfold qz8;split
  ·obtain⟨h1,h2⟩:=za7 may cl cl [] 0
   have h0:q55 []=0:=rfl;rw[h0]at h2;simp only[List.length_nil]at h1;show(qqg may cl [] 0 cl).length<=qcn cl/\q55 (qqg may cl [] 0 cl)<=qcn cl;exact⟨by omega,by omega⟩
  ·simp[q55]
 refine⟨key.1,key.2,fun s hs=>?_⟩;have:=qb6 (fun s:qa1=>s.seeks.length) hs
 have h2:=key.2;unfold q55 at h2;exact Nat.le_trans this h2
section
variable {n:Nat} (hn:n<=1073741824) {cl:List qab} (h:32 * qcn cl+2000<n) (hM:∀ c∈cl,LenOk c)
include hn h hM
end
end W
end
section
open Go Ax
namespace W
inductive Cov (cl:List qab):List qa1->Nat->Prop where
 | nil:Cov cl [] 0
 | snoc {l:List qa1} {s:qa1} {a e:Nat} (h:Cov cl l a) (h1:s.from_=(a:Int)) (h2:s.to=(e:Int)) (h3:a<=e) (h4:s.kind≠1->e=a) (h5:∀ s',l.getLast? =some s'->¬ (s'.kind=1/\s.kind=1))
   (h6:∀ j,a<=j->j<=e->∃ c,cl[j]? =some c/\qym c=s.kind):Cov cl (l++[s]) (e+1)
theorem Cov.last {cl:List qab} {out:List qa1} {k:Nat} (h:Cov cl out k):(k:Int)=match out.getLast? with|none=>0|some s=>s.to+1:=by
 cases h with
 | nil=>rfl
 | snoc h h1 h2 h3 h4 h5 h6=>rw[List.getLast?_concat]; simp only; omega
theorem Cov.one {cl:List qab} {out:List qa1} {a b:Nat} (h:Cov cl out a) (h':Cov cl out b):a=b:=by
 have h1:=h.last;have h2:=h'.last;rw[← h2]at h1;omega
theorem Cov.step {cl:List qab} {out:List qa1} {k:Nat} (h:Cov cl out k) {c:qab} (hc:cl[k]? =some c) (sk:List qep):Cov cl (zne out (qym c) (k:Int) sk) (k+1):=by
 have hone:∀ j,k<=j->j<=k->∃ c',cl[j]? =some c'/\qym c'=qym c:=fun j h1 h2=>by
  obtain rfl:j=k:=by omega
  exact⟨c,hc,rfl⟩
 rcases qqy out with rfl|⟨l,s,rfl⟩
 ·rw[qy9]
  exact Cov.snoc (l:=[]) (s:=⟨qym c,(k:Int),(k:Int),sk⟩) h rfl rfl (Nat.le_refl _) (fun _=>rfl) (fun s' h=>by simp at h) hone
 ·rw[qvs]
  cases hb:(qym c==1)&&(s.kind==1)with
  | true=>
   simp only[Bool.and_eq_true,beq_iff_eq]at hb;obtain⟨hb1,hb2⟩:=hb;generalize ho:l++[s]=out at h;cases h with
   | nil=>exact absurd (congrArg List.length ho) (by simp)
   | snoc h0 h1 h2 h3 h4 h5 h6=>
    rename_i l' s' a e;have hl:l=l'/\s=s':=by
     have:=List.append_inj' ho rfl;exact⟨this.1,by simpa using this.2⟩
    obtain⟨rfl,rfl⟩:=hl;rw[cond_true];refine Cov.snoc (l:=l) (s:=⟨s.kind,s.from_,((e+1:Nat):Int),s.seeks++sk⟩) h0 h1 rfl (by omega) (fun hne=>absurd hb2 hne) h5 (fun j hj1 hj2=>?_)
    by_cases hj:j<=e
    ·exact h6 j hj1 hj
    ·obtain rfl:j=e+1:=by omega
     exact⟨c,hc,by rw[hb1,hb2]⟩
  | false=>
   rw[cond_false];refine Cov.snoc (l:=l++[s]) (s:=⟨qym c,(k:Int),(k:Int),sk⟩) h rfl rfl (Nat.le_refl _) (fun _=>rfl) (fun s' hs'=>?_) hone
   rw[List.getLast?_concat]at hs';cases hs';rintro⟨h1,h2⟩;simp only at h2;rw[h1,h2]at hb;cases hb
theorem Cov.fold {may:Bool} {cl:List qab}:∀ (suf:List qab) (k:Nat) (out:List qa1),(∀ j,suf[j]? =cl[k+j]?)->Cov cl out k->Cov cl (qqg may cl out k suf) (k+suf.length)
 | [],k,out,_,h=>h
 | c::suf,k,out,hs,h=>by
  have hc:cl[k]? =some c:=by have:=hs 0; simpa using this.symm
  have:=Cov.fold (may:=may) suf (k+1) _ (fun j=>by have:=hs (j+1); rw[show k+1+j=k+(j+1) by omega]; simpa using this) (h.step hc (skS may cl k c))
  simp only[qqg,List.length_cons];rw[show k+(suf.length+1)=k+1+suf.length by omega];exact this
theorem zn5 (may:Bool) (cl:List qab):Cov cl (qqg may cl [] 0 cl) cl.length:=by
 have:=Cov.fold (may:=may) (cl:=cl) cl 0 [] (by simp) Cov.nil;simpa using this
theorem Cov.at{cl:List qab} {out:List qa1} {k:Nat} (h:Cov cl out k):∀ (i:Nat) (s:qa1),out[i]? =some s->∃ a e,Cov cl (out.take i) a/\s.from_=((a:Nat):Int)/\s.to=((e:Nat):Int)/\a<=e/\(s.kind≠1->e=a) /\
  (∀ s',(out.take i).getLast? =some s'->¬ (s'.kind=1/\s.kind=1))/\(∀ j,a<=j->j<=e->∃ c,cl[j]? =some c/\qym c=s.kind)/\Cov cl (out.take (i+1)) (e+1):=by
 induction h with
 | nil=>intro i s hs; simp at hs
 | snoc h h1 h2 h3 h4 h5 h6 ih=>
  rename_i l s0 a e;intro i s hs;by_cases hi:i<l.length
  ·rw[List.getElem?_append_left hi]at hs
   have:=ih i s hs;rw[List.take_append_of_le_length (by omega),List.take_append_of_le_length (by omega)];exact this
  ·have hil:i=l.length:=by
    have:=(List.getElem?_eq_some_iff.1 hs).1;simp at this;omega
   subst hil;rw[qso]at hs;cases hs;refine⟨a,e,?_,h1,h2,h3,h4,?_,h6,?_⟩
   ·rw[List.take_left]; exact h
   ·rw[List.take_left]; exact h5
   ·rw[List.take_of_length_le (by simp)]
    exact Cov.snoc h h1 h2 h3 h4 h5 h6
theorem znm (n:Nat) {c:qab} (h1:1<=c.kind) (h9:c.kind<=9):qip n c.kind=some (qym c==3):=by
 unfold qip qym;have hk:c.kind=1\/c.kind=2\/c.kind=3\/c.kind=4\/c.kind=5\/c.kind=6\/c.kind=7\/c.kind=8\/c.kind=9:=by omega
 rcases hk with e|e|e|e|e|e|e|e|e<;>rw[e]<;>first
  | rfl
  | (simp only[show ¬ ((3:Int)=1\/(3:Int)=2)from by decide,show ¬ ((3:Int)≠3/\(3:Int)≠9)from by decide,if_false]; split<;>(try split)<;>rfl)
  | (simp only[show ¬ ((9:Int)=1\/(9:Int)=2)from by decide,show ¬ ((9:Int)≠3/\(9:Int)≠9)from by decide,if_false]; split<;>(try split)<;>rfl)
section
variable {n:Nat} (hn:n<=1073741824) {cl:List qab}
include hn
theorem zem (hk:∀ c∈cl,1<=c.kind/\c.kind<=9) (hcl:cl.length<n) {out:List qa1} {i a e:Nat} {s:qa1} (hi:i<1073741824) (hs:out[i]? =some s) (h2:s.to=(e:Int)) (h3:a<=e) (h6:∀ j,a<=j->j<=e->∃ c,cl[j]? =some c/\qym c=s.kind)
  (nx:Int×Int->Option Bool):qan (qey n out (i:Int) cl nx) n (a:Int)=nx (((e+1:Nat):Int),((i+1:Nat):Int)):=by
 obtain⟨s1,s2,s3,s4⟩:=s;simp only at h2 h6;subst h2;have hecl:e<cl.length:=by obtain⟨c,hc,_⟩:=h6 e h3 (Nat.le_refl _); exact qb0 hc
 have:=qjo (B:=qey n out (i:Int) cl nx) (fun j=>(((a+j:Nat)):Int)) (e+1 - a) (r:=nx (((e+1:Nat):Int),((i+1:Nat):Int)))
  (fun j hj nx2=>by
   obtain⟨c,hc,hkc⟩:=h6 (a+j) (by omega) (by omega);have hcm:=hk c (qbk hc);have hw:=znm n hcm.1 hcm.2;have hlt:=qb0 hc;rw[hkc]at hw;obtain⟨x1,x2,x3,⟨x4,x5,⟨x6,x7,x8,x9,x10,x11⟩,x12,x13⟩,x14,x15,x16,x17,x18,x19,x20,x21,x22⟩:=c;simp only at hw;simp only[qey,qal hs,qah,qbt];rw[decide_eq_true (by omega:((a+j:Nat):Int)<=(e:Int)),qa7 hlt];simp only[cond_true,qal hc,qah,hw,beq_self_eq_true,Bool.not_true,cond_false];rw[qcg (by omega)];rfl)
  (fun nx2=>by
   simp only[qey,qal hs,qah];rw[decide_eq_false (by omega:¬ ((a+(e+1 - a):Nat):Int)<=(e:Int))];simp only[cond_false];rw[qcg (by omega),qcg (by omega)]) (n:=n) (by omega)
 simpa using this
theorem zgs (hk:∀ c∈cl,1<=c.kind/\c.kind<=9) (hcl:cl.length<n) (h400:400<=n) {out:List qa1} (ho:out.length<n) (hc:Cov cl out cl.length):qan (qec n out cl) n ((0:Int),(0:Int))=some true:=by
 have main:∀ m i a,Cov cl (out.take i) a->i<=out.length->out.length - i<m->qan (qec n out cl) m ((a:Int),(i:Int))=some true:=by
  intro m
  induction m with
  | zero=>intro i a _ _ h; omega
  | succ m ih=>
   intro i a ha hi hm;rw[qbg];by_cases he:i=out.length
   ·subst he
    rw[List.take_length]at ha;have:=ha.one hc;subst this;simp only[qec,qfl,qas,cond_false,qbt,beq_self_eq_true,qd6,q28 h400,qah,cond_true]
   ·have hlt:i<out.length:=by omega
    have hs:=List.getElem?_eq_getElem hlt;generalize out[i]=s at hs;obtain⟨a',e,c1,c2,c3,c4,c5,c6,c7,c8⟩:=hc.at i s hs;obtain rfl:=c1.one ha;have hin:=zem hn hk hcl (by omega) hs c3 c4 c7 (qan (qec n out cl) m);have hnext:=ih (i+1) (e+1) c8 (by omega) (by omega);rw[hnext]at hin;obtain⟨K,F,T,L⟩:=s;simp only at c2 c3 c5 c6;subst c2 c3;simp only[qec,qfl,qa7 hlt,cond_true,qal hs,qah,bne_self_eq_false,Bool.not_false,qd6,cond_false];rw[decide_eq_false (by omega:¬ (e:Int)<(a':Int))];simp only[Bool.not_false,qd6,qah,Bool.true_and,cond_false];by_cases hK:K=1
    ·subst hK
     rw[show((1:Int) != 1)=false from rfl];simp only[qaw,cond_false,qah,Bool.not_false,Bool.true_and];by_cases h0:i=0
     ·subst h0
      rw[show decide (((0:Nat):Int)>0)=false from rfl];simp only[cond_false,qah];exact hin
     ·rw[decide_eq_true (by omega:(i:Int)>0)]
      simp only[cond_true,qah];rw[show((1:Int)==1)=true from rfl];simp only[cond_true];have hpl:i - 1<out.length:=by omega
      have hp:=List.getElem?_eq_getElem hpl;have hgl:(out.take i).getLast? =out[i - 1]?:=by
       rw[List.getLast?_eq_getElem?,List.length_take,Nat.min_eq_left (by omega),List.getElem?_take,if_pos (by omega)]
      rw[hp]at hgl;generalize out[i - 1]=p at hp hgl;have hnp:=c6 p hgl;have hw:IntKind.i64.wrap ((i:Int) - 1)=((i - 1:Nat):Int):=by rw[q1t (by omega) (by omega)]; omega
      rw[hw,qal hp];simp only[qah];have:(p.kind==1)=false:=by rw[beq_eq_false_iff_ne]; exact fun h=>hnp ⟨h,rfl⟩
      rw[this];simp only[cond_false];exact hin
    ·have hK1:(K != (1:Int))=true:=bne_iff_ne.2 hK
     have hK2:(K==(1:Int))=false:=beq_eq_false_iff_ne.2 hK;obtain rfl:=c5 hK;rw[hK1];simp only[qd6,qah,cond_true,bne_self_eq_false,Bool.not_false,Bool.true_and];by_cases h0:i=0
     ·subst h0
      rw[show decide (((0:Nat):Int)>0)=false from rfl];simp only[qaw,cond_false,qah];exact hin
     ·rw[decide_eq_true (by omega:(i:Int)>0)]
      simp only[qaw,cond_true,qah,hK2,cond_false];exact hin
 have:=main n 0 0 (by simpa using Cov.nil) (by omega) (by omega);simpa using this
end
section
variable {n:Nat} (hn:n<=1073741824) {cl:List qab} (h:8 * qcn cl+400<n) (hM:∀ c∈cl,LenOk c)
include hn h hM
theorem zjd:qog n ⟨cl⟩=some true:=by
 obtain⟨b,hb⟩:=q8c hn (cl:=cl) (by omega);have c1:=(q2x hn (cl:=cl) (by omega) hM).1;have hwf:=q8d hn (cl:=cl) (by omega) hM;have hlen:=qbi qde qkx cl;have hcb:(cl.map qde).sum=qcn cl:=rfl;generalize q8u n cl=may at *;obtain⟨s1,_,_⟩:=q4e may cl;unfold qog;simp only[hb,qah,q28 (n:=n) (by omega),c1];cases b with
 | true=>rfl
 | false=>
  simp only[cond_false];unfold qz8 at s1 ⊢;by_cases he:(qrs may cl).2=0
  ·rw[if_pos he]at s1 ⊢
   simp only at s1;simp only[qah];rw[show((0:Int) != 0)=false from rfl,cond_false];obtain⟨hm,_⟩:=q8f he;exact zgs hn (fun c hc=>(hwf hm c hc).kind) (by omega) (by omega) (by omega) (zn5 may cl)
  ·rw[if_neg he]
   simp only[qah];rw[show((qrs may cl).2 != 0)=true from bne_iff_ne.2 he];rfl
end
end W
end
section
open Go Ax
namespace W
def XOk (may:Bool) (cl:List qab) (lo hi:Int) (x:qep):Prop:=
 ∃ (ci pi:Nat) (c:qab) (d:qae) (ds:List qae) (es:List qag),x.clause=(ci:Int)/\lo<=(ci:Int)/\(ci:Int)<=hi/\cl[ci]? =some c/\c.kind=1/\c.paths[pi]? =some ⟨d::ds,es⟩/\x.path=(pi:Int) /\
  x.label∈d.labels/\x.key∈d.keys/\(d.var_=[]\/(qh9 may cl (ci:Int)).1.any (· == d.var_)=false)
def zsj (x y:qep):Prop:=¬ (x.clause=y.clause/\x.path=y.path)
def zp6 (may:Bool) (cl:List qab) (s:qa1):Prop:=(∀ x∈s.seeks,XOk may cl s.from_ s.to x)/\s.seeks.Pairwise zsj
theorem zbb (at_:Int):∀ (ps:List qa6) (b:List (List UInt8)) (i:Nat),(∀ x∈qtw at_ b i ps,∃ (j:Nat) (d:qae) (ds:List qae) (es:List qag),ps[j]? =some ⟨d::ds,es⟩/\x.clause=at_/\x.path=((i+j:Nat):Int)/\x.label∈d.labels/\x.key∈d.keys/\(d.var_=[]\/b.any (· == d.var_)=false)) /\
  (qtw at_ b i ps).Pairwise zsj
 | [],_,_=>by simp[qtw]
 | p::ps,b,i=>by
  obtain⟨h1,h2⟩:=zbb at_ ps (b++q1s p) (i+1);have hone:∀ x∈q8n b at_ (i:Int) p,∃ (d:qae) (ds:List qae) (es:List qag),p=⟨d::ds,es⟩/\x.clause=at_/\x.path=(i:Int)/\x.label∈d.labels/\x.key∈d.keys/\(d.var_=[]\/b.any (· == d.var_)=false):=by
   intro x hx;obtain⟨nodes,edges⟩:=p;unfold q8n at hx;cases nodes with
   | nil=>simp at hx
   | cons d ds=>
    simp only at hx;cases hb:zde b d with
    | false=>rw[hb]at hx; simp at hx
    | true=>
     rw[hb]at hx;simp only[cond_true,List.mem_singleton]at hx;subst hx;unfold zde at hb;simp only[Bool.and_eq_true,Bool.not_eq_true',decide_eq_false_iff_not,Bool.and_eq_false_iff,Bool.not_eq_false']at hb;obtain⟨⟨hl,hk⟩,hv⟩:=hb;refine⟨d,ds,edges,rfl,rfl,rfl,?_,?_,?_⟩
     ·cases hd:d.labels with
      | nil=>exact absurd hd hl
      | cons a l=>simp
     ·cases hd:d.keys with
      | nil=>exact absurd hd hk
      | cons a l=>simp
     ·rcases hv with hv|hv
      ·exact .inl (by simpa using hv)
      ·exact .inr hv
  simp only[qtw];refine⟨fun x hx=>?_,?_⟩
  ·rcases List.mem_append.1 hx with hx|hx
   ·obtain⟨d,ds,es,rfl,a1,a2,a3,a4,a5⟩:=hone x hx
    exact⟨0,d,ds,es,rfl,a1,by simpa using a2,a3,a4,a5⟩
   ·obtain⟨j,d,ds,es,a0,a1,a2,a3,a4,a5⟩:=h1 x hx
    refine⟨j+1,d,ds,es,by simpa using a0,a1,by rw[a2]; congr 1; omega,a3,a4,?_⟩;rcases a5 with a5|a5
    ·exact .inl a5
    ·rw[List.any_append,Bool.or_eq_false_iff]at a5
     exact .inr a5.1
  ·rw[List.pairwise_append]
   refine⟨?_,h2,fun x hx y hy=>?_⟩
   ·have hlen:=zfv b at_ (i:Int) p
    generalize q8n b at_ (i:Int) p=l at hlen
    match l,hlen with
    | [],_=>exact List.Pairwise.nil
    | [a],_=>exact List.pairwise_singleton _ _
   ·obtain⟨_,_,_,_,_,a2,_⟩:=hone x hx
    obtain⟨j,_,_,_,_,_,b2,_⟩:=h1 y hy;rintro⟨_,e⟩;rw[a2,b2]at e;omega
theorem ziv {may:Bool} {cl:List qab} {k:Nat} {c:qab} (hc:cl[k]? =some c) {lo:Int} (hlo:lo<=(k:Int)):(∀ x∈skS may cl k c,XOk may cl lo (k:Int) x/\x.clause=(k:Int))/\(skS may cl k c).Pairwise zsj:=by
 unfold skS;split
 ·rename_i h1
  obtain⟨a1,a2⟩:=zbb (k:Int) c.paths (qh9 may cl (k:Int)).1 0;refine⟨fun x hx=>?_,a2⟩;obtain⟨j,d,ds,es,b0,b1,b2,b3,b4,b5⟩:=a1 x hx;exact⟨⟨k,j,c,d,ds,es,b1,hlo,Int.le_refl _,hc,h1,b0,by rw[b2]; simp,b3,b4,b5⟩,b1⟩
 ·exact⟨fun x hx=>by simp at hx,List.Pairwise.nil⟩
theorem zrf {may:Bool} {cl:List qab} {out:List qa1} {k:Nat} (h:Cov cl out k) (hs:∀ s∈out,zp6 may cl s) {c:qab} (hc:cl[k]? =some c):∀ s∈zne out (qym c) (k:Int) (skS may cl k c),zp6 may cl s:=by
 have hnew:zp6 may cl ⟨qym c,(k:Int),(k:Int),skS may cl k c⟩:=by
  obtain⟨a1,a2⟩:=ziv (may:=may) hc (lo:=(k:Int)) (Int.le_refl _);exact⟨fun x hx=>(a1 x hx).1,a2⟩
 rcases qqy out with rfl|⟨l,s,rfl⟩
 ·rw[qy9]
  intro s hs';obtain rfl:=List.mem_singleton.1 hs';exact hnew
 ·rw[qvs]
  have hlast:=h.last;rw[List.getLast?_concat]at hlast;simp only at hlast;obtain⟨a,e,c1,c2,c3,c4,_⟩:=h.at l.length s (qso l s);cases(qym c==1)&&(s.kind==1)with
  | true=>
   rw[cond_true];intro s' hs';rcases List.mem_append.1 hs' with hs'|hs'
   ·exact hs s' (by simp[hs'])
   ·obtain rfl:=List.mem_singleton.1 hs'
    obtain⟨b1,b2⟩:=hs s (by simp);obtain⟨d1,d2⟩:=ziv (may:=may) hc (lo:=s.from_) (by omega);refine⟨fun x hx=>?_,?_⟩
    ·simp only at hx ⊢
     rcases List.mem_append.1 hx with hx|hx
     ·obtain⟨ci,pi,c',d,ds,es,e1,e2,e3,e4⟩:=b1 x hx
      exact⟨ci,pi,c',d,ds,es,e1,e2,by omega,e4⟩
     ·exact(d1 x hx).1
    ·simp only
     rw[List.pairwise_append];refine⟨b2,d2,fun x hx y hy=>?_⟩;obtain⟨ci,_,_,_,_,_,e1,e2,e3,_⟩:=b1 x hx;have e4:=(d1 y hy).2;rintro⟨e5,_⟩;omega
  | false=>
   rw[cond_false];intro s' hs';rcases List.mem_append.1 hs' with hs'|hs'
   ·exact hs s' hs'
   ·obtain rfl:=List.mem_singleton.1 hs'
    exact hnew
theorem zm9 {may:Bool} {cl:List qab}:∀ (suf:List qab) (k:Nat) (out:List qa1),(∀ j,suf[j]? =cl[k+j]?)->Cov cl out k->(∀ s∈out,zp6 may cl s)->∀ s∈qqg may cl out k suf,zp6 may cl s
 | [],k,out,_,_,hs=>hs
 | c::suf,k,out,hsuf,h,hs=>by
  have hc:cl[k]? =some c:=by have:=hsuf 0; simpa using this.symm
  exact zm9 suf (k+1) _ (fun j=>by have:=hsuf (j+1); rw[show k+1+j=k+(j+1) by omega]; simpa using this) (h.step hc (skS may cl k c)) (zrf h hs hc)
theorem zre (may:Bool) (cl:List qab):∀ s∈qqg may cl [] 0 cl,zp6 may cl s:=zm9 (may:=may) (cl:=cl) cl 0 [] (by simp) Cov.nil (fun s hs=>by simp at hs)
theorem q1j {n:Nat} (hn:n<=1073741824) {l:List (List UInt8)} {v:List UInt8} (h:l.length<n):qjl n l v=some (l.any (· == v)):=by
 unfold qjl;refine(qcy (B:=qhr n l v) (fun k=>((k:Nat):Int)) (l:=l) (fun x=>bif x==v then some true else none) (rest:=some false) (fun k x nx hx=>?_) (fun nx=>by simp only[qhr,qaz,qas,cond_false]) (n:=n) h).trans ?_
 ·have hk:=qb0 hx
  simp only[qhr,qaz,qa7 hk,cond_true,qal hx,qah];rw[qcg (by omega),qyr]
 ·rw[qy3,qyr]
  cases l.any (· == v)<;>rfl
theorem zam {l:List (List UInt8)} {v:List UInt8} (h:v∈l):l.any (· == v)=true:=List.any_eq_true.2 ⟨v,h,by simp⟩
theorem zjh {c:qab} {d:qae} {ds:List qae} {es:List qag} (h:(⟨d::ds,es⟩:qa6)∈c.paths):d.labels.length<=qde c/\d.keys.length<=qde c:=by
 have h1:=qb6 qjt h;have h2:qia d<=qjt ⟨d::ds,es⟩:=by unfold qjt; simp only[List.map_cons,List.sum_cons]; omega
 have h3:=qeb d.labels;have h4:=qeb d.keys;have h5:qz6 d.labels+qz6 d.keys<=qia d:=by unfold qia; omega
 have h6:(c.paths.map qjt).sum<=qde c:=by unfold qde qwo; omega
 omega
section
variable {n:Nat} (hn:n<=1073741824) {cl:List qab} {may:Bool}
include hn
theorem zho (h:8 * qcn cl+400<n) (hN:∀ i,i<cl.length->∃ nm:List (List UInt8)×List Int,qh2 n ⟨cl⟩ (i:Int)=some (qh9 may cl (i:Int))/\qh9 may cl (i:Int)=(nm.1,nm.2,0)/\nm.1.length<=2 * qcn cl)
  {out:List qa1} {i:Nat} {s:qa1} (hi:i<1073741824) (hs:out[i]? =some s) (hsk:zp6 may cl s) (hlen:s.seeks.length<n) (nx:Int->Option Bool):qan (qfc n out (i:Int) cl nx) n (0:Int)=nx ((i+1:Nat):Int):=by
 obtain⟨s1,s2,s3,s4⟩:=s;obtain⟨hx,hp⟩:=hsk;simp only at hx hp hlen;refine qjo (B:=qfc n out (i:Int) cl nx) (fun j=>((j:Nat):Int)) s4.length (r:=nx ((i+1:Nat):Int)) (fun k hk nx2=>?_) (fun nx2=>?_) hlen
 ·have hy:=List.getElem?_eq_getElem hk
  have hm:=List.getElem_mem hk;generalize hxe:s4[k]=x at hy hm;obtain⟨ci,pi,c,d,ds,es,e1,e2,e3,e4,e5,e6,e7,e8,e9,e10⟩:=hx x hm;have hcm:=qbk e4;have hcz:qde c<=qcn cl:=qb6 qde hcm;have hnd:=zjh (qbk e6);have hpl:=qb0 e6;obtain⟨⟨ns,ks⟩,hn1,hn2,hn3⟩:=hN ci (qb0 e4);have hl1:=q1j hn (l:=d.labels) (v:=x.label) (by omega);have hl2:=q1j hn (l:=d.keys) (v:=x.key) (by omega);simp only at hn2 hn3;have hl3:=q1j hn (l:=ns) (v:=d.var_) (by omega);rw[zam e8]at hl1;rw[zam e9]at hl2;rw[hn2]at e10;obtain⟨y1,y2,y3,y4⟩:=x;simp only at e1 e7 hl1 hl2;subst e1 e7;have hj:qan (qfd n (k:Int) out (i:Int) (ci:Int) (pi:Int) nx2) n (0:Int)=nx2 ((k+1:Nat):Int):=by
   refine qjo (B:=qfd n (k:Int) out (i:Int) (ci:Int) (pi:Int) nx2) (fun j=>((j:Nat):Int)) k (r:=nx2 ((k+1:Nat):Int)) (fun j hj nx3=>?_) (fun nx3=>?_) (by omega)
   ·have hz:=List.getElem?_eq_getElem (show j<s4.length by omega)
    have hne:zsj s4[j] s4[k]:=List.pairwise_iff_getElem.1 hp j k (by omega) hk hj;rw[hxe]at hne;generalize s4[j]=z at hz hne;obtain⟨z1,z2,z3,z4⟩:=z;unfold zsj at hne;simp only at hne;simp only[qfd,qa7 hj,cond_true,qal hs,qal hz,qah];by_cases hzc:z1=(ci:Int)
    ·subst hzc
     have:(z2==(pi:Int))=false:=by rw[beq_eq_false_iff_ne]; exact fun e=>hne ⟨rfl,e⟩
     rw[beq_self_eq_true];simp only[qd6,qah,cond_true,qal hz,this,cond_false];rw[qcg (by omega)]
    ·have:(z1==(ci:Int))=false:=by rw[beq_eq_false_iff_ne]; exact hzc
     rw[this];simp only[qaw,cond_false,qah];rw[qcg (by omega)]
   ·simp only[qfd,qas,cond_false]
    rw[qcg (by omega)]
  obtain⟨x1,x2,x3,⟨x4,x5,⟨x6,x7,x8,x9,x10,x11⟩,x12,x13⟩,x14,x15,x16,x17,x18,x19,x20,x21,x22⟩:=c;obtain⟨v1,v2,v3,v4⟩:=d;simp only at e5 e6 e2 e3 hl1 hl2 hl3 e10 hpl;subst e5;have hi0:idx ((⟨v1,v2,v3,v4⟩:qae)::ds) (0:Int)=some ⟨v1,v2,v3,v4⟩:=qal (i:=0) rfl;simp only[qfc,qal hs,qah,qgn,qa7 hk,cond_true,qal hy];rw[decide_eq_false (by omega:¬ (ci:Int)<s2)];simp only[Bool.not_false,qd6,qah,cond_false,qal hs];rw[decide_eq_false (by omega:¬ (ci:Int)>s3)];rw[decide_eq_false (by omega:¬ (pi:Int)<0)];simp only[Bool.not_false,qd6,qah,cond_false,qal e4,qck];rw[decide_eq_false (by omega:¬ (pi:Int)≥((x2.length:Nat):Int))];simp only[Bool.not_false,qd6,qah,cond_false,bne_self_eq_false,qal e6,hi0,hn1,hn2,hl1,hl2,hl3,Bool.not_true,Bool.true_and];rcases e10 with rfl|e10
  ·simp only[beq_self_eq_true,Bool.not_true,qaw,cond_false,qah]
   exact hj
  ·rw[e10]
   cases(v1==[])with
   | true=>simp only[Bool.not_true,qaw,cond_false,qah]; exact hj
   | false=>simp only[Bool.not_false,qd6,cond_true,qah,cond_false]; exact hj
 ·simp only[qfc,qal hs,qah,qgn,qas,cond_false]
  rw[qcg (by omega)]
end
section
variable {n:Nat} (hn:n<=1073741824) {cl:List qab} (h:8 * qcn cl+400<n) (hM:∀ c∈cl,LenOk c)
include hn h hM
theorem zl8:qpo n ⟨cl⟩=some true:=by
 obtain⟨b,hb⟩:=q8c hn (cl:=cl) (by omega);have c1:=(q2x hn (cl:=cl) (by omega) hM).1;have hwf:=q8d hn (cl:=cl) (by omega) hM;have hNB:=fun at_=>q4c hn h hM at_
 generalize q8u n cl=may at *;have hnl:=fun at_=>(zfg hwf at_).1;obtain⟨s1,_,s3⟩:=q4e may cl;unfold qpo;simp only[hb,qah,q28 (n:=n) (by omega),c1];cases b with
 | true=>rfl
 | false=>
  simp only[cond_false];unfold qz8 at s1 s3 ⊢;by_cases he:(qrs may cl).2=0
  ·rw[if_pos he]at s1 s3 ⊢
   simp only at s1 s3;simp only[qah];rw[show((0:Int) != 0)=false from rfl,cond_false];obtain⟨hm,hnm⟩:=q8f he;have hsk:=zre may cl;generalize qqg may cl [] 0 cl=out at s1 s3 hsk;refine qjo (B:=qgq n out cl) (fun j=>((j:Nat):Int)) out.length (r:=some true) (fun i hi nx=>?_) (fun nx=>?_) (by omega)
   ·have hs:=List.getElem?_eq_getElem hi
    have hmem:=List.getElem_mem hi;have:=s3 _ hmem;have hk:=hsk _ hmem;generalize out[i]=s at hs this hk;simp only[qgq,qfl,qa7 hi,cond_true];exact zho hn h (fun i hi=>by obtain⟨nm,h1⟩:=hnm i (by omega); refine⟨nm,(hNB i).2,h1,?_⟩; have:=hnl (i:Int); rw[h1]at this; exact this) (by omega) hs hk (by omega) nx
   ·simp only[qgq,qfl,qas,cond_false,q28 (n:=n) (by omega),qah]
  ·rw[if_neg he]
   simp only[qah];rw[show((qrs may cl).2 != 0)=true from bne_iff_ne.2 he];rfl
end
end W
end
section
open Go Go.Proofs Ax
namespace W
open Go.Proofs.YtmblnmgpmdapnaaGreat
theorem qms:∀ l:List qaa,qf1 l=(l.map fun x=>qki x+1).sum+1
 | []=>rfl
 | x::l=>by simp only[qf1,List.map_cons,List.sum_cons]; rw[qms l]; omega
theorem qmw:∀ l:List Val,q25 l=(l.map fun x=>zah x+1).sum+1
 | []=>rfl
 | x::l=>by simp only[q25,List.map_cons,List.sum_cons]; rw[qmw l]; omega
def zs9:qid->Nat
 | ⟨cl⟩=>qcn cl
variable {Hd:Type} {enc:TypeId×Value->Hd} {w:World}
theorem zis {H:PH}:∀ {a:List PV} {b:List PV} {x y:List Value},qdv H a x->qdv H b y->qdv H (a++b) (x++y)
 | [],_,x,_,h,h'=>by
  have:x=[]:=by simpa[qdv]using h
  subst this; exact h'
 | p::a,_,x,_,h,h'=>by
  simp only[qdv]at h;obtain⟨v,vs,rfl,h1,h2⟩:=h;simp only[List.cons_append,qdv];exact⟨_,_,rfl,h1,zis h2 h'⟩
theorem qt8 {H:PH} {a b:List PV} {cs:List Value} {o z:Nat} (h:qdv H a ((cs.drop o).take z)/\∀ u∈(cs.drop o).take z,u.oneCell'=true) (h':qdv H b (cs.drop (o+z))/\∀ u∈cs.drop (o+z),u.oneCell'=true) :
  qdv H (a++b) (cs.drop o)/\∀ u∈cs.drop o,u.oneCell'=true:=by
 have e:cs.drop o=(cs.drop o).take z++cs.drop (o+z):=by rw[← List.drop_drop,List.take_append_drop]
 refine⟨by rw[e]; exact zis h.1 h'.1,fun u hu=>?_⟩;rw[e]at hu;rcases List.mem_append.1 hu with hu|hu
 ·exact h.2 u hu
 ·exact h'.2 u hu
theorem znp {H:PH} {cs:List Value} {z:Nat} (h:cs.length=z):qdv H [] (cs.drop z)/\∀ u∈cs.drop z,u.oneCell'=true:=by
 have:cs.drop z=[]:=List.drop_eq_nil_of_le (by omega);rw[this];exact⟨rfl,fun u hu=>by cases hu⟩
theorem zix {α:Type} {sz:α->Nat}:∀ (l:List α) (elems:List (DataW Hd)),l.length=elems.length->(∀ (i:Nat) (d:DataW Hd) (v:α),elems[i]? =some d->l[i]? =some v->sz v<=Rows.uptoBulk d)->(l.map sz).sum<=Rows.uptoBulkAll elems
 | [],_,_,_=>Nat.zero_le _
 | v::l,[],h,_=>by simp at h
 | v::l,d::elems,h,hh=>by
  have:=zix l elems (by simpa using h) fun i d v hd hv=>hh (i+1) d v (by simpa using hd) (by simpa using hv)
  have:=hh 0 d v rfl rfl;simp only[List.map_cons,List.sum_cons,Rows.uptoBulkAll]; omega
theorem qqh {α:Type} [Inhabited α] {P:Program} {t e:TypeId} {z n:Nat} {row:α->List PV} {sz:α->Nat} {rws:List α->List (List PV)} (ht:P.underlying t=some (.slice e)) (hz:P.cellsOf e=z) (hz1:1<=z)
  (hrow:∀ v,(row v).length=z) (hr:∀ l,rws l=l.map row) (hel:∀ m,m<n->qgm enc P w e m row sz Rows.uptoBulk):qgm enc P w t n (fun l:List α=>[PV.sl (rws l)]) (fun l=>(l.map sz).sum+1) Rows.uptoBulk:=by
 intro cs x h;obtain⟨l,v,rfl,o,r,b⟩:=zjl ht hz hz1 hrow hel h;refine⟨l,?_,by simpa using o,?_⟩
 ·simp only[qdv]
  exact⟨_,_,rfl,by rw[hr]; exact r,rfl⟩
 ·rcases b with ⟨e,rfl⟩|⟨el,rest,e,hl,hb⟩
  ·rw[e]; simp[Rows.uptoBulk]
  ·rw[e]
   have:=zix l el hl hb;simp only[Rows.uptoBulk]; omega
theorem rd3 (n:Nat):qgm (α:=Int) enc Tryz.prog w 3 n (fun i=>[PV.int .i64 i]) (fun _=>1) Rows.uptoBulk:=by
 intro cs x h;obtain⟨k,e,rfl,_⟩:=DataW.trod_int Tryz.underlying3 h;cases e;exact⟨k,by simp[qdv,qco],by simp[Value.oneCell'],by simp[Rows.uptoBulk]⟩
theorem rd4 (n:Nat):qgm (α:=Bool) enc Tryz.prog w 4 n (fun b=>[PV.bool b]) (fun _=>1) Rows.uptoBulk:=by
 intro cs x h;obtain⟨k,e,rfl⟩:=DataW.trod_bool Tryz.underlying4 h;cases e;exact⟨k,by simp[qdv,qco],by simp[Value.oneCell'],by simp[Rows.uptoBulk]⟩
theorem rd2 (n:Nat):qgm (α:=Int) enc Tryz.prog w 2 n (fun i=>[PV.int .i64 i]) (fun _=>1) Rows.uptoBulk:=by
 intro cs x h;obtain⟨k,e,rfl,_⟩:=DataW.trod_int Tryz.underlying2 h;cases e;exact⟨k,by simp[qdv,qco],by simp[Value.oneCell'],by simp[Rows.uptoBulk]⟩
theorem rd9 (n:Nat):qgm (α:=List UInt8) enc Tryz.prog w 9 n (fun s=>[PV.str s]) (fun s=>1+s.length) Rows.uptoBulk:=by
 intro cs x h;obtain⟨s,e,rfl,_⟩:=DataW.trod_string Tryz.underlying9 h;cases e;exact⟨s.data.toList,by simp[qdv,qco],by simp[Value.oneCell'],by simp[Rows.uptoBulk]; omega⟩
theorem zrr (n:Nat):qgm (α:=List (List UInt8)) enc Tryz.prog w 42 n (fun l=>[PV.sl (qai l)]) (fun l=>(l.map (fun s=>1+s.length)).sum+1) Rows.uptoBulk:=
 qqh (α:=List UInt8) (z:=1) (rws:=qai) Tryz.underlying42 (by kernel_rfl) (by decide) (fun _=>rfl) (fun _=>rfl) (fun m hm=>rd9 m)
theorem zts (n:Nat):qgm (α:=Val) enc Tryz.prog w 44 n (Val.cells) (fun x=>zah x+1) Rows.uptoBulk:=by
 induction n using Nat.strongRecOn with
 | ind n ih=>
 intro cs x h;obtain⟨xs,m,rfl,rfl,hcl,hxl,hf⟩:=DataW.trod_struct Tryz.underlying44 h;rw[show Tryz.prog.cellsOf 44=6 by kernel_rfl]at hcl;have hxl':xs.length=6:=hxl;obtain⟨y0,y1,y2,y3,y4,y5,rfl⟩:∃ y0 y1 y2 y3 y4 y5,xs=[y0,y1,y2,y3,y4,y5]:=by
  match xs,hxl' with
  | [y0,y1,y2,y3,y4,y5],_=>exact⟨y0,y1,y2,y3,y4,y5,rfl⟩
 have f0:=hf 0 _ rfl;change DataW.trod enc Tryz.prog w 0 _ true m 3 ((cs.drop 0).take (Tryz.prog.cellsOf 3))=some y0 at f0;rw[show Tryz.prog.cellsOf 3=1 by kernel_rfl]at f0;obtain⟨v0,r0,o0,b0⟩:=rd3 m _ _ f0;have f1:=hf 1 _ rfl;change DataW.trod enc Tryz.prog w 0 _ true m 4 ((cs.drop 1).take (Tryz.prog.cellsOf 4))=some y1 at f1;rw[show Tryz.prog.cellsOf 4=1 by kernel_rfl]at f1;obtain⟨v1,r1,o1,b1⟩:=rd4 m _ _ f1;have f2:=hf 2 _ rfl;change DataW.trod enc Tryz.prog w 0 _ true m 2 ((cs.drop 2).take (Tryz.prog.cellsOf 2))=some y2 at f2;rw[show Tryz.prog.cellsOf 2=1 by kernel_rfl]at f2;obtain⟨v2,r2,o2,b2⟩:=rd2 m _ _ f2;have f3:=hf 3 _ rfl;change DataW.trod enc Tryz.prog w 0 _ true m 9 ((cs.drop 3).take (Tryz.prog.cellsOf 9))=some y3 at f3;rw[show Tryz.prog.cellsOf 9=1 by kernel_rfl]at f3;obtain⟨v3,r3,o3,b3⟩:=rd9 m _ _ f3;have f4:=hf 4 _ rfl;change DataW.trod enc Tryz.prog w 0 _ true m 41 ((cs.drop 4).take (Tryz.prog.cellsOf 41))=some y4 at f4;rw[show Tryz.prog.cellsOf 41=1 by kernel_rfl]at f4;obtain⟨v4,r4,o4,b4⟩:=(qqh (α:=Val) (z:=6) (rws:=Val.rows) Tryz.underlying41 (by kernel_rfl) (by decide) (q4p) (rows_eq) (fun j hj=>ih j (Nat.lt_trans hj (Nat.lt_succ_self _)))) _ _ f4
 have f5:=hf 5 _ rfl;change DataW.trod enc Tryz.prog w 0 _ true m 42 ((cs.drop 5).take (Tryz.prog.cellsOf 42))=some y5 at f5;rw[show Tryz.prog.cellsOf 42=1 by kernel_rfl]at f5;obtain⟨v5,r5,o5,b5⟩:=zrr m _ _ f5;have key:=qt8 ⟨r0,o0⟩ (qt8 ⟨r1,o1⟩ (qt8 ⟨r2,o2⟩ (qt8 ⟨r3,o3⟩ (qt8 ⟨r4,o4⟩ (qt8 ⟨r5,o5⟩ (znp hcl))))));rw[List.drop_zero]at key;refine⟨⟨v0,v1,v2,v3,v4,v5⟩,?_,key.2,?_⟩
 ·have key:=key.1
  exact key
 ·simp only[zah,Rows.uptoBulk,Rows.uptoBulkAll,List.map_cons,List.map_nil,qms,qmw,qz6,qwo,qcn]
  simp only[]at b0 b1 b2 b3 b4 b5;omega
theorem zsb (n:Nat):qgm (α:=qaa) enc Tryz.prog w 46 n (qaa.cells) (fun x=>qki x+1) Rows.uptoBulk:=by
 induction n using Nat.strongRecOn with
 | ind n ih=>
 intro cs x h;obtain⟨xs,m,rfl,rfl,hcl,hxl,hf⟩:=DataW.trod_struct Tryz.underlying46 h;rw[show Tryz.prog.cellsOf 46=10 by kernel_rfl]at hcl;have hxl':xs.length=5:=hxl;obtain⟨y0,y1,y2,y3,y4,rfl⟩:∃ y0 y1 y2 y3 y4,xs=[y0,y1,y2,y3,y4]:=by
  match xs,hxl' with
  | [y0,y1,y2,y3,y4],_=>exact⟨y0,y1,y2,y3,y4,rfl⟩
 have f0:=hf 0 _ rfl;change DataW.trod enc Tryz.prog w 0 _ true m 3 ((cs.drop 0).take (Tryz.prog.cellsOf 3))=some y0 at f0;rw[show Tryz.prog.cellsOf 3=1 by kernel_rfl]at f0;obtain⟨v0,r0,o0,b0⟩:=rd3 m _ _ f0;have f1:=hf 1 _ rfl;change DataW.trod enc Tryz.prog w 0 _ true m 9 ((cs.drop 1).take (Tryz.prog.cellsOf 9))=some y1 at f1;rw[show Tryz.prog.cellsOf 9=1 by kernel_rfl]at f1;obtain⟨v1,r1,o1,b1⟩:=rd9 m _ _ f1;have f2:=hf 2 _ rfl;change DataW.trod enc Tryz.prog w 0 _ true m 44 ((cs.drop 2).take (Tryz.prog.cellsOf 44))=some y2 at f2;rw[show Tryz.prog.cellsOf 44=6 by kernel_rfl]at f2;obtain⟨v2,r2,o2,b2⟩:=zts m _ _ f2;have f3:=hf 3 _ rfl;change DataW.trod enc Tryz.prog w 0 _ true m 42 ((cs.drop 8).take (Tryz.prog.cellsOf 42))=some y3 at f3;rw[show Tryz.prog.cellsOf 42=1 by kernel_rfl]at f3;obtain⟨v3,r3,o3,b3⟩:=zrr m _ _ f3;have f4:=hf 4 _ rfl;change DataW.trod enc Tryz.prog w 0 _ true m 40 ((cs.drop 9).take (Tryz.prog.cellsOf 40))=some y4 at f4;rw[show Tryz.prog.cellsOf 40=1 by kernel_rfl]at f4;obtain⟨v4,r4,o4,b4⟩:=(qqh (α:=qaa) (z:=10) (rws:=qaa.rows) Tryz.underlying40 (by kernel_rfl) (by decide) (qaa.width) (qaa.rows_eq) (fun j hj=>ih j (Nat.lt_trans hj (Nat.lt_succ_self _)))) _ _ f4
 have bb2:=b2;have key:=qt8 ⟨r0,o0⟩ (qt8 ⟨r1,o1⟩ (qt8 ⟨r2,o2⟩ (qt8 ⟨r3,o3⟩ (qt8 ⟨r4,o4⟩ (znp hcl)))));rw[List.drop_zero]at key;refine⟨⟨v0,v1,v2,v3,v4⟩,?_,key.2,?_⟩
 ·have key:=key.1
  obtain⟨v2z0,v2z1,v2z2,v2z3,v2z4,v2z5⟩:=v2;exact key
 ·simp only[qki,Rows.uptoBulk,Rows.uptoBulkAll,List.map_cons,List.map_nil,qms,qmw,qz6,qwo,qcn]
  simp only[]at b0 b1 b2 b3 b4;omega
theorem zsa (n:Nat):qgm (α:=List (qaa)) enc Tryz.prog w 40 n (fun l=>[PV.sl (qaa.rows l)]) (fun l=>(l.map (fun x=>qki x+1)).sum+1) Rows.uptoBulk:=
 qqh (α:=qaa) (z:=10) (rws:=qaa.rows) Tryz.underlying40 (by kernel_rfl) (by decide) (qaa.width) (qaa.rows_eq) (fun m hm=>zsb m)
theorem ztx (n:Nat):qgm (α:=qae) enc Tryz.prog w 55 n (qae.cells) (qia) Rows.uptoBulk:=by
 intro cs x h;obtain⟨xs,m,rfl,rfl,hcl,hxl,hf⟩:=DataW.trod_struct Tryz.underlying55 h;rw[show Tryz.prog.cellsOf 55=4 by kernel_rfl]at hcl;have hxl':xs.length=4:=hxl;obtain⟨y0,y1,y2,y3,rfl⟩:∃ y0 y1 y2 y3,xs=[y0,y1,y2,y3]:=by
  match xs,hxl' with
  | [y0,y1,y2,y3],_=>exact⟨y0,y1,y2,y3,rfl⟩
 have f0:=hf 0 _ rfl;change DataW.trod enc Tryz.prog w 0 _ true m 9 ((cs.drop 0).take (Tryz.prog.cellsOf 9))=some y0 at f0;rw[show Tryz.prog.cellsOf 9=1 by kernel_rfl]at f0;obtain⟨v0,r0,o0,b0⟩:=rd9 m _ _ f0;have f1:=hf 1 _ rfl;change DataW.trod enc Tryz.prog w 0 _ true m 42 ((cs.drop 1).take (Tryz.prog.cellsOf 42))=some y1 at f1;rw[show Tryz.prog.cellsOf 42=1 by kernel_rfl]at f1;obtain⟨v1,r1,o1,b1⟩:=zrr m _ _ f1;have f2:=hf 2 _ rfl;change DataW.trod enc Tryz.prog w 0 _ true m 42 ((cs.drop 2).take (Tryz.prog.cellsOf 42))=some y2 at f2;rw[show Tryz.prog.cellsOf 42=1 by kernel_rfl]at f2;obtain⟨v2,r2,o2,b2⟩:=zrr m _ _ f2;have f3:=hf 3 _ rfl;change DataW.trod enc Tryz.prog w 0 _ true m 40 ((cs.drop 3).take (Tryz.prog.cellsOf 40))=some y3 at f3;rw[show Tryz.prog.cellsOf 40=1 by kernel_rfl]at f3;obtain⟨v3,r3,o3,b3⟩:=zsa m _ _ f3;have key:=qt8 ⟨r0,o0⟩ (qt8 ⟨r1,o1⟩ (qt8 ⟨r2,o2⟩ (qt8 ⟨r3,o3⟩ (znp hcl))));rw[List.drop_zero]at key;refine⟨⟨v0,v1,v2,v3⟩,?_,key.2,?_⟩
 ·have key:=key.1
  exact key
 ·simp only[qia,Rows.uptoBulk,Rows.uptoBulkAll,List.map_cons,List.map_nil,qms,qmw,qz6,qwo,qcn]
  simp only[]at b0 b1 b2 b3;omega
theorem zt1 (n:Nat):qgm (α:=qag) enc Tryz.prog w 68 n (qag.cells) (qmt) Rows.uptoBulk:=by
 intro cs x h;obtain⟨xs,m,rfl,rfl,hcl,hxl,hf⟩:=DataW.trod_struct Tryz.underlying68 h;rw[show Tryz.prog.cellsOf 68=5 by kernel_rfl]at hcl;have hxl':xs.length=5:=hxl;obtain⟨y0,y1,y2,y3,y4,rfl⟩:∃ y0 y1 y2 y3 y4,xs=[y0,y1,y2,y3,y4]:=by
  match xs,hxl' with
  | [y0,y1,y2,y3,y4],_=>exact⟨y0,y1,y2,y3,y4,rfl⟩
 have f0:=hf 0 _ rfl;change DataW.trod enc Tryz.prog w 0 _ true m 9 ((cs.drop 0).take (Tryz.prog.cellsOf 9))=some y0 at f0;rw[show Tryz.prog.cellsOf 9=1 by kernel_rfl]at f0;obtain⟨v0,r0,o0,b0⟩:=rd9 m _ _ f0;have f1:=hf 1 _ rfl;change DataW.trod enc Tryz.prog w 0 _ true m 9 ((cs.drop 1).take (Tryz.prog.cellsOf 9))=some y1 at f1;rw[show Tryz.prog.cellsOf 9=1 by kernel_rfl]at f1;obtain⟨v1,r1,o1,b1⟩:=rd9 m _ _ f1;have f2:=hf 2 _ rfl;change DataW.trod enc Tryz.prog w 0 _ true m 3 ((cs.drop 2).take (Tryz.prog.cellsOf 3))=some y2 at f2;rw[show Tryz.prog.cellsOf 3=1 by kernel_rfl]at f2;obtain⟨v2,r2,o2,b2⟩:=rd3 m _ _ f2;have f3:=hf 3 _ rfl;change DataW.trod enc Tryz.prog w 0 _ true m 42 ((cs.drop 3).take (Tryz.prog.cellsOf 42))=some y3 at f3;rw[show Tryz.prog.cellsOf 42=1 by kernel_rfl]at f3;obtain⟨v3,r3,o3,b3⟩:=zrr m _ _ f3;have f4:=hf 4 _ rfl;change DataW.trod enc Tryz.prog w 0 _ true m 40 ((cs.drop 4).take (Tryz.prog.cellsOf 40))=some y4 at f4;rw[show Tryz.prog.cellsOf 40=1 by kernel_rfl]at f4;obtain⟨v4,r4,o4,b4⟩:=zsa m _ _ f4;have key:=qt8 ⟨r0,o0⟩ (qt8 ⟨r1,o1⟩ (qt8 ⟨r2,o2⟩ (qt8 ⟨r3,o3⟩ (qt8 ⟨r4,o4⟩ (znp hcl)))));rw[List.drop_zero]at key;refine⟨⟨v0,v1,v2,v3,v4⟩,?_,key.2,?_⟩
 ·have key:=key.1
  exact key
 ·simp only[qmt,Rows.uptoBulk,Rows.uptoBulkAll,List.map_cons,List.map_nil,qms,qmw,qz6,qwo,qcn]
  simp only[]at b0 b1 b2 b3 b4;omega
theorem zty (n:Nat):qgm (α:=List (qae)) enc Tryz.prog w 56 n (fun l=>[PV.sl (qae.rows l)]) (fun l=>(l.map (qia)).sum+1) Rows.uptoBulk:=
 qqh (α:=qae) (z:=4) (rws:=qae.rows) Tryz.underlying56 (by kernel_rfl) (by decide) (qea.hz) (fun _=>rfl) (fun m hm=>ztx m)
theorem ztz (n:Nat):qgm (α:=List (qag)) enc Tryz.prog w 57 n (fun l=>[PV.sl (qag.rows l)]) (fun l=>(l.map (qmt)).sum+1) Rows.uptoBulk:=
 qqh (α:=qag) (z:=5) (rws:=qag.rows) Tryz.underlying57 (by kernel_rfl) (by decide) (qgu.hz) (fun _=>rfl) (fun m hm=>zt1 m)
theorem zt0 (n:Nat):qgm (α:=qa6) enc Tryz.prog w 59 n (qa6.cells) (qjt) Rows.uptoBulk:=by
 intro cs x h;obtain⟨xs,m,rfl,rfl,hcl,hxl,hf⟩:=DataW.trod_struct Tryz.underlying59 h;rw[show Tryz.prog.cellsOf 59=2 by kernel_rfl]at hcl;have hxl':xs.length=2:=hxl;obtain⟨y0,y1,rfl⟩:∃ y0 y1,xs=[y0,y1]:=by
  match xs,hxl' with
  | [y0,y1],_=>exact⟨y0,y1,rfl⟩
 have f0:=hf 0 _ rfl;change DataW.trod enc Tryz.prog w 0 _ true m 56 ((cs.drop 0).take (Tryz.prog.cellsOf 56))=some y0 at f0;rw[show Tryz.prog.cellsOf 56=1 by kernel_rfl]at f0;obtain⟨v0,r0,o0,b0⟩:=zty m _ _ f0;have f1:=hf 1 _ rfl;change DataW.trod enc Tryz.prog w 0 _ true m 57 ((cs.drop 1).take (Tryz.prog.cellsOf 57))=some y1 at f1;rw[show Tryz.prog.cellsOf 57=1 by kernel_rfl]at f1;obtain⟨v1,r1,o1,b1⟩:=ztz m _ _ f1;have key:=qt8 ⟨r0,o0⟩ (qt8 ⟨r1,o1⟩ (znp hcl));rw[List.drop_zero]at key;refine⟨⟨v0,v1⟩,?_,key.2,?_⟩
 ·have key:=key.1
  exact key
 ·simp only[qjt,Rows.uptoBulk,Rows.uptoBulkAll,List.map_cons,List.map_nil,qms,qmw,qz6,qwo,qcn]
  simp only[]at b0 b1;omega
theorem zt2 (n:Nat):qgm (α:=qbj) enc Tryz.prog w 70 n (qbj.cells) (qsb) Rows.uptoBulk:=by
 intro cs x h;obtain⟨xs,m,rfl,rfl,hcl,hxl,hf⟩:=DataW.trod_struct Tryz.underlying70 h;rw[show Tryz.prog.cellsOf 70=11 by kernel_rfl]at hcl;have hxl':xs.length=2:=hxl;obtain⟨y0,y1,rfl⟩:∃ y0 y1,xs=[y0,y1]:=by
  match xs,hxl' with
  | [y0,y1],_=>exact⟨y0,y1,rfl⟩
 have f0:=hf 0 _ rfl;change DataW.trod enc Tryz.prog w 0 _ true m 46 ((cs.drop 0).take (Tryz.prog.cellsOf 46))=some y0 at f0;rw[show Tryz.prog.cellsOf 46=10 by kernel_rfl]at f0;obtain⟨v0,r0,o0,b0⟩:=zsb m _ _ f0;have f1:=hf 1 _ rfl;change DataW.trod enc Tryz.prog w 0 _ true m 9 ((cs.drop 10).take (Tryz.prog.cellsOf 9))=some y1 at f1;rw[show Tryz.prog.cellsOf 9=1 by kernel_rfl]at f1;obtain⟨v1,r1,o1,b1⟩:=rd9 m _ _ f1;have bb0:=b0;have key:=qt8 ⟨r0,o0⟩ (qt8 ⟨r1,o1⟩ (znp hcl));rw[List.drop_zero]at key;refine⟨⟨v0,v1⟩,?_,key.2,?_⟩
 ·have key:=key.1
  obtain⟨v0z0,v0z1,⟨v0_2_0,v0_2_1,v0_2_2,v0_2_3,v0_2_4,v0_2_5⟩,v0z3,v0z4⟩:=v0;exact key
 ·simp only[qsb,Rows.uptoBulk,Rows.uptoBulkAll,List.map_cons,List.map_nil,qms,qmw,qz6,qwo,qcn]
  simp only[]at b0 b1;omega
theorem zt3 (n:Nat):qgm (α:=qar) enc Tryz.prog w 72 n (qar.cells) (qhy) Rows.uptoBulk:=by
 intro cs x h;obtain⟨xs,m,rfl,rfl,hcl,hxl,hf⟩:=DataW.trod_struct Tryz.underlying72 h;rw[show Tryz.prog.cellsOf 72=11 by kernel_rfl]at hcl;have hxl':xs.length=2:=hxl;obtain⟨y0,y1,rfl⟩:∃ y0 y1,xs=[y0,y1]:=by
  match xs,hxl' with
  | [y0,y1],_=>exact⟨y0,y1,rfl⟩
 have f0:=hf 0 _ rfl;change DataW.trod enc Tryz.prog w 0 _ true m 46 ((cs.drop 0).take (Tryz.prog.cellsOf 46))=some y0 at f0;rw[show Tryz.prog.cellsOf 46=10 by kernel_rfl]at f0;obtain⟨v0,r0,o0,b0⟩:=zsb m _ _ f0;have f1:=hf 1 _ rfl;change DataW.trod enc Tryz.prog w 0 _ true m 4 ((cs.drop 10).take (Tryz.prog.cellsOf 4))=some y1 at f1;rw[show Tryz.prog.cellsOf 4=1 by kernel_rfl]at f1;obtain⟨v1,r1,o1,b1⟩:=rd4 m _ _ f1;have bb0:=b0;have key:=qt8 ⟨r0,o0⟩ (qt8 ⟨r1,o1⟩ (znp hcl));rw[List.drop_zero]at key;refine⟨⟨v0,v1⟩,?_,key.2,?_⟩
 ·have key:=key.1
  obtain⟨v0z0,v0z1,⟨v0_2_0,v0_2_1,v0_2_2,v0_2_3,v0_2_4,v0_2_5⟩,v0z3,v0z4⟩:=v0;exact key
 ·simp only[qhy,Rows.uptoBulk,Rows.uptoBulkAll,List.map_cons,List.map_nil,qms,qmw,qz6,qwo,qcn]
  simp only[]at b0 b1;omega
theorem zt4 (n:Nat):qgm (α:=qaf) enc Tryz.prog w 74 n (qaf.cells) (qib) Rows.uptoBulk:=by
 intro cs x h;obtain⟨xs,m,rfl,rfl,hcl,hxl,hf⟩:=DataW.trod_struct Tryz.underlying74 h;rw[show Tryz.prog.cellsOf 74=13 by kernel_rfl]at hcl;have hxl':xs.length=4:=hxl;obtain⟨y0,y1,y2,y3,rfl⟩:∃ y0 y1 y2 y3,xs=[y0,y1,y2,y3]:=by
  match xs,hxl' with
  | [y0,y1,y2,y3],_=>exact⟨y0,y1,y2,y3,rfl⟩
 have f0:=hf 0 _ rfl;change DataW.trod enc Tryz.prog w 0 _ true m 9 ((cs.drop 0).take (Tryz.prog.cellsOf 9))=some y0 at f0;rw[show Tryz.prog.cellsOf 9=1 by kernel_rfl]at f0;obtain⟨v0,r0,o0,b0⟩:=rd9 m _ _ f0;have f1:=hf 1 _ rfl;change DataW.trod enc Tryz.prog w 0 _ true m 9 ((cs.drop 1).take (Tryz.prog.cellsOf 9))=some y1 at f1;rw[show Tryz.prog.cellsOf 9=1 by kernel_rfl]at f1;obtain⟨v1,r1,o1,b1⟩:=rd9 m _ _ f1;have f2:=hf 2 _ rfl;change DataW.trod enc Tryz.prog w 0 _ true m 9 ((cs.drop 2).take (Tryz.prog.cellsOf 9))=some y2 at f2;rw[show Tryz.prog.cellsOf 9=1 by kernel_rfl]at f2;obtain⟨v2,r2,o2,b2⟩:=rd9 m _ _ f2;have f3:=hf 3 _ rfl;change DataW.trod enc Tryz.prog w 0 _ true m 46 ((cs.drop 3).take (Tryz.prog.cellsOf 46))=some y3 at f3;rw[show Tryz.prog.cellsOf 46=10 by kernel_rfl]at f3;obtain⟨v3,r3,o3,b3⟩:=zsb m _ _ f3;have bb3:=b3;have key:=qt8 ⟨r0,o0⟩ (qt8 ⟨r1,o1⟩ (qt8 ⟨r2,o2⟩ (qt8 ⟨r3,o3⟩ (znp hcl))));rw[List.drop_zero]at key;refine⟨⟨v0,v1,v2,v3⟩,?_,key.2,?_⟩
 ·have key:=key.1
  obtain⟨v3z0,v3z1,⟨v3_2_0,v3_2_1,v3_2_2,v3_2_3,v3_2_4,v3_2_5⟩,v3z3,v3z4⟩:=v3;exact key
 ·simp only[qib,Rows.uptoBulk,Rows.uptoBulkAll,List.map_cons,List.map_nil,qms,qmw,qz6,qwo,qcn]
  simp only[]at b0 b1 b2 b3;omega
theorem ztr (n:Nat):qgm (α:=List (qa6)) enc Tryz.prog w 39 n (fun l=>[PV.sl (qa6.rows l)]) (fun l=>(l.map (qjt)).sum+1) Rows.uptoBulk:=
 qqh (α:=qa6) (z:=2) (rws:=qa6.rows) Tryz.underlying39 (by kernel_rfl) (by decide) (ql2.hz) (fun _=>rfl) (fun m hm=>zt0 m)
theorem ztt (n:Nat):qgm (α:=List (qbj)) enc Tryz.prog w 47 n (fun l=>[PV.sl (qbj.rows l)]) (fun l=>(l.map (qsb)).sum+1) Rows.uptoBulk:=
 qqh (α:=qbj) (z:=11) (rws:=qbj.rows) Tryz.underlying47 (by kernel_rfl) (by decide) (qr5.hz) (fun _=>rfl) (fun m hm=>zt2 m)
theorem ztu (n:Nat):qgm (α:=List (qar)) enc Tryz.prog w 48 n (fun l=>[PV.sl (qar.rows l)]) (fun l=>(l.map (qhy)).sum+1) Rows.uptoBulk:=
 qqh (α:=qar) (z:=11) (rws:=qar.rows) Tryz.underlying48 (by kernel_rfl) (by decide) (qpi.hz) (fun _=>rfl) (fun m hm=>zt3 m)
theorem ztv (n:Nat):qgm (α:=List (qaf)) enc Tryz.prog w 49 n (fun l=>[PV.sl (qaf.rows l)]) (fun l=>(l.map (qib)).sum+1) Rows.uptoBulk:=
 qqh (α:=qaf) (z:=13) (rws:=qaf.rows) Tryz.underlying49 (by kernel_rfl) (by decide) (qjb.hz) (fun _=>rfl) (fun m hm=>zt4 m)
theorem ztw (n:Nat):qgm (α:=qab) enc Tryz.prog w 51 n (qab.cells) (qde) Rows.uptoBulk:=by
 intro cs x h;obtain⟨xs,m,rfl,rfl,hcl,hxl,hf⟩:=DataW.trod_struct Tryz.underlying51 h;rw[show Tryz.prog.cellsOf 51=22 by kernel_rfl]at hcl;have hxl':xs.length=13:=hxl;obtain⟨y0,y1,y2,y3,y4,y5,y6,y7,y8,y9,y10,y11,y12,rfl⟩:∃ y0 y1 y2 y3 y4 y5 y6 y7 y8 y9 y10 y11 y12,xs=[y0,y1,y2,y3,y4,y5,y6,y7,y8,y9,y10,y11,y12]:=by
  match xs,hxl' with
  | [y0,y1,y2,y3,y4,y5,y6,y7,y8,y9,y10,y11,y12],_=>exact⟨y0,y1,y2,y3,y4,y5,y6,y7,y8,y9,y10,y11,y12,rfl⟩
 have f0:=hf 0 _ rfl;change DataW.trod enc Tryz.prog w 0 _ true m 3 ((cs.drop 0).take (Tryz.prog.cellsOf 3))=some y0 at f0;rw[show Tryz.prog.cellsOf 3=1 by kernel_rfl]at f0;obtain⟨v0,r0,o0,b0⟩:=rd3 m _ _ f0;have f1:=hf 1 _ rfl;change DataW.trod enc Tryz.prog w 0 _ true m 39 ((cs.drop 1).take (Tryz.prog.cellsOf 39))=some y1 at f1;rw[show Tryz.prog.cellsOf 39=1 by kernel_rfl]at f1;obtain⟨v1,r1,o1,b1⟩:=ztr m _ _ f1;have f2:=hf 2 _ rfl;change DataW.trod enc Tryz.prog w 0 _ true m 40 ((cs.drop 2).take (Tryz.prog.cellsOf 40))=some y2 at f2;rw[show Tryz.prog.cellsOf 40=1 by kernel_rfl]at f2;obtain⟨v2,r2,o2,b2⟩:=zsa m _ _ f2;have f3:=hf 3 _ rfl;change DataW.trod enc Tryz.prog w 0 _ true m 46 ((cs.drop 3).take (Tryz.prog.cellsOf 46))=some y3 at f3;rw[show Tryz.prog.cellsOf 46=10 by kernel_rfl]at f3;obtain⟨v3,r3,o3,b3⟩:=zsb m _ _ f3;have f4:=hf 4 _ rfl;change DataW.trod enc Tryz.prog w 0 _ true m 9 ((cs.drop 13).take (Tryz.prog.cellsOf 9))=some y4 at f4;rw[show Tryz.prog.cellsOf 9=1 by kernel_rfl]at f4;obtain⟨v4,r4,o4,b4⟩:=rd9 m _ _ f4;have f5:=hf 5 _ rfl;change DataW.trod enc Tryz.prog w 0 _ true m 47 ((cs.drop 14).take (Tryz.prog.cellsOf 47))=some y5 at f5;rw[show Tryz.prog.cellsOf 47=1 by kernel_rfl]at f5;obtain⟨v5,r5,o5,b5⟩:=ztt m _ _ f5;have f6:=hf 6 _ rfl;change DataW.trod enc Tryz.prog w 0 _ true m 4 ((cs.drop 15).take (Tryz.prog.cellsOf 4))=some y6 at f6;rw[show Tryz.prog.cellsOf 4=1 by kernel_rfl]at f6;obtain⟨v6,r6,o6,b6⟩:=rd4 m _ _ f6;have f7:=hf 7 _ rfl;change DataW.trod enc Tryz.prog w 0 _ true m 48 ((cs.drop 16).take (Tryz.prog.cellsOf 48))=some y7 at f7;rw[show Tryz.prog.cellsOf 48=1 by kernel_rfl]at f7;obtain⟨v7,r7,o7,b7⟩:=ztu m _ _ f7;have f8:=hf 8 _ rfl;change DataW.trod enc Tryz.prog w 0 _ true m 40 ((cs.drop 17).take (Tryz.prog.cellsOf 40))=some y8 at f8;rw[show Tryz.prog.cellsOf 40=1 by kernel_rfl]at f8;obtain⟨v8,r8,o8,b8⟩:=zsa m _ _ f8;have f9:=hf 9 _ rfl;change DataW.trod enc Tryz.prog w 0 _ true m 40 ((cs.drop 18).take (Tryz.prog.cellsOf 40))=some y9 at f9;rw[show Tryz.prog.cellsOf 40=1 by kernel_rfl]at f9;obtain⟨v9,r9,o9,b9⟩:=zsa m _ _ f9;have f10:=hf 10 _ rfl;change DataW.trod enc Tryz.prog w 0 _ true m 49 ((cs.drop 19).take (Tryz.prog.cellsOf 49))=some y10 at f10;rw[show Tryz.prog.cellsOf 49=1 by kernel_rfl]at f10;obtain⟨v10,r10,o10,b10⟩:=ztv m _ _ f10;have f11:=hf 11 _ rfl;change DataW.trod enc Tryz.prog w 0 _ true m 42 ((cs.drop 20).take (Tryz.prog.cellsOf 42))=some y11 at f11;rw[show Tryz.prog.cellsOf 42=1 by kernel_rfl]at f11;obtain⟨v11,r11,o11,b11⟩:=zrr m _ _ f11;have f12:=hf 12 _ rfl;change DataW.trod enc Tryz.prog w 0 _ true m 4 ((cs.drop 21).take (Tryz.prog.cellsOf 4))=some y12 at f12;rw[show Tryz.prog.cellsOf 4=1 by kernel_rfl]at f12;obtain⟨v12,r12,o12,b12⟩:=rd4 m _ _ f12;have bb3:=b3;have key:=qt8 ⟨r0,o0⟩ (qt8 ⟨r1,o1⟩ (qt8 ⟨r2,o2⟩ (qt8 ⟨r3,o3⟩ (qt8 ⟨r4,o4⟩ (qt8 ⟨r5,o5⟩ (qt8 ⟨r6,o6⟩ (qt8 ⟨r7,o7⟩ (qt8 ⟨r8,o8⟩ (qt8 ⟨r9,o9⟩ (qt8 ⟨r10,o10⟩ (qt8 ⟨r11,o11⟩ (qt8 ⟨r12,o12⟩ (znp hcl)))))))))))));rw[List.drop_zero]at key;refine⟨⟨v0,v1,v2,v3,v4,v5,v6,v7,v8,v9,v10,v11,v12⟩,?_,key.2,?_⟩
 ·have key:=key.1
  obtain⟨v3z0,v3z1,⟨v3_2_0,v3_2_1,v3_2_2,v3_2_3,v3_2_4,v3_2_5⟩,v3z3,v3z4⟩:=v3;exact key
 ·simp only[qde,Rows.uptoBulk,Rows.uptoBulkAll,List.map_cons,List.map_nil,qms,qmw,qz6,qwo,qcn]
  simp only[]at b0 b1 b2 b3 b4 b5 b6 b7 b8 b9 b10 b11 b12;omega
theorem ztp (n:Nat):qgm (α:=List (qab)) enc Tryz.prog w 22 n (fun l=>[PV.sl (qab.rows l)]) (fun l=>(l.map (qde)).sum+1) Rows.uptoBulk:=
 qqh (α:=qab) (z:=22) (rws:=qab.rows) Tryz.underlying22 (by kernel_rfl) (by decide) (qda.hz) (fun _=>rfl) (fun m hm=>ztw m)
theorem ztq (n:Nat):qgm (α:=qid) enc Tryz.prog w 24 n (qid.cells) (zs9) Rows.uptoBulk:=by
 intro cs x h;obtain⟨xs,m,rfl,rfl,hcl,hxl,hf⟩:=DataW.trod_struct Tryz.underlying24 h;rw[show Tryz.prog.cellsOf 24=1 by kernel_rfl]at hcl;have hxl':xs.length=1:=hxl;obtain⟨y0,rfl⟩:∃ y0,xs=[y0]:=by
  match xs,hxl' with
  | [y0],_=>exact⟨y0,rfl⟩
 have f0:=hf 0 _ rfl;change DataW.trod enc Tryz.prog w 0 _ true m 22 ((cs.drop 0).take (Tryz.prog.cellsOf 22))=some y0 at f0;rw[show Tryz.prog.cellsOf 22=1 by kernel_rfl]at f0;obtain⟨v0,r0,o0,b0⟩:=ztp m _ _ f0;have key:=qt8 ⟨r0,o0⟩ (znp hcl);rw[List.drop_zero]at key;refine⟨⟨v0⟩,?_,key.2,?_⟩
 ·have key:=key.1
  exact key
 ·simp only[zs9,Rows.uptoBulk,Rows.uptoBulkAll,List.map_cons,List.map_nil,qms,qmw,qz6,qwo,qcn]
  simp only[]at b0;omega
end W
end
section
namespace W
open Go Go.Proofs Ax Go.RowKit Go.ChangeShapes Go.WideShapes Go.ChangeAt
open Go.Proofs.YtmblnmgpmdapnaaGreat Go.ChangeMaps
theorem own:ownKnob Tryz.prog.godebug=none:=by kernel_rfl
theorem zg9:laidOutB Tryz.prog=true:=by kernel_rfl
theorem root {W:World} (h:W.ShapedOpen Tryz.prog):∃ m,W.cell? ⟨0,0,none⟩=some (.int .i64 m):=Tryz.laysM144.s1_3 W h
section
variable {Hd:Type} {enc:TypeId×Value->Hd} {W:World}
set_option maxRecDepth 100000 in
theorem q4f {v0:Value} {d0:DataW Hd} {p:List MemPlace} {b:Nat} (hval:Value.okWide Tryz.prog W .any b 24 v0) (h:DataW.Trod enc Tryz.prog W 0 (fun _=>true) true 24 v0 d0 p) :
  ∃ s:qid,qco (q52 W) (.agg (q21.cells s)) v0/\zs9 s<=Rows.uptoBulk d0:=by
 obtain⟨cs,rfl,_⟩:=okWide_struct Tryz.underlying24 hval;obtain⟨fuel,h⟩:=h;obtain⟨v,r,_,hb⟩:=ztq fuel _ _ h;refine⟨v,?_,hb⟩;simp only[qco];exact⟨cs.toList,by simp,r⟩
end
noncomputable def q29 (os:Os):World:=World.holding Tryz.prog os ⟨#[],#[],[]⟩
abbrev VM:Value:=.agg #[.slice none 0 0]
abbrev DM (H:Type):DataW H:=.agg [.nil]
end W
end
