/- A part of the proof: contracts, printed by program. -/
import Derived.Test.YtmblnmgpmdapnaaGreatB
import Derived.Test.YtmblnmgpmdapnaaGreatC
import Derived.Test.YtmblnmgpmdapnaaGreatH
import Derived.Test.YtmblnmgpmdapnaaGreatI
set_option linter.unusedVariables false
set_option linter.unusedSimpArgs false
set_option linter.unnecessarySimpa false
set_option linter.deprecated false
set_option linter.unusedSectionVars false
set_option linter.constructorNameAsVariable false
section
set_option maxRecDepth 100000
open Go Go.Proofs Ax
namespace W
abbrev zcp (r:List qa1×Int):PV:=PV.tup [PV.sl (qa1.rows r.1),PV.int .i64 r.2]
def qjm (n:Nat) (H:Int) (I:List qa6) (J:List qaa) (g:Int) (i:SS) (j:Int) (k:Bool) (l:Int) (m:SS) (o:List Val) (p q:List SS) (s:List qaa) (t:SS) (u:List qbj) (v:Bool) (w:List qar) (x y:List qaa) (z:List qaf) (A:List SS) (B:Bool) (e:Int) (C:List SS) (f:List qep×List qa1×Int->Option (List qa1×Int)):List qa1×List qep->Option (List qa1×Int):=fun(a,D)=>
 bnd (qxb (IntKind.i64.wrap (((((qa1.rows a).length):Nat):Int) - 1))) fun b=>
 chk (decide (b<(qa1.rows a).length)) (
 bnd (a[b]?) fun⟨_,_,_,c⟩=>
 chk (decide (b+1=(qa1.rows a).length)) (
 chk (decide ((qep.rows D).length=(qep.rows c).length)) (
 bnd (qmj n (qab.mk H I J (qaa.mk g i (Val.mk j k l m o p) q s) t u v w x y z A B) e C) fun d=>
 chk (decide ((qep.rows (c++d)).length * 48<=140737488355328)) (
 chk (decide (b+1=(qa1.rows a).length)) (
 bnd (a[b]?) fun⟨E,F,G,_⟩=>
 f ((c++d),(a.set b (qa1.mk E F G (c++d))),(IntKind.i64.wrap (e+1))))))))
def qhl (n:Nat) (d:List qab):(List qep×List qa1×Int->Option (List qa1×Int))->List qep×List qa1×Int->Option (List qa1×Int):=fun E (I,a,b)=>
 bif(decide (b<((qab.rows d).length:Int)))then(
 bnd (idx d b) fun⟨B,C,D,⟨e,f,⟨g,i,j,k,l,m⟩,o,p⟩,q,s,t,u,v,w,x,y,z⟩=>
 bnd (qiv n (qid.mk d) b) fun⟨F,_,G⟩=>
 bif(G != 0)then(
 some (([]:List qa1),G))
 else(
 bnd (qrk n (qab.mk B C D (qaa.mk e f (Val.mk g i j k l m) o p) q s t u v w x y z)) fun c=>
 bnd (qaw (bif(c==0)then(decide (((((qa1.rows a).length):Nat):Int)>0))else false) (qxb (IntKind.i64.wrap (((((qa1.rows a).length):Nat):Int) - 1)))) fun H=>
 chk (bif(bif(c==0)then(decide (((((qa1.rows a).length):Nat):Int)>0))else false)then decide (H<(qa1.rows a).length)else true) (
 bnd (qaw (bif(c==0)then(decide (((((qa1.rows a).length):Nat):Int)>0))else false) (a[H]?)) fun⟨J,_,_,_⟩=>
 bif(bif(bif(c==0)then(decide (((((qa1.rows a).length):Nat):Int)>0))else false)then(J==1)else false)then(
 bnd (qxb (IntKind.i64.wrap (((((qa1.rows a).length):Nat):Int) - 1))) fun A=>
 chk (decide (A<(qa1.rows a).length)) (
 bnd (a[A]?) fun⟨K,L,_,M⟩=>
 qjm n B C D e f g i j k l m o p q s t u v w x y z b F E ((a.set A (qa1.mk K L b M)),I)))
 else(
 chk (decide ((qa1.rows (a++[qa1.mk (IntKind.i64.wrap ((1:Int)+c)) b b ([]:List qep)])).length * 48<=140737488355328)) (
 qjm n B C D e f g i j k l m o p q s t u v w x y z b F E ((a++[qa1.mk (IntKind.i64.wrap ((1:Int)+c)) b b ([]:List qep)]),([]:List qep)))))))
 else(
 some (a,(0:Int)))
def qkr (n:Nat) (c:qid):Option (List qa1×Int):=
 match c with
 | ⟨a⟩=>
 bnd (qp1 n (qid.mk a)) fun⟨_,b⟩=>
 bif(b != 0)then(
 some (([]:List qa1),b))
 else(
 qan (qhl n a) n (([]:List _),([]:List _),(0:Int)))
set_option maxHeartbeats 4000000 in
theorem qoa (n:Nat):∀ (g:qid) (r:List qa1×Int),qkr n g=some r->qac Tryz.prog 10 [PV.agg (q21.cells g)] (zcp r):=by
 intro g r h;obtain⟨c⟩:=g;unfold qkr at h;refine qac.of_vcN mixed (fun _ _=>Tryz.call10 _ _) Tryz.func10 (by kernel_rfl) (inl:=[40000017,70000083,1000000]) ?_;conv=>whnf
 refine bq h fun⟨_,_⟩ b1 h=>?_;refine⟨_,(q48 n _ _ b1),?_⟩;conv=>whnf
 apply ifc h<;>intro k h
 ·obtain rfl:=sj h
  conv=>whnf
  try exact fin
 ·conv=>whnf
  refine qbl.fn [40000017,70000083,1000000] (S:=List qep×List qa1×Int) (fun(j,b,a)=>[(1,.ptr 0 0),(6,.vsl 2 ((qa1.rows b).length)),(24,pC c),(25,.p (.int .i64 ((qab.rows c).length:Int))),(26,pI a)]) (fun(j,b,a)=>[.box 24 [pC c],.tail 53 4 (qep.rows j).length,.vl 37 4 (qa1.rows b) 3 1]) (B:=qhl n c) h ⟨[0,0,0],[1,2],⟨rfl,rfl,rfl,rfl⟩,by repeat (first|exact trivial|exact .inl rfl|exact rfl|exact List.not_mem_nil|(refine .inr ?_)|(refine⟨?_,?_⟩)|exact List.length_set.symm|exact Codec.lenSet qc2 _ _ _|exact(Codec.lenSet qc2 _ _ _).trans (Codec.lenSet qc2 _ _ _)|decide),by repeat (first|exact trivial|exact .inl rfl|exact rfl|exact List.not_mem_nil|(refine .inr ?_)|(refine⟨?_,?_⟩)|exact List.length_set.symm|exact Codec.lenSet qc2 _ _ _|exact(Codec.lenSet qc2 _ _ _).trans (Codec.lenSet qc2 _ _ _)|decide)⟩ ?_;intro b8 st h;obtain⟨j,b,a⟩:=st;unfold qhl at h;conv=>whnf
  apply ifc h<;>intro k h
  ·conv=>whnf
   refine bq h fun⟨X,Y,Z,⟨v,w,⟨x,y,z,A,C,D⟩,E,F⟩,G,H,I,J,K,L,M,N,O⟩ a9 h=>?_;refine⟨_,Codec.at_ qda a9,?_⟩;conv=>whnf
   refine bq h fun⟨P,_,_⟩ a8 h=>?_;refine⟨_,(qw4 n _ _ _ a8),?_⟩;conv=>whnf
   apply ifc h<;>intro k h
   ·obtain rfl:=sj h
    conv=>whnf
    try exact fin
   ·conv=>whnf
    refine bq h fun m a7 h=>?_;refine⟨_,(q6z n _ _ a7),?_⟩;conv=>whnf
    refine qh6.cut (S:=List qa1×List qep) (fun(f,o)=>[(1,.ptr 0 0),(6,.vsl 1 ((qa1.rows f).length)),(7,pI a),(8,.ptr 2 0),(9,pT P),(24,pC c),(25,.p (.int .i64 ((qab.rows c).length:Int))),(26,pI a)]) (fun(f,o)=>[.box 24 [pC c],.vl 37 4 (qa1.rows f) 3 3,.box 51 [pI X,pP Y,pE Z,pI v,pS w,pI x,pB y,pI z,pS A,pV C,pT D,pT E,pE F,pS G,pA H,pB I,pO J,pE K,pE L,pU M,pT N,pB O],.tail 53 4 (qep.rows o).length]) (qjm n X Y Z v w x y z A C D E F G H I J K L M N O a P b8) (r:=r) ?_ ?_
    ·intro st h
     obtain⟨f,o⟩:=st;unfold qjm at h;conv=>whnf
     refine bq h fun q b7 h=>?_;have l:=qdu b7;conv=>whnf
     obtain⟨b6,h⟩:=qak h;refine⟨q,⟨l,of_decide_eq_true b6⟩,?_⟩;conv=>whnf
     refine bq h fun⟨_,_,_,d⟩ b5 h=>?_;refine⟨_,⟨rfl,Codec.getN qc2 b5⟩,?_⟩;conv=>whnf
     obtain⟨b4,h⟩:=qak h;refine⟨of_decide_eq_true b4,_,rfl,?_⟩;conv=>whnf
     obtain⟨b3,h⟩:=qak h;have hl_h5:=of_decide_eq_true b3;conv=>whnf
     refine bq h fun e b2 h=>?_;refine⟨_,(q61 n _ _ _ _ b2),?_⟩;conv=>whnf
     rw[show qep.rows d++qep.rows e=qep.rows (d++e)from Codec.append q8o d e];conv=>whnf
     obtain⟨u,h⟩:=qak h;refine⟨⟨Codec.wide q8o (d++e),of_decide_eq_true u,qcb u (by decide)⟩,?_⟩;conv=>whnf
     refine⟨⟨rfl,rfl,by first|rfl|assumption⟩,?_⟩;conv=>whnf
     obtain⟨a0,h⟩:=qak h;conv=>whnf
     refine bq h fun⟨Q,R,T,_⟩ b0 h=>?_;refine⟨_,4,⟨rfl,Codec.getN qc2 b0,rfl,.inr ⟨rfl,of_decide_eq_true a0,_,rfl⟩⟩,?_⟩;conv=>whnf
     refine⟨_,Codec.setN qc2 f q (qa1.mk Q R T (d++e)),?_⟩;conv=>whnf
     exact⟨((d++e),(f.set q (qa1.mk Q R T (d++e))),(IntKind.i64.wrap (a+1))),h,⟨[0,4,1],[],⟨rfl,rfl,rfl,rfl⟩,by repeat (first|exact trivial|exact .inl rfl|exact rfl|exact List.not_mem_nil|(refine .inr ?_)|(refine⟨?_,?_⟩)|exact List.length_set.symm|exact Codec.lenSet qc2 _ _ _|exact(Codec.lenSet qc2 _ _ _).trans (Codec.lenSet qc2 _ _ _)|decide),by repeat (first|exact trivial|exact .inl rfl|exact rfl|exact List.not_mem_nil|(refine .inr ?_)|(refine⟨?_,?_⟩)|exact List.length_set.symm|exact Codec.lenSet qc2 _ _ _|exact(Codec.lenSet qc2 _ _ _).trans (Codec.lenSet qc2 _ _ _)|decide)⟩⟩
    ·conv=>whnf
     refine⟨id,?_⟩;conv=>whnf
     refine⟨id,id,id,id,?_⟩;conv=>whnf
     refine bq h fun b9 a1 h=>?_;obtain⟨a2,h⟩:=qak h;refine⟨b9,fun i=>⟨qdu (qad a1 i),of_decide_eq_true (gd a2 i)⟩,?_⟩;conv=>whnf
     refine⟨id,id,?_⟩;conv=>whnf
     refine bq h fun⟨_,_,_,_⟩ a6 h=>?_;refine⟨_,fun i=>⟨rfl,Codec.getN qc2 (qad a6 i)⟩,?_⟩;conv=>whnf
     refine⟨id,id,?_⟩;conv=>whnf
     apply ifc h<;>intro k h
     ·conv=>whnf
      refine bq h fun s a5 h=>?_;have l:=qdu a5;conv=>whnf
      obtain⟨a4,h⟩:=qak h;refine⟨s,⟨l,of_decide_eq_true a4⟩,?_⟩;conv=>whnf
      refine bq h fun⟨U,V,_,W⟩ a3 h=>?_;refine⟨_,1,⟨rfl,Codec.getN qc2 a3,rfl,.inl ⟨Nat.le_of_ble_eq_true rfl,by first|exact .inl (Nat.le_of_ble_eq_true rfl)|exact .inr (Nat.le_of_ble_eq_true rfl),rfl⟩⟩,?_⟩;conv=>whnf
      refine⟨_,Codec.setN qc2 b s (qa1.mk U V a W),?_⟩;conv=>whnf
      exact⟨((b.set s (qa1.mk U V a W)),j),h,⟨[0,2,3,1],[],⟨rfl,rfl,rfl,rfl⟩,by repeat (first|exact trivial|exact .inl rfl|exact rfl|exact List.not_mem_nil|(refine .inr ?_)|(refine⟨?_,?_⟩)|exact List.length_set.symm|exact Codec.lenSet qc2 _ _ _|exact(Codec.lenSet qc2 _ _ _).trans (Codec.lenSet qc2 _ _ _)|decide),by repeat (first|exact trivial|exact .inl rfl|exact rfl|exact List.not_mem_nil|(refine .inr ?_)|(refine⟨?_,?_⟩)|exact List.length_set.symm|exact Codec.lenSet qc2 _ _ _|exact(Codec.lenSet qc2 _ _ _).trans (Codec.lenSet qc2 _ _ _)|decide)⟩⟩
     ·conv=>whnf
      refine⟨by repeat (first|exact List.forall_mem_nil _|refine List.forall_mem_cons.2 ⟨⟨rfl,rfl⟩,?_⟩),_,.inl rfl,?_⟩;conv=>whnf
      obtain⟨t,h⟩:=qak h;refine⟨qa1.rows (b++[qa1.mk (IntKind.i64.wrap ((1:Int)+m)) a a ([]:List qep)]),_,53,4,⟨ztc qc2 b (qa1.mk (IntKind.i64.wrap ((1:Int)+m)) a a ([]:List qep)) (by try exact fin),⟨rfl,rfl⟩,rfl,rfl,List.forall_mem_cons.2 ⟨rfl,List.forall_mem_nil _⟩,of_decide_eq_true t,qcb t (by decide)⟩,?_⟩;conv=>whnf
      exact⟨((b++[qa1.mk (IntKind.i64.wrap ((1:Int)+m)) a a ([]:List qep)]),([]:List qep)),h,⟨[0,5,3,4],[],⟨rfl,rfl,rfl,rfl⟩,by repeat (first|exact trivial|exact .inl rfl|exact rfl|exact List.not_mem_nil|(refine .inr ?_)|(refine⟨?_,?_⟩)|exact List.length_set.symm|exact Codec.lenSet qc2 _ _ _|exact(Codec.lenSet qc2 _ _ _).trans (Codec.lenSet qc2 _ _ _)|decide),by repeat (first|exact trivial|exact .inl rfl|exact rfl|exact List.not_mem_nil|(refine .inr ?_)|(refine⟨?_,?_⟩)|exact List.length_set.symm|exact Codec.lenSet qc2 _ _ _|exact(Codec.lenSet qc2 _ _ _).trans (Codec.lenSet qc2 _ _ _)|decide)⟩⟩
  ·obtain rfl:=sj h
   conv=>whnf
   try exact fin
abbrev zcr (r:SS):PV:=PV.str r
def q0w (n:Nat) (a:Int):Option SS:=
 bif(a==1)then(
 some ([102,108,111,119]:SS))
 else(
 bif(a==2)then(
 some ([119,104,111,108,101]:SS))
 else(
 some ([119,114,105,116,101]:SS)))
theorem q9i (n:Nat):∀ (a:Int) (r:SS),q0w n a=some r->qac Tryz.prog 32 [PV.int .i64 a] (zcr r):=by
 intro a r h;unfold q0w at h;refine qac.of_vcN mixed (fun _ _=>Tryz.call32 _ _) Tryz.func32 (by kernel_rfl) (inl:=[1000000]) ?_;conv=>whnf
 apply ifc h<;>intro b h
 ·obtain rfl:=sj h
  conv=>whnf
  try exact fin
 ·conv=>whnf
  apply ifc h<;>intro b h
  ·obtain rfl:=sj h
   conv=>whnf
   try exact fin
  ·obtain rfl:=sj h
   conv=>whnf
   try exact fin
abbrev zef (r:Int):PV:=PV.int .u64 r
def q3l (n:Nat) (a:Int):Option (Int):=
 bif(decide (a<0))then(
 some (IntKind.u64.wrap (0 - (IntKind.u64.wrap a))))
 else(
 some (IntKind.u64.wrap a))
theorem zb3 (n:Nat):∀ (a r:Int),q3l n a=some r->qac Tryz.prog 56 [PV.int .i64 a] (zef r):=by
 intro a r h;unfold q3l at h;refine qac.of_vcN mixed (fun _ _=>Tryz.call56 _ _) Tryz.func56 (by kernel_rfl) (inl:=[1000000]) ?_;conv=>whnf
 apply ifc h<;>intro _ h
 ·obtain rfl:=sj h
  conv=>whnf
  try exact fin
 ·obtain rfl:=sj h
  conv=>whnf
  try exact fin
abbrev zee (r:SS):PV:=PV.str r
def qsj (n:Nat):Int×SS->Option SS:=fun(c,b)=>
 bnd (qxb c) fun a=>
 chk (decide (a<20)) (
 chk (decide (a+(20 - a)<=b.length)) (
 some ((b.drop a).take (20 - a))))
def qv7 (n:Nat) (j:Int):(Int×Int×SS->Option SS)->Int×Int×SS->Option SS:=fun i (b,f,c)=>
 bnd (qxb (Int.tmod f (10:Int))) fun g=>
 chk (decide (g<10)) (
 bnd (([(48:UInt8),(49:UInt8),(50:UInt8),(51:UInt8),(52:UInt8),(53:UInt8),(54:UInt8),(55:UInt8),(56:UInt8),(57:UInt8)]:SS)[g]?) fun l=>
 bnd (qxb (IntKind.i64.wrap (b - 1))) fun a=>
 chk (decide (a<20)) (
 bnd (u8I ((l.toNat:Nat):Int)) fun d=>
 chk (decide (a<c.length)) (
 bif(decide (f<10))then(
 bif(decide (j<0))then(
 bnd (qxb (IntKind.i64.wrap ((IntKind.i64.wrap (b - 1)) - 1))) fun e=>
 chk (decide (e<20)) (
 bnd (u8I (45:Int)) fun k=>
 chk (decide (e<(c.set a d).length)) (
 qsj n ((IntKind.i64.wrap ((IntKind.i64.wrap (b - 1)) - 1)),((c.set a d).set e k)))))
 else(
 qsj n ((IntKind.i64.wrap (b - 1)),(c.set a d))))
 else(
 i ((IntKind.i64.wrap (b - 1)),(IntKind.u64.wrap (Int.tdiv f (10:Int))),(c.set a d))))))
def qsu (n:Nat) (a:Int):Option SS:=
 bnd (q3l n a) fun b=>
 qan (qv7 n a) n ((20:Int),b,(List.replicate 20 0:SS))
theorem qsk (n:Nat):∀ (d:Int) (r:SS),qsu n d=some r->qac Tryz.prog 33 [PV.int .i64 d] (zee r):=by
 intro d r h;unfold qsu at h;refine qac.of_vcN mixed (fun _ _=>Tryz.call33 _ _) Tryz.func33 (by kernel_rfl) (inl:=[10000003,10000004,1000000]) ?_;conv=>whnf
 refine⟨rfl,zp7 rfl,?_⟩;conv=>whnf
 refine⟨(List.replicate 10 0:SS),rfl,?_⟩;conv=>whnf
 refine⟨([(48:UInt8),(49:UInt8),(50:UInt8),(51:UInt8),(52:UInt8),(53:UInt8),(54:UInt8),(55:UInt8),(56:UInt8),(57:UInt8)]:SS),⟨rfl,rfl,rfl,rfl,rfl⟩,?_⟩;conv=>whnf
 refine⟨(List.replicate 20 0:SS),rfl,?_⟩;conv=>whnf
 refine bq h fun _ w h=>?_;refine⟨_,(zb3 n _ _ w),?_⟩;conv=>whnf
 refine qbl.fn [10000003,10000004,1000000] (S:=Int×Int×SS) (fun(a,f,b)=>[(0,pI d),(3,.eptr 0 1 0 0),(4,.eptr 1 1 0 0),(5,pI a),(6,.p (.int .u64 f))]) (fun(a,f,b)=>[.bv ([(48:UInt8),(49:UInt8),(50:UInt8),(51:UInt8),(52:UInt8),(53:UInt8),(54:UInt8),(55:UInt8),(56:UInt8),(57:UInt8)]:SS),.bv b]) (B:=qv7 n d) h (wk [0,1] []) ?_;intro _ st h;obtain⟨a,f,b⟩:=st;unfold qv7 at h;conv=>whnf
 refine⟨by unfold gI; decide,?_⟩;conv=>whnf
 refine bq h fun H v h=>?_;have c:=qdu v;conv=>whnf
 obtain⟨u,h⟩:=qak h;refine⟨H,⟨rfl,c,of_decide_eq_true u⟩,?_⟩;conv=>whnf
 refine bq h fun _ t h=>?_;refine⟨_,⟨rfl,rfl,t⟩,?_⟩;conv=>whnf
 refine bq h fun g s h=>?_;have c:=qdu s;conv=>whnf
 obtain⟨q,h⟩:=qak h;refine⟨g,⟨rfl,c,of_decide_eq_true q⟩,?_⟩;conv=>whnf
 refine bq h fun j E h=>?_;have hb:=qex E;conv=>whnf
 obtain⟨D,h⟩:=qak h;refine⟨_,_,⟨rfl,rfl,of_decide_eq_true D,hb,rfl⟩,?_⟩;conv=>whnf
 apply ifc h<;>intro F h
 ·conv=>whnf
  refine qh6.cut (S:=Int×SS) (fun(i,e)=>[(4,.eptr 0 1 0 0),(5,pI i)]) (fun(i,e)=>[.bv e]) (qsj n) (r:=r) ?_ ?_
  ·intro st h
   obtain⟨i,e⟩:=st;unfold qsj at h;conv=>whnf
   refine bq h fun l x h=>?_;refine⟨_,qdu x,?_⟩;conv=>whnf
   obtain⟨k,h⟩:=qak h;refine⟨⟨rfl,Nat.le_of_lt (of_decide_eq_true k),Nat.le_refl _,of_decide_eq_true k⟩,?_⟩;conv=>whnf
   obtain⟨o,h⟩:=qak h;refine⟨(of_decide_eq_true o:l+(20 - l)<=e.length),?_⟩;obtain rfl:=sj h;conv=>whnf
   try exact fin
  ·conv=>whnf
   apply ifc h<;>intro F h
   ·conv=>whnf
    refine bq h fun m C h=>?_;have c:=qdu C;conv=>whnf
    obtain⟨A,h⟩:=qak h;refine⟨m,⟨rfl,c,of_decide_eq_true A⟩,?_⟩;conv=>whnf
    refine bq h fun G z h=>?_;have hb:=qex z;conv=>whnf
    obtain⟨y,h⟩:=qak h;refine⟨_,_,⟨rfl,rfl,of_decide_eq_true y,hb,rfl⟩,?_⟩;conv=>whnf
    exact⟨((IntKind.i64.wrap ((IntKind.i64.wrap (a - 1)) - 1)),((b.set g j).set m G)),h,wk [1] []⟩
   ·conv=>whnf
    exact⟨((IntKind.i64.wrap (a - 1)),(b.set g j)),h,wk [1] []⟩
 ·conv=>whnf
  refine⟨by unfold gI; decide,?_⟩;conv=>whnf
  exact⟨((IntKind.i64.wrap (a - 1)),(IntKind.u64.wrap (Int.tdiv f (10:Int))),(b.set g j)),h,wk [0,1] []⟩
abbrev qpk (r:Bool):PV:=PV.bool r
def qfw (n:Nat) (a b:SS):Option (Bool):=
 bnd (qaw (decide (((a.length:Nat):Int)≥((b.length:Nat):Int))) (qxb ((b.length:Nat):Int))) fun c=>
 chk (bif(decide (((a.length:Nat):Int)≥((b.length:Nat):Int)))then decide (c<=a.length)else true) (
 some (bif(decide (((a.length:Nat):Int)≥((b.length:Nat):Int)))then((a.take c)==b)else false))
theorem qo1 (n:Nat):∀ (a c:SS) (r:Bool),qfw n a c=some r->qac Tryz.prog 147 [PV.str a,PV.str c] (qpk r):=by
 intro a c r h;unfold qfw at h;refine qac.of_vcN mixed (fun _ _=>Tryz.call147 _ _) Tryz.func147 (by kernel_rfl) (inl:=[1000000]) ?_;conv=>whnf
 refine⟨id,id,id,?_⟩;conv=>whnf
 refine bq h fun d f h=>?_;refine⟨_,fun b=>qdu (qad f b),?_⟩;conv=>whnf
 obtain⟨e,h⟩:=qak h;refine⟨fun b=>⟨Nat.zero_le _,(of_decide_eq_true (gd e b):(d<=a.length))⟩,?_⟩;rw[show List.drop 0 (List.take d a)=(a.take d)from rfl];conv=>whnf
 refine⟨id,id,id,?_⟩;obtain rfl:=sj h;conv=>whnf
 try exact fin
abbrev qyi (r:Bool):PV:=PV.bool r
def qo4 (n:Nat) (a b:SS):Option (Bool):=
 bnd (qfw n a b) fun c=>
 some c
theorem qxf (n:Nat):∀ (a b:SS) (r:Bool),qo4 n a b=some r->qac Tryz.prog 98 [PV.str a,PV.str b] (qyi r):=by
 intro a b r h;unfold qo4 at h;refine qac.of_vcN mixed (fun _ _=>Tryz.call98 _ _) Tryz.func98 (by kernel_rfl) (inl:=[1000000]) ?_;conv=>whnf
 refine bq h fun _ c h=>?_;refine⟨_,(qo1 n _ _ _ c),?_⟩;obtain rfl:=sj h;conv=>whnf
 try exact fin
abbrev q96 (r:SS):PV:=PV.str r
def qp2 (n:Nat) (b:SS) (a:Nat) (c:SS) (d:SS×Nat->Option SS):Bool->Option SS:=fun m=>
 bif m then(
 bnd (u8I (IntKind.u8.wrap (((BitVec.ofInt IntKind.u8.bits (224:Int) ||| BitVec.ofInt IntKind.u8.bits (IntKind.u8.wrap (Int.fdiv ((qa8 b a:Nat):Int) (2 ^ (min (Int.toNat (12:Int)) IntKind.i32.bits))))).toNat:Nat):Int))) fun k=>
 bnd (u8I (IntKind.u8.wrap (((BitVec.ofInt IntKind.u8.bits (128:Int) ||| BitVec.ofInt IntKind.u8.bits (IntKind.u8.wrap (((BitVec.ofInt IntKind.u8.bits (IntKind.u8.wrap (Int.fdiv ((qa8 b a:Nat):Int) (2 ^ (min (Int.toNat (6:Int)) IntKind.i32.bits)))) &&& BitVec.ofInt IntKind.u8.bits (63:Int)).toNat:Nat):Int))).toNat:Nat):Int))) fun l=>
 bnd (u8I (IntKind.u8.wrap (((BitVec.ofInt IntKind.u8.bits (128:Int) ||| BitVec.ofInt IntKind.u8.bits (IntKind.u8.wrap (((BitVec.ofInt IntKind.u8.bits (IntKind.u8.wrap ((qa8 b a:Nat):Int)) &&& BitVec.ofInt IntKind.u8.bits (63:Int)).toNat:Nat):Int))).toNat:Nat):Int))) fun e=>
 chk (decide ((qav ((c++[(92:UInt8)])++[k,l,e])).length * 1<=140737488355328)) (
 d (((c++[(92:UInt8)])++[k,l,e]),(bif(decide (a<b.length))then qdy b a else a))))
 else(
 bif(bif(decide ((IntKind.u32.wrap ((qa8 b a:Nat):Int))>65535))then(decide ((IntKind.u32.wrap ((qa8 b a:Nat):Int))<=1114111))else false)then(
 bnd (u8I (IntKind.u8.wrap (((BitVec.ofInt IntKind.u8.bits (240:Int) ||| BitVec.ofInt IntKind.u8.bits (IntKind.u8.wrap (Int.fdiv ((qa8 b a:Nat):Int) (2 ^ (min (Int.toNat (18:Int)) IntKind.i32.bits))))).toNat:Nat):Int))) fun f=>
 bnd (u8I (IntKind.u8.wrap (((BitVec.ofInt IntKind.u8.bits (128:Int) ||| BitVec.ofInt IntKind.u8.bits (IntKind.u8.wrap (((BitVec.ofInt IntKind.u8.bits (IntKind.u8.wrap (Int.fdiv ((qa8 b a:Nat):Int) (2 ^ (min (Int.toNat (12:Int)) IntKind.i32.bits)))) &&& BitVec.ofInt IntKind.u8.bits (63:Int)).toNat:Nat):Int))).toNat:Nat):Int))) fun g=>
 bnd (u8I (IntKind.u8.wrap (((BitVec.ofInt IntKind.u8.bits (128:Int) ||| BitVec.ofInt IntKind.u8.bits (IntKind.u8.wrap (((BitVec.ofInt IntKind.u8.bits (IntKind.u8.wrap (Int.fdiv ((qa8 b a:Nat):Int) (2 ^ (min (Int.toNat (6:Int)) IntKind.i32.bits)))) &&& BitVec.ofInt IntKind.u8.bits (63:Int)).toNat:Nat):Int))).toNat:Nat):Int))) fun i=>
 bnd (u8I (IntKind.u8.wrap (((BitVec.ofInt IntKind.u8.bits (128:Int) ||| BitVec.ofInt IntKind.u8.bits (IntKind.u8.wrap (((BitVec.ofInt IntKind.u8.bits (IntKind.u8.wrap ((qa8 b a:Nat):Int)) &&& BitVec.ofInt IntKind.u8.bits (63:Int)).toNat:Nat):Int))).toNat:Nat):Int))) fun j=>
 chk (decide ((qav ((c++[(92:UInt8)])++[f,g,i,j])).length * 1<=140737488355328)) (
 d (((c++[(92:UInt8)])++[f,g,i,j]),(bif(decide (a<b.length))then qdy b a else a))))
 else(
 chk (decide ((qav ((c++[(92:UInt8)])++[(239:UInt8),(191:UInt8),(189:UInt8)])).length * 1<=140737488355328)) (
 d (((c++[(92:UInt8)])++[(239:UInt8),(191:UInt8),(189:UInt8)]),(bif(decide (a<b.length))then qdy b a else a)))))
def qp3 (n:Nat) (b:SS) (a:Nat) (c:SS) (d:SS×Nat->Option SS):Bool->Option SS:=fun m=>
 bif m then(
 bnd (u8I (IntKind.u8.wrap (((BitVec.ofInt IntKind.u8.bits (224:Int) ||| BitVec.ofInt IntKind.u8.bits (IntKind.u8.wrap (Int.fdiv ((qa8 b a:Nat):Int) (2 ^ (min (Int.toNat (12:Int)) IntKind.i32.bits))))).toNat:Nat):Int))) fun e=>
 bnd (u8I (IntKind.u8.wrap (((BitVec.ofInt IntKind.u8.bits (128:Int) ||| BitVec.ofInt IntKind.u8.bits (IntKind.u8.wrap (((BitVec.ofInt IntKind.u8.bits (IntKind.u8.wrap (Int.fdiv ((qa8 b a:Nat):Int) (2 ^ (min (Int.toNat (6:Int)) IntKind.i32.bits)))) &&& BitVec.ofInt IntKind.u8.bits (63:Int)).toNat:Nat):Int))).toNat:Nat):Int))) fun f=>
 bnd (u8I (IntKind.u8.wrap (((BitVec.ofInt IntKind.u8.bits (128:Int) ||| BitVec.ofInt IntKind.u8.bits (IntKind.u8.wrap (((BitVec.ofInt IntKind.u8.bits (IntKind.u8.wrap ((qa8 b a:Nat):Int)) &&& BitVec.ofInt IntKind.u8.bits (63:Int)).toNat:Nat):Int))).toNat:Nat):Int))) fun g=>
 chk (decide ((qav (c++[e,f,g])).length * 1<=140737488355328)) (
 d ((c++[e,f,g]),(bif(decide (a<b.length))then qdy b a else a))))
 else(
 bif(bif(decide ((IntKind.u32.wrap ((qa8 b a:Nat):Int))>65535))then(decide ((IntKind.u32.wrap ((qa8 b a:Nat):Int))<=1114111))else false)then(
 bnd (u8I (IntKind.u8.wrap (((BitVec.ofInt IntKind.u8.bits (240:Int) ||| BitVec.ofInt IntKind.u8.bits (IntKind.u8.wrap (Int.fdiv ((qa8 b a:Nat):Int) (2 ^ (min (Int.toNat (18:Int)) IntKind.i32.bits))))).toNat:Nat):Int))) fun i=>
 bnd (u8I (IntKind.u8.wrap (((BitVec.ofInt IntKind.u8.bits (128:Int) ||| BitVec.ofInt IntKind.u8.bits (IntKind.u8.wrap (((BitVec.ofInt IntKind.u8.bits (IntKind.u8.wrap (Int.fdiv ((qa8 b a:Nat):Int) (2 ^ (min (Int.toNat (12:Int)) IntKind.i32.bits)))) &&& BitVec.ofInt IntKind.u8.bits (63:Int)).toNat:Nat):Int))).toNat:Nat):Int))) fun j=>
 bnd (u8I (IntKind.u8.wrap (((BitVec.ofInt IntKind.u8.bits (128:Int) ||| BitVec.ofInt IntKind.u8.bits (IntKind.u8.wrap (((BitVec.ofInt IntKind.u8.bits (IntKind.u8.wrap (Int.fdiv ((qa8 b a:Nat):Int) (2 ^ (min (Int.toNat (6:Int)) IntKind.i32.bits)))) &&& BitVec.ofInt IntKind.u8.bits (63:Int)).toNat:Nat):Int))).toNat:Nat):Int))) fun k=>
 bnd (u8I (IntKind.u8.wrap (((BitVec.ofInt IntKind.u8.bits (128:Int) ||| BitVec.ofInt IntKind.u8.bits (IntKind.u8.wrap (((BitVec.ofInt IntKind.u8.bits (IntKind.u8.wrap ((qa8 b a:Nat):Int)) &&& BitVec.ofInt IntKind.u8.bits (63:Int)).toNat:Nat):Int))).toNat:Nat):Int))) fun l=>
 chk (decide ((qav (c++[i,j,k,l])).length * 1<=140737488355328)) (
 d ((c++[i,j,k,l]),(bif(decide (a<b.length))then qdy b a else a))))
 else(
 chk (decide ((qav (c++[(239:UInt8),(191:UInt8),(189:UInt8)])).length * 1<=140737488355328)) (
 d ((c++[(239:UInt8),(191:UInt8),(189:UInt8)]),(bif(decide (a<b.length))then qdy b a else a)))))
def qth (n:Nat) (b:SS):(SS×Nat->Option SS)->SS×Nat->Option SS:=fun d (c,a)=>
 bif(decide (a<b.length))then(
 bif(bif(((qa8 b a:Nat):Int)==92)then true else(((qa8 b a:Nat):Int)==39))then(
 chk (decide ((qav (c++[(92:UInt8)])).length * 1<=140737488355328)) (
 bif(decide ((IntKind.u32.wrap ((qa8 b a:Nat):Int))<=127))then(
 bnd (u8I (IntKind.u8.wrap ((qa8 b a:Nat):Int))) fun m=>
 chk (decide ((qav ((c++[(92:UInt8)])++[m])).length * 1<=140737488355328)) (
 d (((c++[(92:UInt8)])++[m]),(bif(decide (a<b.length))then qdy b a else a))))
 else(
 bif(decide ((IntKind.u32.wrap ((qa8 b a:Nat):Int))<=2047))then(
 bnd (u8I (IntKind.u8.wrap (((BitVec.ofInt IntKind.u8.bits (192:Int) ||| BitVec.ofInt IntKind.u8.bits (IntKind.u8.wrap (Int.fdiv ((qa8 b a:Nat):Int) (2 ^ (min (Int.toNat (6:Int)) IntKind.i32.bits))))).toNat:Nat):Int))) fun o=>
 bnd (u8I (IntKind.u8.wrap (((BitVec.ofInt IntKind.u8.bits (128:Int) ||| BitVec.ofInt IntKind.u8.bits (IntKind.u8.wrap (((BitVec.ofInt IntKind.u8.bits (IntKind.u8.wrap ((qa8 b a:Nat):Int)) &&& BitVec.ofInt IntKind.u8.bits (63:Int)).toNat:Nat):Int))).toNat:Nat):Int))) fun p=>
 chk (decide ((qav ((c++[(92:UInt8)])++[o,p])).length * 1<=140737488355328)) (
 d (((c++[(92:UInt8)])++[o,p]),(bif(decide (a<b.length))then qdy b a else a))))
 else(
 bif(decide ((IntKind.u32.wrap ((qa8 b a:Nat):Int))<55296))then(
 qp2 n b a c d (decide ((IntKind.u32.wrap ((qa8 b a:Nat):Int))<55296)))
 else(
 qp2 n b a c d (bif(decide ((57343:Int)<(IntKind.u32.wrap ((qa8 b a:Nat):Int))))then(decide ((IntKind.u32.wrap ((qa8 b a:Nat):Int))<=65535))else false))))))
 else(
 bif(((qa8 b a:Nat):Int)==10)then(
 chk (decide ((qav (c++([92,110]:SS))).length * 1<=140737488355328)) (
 d ((c++([92,110]:SS)),(bif(decide (a<b.length))then qdy b a else a))))
 else(
 bif(((qa8 b a:Nat):Int)==9)then(
 chk (decide ((qav (c++([92,116]:SS))).length * 1<=140737488355328)) (
 d ((c++([92,116]:SS)),(bif(decide (a<b.length))then qdy b a else a))))
 else(
 bif(((qa8 b a:Nat):Int)==13)then(
 chk (decide ((qav (c++([92,114]:SS))).length * 1<=140737488355328)) (
 d ((c++([92,114]:SS)),(bif(decide (a<b.length))then qdy b a else a))))
 else(
 bnd (qaw ((!(bif(decide (((qa8 b a:Nat):Int)<32))then true else(((qa8 b a:Nat):Int)==127)))&&(((qa8 b a:Nat):Int)==65533)) (qxb ((a:Nat):Int))) fun f=>
 chk (bif((!(bif(decide (((qa8 b a:Nat):Int)<32))then true else(((qa8 b a:Nat):Int)==127)))&&(((qa8 b a:Nat):Int)==65533))then decide (f<=b.length)else true) (
 bnd (qaw ((!(bif(decide (((qa8 b a:Nat):Int)<32))then true else(((qa8 b a:Nat):Int)==127)))&&(((qa8 b a:Nat):Int)==65533)) (qo4 n (b.drop f) ([239,191,189]:SS))) fun q=>
 bif(bif(bif(decide (((qa8 b a:Nat):Int)<32))then true else(((qa8 b a:Nat):Int)==127))then true else(bif(((qa8 b a:Nat):Int)==65533)then(!q)else false))then(
 bnd (idx b ((a:Nat):Int)) fun g=>
 chk (decide ((qav (c++([92,120]:SS))).length * 1<=140737488355328)) (
 bnd (idx ([48,49,50,51,52,53,54,55,56,57,97,98,99,100,101,102]:SS) (Int.fdiv ((g.toNat:Nat):Int) (2 ^ (min (Int.toNat (4:Int)) IntKind.u8.bits)))) fun e=>
 chk (decide ((qav ((c++([92,120]:SS))++[e])).length * 1<=140737488355328)) (
 bnd (idx ([48,49,50,51,52,53,54,55,56,57,97,98,99,100,101,102]:SS) (IntKind.u8.wrap (((BitVec.ofInt IntKind.u8.bits ((g.toNat:Nat):Int) &&& BitVec.ofInt IntKind.u8.bits (15:Int)).toNat:Nat):Int))) fun i=>
 chk (decide ((qav (((c++([92,120]:SS))++[e])++[i])).length * 1<=140737488355328)) (
 d ((((c++([92,120]:SS))++[e])++[i]),(bif(decide (a<b.length))then qdy b a else a))))))
 else(
 bif(decide ((IntKind.u32.wrap ((qa8 b a:Nat):Int))<=127))then(
 bnd (u8I (IntKind.u8.wrap ((qa8 b a:Nat):Int))) fun j=>
 chk (decide ((qav (c++[j])).length * 1<=140737488355328)) (
 d ((c++[j]),(bif(decide (a<b.length))then qdy b a else a))))
 else(
 bif(decide ((IntKind.u32.wrap ((qa8 b a:Nat):Int))<=2047))then(
 bnd (u8I (IntKind.u8.wrap (((BitVec.ofInt IntKind.u8.bits (192:Int) ||| BitVec.ofInt IntKind.u8.bits (IntKind.u8.wrap (Int.fdiv ((qa8 b a:Nat):Int) (2 ^ (min (Int.toNat (6:Int)) IntKind.i32.bits))))).toNat:Nat):Int))) fun k=>
 bnd (u8I (IntKind.u8.wrap (((BitVec.ofInt IntKind.u8.bits (128:Int) ||| BitVec.ofInt IntKind.u8.bits (IntKind.u8.wrap (((BitVec.ofInt IntKind.u8.bits (IntKind.u8.wrap ((qa8 b a:Nat):Int)) &&& BitVec.ofInt IntKind.u8.bits (63:Int)).toNat:Nat):Int))).toNat:Nat):Int))) fun l=>
 chk (decide ((qav (c++[k,l])).length * 1<=140737488355328)) (
 d ((c++[k,l]),(bif(decide (a<b.length))then qdy b a else a))))
 else(
 bif(decide ((IntKind.u32.wrap ((qa8 b a:Nat):Int))<55296))then(
 qp3 n b a c d (decide ((IntKind.u32.wrap ((qa8 b a:Nat):Int))<55296)))
 else(
 qp3 n b a c d (bif(decide ((57343:Int)<(IntKind.u32.wrap ((qa8 b a:Nat):Int))))then(decide ((IntKind.u32.wrap ((qa8 b a:Nat):Int))<=65535))else false)))))))))))
 else(
 chk (decide ((qav (c++[(39:UInt8)])).length * 1<=140737488355328)) (
 some (c++[(39:UInt8)])))
def qx7 (n:Nat) (a:SS):Option SS:=
 chk (decide ((qav [(39:UInt8)]).length * 1<=140737488355328)) (
 qan (qth n a) n ([(39:UInt8)],0))
set_option maxHeartbeats 4000000 in
theorem q7a (n:Nat):∀ (c r:SS),qx7 n c=some r->qac Tryz.prog 58 [PV.str c] (q96 r):=by
 intro c r h;unfold qx7 at h;refine qac.of_vcN mixed (fun _ _=>Tryz.call58 _ _) Tryz.func58 (by kernel_rfl) (inl:=[31,35,36,55,94,97,99,146,168,1000000]) ?_;conv=>whnf
 refine qc4.of_vc mixed (fun _ _=>Tryz.call35 _ _) Tryz.func35 (by kernel_rfl) (inl:=[31,35,36,55,94,97,99,146,168,1000000]) ?_;conv=>whnf
 refine qc4.of_vc mixed (fun _ _=>Tryz.call55 _ _) Tryz.func55 (by kernel_rfl) (inl:=[31,35,36,55,94,97,99,146,168,1000000]) ?_;conv=>whnf
 refine⟨fun _=>?_,fun hf=>absurd hf (by first|decide|simp)⟩;conv=>whnf
 refine⟨⟨by decide,by first|decide|exact Nat.zero_lt_succ _⟩,?_⟩;conv=>whnf
 refine qc4.noEscape Tryz.func94 (by kernel_rfl) (by kernel_rfl) (by kernel_rfl) (by kernel_rfl) ?_;conv=>whnf
 refine⟨by kernel_rfl,?_⟩;conv=>whnf
 refine⟨Codec.one qdj [(39:UInt8)],qav [(39:UInt8)],.inl rfl,?_⟩;conv=>whnf
 obtain⟨a4,h⟩:=qak h;refine⟨⟨Codec.wide qdj [(39:UInt8)],of_decide_eq_true a4,qcb a4 (by decide)⟩,?_⟩;conv=>whnf
 refine qbl.fn [31,35,36,55,94,97,99,146,168,1000000] (S:=SS×Nat) (fun(a,b)=>[(0,pS c),(3,.ptr 0 0),(8,.ptr 1 0)]) (fun(a,b)=>[.box 88 [.ptr 0 0,.tsl 2 (qav a)],.sit c b,.tail 5 1 (qav a).length]) (B:=qth n c) h (wk [0,2,1] []) ?_;intro a7 st h;obtain⟨a,b⟩:=st;unfold qth at h;conv=>whnf
 refine⟨(decide (b<c.length)),(bif(decide (b<c.length))then qdy c b else b),⟨rfl,rfl⟩,?_⟩;conv=>whnf
 apply ifc h<;>intro d h
 ·conv=>whnf
  refine⟨by assumption,?_⟩;conv=>whnf
  refine⟨by assumption,?_⟩;conv=>whnf
  refine⟨id,id,?_⟩;conv=>whnf
  apply ifc h<;>intro d h
  ·conv=>whnf
   refine qc4.of_vc mixed (fun _ _=>Tryz.call35 _ _) Tryz.func35 (by kernel_rfl) (inl:=[31,35,36,55,94,97,99,146,168,1000000]) ?_;conv=>whnf
   refine qc4.of_vc mixed (fun _ _=>Tryz.call55 _ _) Tryz.func55 (by kernel_rfl) (inl:=[31,35,36,55,94,97,99,146,168,1000000]) ?_;conv=>whnf
   refine⟨fun hf=>absurd hf (by first|decide|simp),fun _=>?_⟩;conv=>whnf
   refine⟨fun hf=>absurd hf (by first|decide|simp),fun _=>?_⟩;conv=>whnf
   refine⟨Codec.one qdj [(92:UInt8)],qav [(92:UInt8)],.inl rfl,?_⟩;conv=>whnf
   rw[show qav a++qav [(92:UInt8)]=qav (a++[(92:UInt8)])from Codec.append qdj a [(92:UInt8)]];conv=>whnf
   obtain⟨O,h⟩:=qak h;refine⟨⟨Codec.wide qdj (a++[(92:UInt8)]),of_decide_eq_true O,qcb O (by decide)⟩,?_⟩;conv=>whnf
   refine⟨⟨rfl,rfl,rfl⟩,?_⟩;conv=>whnf
   refine qc4.of_vc mixed (fun _ _=>Tryz.call97 _ _) Tryz.func97 (by kernel_rfl) (inl:=[31,35,36,55,94,97,99,146,168,1000000]) ?_;conv=>whnf
   refine qc4.of_vc mixed (fun _ _=>Tryz.call55 _ _) Tryz.func55 (by kernel_rfl) (inl:=[31,35,36,55,94,97,99,146,168,1000000]) ?_;conv=>whnf
   refine⟨fun hf=>absurd hf (by first|decide|simp),fun _=>?_⟩;conv=>whnf
   refine⟨fun hf=>absurd hf (by first|decide|simp),fun _=>?_⟩;conv=>whnf
   refine qc4.of_vc mixed (fun _ _=>Tryz.call146 _ _) Tryz.func146 (by kernel_rfl) (inl:=[31,35,36,55,94,97,99,146,168,1000000]) ?_;conv=>whnf
   apply ifc h<;>intro d h
   ·conv=>whnf
    refine bq h fun C a8 h=>?_;rw[show([[PV.int .u8 (IntKind.u8.wrap ((qa8 c b:Nat):Int))]]:List (List PV))=qav [C]from by rw[qex a8]; rfl];refine⟨Codec.one qdj [C],_,.inl rfl,?_⟩;conv=>whnf
    rw[show qav (a++[(92:UInt8)])++qav [C]=qav ((a++[(92:UInt8)])++[C])from Codec.append qdj (a++[(92:UInt8)]) [C]];conv=>whnf
    obtain⟨U,h⟩:=qak h;refine⟨⟨Codec.wide qdj ((a++[(92:UInt8)])++[C]),of_decide_eq_true U,qcb U (by decide)⟩,?_⟩;conv=>whnf
    refine⟨⟨rfl,rfl,rfl⟩,?_⟩;conv=>whnf
    exact⟨(((a++[(92:UInt8)])++[C]),(bif(decide (b<c.length))then qdy c b else b)),h,wk [0,1,4] []⟩
   ·conv=>whnf
    refine qc4.of_vc mixed (fun _ _=>Tryz.call168 _ _) Tryz.func168 (by kernel_rfl) (inl:=[31,35,36,55,94,97,99,146,168,1000000]) ?_;conv=>whnf
    apply ifc h<;>intro d h
    ·conv=>whnf
     refine⟨by unfold gI; decide,?_⟩;conv=>whnf
     refine bq h fun D b9 h=>?_;refine bq h fun F c7 h=>?_;rw[show([[PV.int .u8 (IntKind.u8.wrap (((BitVec.ofInt IntKind.u8.bits (192:Int) ||| BitVec.ofInt IntKind.u8.bits (IntKind.u8.wrap (Int.fdiv ((qa8 c b:Nat):Int) (2 ^ (min (Int.toNat (6:Int)) IntKind.i32.bits))))).toNat:Nat):Int))],[PV.int .u8 (IntKind.u8.wrap (((BitVec.ofInt IntKind.u8.bits (128:Int) ||| BitVec.ofInt IntKind.u8.bits (IntKind.u8.wrap (((BitVec.ofInt IntKind.u8.bits (IntKind.u8.wrap ((qa8 c b:Nat):Int)) &&& BitVec.ofInt IntKind.u8.bits (63:Int)).toNat:Nat):Int))).toNat:Nat):Int))]]:List (List PV))=qav [D,F]from by rw[qex b9,qex c7]; rfl];refine⟨Codec.one qdj [D,F],_,.inl rfl,?_⟩;conv=>whnf
     rw[show qav (a++[(92:UInt8)])++qav [D,F]=qav ((a++[(92:UInt8)])++[D,F])from Codec.append qdj (a++[(92:UInt8)]) [D,F]];conv=>whnf
     obtain⟨a5,h⟩:=qak h;refine⟨⟨Codec.wide qdj ((a++[(92:UInt8)])++[D,F]),of_decide_eq_true a5,qcb a5 (by decide)⟩,?_⟩;conv=>whnf
     refine⟨⟨rfl,rfl,rfl⟩,?_⟩;conv=>whnf
     exact⟨(((a++[(92:UInt8)])++[D,F]),(bif(decide (b<c.length))then qdy c b else b)),h,wk [0,1,4] []⟩
    ·conv=>whnf
     refine qh6.cut (S:=Bool) (fun L=>[(0,.tsl 3 (qav (a++[(92:UInt8)]))),(1,.p (.int .i32 ((qa8 c b:Nat):Int))),(5,.p (.int .u32 (IntKind.u32.wrap ((qa8 c b:Nat):Int)))),(25,pB L)]) (fun L=>[.box 88 [.ptr 0 0,.tsl 3 (qav (a++[(92:UInt8)]))],.sit c (bif(decide (b<c.length))then qdy c b else b),.dead,.tail 5 1 (qav (a++[(92:UInt8)])).length]) (qp2 n c b a a7) (r:=r) ?_ ?_
     ·intro L h
      unfold qp2 at h;conv=>whnf
      apply ifc h<;>intro d h
      ·conv=>whnf
       refine⟨by unfold gI; decide,?_⟩;conv=>whnf
       refine⟨by unfold gI; decide,?_⟩;conv=>whnf
       refine bq h fun G d1 h=>?_;refine bq h fun H d2 h=>?_;refine bq h fun f d3 h=>?_;rw[show([[PV.int .u8 (IntKind.u8.wrap (((BitVec.ofInt IntKind.u8.bits (224:Int) ||| BitVec.ofInt IntKind.u8.bits (IntKind.u8.wrap (Int.fdiv ((qa8 c b:Nat):Int) (2 ^ (min (Int.toNat (12:Int)) IntKind.i32.bits))))).toNat:Nat):Int))],[PV.int .u8 (IntKind.u8.wrap (((BitVec.ofInt IntKind.u8.bits (128:Int) ||| BitVec.ofInt IntKind.u8.bits (IntKind.u8.wrap (((BitVec.ofInt IntKind.u8.bits (IntKind.u8.wrap (Int.fdiv ((qa8 c b:Nat):Int) (2 ^ (min (Int.toNat (6:Int)) IntKind.i32.bits)))) &&& BitVec.ofInt IntKind.u8.bits (63:Int)).toNat:Nat):Int))).toNat:Nat):Int))],[PV.int .u8 (IntKind.u8.wrap (((BitVec.ofInt IntKind.u8.bits (128:Int) ||| BitVec.ofInt IntKind.u8.bits (IntKind.u8.wrap (((BitVec.ofInt IntKind.u8.bits (IntKind.u8.wrap ((qa8 c b:Nat):Int)) &&& BitVec.ofInt IntKind.u8.bits (63:Int)).toNat:Nat):Int))).toNat:Nat):Int))]]:List (List PV))=qav [G,H,f]from by rw[qex d1,qex d2,qex d3]; rfl];refine⟨Codec.one qdj [G,H,f],_,.inl rfl,?_⟩;conv=>whnf
       rw[show qav (a++[(92:UInt8)])++qav [G,H,f]=qav ((a++[(92:UInt8)])++[G,H,f])from Codec.append qdj (a++[(92:UInt8)]) [G,H,f]];conv=>whnf
       obtain⟨a6,h⟩:=qak h;refine⟨⟨Codec.wide qdj ((a++[(92:UInt8)])++[G,H,f]),of_decide_eq_true a6,qcb a6 (by decide)⟩,?_⟩;conv=>whnf
       refine⟨⟨rfl,rfl,rfl⟩,?_⟩;conv=>whnf
       exact⟨(((a++[(92:UInt8)])++[G,H,f]),(bif(decide (b<c.length))then qdy c b else b)),h,wk [0,1,4] []⟩
      ·conv=>whnf
       refine⟨id,id,?_⟩;conv=>whnf
       apply ifc h<;>intro d h
       ·conv=>whnf
        refine⟨by unfold gI; decide,?_⟩;conv=>whnf
        refine⟨by unfold gI; decide,?_⟩;conv=>whnf
        refine⟨by unfold gI; decide,?_⟩;conv=>whnf
        refine bq h fun g a9 h=>?_;refine bq h fun i b0 h=>?_;refine bq h fun l b1 h=>?_;refine bq h fun m b2 h=>?_;rw[show([[PV.int .u8 (IntKind.u8.wrap (((BitVec.ofInt IntKind.u8.bits (240:Int) ||| BitVec.ofInt IntKind.u8.bits (IntKind.u8.wrap (Int.fdiv ((qa8 c b:Nat):Int) (2 ^ (min (Int.toNat (18:Int)) IntKind.i32.bits))))).toNat:Nat):Int))],[PV.int .u8 (IntKind.u8.wrap (((BitVec.ofInt IntKind.u8.bits (128:Int) ||| BitVec.ofInt IntKind.u8.bits (IntKind.u8.wrap (((BitVec.ofInt IntKind.u8.bits (IntKind.u8.wrap (Int.fdiv ((qa8 c b:Nat):Int) (2 ^ (min (Int.toNat (12:Int)) IntKind.i32.bits)))) &&& BitVec.ofInt IntKind.u8.bits (63:Int)).toNat:Nat):Int))).toNat:Nat):Int))],[PV.int .u8 (IntKind.u8.wrap (((BitVec.ofInt IntKind.u8.bits (128:Int) ||| BitVec.ofInt IntKind.u8.bits (IntKind.u8.wrap (((BitVec.ofInt IntKind.u8.bits (IntKind.u8.wrap (Int.fdiv ((qa8 c b:Nat):Int) (2 ^ (min (Int.toNat (6:Int)) IntKind.i32.bits)))) &&& BitVec.ofInt IntKind.u8.bits (63:Int)).toNat:Nat):Int))).toNat:Nat):Int))],[PV.int .u8 (IntKind.u8.wrap (((BitVec.ofInt IntKind.u8.bits (128:Int) ||| BitVec.ofInt IntKind.u8.bits (IntKind.u8.wrap (((BitVec.ofInt IntKind.u8.bits (IntKind.u8.wrap ((qa8 c b:Nat):Int)) &&& BitVec.ofInt IntKind.u8.bits (63:Int)).toNat:Nat):Int))).toNat:Nat):Int))]]:List (List PV))=qav [g,i,l,m]from by rw[qex a9,qex b0,qex b1,qex b2]; rfl];refine⟨Codec.one qdj [g,i,l,m],_,.inl rfl,?_⟩;conv=>whnf
        rw[show qav (a++[(92:UInt8)])++qav [g,i,l,m]=qav ((a++[(92:UInt8)])++[g,i,l,m])from Codec.append qdj (a++[(92:UInt8)]) [g,i,l,m]];conv=>whnf
        obtain⟨M,h⟩:=qak h;refine⟨⟨Codec.wide qdj ((a++[(92:UInt8)])++[g,i,l,m]),of_decide_eq_true M,qcb M (by decide)⟩,?_⟩;conv=>whnf
        refine⟨⟨rfl,rfl,rfl⟩,?_⟩;conv=>whnf
        exact⟨(((a++[(92:UInt8)])++[g,i,l,m]),(bif(decide (b<c.length))then qdy c b else b)),h,wk [0,1,4] []⟩
       ·conv=>whnf
        refine⟨Codec.one qdj [(239:UInt8),(191:UInt8),(189:UInt8)],qav [(239:UInt8),(191:UInt8),(189:UInt8)],.inl rfl,?_⟩;conv=>whnf
        rw[show qav (a++[(92:UInt8)])++qav [(239:UInt8),(191:UInt8),(189:UInt8)]=qav ((a++[(92:UInt8)])++[(239:UInt8),(191:UInt8),(189:UInt8)])from Codec.append qdj (a++[(92:UInt8)]) [(239:UInt8),(191:UInt8),(189:UInt8)]];conv=>whnf
        obtain⟨N,h⟩:=qak h;refine⟨⟨Codec.wide qdj ((a++[(92:UInt8)])++[(239:UInt8),(191:UInt8),(189:UInt8)]),of_decide_eq_true N,qcb N (by decide)⟩,?_⟩;conv=>whnf
        refine⟨⟨rfl,rfl,rfl⟩,?_⟩;conv=>whnf
        exact⟨(((a++[(92:UInt8)])++[(239:UInt8),(191:UInt8),(189:UInt8)]),(bif(decide (b<c.length))then qdy c b else b)),h,wk [0,1,4] []⟩
     ·conv=>whnf
      apply ifc h<;>intro d h
      ·conv=>whnf
       exact⟨(decide ((IntKind.u32.wrap ((qa8 c b:Nat):Int))<55296)),h,wk [0,1,2,3] []⟩
      ·conv=>whnf
       refine⟨id,id,?_⟩;conv=>whnf
       exact⟨(bif(decide ((57343:Int)<(IntKind.u32.wrap ((qa8 c b:Nat):Int))))then(decide ((IntKind.u32.wrap ((qa8 c b:Nat):Int))<=65535))else false),h,wk [0,1,2,3] []⟩
  ·conv=>whnf
   apply ifc h<;>intro d h
   ·conv=>whnf
    refine qc4.of_vc mixed (fun _ _=>Tryz.call31 _ _) Tryz.func31 (by kernel_rfl) (inl:=[31,35,36,55,94,97,99,146,168,1000000]) ?_;conv=>whnf
    refine qc4.of_vc mixed (fun _ _=>Tryz.call55 _ _) Tryz.func55 (by kernel_rfl) (inl:=[31,35,36,55,94,97,99,146,168,1000000]) ?_;conv=>whnf
    refine⟨fun hf=>absurd hf (by first|decide|simp),fun _=>?_⟩;conv=>whnf
    refine⟨fun hf=>absurd hf (by first|decide|simp),fun _=>?_⟩;conv=>whnf
    rw[show qav a++qav ([92,110]:SS)=qav (a++([92,110]:SS))from Codec.append qdj a ([92,110]:SS)];conv=>whnf
    obtain⟨P,h⟩:=qak h;refine⟨⟨Codec.wide qdj a,of_decide_eq_true P,qcb P (by decide)⟩,?_⟩;conv=>whnf
    refine⟨⟨rfl,rfl,rfl⟩,?_⟩;conv=>whnf
    exact⟨((a++([92,110]:SS)),(bif(decide (b<c.length))then qdy c b else b)),h,wk [0,1,3] []⟩
   ·conv=>whnf
    apply ifc h<;>intro d h
    ·conv=>whnf
     refine qc4.of_vc mixed (fun _ _=>Tryz.call31 _ _) Tryz.func31 (by kernel_rfl) (inl:=[31,35,36,55,94,97,99,146,168,1000000]) ?_;conv=>whnf
     refine qc4.of_vc mixed (fun _ _=>Tryz.call55 _ _) Tryz.func55 (by kernel_rfl) (inl:=[31,35,36,55,94,97,99,146,168,1000000]) ?_;conv=>whnf
     refine⟨fun hf=>absurd hf (by first|decide|simp),fun _=>?_⟩;conv=>whnf
     refine⟨fun hf=>absurd hf (by first|decide|simp),fun _=>?_⟩;conv=>whnf
     rw[show qav a++qav ([92,116]:SS)=qav (a++([92,116]:SS))from Codec.append qdj a ([92,116]:SS)];conv=>whnf
     obtain⟨Q,h⟩:=qak h;refine⟨⟨Codec.wide qdj a,of_decide_eq_true Q,qcb Q (by decide)⟩,?_⟩;conv=>whnf
     refine⟨⟨rfl,rfl,rfl⟩,?_⟩;conv=>whnf
     exact⟨((a++([92,116]:SS)),(bif(decide (b<c.length))then qdy c b else b)),h,wk [0,1,3] []⟩
    ·conv=>whnf
     apply ifc h<;>intro d h
     ·conv=>whnf
      refine qc4.of_vc mixed (fun _ _=>Tryz.call31 _ _) Tryz.func31 (by kernel_rfl) (inl:=[31,35,36,55,94,97,99,146,168,1000000]) ?_;conv=>whnf
      refine qc4.of_vc mixed (fun _ _=>Tryz.call55 _ _) Tryz.func55 (by kernel_rfl) (inl:=[31,35,36,55,94,97,99,146,168,1000000]) ?_;conv=>whnf
      refine⟨fun hf=>absurd hf (by first|decide|simp),fun _=>?_⟩;conv=>whnf
      refine⟨fun hf=>absurd hf (by first|decide|simp),fun _=>?_⟩;conv=>whnf
      rw[show qav a++qav ([92,114]:SS)=qav (a++([92,114]:SS))from Codec.append qdj a ([92,114]:SS)];conv=>whnf
      obtain⟨R,h⟩:=qak h;refine⟨⟨Codec.wide qdj a,of_decide_eq_true R,qcb R (by decide)⟩,?_⟩;conv=>whnf
      refine⟨⟨rfl,rfl,rfl⟩,?_⟩;conv=>whnf
      exact⟨((a++([92,114]:SS)),(bif(decide (b<c.length))then qdy c b else b)),h,wk [0,1,3] []⟩
     ·conv=>whnf
      iterate 6 refine⟨id,?_⟩
      conv=>whnf
      refine bq h fun J d0 h=>?_;refine⟨_,fun I=>qdu (qad d0 I),?_⟩;conv=>whnf
      obtain⟨c9,h⟩:=qak h;refine⟨fun I=>⟨(of_decide_eq_true (gd c9 I):(J<=c.length)),Nat.le_refl _⟩,?_⟩;rw[show List.drop J (List.take c.length c)=(c.drop J)from by rw[List.take_length]];conv=>whnf
      refine⟨id,?_⟩;conv=>whnf
      refine bq h fun _ c8 h=>?_;refine⟨_,fun I=>(qxf n _ _ _ (qad c8 I)),?_⟩;conv=>whnf
      refine⟨id,id,id,id,?_⟩;conv=>whnf
      apply ifc h<;>intro d h
      ·conv=>whnf
       refine bq h fun _ b5 h=>?_;refine⟨_,qdq b5,?_⟩;conv=>whnf
       refine qc4.of_vc mixed (fun _ _=>Tryz.call99 _ _) Tryz.func99 (by kernel_rfl) (inl:=[31,35,36,55,94,97,99,146,168,1000000]) ?_;conv=>whnf
       refine qc4.of_vc mixed (fun _ _=>Tryz.call31 _ _) Tryz.func31 (by kernel_rfl) (inl:=[31,35,36,55,94,97,99,146,168,1000000]) ?_;conv=>whnf
       refine qc4.of_vc mixed (fun _ _=>Tryz.call55 _ _) Tryz.func55 (by kernel_rfl) (inl:=[31,35,36,55,94,97,99,146,168,1000000]) ?_;conv=>whnf
       refine⟨fun hf=>absurd hf (by first|decide|simp),fun _=>?_⟩;conv=>whnf
       refine⟨fun hf=>absurd hf (by first|decide|simp),fun _=>?_⟩;conv=>whnf
       rw[show qav a++qav ([92,120]:SS)=qav (a++([92,120]:SS))from Codec.append qdj a ([92,120]:SS)];conv=>whnf
       obtain⟨X,h⟩:=qak h;refine⟨⟨Codec.wide qdj a,of_decide_eq_true X,qcb X (by decide)⟩,?_⟩;conv=>whnf
       refine⟨⟨rfl,rfl,rfl⟩,?_⟩;conv=>whnf
       refine⟨by unfold gI; decide,?_⟩;conv=>whnf
       refine bq h fun e b4 h=>?_;refine⟨_,qdq b4,?_⟩;conv=>whnf
       refine qc4.of_vc mixed (fun _ _=>Tryz.call35 _ _) Tryz.func35 (by kernel_rfl) (inl:=[31,35,36,55,94,97,99,146,168,1000000]) ?_;conv=>whnf
       refine qc4.of_vc mixed (fun _ _=>Tryz.call55 _ _) Tryz.func55 (by kernel_rfl) (inl:=[31,35,36,55,94,97,99,146,168,1000000]) ?_;conv=>whnf
       refine⟨fun hf=>absurd hf (by first|decide|simp),fun _=>?_⟩;conv=>whnf
       refine⟨fun hf=>absurd hf (by first|decide|simp),fun _=>?_⟩;conv=>whnf
       refine⟨Codec.one qdj [e],qav [e],.inl rfl,?_⟩;conv=>whnf
       rw[show qav (a++([92,120]:SS))++qav [e]=qav ((a++([92,120]:SS))++[e])from Codec.append qdj (a++([92,120]:SS)) [e]];conv=>whnf
       obtain⟨W,h⟩:=qak h;refine⟨⟨Codec.wide qdj ((a++([92,120]:SS))++[e]),of_decide_eq_true W,qcb W (by decide)⟩,?_⟩;conv=>whnf
       refine⟨⟨rfl,rfl,rfl⟩,?_⟩;conv=>whnf
       refine bq h fun o b3 h=>?_;refine⟨_,qdq b3,?_⟩;conv=>whnf
       refine qc4.of_vc mixed (fun _ _=>Tryz.call35 _ _) Tryz.func35 (by kernel_rfl) (inl:=[31,35,36,55,94,97,99,146,168,1000000]) ?_;conv=>whnf
       refine qc4.of_vc mixed (fun _ _=>Tryz.call55 _ _) Tryz.func55 (by kernel_rfl) (inl:=[31,35,36,55,94,97,99,146,168,1000000]) ?_;conv=>whnf
       refine⟨fun hf=>absurd hf (by first|decide|simp),fun _=>?_⟩;conv=>whnf
       refine⟨fun hf=>absurd hf (by first|decide|simp),fun _=>?_⟩;conv=>whnf
       refine⟨Codec.one qdj [o],qav [o],.inl rfl,?_⟩;conv=>whnf
       rw[show qav ((a++([92,120]:SS))++[e])++qav [o]=qav (((a++([92,120]:SS))++[e])++[o])from Codec.append qdj ((a++([92,120]:SS))++[e]) [o]];conv=>whnf
       obtain⟨V,h⟩:=qak h;refine⟨⟨Codec.wide qdj (((a++([92,120]:SS))++[e])++[o]),of_decide_eq_true V,qcb V (by decide)⟩,?_⟩;conv=>whnf
       refine⟨⟨rfl,rfl,rfl⟩,?_⟩;conv=>whnf
       exact⟨((((a++([92,120]:SS))++[e])++[o]),(bif(decide (b<c.length))then qdy c b else b)),h,wk [0,1,5] []⟩
      ·conv=>whnf
       refine qc4.of_vc mixed (fun _ _=>Tryz.call97 _ _) Tryz.func97 (by kernel_rfl) (inl:=[31,35,36,55,94,97,99,146,168,1000000]) ?_;conv=>whnf
       refine qc4.of_vc mixed (fun _ _=>Tryz.call55 _ _) Tryz.func55 (by kernel_rfl) (inl:=[31,35,36,55,94,97,99,146,168,1000000]) ?_;conv=>whnf
       refine⟨fun hf=>absurd hf (by first|decide|simp),fun _=>?_⟩;conv=>whnf
       refine⟨fun hf=>absurd hf (by first|decide|simp),fun _=>?_⟩;conv=>whnf
       refine qc4.of_vc mixed (fun _ _=>Tryz.call146 _ _) Tryz.func146 (by kernel_rfl) (inl:=[31,35,36,55,94,97,99,146,168,1000000]) ?_;conv=>whnf
       apply ifc h<;>intro d h
       ·conv=>whnf
        refine bq h fun q b6 h=>?_;rw[show([[PV.int .u8 (IntKind.u8.wrap ((qa8 c b:Nat):Int))]]:List (List PV))=qav [q]from by rw[qex b6]; rfl];refine⟨Codec.one qdj [q],_,.inl rfl,?_⟩;conv=>whnf
        rw[show qav a++qav [q]=qav (a++[q])from Codec.append qdj a [q]];conv=>whnf
        obtain⟨Y,h⟩:=qak h;refine⟨⟨Codec.wide qdj (a++[q]),of_decide_eq_true Y,qcb Y (by decide)⟩,?_⟩;conv=>whnf
        refine⟨⟨rfl,rfl,rfl⟩,?_⟩;conv=>whnf
        exact⟨((a++[q]),(bif(decide (b<c.length))then qdy c b else b)),h,wk [0,1,3] []⟩
       ·conv=>whnf
        refine qc4.of_vc mixed (fun _ _=>Tryz.call168 _ _) Tryz.func168 (by kernel_rfl) (inl:=[31,35,36,55,94,97,99,146,168,1000000]) ?_;conv=>whnf
        apply ifc h<;>intro d h
        ·conv=>whnf
         refine⟨by unfold gI; decide,?_⟩;conv=>whnf
         refine bq h fun s b7 h=>?_;refine bq h fun t b8 h=>?_;rw[show([[PV.int .u8 (IntKind.u8.wrap (((BitVec.ofInt IntKind.u8.bits (192:Int) ||| BitVec.ofInt IntKind.u8.bits (IntKind.u8.wrap (Int.fdiv ((qa8 c b:Nat):Int) (2 ^ (min (Int.toNat (6:Int)) IntKind.i32.bits))))).toNat:Nat):Int))],[PV.int .u8 (IntKind.u8.wrap (((BitVec.ofInt IntKind.u8.bits (128:Int) ||| BitVec.ofInt IntKind.u8.bits (IntKind.u8.wrap (((BitVec.ofInt IntKind.u8.bits (IntKind.u8.wrap ((qa8 c b:Nat):Int)) &&& BitVec.ofInt IntKind.u8.bits (63:Int)).toNat:Nat):Int))).toNat:Nat):Int))]]:List (List PV))=qav [s,t]from by rw[qex b7,qex b8]; rfl];refine⟨Codec.one qdj [s,t],_,.inl rfl,?_⟩;conv=>whnf
         rw[show qav a++qav [s,t]=qav (a++[s,t])from Codec.append qdj a [s,t]];conv=>whnf
         obtain⟨Z,h⟩:=qak h;refine⟨⟨Codec.wide qdj (a++[s,t]),of_decide_eq_true Z,qcb Z (by decide)⟩,?_⟩;conv=>whnf
         refine⟨⟨rfl,rfl,rfl⟩,?_⟩;conv=>whnf
         exact⟨((a++[s,t]),(bif(decide (b<c.length))then qdy c b else b)),h,wk [0,1,3] []⟩
        ·conv=>whnf
         refine qh6.cut (S:=Bool) (fun K=>[(0,.tsl 2 (qav a)),(1,.p (.int .i32 ((qa8 c b:Nat):Int))),(5,.p (.int .u32 (IntKind.u32.wrap ((qa8 c b:Nat):Int)))),(25,pB K)]) (fun K=>[.box 88 [.ptr 0 0,.tsl 2 (qav a)],.sit c (bif(decide (b<c.length))then qdy c b else b),.tail 5 1 (qav a).length]) (qp3 n c b a a7) (r:=r) ?_ ?_
         ·intro K h
          unfold qp3 at h;conv=>whnf
          apply ifc h<;>intro d h
          ·conv=>whnf
           refine⟨by unfold gI; decide,?_⟩;conv=>whnf
           refine⟨by unfold gI; decide,?_⟩;conv=>whnf
           refine bq h fun u c0 h=>?_;refine bq h fun v c1 h=>?_;refine bq h fun w c2 h=>?_;rw[show([[PV.int .u8 (IntKind.u8.wrap (((BitVec.ofInt IntKind.u8.bits (224:Int) ||| BitVec.ofInt IntKind.u8.bits (IntKind.u8.wrap (Int.fdiv ((qa8 c b:Nat):Int) (2 ^ (min (Int.toNat (12:Int)) IntKind.i32.bits))))).toNat:Nat):Int))],[PV.int .u8 (IntKind.u8.wrap (((BitVec.ofInt IntKind.u8.bits (128:Int) ||| BitVec.ofInt IntKind.u8.bits (IntKind.u8.wrap (((BitVec.ofInt IntKind.u8.bits (IntKind.u8.wrap (Int.fdiv ((qa8 c b:Nat):Int) (2 ^ (min (Int.toNat (6:Int)) IntKind.i32.bits)))) &&& BitVec.ofInt IntKind.u8.bits (63:Int)).toNat:Nat):Int))).toNat:Nat):Int))],[PV.int .u8 (IntKind.u8.wrap (((BitVec.ofInt IntKind.u8.bits (128:Int) ||| BitVec.ofInt IntKind.u8.bits (IntKind.u8.wrap (((BitVec.ofInt IntKind.u8.bits (IntKind.u8.wrap ((qa8 c b:Nat):Int)) &&& BitVec.ofInt IntKind.u8.bits (63:Int)).toNat:Nat):Int))).toNat:Nat):Int))]]:List (List PV))=qav [u,v,w]from by rw[qex c0,qex c1,qex c2]; rfl];refine⟨Codec.one qdj [u,v,w],_,.inl rfl,?_⟩;conv=>whnf
           rw[show qav a++qav [u,v,w]=qav (a++[u,v,w])from Codec.append qdj a [u,v,w]];conv=>whnf
           obtain⟨a0,h⟩:=qak h;refine⟨⟨Codec.wide qdj (a++[u,v,w]),of_decide_eq_true a0,qcb a0 (by decide)⟩,?_⟩;conv=>whnf
           refine⟨⟨rfl,rfl,rfl⟩,?_⟩;conv=>whnf
           exact⟨((a++[u,v,w]),(bif(decide (b<c.length))then qdy c b else b)),h,wk [0,1,3] []⟩
          ·conv=>whnf
           refine⟨id,id,?_⟩;conv=>whnf
           apply ifc h<;>intro d h
           ·conv=>whnf
            refine⟨by unfold gI; decide,?_⟩;conv=>whnf
            refine⟨by unfold gI; decide,?_⟩;conv=>whnf
            refine⟨by unfold gI; decide,?_⟩;conv=>whnf
            refine bq h fun x c3 h=>?_;refine bq h fun y c4 h=>?_;refine bq h fun z c5 h=>?_;refine bq h fun A c6 h=>?_;rw[show([[PV.int .u8 (IntKind.u8.wrap (((BitVec.ofInt IntKind.u8.bits (240:Int) ||| BitVec.ofInt IntKind.u8.bits (IntKind.u8.wrap (Int.fdiv ((qa8 c b:Nat):Int) (2 ^ (min (Int.toNat (18:Int)) IntKind.i32.bits))))).toNat:Nat):Int))],[PV.int .u8 (IntKind.u8.wrap (((BitVec.ofInt IntKind.u8.bits (128:Int) ||| BitVec.ofInt IntKind.u8.bits (IntKind.u8.wrap (((BitVec.ofInt IntKind.u8.bits (IntKind.u8.wrap (Int.fdiv ((qa8 c b:Nat):Int) (2 ^ (min (Int.toNat (12:Int)) IntKind.i32.bits)))) &&& BitVec.ofInt IntKind.u8.bits (63:Int)).toNat:Nat):Int))).toNat:Nat):Int))],[PV.int .u8 (IntKind.u8.wrap (((BitVec.ofInt IntKind.u8.bits (128:Int) ||| BitVec.ofInt IntKind.u8.bits (IntKind.u8.wrap (((BitVec.ofInt IntKind.u8.bits (IntKind.u8.wrap (Int.fdiv ((qa8 c b:Nat):Int) (2 ^ (min (Int.toNat (6:Int)) IntKind.i32.bits)))) &&& BitVec.ofInt IntKind.u8.bits (63:Int)).toNat:Nat):Int))).toNat:Nat):Int))],[PV.int .u8 (IntKind.u8.wrap (((BitVec.ofInt IntKind.u8.bits (128:Int) ||| BitVec.ofInt IntKind.u8.bits (IntKind.u8.wrap (((BitVec.ofInt IntKind.u8.bits (IntKind.u8.wrap ((qa8 c b:Nat):Int)) &&& BitVec.ofInt IntKind.u8.bits (63:Int)).toNat:Nat):Int))).toNat:Nat):Int))]]:List (List PV))=qav [x,y,z,A]from by rw[qex c3,qex c4,qex c5,qex c6]; rfl];refine⟨Codec.one qdj [x,y,z,A],_,.inl rfl,?_⟩;conv=>whnf
            rw[show qav a++qav [x,y,z,A]=qav (a++[x,y,z,A])from Codec.append qdj a [x,y,z,A]];conv=>whnf
            obtain⟨a1,h⟩:=qak h;refine⟨⟨Codec.wide qdj (a++[x,y,z,A]),of_decide_eq_true a1,qcb a1 (by decide)⟩,?_⟩;conv=>whnf
            refine⟨⟨rfl,rfl,rfl⟩,?_⟩;conv=>whnf
            exact⟨((a++[x,y,z,A]),(bif(decide (b<c.length))then qdy c b else b)),h,wk [0,1,3] []⟩
           ·conv=>whnf
            refine⟨Codec.one qdj [(239:UInt8),(191:UInt8),(189:UInt8)],qav [(239:UInt8),(191:UInt8),(189:UInt8)],.inl rfl,?_⟩;conv=>whnf
            rw[show qav a++qav [(239:UInt8),(191:UInt8),(189:UInt8)]=qav (a++[(239:UInt8),(191:UInt8),(189:UInt8)])from Codec.append qdj a [(239:UInt8),(191:UInt8),(189:UInt8)]];conv=>whnf
            obtain⟨a2,h⟩:=qak h;refine⟨⟨Codec.wide qdj (a++[(239:UInt8),(191:UInt8),(189:UInt8)]),of_decide_eq_true a2,qcb a2 (by decide)⟩,?_⟩;conv=>whnf
            refine⟨⟨rfl,rfl,rfl⟩,?_⟩;conv=>whnf
            exact⟨((a++[(239:UInt8),(191:UInt8),(189:UInt8)]),(bif(decide (b<c.length))then qdy c b else b)),h,wk [0,1,3] []⟩
         ·conv=>whnf
          apply ifc h<;>intro d h
          ·conv=>whnf
           exact⟨(decide ((IntKind.u32.wrap ((qa8 c b:Nat):Int))<55296)),h,wk [0,1,2] []⟩
          ·conv=>whnf
           refine⟨id,id,?_⟩;conv=>whnf
           exact⟨(bif(decide ((57343:Int)<(IntKind.u32.wrap ((qa8 c b:Nat):Int))))then(decide ((IntKind.u32.wrap ((qa8 c b:Nat):Int))<=65535))else false),h,wk [0,1,2] []⟩
 ·conv=>whnf
  refine qc4.of_vc mixed (fun _ _=>Tryz.call35 _ _) Tryz.func35 (by kernel_rfl) (inl:=[31,35,36,55,94,97,99,146,168,1000000]) ?_;conv=>whnf
  refine qc4.of_vc mixed (fun _ _=>Tryz.call55 _ _) Tryz.func55 (by kernel_rfl) (inl:=[31,35,36,55,94,97,99,146,168,1000000]) ?_;conv=>whnf
  refine⟨fun hf=>absurd hf (by first|decide|simp),fun _=>?_⟩;conv=>whnf
  refine⟨fun hf=>absurd hf (by first|decide|simp),fun _=>?_⟩;conv=>whnf
  refine⟨Codec.one qdj [(39:UInt8)],qav [(39:UInt8)],.inl rfl,?_⟩;conv=>whnf
  rw[show qav a++qav [(39:UInt8)]=qav (a++[(39:UInt8)])from Codec.append qdj a [(39:UInt8)]];conv=>whnf
  obtain⟨a3,h⟩:=qak h;refine⟨⟨Codec.wide qdj (a++[(39:UInt8)]),of_decide_eq_true a3,qcb a3 (by decide)⟩,?_⟩;conv=>whnf
  refine⟨⟨rfl,rfl,rfl⟩,?_⟩;conv=>whnf
  refine qc4.string_any (T:=88) (E:=5) zh6 q0l q0k (k:=0) (j:=3) (bs:=(a++[(39:UInt8)])) (n:=(qav (a++[(39:UInt8)])).length) rfl rfl ?_;obtain rfl:=sj h;conv=>whnf
  try exact fin
abbrev zct (r:SS):PV:=PV.str r
def qv8 (n:Nat) (a:SS):Option SS:=
 bnd (qev n a) fun b=>
 bif b then(
 some a)
 else(
 bnd (qx7 n a) fun c=>
 some c)
theorem q0f (n:Nat):∀ (a r:SS),qv8 n a=some r->qac Tryz.prog 34 [PV.str a] (zct r):=by
 intro a r h;unfold qv8 at h;refine qac.of_vcN mixed (fun _ _=>Tryz.call34 _ _) Tryz.func34 (by kernel_rfl) (inl:=[1000000]) ?_;conv=>whnf
 refine bq h fun _ c h=>?_;refine⟨_,(qfu n _ _ c),?_⟩;conv=>whnf
 apply ifc h<;>intro _ h
 ·obtain rfl:=sj h
  conv=>whnf
  try exact fin
 ·conv=>whnf
  refine bq h fun _ b h=>?_;refine⟨_,(q7a n _ _ b),?_⟩;obtain rfl:=sj h;conv=>whnf
  try exact fin
abbrev zcq (r:SS):PV:=PV.str r
def quw (n:Nat) (g:List qep) (i:Int×SS->Option SS) (p:Int):(Int×SS->Option SS)->Int×SS->Option SS:=fun j (e,d)=>
 bif(decide (e<((qep.rows g).length:Int)))then(
 bnd (idx g e) fun⟨k,l,m,o⟩=>
 bnd (qsu n k) fun a=>
 chk (decide (((([59,32,115,101,101,107,32]:SS).length+a.length:Nat):Int)<=qtu)) (
 chk (decide ((((([59,32,115,101,101,107,32]:SS)++a).length+([32]:SS).length:Nat):Int)<=qtu)) (
 bnd (qsu n l) fun b=>
 chk (decide (((((([59,32,115,101,101,107,32]:SS)++a)++([32]:SS)).length+b.length:Nat):Int)<=qtu)) (
 chk (decide ((((((([59,32,115,101,101,107,32]:SS)++a)++([32]:SS))++b).length+([32]:SS).length:Nat):Int)<=qtu)) (
 bnd (qv8 n m) fun c=>
 chk (decide (((((((([59,32,115,101,101,107,32]:SS)++a)++([32]:SS))++b)++([32]:SS)).length+c.length:Nat):Int)<=qtu)) (
 chk (decide ((((((((([59,32,115,101,101,107,32]:SS)++a)++([32]:SS))++b)++([32]:SS))++c).length+([46]:SS).length:Nat):Int)<=qtu)) (
 bnd (qv8 n o) fun f=>
 chk (decide (((((((((([59,32,115,101,101,107,32]:SS)++a)++([32]:SS))++b)++([32]:SS))++c)++([46]:SS)).length+f.length:Nat):Int)<=qtu)) (
 chk (decide ((qav (d++(((((((([59,32,115,101,101,107,32]:SS)++a)++([32]:SS))++b)++([32]:SS))++c)++([46]:SS))++f))).length * 1<=140737488355328)) (
 j ((IntKind.i64.wrap (e+1)),(d++(((((((([59,32,115,101,101,107,32]:SS)++a)++([32]:SS))++b)++([32]:SS))++c)++([46]:SS))++f))))))))))))
 else(
 chk (decide ((qav (d++[(10:UInt8)])).length * 1<=140737488355328)) (
 i ((IntKind.i64.wrap (p+1)),(d++[(10:UInt8)]))))
def qq6 (n:Nat) (d:List qep) (a:Int×SS->Option SS) (c:Int):SS->Option SS:=fun b=>
 qan (quw n d a c) n ((0:Int),b)
def quv (n:Nat) (g:List qa1):(Int×SS->Option SS)->Int×SS->Option SS:=fun f (d,b)=>
 bif(decide (d<((qa1.rows g).length:Int)))then(
 bnd (idx g d) fun⟨l,i,j,k⟩=>
 bnd (q0w n l) fun a=>
 chk (decide (((a.length+([32]:SS).length:Nat):Int)<=qtu)) (
 bnd (qsu n i) fun c=>
 chk (decide ((((a++([32]:SS)).length+c.length:Nat):Int)<=qtu)) (
 chk (decide ((qav (b++((a++([32]:SS))++c))).length * 1<=140737488355328)) (
 bif(j != i)then(
 bnd (qsu n j) fun e=>
 chk (decide (((([32,116,111,32]:SS).length+e.length:Nat):Int)<=qtu)) (
 chk (decide ((qav ((b++((a++([32]:SS))++c))++(([32,116,111,32]:SS)++e))).length * 1<=140737488355328)) (
 qq6 n k f d ((b++((a++([32]:SS))++c))++(([32,116,111,32]:SS)++e)))))
 else(
 qq6 n k f d (b++((a++([32]:SS))++c)))))))
 else(
 some b)
def q0v (n:Nat) (a:List qa1):Option SS:=
 qan (quv n a) n ((0:Int),([]:List _))
set_option maxHeartbeats 4000000 in
theorem q9h (n:Nat):∀ (g:List qa1) (r:SS),q0v n g=some r->qac Tryz.prog 13 [PV.sl (qa1.rows g)] (zcq r):=by
 intro g r h;unfold q0v at h;refine qac.of_vcN mixed (fun _ _=>Tryz.call13 _ _) Tryz.func13 (by kernel_rfl) (inl:=[31,35,36,55,94,1000000]) ?_;conv=>whnf
 refine qbl.fn [31,35,36,55,94,1000000] (S:=Int×SS) (fun(l,a)=>[(3,.ptr 0 0),(8,pY g),(9,.p (.int .i64 ((qa1.rows g).length:Int))),(10,pI l)]) (fun(l,a)=>[.box 88 [.bself 0,.tsl 1 (qav a)],.tail 5 1 (qav a).length]) (B:=quv n g) h (wk [0,0] [1]) ?_;intro z st h;obtain⟨l,a⟩:=st;unfold quv at h;conv=>whnf
 apply ifc h<;>intro y h
 ·conv=>whnf
  refine bq h fun⟨A,C,D,o⟩ Q h=>?_;refine⟨_,Codec.at_ qc2 Q,?_⟩;conv=>whnf
  refine bq h fun b P h=>?_;refine⟨_,(q9i n _ _ P),?_⟩;conv=>whnf
  obtain⟨O,h⟩:=qak h;refine⟨(of_decide_eq_true O:((b.length+([32]:SS).length:Nat):Int)<=qtu),?_⟩;conv=>whnf
  refine bq h fun d N h=>?_;refine⟨_,(qsk n _ _ N),?_⟩;conv=>whnf
  obtain⟨M,h⟩:=qak h;refine⟨(of_decide_eq_true M:(((b++([32]:SS)).length+d.length:Nat):Int)<=qtu),?_⟩;conv=>whnf
  obtain⟨s,h⟩:=qak h;refine⟨.p (.tup [.int .i64 ((((b++([32]:SS))++d).length:Nat):Int),.nili]),[.box 88 [.ptr 0 0,.tsl 3 (qav (a++((b++([32]:SS))++d)))],.dead,.box 37 [pI A,pI C,pI D,pX o],.tail 5 1 (qav (a++((b++([32]:SS))++d))).length],?_,?_⟩
  ·conv=>whnf
   refine qc4.of_vc mixed (fun _ _=>Tryz.call31 _ _) Tryz.func31 (by kernel_rfl) (inl:=[31,35,36,55,94,1000000]) ?_;conv=>whnf
   refine qc4.of_vc mixed (fun _ _=>Tryz.call55 _ _) Tryz.func55 (by kernel_rfl) (inl:=[31,35,36,55,94,1000000]) ?_;conv=>whnf
   refine⟨?_,?_⟩
   ·conv=>whnf
    refine⟨fun _=>?_,fun hf=>absurd hf (by first|decide|simp)⟩;conv=>whnf
    refine⟨⟨by decide,by first|decide|exact Nat.zero_lt_succ _⟩,?_⟩;conv=>whnf
    refine qc4.noEscape Tryz.func94 (by kernel_rfl) (by kernel_rfl) (by kernel_rfl) (by kernel_rfl) ?_;conv=>whnf
    refine⟨by kernel_rfl,?_⟩;conv=>whnf
    rw[show qav a++qav ((b++([32]:SS))++d)=qav (a++((b++([32]:SS))++d))from Codec.append qdj a ((b++([32]:SS))++d)];conv=>whnf
    refine⟨⟨Codec.wide qdj a,of_decide_eq_true s,qcb s (by decide)⟩,?_⟩;conv=>whnf
    refine⟨⟨rfl,rfl,rfl⟩,?_⟩;exact⟨rfl,rfl⟩
   ·conv=>whnf
    refine⟨fun hf=>absurd hf (by first|decide|simp),fun _=>?_⟩;conv=>whnf
    refine⟨fun hf=>absurd hf (by first|decide|simp),fun _=>?_⟩;conv=>whnf
    rw[show qav a++qav ((b++([32]:SS))++d)=qav (a++((b++([32]:SS))++d))from Codec.append qdj a ((b++([32]:SS))++d)];conv=>whnf
    refine⟨⟨Codec.wide qdj a,of_decide_eq_true s,qcb s (by decide)⟩,?_⟩;conv=>whnf
    refine⟨⟨rfl,rfl,rfl⟩,?_⟩;exact⟨rfl,rfl⟩
  conv=>whnf
  refine qh6.cut (S:=SS) (fun t=>[(3,.ptr 0 0),(5,.ptr 1 0),(8,pY g),(9,.p (.int .i64 ((qa1.rows g).length:Int))),(10,pI l)]) (fun t=>[.box 88 [.ptr 0 0,.tsl 2 (qav t)],.box 37 [pI A,pI C,pI D,pX o],.tail 5 1 (qav t).length]) (qq6 n o z l) (r:=r) ?_ ?_
  ·intro t h
   unfold qq6 at h;conv=>whnf
   refine qbl.fn [31,35,36,55,94,1000000] (S:=Int×SS) (fun(u,c)=>[(3,.ptr 0 0),(8,pY g),(9,.p (.int .i64 ((qa1.rows g).length:Int))),(10,pI l),(34,pX o),(35,.p (.int .i64 ((qep.rows o).length:Int))),(36,pI u)]) (fun(u,c)=>[.box 88 [.ptr 0 0,.tsl 1 (qav c)],.tail 5 1 (qav c).length]) (B:=quw n o z l) h (wk [0,2] []) ?_;intro _ st h;obtain⟨u,c⟩:=st;unfold quw at h;conv=>whnf
   apply ifc h<;>intro y h
   ·conv=>whnf
    refine bq h fun⟨a0,a1,a2,a3⟩ J h=>?_;refine⟨_,Codec.at_ q8o J,?_⟩;conv=>whnf
    refine bq h fun e I h=>?_;refine⟨_,(qsk n _ _ I),?_⟩;conv=>whnf
    obtain⟨H,h⟩:=qak h;refine⟨(of_decide_eq_true H:((([59,32,115,101,101,107,32]:SS).length+e.length:Nat):Int)<=qtu),?_⟩;conv=>whnf
    obtain⟨G,h⟩:=qak h;refine⟨(of_decide_eq_true G:(((([59,32,115,101,101,107,32]:SS)++e).length+([32]:SS).length:Nat):Int)<=qtu),?_⟩;conv=>whnf
    refine bq h fun f F h=>?_;refine⟨_,(qsk n _ _ F),?_⟩;conv=>whnf
    obtain⟨Z,h⟩:=qak h;refine⟨(of_decide_eq_true Z:((((([59,32,115,101,101,107,32]:SS)++e)++([32]:SS)).length+f.length:Nat):Int)<=qtu),?_⟩;conv=>whnf
    obtain⟨Y,h⟩:=qak h;refine⟨(of_decide_eq_true Y:(((((([59,32,115,101,101,107,32]:SS)++e)++([32]:SS))++f).length+([32]:SS).length:Nat):Int)<=qtu),?_⟩;conv=>whnf
    refine bq h fun i X h=>?_;refine⟨_,(q0f n _ _ X),?_⟩;conv=>whnf
    obtain⟨W,h⟩:=qak h;refine⟨(of_decide_eq_true W:((((((([59,32,115,101,101,107,32]:SS)++e)++([32]:SS))++f)++([32]:SS)).length+i.length:Nat):Int)<=qtu),?_⟩;conv=>whnf
    obtain⟨V,h⟩:=qak h;refine⟨(of_decide_eq_true V:(((((((([59,32,115,101,101,107,32]:SS)++e)++([32]:SS))++f)++([32]:SS))++i).length+([46]:SS).length:Nat):Int)<=qtu),?_⟩;conv=>whnf
    refine bq h fun m U h=>?_;refine⟨_,(q0f n _ _ U),?_⟩;conv=>whnf
    obtain⟨R,h⟩:=qak h;refine⟨(of_decide_eq_true R:((((((((([59,32,115,101,101,107,32]:SS)++e)++([32]:SS))++f)++([32]:SS))++i)++([46]:SS)).length+m.length:Nat):Int)<=qtu),?_⟩;conv=>whnf
    obtain⟨x,h⟩:=qak h;refine⟨.p (.tup [.int .i64 (((((((((([59,32,115,101,101,107,32]:SS)++e)++([32]:SS))++f)++([32]:SS))++i)++([46]:SS))++m).length:Nat):Int),.nili]),[.box 88 [.ptr 0 0,.tsl 3 (qav (c++(((((((([59,32,115,101,101,107,32]:SS)++e)++([32]:SS))++f)++([32]:SS))++i)++([46]:SS))++m)))],.dead,.box 53 [pI a0,pI a1,pS a2,pS a3],.tail 5 1 (qav (c++(((((((([59,32,115,101,101,107,32]:SS)++e)++([32]:SS))++f)++([32]:SS))++i)++([46]:SS))++m))).length],?_,?_⟩
    ·conv=>whnf
     refine qc4.of_vc mixed (fun _ _=>Tryz.call31 _ _) Tryz.func31 (by kernel_rfl) (inl:=[31,35,36,55,94,1000000]) ?_;conv=>whnf
     refine qc4.of_vc mixed (fun _ _=>Tryz.call55 _ _) Tryz.func55 (by kernel_rfl) (inl:=[31,35,36,55,94,1000000]) ?_;conv=>whnf
     refine⟨fun hf=>absurd hf (by first|decide|simp),fun _=>?_⟩;conv=>whnf
     refine⟨fun hf=>absurd hf (by first|decide|simp),fun _=>?_⟩;conv=>whnf
     rw[show qav c++qav (((((((([59,32,115,101,101,107,32]:SS)++e)++([32]:SS))++f)++([32]:SS))++i)++([46]:SS))++m)=qav (c++(((((((([59,32,115,101,101,107,32]:SS)++e)++([32]:SS))++f)++([32]:SS))++i)++([46]:SS))++m))from Codec.append qdj c (((((((([59,32,115,101,101,107,32]:SS)++e)++([32]:SS))++f)++([32]:SS))++i)++([46]:SS))++m)];conv=>whnf
     refine⟨⟨Codec.wide qdj c,of_decide_eq_true x,qcb x (by decide)⟩,?_⟩;conv=>whnf
     refine⟨⟨rfl,rfl,rfl⟩,?_⟩;exact⟨rfl,rfl⟩
    conv=>whnf
    exact⟨((IntKind.i64.wrap (u+1)),(c++(((((((([59,32,115,101,101,107,32]:SS)++e)++([32]:SS))++f)++([32]:SS))++i)++([46]:SS))++m))),h,wk [0,3] []⟩
   ·conv=>whnf
    refine qc4.of_vc mixed (fun _ _=>Tryz.call35 _ _) Tryz.func35 (by kernel_rfl) (inl:=[31,35,36,55,94,1000000]) ?_;conv=>whnf
    refine qc4.of_vc mixed (fun _ _=>Tryz.call55 _ _) Tryz.func55 (by kernel_rfl) (inl:=[31,35,36,55,94,1000000]) ?_;conv=>whnf
    refine⟨fun hf=>absurd hf (by first|decide|simp),fun _=>?_⟩;conv=>whnf
    refine⟨fun hf=>absurd hf (by first|decide|simp),fun _=>?_⟩;conv=>whnf
    refine⟨Codec.one qdj [(10:UInt8)],qav [(10:UInt8)],.inl rfl,?_⟩;conv=>whnf
    rw[show qav c++qav [(10:UInt8)]=qav (c++[(10:UInt8)])from Codec.append qdj c [(10:UInt8)]];conv=>whnf
    obtain⟨v,h⟩:=qak h;refine⟨⟨Codec.wide qdj (c++[(10:UInt8)]),of_decide_eq_true v,qcb v (by decide)⟩,?_⟩;conv=>whnf
    refine⟨⟨rfl,rfl,rfl⟩,?_⟩;conv=>whnf
    exact⟨((IntKind.i64.wrap (l+1)),(c++[(10:UInt8)])),h,wk [0,2] []⟩
  ·conv=>whnf
   apply ifc h<;>intro y h
   ·conv=>whnf
    refine bq h fun q L h=>?_;refine⟨_,(qsk n _ _ L),?_⟩;conv=>whnf
    obtain⟨K,h⟩:=qak h;refine⟨(of_decide_eq_true K:((([32,116,111,32]:SS).length+q.length:Nat):Int)<=qtu),?_⟩;conv=>whnf
    refine qc4.of_vc mixed (fun _ _=>Tryz.call31 _ _) Tryz.func31 (by kernel_rfl) (inl:=[31,35,36,55,94,1000000]) ?_;conv=>whnf
    refine qc4.of_vc mixed (fun _ _=>Tryz.call55 _ _) Tryz.func55 (by kernel_rfl) (inl:=[31,35,36,55,94,1000000]) ?_;conv=>whnf
    refine⟨fun hf=>absurd hf (by first|decide|simp),fun _=>?_⟩;conv=>whnf
    refine⟨fun hf=>absurd hf (by first|decide|simp),fun _=>?_⟩;conv=>whnf
    rw[show qav (a++((b++([32]:SS))++d))++qav (([32,116,111,32]:SS)++q)=qav ((a++((b++([32]:SS))++d))++(([32,116,111,32]:SS)++q))from Codec.append qdj (a++((b++([32]:SS))++d)) (([32,116,111,32]:SS)++q)];conv=>whnf
    obtain⟨w,h⟩:=qak h;refine⟨⟨Codec.wide qdj (a++((b++([32]:SS))++d)),of_decide_eq_true w,qcb w (by decide)⟩,?_⟩;conv=>whnf
    refine⟨⟨rfl,rfl,rfl⟩,?_⟩;conv=>whnf
    exact⟨((a++((b++([32]:SS))++d))++(([32,116,111,32]:SS)++q)),h,wk [0,2,4] []⟩
   ·conv=>whnf
    exact⟨(a++((b++([32]:SS))++d)),h,wk [0,2,3] []⟩
 ·conv=>whnf
  refine qc4.string_any (T:=88) (E:=5) zh6 q0l q0k (k:=0) (j:=1) (bs:=a) (n:=(qav a).length) rfl rfl ?_;obtain rfl:=sj h;conv=>whnf
  try exact fin
abbrev zb7 (r:Bool):PV:=PV.bool r
def qf3 (n:Nat):Option (Bool):=
 bnd (q0r n ([77,65,84,67,72,32,40,110,58,65,32,123,107,58,32,49,125,41,32,87,73,84,72,32,110,46,107,32,65,83,32,107,32,87,72,69,82,69,32,107,32,62,32,48,32,82,69,84,85,82,78,32,99,111,117,110,116,40,42,41,32,65,83,32,99]:SS)) fun⟨⟨b⟩,_,_⟩=>
 bnd (qkr n (qid.mk b)) fun⟨c,a⟩=>
 bnd (qaw (a==0) (q0v n c)) fun d=>
 some (bif(a==0)then(d==([102,108,111,119,32,48,32,116,111,32,49,59,32,115,101,101,107,32,48,32,48,32,65,46,107,10,119,104,111,108,101,32,50,10]:SS))else false)
theorem qga (n:Nat):∀ (r:Bool),qf3 n=some r->qac Tryz.prog 9 [] (zb7 r):=by
 intro r h;unfold qf3 at h;refine qac.of_vcN mixed (fun _ _=>Tryz.call9 _ _) Tryz.func9 (by kernel_rfl) (inl:=[1000000]) ?_;conv=>whnf
 refine bq h fun⟨⟨_⟩,_,_⟩ c h=>?_;refine⟨_,(q89 n _ _ c),?_⟩;conv=>whnf
 refine bq h fun⟨_,_⟩ b h=>?_;refine⟨_,(qoa n _ _ b),?_⟩;conv=>whnf
 refine⟨id,?_⟩;conv=>whnf
 refine bq h fun _ a h=>?_;refine⟨_,fun d=>(q9h n _ _ (qad a d)),?_⟩;conv=>whnf
 refine⟨id,id,?_⟩;obtain rfl:=sj h;conv=>whnf
 try exact fin
abbrev q5v (r:Int):PV:=PV.int .i64 r
def qhq (n:Nat) (b:List SS) (e:SS) (d:List Int):(Int->Option (Int))->Int->Option (Int):=fun c a=>
 bif(decide (a<((qai b).length:Int)))then(
 bnd (idx b a) fun f=>
 bif(f==e)then(
 bnd (idx d a) fun g=>
 some g)
 else(
 c (IntKind.i64.wrap (a+1))))
 else(
 some (0:Int))
def qd1 (n:Nat) (a:qa4) (d:SS):Option (Int):=
 match a with
 | ⟨b,c⟩=>
 qan (qhq n b d c) n (0:Int)
theorem qek (n:Nat):∀ (b:qa4) (a:SS) (r:Int),qd1 n b a=some r->qac Tryz.prog 63 [PV.agg (qpg.cells b),PV.str a] (q5v r):=by
 intro b a r h;obtain⟨d,e⟩:=b;unfold qd1 at h;refine qac.of_vcN mixed (fun _ _=>Tryz.call63 _ _) Tryz.func63 (by kernel_rfl) (inl:=[1000000]) ?_;conv=>whnf
 refine qbl.fn [1000000] (S:=Int) (fun c=>[(1,pS a),(2,.ptr 0 0),(5,pI c)]) (fun c=>[.box 99 [pT d,.p (.sl (qcp .i64 e))]]) (B:=qhq n d a e) h (wk [0] []) ?_;intro _ c h;unfold qhq at h;conv=>whnf
 apply ifc h<;>intro i h
 ·conv=>whnf
  refine bq h fun _ g h=>?_;refine⟨_,Codec.at_ qpl g,?_⟩;conv=>whnf
  apply ifc h<;>intro i h
  ·conv=>whnf
   refine bq h fun _ f h=>?_;refine⟨_,Codec.at_ (zpr .i64) f,?_⟩;obtain rfl:=sj h;conv=>whnf
   try exact fin
  ·conv=>whnf
   exact⟨(IntKind.i64.wrap (c+1)),h,wk [0] []⟩
 ·obtain rfl:=sj h
  conv=>whnf
  try exact fin
abbrev zea (r:Int×Int×Int):PV:=PV.tup [PV.int .i64 r.1,PV.int .i64 r.2.1,PV.int .i64 r.2.2]
def qit (n:Nat) (a:SS):Bool->Option (Int×Int×Int):=fun b=>
 bif b then(
 some ((1:Int),(1:Int),(3:Int)))
 else(
 bif(a==([99,111,97,108,101,115,99,101]:SS))then(
 some ((1:Int),(1048576:Int),(3:Int)))
 else(
 bif(a==([107,101,121,115]:SS))then(
 some ((1:Int),(1:Int),(0:Int)))
 else(
 bif(a==([108,97,98,101,108,115]:SS))then(
 some ((1:Int),(1:Int),(1:Int)))
 else(
 bif(a==([116,121,112,101]:SS))then(
 some ((1:Int),(1:Int),(2:Int)))
 else(
 bif(a==([114,97,110,103,101]:SS))then(
 some ((2:Int),(2:Int),(3:Int)))
 else(
 some ((1:Int),(0:Int),(0:Int))))))))
def qvf (n:Nat) (a:SS):Option (Int×Int×Int):=
 bif(a==([115,105,122,101]:SS))then(
 qit n a (a==([115,105,122,101]:SS)))
 else(
 bif(a==([97,98,115]:SS))then(
 qit n a (a==([97,98,115]:SS)))
 else(
 bif(a==([104,101,97,100]:SS))then(
 qit n a (a==([104,101,97,100]:SS)))
 else(
 bif(a==([108,97,115,116]:SS))then(
 qit n a (a==([108,97,115,116]:SS)))
 else(
 qit n a (a==([116,101,120,116]:SS))))))
theorem zbr (n:Nat):∀ (a:SS) (r:Int×Int×Int),qvf n a=some r->qac Tryz.prog 152 [PV.str a] (zea r):=by
 intro a r h;unfold qvf at h;refine qac.of_vcN mixed (fun _ _=>Tryz.call152 _ _) Tryz.func152 (by kernel_rfl) (inl:=[1000000]) ?_;conv=>whnf
 refine qh6.cut (S:=Bool) (fun c=>[(5,pS a),(6,pB c)]) (fun c=>[]) (qit n a) (r:=r) ?_ ?_
 ·intro c h
  unfold qit at h;conv=>whnf
  apply ifc h<;>intro b h
  ·obtain rfl:=sj h
   conv=>whnf
   try exact fin
  ·conv=>whnf
   apply ifc h<;>intro b h
   ·obtain rfl:=sj h
    conv=>whnf
    try exact fin
   ·conv=>whnf
    apply ifc h<;>intro b h
    ·obtain rfl:=sj h
     conv=>whnf
     try exact fin
    ·conv=>whnf
     apply ifc h<;>intro b h
     ·obtain rfl:=sj h
      conv=>whnf
      try exact fin
     ·conv=>whnf
      apply ifc h<;>intro b h
      ·obtain rfl:=sj h
       conv=>whnf
       try exact fin
      ·conv=>whnf
       apply ifc h<;>intro b h
       ·obtain rfl:=sj h
        conv=>whnf
        try exact fin
       ·obtain rfl:=sj h
        conv=>whnf
        try exact fin
 ·conv=>whnf
  apply ifc h<;>intro b h
  ·conv=>whnf
   exact⟨(a==([115,105,122,101]:SS)),h,wk [] []⟩
  ·conv=>whnf
   apply ifc h<;>intro b h
   ·conv=>whnf
    exact⟨(a==([97,98,115]:SS)),h,wk [] []⟩
   ·conv=>whnf
    apply ifc h<;>intro b h
    ·conv=>whnf
     exact⟨(a==([104,101,97,100]:SS)),h,wk [] []⟩
    ·conv=>whnf
     apply ifc h<;>intro b h
     ·conv=>whnf
      exact⟨(a==([108,97,115,116]:SS)),h,wk [] []⟩
     ·conv=>whnf
      exact⟨(a==([116,101,120,116]:SS)),h,wk [] []⟩
abbrev zcl (r:Bool):PV:=PV.bool r
def qlj (n:Nat) (a:Int) (c:List SS) (d:Int->Option (Bool)):(Int->Option (Bool))->Int->Option (Bool):=fun e b=>
 bif(decide (b<a))then(
 bnd (idx c a) fun f=>
 bnd (idx c b) fun g=>
 bif(f==g)then(
 some true)
 else(
 e (IntKind.i64.wrap (b+1))))
 else(
 d (IntKind.i64.wrap (a+1)))
def qjj (n:Nat) (a:List SS):(Int->Option (Bool))->Int->Option (Bool):=fun c b=>
 bif(decide (b<((qai a).length:Int)))then(
 qan (qlj n b a c) n (0:Int))
 else(
 some false)
def qqo (n:Nat) (a:List SS):Option (Bool):=
 qan (qjj n a) n (0:Int)
theorem q0a (n:Nat):∀ (a:List SS) (r:Bool),qqo n a=some r->qac Tryz.prog 151 [PV.sl (qai a)] (zcl r):=by
 intro a r h;unfold qqo at h;refine qac.of_vcN mixed (fun _ _=>Tryz.call151 _ _) Tryz.func151 (by kernel_rfl) (inl:=[1000000]) ?_;conv=>whnf
 refine qbl.fn [1000000] (S:=Int) (fun b=>[(0,pT a),(3,pI b)]) (fun b=>[]) (B:=qjj n a) h (wk [] []) ?_;intro g b h;unfold qjj at h;conv=>whnf
 apply ifc h<;>intro d h
 ·conv=>whnf
  refine qbl.fn [1000000] (S:=Int) (fun c=>[(0,pT a),(3,pI b),(4,pI c)]) (fun c=>[]) (B:=qlj n b a g) h (wk [] []) ?_;intro _ c h;unfold qlj at h;conv=>whnf
  apply ifc h<;>intro d h
  ·conv=>whnf
   refine bq h fun _ f h=>?_;refine⟨_,Codec.at_ qpl f,?_⟩;conv=>whnf
   refine bq h fun _ e h=>?_;refine⟨_,Codec.at_ qpl e,?_⟩;conv=>whnf
   apply ifc h<;>intro d h
   ·obtain rfl:=sj h
    conv=>whnf
    try exact fin
   ·conv=>whnf
    exact⟨(IntKind.i64.wrap (c+1)),h,wk [] []⟩
  ·conv=>whnf
   exact⟨(IntKind.i64.wrap (b+1)),h,wk [] []⟩
 ·obtain rfl:=sj h
  conv=>whnf
  try exact fin
abbrev qtk (r:Int):PV:=PV.int .i64 r
abbrev zrn:Type:=qa4->qaa->Option (Int×Int)
def qpc (n:Nat) (c:List qaa) (g105:zrn) (f:List SS) (p:List Int) (d:Int):(Int->Option (Int))->Int->Option (Int):=fun e a=>
 bif(decide (a<((qaa.rows c).length:Int)))then(
 bnd (idx c a) fun⟨q,s,⟨t,u,g,i,j,k⟩,l,m⟩=>
 bnd (g105 (qa4.mk f p) (qaa.mk q s (Val.mk t u g i j k) l m)) fun⟨o,b⟩=>
 bif(b != 0)then(
 some b)
 else(
 bif(bif(decide (d>0))then(o != d)else false)then(
 some (3:Int))
 else(
 e (IntKind.i64.wrap (a+1)))))
 else(
 some (0:Int))
abbrev zrx:Type:=qa4->(List qaa)->Int->Option (Int)
def qy0 (n:Nat) (g62:zrx) (g105:zrn) (a:qa4) (d:List qaa) (e:Int):Option (Int):=
 match a with
 | ⟨b,c⟩=>
 qan (qpc n d g105 b c e) n (0:Int)
abbrev qro (r:Int×Int):PV:=PV.tup [PV.int .i64 r.1,PV.int .i64 r.2]
def qet (n:Nat):Int->Option (Int×Int):=fun a=>
 some ((3:Int),a)
def qm8 (n:Nat) (g62:zrx) (a:List SS) (c:List Int) (b:List qaa) (f:Int) (g:SS) (g105:zrn) (i:List SS):Bool->Option (Int×Int):=fun j=>
 bif j then(
 bnd (g62 (qa4.mk a c) b (0:Int)) fun k=>
 qet n k)
 else(
 bif(f==15)then(
 bnd (g62 (qa4.mk a c) b (1:Int)) fun l=>
 qet n l)
 else(
 bif(f==10)then(
 bif(bif(g==([61]:SS))then true else(g==([60,62]:SS)))then(
 bnd (g62 (qa4.mk a c) b (0:Int)) fun d=>
 bif(d==0)then(
 bnd (idx b (0:Int)) fun⟨m,o,⟨p,q,s,t,u,v⟩,w,x⟩=>
 bnd (g105 (qa4.mk a c) (qaa.mk m o (Val.mk p q s t u v) w x)) fun⟨y,_⟩=>
 bnd (idx b (1:Int)) fun⟨z,A,⟨B,C,D,E,F,G⟩,H,I⟩=>
 bnd (g105 (qa4.mk a c) (qaa.mk z A (Val.mk B C D E F G) H I)) fun⟨J,_⟩=>
 bif(y != J)then(
 qet n (3:Int))
 else(
 qet n d))
 else(
 qet n d))
 else(
 bnd (g62 (qa4.mk a c) b (3:Int)) fun K=>
 qet n K))
 else(
 bnd (g62 (qa4.mk a c) b (3:Int)) fun e=>
 bnd (qaw (e==0) (qqo n i)) fun L=>
 bif(bif(e==0)then L else false)then(
 qet n (2:Int))
 else(
 qet n e))))
def qv0 (n:Nat) (g62:zrx) (g105:zrn) (i:qa4) (j:qaa):Option (Int×Int):=
 match i,j with
 | ⟨c,d⟩,⟨a,e,⟨_,_,_,_,_,_⟩,f,b⟩=>
 bif(a==2)then(
 bnd (qd1 n (qa4.mk c d) e) fun g=>
 bif(g==0)then(
 some ((0:Int),(2:Int)))
 else(
 some (g,(0:Int))))
 else(
 bif(a==14)then(
 some ((0:Int),(2:Int)))
 else(
 bif(a==13)then(
 bnd (qvf n e) fun⟨k,l,m⟩=>
 bif(bif(decide (((qaa.rows b).length:Int)<k))then true else(decide (((qaa.rows b).length:Int)>l)))then(
 some ((0:Int),(2:Int)))
 else(
 bnd (g62 (qa4.mk c d) b m) fun o=>
 qet n o))
 else(
 bif(a==4)then(
 qm8 n g62 c d b a e g105 f (a==4))
 else(
 bif(a==11)then(
 qm8 n g62 c d b a e g105 f (a==11))
 else(
 qm8 n g62 c d b a e g105 f (a==12))))))
theorem zbg (n:Nat) (g62:zrx) (g105:zrn) (g62_ok:∀ (a:qa4) (b:List qaa) (c r:Int),g62 a b c=some r->qac Tryz.prog 62 [PV.agg (qpg.cells a),PV.sl (qaa.rows b),PV.int .i64 c] (qtk r)) (g105_ok:∀ (a:qa4) (e:qaa) (r:Int×Int),g105 a e=some r->qac Tryz.prog 105 [PV.agg (qpg.cells a),PV.agg (qcf.cells e)] (qro r)):∀ (a:qa4) (b:List qaa) (c r:Int),qy0 n g62 g105 a b c=some r->qac Tryz.prog 62 [PV.agg (qpg.cells a),PV.sl (qaa.rows b),PV.int .i64 c] (qtk r):=by
 intro a b c r h;obtain⟨g,i⟩:=a;unfold qy0 at h;refine qac.of_vcN mixed (fun _ _=>Tryz.call62 _ _) Tryz.func62 (by kernel_rfl) (inl:=[1000000]) ?_;conv=>whnf
 refine qbl.fn [1000000] (S:=Int) (fun d=>[(1,pE b),(2,pI c),(3,.ptr 0 0),(7,pI d)]) (fun d=>[.box 99 [pT g,.p (.sl (qcp .i64 i))]]) (B:=qpc n b g105 g i c) h (wk [0] []) ?_;intro _ d h;unfold qpc at h;conv=>whnf
 apply ifc h<;>intro f h
 ·conv=>whnf
  refine bq h fun⟨_,_,⟨_,_,_,_,_,_⟩,_,_⟩ k h=>?_;refine⟨_,Codec.at_ qcf k,?_⟩;conv=>whnf
  refine bq h fun⟨_,_⟩ j h=>?_;refine⟨_,(g105_ok _ _ _ j),?_⟩;conv=>whnf
  apply ifc h<;>intro f h
  ·obtain rfl:=sj h
   conv=>whnf
   try exact fin
  ·conv=>whnf
   refine⟨id,id,id,?_⟩;conv=>whnf
   apply ifc h<;>intro f h
   ·obtain rfl:=sj h
    conv=>whnf
    try exact fin
   ·conv=>whnf
    exact⟨(IntKind.i64.wrap (d+1)),h,wk [0] []⟩
 ·obtain rfl:=sj h
  conv=>whnf
  try exact fin
set_option maxHeartbeats 4000000 in
theorem q8y (n:Nat) (g62:zrx) (g105:zrn) (g62_ok:∀ (b:qa4) (c:List qaa) (e r:Int),g62 b c e=some r->qac Tryz.prog 62 [PV.agg (qpg.cells b),PV.sl (qaa.rows c),PV.int .i64 e] (qtk r)) (g105_ok:∀ (b:qa4) (d:qaa) (r:Int×Int),g105 b d=some r->qac Tryz.prog 105 [PV.agg (qpg.cells b),PV.agg (qcf.cells d)] (qro r)):∀ (b:qa4) (d:qaa) (r:Int×Int),qv0 n g62 g105 b d=some r->qac Tryz.prog 105 [PV.agg (qpg.cells b),PV.agg (qcf.cells d)] (qro r):=by
 intro b d r h;obtain⟨i,l⟩:=b;obtain⟨c,e,⟨K,L,M,N,O,E⟩,j,k⟩:=d;unfold qv0 at h;refine qac.of_vcN mixed (fun _ _=>Tryz.call105 _ _) Tryz.func105 (by kernel_rfl) (inl:=[1000000]) ?_;conv=>whnf
 refine qh6.cut (S:=Int) (fun f=>[(6,pI f)]) (fun f=>[]) (qet n) (r:=r) ?_ ?_
 ·intro f h
  unfold qet at h;obtain rfl:=sj h;conv=>whnf
  try exact fin
 ·conv=>whnf
  apply ifc h<;>intro a h
  ·conv=>whnf
   refine bq h fun _ o h=>?_;refine⟨_,(qek n _ _ _ o),?_⟩;conv=>whnf
   apply ifc h<;>intro a h
   ·obtain rfl:=sj h
    conv=>whnf
    try exact fin
   ·obtain rfl:=sj h
    conv=>whnf
    try exact fin
  ·conv=>whnf
   apply ifc h<;>intro a h
   ·obtain rfl:=sj h
    conv=>whnf
    try exact fin
   ·conv=>whnf
    apply ifc h<;>intro a h
    ·conv=>whnf
     refine bq h fun⟨_,_,_⟩ w h=>?_;refine⟨_,(zbr n _ _ w),?_⟩;conv=>whnf
     refine⟨id,id,id,id,id,?_⟩;conv=>whnf
     apply ifc h<;>intro a h
     ·obtain rfl:=sj h
      conv=>whnf
      try exact fin
     ·conv=>whnf
      refine bq h fun F v h=>?_;refine⟨_,(g62_ok _ _ _ _ v),?_⟩;conv=>whnf
      exact⟨F,h,wk [] []⟩
    ·conv=>whnf
     refine qh6.cut (S:=Bool) (fun g=>[(2,.ptr 0 0),(3,.ptr 1 0),(16,pI c),(65,pB g)]) (fun g=>[.box 99 [pT i,.p (.sl (qcp .i64 l))],.box 46 [pI c,pS e,pI K,pB L,pI M,pS N,pV O,pT E,pT j,pE k]]) (qm8 n g62 i l k c e g105 j) (r:=r) ?_ ?_
     ·intro g h
      unfold qm8 at h;conv=>whnf
      apply ifc h<;>intro a h
      ·conv=>whnf
       refine bq h fun G x h=>?_;refine⟨_,(g62_ok _ _ _ _ x),?_⟩;conv=>whnf
       exact⟨G,h,wk [] []⟩
      ·conv=>whnf
       apply ifc h<;>intro a h
       ·conv=>whnf
        refine bq h fun H y h=>?_;refine⟨_,(g62_ok _ _ _ _ y),?_⟩;conv=>whnf
        exact⟨H,h,wk [] []⟩
       ·conv=>whnf
        apply ifc h<;>intro a h
        ·conv=>whnf
         refine⟨id,id,id,?_⟩;conv=>whnf
         apply ifc h<;>intro a h
         ·conv=>whnf
          refine bq h fun m q h=>?_;refine⟨_,(g62_ok _ _ _ _ q),?_⟩;conv=>whnf
          apply ifc h<;>intro a h
          ·conv=>whnf
           refine bq h fun⟨_,_,⟨_,_,_,_,_,_⟩,_,_⟩ C h=>?_;refine⟨_,Codec.at_ qcf C,?_⟩;conv=>whnf
           refine bq h fun⟨_,_⟩ B h=>?_;refine⟨_,(g105_ok _ _ _ B),?_⟩;conv=>whnf
           refine bq h fun⟨_,_,⟨_,_,_,_,_,_⟩,_,_⟩ A h=>?_;refine⟨_,Codec.at_ qcf A,?_⟩;conv=>whnf
           refine bq h fun⟨_,_⟩ z h=>?_;refine⟨_,(g105_ok _ _ _ z),?_⟩;conv=>whnf
           apply ifc h<;>intro a h
           ·conv=>whnf
            exact⟨(3:Int),h,wk [] []⟩
           ·conv=>whnf
            exact⟨m,h,wk [] []⟩
          ·conv=>whnf
           exact⟨m,h,wk [] []⟩
         ·conv=>whnf
          refine bq h fun I s h=>?_;refine⟨_,(g62_ok _ _ _ _ s),?_⟩;conv=>whnf
          exact⟨I,h,wk [] []⟩
        ·conv=>whnf
         refine bq h fun J u h=>?_;refine⟨_,(g62_ok _ _ _ _ u),?_⟩;conv=>whnf
         refine⟨id,id,?_⟩;conv=>whnf
         refine bq h fun _ t h=>?_;refine⟨_,fun D=>(q0a n _ _ (qad t D)),?_⟩;conv=>whnf
         refine⟨id,?_⟩;conv=>whnf
         apply ifc h<;>intro a h
         ·conv=>whnf
          exact⟨(2:Int),h,wk [] []⟩
         ·conv=>whnf
          exact⟨J,h,wk [] []⟩
     ·conv=>whnf
      apply ifc h<;>intro a h
      ·conv=>whnf
       exact⟨(c==4),h,wk [0,1] []⟩
      ·conv=>whnf
       apply ifc h<;>intro a h
       ·conv=>whnf
        exact⟨(c==11),h,wk [0,1] []⟩
       ·conv=>whnf
        exact⟨(c==12),h,wk [0,1] []⟩
mutual
def qge:Nat->qa4->(List qaa)->Int->Option (Int)
 | 0=>fun _ _ _=>none
 | n+1=>qy0 n (qge n) (qlk n)
def qlk:Nat->qa4->qaa->Option (Int×Int)
 | 0=>fun _ _=>none
 | n+1=>qv0 n (qge n) (qlk n)
end
theorem q11 (n:Nat):(∀ (a:qa4) (c:List qaa) (d r:Int),qge n a c d=some r->qac Tryz.prog 62 [PV.agg (qpg.cells a),PV.sl (qaa.rows c),PV.int .i64 d] (qtk r))/\(∀ (a:qa4) (b:qaa) (r:Int×Int),qlk n a b=some r->qac Tryz.prog 105 [PV.agg (qpg.cells a),PV.agg (qcf.cells b)] (qro r)):=by
 induction n with
 | zero=>exact⟨(by intros; rename_i h; cases h),(by intros; rename_i h; cases h)⟩
 | succ n ih=>
  obtain⟨hg62,hg105⟩:=ih;exact⟨zbg n (qge n) (qlk n) hg62 hg105,q8y n (qge n) (qlk n) hg62 hg105⟩
theorem qis (n:Nat):∀ (a:qa4) (b:List qaa) (c r:Int),qge n a b c=some r->qac Tryz.prog 62 [PV.agg (qpg.cells a),PV.sl (qaa.rows b),PV.int .i64 c] (qtk r):=(q11 n).1
theorem zbt (n:Nat):∀ (a:qa4) (b:qaa) (r:Int×Int),qlk n a b=some r->qac Tryz.prog 105 [PV.agg (qpg.cells a),PV.agg (qcf.cells b)] (qro r):=(q11 n).2
abbrev zcn (r:Int):PV:=PV.int .i64 r
def qn5 (n:Nat):Int->Option (Int):=fun a=>
 some a
def qqp (n:Nat) (b:qa4) (e:List SS) (f:List qaa):Option (Int):=
 match b with
 | ⟨c,d⟩=>
 bnd (qge n (qa4.mk c d) f (3:Int)) fun a=>
 bnd (qaw (a==0) (qqo n e)) fun g=>
 bif(bif(a==0)then g else false)then(
 qn5 n (2:Int))
 else(
 qn5 n a)
theorem q0c (n:Nat):∀ (a:qa4) (b:List SS) (c:List qaa) (r:Int),qqp n a b c=some r->qac Tryz.prog 104 [PV.agg (qpg.cells a),PV.sl (qai b),PV.sl (qaa.rows c)] (zcn r):=by
 intro a b c r h;obtain⟨_,_⟩:=a;unfold qqp at h;refine qac.of_vcN mixed (fun _ _=>Tryz.call104 _ _) Tryz.func104 (by kernel_rfl) (inl:=[1000000]) ?_;conv=>whnf
 refine bq h fun i f h=>?_;refine⟨_,(qis n _ _ _ _ f),?_⟩;conv=>whnf
 refine qh6.cut (S:=Int) (fun d=>[(7,pI d)]) (fun d=>[]) (qn5 n) (r:=r) ?_ ?_
 ·intro d h
  unfold qn5 at h;obtain rfl:=sj h;conv=>whnf
  try exact fin
 ·conv=>whnf
  refine⟨id,?_⟩;conv=>whnf
  refine bq h fun _ e h=>?_;refine⟨_,fun g=>(q0a n _ _ (qad e g)),?_⟩;conv=>whnf
  refine⟨id,?_⟩;conv=>whnf
  apply ifc h<;>intro _ h
  ·conv=>whnf
   exact⟨(2:Int),h,wk [] []⟩
  ·conv=>whnf
   exact⟨i,h,wk [] []⟩
abbrev q5w (r:qa4):PV:=PV.agg (qpg.cells r)
def qhk (n:Nat) (e:qa4) (c:SS) (d:Int):Option (qa4):=
 match e with
 | ⟨a,b⟩=>
 bnd (qaw (!(c==([]:SS))) (qd1 n (qa4.mk a b) c)) fun f=>
 bif(bif(c==([]:SS))then true else(decide (f>0)))then(
 some (qa4.mk a b))
 else(
 chk (decide ((qai a).length * 16<=140737488355328)) (
 chk (decide ((qcp .i64 b).length * 8<=140737488355328)) (
 chk (decide ((qai (a++[c])).length * 16<=140737488355328)) (
 chk (decide ((qcp .i64 (b++[d])).length * 8<=140737488355328)) (
 some (qa4.mk (a++[c]) (b++[d])))))))
theorem qm7 (n:Nat):∀ (e:qa4) (a:SS) (b:Int) (r:qa4),qhk n e a b=some r->qac Tryz.prog 64 [PV.agg (qpg.cells e),PV.str a,PV.int .i64 b] (q5w r):=by
 intro e a b r h;obtain⟨c,d⟩:=e;unfold qhk at h;refine qac.of_vcN mixed (fun _ _=>Tryz.call64 _ _) Tryz.func64 (by kernel_rfl) (inl:=[1000000]) ?_;conv=>whnf
 refine⟨id,id,?_⟩;conv=>whnf
 refine bq h fun _ k h=>?_;refine⟨_,fun l=>(qek n _ _ _ (qad k l)),?_⟩;conv=>whnf
 refine⟨id,id,?_⟩;conv=>whnf
 apply ifc h<;>intro _ h
 ·obtain rfl:=sj h
  conv=>whnf
  try exact fin
 ·conv=>whnf
  obtain⟨j,h⟩:=qak h;refine⟨⟨Codec.wide qpl c,of_decide_eq_true j,qcb j (by decide)⟩,?_⟩;conv=>whnf
  obtain⟨i,h⟩:=qak h;refine⟨⟨Codec.wide (zpr .i64) d,of_decide_eq_true i,qcb i (by decide)⟩,?_⟩;conv=>whnf
  refine⟨Codec.one qpl [a],qai [a],.inl rfl,?_⟩;conv=>whnf
  rw[show qai c++qai [a]=qai (c++[a])from Codec.append qpl c [a]];conv=>whnf
  obtain⟨g,h⟩:=qak h;refine⟨⟨Codec.wide qpl (c++[a]),of_decide_eq_true g,qcb g (by decide)⟩,?_⟩;conv=>whnf
  refine⟨⟨rfl,rfl,rfl⟩,?_⟩;conv=>whnf
  refine⟨Codec.one (zpr .i64) [b],qcp .i64 [b],.inl rfl,?_⟩;conv=>whnf
  rw[show qcp .i64 d++qcp .i64 [b]=qcp .i64 (d++[b])from Codec.append (zpr .i64) d [b]];conv=>whnf
  obtain⟨f,h⟩:=qak h;refine⟨⟨Codec.wide (zpr .i64) (d++[b]),of_decide_eq_true f,qcb f (by decide)⟩,?_⟩;conv=>whnf
  refine⟨⟨rfl,rfl,rfl⟩,?_⟩;obtain rfl:=sj h;conv=>whnf
  try exact fin
abbrev zcm (r:qa4×Int):PV:=PV.tup [PV.agg (qpg.cells r.1),PV.int .i64 r.2]
def qka (n:Nat) (a:List SS) (b:List Int) (p:Bool) (j c g:List SS) (k:List Int) (l:List qaa) (i:SS) (f:Int×List SS×List Int->Option (qa4×Int)) (q:Int):Int->Option (qa4×Int):=fun d=>
 bif(decide (d>1))then(
 some (qa4.mk a b,(3:Int)))
 else(
 bif(bif(bif(d==1)then p else false)then(decide ((IntKind.i64.wrap (((qai j).length:Int)+((qai c).length:Int)))>0))else false)then(
 some (qa4.mk a b,(2:Int)))
 else(
 bnd (qqp n (qa4.mk g k) c l) fun e=>
 bif(e != 0)then(
 some (qa4.mk a b,e))
 else(
 bnd (qhk n (qa4.mk a b) i (1:Int)) fun⟨m,o⟩=>
 f ((IntKind.i64.wrap (q+1)),m,o))))
def qj9 (n:Nat) (p:List qa6) (q d:Int) (l:Bool) (f:List SS) (j:List Int) (e:Int×List SS×List Int->Option (qa4×Int)):List SS×List Int->Option (qa4×Int):=fun(b,c)=>
 bnd (idx p q) fun⟨m,_⟩=>
 bnd (idx m d) fun⟨a,g,i,k⟩=>
 bif(!(a==([]:SS)))then(
 bnd (qd1 n (qa4.mk b c) a) fun o=>
 qka n b c l g i f j k a e d o)
 else(
 qka n b c l g i f j k a e d (0:Int))
def qjk (n:Nat) (f:List qa6) (c:Int) (j:Bool) (g:List SS) (i:List Int) (m:Int×List SS×List Int->Option (qa4×Int)):(Int×List SS×List Int->Option (qa4×Int))->Int×List SS×List Int->Option (qa4×Int):=fun k (d,b,a)=>
 bnd (idx f c) fun⟨o,_⟩=>
 bif(decide (d<((qae.rows o).length:Int)))then(
 bif(decide (d>0))then(
 bnd (idx f c) fun⟨_,p⟩=>
 bnd (idx p (IntKind.i64.wrap (d - 1))) fun⟨e,q,s,t,u⟩=>
 bnd (qaw (!(e==([]:SS))) (qd1 n (qa4.mk b a) e)) fun v=>
 bif(bif(bif(!(e==([]:SS)))then(decide (v>0))else false)then true else(bif j then(bif(q==([]:SS))then true else(s==2))else false))then(
 some (qa4.mk b a,(2:Int)))
 else(
 bnd (qqp n (qa4.mk g i) t u) fun l=>
 bif(l != 0)then(
 some (qa4.mk b a,l))
 else(
 bnd (qhk n (qa4.mk b a) e (2:Int)) fun⟨w,x⟩=>
 qj9 n f c d j g i k (w,x))))
 else(
 qj9 n f c d j g i k (b,a)))
 else(
 m ((IntKind.i64.wrap (c+1)),b,a))
def qll (n:Nat) (a:List qa6) (i:Bool) (f:List SS) (g:List Int):(Int×List SS×List Int->Option (qa4×Int))->Int×List SS×List Int->Option (qa4×Int):=fun e (b,c,d)=>
 bif(decide (b<((qa6.rows a).length:Int)))then(
 qan (qjk n a b i f g e) n ((0:Int),c,d))
 else(
 some (qa4.mk c d,(0:Int)))
def qo0 (n:Nat) (c:qa4) (d:List qa6) (e:Bool):Option (qa4×Int):=
 match c with
 | ⟨a,b⟩=>
 qan (qll n d e a b) n ((0:Int),a,b)
set_option maxHeartbeats 4000000 in
theorem qut (n:Nat):∀ (m:qa4) (b:List qa6) (a:Bool) (r:qa4×Int),qo0 n m b a=some r->qac Tryz.prog 61 [PV.agg (qpg.cells m),PV.sl (qa6.rows b),PV.bool a] (zcm r):=by
 intro m b a r h;obtain⟨e,f⟩:=m;unfold qo0 at h;refine qac.of_vcN mixed (fun _ _=>Tryz.call61 _ _) Tryz.func61 (by kernel_rfl) (inl:=[1000000]) ?_;conv=>whnf
 refine qbl.fn [1000000] (S:=Int×List SS×List Int) (fun(c,q,s)=>[(1,pP b),(2,pB a),(3,.ptr 0 0),(6,.ptr 1 0),(8,.ptr 2 0),(9,pI c)]) (fun(c,q,s)=>[.box 99 [pT e,.p (.sl (qcp .i64 f))],zq9,.box 99 [pT q,.p (.sl (qcp .i64 s))]]) (B:=qll n b a e f) h (wk [0,1,2] []) ?_;intro L st h;obtain⟨c,q,s⟩:=st;unfold qll at h;conv=>whnf
 apply ifc h<;>intro d h
 ·conv=>whnf
  refine qbl.fn [1000000] (S:=Int×List SS×List Int) (fun(g,l,i)=>[(1,pP b),(2,pB a),(3,.ptr 0 0),(6,.ptr 1 0),(8,.ptr 2 0),(9,pI c),(10,pI g)]) (fun(g,l,i)=>[.box 99 [pT e,.p (.sl (qcp .i64 f))],zq9,.box 99 [pT l,.p (.sl (qcp .i64 i))]]) (B:=qjk n b c a e f L) h (wk [0,1,2] []) ?_;intro t st h;obtain⟨g,l,i⟩:=st;unfold qjk at h;conv=>whnf
  refine bq h fun⟨_,_⟩ A h=>?_;refine⟨_,Codec.at_ ql2 A,?_⟩;conv=>whnf
  apply ifc h<;>intro d h
  ·conv=>whnf
   refine qh6.cut (S:=List SS×List Int) (fun(j,k)=>[(1,pP b),(2,pB a),(3,.ptr 0 0),(6,.ptr 1 0),(8,.ptr 2 0),(9,pI c),(10,pI g)]) (fun(j,k)=>[.box 99 [pT e,.p (.sl (qcp .i64 f))],zq9,.box 99 [pT j,.p (.sl (qcp .i64 k))]]) (qj9 n b c g a e f t) (r:=r) ?_ ?_
   ·intro st h
    obtain⟨j,k⟩:=st;unfold qj9 at h;conv=>whnf
    refine bq h fun⟨_,_⟩ F h=>?_;refine⟨_,Codec.at_ ql2 F,?_⟩;conv=>whnf
    refine bq h fun⟨u,v,w,x⟩ E h=>?_;refine⟨_,Codec.at_ qea E,?_⟩;conv=>whnf
    refine qh6.cut (S:=Int) (fun o=>[(1,pP b),(2,pB a),(3,.ptr 0 0),(6,.ptr 1 0),(8,.ptr 2 0),(9,pI c),(10,pI g),(13,.ptr 3 0),(14,pI o)]) (fun o=>[.box 99 [pT e,.p (.sl (qcp .i64 f))],zq9,.box 99 [pT j,.p (.sl (qcp .i64 k))],.box 55 [pS u,pT v,pT w,pE x]]) (qka n j k a v w e f x u t g) (r:=r) ?_ ?_
    ·intro o h
     unfold qka at h;conv=>whnf
     apply ifc h<;>intro d h
     ·obtain rfl:=sj h
      conv=>whnf
      try exact fin
     ·conv=>whnf
      iterate 9 refine⟨id,?_⟩
      conv=>whnf
      apply ifc h<;>intro d h
      ·obtain rfl:=sj h
       conv=>whnf
       try exact fin
      ·conv=>whnf
       refine bq h fun _ C h=>?_;refine⟨_,(q0c n _ _ _ _ C),?_⟩;conv=>whnf
       apply ifc h<;>intro d h
       ·obtain rfl:=sj h
        conv=>whnf
        try exact fin
       ·conv=>whnf
        refine bq h fun⟨M,N⟩ y h=>?_;refine⟨_,(qm7 n _ _ _ _ y),?_⟩;conv=>whnf
        exact⟨((IntKind.i64.wrap (g+1)),M,N),h,wk [0,1,2] []⟩
    ·conv=>whnf
     apply ifc h<;>intro d h
     ·conv=>whnf
      refine bq h fun O D h=>?_;refine⟨_,(qek n _ _ _ D),?_⟩;conv=>whnf
      exact⟨O,h,wk [0,1,2,3] []⟩
     ·conv=>whnf
      exact⟨(0:Int),h,wk [0,1,2,3] []⟩
   ·conv=>whnf
    apply ifc h<;>intro d h
    ·conv=>whnf
     refine bq h fun⟨_,_⟩ z h=>?_;refine⟨_,Codec.at_ ql2 z,?_⟩;conv=>whnf
     refine bq h fun⟨_,_,_,_,_⟩ J h=>?_;refine⟨_,Codec.at_ qgu J,?_⟩;conv=>whnf
     refine⟨id,id,id,?_⟩;conv=>whnf
     refine bq h fun _ I h=>?_;refine⟨_,fun K=>(qek n _ _ _ (qad I K)),?_⟩;conv=>whnf
     iterate 13 refine⟨id,?_⟩
     conv=>whnf
     apply ifc h<;>intro d h
     ·obtain rfl:=sj h
      conv=>whnf
      try exact fin
     ·conv=>whnf
      refine bq h fun _ H h=>?_;refine⟨_,(q0c n _ _ _ _ H),?_⟩;conv=>whnf
      apply ifc h<;>intro d h
      ·obtain rfl:=sj h
       conv=>whnf
       try exact fin
      ·conv=>whnf
       refine bq h fun⟨P,Q⟩ G h=>?_;refine⟨_,(qm7 n _ _ _ _ G),?_⟩;conv=>whnf
       exact⟨(P,Q),h,wk [0,1,2] []⟩
    ·conv=>whnf
     exact⟨(l,i),h,wk [0,1,2] []⟩
  ·conv=>whnf
   exact⟨((IntKind.i64.wrap (c+1)),l,i),h,wk [0,1,2] []⟩
 ·obtain rfl:=sj h
  conv=>whnf
  try exact fin
abbrev zeb (r:qa4×Int):PV:=PV.tup [PV.agg (qpg.cells r.1),PV.int .i64 r.2]
def qm9 (n:Nat) (a:List SS) (b:List Int) (i:Int) (d:List qbj) (c:Int) (g:Int×List SS×List Int->Option (qa4×Int)):Int×Int->Option (qa4×Int):=fun(e,f)=>
 bif(f != 0)then(
 some (qa4.mk a b,f))
 else(
 bif(bif(i==9)then(e != 3)else false)then(
 some (qa4.mk a b,(3:Int)))
 else(
 bnd (idx d c) fun⟨⟨_,_,⟨_,_,_,_,_,_⟩,_,_⟩,j⟩=>
 bnd (qd1 n (qa4.mk a b) j) fun k=>
 bif(decide (k>0))then(
 some (qa4.mk a b,(2:Int)))
 else(
 bnd (idx d c) fun⟨⟨_,_,⟨_,_,_,_,_,_⟩,_,_⟩,l⟩=>
 bnd (qhk n (qa4.mk a b) l e) fun⟨m,o⟩=>
 g ((IntKind.i64.wrap (c+1)),m,o))))
def qpy (n:Nat) (b:List SS) (d:List Int) (j:List qaa) (f:List SS) (g:List Int) (i:Int) (c:List qbj) (e:Int) (a:Int×List SS×List Int->Option (qa4×Int)):Int->Option (qa4×Int):=fun k=>
 bnd (qge n (qa4.mk b d) j k) fun l=>
 qm9 n f g i c e a ((3:Int),l)
def qn7 (n:Nat) (a:List SS) (b:List Int):Int->Option (qa4×Int):=fun c=>
 some (qa4.mk a b,c)
def qn6 (n:Nat) (a:List SS) (b:List Int) (d:List qaa):Int->Option (qa4×Int):=fun c=>
 bif(c==0)then(
 bnd (qge n (qa4.mk a b) d (3:Int)) fun e=>
 qn7 n a b e)
 else(
 qn7 n a b c)
def qiu (n:Nat) (d:List qar) (a:List SS) (b:List Int) (j k e:List qaa):(Int->Option (qa4×Int))->Int->Option (qa4×Int):=fun i c=>
 bif(decide (c<((qar.rows d).length:Int)))then(
 bnd (idx d c) fun⟨⟨l,m,⟨o,p,q,s,t,u⟩,v,w⟩,_⟩=>
 bnd (qge n (qa4.mk a b) [qaa.mk l m (Val.mk o p q s t u) v w] (3:Int)) fun f=>
 bif(f != 0)then(
 some (qa4.mk a b,f))
 else(
 i (IntKind.i64.wrap (c+1))))
 else(
 bnd (qge n (qa4.mk ([]:List SS) ([]:List Int)) j (3:Int)) fun g=>
 bif(g==0)then(
 bnd (qge n (qa4.mk ([]:List SS) ([]:List Int)) k (3:Int)) fun x=>
 qn6 n a b e x)
 else(
 qn6 n a b e g))
def qkq (n:Nat) (a:List qbj) (f:List SS) (g:List Int) (i:Int) (m:List qar) (o p y:List qaa):(Int×List SS×List Int->Option (qa4×Int))->Int×List SS×List Int->Option (qa4×Int):=fun e (b,c,d)=>
 bif(decide (b<((qbj.rows a).length:Int)))then(
 bnd (idx a b) fun⟨⟨k,l,⟨q,s,t,u,v,w⟩,x,j⟩,_⟩=>
 bif(k==14)then(
 bif(l==([99,111,117,110,116]:SS))then(
 qpy n f g j c d i a b e (0:Int))
 else(
 qpy n f g j c d i a b e (3:Int)))
 else(
 bnd (qlk n (qa4.mk f g) (qaa.mk k l (Val.mk q s t u v w) x j)) fun⟨z,A⟩=>
 qm9 n c d i a b e (z,A)))
 else(
 qan (qiu n m c d o p y) n (0:Int))
def qvg (n:Nat) (a:qa4) (b:qab):Option (qa4×Int):=
 match a,b with
 | ⟨c,f⟩,⟨j,_,k,⟨_,_,⟨_,_,_,_,_,_⟩,_,_⟩,_,d,_,e,g,i,_,_,_⟩=>
 qan (qkq n d c f j e g i k) n ((0:Int),([]:List _),([]:List _))
set_option maxHeartbeats 4000000 in
theorem zbw (n:Nat):∀ (H:qa4) (I:qab) (r:qa4×Int),qvg n H I=some r->qac Tryz.prog 65 [PV.agg (qpg.cells H),PV.agg (qda.cells I)] (zeb r):=by
 intro H I r h;obtain⟨l,x⟩:=H;obtain⟨f,C,g,⟨D,E,⟨F,G,m,o,q,s⟩,t,u⟩,v,d,w,i,j,k,y,z,A⟩:=I;unfold qvg at h;refine qac.of_vcN mixed (fun _ _=>Tryz.call65 _ _) Tryz.func65 (by kernel_rfl) (inl:=[1000000]) ?_;conv=>whnf
 refine qbl.fn [1000000] (S:=Int×List SS×List Int) (fun(e,a,b)=>[(2,.ptr 0 0),(3,.ptr 1 0),(4,.ptr 2 0),(6,.ptr 3 0),(7,pI e)]) (fun(e,a,b)=>[.box 99 [pT l,.p (.sl (qcp .i64 x))],.box 51 [pI f,pP C,pE g,pI D,pS E,pI F,pB G,pI m,pS o,pV q,pT s,pT t,pE u,pS v,pA d,pB w,pO i,pE j,pE k,pU y,pT z,pB A],zq9,.box 99 [pT a,.p (.sl (qcp .i64 b))]]) (B:=qkq n d l x f i j k g) h (wk [0,1,2,3] []) ?_;intro P st h;obtain⟨e,a,b⟩:=st;unfold qkq at h;conv=>whnf
 apply ifc h<;>intro c h
 ·conv=>whnf
  refine bq h fun⟨⟨b4,b5,⟨b6,b7,b8,b9,c0,c1⟩,c2,Q⟩,_⟩ b1 h=>?_;refine⟨_,Codec.at_ qr5 b1,?_⟩;conv=>whnf
  refine qh6.cut (S:=Int×Int) (fun(L,M)=>[(2,.ptr 0 0),(3,.ptr 1 0),(4,.ptr 2 0),(6,.ptr 3 0),(7,pI e),(8,pI L),(9,pI M)]) (fun(L,M)=>[.box 99 [pT l,.p (.sl (qcp .i64 x))],.box 51 [pI f,pP C,pE g,pI D,pS E,pI F,pB G,pI m,pS o,pV q,pT s,pT t,pE u,pS v,pA d,pB w,pO i,pE j,pE k,pU y,pT z,pB A],zq9,.box 99 [pT a,.p (.sl (qcp .i64 b))]]) (qm9 n a b f d e P) (r:=r) ?_ ?_
  ·intro st h
   obtain⟨L,M⟩:=st;unfold qm9 at h;conv=>whnf
   apply ifc h<;>intro c h
   ·obtain rfl:=sj h
    conv=>whnf
    try exact fin
   ·conv=>whnf
    refine⟨id,id,?_⟩;conv=>whnf
    apply ifc h<;>intro c h
    ·obtain rfl:=sj h
     conv=>whnf
     try exact fin
    ·conv=>whnf
     refine bq h fun⟨⟨_,_,⟨_,_,_,_,_,_⟩,_,_⟩,_⟩ a8 h=>?_;refine⟨_,Codec.at_ qr5 a8,?_⟩;conv=>whnf
     refine bq h fun _ a7 h=>?_;refine⟨_,(qek n _ _ _ a7),?_⟩;conv=>whnf
     apply ifc h<;>intro c h
     ·obtain rfl:=sj h
      conv=>whnf
      try exact fin
     ·conv=>whnf
      refine bq h fun⟨⟨_,_,⟨_,_,_,_,_,_⟩,_,_⟩,_⟩ a6 h=>?_;refine⟨_,Codec.at_ qr5 a6,?_⟩;conv=>whnf
      refine bq h fun⟨c3,c4⟩ a2 h=>?_;refine⟨_,(qm7 n _ _ _ _ a2),?_⟩;conv=>whnf
      exact⟨((IntKind.i64.wrap (e+1)),c3,c4),h,wk [0,1,2,3] []⟩
  ·conv=>whnf
   apply ifc h<;>intro c h
   ·conv=>whnf
    refine qh6.cut (S:=Int) (fun N=>[(2,.ptr 0 0),(3,.ptr 1 0),(4,.ptr 2 0),(6,.ptr 3 0),(7,pI e),(8,pI N),(10,.ptr 4 0)]) (fun N=>[.box 99 [pT l,.p (.sl (qcp .i64 x))],.box 51 [pI f,pP C,pE g,pI D,pS E,pI F,pB G,pI m,pS o,pV q,pT s,pT t,pE u,pS v,pA d,pB w,pO i,pE j,pE k,pU y,pT z,pB A],zq9,.box 99 [pT a,.p (.sl (qcp .i64 b))],.box 46 [pI b4,pS b5,pI b6,pB b7,pI b8,pS b9,pV c0,pT c1,pT c2,pE Q]]) (qpy n l x Q a b f d e P) (r:=r) ?_ ?_
    ·intro N h
     unfold qpy at h;conv=>whnf
     refine bq h fun c5 a9 h=>?_;refine⟨_,(qis n _ _ _ _ a9),?_⟩;conv=>whnf
     exact⟨((3:Int),c5),h,wk [0,1,2,3] []⟩
    ·conv=>whnf
     apply ifc h<;>intro c h
     ·conv=>whnf
      exact⟨(0:Int),h,wk [0,1,2,3,4] []⟩
     ·conv=>whnf
      exact⟨(3:Int),h,wk [0,1,2,3,4] []⟩
   ·conv=>whnf
    refine bq h fun⟨c6,c7⟩ b0 h=>?_;refine⟨_,(zbt n _ _ _ b0),?_⟩;conv=>whnf
    exact⟨(c6,c7),h,wk [0,1,2,3] []⟩
 ·conv=>whnf
  refine qbl.fn [1000000] (S:=Int) (fun J=>[(3,.ptr 0 0),(4,.ptr 1 0),(6,.ptr 2 0),(11,pI J)]) (fun J=>[.box 51 [pI f,pP C,pE g,pI D,pS E,pI F,pB G,pI m,pS o,pV q,pT s,pT t,pE u,pS v,pA d,pB w,pO i,pE j,pE k,pU y,pT z,pB A],zq9,.box 99 [pT a,.p (.sl (qcp .i64 b))]]) (B:=qiu n i a b j k g) h (wk [1,2,3] []) ?_;intro _ J h;unfold qiu at h;conv=>whnf
  apply ifc h<;>intro c h
  ·conv=>whnf
   refine bq h fun⟨⟨R,T,⟨U,V,W,X,Y,Z⟩,a0,a1⟩,_⟩ b3 h=>?_;refine⟨_,Codec.at_ qpi b3,?_⟩;conv=>whnf
   refine⟨Codec.one qcf [qaa.mk R T (Val.mk U V W X Y Z) a0 a1],qaa.rows [qaa.mk R T (Val.mk U V W X Y Z) a0 a1],.inl rfl,?_⟩;conv=>whnf
   refine bq h fun _ b2 h=>?_;refine⟨_,(qis n _ _ _ _ b2),?_⟩;conv=>whnf
   apply ifc h<;>intro c h
   ·obtain rfl:=sj h
    conv=>whnf
    try exact fin
   ·conv=>whnf
    exact⟨(IntKind.i64.wrap (J+1)),h,wk [0,1,2] []⟩
  ·conv=>whnf
   refine bq h fun c8 a5 h=>?_;refine⟨_,(qac.leArgs (qis n _ _ _ _ a5) (by try exact fin)),?_⟩;conv=>whnf
   refine qh6.cut (S:=Int) (fun K=>[(3,.ptr 0 0),(4,.ptr 1 0),(6,.ptr 2 0),(13,pI K)]) (fun K=>[.box 51 [pI f,pP C,pE g,pI D,pS E,pI F,pB G,pI m,pS o,pV q,pT s,pT t,pE u,pS v,pA d,pB w,pO i,pE j,pE k,pU y,pT z,pB A],zq9,.box 99 [pT a,.p (.sl (qcp .i64 b))]]) (qn6 n a b g) (r:=r) ?_ ?_
   ·intro K h
    unfold qn6 at h;conv=>whnf
    refine qh6.cut (S:=Int) (fun O=>[(4,.ptr 0 0),(6,.ptr 1 0),(13,pI O)]) (fun O=>[zq9,.box 99 [pT a,.p (.sl (qcp .i64 b))]]) (qn7 n a b) (r:=r) ?_ ?_
    ·intro O h
     unfold qn7 at h;obtain rfl:=sj h;conv=>whnf
     try exact fin
    ·conv=>whnf
     apply ifc h<;>intro c h
     ·conv=>whnf
      refine bq h fun c9 a3 h=>?_;refine⟨_,(qis n _ _ _ _ a3),?_⟩;conv=>whnf
      exact⟨c9,h,wk [1,2] []⟩
     ·conv=>whnf
      exact⟨K,h,wk [1,2] []⟩
   ·conv=>whnf
    apply ifc h<;>intro c h
    ·conv=>whnf
     refine bq h fun d0 a4 h=>?_;refine⟨_,(qac.leArgs (qis n _ _ _ _ a4) (by try exact fin)),?_⟩;conv=>whnf
     exact⟨d0,h,wk [0,1,2] []⟩
    ·conv=>whnf
     exact⟨c8,h,wk [0,1,2] []⟩
abbrev q92 (r:qa4×Int):PV:=PV.tup [PV.agg (qpg.cells r.1),PV.int .i64 r.2]
def qme (n:Nat) (a:List SS) (b:List Int):Int->Option (qa4×Int):=fun c=>
 some (qa4.mk a b,c)
def qmf (n:Nat) (a:List SS) (c:List Int) (b:SS):Int->Option (qa4×Int):=fun d=>
 bnd (qhk n (qa4.mk a c) b (3:Int)) fun⟨e,f⟩=>
 some (qa4.mk e f,d)
def qpx (n:Nat) (a:List SS) (b:List Int) (c:List qa6):Unit->Option (qa4×Int):=fun _=>
 bnd (qo0 n (qa4.mk a b) c true) fun⟨⟨d,e⟩,f⟩=>
 some (qa4.mk d e,f)
def qk3 (n:Nat) (a:Int->Option (qa4×Int)) (b:Int):Unit->Option (qa4×Int):=fun _=>
 a (IntKind.i64.wrap (b+1))
def qoq (n:Nat) (f:Int) (g:SS) (b:List SS) (c:List Int) (i:Int) (j:SS) (k:Int) (l:Bool) (m:Int) (o:SS) (p:List Val) (q s:List SS) (t:List qaa) (a:Int->Option (qa4×Int)) (d:Int):Unit->Option (qa4×Int):=fun _=>
 bif(bif(f==6)then(!(g==([]:SS)))else false)then(
 bnd (qge n (qa4.mk b c) [qaa.mk i j (Val.mk k l m o p q) s t] (3:Int)) fun e=>
 bif(e != 0)then(
 some (qa4.mk b c,e))
 else(
 qk3 n a d ()))
 else(
 qk3 n a d ())
def qop (n:Nat) (c:Int) (i:SS) (a:List SS) (b:List Int) (e:Int) (g:SS) (j:Int) (k:SS) (l:Int) (m:Bool) (o:Int) (p:SS) (q:List Val) (s t:List SS) (u:List qaa) (d:Int->Option (qa4×Int)) (f:Int):Unit->Option (qa4×Int):=fun _=>
 bif(bif(c==3)then true else(bif(c==2)then(!(i==([]:SS)))else false))then(
 some (qa4.mk a b,(3:Int)))
 else(
 qoq n e g a b j k l m o p q s t u d f ())
def qoo (n:Nat) (f:List qaf) (c:Int) (a:List SS) (b:List Int) (g:Int) (e:Int->Option (qa4×Int)):Unit->Option (qa4×Int):=fun _=>
 bnd (idx f c) fun⟨i,j,k,⟨l,m,⟨o,p,q,s,t,u⟩,v,w⟩⟩=>
 bnd (qd1 n (qa4.mk a b) i) fun d=>
 bif(d==0)then(
 some (qa4.mk a b,(2:Int)))
 else(
 qop n d k a b g j l m o p q s t u v w e c ())
def qh0 (n:Nat) (c:List qaf) (a:List SS) (b:List Int) (f:Int):(Int->Option (qa4×Int))->Int->Option (qa4×Int):=fun e d=>
 bif(decide (d<((qaf.rows c).length:Int)))then(
 qoo n c d a b f e ())
 else(
 some (qa4.mk a b,(0:Int)))
def qos (n:Nat) (e:Int) (b:List SS) (c:List Int) (a:Int->Option (qa4×Int)) (d:Int):Unit->Option (qa4×Int):=fun _=>
 bif(e==3)then(
 some (qa4.mk b c,(3:Int)))
 else(
 a (IntKind.i64.wrap (d+1)))
def qor (n:Nat) (f:List SS) (c:Int) (a:List SS) (b:List Int) (e:Int->Option (qa4×Int)):Unit->Option (qa4×Int):=fun _=>
 bnd (idx f c) fun g=>
 bnd (qd1 n (qa4.mk a b) g) fun d=>
 bif(d==0)then(
 some (qa4.mk a b,(2:Int)))
 else(
 qos n d a b e c ())
def qh1 (n:Nat) (c a:List SS) (b:List Int):(Int->Option (qa4×Int))->Int->Option (qa4×Int):=fun e d=>
 bif(decide (d<((qai c).length:Int)))then(
 qor n c d a b e ())
 else(
 some (qa4.mk a b,(0:Int)))
def qmg (n:Nat) (d:List qaf) (a:List SS) (b:List Int) (c:Int) (e:List SS) (v:List qa6) (x:List qaa) (y:Int) (B:SS) (D:Int) (E:Bool) (f:Int) (g:SS) (i:List Val) (j k:List SS) (l:List qaa) (m:SS) (o:List qbj) (p:Bool) (q:List qar) (s t:List qaa) (u:Bool):Bool->Option (qa4×Int):=fun w=>
 bif w then(
 qan (qh0 n d a b c) n (0:Int))
 else(
 bif(c==8)then(
 qan (qh1 n e a b) n (0:Int))
 else(
 bnd (qvg n (qa4.mk a b) (qab.mk c v x (qaa.mk y B (Val.mk D E f g i j) k l) m o p q s t d e u)) fun⟨⟨z,A⟩,C⟩=>
 some (qa4.mk z A,C)))
def qrh (n:Nat) (G:qa4) (H:qab):Option (qa4×Int):=
 match G,H with
 | ⟨a,b⟩,⟨c,d,s,⟨t,u,⟨v,w,f,g,i,j⟩,k,l⟩,e,x,y,z,A,B,C,D,E⟩=>
 bif(c==1)then(
 bnd (qo0 n (qa4.mk a b) d false) fun⟨⟨m,o⟩,F⟩=>
 bif(F==0)then(
 bnd (qge n (qa4.mk m o) s (3:Int)) fun I=>
 qme n m o I)
 else(
 qme n m o F))
 else(
 bif(c==2)then(
 bnd (qge n (qa4.mk a b) [qaa.mk t u (Val.mk v w f g i j) k l] (3:Int)) fun p=>
 bnd (qaw (p==0) (qd1 n (qa4.mk a b) e)) fun J=>
 bif(bif(p==0)then(decide (J>0))else false)then(
 qmf n a b e (2:Int))
 else(
 qmf n a b e p))
 else(
 bif(c==4)then(
 bnd (qo0 n (qa4.mk a b) d true) fun⟨⟨K,L⟩,M⟩=>
 some (qa4.mk K L,M))
 else(
 bif(c==5)then(
 bnd (idx d (0:Int)) fun⟨N,_⟩=>
 bnd (idx N (0:Int)) fun⟨q,_,_,_⟩=>
 bnd (qaw (!(q==([]:SS))) (qd1 n (qa4.mk a b) q)) fun O=>
 bif(bif(!(q==([]:SS)))then(decide (O>0))else false)then(
 some (qa4.mk a b,(2:Int)))
 else(
 qpx n a b d ()))
 else(
 bif(c==6)then(
 qmg n C a b c D d s t u v w f g i j k l e x y z A B E (c==6))
 else(
 qmg n C a b c D d s t u v w f g i j k l e x y z A B E (c==7))))))
set_option maxHeartbeats 4000000 in
theorem q6w (n:Nat):∀ (Q:qa4) (R:qab) (r:qa4×Int),qrh n Q R=some r->qac Tryz.prog 39 [PV.agg (qpg.cells Q),PV.agg (qda.cells R)] (q92 r):=by
 intro Q R r h;obtain⟨a,b⟩:=Q;obtain⟨c,v,E,⟨o,q,⟨s,t,e,f,g,i⟩,j,k⟩,u,w,x,y,z,A,l,m,C⟩:=R;unfold qrh at h;refine qac.of_vcN mixed (fun _ _=>Tryz.call39 _ _) Tryz.func39 (by kernel_rfl) (inl:=[1000001,1000000]) ?_;conv=>whnf
 apply ifc h<;>intro d h
 ·conv=>whnf
  refine bq h fun⟨⟨a1,a2⟩,c2⟩ b4 h=>?_;refine⟨_,(qut n _ _ _ _ b4),?_⟩;conv=>whnf
  refine qh6.cut (S:=Int) (fun W=>[(4,.ptr 0 0),(6,.ptr 1 0),(7,pI W)]) (fun W=>[zq9,.box 99 [pT a1,.p (.sl (qcp .i64 a2))]]) (qme n a1 a2) (r:=r) ?_ ?_
  ·intro W h
   unfold qme at h;obtain rfl:=sj h;conv=>whnf
   try exact fin
  ·conv=>whnf
   apply ifc h<;>intro d h
   ·conv=>whnf
    refine bq h fun c3 a6 h=>?_;refine⟨_,(qis n _ _ _ _ a6),?_⟩;conv=>whnf
    exact⟨c3,h,wk [2,3] []⟩
   ·conv=>whnf
    exact⟨c2,h,wk [2,3] []⟩
 ·conv=>whnf
  apply ifc h<;>intro d h
  ·conv=>whnf
   refine⟨Codec.one qcf [qaa.mk o q (Val.mk s t e f g i) j k],qaa.rows [qaa.mk o q (Val.mk s t e f g i) j k],.inl rfl,?_⟩;conv=>whnf
   refine bq h fun c4 b7 h=>?_;refine⟨_,(qis n _ _ _ _ b7),?_⟩;conv=>whnf
   refine qh6.cut (S:=Int) (fun X=>[(2,.ptr 0 0),(3,.ptr 1 0),(4,.ptr 2 0),(8,pI X)]) (fun X=>[.box 99 [pT a,.p (.sl (qcp .i64 b))],.box 51 [pI c,pP v,pE E,pI o,pS q,pI s,pB t,pI e,pS f,pV g,pT i,pT j,pE k,pS u,pA w,pB x,pO y,pE z,pE A,pU l,pT m,pB C],zq9]) (qmf n a b u) (r:=r) ?_ ?_
   ·intro X h
    unfold qmf at h;conv=>whnf
    refine bq h fun⟨_,_⟩ b5 h=>?_;refine⟨_,(qm7 n _ _ _ _ b5),?_⟩;obtain rfl:=sj h;conv=>whnf
    try exact fin
   ·conv=>whnf
    refine⟨id,?_⟩;conv=>whnf
    refine⟨id,id,?_⟩;conv=>whnf
    refine bq h fun _ b6 h=>?_;refine⟨_,fun V=>(qek n _ _ _ (qad b6 V)),?_⟩;conv=>whnf
    refine⟨id,id,?_⟩;conv=>whnf
    apply ifc h<;>intro d h
    ·conv=>whnf
     exact⟨(2:Int),h,wk [0,1,2] []⟩
    ·conv=>whnf
     exact⟨c4,h,wk [0,1,2] []⟩
  ·conv=>whnf
   apply ifc h<;>intro d h
   ·conv=>whnf
    refine bq h fun⟨⟨_,_⟩,_⟩ b8 h=>?_;refine⟨_,(qut n _ _ _ _ b8),?_⟩;obtain rfl:=sj h;conv=>whnf
    try exact fin
   ·conv=>whnf
    apply ifc h<;>intro d h
    ·conv=>whnf
     refine bq h fun⟨_,_⟩ a7 h=>?_;refine⟨_,Codec.at_ ql2 a7,?_⟩;conv=>whnf
     refine bq h fun⟨_,_,_,_⟩ c1 h=>?_;refine⟨_,Codec.at_ qea c1,?_⟩;conv=>whnf
     refine qh6.cut (S:=Unit) (fun _=>[(2,.ptr 0 0),(3,.ptr 1 0),(4,.ptr 2 0)]) (fun _=>[.box 99 [pT a,.p (.sl (qcp .i64 b))],.box 51 [pI c,pP v,pE E,pI o,pS q,pI s,pB t,pI e,pS f,pV g,pT i,pT j,pE k,pS u,pA w,pB x,pO y,pE z,pE A,pU l,pT m,pB C],zq9]) (qpx n a b v) (r:=r) ?_ ?_
     ·intro _ h
      unfold qpx at h;conv=>whnf
      refine bq h fun⟨⟨_,_⟩,_⟩ b9 h=>?_;refine⟨_,(qut n _ _ _ _ b9),?_⟩;obtain rfl:=sj h;conv=>whnf
      try exact fin
     ·conv=>whnf
      refine⟨id,?_⟩;conv=>whnf
      refine⟨id,?_⟩;conv=>whnf
      refine bq h fun _ c0 h=>?_;refine⟨_,fun V=>(qek n _ _ _ (qad c0 V)),?_⟩;conv=>whnf
      refine⟨id,id,?_⟩;conv=>whnf
      apply ifc h<;>intro d h
      ·obtain rfl:=sj h
       conv=>whnf
       try exact fin
      ·conv=>whnf
       exact⟨(),h,wk [0,1,2] []⟩
    ·conv=>whnf
     refine qh6.cut (S:=Bool) (fun Y=>[(2,.ptr 0 0),(3,.ptr 1 0),(4,.ptr 2 0),(17,pI c),(89,pB Y)]) (fun Y=>[.box 99 [pT a,.p (.sl (qcp .i64 b))],.box 51 [pI c,pP v,pE E,pI o,pS q,pI s,pB t,pI e,pS f,pV g,pT i,pT j,pE k,pS u,pA w,pB x,pO y,pE z,pE A,pU l,pT m,pB C],zq9]) (qmg n l a b c m v E o q s t e f g i j k u w x y z A C) (r:=r) ?_ ?_
     ·intro Y h
      unfold qmg at h;conv=>whnf
      apply ifc h<;>intro d h
      ·conv=>whnf
       refine qbl.fn [1000001,1000000] (S:=Int) (fun D=>[(2,.ptr 0 0),(3,.ptr 1 0),(4,.ptr 2 0),(10,pI D)]) (fun D=>[.box 99 [pT a,.p (.sl (qcp .i64 b))],.box 51 [pI c,pP v,pE E,pI o,pS q,pI s,pB t,pI e,pS f,pV g,pT i,pT j,pE k,pS u,pA w,pB x,pO y,pE z,pE A,pU l,pT m,pB C],zq9]) (B:=qh0 n l a b c) h (wk [0,1,2] []) ?_;intro T D h;unfold qh0 at h;conv=>whnf
       refine qh6.cut (S:=Unit) (fun _=>[(2,.ptr 0 0),(3,.ptr 1 0),(4,.ptr 2 0),(10,pI D)]) (fun _=>[.box 99 [pT a,.p (.sl (qcp .i64 b))],.box 51 [pI c,pP v,pE E,pI o,pS q,pI s,pB t,pI e,pS f,pV g,pT i,pT j,pE k,pS u,pA w,pB x,pO y,pE z,pE A,pU l,pT m,pB C],zq9]) (qoo n l D a b c T) (r:=r) ?_ ?_
       ·intro _ h
        unfold qoo at h;conv=>whnf
        refine qh6.cut (S:=Unit) (fun _=>[(2,.ptr 0 0),(3,.ptr 1 0),(4,.ptr 2 0),(10,pI D)]) (fun _=>[.box 99 [pT a,.p (.sl (qcp .i64 b))],.box 51 [pI c,pP v,pE E,pI o,pS q,pI s,pB t,pI e,pS f,pV g,pT i,pT j,pE k,pS u,pA w,pB x,pO y,pE z,pE A,pU l,pT m,pB C],zq9]) (qk3 n T D) (r:=r) ?_ ?_
        ·intro _ h
         unfold qk3 at h;conv=>whnf
         exact⟨(IntKind.i64.wrap (D+1)),h,wk [0,1,2] []⟩
        ·conv=>whnf
         refine bq h fun⟨a3,U,Z,⟨G,H,⟨I,J,K,L,M,N⟩,O,P⟩⟩ b0 h=>?_;refine⟨_,Codec.at_ qjb b0,?_⟩;conv=>whnf
         refine bq h fun a4 a9 h=>?_;refine⟨_,(qek n _ _ _ a9),?_⟩;conv=>whnf
         refine qh6.cut (S:=Unit) (fun _=>[(2,.ptr 0 0),(3,.ptr 1 0),(4,.ptr 2 0),(10,pI D),(11,.ptr 3 0),(12,pI a4)]) (fun _=>[.box 99 [pT a,.p (.sl (qcp .i64 b))],.box 51 [pI c,pP v,pE E,pI o,pS q,pI s,pB t,pI e,pS f,pV g,pT i,pT j,pE k,pS u,pA w,pB x,pO y,pE z,pE A,pU l,pT m,pB C],zq9,.box 74 [pS a3,pS U,pS Z,pI G,pS H,pI I,pB J,pI K,pS L,pV M,pT N,pT O,pE P]]) (qop n a4 Z a b c U G H I J K L M N O P T D) (r:=r) ?_ ?_
         ·intro _ h
          unfold qop at h;conv=>whnf
          refine qh6.cut (S:=Unit) (fun _=>[(2,.ptr 0 0),(3,.ptr 1 0),(4,.ptr 2 0),(10,pI D),(11,.ptr 3 0)]) (fun _=>[.box 99 [pT a,.p (.sl (qcp .i64 b))],.box 51 [pI c,pP v,pE E,pI o,pS q,pI s,pB t,pI e,pS f,pV g,pT i,pT j,pE k,pS u,pA w,pB x,pO y,pE z,pE A,pU l,pT m,pB C],zq9,.box 74 [pS a3,pS U,pS Z,pI G,pS H,pI I,pB J,pI K,pS L,pV M,pT N,pT O,pE P]]) (qoq n c U a b G H I J K L M N O P T D) (r:=r) ?_ ?_
          ·intro _ h
           unfold qoq at h;conv=>whnf
           refine⟨id,id,id,?_⟩;conv=>whnf
           apply ifc h<;>intro d h
           ·conv=>whnf
            refine⟨Codec.one qcf [qaa.mk G H (Val.mk I J K L M N) O P],qaa.rows [qaa.mk G H (Val.mk I J K L M N) O P],.inl rfl,?_⟩;conv=>whnf
            refine bq h fun _ a8 h=>?_;refine⟨_,(qis n _ _ _ _ a8),?_⟩;conv=>whnf
            apply ifc h<;>intro d h
            ·obtain rfl:=sj h
             conv=>whnf
             try exact fin
            ·conv=>whnf
             exact⟨(),h,wk [0,1,2] []⟩
           ·conv=>whnf
            exact⟨(),h,wk [0,1,2] []⟩
          ·conv=>whnf
           refine⟨id,?_⟩;conv=>whnf
           iterate 6 refine⟨id,?_⟩
           conv=>whnf
           apply ifc h<;>intro d h
           ·obtain rfl:=sj h
            conv=>whnf
            try exact fin
           ·conv=>whnf
            exact⟨(),h,wk [0,1,2,3] []⟩
         ·conv=>whnf
          apply ifc h<;>intro d h
          ·obtain rfl:=sj h
           conv=>whnf
           try exact fin
          ·conv=>whnf
           exact⟨(),h,wk [0,1,2,3] []⟩
       ·conv=>whnf
        apply ifc h<;>intro d h
        ·conv=>whnf
         exact⟨(),h,wk [0,1,2] []⟩
        ·obtain rfl:=sj h
         conv=>whnf
         try exact fin
      ·conv=>whnf
       apply ifc h<;>intro d h
       ·conv=>whnf
        refine qbl.fn [1000001,1000000] (S:=Int) (fun F=>[(2,.ptr 0 0),(3,.ptr 1 0),(4,.ptr 2 0),(14,pI F)]) (fun F=>[.box 99 [pT a,.p (.sl (qcp .i64 b))],.box 51 [pI c,pP v,pE E,pI o,pS q,pI s,pB t,pI e,pS f,pV g,pT i,pT j,pE k,pS u,pA w,pB x,pO y,pE z,pE A,pU l,pT m,pB C],zq9]) (B:=qh1 n m a b) h (wk [0,1,2] []) ?_;intro a0 F h;unfold qh1 at h;conv=>whnf
        refine qh6.cut (S:=Unit) (fun _=>[(2,.ptr 0 0),(3,.ptr 1 0),(4,.ptr 2 0),(14,pI F)]) (fun _=>[.box 99 [pT a,.p (.sl (qcp .i64 b))],.box 51 [pI c,pP v,pE E,pI o,pS q,pI s,pB t,pI e,pS f,pV g,pT i,pT j,pE k,pS u,pA w,pB x,pO y,pE z,pE A,pU l,pT m,pB C],zq9]) (qor n m F a b a0) (r:=r) ?_ ?_
        ·intro _ h
         unfold qor at h;conv=>whnf
         refine bq h fun _ b2 h=>?_;refine⟨_,Codec.at_ qpl b2,?_⟩;conv=>whnf
         refine bq h fun a5 b1 h=>?_;refine⟨_,(qek n _ _ _ b1),?_⟩;conv=>whnf
         refine qh6.cut (S:=Unit) (fun _=>[(2,.ptr 0 0),(3,.ptr 1 0),(4,.ptr 2 0),(14,pI F),(15,pI a5)]) (fun _=>[.box 99 [pT a,.p (.sl (qcp .i64 b))],.box 51 [pI c,pP v,pE E,pI o,pS q,pI s,pB t,pI e,pS f,pV g,pT i,pT j,pE k,pS u,pA w,pB x,pO y,pE z,pE A,pU l,pT m,pB C],zq9]) (qos n a5 a b a0 F) (r:=r) ?_ ?_
         ·intro _ h
          unfold qos at h;conv=>whnf
          apply ifc h<;>intro d h
          ·obtain rfl:=sj h
           conv=>whnf
           try exact fin
          ·conv=>whnf
           exact⟨(IntKind.i64.wrap (F+1)),h,wk [0,1,2] []⟩
         ·conv=>whnf
          apply ifc h<;>intro d h
          ·obtain rfl:=sj h
           conv=>whnf
           try exact fin
          ·conv=>whnf
           exact⟨(),h,wk [0,1,2] []⟩
        ·conv=>whnf
         apply ifc h<;>intro d h
         ·conv=>whnf
          exact⟨(),h,wk [0,1,2] []⟩
         ·obtain rfl:=sj h
          conv=>whnf
          try exact fin
       ·conv=>whnf
        refine bq h fun⟨⟨_,_⟩,_⟩ b3 h=>?_;refine⟨_,(zbw n _ _ _ b3),?_⟩;obtain rfl:=sj h;conv=>whnf
        try exact fin
     ·conv=>whnf
      apply ifc h<;>intro d h
      ·conv=>whnf
       exact⟨(c==6),h,wk [0,1,2] []⟩
      ·conv=>whnf
       exact⟨(c==7),h,wk [0,1,2] []⟩
abbrev zck (r:List SS×List Int×Int):PV:=PV.tup [PV.sl (qai r.1),PV.sl (qcp .i64 r.2.1),PV.int .i64 r.2.2]
def qji (n:Nat) (t:Int) (f:List qab):(Int×List SS×List Int->Option (List SS×List Int×Int))->Int×List SS×List Int->Option (List SS×List Int×Int):=fun e (a,c,d)=>
 bif(decide (a<t))then(
 bnd (idx f a) fun⟨F,G,H,⟨g,i,⟨j,k,l,m,o,p⟩,q,s⟩,u,v,w,x,y,z,A,B,C⟩=>
 bnd (qrh n (qa4.mk c d) (qab.mk F G H (qaa.mk g i (Val.mk j k l m o p) q s) u v w x y z A B C)) fun⟨⟨D,E⟩,b⟩=>
 bif(b != 0)then(
 some (([]:List SS),([]:List Int),b))
 else(
 e ((IntKind.i64.wrap (a+1)),D,E)))
 else(
 some (c,d,(0:Int)))
def qh2 (n:Nat) (c:qid) (b:Int):Option (List SS×List Int×Int):=
 match c with
 | ⟨a⟩=>
 bnd (qps n (qid.mk a)) fun d=>
 bif(bif(bif(!d)then true else(decide (b<0)))then true else(decide (b>((qab.rows a).length:Int))))then(
 some (([]:List SS),([]:List Int),(20:Int)))
 else(
 qan (qji n b a) n ((0:Int),([]:List _),([]:List _)))
theorem q9b (n:Nat):∀ (b:qid) (a:Int) (r:List SS×List Int×Int),qh2 n b a=some r->qac Tryz.prog 17 [PV.agg (q21.cells b),PV.int .i64 a] (zck r):=by
 intro b a r h;obtain⟨g⟩:=b;unfold qh2 at h;refine qac.of_vcN mixed (fun _ _=>Tryz.call17 _ _) Tryz.func17 (by kernel_rfl) (inl:=[40000007,1000000]) ?_;conv=>whnf
 refine bq h fun _ k h=>?_;refine⟨_,(qt1 n _ _ k),?_⟩;conv=>whnf
 iterate 7 refine⟨id,?_⟩
 conv=>whnf
 apply ifc h<;>intro f h
 ·obtain rfl:=sj h
  conv=>whnf
  try exact fin
 ·conv=>whnf
  refine qbl.fn [40000007,1000000] (S:=Int×List SS×List Int) (fun(c,d,e)=>[(1,pI a),(2,.ptr 0 0),(7,.ptr 1 0),(8,pI c)]) (fun(c,d,e)=>[.box 24 [pC g],.box 99 [pT d,.p (.sl (qcp .i64 e))]]) (B:=qji n a g) h (wk [0,1] []) ?_;intro _ st h;obtain⟨c,d,e⟩:=st;unfold qji at h;conv=>whnf
  apply ifc h<;>intro f h
  ·conv=>whnf
   refine bq h fun⟨_,_,_,⟨_,_,⟨_,_,_,_,_,_⟩,_,_⟩,_,_,_,_,_,_,_,_,_⟩ j h=>?_;refine⟨_,Codec.at_ qda j,?_⟩;conv=>whnf
   refine bq h fun⟨⟨l,m⟩,_⟩ i h=>?_;refine⟨_,(q6w n _ _ _ i),?_⟩;conv=>whnf
   apply ifc h<;>intro f h
   ·obtain rfl:=sj h
    conv=>whnf
    try exact fin
   ·conv=>whnf
    exact⟨((IntKind.i64.wrap (c+1)),l,m),h,wk [0,1] []⟩
  ·obtain rfl:=sj h
   conv=>whnf
   try exact fin
def q0s (n:Nat) (c:qid):Option (List SS×Int):=
 match c with
 | ⟨a⟩=>
 bnd (qh2 n (qid.mk a) ((qab.rows a).length:Int)) fun⟨d,_,b⟩=>
 bnd (qaw (!(b != 0)) (idx a (IntKind.i64.wrap (((qab.rows a).length:Int) - 1)))) fun⟨e,_,_,⟨_,_,⟨_,_,_,_,_,_⟩,_,_⟩,_,_,_,_,_,_,_,_,_⟩=>
 bif(bif(b != 0)then true else(e != 9))then(
 some (([]:List SS),b))
 else(
 some (d,(0:Int)))
def qsi (n:Nat) (b:List qbj):(Int->Option (Int))->Int->Option (Int):=fun c a=>
 bif(decide (a<((qbj.rows b).length:Int)))then(
 bnd (idx b a) fun⟨⟨d,_,⟨_,_,_,_,_,_⟩,_,_⟩,_⟩=>
 bif(d==14)then(
 some (2:Int))
 else(
 c (IntKind.i64.wrap (a+1))))
 else(
 some (1:Int))
def q3k (n:Nat) (b:qab):Option (Int):=
 match b with
 | ⟨a,_,_,⟨_,_,⟨_,_,_,_,_,_⟩,_,_⟩,_,c,d,e,f,g,_,_,_⟩=>
 bif(bif(a==1)then true else(a==2))then(
 some (1:Int))
 else(
 bif(bif(a != 3)then(a != 9)else false)then(
 some (3:Int))
 else(
 bif(bif(bif(bif d then true else(decide (((qar.rows e).length:Int)>0)))then true else(decide (((qaa.rows f).length:Int)>0)))then true else(decide (((qaa.rows g).length:Int)>0)))then(
 some (2:Int))
 else(
 qan (qsi n c) n (0:Int))))
def qn9 (n:Nat) (c:List qa6) (a:Int) (f:SS) (d:Int->Option (Bool)):(Int->Option (Bool))->Int->Option (Bool):=fun e b=>
 bnd (idx c a) fun⟨g,_⟩=>
 bif(decide (b<((qae.rows g).length:Int)))then(
 bnd (idx c a) fun⟨i,_⟩=>
 bnd (idx i b) fun⟨j,_,_,_⟩=>
 bif(j==f)then(
 some true)
 else(
 e (IntKind.i64.wrap (b+1))))
 else(
 d (IntKind.i64.wrap (a+1)))
def qn8 (n:Nat) (d:Int) (c:List qa6) (e:SS):(Int->Option (Bool))->Int->Option (Bool):=fun b a=>
 bif(decide (a<d))then(
 qan (qn9 n c a e b) n (0:Int))
 else(
 some false)
def qq5 (n:Nat) (b:List SS) (c:SS) (f:Int) (e:List qa6):(Int->Option (Bool))->Int->Option (Bool):=fun d a=>
 bif(decide (a<((qai b).length:Int)))then(
 bnd (idx b a) fun g=>
 bif(g==c)then(
 some true)
 else(
 d (IntKind.i64.wrap (a+1))))
 else(
 qan (qn8 n f e c) n (0:Int))
def q0u (n:Nat) (a:qab) (c:Int) (d:List SS) (e:SS):Option (Bool):=
 match a with
 | ⟨_,b,_,⟨_,_,⟨_,_,_,_,_,_⟩,_,_⟩,_,_,_,_,_,_,_,_,_⟩=>
 qan (qq5 n d e c b) n (0:Int)
end W
end
