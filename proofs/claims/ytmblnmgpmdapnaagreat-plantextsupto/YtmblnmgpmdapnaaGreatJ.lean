/- A part of the proof: contracts, printed by program. -/
import Derived.Test.YtmblnmgpmdapnaaGreatB
import Derived.Test.YtmblnmgpmdapnaaGreatH
import Derived.Test.YtmblnmgpmdapnaaGreatI
set_option linter.unusedVariables false
set_option linter.unusedSimpArgs false
set_option linter.unnecessarySimpa false
set_option linter.deprecated false
set_option linter.unusedSectionVars false
set_option linter.constructorNameAsVariable false
section
set_option maxRecDepth 100000
open Go Go.Proofs Ax
namespace W
abbrev ze2 (r:List qao×Int):PV:=PV.tup [PV.sl (qao.rows r.1),PV.int .i64 r.2]
def qj2 (n:Nat) (H:Int) (I:List qa9) (J:List qaa) (g:Int) (i:SS) (j:Int) (k:Bool) (l:Int) (m:SS) (o:List Val) (p q:List SS) (s:List qaa) (t:SS) (u:List qbo) (v:Bool) (w:List qat) (x y:List qaa) (z:List qag) (A:List SS) (B:Bool) (e:Int) (C:List SS) (f:List qda×List qao×Int->Option (List qao×Int)):List qao×List qda->Option (List qao×Int):=fun(a,D)=>
 bnd (qwb (IntKind.i64.wrap (((((qao.rows a).length):Nat):Int) - 1))) fun b=>
 chk (decide (b<(qao.rows a).length)) (
 bnd (a[b]?) fun⟨_,_,_,c⟩=>
 chk (decide (b+1=(qao.rows a).length)) (
 chk (decide ((qda.rows D).length=(qda.rows c).length)) (
 bnd (qm7 n (qab.mk H I J (qaa.mk g i (Val.mk j k l m o p) q s) t u v w x y z A B) e C) fun d=>
 chk (decide ((qda.rows (c++d)).length * 48<=140737488355328)) (
 chk (decide (b+1=(qao.rows a).length)) (
 bnd (a[b]?) fun⟨E,F,G,_⟩=>
 f ((c++d),(a.set b (qao.mk E F G (c++d))),(IntKind.i64.wrap (e+1))))))))
def qhx (n:Nat) (d:List qab):(List qda×List qao×Int->Option (List qao×Int))->List qda×List qao×Int->Option (List qao×Int):=fun E (I,a,b)=>
 bif(decide (b<((qab.rows d).length:Int)))then(
 bnd (idx d b) fun⟨B,C,D,⟨e,f,⟨g,i,j,k,l,m⟩,o,p⟩,q,s,t,u,v,w,x,y,z⟩=>
 bnd (qi9 n (qhl.mk d) b) fun⟨F,_,G⟩=>
 bif(G != 0)then(
 some (([]:List qao),G))
 else(
 bnd (qsg n (qab.mk B C D (qaa.mk e f (Val.mk g i j k l m) o p) q s t u v w x y z)) fun c=>
 bnd (qaw (bif(c==0)then(decide (((((qao.rows a).length):Nat):Int)>0))else false) (qwb (IntKind.i64.wrap (((((qao.rows a).length):Nat):Int) - 1)))) fun H=>
 chk (bif(bif(c==0)then(decide (((((qao.rows a).length):Nat):Int)>0))else false)then decide (H<(qao.rows a).length)else true) (
 bnd (qaw (bif(c==0)then(decide (((((qao.rows a).length):Nat):Int)>0))else false) (a[H]?)) fun⟨J,_,_,_⟩=>
 bif(bif(bif(c==0)then(decide (((((qao.rows a).length):Nat):Int)>0))else false)then(J==1)else false)then(
 bnd (qwb (IntKind.i64.wrap (((((qao.rows a).length):Nat):Int) - 1))) fun A=>
 chk (decide (A<(qao.rows a).length)) (
 bnd (a[A]?) fun⟨K,L,_,M⟩=>
 qj2 n B C D e f g i j k l m o p q s t u v w x y z b F E ((a.set A (qao.mk K L b M)),I)))
 else(
 chk (decide ((qao.rows (a++[qao.mk (IntKind.i64.wrap ((1:Int)+c)) b b ([]:List qda)])).length * 48<=140737488355328)) (
 qj2 n B C D e f g i j k l m o p q s t u v w x y z b F E ((a++[qao.mk (IntKind.i64.wrap ((1:Int)+c)) b b ([]:List qda)]),([]:List qda)))))))
 else(
 some (a,(0:Int)))
def qj1 (n:Nat) (c:qhl):Option (List qao×Int):=
 match c with
 | ⟨a⟩=>
 bnd (qqy n (qhl.mk a)) fun⟨_,b⟩=>
 bif(b != 0)then(
 some (([]:List qao),b))
 else(
 qam (qhx n a) n (([]:List _),([]:List _),(0:Int)))
set_option maxHeartbeats 4000000 in
theorem ql9 (n:Nat):∀ (g:qhl) (r:List qao×Int),qj1 n g=some r->qac Tryz.prog 10 [PV.agg (qy0.cells g)] (ze2 r):=by
 intro g r h;obtain⟨c⟩:=g;unfold qj1 at h;refine qac.of_vcN mixed (fun _ _=>Tryz.call10 _ _) Tryz.func10 (by kernel_rfl) (inl:=[40000017,70000083,1000000]) ?_;conv=>whnf
 refine bq h fun s0 b1 h=>?_;obtain⟨_,_⟩:=s0;refine⟨_,(q6z n _ _ b1),?_⟩;conv=>whnf
 apply ifc h<;>intro k h
 ·obtain rfl:=sj h
  conv=>whnf
  try exact fin
 ·conv=>whnf
  refine qbi.fn [40000017,70000083,1000000] (S:=List qda×List qao×Int) (fun(j,b,a)=>[(1,.ptr 0 0),(6,.vsl 2 ((qao.rows b).length)),(24,pC c),(25,.p (.int .i64 ((qab.rows c).length:Int))),(26,pI a)]) (fun(j,b,a)=>[.box 24 [pC c],.tail 53 4 (qda.rows j).length,.vl 37 4 (qao.rows b) 3 1]) (B:=qhx n c) h ⟨[0,0,0],[1,2],⟨rfl,rfl,rfl,rfl⟩,by repeat (first|exact trivial|exact .inl rfl|exact rfl|exact List.not_mem_nil|(refine .inr ?_)|(refine⟨?_,?_⟩)|exact List.length_set.symm|exact Codec.lenSet qbf _ _ _|exact(Codec.lenSet qbf _ _ _).trans (Codec.lenSet qbf _ _ _)|decide),by repeat (first|exact trivial|exact .inl rfl|exact rfl|exact List.not_mem_nil|(refine .inr ?_)|(refine⟨?_,?_⟩)|exact List.length_set.symm|exact Codec.lenSet qbf _ _ _|exact(Codec.lenSet qbf _ _ _).trans (Codec.lenSet qbf _ _ _)|decide)⟩ ?_;intro b8 st h;obtain⟨j,b,a⟩:=st;unfold qhx at h;conv=>whnf
  apply ifc h<;>intro k h
  ·conv=>whnf
   refine bq h fun s0 a9 h=>?_;obtain⟨X,Y,Z,⟨v,w,⟨x,y,z,A,C,D⟩,E,F⟩,G,H,I,J,K,L,M,N,O⟩:=s0;refine⟨_,Codec.at_ qcz a9,?_⟩;conv=>whnf
   refine bq h fun s0 a8 h=>?_;obtain⟨P,_,_⟩:=s0;refine⟨_,(qyg n _ _ _ a8),?_⟩;conv=>whnf
   apply ifc h<;>intro k h
   ·obtain rfl:=sj h
    conv=>whnf
    try exact fin
   ·conv=>whnf
    refine bq h fun m a7 h=>?_;refine⟨_,(q8y n _ _ a7),?_⟩;conv=>whnf
    refine qhe.cut (S:=List qao×List qda) (fun(f,o)=>[(1,.ptr 0 0),(6,.vsl 1 ((qao.rows f).length)),(7,pI a),(8,.ptr 2 0),(9,pT P),(24,pC c),(25,.p (.int .i64 ((qab.rows c).length:Int))),(26,pI a)]) (fun(f,o)=>[.box 24 [pC c],.vl 37 4 (qao.rows f) 3 3,.box 51 [pI X,pP Y,pE Z,pI v,pS w,pI x,pB y,pI z,pS A,pV C,pT D,pT E,pE F,pS G,pA H,pB I,pO J,pE K,pE L,pU M,pT N,pB O],.tail 53 4 (qda.rows o).length]) (qj2 n X Y Z v w x y z A C D E F G H I J K L M N O a P b8) (r:=r) ?_ ?_
    ·intro st h
     obtain⟨f,o⟩:=st;unfold qj2 at h;conv=>whnf
     refine bq h fun q b7 h=>?_;have l:=qct b7;conv=>whnf
     obtain⟨b6,h⟩:=qai h;refine⟨q,⟨l,of_decide_eq_true b6⟩,?_⟩;conv=>whnf
     refine bq h fun s0 b5 h=>?_;obtain⟨_,_,_,d⟩:=s0;refine⟨_,⟨rfl,Codec.getN qbf b5⟩,?_⟩;conv=>whnf
     obtain⟨b4,h⟩:=qai h;refine⟨of_decide_eq_true b4,_,rfl,?_⟩;conv=>whnf
     obtain⟨b3,h⟩:=qai h;have hl_h5:=of_decide_eq_true b3;conv=>whnf
     refine bq h fun e b2 h=>?_;refine⟨_,(q80 n _ _ _ _ b2),?_⟩;conv=>whnf
     rw[show qda.rows d++qda.rows e=qda.rows (d++e)from Codec.append qyx d e];conv=>whnf
     obtain⟨u,h⟩:=qai h;refine⟨⟨Codec.wide qyx (d++e),of_decide_eq_true u,qb5 u (by decide)⟩,?_⟩;conv=>whnf
     refine⟨⟨rfl,rfl,by first|rfl|assumption⟩,?_⟩;conv=>whnf
     obtain⟨a0,h⟩:=qai h;conv=>whnf
     refine bq h fun s0 b0 h=>?_;obtain⟨Q,R,T,_⟩:=s0;refine⟨_,4,⟨rfl,Codec.getN qbf b0,rfl,.inr ⟨rfl,of_decide_eq_true a0,_,rfl⟩⟩,?_⟩;conv=>whnf
     refine⟨_,Codec.setN qbf f q (qao.mk Q R T (d++e)),?_⟩;conv=>whnf
     exact⟨((d++e),(f.set q (qao.mk Q R T (d++e))),(IntKind.i64.wrap (a+1))),h,⟨[0,4,1],[],⟨rfl,rfl,rfl,rfl⟩,by repeat (first|exact trivial|exact .inl rfl|exact rfl|exact List.not_mem_nil|(refine .inr ?_)|(refine⟨?_,?_⟩)|exact List.length_set.symm|exact Codec.lenSet qbf _ _ _|exact(Codec.lenSet qbf _ _ _).trans (Codec.lenSet qbf _ _ _)|decide),by repeat (first|exact trivial|exact .inl rfl|exact rfl|exact List.not_mem_nil|(refine .inr ?_)|(refine⟨?_,?_⟩)|exact List.length_set.symm|exact Codec.lenSet qbf _ _ _|exact(Codec.lenSet qbf _ _ _).trans (Codec.lenSet qbf _ _ _)|decide)⟩⟩
    ·conv=>whnf
     refine⟨id,?_⟩;conv=>whnf
     refine⟨id,id,id,id,?_⟩;conv=>whnf
     refine bq h fun b9 a1 h=>?_;obtain⟨a2,h⟩:=qai h;refine⟨b9,fun i=>⟨qct (qad a1 i),of_decide_eq_true (gd a2 i)⟩,?_⟩;conv=>whnf
     refine⟨id,id,?_⟩;conv=>whnf
     refine bq h fun s0 a6 h=>?_;obtain⟨_,_,_,_⟩:=s0;refine⟨_,fun i=>⟨rfl,Codec.getN qbf (qad a6 i)⟩,?_⟩;conv=>whnf
     refine⟨id,id,?_⟩;conv=>whnf
     apply ifc h<;>intro k h
     ·conv=>whnf
      refine bq h fun s a5 h=>?_;have l:=qct a5;conv=>whnf
      obtain⟨a4,h⟩:=qai h;refine⟨s,⟨l,of_decide_eq_true a4⟩,?_⟩;conv=>whnf
      refine bq h fun s0 a3 h=>?_;obtain⟨U,V,_,W⟩:=s0;refine⟨_,1,⟨rfl,Codec.getN qbf a3,rfl,.inl ⟨Nat.le_of_ble_eq_true rfl,by first|exact .inl (Nat.le_of_ble_eq_true rfl)|exact .inr (Nat.le_of_ble_eq_true rfl),rfl⟩⟩,?_⟩;conv=>whnf
      refine⟨_,Codec.setN qbf b s (qao.mk U V a W),?_⟩;conv=>whnf
      exact⟨((b.set s (qao.mk U V a W)),j),h,⟨[0,2,3,1],[],⟨rfl,rfl,rfl,rfl⟩,by repeat (first|exact trivial|exact .inl rfl|exact rfl|exact List.not_mem_nil|(refine .inr ?_)|(refine⟨?_,?_⟩)|exact List.length_set.symm|exact Codec.lenSet qbf _ _ _|exact(Codec.lenSet qbf _ _ _).trans (Codec.lenSet qbf _ _ _)|decide),by repeat (first|exact trivial|exact .inl rfl|exact rfl|exact List.not_mem_nil|(refine .inr ?_)|(refine⟨?_,?_⟩)|exact List.length_set.symm|exact Codec.lenSet qbf _ _ _|exact(Codec.lenSet qbf _ _ _).trans (Codec.lenSet qbf _ _ _)|decide)⟩⟩
     ·conv=>whnf
      refine⟨by repeat (first|exact List.forall_mem_nil _|refine List.forall_mem_cons.2 ⟨⟨rfl,rfl⟩,?_⟩),_,.inl rfl,?_⟩;conv=>whnf
      obtain⟨t,h⟩:=qai h;refine⟨qao.rows (b++[qao.mk (IntKind.i64.wrap ((1:Int)+m)) a a ([]:List qda)]),_,53,4,⟨zxd qbf b (qao.mk (IntKind.i64.wrap ((1:Int)+m)) a a ([]:List qda)) (by try exact fin),⟨rfl,rfl⟩,rfl,rfl,List.forall_mem_cons.2 ⟨rfl,List.forall_mem_nil _⟩,of_decide_eq_true t,qb5 t (by decide)⟩,?_⟩;conv=>whnf
      exact⟨((b++[qao.mk (IntKind.i64.wrap ((1:Int)+m)) a a ([]:List qda)]),([]:List qda)),h,⟨[0,5,3,4],[],⟨rfl,rfl,rfl,rfl⟩,by repeat (first|exact trivial|exact .inl rfl|exact rfl|exact List.not_mem_nil|(refine .inr ?_)|(refine⟨?_,?_⟩)|exact List.length_set.symm|exact Codec.lenSet qbf _ _ _|exact(Codec.lenSet qbf _ _ _).trans (Codec.lenSet qbf _ _ _)|decide),by repeat (first|exact trivial|exact .inl rfl|exact rfl|exact List.not_mem_nil|(refine .inr ?_)|(refine⟨?_,?_⟩)|exact List.length_set.symm|exact Codec.lenSet qbf _ _ _|exact(Codec.lenSet qbf _ _ _).trans (Codec.lenSet qbf _ _ _)|decide)⟩⟩
  ·obtain rfl:=sj h
   conv=>whnf
   try exact fin
abbrev ze4 (r:SS):PV:=PV.str r
def qun (n:Nat) (a:Int):Option SS:=
 bif(a==1)then(
 some ([102,108,111,119]:SS))
 else(
 bif(a==2)then(
 some ([119,104,111,108,101]:SS))
 else(
 some ([119,114,105,116,101]:SS)))
theorem zbp (n:Nat):∀ (a:Int) (r:SS),qun n a=some r->qac Tryz.prog 32 [PV.int .i64 a] (ze4 r):=by
 intro a r h;unfold qun at h;refine qac.of_vcN mixed (fun _ _=>Tryz.call32 _ _) Tryz.func32 (by kernel_rfl) (inl:=[1000000]) ?_;conv=>whnf
 apply ifc h<;>intro b h
 ·obtain rfl:=sj h
  conv=>whnf
  try exact fin
 ·conv=>whnf
  apply ifc h<;>intro b h
  ·obtain rfl:=sj h
   conv=>whnf
   try exact fin
  ·obtain rfl:=sj h
   conv=>whnf
   try exact fin
abbrev zgx (r:Int):PV:=PV.int .u64 r
def q0h (n:Nat) (a:Int):Option (Int):=
 bif(decide (a<0))then(
 some (IntKind.u64.wrap (0 - (IntKind.u64.wrap a))))
 else(
 some (IntKind.u64.wrap a))
theorem zeb (n:Nat):∀ (a r:Int),q0h n a=some r->qac Tryz.prog 56 [PV.int .i64 a] (zgx r):=by
 intro a r h;unfold q0h at h;refine qac.of_vcN mixed (fun _ _=>Tryz.call56 _ _) Tryz.func56 (by kernel_rfl) (inl:=[1000000]) ?_;conv=>whnf
 apply ifc h<;>intro _ h
 ·obtain rfl:=sj h
  conv=>whnf
  try exact fin
 ·obtain rfl:=sj h
  conv=>whnf
  try exact fin
abbrev zgw (r:SS):PV:=PV.str r
def qn2 (n:Nat):Int×SS->Option SS:=fun(c,b)=>
 bnd (qwb c) fun a=>
 chk (decide (a<20)) (
 chk (decide (a+(20 - a)<=b.length)) (
 some ((b.drop a).take (20 - a))))
def qn3 (n:Nat) (j:Int):(Int×Int×SS->Option SS)->Int×Int×SS->Option SS:=fun i (b,f,c)=>
 bnd (qwb (Int.tmod f (10:Int))) fun g=>
 chk (decide (g<10)) (
 bnd (([(48:UInt8),(49:UInt8),(50:UInt8),(51:UInt8),(52:UInt8),(53:UInt8),(54:UInt8),(55:UInt8),(56:UInt8),(57:UInt8)]:SS)[g]?) fun l=>
 bnd (qwb (IntKind.i64.wrap (b - 1))) fun a=>
 chk (decide (a<20)) (
 bnd (u8I ((l.toNat:Nat):Int)) fun d=>
 chk (decide (a<c.length)) (
 bif(decide (f<10))then(
 bif(decide (j<0))then(
 bnd (qwb (IntKind.i64.wrap ((IntKind.i64.wrap (b - 1)) - 1))) fun e=>
 chk (decide (e<20)) (
 bnd (u8I (45:Int)) fun k=>
 chk (decide (e<(c.set a d).length)) (
 qn2 n ((IntKind.i64.wrap ((IntKind.i64.wrap (b - 1)) - 1)),((c.set a d).set e k)))))
 else(
 qn2 n ((IntKind.i64.wrap (b - 1)),(c.set a d))))
 else(
 i ((IntKind.i64.wrap (b - 1)),(IntKind.u64.wrap (Int.tdiv f (10:Int))),(c.set a d))))))
def qp9 (n:Nat) (a:Int):Option SS:=
 bnd (q0h n a) fun b=>
 qam (qn3 n a) n ((20:Int),b,(List.replicate 20 0:SS))
theorem qtj (n:Nat):∀ (d:Int) (r:SS),qp9 n d=some r->qac Tryz.prog 33 [PV.int .i64 d] (zgw r):=by
 intro d r h;unfold qp9 at h;refine qac.of_vcN mixed (fun _ _=>Tryz.call33 _ _) Tryz.func33 (by kernel_rfl) (inl:=[10000003,10000004,1000000]) ?_;conv=>whnf
 refine⟨rfl,zum rfl,?_⟩;conv=>whnf
 refine⟨(List.replicate 10 0:SS),rfl,?_⟩;conv=>whnf
 refine⟨([(48:UInt8),(49:UInt8),(50:UInt8),(51:UInt8),(52:UInt8),(53:UInt8),(54:UInt8),(55:UInt8),(56:UInt8),(57:UInt8)]:SS),⟨rfl,rfl,rfl,rfl,rfl⟩,?_⟩;conv=>whnf
 refine⟨(List.replicate 20 0:SS),rfl,?_⟩;conv=>whnf
 refine bq h fun _ w h=>?_;refine⟨_,(zeb n _ _ w),?_⟩;conv=>whnf
 refine qbi.fn [10000003,10000004,1000000] (S:=Int×Int×SS) (fun(a,f,b)=>[(0,pI d),(3,.eptr 0 1 0 0),(4,.eptr 1 1 0 0),(5,pI a),(6,.p (.int .u64 f))]) (fun(a,f,b)=>[.bv ([(48:UInt8),(49:UInt8),(50:UInt8),(51:UInt8),(52:UInt8),(53:UInt8),(54:UInt8),(55:UInt8),(56:UInt8),(57:UInt8)]:SS),.bv b]) (B:=qn3 n d) h (wk [0,1] []) ?_;intro _ st h;obtain⟨a,f,b⟩:=st;unfold qn3 at h;conv=>whnf
 refine⟨by unfold gI; decide,?_⟩;conv=>whnf
 refine bq h fun H v h=>?_;have c:=qct v;conv=>whnf
 obtain⟨u,h⟩:=qai h;refine⟨H,⟨rfl,c,of_decide_eq_true u⟩,?_⟩;conv=>whnf
 refine bq h fun _ t h=>?_;refine⟨_,⟨rfl,rfl,t⟩,?_⟩;conv=>whnf
 refine bq h fun g s h=>?_;have c:=qct s;conv=>whnf
 obtain⟨q,h⟩:=qai h;refine⟨g,⟨rfl,c,of_decide_eq_true q⟩,?_⟩;conv=>whnf
 refine bq h fun j E h=>?_;have hb:=qeu E;conv=>whnf
 obtain⟨D,h⟩:=qai h;refine⟨_,_,⟨rfl,rfl,of_decide_eq_true D,hb,rfl⟩,?_⟩;conv=>whnf
 apply ifc h<;>intro F h
 ·conv=>whnf
  refine qhe.cut (S:=Int×SS) (fun(i,e)=>[(4,.eptr 0 1 0 0),(5,pI i)]) (fun(i,e)=>[.bv e]) (qn2 n) (r:=r) ?_ ?_
  ·intro st h
   obtain⟨i,e⟩:=st;unfold qn2 at h;conv=>whnf
   refine bq h fun l x h=>?_;refine⟨_,qct x,?_⟩;conv=>whnf
   obtain⟨k,h⟩:=qai h;refine⟨⟨rfl,Nat.le_of_lt (of_decide_eq_true k),Nat.le_refl _,of_decide_eq_true k⟩,?_⟩;conv=>whnf
   obtain⟨o,h⟩:=qai h;refine⟨(of_decide_eq_true o:l+(20 - l)<=e.length),?_⟩;obtain rfl:=sj h;conv=>whnf
   try exact fin
  ·conv=>whnf
   apply ifc h<;>intro F h
   ·conv=>whnf
    refine bq h fun m C h=>?_;have c:=qct C;conv=>whnf
    obtain⟨A,h⟩:=qai h;refine⟨m,⟨rfl,c,of_decide_eq_true A⟩,?_⟩;conv=>whnf
    refine bq h fun G z h=>?_;have hb:=qeu z;conv=>whnf
    obtain⟨y,h⟩:=qai h;refine⟨_,_,⟨rfl,rfl,of_decide_eq_true y,hb,rfl⟩,?_⟩;conv=>whnf
    exact⟨((IntKind.i64.wrap ((IntKind.i64.wrap (a - 1)) - 1)),((b.set g j).set m G)),h,wk [1] []⟩
   ·conv=>whnf
    exact⟨((IntKind.i64.wrap (a - 1)),(b.set g j)),h,wk [1] []⟩
 ·conv=>whnf
  refine⟨by unfold gI; decide,?_⟩;conv=>whnf
  exact⟨((IntKind.i64.wrap (a - 1)),(IntKind.u64.wrap (Int.tdiv f (10:Int))),(b.set g j)),h,wk [0,1] []⟩
abbrev qqh (r:Bool):PV:=PV.bool r
def qee (n:Nat) (a b:SS):Option (Bool):=
 bnd (qaw (decide (((a.length:Nat):Int)≥((b.length:Nat):Int))) (qwb ((b.length:Nat):Int))) fun c=>
 chk (bif(decide (((a.length:Nat):Int)≥((b.length:Nat):Int)))then decide (c<=a.length)else true) (
 some (bif(decide (((a.length:Nat):Int)≥((b.length:Nat):Int)))then((a.take c)==b)else false))
theorem qpv (n:Nat):∀ (a c:SS) (r:Bool),qee n a c=some r->qac Tryz.prog 147 [PV.str a,PV.str c] (qqh r):=by
 intro a c r h;unfold qee at h;refine qac.of_vcN mixed (fun _ _=>Tryz.call147 _ _) Tryz.func147 (by kernel_rfl) (inl:=[1000000]) ?_;conv=>whnf
 refine⟨id,id,id,?_⟩;conv=>whnf
 refine bq h fun d f h=>?_;refine⟨_,fun b=>qct (qad f b),?_⟩;conv=>whnf
 obtain⟨e,h⟩:=qai h;refine⟨fun b=>⟨Nat.zero_le _,(of_decide_eq_true (gd e b):(d<=a.length))⟩,?_⟩;rw[show List.drop 0 (List.take d a)=(a.take d)from rfl];conv=>whnf
 refine⟨id,id,id,?_⟩;obtain rfl:=sj h;conv=>whnf
 try exact fin
abbrev qzw (r:Bool):PV:=PV.bool r
def qgh (n:Nat) (a b:SS):Option (Bool):=
 bnd (qee n a b) fun c=>
 some c
theorem qyq (n:Nat):∀ (a b:SS) (r:Bool),qgh n a b=some r->qac Tryz.prog 98 [PV.str a,PV.str b] (qzw r):=by
 intro a b r h;unfold qgh at h;refine qac.of_vcN mixed (fun _ _=>Tryz.call98 _ _) Tryz.func98 (by kernel_rfl) (inl:=[1000000]) ?_;conv=>whnf
 refine bq h fun _ c h=>?_;refine⟨_,(qpv n _ _ _ c),?_⟩;obtain rfl:=sj h;conv=>whnf
 try exact fin
abbrev zcd (r:SS):PV:=PV.str r
def qqz (n:Nat) (b:SS) (a:Nat) (c:SS) (d:SS×Nat->Option SS):Bool->Option SS:=fun m=>
 bif m then(
 bnd (u8I (IntKind.u8.wrap (((BitVec.ofInt IntKind.u8.bits (224:Int) ||| BitVec.ofInt IntKind.u8.bits (IntKind.u8.wrap (Int.fdiv ((qba b a:Nat):Int) (2 ^ (min (Int.toNat (12:Int)) IntKind.i32.bits))))).toNat:Nat):Int))) fun k=>
 bnd (u8I (IntKind.u8.wrap (((BitVec.ofInt IntKind.u8.bits (128:Int) ||| BitVec.ofInt IntKind.u8.bits (IntKind.u8.wrap (((BitVec.ofInt IntKind.u8.bits (IntKind.u8.wrap (Int.fdiv ((qba b a:Nat):Int) (2 ^ (min (Int.toNat (6:Int)) IntKind.i32.bits)))) &&& BitVec.ofInt IntKind.u8.bits (63:Int)).toNat:Nat):Int))).toNat:Nat):Int))) fun l=>
 bnd (u8I (IntKind.u8.wrap (((BitVec.ofInt IntKind.u8.bits (128:Int) ||| BitVec.ofInt IntKind.u8.bits (IntKind.u8.wrap (((BitVec.ofInt IntKind.u8.bits (IntKind.u8.wrap ((qba b a:Nat):Int)) &&& BitVec.ofInt IntKind.u8.bits (63:Int)).toNat:Nat):Int))).toNat:Nat):Int))) fun e=>
 chk (decide ((qau ((c++[(92:UInt8)])++[k,l,e])).length * 1<=140737488355328)) (
 d (((c++[(92:UInt8)])++[k,l,e]),(bif(decide (a<b.length))then qd0 b a else a))))
 else(
 bif(bif(decide ((IntKind.u32.wrap ((qba b a:Nat):Int))>65535))then(decide ((IntKind.u32.wrap ((qba b a:Nat):Int))<=1114111))else false)then(
 bnd (u8I (IntKind.u8.wrap (((BitVec.ofInt IntKind.u8.bits (240:Int) ||| BitVec.ofInt IntKind.u8.bits (IntKind.u8.wrap (Int.fdiv ((qba b a:Nat):Int) (2 ^ (min (Int.toNat (18:Int)) IntKind.i32.bits))))).toNat:Nat):Int))) fun f=>
 bnd (u8I (IntKind.u8.wrap (((BitVec.ofInt IntKind.u8.bits (128:Int) ||| BitVec.ofInt IntKind.u8.bits (IntKind.u8.wrap (((BitVec.ofInt IntKind.u8.bits (IntKind.u8.wrap (Int.fdiv ((qba b a:Nat):Int) (2 ^ (min (Int.toNat (12:Int)) IntKind.i32.bits)))) &&& BitVec.ofInt IntKind.u8.bits (63:Int)).toNat:Nat):Int))).toNat:Nat):Int))) fun g=>
 bnd (u8I (IntKind.u8.wrap (((BitVec.ofInt IntKind.u8.bits (128:Int) ||| BitVec.ofInt IntKind.u8.bits (IntKind.u8.wrap (((BitVec.ofInt IntKind.u8.bits (IntKind.u8.wrap (Int.fdiv ((qba b a:Nat):Int) (2 ^ (min (Int.toNat (6:Int)) IntKind.i32.bits)))) &&& BitVec.ofInt IntKind.u8.bits (63:Int)).toNat:Nat):Int))).toNat:Nat):Int))) fun i=>
 bnd (u8I (IntKind.u8.wrap (((BitVec.ofInt IntKind.u8.bits (128:Int) ||| BitVec.ofInt IntKind.u8.bits (IntKind.u8.wrap (((BitVec.ofInt IntKind.u8.bits (IntKind.u8.wrap ((qba b a:Nat):Int)) &&& BitVec.ofInt IntKind.u8.bits (63:Int)).toNat:Nat):Int))).toNat:Nat):Int))) fun j=>
 chk (decide ((qau ((c++[(92:UInt8)])++[f,g,i,j])).length * 1<=140737488355328)) (
 d (((c++[(92:UInt8)])++[f,g,i,j]),(bif(decide (a<b.length))then qd0 b a else a))))
 else(
 chk (decide ((qau ((c++[(92:UInt8)])++[(239:UInt8),(191:UInt8),(189:UInt8)])).length * 1<=140737488355328)) (
 d (((c++[(92:UInt8)])++[(239:UInt8),(191:UInt8),(189:UInt8)]),(bif(decide (a<b.length))then qd0 b a else a)))))
def qii (n:Nat) (b:SS) (a:Nat) (c:SS) (d:SS×Nat->Option SS):Bool->Option SS:=fun m=>
 bif m then(
 bnd (u8I (IntKind.u8.wrap (((BitVec.ofInt IntKind.u8.bits (224:Int) ||| BitVec.ofInt IntKind.u8.bits (IntKind.u8.wrap (Int.fdiv ((qba b a:Nat):Int) (2 ^ (min (Int.toNat (12:Int)) IntKind.i32.bits))))).toNat:Nat):Int))) fun e=>
 bnd (u8I (IntKind.u8.wrap (((BitVec.ofInt IntKind.u8.bits (128:Int) ||| BitVec.ofInt IntKind.u8.bits (IntKind.u8.wrap (((BitVec.ofInt IntKind.u8.bits (IntKind.u8.wrap (Int.fdiv ((qba b a:Nat):Int) (2 ^ (min (Int.toNat (6:Int)) IntKind.i32.bits)))) &&& BitVec.ofInt IntKind.u8.bits (63:Int)).toNat:Nat):Int))).toNat:Nat):Int))) fun f=>
 bnd (u8I (IntKind.u8.wrap (((BitVec.ofInt IntKind.u8.bits (128:Int) ||| BitVec.ofInt IntKind.u8.bits (IntKind.u8.wrap (((BitVec.ofInt IntKind.u8.bits (IntKind.u8.wrap ((qba b a:Nat):Int)) &&& BitVec.ofInt IntKind.u8.bits (63:Int)).toNat:Nat):Int))).toNat:Nat):Int))) fun g=>
 chk (decide ((qau (c++[e,f,g])).length * 1<=140737488355328)) (
 d ((c++[e,f,g]),(bif(decide (a<b.length))then qd0 b a else a))))
 else(
 bif(bif(decide ((IntKind.u32.wrap ((qba b a:Nat):Int))>65535))then(decide ((IntKind.u32.wrap ((qba b a:Nat):Int))<=1114111))else false)then(
 bnd (u8I (IntKind.u8.wrap (((BitVec.ofInt IntKind.u8.bits (240:Int) ||| BitVec.ofInt IntKind.u8.bits (IntKind.u8.wrap (Int.fdiv ((qba b a:Nat):Int) (2 ^ (min (Int.toNat (18:Int)) IntKind.i32.bits))))).toNat:Nat):Int))) fun i=>
 bnd (u8I (IntKind.u8.wrap (((BitVec.ofInt IntKind.u8.bits (128:Int) ||| BitVec.ofInt IntKind.u8.bits (IntKind.u8.wrap (((BitVec.ofInt IntKind.u8.bits (IntKind.u8.wrap (Int.fdiv ((qba b a:Nat):Int) (2 ^ (min (Int.toNat (12:Int)) IntKind.i32.bits)))) &&& BitVec.ofInt IntKind.u8.bits (63:Int)).toNat:Nat):Int))).toNat:Nat):Int))) fun j=>
 bnd (u8I (IntKind.u8.wrap (((BitVec.ofInt IntKind.u8.bits (128:Int) ||| BitVec.ofInt IntKind.u8.bits (IntKind.u8.wrap (((BitVec.ofInt IntKind.u8.bits (IntKind.u8.wrap (Int.fdiv ((qba b a:Nat):Int) (2 ^ (min (Int.toNat (6:Int)) IntKind.i32.bits)))) &&& BitVec.ofInt IntKind.u8.bits (63:Int)).toNat:Nat):Int))).toNat:Nat):Int))) fun k=>
 bnd (u8I (IntKind.u8.wrap (((BitVec.ofInt IntKind.u8.bits (128:Int) ||| BitVec.ofInt IntKind.u8.bits (IntKind.u8.wrap (((BitVec.ofInt IntKind.u8.bits (IntKind.u8.wrap ((qba b a:Nat):Int)) &&& BitVec.ofInt IntKind.u8.bits (63:Int)).toNat:Nat):Int))).toNat:Nat):Int))) fun l=>
 chk (decide ((qau (c++[i,j,k,l])).length * 1<=140737488355328)) (
 d ((c++[i,j,k,l]),(bif(decide (a<b.length))then qd0 b a else a))))
 else(
 chk (decide ((qau (c++[(239:UInt8),(191:UInt8),(189:UInt8)])).length * 1<=140737488355328)) (
 d ((c++[(239:UInt8),(191:UInt8),(189:UInt8)]),(bif(decide (a<b.length))then qd0 b a else a)))))
def qfs (n:Nat) (b:SS):(SS×Nat->Option SS)->SS×Nat->Option SS:=fun d (c,a)=>
 bif(decide (a<b.length))then(
 bif(bif(((qba b a:Nat):Int)==92)then true else(((qba b a:Nat):Int)==39))then(
 chk (decide ((qau (c++[(92:UInt8)])).length * 1<=140737488355328)) (
 bif(decide ((IntKind.u32.wrap ((qba b a:Nat):Int))<=127))then(
 bnd (u8I (IntKind.u8.wrap ((qba b a:Nat):Int))) fun m=>
 chk (decide ((qau ((c++[(92:UInt8)])++[m])).length * 1<=140737488355328)) (
 d (((c++[(92:UInt8)])++[m]),(bif(decide (a<b.length))then qd0 b a else a))))
 else(
 bif(decide ((IntKind.u32.wrap ((qba b a:Nat):Int))<=2047))then(
 bnd (u8I (IntKind.u8.wrap (((BitVec.ofInt IntKind.u8.bits (192:Int) ||| BitVec.ofInt IntKind.u8.bits (IntKind.u8.wrap (Int.fdiv ((qba b a:Nat):Int) (2 ^ (min (Int.toNat (6:Int)) IntKind.i32.bits))))).toNat:Nat):Int))) fun o=>
 bnd (u8I (IntKind.u8.wrap (((BitVec.ofInt IntKind.u8.bits (128:Int) ||| BitVec.ofInt IntKind.u8.bits (IntKind.u8.wrap (((BitVec.ofInt IntKind.u8.bits (IntKind.u8.wrap ((qba b a:Nat):Int)) &&& BitVec.ofInt IntKind.u8.bits (63:Int)).toNat:Nat):Int))).toNat:Nat):Int))) fun p=>
 chk (decide ((qau ((c++[(92:UInt8)])++[o,p])).length * 1<=140737488355328)) (
 d (((c++[(92:UInt8)])++[o,p]),(bif(decide (a<b.length))then qd0 b a else a))))
 else(
 bif(decide ((IntKind.u32.wrap ((qba b a:Nat):Int))<55296))then(
 qqz n b a c d (decide ((IntKind.u32.wrap ((qba b a:Nat):Int))<55296)))
 else(
 qqz n b a c d (bif(decide ((57343:Int)<(IntKind.u32.wrap ((qba b a:Nat):Int))))then(decide ((IntKind.u32.wrap ((qba b a:Nat):Int))<=65535))else false))))))
 else(
 bif(((qba b a:Nat):Int)==10)then(
 chk (decide ((qau (c++([92,110]:SS))).length * 1<=140737488355328)) (
 d ((c++([92,110]:SS)),(bif(decide (a<b.length))then qd0 b a else a))))
 else(
 bif(((qba b a:Nat):Int)==9)then(
 chk (decide ((qau (c++([92,116]:SS))).length * 1<=140737488355328)) (
 d ((c++([92,116]:SS)),(bif(decide (a<b.length))then qd0 b a else a))))
 else(
 bif(((qba b a:Nat):Int)==13)then(
 chk (decide ((qau (c++([92,114]:SS))).length * 1<=140737488355328)) (
 d ((c++([92,114]:SS)),(bif(decide (a<b.length))then qd0 b a else a))))
 else(
 bnd (qaw ((!(bif(decide (((qba b a:Nat):Int)<32))then true else(((qba b a:Nat):Int)==127)))&&(((qba b a:Nat):Int)==65533)) (qwb ((a:Nat):Int))) fun f=>
 chk (bif((!(bif(decide (((qba b a:Nat):Int)<32))then true else(((qba b a:Nat):Int)==127)))&&(((qba b a:Nat):Int)==65533))then decide (f<=b.length)else true) (
 bnd (qaw ((!(bif(decide (((qba b a:Nat):Int)<32))then true else(((qba b a:Nat):Int)==127)))&&(((qba b a:Nat):Int)==65533)) (qgh n (b.drop f) ([239,191,189]:SS))) fun q=>
 bif(bif(bif(decide (((qba b a:Nat):Int)<32))then true else(((qba b a:Nat):Int)==127))then true else(bif(((qba b a:Nat):Int)==65533)then(!q)else false))then(
 bnd (idx b ((a:Nat):Int)) fun g=>
 chk (decide ((qau (c++([92,120]:SS))).length * 1<=140737488355328)) (
 bnd (idx ([48,49,50,51,52,53,54,55,56,57,97,98,99,100,101,102]:SS) (Int.fdiv ((g.toNat:Nat):Int) (2 ^ (min (Int.toNat (4:Int)) IntKind.u8.bits)))) fun e=>
 chk (decide ((qau ((c++([92,120]:SS))++[e])).length * 1<=140737488355328)) (
 bnd (idx ([48,49,50,51,52,53,54,55,56,57,97,98,99,100,101,102]:SS) (IntKind.u8.wrap (((BitVec.ofInt IntKind.u8.bits ((g.toNat:Nat):Int) &&& BitVec.ofInt IntKind.u8.bits (15:Int)).toNat:Nat):Int))) fun i=>
 chk (decide ((qau (((c++([92,120]:SS))++[e])++[i])).length * 1<=140737488355328)) (
 d ((((c++([92,120]:SS))++[e])++[i]),(bif(decide (a<b.length))then qd0 b a else a))))))
 else(
 bif(decide ((IntKind.u32.wrap ((qba b a:Nat):Int))<=127))then(
 bnd (u8I (IntKind.u8.wrap ((qba b a:Nat):Int))) fun j=>
 chk (decide ((qau (c++[j])).length * 1<=140737488355328)) (
 d ((c++[j]),(bif(decide (a<b.length))then qd0 b a else a))))
 else(
 bif(decide ((IntKind.u32.wrap ((qba b a:Nat):Int))<=2047))then(
 bnd (u8I (IntKind.u8.wrap (((BitVec.ofInt IntKind.u8.bits (192:Int) ||| BitVec.ofInt IntKind.u8.bits (IntKind.u8.wrap (Int.fdiv ((qba b a:Nat):Int) (2 ^ (min (Int.toNat (6:Int)) IntKind.i32.bits))))).toNat:Nat):Int))) fun k=>
 bnd (u8I (IntKind.u8.wrap (((BitVec.ofInt IntKind.u8.bits (128:Int) ||| BitVec.ofInt IntKind.u8.bits (IntKind.u8.wrap (((BitVec.ofInt IntKind.u8.bits (IntKind.u8.wrap ((qba b a:Nat):Int)) &&& BitVec.ofInt IntKind.u8.bits (63:Int)).toNat:Nat):Int))).toNat:Nat):Int))) fun l=>
 chk (decide ((qau (c++[k,l])).length * 1<=140737488355328)) (
 d ((c++[k,l]),(bif(decide (a<b.length))then qd0 b a else a))))
 else(
 bif(decide ((IntKind.u32.wrap ((qba b a:Nat):Int))<55296))then(
 qii n b a c d (decide ((IntKind.u32.wrap ((qba b a:Nat):Int))<55296)))
 else(
 qii n b a c d (bif(decide ((57343:Int)<(IntKind.u32.wrap ((qba b a:Nat):Int))))then(decide ((IntKind.u32.wrap ((qba b a:Nat):Int))<=65535))else false)))))))))))
 else(
 chk (decide ((qau (c++[(39:UInt8)])).length * 1<=140737488355328)) (
 some (c++[(39:UInt8)])))
def qsj (n:Nat) (a:SS):Option SS:=
 chk (decide ((qau [(39:UInt8)]).length * 1<=140737488355328)) (
 qam (qfs n a) n ([(39:UInt8)],0))
set_option maxHeartbeats 4000000 in
theorem q89 (n:Nat):∀ (c r:SS),qsj n c=some r->qac Tryz.prog 58 [PV.str c] (zcd r):=by
 intro c r h;unfold qsj at h;refine qac.of_vcN mixed (fun _ _=>Tryz.call58 _ _) Tryz.func58 (by kernel_rfl) (inl:=[31,35,36,55,94,97,99,146,168,1000000]) ?_;conv=>whnf
 refine qdc.of_vc mixed (fun _ _=>Tryz.call35 _ _) Tryz.func35 (by kernel_rfl) (inl:=[31,35,36,55,94,97,99,146,168,1000000]) ?_;conv=>whnf
 refine qdc.of_vc mixed (fun _ _=>Tryz.call55 _ _) Tryz.func55 (by kernel_rfl) (inl:=[31,35,36,55,94,97,99,146,168,1000000]) ?_;conv=>whnf
 refine⟨fun _=>?_,fun hf=>absurd hf (by first|decide|simp)⟩;conv=>whnf
 refine⟨⟨by decide,by first|decide|exact Nat.zero_lt_succ _⟩,?_⟩;conv=>whnf
 refine qdc.noEscape Tryz.func94 (by kernel_rfl) (by kernel_rfl) (by kernel_rfl) (by kernel_rfl) ?_;conv=>whnf
 refine⟨by kernel_rfl,?_⟩;conv=>whnf
 refine⟨Codec.one qdm [(39:UInt8)],qau [(39:UInt8)],.inl rfl,?_⟩;conv=>whnf
 obtain⟨a4,h⟩:=qai h;refine⟨⟨Codec.wide qdm [(39:UInt8)],of_decide_eq_true a4,qb5 a4 (by decide)⟩,?_⟩;conv=>whnf
 refine qbi.fn [31,35,36,55,94,97,99,146,168,1000000] (S:=SS×Nat) (fun(a,b)=>[(0,pS c),(3,.ptr 0 0),(8,.ptr 1 0)]) (fun(a,b)=>[.box 88 [.ptr 0 0,.tsl 2 (qau a)],.sit c b,.tail 5 1 (qau a).length]) (B:=qfs n c) h (wk [0,2,1] []) ?_;intro a7 st h;obtain⟨a,b⟩:=st;unfold qfs at h;conv=>whnf
 refine⟨(decide (b<c.length)),(bif(decide (b<c.length))then qd0 c b else b),⟨rfl,rfl⟩,?_⟩;conv=>whnf
 apply ifc h<;>intro d h
 ·conv=>whnf
  refine⟨by assumption,?_⟩;conv=>whnf
  refine⟨by assumption,?_⟩;conv=>whnf
  refine⟨id,id,?_⟩;conv=>whnf
  apply ifc h<;>intro d h
  ·conv=>whnf
   refine qdc.of_vc mixed (fun _ _=>Tryz.call35 _ _) Tryz.func35 (by kernel_rfl) (inl:=[31,35,36,55,94,97,99,146,168,1000000]) ?_;conv=>whnf
   refine qdc.of_vc mixed (fun _ _=>Tryz.call55 _ _) Tryz.func55 (by kernel_rfl) (inl:=[31,35,36,55,94,97,99,146,168,1000000]) ?_;conv=>whnf
   refine⟨fun hf=>absurd hf (by first|decide|simp),fun _=>?_⟩;conv=>whnf
   refine⟨fun hf=>absurd hf (by first|decide|simp),fun _=>?_⟩;conv=>whnf
   refine⟨Codec.one qdm [(92:UInt8)],qau [(92:UInt8)],.inl rfl,?_⟩;conv=>whnf
   rw[show qau a++qau [(92:UInt8)]=qau (a++[(92:UInt8)])from Codec.append qdm a [(92:UInt8)]];conv=>whnf
   obtain⟨O,h⟩:=qai h;refine⟨⟨Codec.wide qdm (a++[(92:UInt8)]),of_decide_eq_true O,qb5 O (by decide)⟩,?_⟩;conv=>whnf
   refine⟨⟨rfl,rfl,rfl⟩,?_⟩;conv=>whnf
   refine qdc.of_vc mixed (fun _ _=>Tryz.call97 _ _) Tryz.func97 (by kernel_rfl) (inl:=[31,35,36,55,94,97,99,146,168,1000000]) ?_;conv=>whnf
   refine qdc.of_vc mixed (fun _ _=>Tryz.call55 _ _) Tryz.func55 (by kernel_rfl) (inl:=[31,35,36,55,94,97,99,146,168,1000000]) ?_;conv=>whnf
   refine⟨fun hf=>absurd hf (by first|decide|simp),fun _=>?_⟩;conv=>whnf
   refine⟨fun hf=>absurd hf (by first|decide|simp),fun _=>?_⟩;conv=>whnf
   refine qdc.of_vc mixed (fun _ _=>Tryz.call146 _ _) Tryz.func146 (by kernel_rfl) (inl:=[31,35,36,55,94,97,99,146,168,1000000]) ?_;conv=>whnf
   apply ifc h<;>intro d h
   ·conv=>whnf
    refine bq h fun C a8 h=>?_;rw[show([[PV.int .u8 (IntKind.u8.wrap ((qba c b:Nat):Int))]]:List (List PV))=qau [C]from by rw[qeu a8]; rfl];refine⟨Codec.one qdm [C],_,.inl rfl,?_⟩;conv=>whnf
    rw[show qau (a++[(92:UInt8)])++qau [C]=qau ((a++[(92:UInt8)])++[C])from Codec.append qdm (a++[(92:UInt8)]) [C]];conv=>whnf
    obtain⟨U,h⟩:=qai h;refine⟨⟨Codec.wide qdm ((a++[(92:UInt8)])++[C]),of_decide_eq_true U,qb5 U (by decide)⟩,?_⟩;conv=>whnf
    refine⟨⟨rfl,rfl,rfl⟩,?_⟩;conv=>whnf
    exact⟨(((a++[(92:UInt8)])++[C]),(bif(decide (b<c.length))then qd0 c b else b)),h,wk [0,1,4] []⟩
   ·conv=>whnf
    refine qdc.of_vc mixed (fun _ _=>Tryz.call168 _ _) Tryz.func168 (by kernel_rfl) (inl:=[31,35,36,55,94,97,99,146,168,1000000]) ?_;conv=>whnf
    apply ifc h<;>intro d h
    ·conv=>whnf
     refine⟨by unfold gI; decide,?_⟩;conv=>whnf
     refine bq h fun D b9 h=>?_;refine bq h fun F c7 h=>?_;rw[show([[PV.int .u8 (IntKind.u8.wrap (((BitVec.ofInt IntKind.u8.bits (192:Int) ||| BitVec.ofInt IntKind.u8.bits (IntKind.u8.wrap (Int.fdiv ((qba c b:Nat):Int) (2 ^ (min (Int.toNat (6:Int)) IntKind.i32.bits))))).toNat:Nat):Int))],[PV.int .u8 (IntKind.u8.wrap (((BitVec.ofInt IntKind.u8.bits (128:Int) ||| BitVec.ofInt IntKind.u8.bits (IntKind.u8.wrap (((BitVec.ofInt IntKind.u8.bits (IntKind.u8.wrap ((qba c b:Nat):Int)) &&& BitVec.ofInt IntKind.u8.bits (63:Int)).toNat:Nat):Int))).toNat:Nat):Int))]]:List (List PV))=qau [D,F]from by rw[qeu b9,qeu c7]; rfl];refine⟨Codec.one qdm [D,F],_,.inl rfl,?_⟩;conv=>whnf
     rw[show qau (a++[(92:UInt8)])++qau [D,F]=qau ((a++[(92:UInt8)])++[D,F])from Codec.append qdm (a++[(92:UInt8)]) [D,F]];conv=>whnf
     obtain⟨a5,h⟩:=qai h;refine⟨⟨Codec.wide qdm ((a++[(92:UInt8)])++[D,F]),of_decide_eq_true a5,qb5 a5 (by decide)⟩,?_⟩;conv=>whnf
     refine⟨⟨rfl,rfl,rfl⟩,?_⟩;conv=>whnf
     exact⟨(((a++[(92:UInt8)])++[D,F]),(bif(decide (b<c.length))then qd0 c b else b)),h,wk [0,1,4] []⟩
    ·conv=>whnf
     refine qhe.cut (S:=Bool) (fun L=>[(0,.tsl 3 (qau (a++[(92:UInt8)]))),(1,.p (.int .i32 ((qba c b:Nat):Int))),(5,.p (.int .u32 (IntKind.u32.wrap ((qba c b:Nat):Int)))),(25,pB L)]) (fun L=>[.box 88 [.ptr 0 0,.tsl 3 (qau (a++[(92:UInt8)]))],.sit c (bif(decide (b<c.length))then qd0 c b else b),.dead,.tail 5 1 (qau (a++[(92:UInt8)])).length]) (qqz n c b a a7) (r:=r) ?_ ?_
     ·intro L h
      unfold qqz at h;conv=>whnf
      apply ifc h<;>intro d h
      ·conv=>whnf
       refine⟨by unfold gI; decide,?_⟩;conv=>whnf
       refine⟨by unfold gI; decide,?_⟩;conv=>whnf
       refine bq h fun G d1 h=>?_;refine bq h fun H d2 h=>?_;refine bq h fun f d3 h=>?_;rw[show([[PV.int .u8 (IntKind.u8.wrap (((BitVec.ofInt IntKind.u8.bits (224:Int) ||| BitVec.ofInt IntKind.u8.bits (IntKind.u8.wrap (Int.fdiv ((qba c b:Nat):Int) (2 ^ (min (Int.toNat (12:Int)) IntKind.i32.bits))))).toNat:Nat):Int))],[PV.int .u8 (IntKind.u8.wrap (((BitVec.ofInt IntKind.u8.bits (128:Int) ||| BitVec.ofInt IntKind.u8.bits (IntKind.u8.wrap (((BitVec.ofInt IntKind.u8.bits (IntKind.u8.wrap (Int.fdiv ((qba c b:Nat):Int) (2 ^ (min (Int.toNat (6:Int)) IntKind.i32.bits)))) &&& BitVec.ofInt IntKind.u8.bits (63:Int)).toNat:Nat):Int))).toNat:Nat):Int))],[PV.int .u8 (IntKind.u8.wrap (((BitVec.ofInt IntKind.u8.bits (128:Int) ||| BitVec.ofInt IntKind.u8.bits (IntKind.u8.wrap (((BitVec.ofInt IntKind.u8.bits (IntKind.u8.wrap ((qba c b:Nat):Int)) &&& BitVec.ofInt IntKind.u8.bits (63:Int)).toNat:Nat):Int))).toNat:Nat):Int))]]:List (List PV))=qau [G,H,f]from by rw[qeu d1,qeu d2,qeu d3]; rfl];refine⟨Codec.one qdm [G,H,f],_,.inl rfl,?_⟩;conv=>whnf
       rw[show qau (a++[(92:UInt8)])++qau [G,H,f]=qau ((a++[(92:UInt8)])++[G,H,f])from Codec.append qdm (a++[(92:UInt8)]) [G,H,f]];conv=>whnf
       obtain⟨a6,h⟩:=qai h;refine⟨⟨Codec.wide qdm ((a++[(92:UInt8)])++[G,H,f]),of_decide_eq_true a6,qb5 a6 (by decide)⟩,?_⟩;conv=>whnf
       refine⟨⟨rfl,rfl,rfl⟩,?_⟩;conv=>whnf
       exact⟨(((a++[(92:UInt8)])++[G,H,f]),(bif(decide (b<c.length))then qd0 c b else b)),h,wk [0,1,4] []⟩
      ·conv=>whnf
       refine⟨id,id,?_⟩;conv=>whnf
       apply ifc h<;>intro d h
       ·conv=>whnf
        refine⟨by unfold gI; decide,?_⟩;conv=>whnf
        refine⟨by unfold gI; decide,?_⟩;conv=>whnf
        refine⟨by unfold gI; decide,?_⟩;conv=>whnf
        refine bq h fun g a9 h=>?_;refine bq h fun i b0 h=>?_;refine bq h fun l b1 h=>?_;refine bq h fun m b2 h=>?_;rw[show([[PV.int .u8 (IntKind.u8.wrap (((BitVec.ofInt IntKind.u8.bits (240:Int) ||| BitVec.ofInt IntKind.u8.bits (IntKind.u8.wrap (Int.fdiv ((qba c b:Nat):Int) (2 ^ (min (Int.toNat (18:Int)) IntKind.i32.bits))))).toNat:Nat):Int))],[PV.int .u8 (IntKind.u8.wrap (((BitVec.ofInt IntKind.u8.bits (128:Int) ||| BitVec.ofInt IntKind.u8.bits (IntKind.u8.wrap (((BitVec.ofInt IntKind.u8.bits (IntKind.u8.wrap (Int.fdiv ((qba c b:Nat):Int) (2 ^ (min (Int.toNat (12:Int)) IntKind.i32.bits)))) &&& BitVec.ofInt IntKind.u8.bits (63:Int)).toNat:Nat):Int))).toNat:Nat):Int))],[PV.int .u8 (IntKind.u8.wrap (((BitVec.ofInt IntKind.u8.bits (128:Int) ||| BitVec.ofInt IntKind.u8.bits (IntKind.u8.wrap (((BitVec.ofInt IntKind.u8.bits (IntKind.u8.wrap (Int.fdiv ((qba c b:Nat):Int) (2 ^ (min (Int.toNat (6:Int)) IntKind.i32.bits)))) &&& BitVec.ofInt IntKind.u8.bits (63:Int)).toNat:Nat):Int))).toNat:Nat):Int))],[PV.int .u8 (IntKind.u8.wrap (((BitVec.ofInt IntKind.u8.bits (128:Int) ||| BitVec.ofInt IntKind.u8.bits (IntKind.u8.wrap (((BitVec.ofInt IntKind.u8.bits (IntKind.u8.wrap ((qba c b:Nat):Int)) &&& BitVec.ofInt IntKind.u8.bits (63:Int)).toNat:Nat):Int))).toNat:Nat):Int))]]:List (List PV))=qau [g,i,l,m]from by rw[qeu a9,qeu b0,qeu b1,qeu b2]; rfl];refine⟨Codec.one qdm [g,i,l,m],_,.inl rfl,?_⟩;conv=>whnf
        rw[show qau (a++[(92:UInt8)])++qau [g,i,l,m]=qau ((a++[(92:UInt8)])++[g,i,l,m])from Codec.append qdm (a++[(92:UInt8)]) [g,i,l,m]];conv=>whnf
        obtain⟨M,h⟩:=qai h;refine⟨⟨Codec.wide qdm ((a++[(92:UInt8)])++[g,i,l,m]),of_decide_eq_true M,qb5 M (by decide)⟩,?_⟩;conv=>whnf
        refine⟨⟨rfl,rfl,rfl⟩,?_⟩;conv=>whnf
        exact⟨(((a++[(92:UInt8)])++[g,i,l,m]),(bif(decide (b<c.length))then qd0 c b else b)),h,wk [0,1,4] []⟩
       ·conv=>whnf
        refine⟨Codec.one qdm [(239:UInt8),(191:UInt8),(189:UInt8)],qau [(239:UInt8),(191:UInt8),(189:UInt8)],.inl rfl,?_⟩;conv=>whnf
        rw[show qau (a++[(92:UInt8)])++qau [(239:UInt8),(191:UInt8),(189:UInt8)]=qau ((a++[(92:UInt8)])++[(239:UInt8),(191:UInt8),(189:UInt8)])from Codec.append qdm (a++[(92:UInt8)]) [(239:UInt8),(191:UInt8),(189:UInt8)]];conv=>whnf
        obtain⟨N,h⟩:=qai h;refine⟨⟨Codec.wide qdm ((a++[(92:UInt8)])++[(239:UInt8),(191:UInt8),(189:UInt8)]),of_decide_eq_true N,qb5 N (by decide)⟩,?_⟩;conv=>whnf
        refine⟨⟨rfl,rfl,rfl⟩,?_⟩;conv=>whnf
        exact⟨(((a++[(92:UInt8)])++[(239:UInt8),(191:UInt8),(189:UInt8)]),(bif(decide (b<c.length))then qd0 c b else b)),h,wk [0,1,4] []⟩
     ·conv=>whnf
      apply ifc h<;>intro d h
      ·conv=>whnf
       exact⟨(decide ((IntKind.u32.wrap ((qba c b:Nat):Int))<55296)),h,wk [0,1,2,3] []⟩
      ·conv=>whnf
       refine⟨id,id,?_⟩;conv=>whnf
       exact⟨(bif(decide ((57343:Int)<(IntKind.u32.wrap ((qba c b:Nat):Int))))then(decide ((IntKind.u32.wrap ((qba c b:Nat):Int))<=65535))else false),h,wk [0,1,2,3] []⟩
  ·conv=>whnf
   apply ifc h<;>intro d h
   ·conv=>whnf
    refine qdc.of_vc mixed (fun _ _=>Tryz.call31 _ _) Tryz.func31 (by kernel_rfl) (inl:=[31,35,36,55,94,97,99,146,168,1000000]) ?_;conv=>whnf
    refine qdc.of_vc mixed (fun _ _=>Tryz.call55 _ _) Tryz.func55 (by kernel_rfl) (inl:=[31,35,36,55,94,97,99,146,168,1000000]) ?_;conv=>whnf
    refine⟨fun hf=>absurd hf (by first|decide|simp),fun _=>?_⟩;conv=>whnf
    refine⟨fun hf=>absurd hf (by first|decide|simp),fun _=>?_⟩;conv=>whnf
    rw[show qau a++qau ([92,110]:SS)=qau (a++([92,110]:SS))from Codec.append qdm a ([92,110]:SS)];conv=>whnf
    obtain⟨P,h⟩:=qai h;refine⟨⟨Codec.wide qdm a,of_decide_eq_true P,qb5 P (by decide)⟩,?_⟩;conv=>whnf
    refine⟨⟨rfl,rfl,rfl⟩,?_⟩;conv=>whnf
    exact⟨((a++([92,110]:SS)),(bif(decide (b<c.length))then qd0 c b else b)),h,wk [0,1,3] []⟩
   ·conv=>whnf
    apply ifc h<;>intro d h
    ·conv=>whnf
     refine qdc.of_vc mixed (fun _ _=>Tryz.call31 _ _) Tryz.func31 (by kernel_rfl) (inl:=[31,35,36,55,94,97,99,146,168,1000000]) ?_;conv=>whnf
     refine qdc.of_vc mixed (fun _ _=>Tryz.call55 _ _) Tryz.func55 (by kernel_rfl) (inl:=[31,35,36,55,94,97,99,146,168,1000000]) ?_;conv=>whnf
     refine⟨fun hf=>absurd hf (by first|decide|simp),fun _=>?_⟩;conv=>whnf
     refine⟨fun hf=>absurd hf (by first|decide|simp),fun _=>?_⟩;conv=>whnf
     rw[show qau a++qau ([92,116]:SS)=qau (a++([92,116]:SS))from Codec.append qdm a ([92,116]:SS)];conv=>whnf
     obtain⟨Q,h⟩:=qai h;refine⟨⟨Codec.wide qdm a,of_decide_eq_true Q,qb5 Q (by decide)⟩,?_⟩;conv=>whnf
     refine⟨⟨rfl,rfl,rfl⟩,?_⟩;conv=>whnf
     exact⟨((a++([92,116]:SS)),(bif(decide (b<c.length))then qd0 c b else b)),h,wk [0,1,3] []⟩
    ·conv=>whnf
     apply ifc h<;>intro d h
     ·conv=>whnf
      refine qdc.of_vc mixed (fun _ _=>Tryz.call31 _ _) Tryz.func31 (by kernel_rfl) (inl:=[31,35,36,55,94,97,99,146,168,1000000]) ?_;conv=>whnf
      refine qdc.of_vc mixed (fun _ _=>Tryz.call55 _ _) Tryz.func55 (by kernel_rfl) (inl:=[31,35,36,55,94,97,99,146,168,1000000]) ?_;conv=>whnf
      refine⟨fun hf=>absurd hf (by first|decide|simp),fun _=>?_⟩;conv=>whnf
      refine⟨fun hf=>absurd hf (by first|decide|simp),fun _=>?_⟩;conv=>whnf
      rw[show qau a++qau ([92,114]:SS)=qau (a++([92,114]:SS))from Codec.append qdm a ([92,114]:SS)];conv=>whnf
      obtain⟨R,h⟩:=qai h;refine⟨⟨Codec.wide qdm a,of_decide_eq_true R,qb5 R (by decide)⟩,?_⟩;conv=>whnf
      refine⟨⟨rfl,rfl,rfl⟩,?_⟩;conv=>whnf
      exact⟨((a++([92,114]:SS)),(bif(decide (b<c.length))then qd0 c b else b)),h,wk [0,1,3] []⟩
     ·conv=>whnf
      iterate 6 refine⟨id,?_⟩
      conv=>whnf
      refine bq h fun J d0 h=>?_;refine⟨_,fun I=>qct (qad d0 I),?_⟩;conv=>whnf
      obtain⟨c9,h⟩:=qai h;refine⟨fun I=>⟨(of_decide_eq_true (gd c9 I):(J<=c.length)),Nat.le_refl _⟩,?_⟩;rw[show List.drop J (List.take c.length c)=(c.drop J)from by rw[List.take_length]];conv=>whnf
      refine⟨id,?_⟩;conv=>whnf
      refine bq h fun _ c8 h=>?_;refine⟨_,fun I=>(qyq n _ _ _ (qad c8 I)),?_⟩;conv=>whnf
      refine⟨id,id,id,id,?_⟩;conv=>whnf
      apply ifc h<;>intro d h
      ·conv=>whnf
       refine bq h fun _ b5 h=>?_;refine⟨_,qc8 b5,?_⟩;conv=>whnf
       refine qdc.of_vc mixed (fun _ _=>Tryz.call99 _ _) Tryz.func99 (by kernel_rfl) (inl:=[31,35,36,55,94,97,99,146,168,1000000]) ?_;conv=>whnf
       refine qdc.of_vc mixed (fun _ _=>Tryz.call31 _ _) Tryz.func31 (by kernel_rfl) (inl:=[31,35,36,55,94,97,99,146,168,1000000]) ?_;conv=>whnf
       refine qdc.of_vc mixed (fun _ _=>Tryz.call55 _ _) Tryz.func55 (by kernel_rfl) (inl:=[31,35,36,55,94,97,99,146,168,1000000]) ?_;conv=>whnf
       refine⟨fun hf=>absurd hf (by first|decide|simp),fun _=>?_⟩;conv=>whnf
       refine⟨fun hf=>absurd hf (by first|decide|simp),fun _=>?_⟩;conv=>whnf
       rw[show qau a++qau ([92,120]:SS)=qau (a++([92,120]:SS))from Codec.append qdm a ([92,120]:SS)];conv=>whnf
       obtain⟨X,h⟩:=qai h;refine⟨⟨Codec.wide qdm a,of_decide_eq_true X,qb5 X (by decide)⟩,?_⟩;conv=>whnf
       refine⟨⟨rfl,rfl,rfl⟩,?_⟩;conv=>whnf
       refine⟨by unfold gI; decide,?_⟩;conv=>whnf
       refine bq h fun e b4 h=>?_;refine⟨_,qc8 b4,?_⟩;conv=>whnf
       refine qdc.of_vc mixed (fun _ _=>Tryz.call35 _ _) Tryz.func35 (by kernel_rfl) (inl:=[31,35,36,55,94,97,99,146,168,1000000]) ?_;conv=>whnf
       refine qdc.of_vc mixed (fun _ _=>Tryz.call55 _ _) Tryz.func55 (by kernel_rfl) (inl:=[31,35,36,55,94,97,99,146,168,1000000]) ?_;conv=>whnf
       refine⟨fun hf=>absurd hf (by first|decide|simp),fun _=>?_⟩;conv=>whnf
       refine⟨fun hf=>absurd hf (by first|decide|simp),fun _=>?_⟩;conv=>whnf
       refine⟨Codec.one qdm [e],qau [e],.inl rfl,?_⟩;conv=>whnf
       rw[show qau (a++([92,120]:SS))++qau [e]=qau ((a++([92,120]:SS))++[e])from Codec.append qdm (a++([92,120]:SS)) [e]];conv=>whnf
       obtain⟨W,h⟩:=qai h;refine⟨⟨Codec.wide qdm ((a++([92,120]:SS))++[e]),of_decide_eq_true W,qb5 W (by decide)⟩,?_⟩;conv=>whnf
       refine⟨⟨rfl,rfl,rfl⟩,?_⟩;conv=>whnf
       refine bq h fun o b3 h=>?_;refine⟨_,qc8 b3,?_⟩;conv=>whnf
       refine qdc.of_vc mixed (fun _ _=>Tryz.call35 _ _) Tryz.func35 (by kernel_rfl) (inl:=[31,35,36,55,94,97,99,146,168,1000000]) ?_;conv=>whnf
       refine qdc.of_vc mixed (fun _ _=>Tryz.call55 _ _) Tryz.func55 (by kernel_rfl) (inl:=[31,35,36,55,94,97,99,146,168,1000000]) ?_;conv=>whnf
       refine⟨fun hf=>absurd hf (by first|decide|simp),fun _=>?_⟩;conv=>whnf
       refine⟨fun hf=>absurd hf (by first|decide|simp),fun _=>?_⟩;conv=>whnf
       refine⟨Codec.one qdm [o],qau [o],.inl rfl,?_⟩;conv=>whnf
       rw[show qau ((a++([92,120]:SS))++[e])++qau [o]=qau (((a++([92,120]:SS))++[e])++[o])from Codec.append qdm ((a++([92,120]:SS))++[e]) [o]];conv=>whnf
       obtain⟨V,h⟩:=qai h;refine⟨⟨Codec.wide qdm (((a++([92,120]:SS))++[e])++[o]),of_decide_eq_true V,qb5 V (by decide)⟩,?_⟩;conv=>whnf
       refine⟨⟨rfl,rfl,rfl⟩,?_⟩;conv=>whnf
       exact⟨((((a++([92,120]:SS))++[e])++[o]),(bif(decide (b<c.length))then qd0 c b else b)),h,wk [0,1,5] []⟩
      ·conv=>whnf
       refine qdc.of_vc mixed (fun _ _=>Tryz.call97 _ _) Tryz.func97 (by kernel_rfl) (inl:=[31,35,36,55,94,97,99,146,168,1000000]) ?_;conv=>whnf
       refine qdc.of_vc mixed (fun _ _=>Tryz.call55 _ _) Tryz.func55 (by kernel_rfl) (inl:=[31,35,36,55,94,97,99,146,168,1000000]) ?_;conv=>whnf
       refine⟨fun hf=>absurd hf (by first|decide|simp),fun _=>?_⟩;conv=>whnf
       refine⟨fun hf=>absurd hf (by first|decide|simp),fun _=>?_⟩;conv=>whnf
       refine qdc.of_vc mixed (fun _ _=>Tryz.call146 _ _) Tryz.func146 (by kernel_rfl) (inl:=[31,35,36,55,94,97,99,146,168,1000000]) ?_;conv=>whnf
       apply ifc h<;>intro d h
       ·conv=>whnf
        refine bq h fun q b6 h=>?_;rw[show([[PV.int .u8 (IntKind.u8.wrap ((qba c b:Nat):Int))]]:List (List PV))=qau [q]from by rw[qeu b6]; rfl];refine⟨Codec.one qdm [q],_,.inl rfl,?_⟩;conv=>whnf
        rw[show qau a++qau [q]=qau (a++[q])from Codec.append qdm a [q]];conv=>whnf
        obtain⟨Y,h⟩:=qai h;refine⟨⟨Codec.wide qdm (a++[q]),of_decide_eq_true Y,qb5 Y (by decide)⟩,?_⟩;conv=>whnf
        refine⟨⟨rfl,rfl,rfl⟩,?_⟩;conv=>whnf
        exact⟨((a++[q]),(bif(decide (b<c.length))then qd0 c b else b)),h,wk [0,1,3] []⟩
       ·conv=>whnf
        refine qdc.of_vc mixed (fun _ _=>Tryz.call168 _ _) Tryz.func168 (by kernel_rfl) (inl:=[31,35,36,55,94,97,99,146,168,1000000]) ?_;conv=>whnf
        apply ifc h<;>intro d h
        ·conv=>whnf
         refine⟨by unfold gI; decide,?_⟩;conv=>whnf
         refine bq h fun s b7 h=>?_;refine bq h fun t b8 h=>?_;rw[show([[PV.int .u8 (IntKind.u8.wrap (((BitVec.ofInt IntKind.u8.bits (192:Int) ||| BitVec.ofInt IntKind.u8.bits (IntKind.u8.wrap (Int.fdiv ((qba c b:Nat):Int) (2 ^ (min (Int.toNat (6:Int)) IntKind.i32.bits))))).toNat:Nat):Int))],[PV.int .u8 (IntKind.u8.wrap (((BitVec.ofInt IntKind.u8.bits (128:Int) ||| BitVec.ofInt IntKind.u8.bits (IntKind.u8.wrap (((BitVec.ofInt IntKind.u8.bits (IntKind.u8.wrap ((qba c b:Nat):Int)) &&& BitVec.ofInt IntKind.u8.bits (63:Int)).toNat:Nat):Int))).toNat:Nat):Int))]]:List (List PV))=qau [s,t]from by rw[qeu b7,qeu b8]; rfl];refine⟨Codec.one qdm [s,t],_,.inl rfl,?_⟩;conv=>whnf
         rw[show qau a++qau [s,t]=qau (a++[s,t])from Codec.append qdm a [s,t]];conv=>whnf
         obtain⟨Z,h⟩:=qai h;refine⟨⟨Codec.wide qdm (a++[s,t]),of_decide_eq_true Z,qb5 Z (by decide)⟩,?_⟩;conv=>whnf
         refine⟨⟨rfl,rfl,rfl⟩,?_⟩;conv=>whnf
         exact⟨((a++[s,t]),(bif(decide (b<c.length))then qd0 c b else b)),h,wk [0,1,3] []⟩
        ·conv=>whnf
         refine qhe.cut (S:=Bool) (fun K=>[(0,.tsl 2 (qau a)),(1,.p (.int .i32 ((qba c b:Nat):Int))),(5,.p (.int .u32 (IntKind.u32.wrap ((qba c b:Nat):Int)))),(25,pB K)]) (fun K=>[.box 88 [.ptr 0 0,.tsl 2 (qau a)],.sit c (bif(decide (b<c.length))then qd0 c b else b),.tail 5 1 (qau a).length]) (qii n c b a a7) (r:=r) ?_ ?_
         ·intro K h
          unfold qii at h;conv=>whnf
          apply ifc h<;>intro d h
          ·conv=>whnf
           refine⟨by unfold gI; decide,?_⟩;conv=>whnf
           refine⟨by unfold gI; decide,?_⟩;conv=>whnf
           refine bq h fun u c0 h=>?_;refine bq h fun v c1 h=>?_;refine bq h fun w c2 h=>?_;rw[show([[PV.int .u8 (IntKind.u8.wrap (((BitVec.ofInt IntKind.u8.bits (224:Int) ||| BitVec.ofInt IntKind.u8.bits (IntKind.u8.wrap (Int.fdiv ((qba c b:Nat):Int) (2 ^ (min (Int.toNat (12:Int)) IntKind.i32.bits))))).toNat:Nat):Int))],[PV.int .u8 (IntKind.u8.wrap (((BitVec.ofInt IntKind.u8.bits (128:Int) ||| BitVec.ofInt IntKind.u8.bits (IntKind.u8.wrap (((BitVec.ofInt IntKind.u8.bits (IntKind.u8.wrap (Int.fdiv ((qba c b:Nat):Int) (2 ^ (min (Int.toNat (6:Int)) IntKind.i32.bits)))) &&& BitVec.ofInt IntKind.u8.bits (63:Int)).toNat:Nat):Int))).toNat:Nat):Int))],[PV.int .u8 (IntKind.u8.wrap (((BitVec.ofInt IntKind.u8.bits (128:Int) ||| BitVec.ofInt IntKind.u8.bits (IntKind.u8.wrap (((BitVec.ofInt IntKind.u8.bits (IntKind.u8.wrap ((qba c b:Nat):Int)) &&& BitVec.ofInt IntKind.u8.bits (63:Int)).toNat:Nat):Int))).toNat:Nat):Int))]]:List (List PV))=qau [u,v,w]from by rw[qeu c0,qeu c1,qeu c2]; rfl];refine⟨Codec.one qdm [u,v,w],_,.inl rfl,?_⟩;conv=>whnf
           rw[show qau a++qau [u,v,w]=qau (a++[u,v,w])from Codec.append qdm a [u,v,w]];conv=>whnf
           obtain⟨a0,h⟩:=qai h;refine⟨⟨Codec.wide qdm (a++[u,v,w]),of_decide_eq_true a0,qb5 a0 (by decide)⟩,?_⟩;conv=>whnf
           refine⟨⟨rfl,rfl,rfl⟩,?_⟩;conv=>whnf
           exact⟨((a++[u,v,w]),(bif(decide (b<c.length))then qd0 c b else b)),h,wk [0,1,3] []⟩
          ·conv=>whnf
           refine⟨id,id,?_⟩;conv=>whnf
           apply ifc h<;>intro d h
           ·conv=>whnf
            refine⟨by unfold gI; decide,?_⟩;conv=>whnf
            refine⟨by unfold gI; decide,?_⟩;conv=>whnf
            refine⟨by unfold gI; decide,?_⟩;conv=>whnf
            refine bq h fun x c3 h=>?_;refine bq h fun y c4 h=>?_;refine bq h fun z c5 h=>?_;refine bq h fun A c6 h=>?_;rw[show([[PV.int .u8 (IntKind.u8.wrap (((BitVec.ofInt IntKind.u8.bits (240:Int) ||| BitVec.ofInt IntKind.u8.bits (IntKind.u8.wrap (Int.fdiv ((qba c b:Nat):Int) (2 ^ (min (Int.toNat (18:Int)) IntKind.i32.bits))))).toNat:Nat):Int))],[PV.int .u8 (IntKind.u8.wrap (((BitVec.ofInt IntKind.u8.bits (128:Int) ||| BitVec.ofInt IntKind.u8.bits (IntKind.u8.wrap (((BitVec.ofInt IntKind.u8.bits (IntKind.u8.wrap (Int.fdiv ((qba c b:Nat):Int) (2 ^ (min (Int.toNat (12:Int)) IntKind.i32.bits)))) &&& BitVec.ofInt IntKind.u8.bits (63:Int)).toNat:Nat):Int))).toNat:Nat):Int))],[PV.int .u8 (IntKind.u8.wrap (((BitVec.ofInt IntKind.u8.bits (128:Int) ||| BitVec.ofInt IntKind.u8.bits (IntKind.u8.wrap (((BitVec.ofInt IntKind.u8.bits (IntKind.u8.wrap (Int.fdiv ((qba c b:Nat):Int) (2 ^ (min (Int.toNat (6:Int)) IntKind.i32.bits)))) &&& BitVec.ofInt IntKind.u8.bits (63:Int)).toNat:Nat):Int))).toNat:Nat):Int))],[PV.int .u8 (IntKind.u8.wrap (((BitVec.ofInt IntKind.u8.bits (128:Int) ||| BitVec.ofInt IntKind.u8.bits (IntKind.u8.wrap (((BitVec.ofInt IntKind.u8.bits (IntKind.u8.wrap ((qba c b:Nat):Int)) &&& BitVec.ofInt IntKind.u8.bits (63:Int)).toNat:Nat):Int))).toNat:Nat):Int))]]:List (List PV))=qau [x,y,z,A]from by rw[qeu c3,qeu c4,qeu c5,qeu c6]; rfl];refine⟨Codec.one qdm [x,y,z,A],_,.inl rfl,?_⟩;conv=>whnf
            rw[show qau a++qau [x,y,z,A]=qau (a++[x,y,z,A])from Codec.append qdm a [x,y,z,A]];conv=>whnf
            obtain⟨a1,h⟩:=qai h;refine⟨⟨Codec.wide qdm (a++[x,y,z,A]),of_decide_eq_true a1,qb5 a1 (by decide)⟩,?_⟩;conv=>whnf
            refine⟨⟨rfl,rfl,rfl⟩,?_⟩;conv=>whnf
            exact⟨((a++[x,y,z,A]),(bif(decide (b<c.length))then qd0 c b else b)),h,wk [0,1,3] []⟩
           ·conv=>whnf
            refine⟨Codec.one qdm [(239:UInt8),(191:UInt8),(189:UInt8)],qau [(239:UInt8),(191:UInt8),(189:UInt8)],.inl rfl,?_⟩;conv=>whnf
            rw[show qau a++qau [(239:UInt8),(191:UInt8),(189:UInt8)]=qau (a++[(239:UInt8),(191:UInt8),(189:UInt8)])from Codec.append qdm a [(239:UInt8),(191:UInt8),(189:UInt8)]];conv=>whnf
            obtain⟨a2,h⟩:=qai h;refine⟨⟨Codec.wide qdm (a++[(239:UInt8),(191:UInt8),(189:UInt8)]),of_decide_eq_true a2,qb5 a2 (by decide)⟩,?_⟩;conv=>whnf
            refine⟨⟨rfl,rfl,rfl⟩,?_⟩;conv=>whnf
            exact⟨((a++[(239:UInt8),(191:UInt8),(189:UInt8)]),(bif(decide (b<c.length))then qd0 c b else b)),h,wk [0,1,3] []⟩
         ·conv=>whnf
          apply ifc h<;>intro d h
          ·conv=>whnf
           exact⟨(decide ((IntKind.u32.wrap ((qba c b:Nat):Int))<55296)),h,wk [0,1,2] []⟩
          ·conv=>whnf
           refine⟨id,id,?_⟩;conv=>whnf
           exact⟨(bif(decide ((57343:Int)<(IntKind.u32.wrap ((qba c b:Nat):Int))))then(decide ((IntKind.u32.wrap ((qba c b:Nat):Int))<=65535))else false),h,wk [0,1,2] []⟩
 ·conv=>whnf
  refine qdc.of_vc mixed (fun _ _=>Tryz.call35 _ _) Tryz.func35 (by kernel_rfl) (inl:=[31,35,36,55,94,97,99,146,168,1000000]) ?_;conv=>whnf
  refine qdc.of_vc mixed (fun _ _=>Tryz.call55 _ _) Tryz.func55 (by kernel_rfl) (inl:=[31,35,36,55,94,97,99,146,168,1000000]) ?_;conv=>whnf
  refine⟨fun hf=>absurd hf (by first|decide|simp),fun _=>?_⟩;conv=>whnf
  refine⟨fun hf=>absurd hf (by first|decide|simp),fun _=>?_⟩;conv=>whnf
  refine⟨Codec.one qdm [(39:UInt8)],qau [(39:UInt8)],.inl rfl,?_⟩;conv=>whnf
  rw[show qau a++qau [(39:UInt8)]=qau (a++[(39:UInt8)])from Codec.append qdm a [(39:UInt8)]];conv=>whnf
  obtain⟨a3,h⟩:=qai h;refine⟨⟨Codec.wide qdm (a++[(39:UInt8)]),of_decide_eq_true a3,qb5 a3 (by decide)⟩,?_⟩;conv=>whnf
  refine⟨⟨rfl,rfl,rfl⟩,?_⟩;conv=>whnf
  refine qdc.string_any (T:=88) (E:=5) zk6 q13 q12 (k:=0) (j:=3) (bs:=(a++[(39:UInt8)])) (n:=(qau (a++[(39:UInt8)])).length) rfl rfl ?_;obtain rfl:=sj h;conv=>whnf
  try exact fin
abbrev ze6 (r:SS):PV:=PV.str r
def qrr (n:Nat) (a:SS):Option SS:=
 bnd (qe4 n a) fun b=>
 bif b then(
 some a)
 else(
 bnd (qsj n a) fun c=>
 some c)
theorem q1x (n:Nat):∀ (a r:SS),qrr n a=some r->qac Tryz.prog 34 [PV.str a] (ze6 r):=by
 intro a r h;unfold qrr at h;refine qac.of_vcN mixed (fun _ _=>Tryz.call34 _ _) Tryz.func34 (by kernel_rfl) (inl:=[1000000]) ?_;conv=>whnf
 refine bq h fun _ c h=>?_;refine⟨_,(qf4 n _ _ c),?_⟩;conv=>whnf
 apply ifc h<;>intro _ h
 ·obtain rfl:=sj h
  conv=>whnf
  try exact fin
 ·conv=>whnf
  refine bq h fun _ b h=>?_;refine⟨_,(q89 n _ _ b),?_⟩;obtain rfl:=sj h;conv=>whnf
  try exact fin
abbrev ze3 (r:SS):PV:=PV.str r
def qj3 (n:Nat) (g:List qda) (i:Int×SS->Option SS) (p:Int):(Int×SS->Option SS)->Int×SS->Option SS:=fun j (e,d)=>
 bif(decide (e<((qda.rows g).length:Int)))then(
 bnd (idx g e) fun⟨k,l,m,o⟩=>
 bnd (qp9 n k) fun a=>
 chk (decide (((([59,32,115,101,101,107,32]:SS).length+a.length:Nat):Int)<=qhk)) (
 chk (decide ((((([59,32,115,101,101,107,32]:SS)++a).length+([32]:SS).length:Nat):Int)<=qhk)) (
 bnd (qp9 n l) fun b=>
 chk (decide (((((([59,32,115,101,101,107,32]:SS)++a)++([32]:SS)).length+b.length:Nat):Int)<=qhk)) (
 chk (decide ((((((([59,32,115,101,101,107,32]:SS)++a)++([32]:SS))++b).length+([32]:SS).length:Nat):Int)<=qhk)) (
 bnd (qrr n m) fun c=>
 chk (decide (((((((([59,32,115,101,101,107,32]:SS)++a)++([32]:SS))++b)++([32]:SS)).length+c.length:Nat):Int)<=qhk)) (
 chk (decide ((((((((([59,32,115,101,101,107,32]:SS)++a)++([32]:SS))++b)++([32]:SS))++c).length+([46]:SS).length:Nat):Int)<=qhk)) (
 bnd (qrr n o) fun f=>
 chk (decide (((((((((([59,32,115,101,101,107,32]:SS)++a)++([32]:SS))++b)++([32]:SS))++c)++([46]:SS)).length+f.length:Nat):Int)<=qhk)) (
 chk (decide ((qau (d++(((((((([59,32,115,101,101,107,32]:SS)++a)++([32]:SS))++b)++([32]:SS))++c)++([46]:SS))++f))).length * 1<=140737488355328)) (
 j ((IntKind.i64.wrap (e+1)),(d++(((((((([59,32,115,101,101,107,32]:SS)++a)++([32]:SS))++b)++([32]:SS))++c)++([46]:SS))++f))))))))))))
 else(
 chk (decide ((qau (d++[(10:UInt8)])).length * 1<=140737488355328)) (
 i ((IntKind.i64.wrap (p+1)),(d++[(10:UInt8)]))))
def qo2 (n:Nat) (d:List qda) (a:Int×SS->Option SS) (c:Int):SS->Option SS:=fun b=>
 qam (qj3 n d a c) n ((0:Int),b)
def qma (n:Nat) (g:List qao):(Int×SS->Option SS)->Int×SS->Option SS:=fun f (d,b)=>
 bif(decide (d<((qao.rows g).length:Int)))then(
 bnd (idx g d) fun⟨l,i,j,k⟩=>
 bnd (qun n l) fun a=>
 chk (decide (((a.length+([32]:SS).length:Nat):Int)<=qhk)) (
 bnd (qp9 n i) fun c=>
 chk (decide ((((a++([32]:SS)).length+c.length:Nat):Int)<=qhk)) (
 chk (decide ((qau (b++((a++([32]:SS))++c))).length * 1<=140737488355328)) (
 bif(j != i)then(
 bnd (qp9 n j) fun e=>
 chk (decide (((([32,116,111,32]:SS).length+e.length:Nat):Int)<=qhk)) (
 chk (decide ((qau ((b++((a++([32]:SS))++c))++(([32,116,111,32]:SS)++e))).length * 1<=140737488355328)) (
 qo2 n k f d ((b++((a++([32]:SS))++c))++(([32,116,111,32]:SS)++e)))))
 else(
 qo2 n k f d (b++((a++([32]:SS))++c)))))))
 else(
 some b)
def qpw (n:Nat) (a:List qao):Option SS:=
 qam (qma n a) n ((0:Int),([]:List _))
set_option maxHeartbeats 4000000 in
theorem qv1 (n:Nat):∀ (g:List qao) (r:SS),qpw n g=some r->qac Tryz.prog 13 [PV.sl (qao.rows g)] (ze3 r):=by
 intro g r h;unfold qpw at h;refine qac.of_vcN mixed (fun _ _=>Tryz.call13 _ _) Tryz.func13 (by kernel_rfl) (inl:=[31,35,36,55,94,1000000]) ?_;conv=>whnf
 refine qbi.fn [31,35,36,55,94,1000000] (S:=Int×SS) (fun(l,a)=>[(3,.ptr 0 0),(8,pY g),(9,.p (.int .i64 ((qao.rows g).length:Int))),(10,pI l)]) (fun(l,a)=>[.box 88 [.bself 0,.tsl 1 (qau a)],.tail 5 1 (qau a).length]) (B:=qma n g) h (wk [0,0] [1]) ?_;intro z st h;obtain⟨l,a⟩:=st;unfold qma at h;conv=>whnf
 apply ifc h<;>intro y h
 ·conv=>whnf
  refine bq h fun s0 Q h=>?_;obtain⟨A,C,D,o⟩:=s0;refine⟨_,Codec.at_ qbf Q,?_⟩;conv=>whnf
  refine bq h fun b P h=>?_;refine⟨_,(zbp n _ _ P),?_⟩;conv=>whnf
  obtain⟨O,h⟩:=qai h;refine⟨(of_decide_eq_true O:((b.length+([32]:SS).length:Nat):Int)<=qhk),?_⟩;conv=>whnf
  refine bq h fun d N h=>?_;refine⟨_,(qtj n _ _ N),?_⟩;conv=>whnf
  obtain⟨M,h⟩:=qai h;refine⟨(of_decide_eq_true M:(((b++([32]:SS)).length+d.length:Nat):Int)<=qhk),?_⟩;conv=>whnf
  obtain⟨s,h⟩:=qai h;refine⟨.p (.tup [.int .i64 ((((b++([32]:SS))++d).length:Nat):Int),.nili]),[.box 88 [.ptr 0 0,.tsl 3 (qau (a++((b++([32]:SS))++d)))],.dead,.box 37 [pI A,pI C,pI D,pX o],.tail 5 1 (qau (a++((b++([32]:SS))++d))).length],?_,?_⟩
  ·conv=>whnf
   refine qdc.of_vc mixed (fun _ _=>Tryz.call31 _ _) Tryz.func31 (by kernel_rfl) (inl:=[31,35,36,55,94,1000000]) ?_;conv=>whnf
   refine qdc.of_vc mixed (fun _ _=>Tryz.call55 _ _) Tryz.func55 (by kernel_rfl) (inl:=[31,35,36,55,94,1000000]) ?_;conv=>whnf
   refine⟨?_,?_⟩
   ·conv=>whnf
    refine⟨fun _=>?_,fun hf=>absurd hf (by first|decide|simp)⟩;conv=>whnf
    refine⟨⟨by decide,by first|decide|exact Nat.zero_lt_succ _⟩,?_⟩;conv=>whnf
    refine qdc.noEscape Tryz.func94 (by kernel_rfl) (by kernel_rfl) (by kernel_rfl) (by kernel_rfl) ?_;conv=>whnf
    refine⟨by kernel_rfl,?_⟩;conv=>whnf
    rw[show qau a++qau ((b++([32]:SS))++d)=qau (a++((b++([32]:SS))++d))from Codec.append qdm a ((b++([32]:SS))++d)];conv=>whnf
    refine⟨⟨Codec.wide qdm a,of_decide_eq_true s,qb5 s (by decide)⟩,?_⟩;conv=>whnf
    refine⟨⟨rfl,rfl,rfl⟩,?_⟩;exact⟨rfl,rfl⟩
   ·conv=>whnf
    refine⟨fun hf=>absurd hf (by first|decide|simp),fun _=>?_⟩;conv=>whnf
    refine⟨fun hf=>absurd hf (by first|decide|simp),fun _=>?_⟩;conv=>whnf
    rw[show qau a++qau ((b++([32]:SS))++d)=qau (a++((b++([32]:SS))++d))from Codec.append qdm a ((b++([32]:SS))++d)];conv=>whnf
    refine⟨⟨Codec.wide qdm a,of_decide_eq_true s,qb5 s (by decide)⟩,?_⟩;conv=>whnf
    refine⟨⟨rfl,rfl,rfl⟩,?_⟩;exact⟨rfl,rfl⟩
  conv=>whnf
  refine qhe.cut (S:=SS) (fun t=>[(3,.ptr 0 0),(5,.ptr 1 0),(8,pY g),(9,.p (.int .i64 ((qao.rows g).length:Int))),(10,pI l)]) (fun t=>[.box 88 [.ptr 0 0,.tsl 2 (qau t)],.box 37 [pI A,pI C,pI D,pX o],.tail 5 1 (qau t).length]) (qo2 n o z l) (r:=r) ?_ ?_
  ·intro t h
   unfold qo2 at h;conv=>whnf
   refine qbi.fn [31,35,36,55,94,1000000] (S:=Int×SS) (fun(u,c)=>[(3,.ptr 0 0),(8,pY g),(9,.p (.int .i64 ((qao.rows g).length:Int))),(10,pI l),(34,pX o),(35,.p (.int .i64 ((qda.rows o).length:Int))),(36,pI u)]) (fun(u,c)=>[.box 88 [.ptr 0 0,.tsl 1 (qau c)],.tail 5 1 (qau c).length]) (B:=qj3 n o z l) h (wk [0,2] []) ?_;intro _ st h;obtain⟨u,c⟩:=st;unfold qj3 at h;conv=>whnf
   apply ifc h<;>intro y h
   ·conv=>whnf
    refine bq h fun s0 J h=>?_;obtain⟨a0,a1,a2,a3⟩:=s0;refine⟨_,Codec.at_ qyx J,?_⟩;conv=>whnf
    refine bq h fun e I h=>?_;refine⟨_,(qtj n _ _ I),?_⟩;conv=>whnf
    obtain⟨H,h⟩:=qai h;refine⟨(of_decide_eq_true H:((([59,32,115,101,101,107,32]:SS).length+e.length:Nat):Int)<=qhk),?_⟩;conv=>whnf
    obtain⟨G,h⟩:=qai h;refine⟨(of_decide_eq_true G:(((([59,32,115,101,101,107,32]:SS)++e).length+([32]:SS).length:Nat):Int)<=qhk),?_⟩;conv=>whnf
    refine bq h fun f F h=>?_;refine⟨_,(qtj n _ _ F),?_⟩;conv=>whnf
    obtain⟨Z,h⟩:=qai h;refine⟨(of_decide_eq_true Z:((((([59,32,115,101,101,107,32]:SS)++e)++([32]:SS)).length+f.length:Nat):Int)<=qhk),?_⟩;conv=>whnf
    obtain⟨Y,h⟩:=qai h;refine⟨(of_decide_eq_true Y:(((((([59,32,115,101,101,107,32]:SS)++e)++([32]:SS))++f).length+([32]:SS).length:Nat):Int)<=qhk),?_⟩;conv=>whnf
    refine bq h fun i X h=>?_;refine⟨_,(q1x n _ _ X),?_⟩;conv=>whnf
    obtain⟨W,h⟩:=qai h;refine⟨(of_decide_eq_true W:((((((([59,32,115,101,101,107,32]:SS)++e)++([32]:SS))++f)++([32]:SS)).length+i.length:Nat):Int)<=qhk),?_⟩;conv=>whnf
    obtain⟨V,h⟩:=qai h;refine⟨(of_decide_eq_true V:(((((((([59,32,115,101,101,107,32]:SS)++e)++([32]:SS))++f)++([32]:SS))++i).length+([46]:SS).length:Nat):Int)<=qhk),?_⟩;conv=>whnf
    refine bq h fun m U h=>?_;refine⟨_,(q1x n _ _ U),?_⟩;conv=>whnf
    obtain⟨R,h⟩:=qai h;refine⟨(of_decide_eq_true R:((((((((([59,32,115,101,101,107,32]:SS)++e)++([32]:SS))++f)++([32]:SS))++i)++([46]:SS)).length+m.length:Nat):Int)<=qhk),?_⟩;conv=>whnf
    obtain⟨x,h⟩:=qai h;refine⟨.p (.tup [.int .i64 (((((((((([59,32,115,101,101,107,32]:SS)++e)++([32]:SS))++f)++([32]:SS))++i)++([46]:SS))++m).length:Nat):Int),.nili]),[.box 88 [.ptr 0 0,.tsl 3 (qau (c++(((((((([59,32,115,101,101,107,32]:SS)++e)++([32]:SS))++f)++([32]:SS))++i)++([46]:SS))++m)))],.dead,.box 53 [pI a0,pI a1,pS a2,pS a3],.tail 5 1 (qau (c++(((((((([59,32,115,101,101,107,32]:SS)++e)++([32]:SS))++f)++([32]:SS))++i)++([46]:SS))++m))).length],?_,?_⟩
    ·conv=>whnf
     refine qdc.of_vc mixed (fun _ _=>Tryz.call31 _ _) Tryz.func31 (by kernel_rfl) (inl:=[31,35,36,55,94,1000000]) ?_;conv=>whnf
     refine qdc.of_vc mixed (fun _ _=>Tryz.call55 _ _) Tryz.func55 (by kernel_rfl) (inl:=[31,35,36,55,94,1000000]) ?_;conv=>whnf
     refine⟨fun hf=>absurd hf (by first|decide|simp),fun _=>?_⟩;conv=>whnf
     refine⟨fun hf=>absurd hf (by first|decide|simp),fun _=>?_⟩;conv=>whnf
     rw[show qau c++qau (((((((([59,32,115,101,101,107,32]:SS)++e)++([32]:SS))++f)++([32]:SS))++i)++([46]:SS))++m)=qau (c++(((((((([59,32,115,101,101,107,32]:SS)++e)++([32]:SS))++f)++([32]:SS))++i)++([46]:SS))++m))from Codec.append qdm c (((((((([59,32,115,101,101,107,32]:SS)++e)++([32]:SS))++f)++([32]:SS))++i)++([46]:SS))++m)];conv=>whnf
     refine⟨⟨Codec.wide qdm c,of_decide_eq_true x,qb5 x (by decide)⟩,?_⟩;conv=>whnf
     refine⟨⟨rfl,rfl,rfl⟩,?_⟩;exact⟨rfl,rfl⟩
    conv=>whnf
    exact⟨((IntKind.i64.wrap (u+1)),(c++(((((((([59,32,115,101,101,107,32]:SS)++e)++([32]:SS))++f)++([32]:SS))++i)++([46]:SS))++m))),h,wk [0,3] []⟩
   ·conv=>whnf
    refine qdc.of_vc mixed (fun _ _=>Tryz.call35 _ _) Tryz.func35 (by kernel_rfl) (inl:=[31,35,36,55,94,1000000]) ?_;conv=>whnf
    refine qdc.of_vc mixed (fun _ _=>Tryz.call55 _ _) Tryz.func55 (by kernel_rfl) (inl:=[31,35,36,55,94,1000000]) ?_;conv=>whnf
    refine⟨fun hf=>absurd hf (by first|decide|simp),fun _=>?_⟩;conv=>whnf
    refine⟨fun hf=>absurd hf (by first|decide|simp),fun _=>?_⟩;conv=>whnf
    refine⟨Codec.one qdm [(10:UInt8)],qau [(10:UInt8)],.inl rfl,?_⟩;conv=>whnf
    rw[show qau c++qau [(10:UInt8)]=qau (c++[(10:UInt8)])from Codec.append qdm c [(10:UInt8)]];conv=>whnf
    obtain⟨v,h⟩:=qai h;refine⟨⟨Codec.wide qdm (c++[(10:UInt8)]),of_decide_eq_true v,qb5 v (by decide)⟩,?_⟩;conv=>whnf
    refine⟨⟨rfl,rfl,rfl⟩,?_⟩;conv=>whnf
    exact⟨((IntKind.i64.wrap (l+1)),(c++[(10:UInt8)])),h,wk [0,2] []⟩
  ·conv=>whnf
   apply ifc h<;>intro y h
   ·conv=>whnf
    refine bq h fun q L h=>?_;refine⟨_,(qtj n _ _ L),?_⟩;conv=>whnf
    obtain⟨K,h⟩:=qai h;refine⟨(of_decide_eq_true K:((([32,116,111,32]:SS).length+q.length:Nat):Int)<=qhk),?_⟩;conv=>whnf
    refine qdc.of_vc mixed (fun _ _=>Tryz.call31 _ _) Tryz.func31 (by kernel_rfl) (inl:=[31,35,36,55,94,1000000]) ?_;conv=>whnf
    refine qdc.of_vc mixed (fun _ _=>Tryz.call55 _ _) Tryz.func55 (by kernel_rfl) (inl:=[31,35,36,55,94,1000000]) ?_;conv=>whnf
    refine⟨fun hf=>absurd hf (by first|decide|simp),fun _=>?_⟩;conv=>whnf
    refine⟨fun hf=>absurd hf (by first|decide|simp),fun _=>?_⟩;conv=>whnf
    rw[show qau (a++((b++([32]:SS))++d))++qau (([32,116,111,32]:SS)++q)=qau ((a++((b++([32]:SS))++d))++(([32,116,111,32]:SS)++q))from Codec.append qdm (a++((b++([32]:SS))++d)) (([32,116,111,32]:SS)++q)];conv=>whnf
    obtain⟨w,h⟩:=qai h;refine⟨⟨Codec.wide qdm (a++((b++([32]:SS))++d)),of_decide_eq_true w,qb5 w (by decide)⟩,?_⟩;conv=>whnf
    refine⟨⟨rfl,rfl,rfl⟩,?_⟩;conv=>whnf
    exact⟨((a++((b++([32]:SS))++d))++(([32,116,111,32]:SS)++q)),h,wk [0,2,4] []⟩
   ·conv=>whnf
    exact⟨(a++((b++([32]:SS))++d)),h,wk [0,2,3] []⟩
 ·conv=>whnf
  refine qdc.string_any (T:=88) (E:=5) zk6 q13 q12 (k:=0) (j:=1) (bs:=a) (n:=(qau a).length) rfl rfl ?_;obtain rfl:=sj h;conv=>whnf
  try exact fin
abbrev zef (r:Bool):PV:=PV.bool r
def qet (n:Nat):Option (Bool):=
 bnd (q2a n ([77,65,84,67,72,32,40,110,58,65,32,123,107,58,32,49,125,41,32,87,73,84,72,32,110,46,107,32,65,83,32,107,32,87,72,69,82,69,32,107,32,62,32,48,32,82,69,84,85,82,78,32,99,111,117,110,116,40,42,41,32,65,83,32,99]:SS)) fun⟨⟨b⟩,_,_⟩=>
 bnd (qj1 n (qhl.mk b)) fun⟨c,a⟩=>
 bnd (qaw (a==0) (qpw n c)) fun d=>
 some (bif(a==0)then(d==([102,108,111,119,32,48,32,116,111,32,49,59,32,115,101,101,107,32,48,32,48,32,65,46,107,10,119,104,111,108,101,32,50,10]:SS))else false)
theorem qel (n:Nat):∀ (r:Bool),qet n=some r->qac Tryz.prog 9 [] (zef r):=by
 intro r h;unfold qet at h;refine qac.of_vcN mixed (fun _ _=>Tryz.call9 _ _) Tryz.func9 (by kernel_rfl) (inl:=[1000000]) ?_;conv=>whnf
 refine bq h fun s0 c h=>?_;obtain⟨⟨_⟩,_,_⟩:=s0;refine⟨_,(zbe n _ _ c),?_⟩;conv=>whnf
 refine bq h fun s0 b h=>?_;obtain⟨_,_⟩:=s0;refine⟨_,(ql9 n _ _ b),?_⟩;conv=>whnf
 refine⟨id,?_⟩;conv=>whnf
 refine bq h fun _ a h=>?_;refine⟨_,fun d=>(qv1 n _ _ (qad a d)),?_⟩;conv=>whnf
 refine⟨id,id,?_⟩;obtain rfl:=sj h;conv=>whnf
 try exact fin
end W
end
