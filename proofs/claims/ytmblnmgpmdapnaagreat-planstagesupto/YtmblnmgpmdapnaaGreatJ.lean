/- A part of the proof: contracts, printed by program. -/
import Derived.Test.YtmblnmgpmdapnaaGreatB
import Derived.Test.YtmblnmgpmdapnaaGreatH
import Derived.Test.YtmblnmgpmdapnaaGreatI
set_option linter.unusedVariables false
set_option linter.unusedSimpArgs false
set_option linter.unnecessarySimpa false
set_option linter.deprecated false
set_option linter.unusedSectionVars false
set_option linter.constructorNameAsVariable false
open Go.IntKind renaming wrap->kwr,bits->kbt
open Nat renaming le_of_ble_eq_true->jh,le_refl->jx
open BitVec renaming ofInt->js
section
set_option maxRecDepth 100000
open Go Go.Proofs Ax
namespace W
abbrev ze1 (r:List qao×Int):PV:=PV.tup [PV.sl (qao.rows r.1),PV.int .i64 r.2]
def qj1 (n:Nat) (H:Int) (I:List qa9) (J:List qaa) (g:Int) (i:SS) (j:Int) (k:Bool) (l:Int) (m:SS) (o:List Val) (p q:List SS) (s:List qaa) (t:SS) (u:List qbn) (v:Bool) (w:List qat) (x y:List qaa) (z:List qaf) (A:List SS) (B:Bool) (e:Int) (C:List SS) (f:List qdj×List qao×Int->Option (List qao×Int)):List qao×List qdj->Option (List qao×Int):=fun(a,D)=>
 bnd (qwb (kwr .i64 (((((qao.rows a).length):Nat):Int) - 1))) fun b=>
 chk (decide (b<(qao.rows a).length)) (
 bnd (a[b]?) fun⟨_,_,_,c⟩=>
 chk (decide (b+1=(qao.rows a).length)) (
 chk (decide ((qdj.rows D).length=(qdj.rows c).length)) (
 bnd (qm7 n (qab.mk H I J (qaa.mk g i (Val.mk j k l m o p) q s) t u v w x y z A B) e C) fun d=>
 chk (decide ((qdj.rows (c++d)).length * 48<=140737488355328)) (
 chk (decide (b+1=(qao.rows a).length)) (
 bnd (a[b]?) fun⟨E,F,G,_⟩=>
 f ((c++d),(a.set b (qao.mk E F G (c++d))),(kwr .i64 (e+1))))))))
def qhv (n:Nat) (d:List qab):LK (List qdj×List qao×Int) (List qao×Int):=fun E (I,a,b)=>
 bif(decide (b<((qab.rows d).length:Int)))then(
 bnd (idx d b) fun⟨B,C,D,⟨e,f,⟨g,i,j,k,l,m⟩,o,p⟩,q,s,t,u,v,w,x,y,z⟩=>
 bnd (qi8 n (qip.mk d) b) fun⟨F,_,G⟩=>
 bif(G != 0)then(
 some (([]:List qao),G))
 else(
 bnd (qsg n (qab.mk B C D (qaa.mk e f (Val.mk g i j k l m) o p) q s t u v w x y z)) fun c=>
 bnd (qaw (bif(c==0)then(decide (((((qao.rows a).length):Nat):Int)>0))else false) (qwb (kwr .i64 (((((qao.rows a).length):Nat):Int) - 1)))) fun H=>
 chk (bif(bif(c==0)then(decide (((((qao.rows a).length):Nat):Int)>0))else false)then decide (H<(qao.rows a).length)else true) (
 bnd (qaw (bif(c==0)then(decide (((((qao.rows a).length):Nat):Int)>0))else false) (a[H]?)) fun⟨J,_,_,_⟩=>
 bif(bif(bif(c==0)then(decide (((((qao.rows a).length):Nat):Int)>0))else false)then(J==1)else false)then(
 bnd (qwb (kwr .i64 (((((qao.rows a).length):Nat):Int) - 1))) fun A=>
 chk (decide (A<(qao.rows a).length)) (
 bnd (a[A]?) fun⟨K,L,_,M⟩=>
 qj1 n B C D e f g i j k l m o p q s t u v w x y z b F E ((a.set A (qao.mk K L b M)),I)))
 else(
 chk (decide ((qao.rows (a++[qao.mk (kwr .i64 ((1:Int)+c)) b b ([]:List qdj)])).length * 48<=140737488355328)) (
 qj1 n B C D e f g i j k l m o p q s t u v w x y z b F E ((a++[qao.mk (kwr .i64 ((1:Int)+c)) b b ([]:List qdj)]),([]:List qdj)))))))
 else(
 some (a,(0:Int)))
def qj0 (n:Nat) (c:qip):Option (List qao×Int):=
 match c with
 | ⟨a⟩=>
 bnd (qqy n (qip.mk a)) fun⟨_,b⟩=>
 bif(b != 0)then(
 some (([]:List qao),b))
 else(
 qam (qhv n a) n (([]:List _),([]:List _),(0:Int)))
set_option maxHeartbeats 4000000 in
theorem ql9 (n:Nat):∀ (g:qip) (r:List qao×Int),qj0 n g=some r->qai TP 10 [PV.agg (qy0.cells g)] (ze1 r):=by
 intro g r h;obtain⟨c⟩:=g;unfold qj0 at h;refine zN Tryz.call10 Tryz.func10 [40000017,70000083,1000000] ?_;conv=>whnf
 refine bq h fun s0 b1 h=>?_;obtain⟨_,_⟩:=s0;refine⟨_,(q6z n _ _ b1),?_⟩;conv=>whnf
 apply ifc h<;>intro k h
 ·obtain rfl:=sj h
  conv=>whnf
  try exact fin
 conv=>whnf
 refine qbh.fn [40000017,70000083,1000000] (S:=List qdj×List qao×Int) (fun(j,b,a)=>[(1,.ptr 0 0),(6,.vsl 2 ((qao.rows b).length)),(24,pC c),(25,.p (.int .i64 ((qab.rows c).length:Int))),(26,pI a)]) (fun(j,b,a)=>[.box 24 [pC c],.tail 53 4 (qdj.rows j).length,.vl 37 4 (qao.rows b) 3 1]) (B:=qhv n c) h ⟨[0,0,0],[1,2],⟨rfl,rfl,rfl,rfl⟩,by repeat (first|exact trivial|exact .inl rfl|exact rfl|exact List.not_mem_nil|(refine .inr ?_)|(refine⟨?_,?_⟩)|exact List.length_set.symm|exact Codec.lenSet qbe _ _ _|exact(Codec.lenSet qbe _ _ _).trans (Codec.lenSet qbe _ _ _)|decide),by repeat (first|exact trivial|exact .inl rfl|exact rfl|exact List.not_mem_nil|(refine .inr ?_)|(refine⟨?_,?_⟩)|exact List.length_set.symm|exact Codec.lenSet qbe _ _ _|exact(Codec.lenSet qbe _ _ _).trans (Codec.lenSet qbe _ _ _)|decide)⟩ ?_;intro b8 st h;obtain⟨j,b,a⟩:=st;unfold qhv at h;conv=>whnf
 apply ifc h<;>intro k h
 ·conv=>whnf
  refine bq h fun s0 a9 h=>?_;obtain⟨X,Y,Z,⟨v,w,⟨x,y,z,A,C,D⟩,E,F⟩,G,H,I,J,K,L,M,N,O⟩:=s0;refine⟨_,Codec.at_ qcz a9,?_⟩;conv=>whnf
  refine bq h fun s0 a8 h=>?_;obtain⟨P,_,_⟩:=s0;refine⟨_,(qyg n _ _ _ a8),?_⟩;conv=>whnf
  apply ifc h<;>intro k h
  ·obtain rfl:=sj h
   conv=>whnf
   try exact fin
  conv=>whnf
  refine bq h fun m a7 h=>?_;refine⟨_,(q8y n _ _ a7),?_⟩;conv=>whnf
  refine qhd.cut (S:=List qao×List qdj) (fun(f,o)=>[(1,.ptr 0 0),(6,.vsl 1 ((qao.rows f).length)),(7,pI a),(8,.ptr 2 0),(9,pT P),(24,pC c),(25,.p (.int .i64 ((qab.rows c).length:Int))),(26,pI a)]) (fun(f,o)=>[.box 24 [pC c],.vl 37 4 (qao.rows f) 3 3,.box 51 [pI X,pP Y,pE Z,pI v,pS w,pI x,pB y,pI z,pS A,pV C,pT D,pT E,pE F,pS G,pA H,pB I,pO J,pE K,pE L,pU M,pT N,pB O],.tail 53 4 (qdj.rows o).length]) (qj1 n X Y Z v w x y z A C D E F G H I J K L M N O a P b8) (r:=r) ?_ ?_
  ·intro st h
   obtain⟨f,o⟩:=st;unfold qj1 at h;conv=>whnf
   refine bq h fun q b7 h=>?_;have l:=qct b7;conv=>whnf
   obtain⟨b6,h⟩:=qah h;refine⟨q,⟨l,kod b6⟩,?_⟩;conv=>whnf
   refine bq h fun s0 b5 h=>?_;obtain⟨_,_,_,d⟩:=s0;refine⟨_,⟨rfl,Codec.getN qbe b5⟩,?_⟩;conv=>whnf
   obtain⟨b4,h⟩:=qah h;refine⟨kod b4,_,rfl,?_⟩;conv=>whnf
   obtain⟨b3,h⟩:=qah h;have hl_h5:=kod b3;conv=>whnf
   refine bq h fun e b2 h=>?_;refine⟨_,(q80 n _ _ _ _ b2),?_⟩;conv=>whnf
   rw[show qdj.rows d++qdj.rows e=qdj.rows (d++e)from Codec.append qyx d e];conv=>whnf
   obtain⟨u,h⟩:=qah h;refine⟨⟨Codec.wide qyx (d++e),kod u,qb5 u (by decide)⟩,?_⟩;conv=>whnf
   refine⟨⟨rfl,rfl,by first|rfl|assumption⟩,?_⟩;conv=>whnf
   obtain⟨a0,h⟩:=qah h;conv=>whnf
   refine bq h fun s0 b0 h=>?_;obtain⟨Q,R,T,_⟩:=s0;refine⟨_,4,⟨rfl,Codec.getN qbe b0,rfl,.inr ⟨rfl,kod a0,_,rfl⟩⟩,?_⟩;conv=>whnf
   refine⟨_,Codec.setN qbe f q (qao.mk Q R T (d++e)),?_⟩;conv=>whnf
   exact⟨((d++e),(f.set q (qao.mk Q R T (d++e))),(kwr .i64 (a+1))),h,⟨[0,4,1],[],⟨rfl,rfl,rfl,rfl⟩,by repeat (first|exact trivial|exact .inl rfl|exact rfl|exact List.not_mem_nil|(refine .inr ?_)|(refine⟨?_,?_⟩)|exact List.length_set.symm|exact Codec.lenSet qbe _ _ _|exact(Codec.lenSet qbe _ _ _).trans (Codec.lenSet qbe _ _ _)|decide),by repeat (first|exact trivial|exact .inl rfl|exact rfl|exact List.not_mem_nil|(refine .inr ?_)|(refine⟨?_,?_⟩)|exact List.length_set.symm|exact Codec.lenSet qbe _ _ _|exact(Codec.lenSet qbe _ _ _).trans (Codec.lenSet qbe _ _ _)|decide)⟩⟩
  conv=>whnf
  refine⟨id,?_⟩;conv=>whnf
  refine⟨id,id,id,id,?_⟩;conv=>whnf
  refine bq h fun b9 a1 h=>?_;obtain⟨a2,h⟩:=qah h;refine⟨b9,fun i=>⟨qct (qac a1 i),kod (gd a2 i)⟩,?_⟩;conv=>whnf
  refine⟨id,id,?_⟩;conv=>whnf
  refine bq h fun s0 a6 h=>?_;obtain⟨_,_,_,_⟩:=s0;refine⟨_,fun i=>⟨rfl,Codec.getN qbe (qac a6 i)⟩,?_⟩;conv=>whnf
  refine⟨id,id,?_⟩;conv=>whnf
  apply ifc h<;>intro k h
  ·conv=>whnf
   refine bq h fun s a5 h=>?_;have l:=qct a5;conv=>whnf
   obtain⟨a4,h⟩:=qah h;refine⟨s,⟨l,kod a4⟩,?_⟩;conv=>whnf
   refine bq h fun s0 a3 h=>?_;obtain⟨U,V,_,W⟩:=s0;refine⟨_,1,⟨rfl,Codec.getN qbe a3,rfl,.inl ⟨jh rfl,by first|exact .inl (jh rfl)|exact .inr (jh rfl),rfl⟩⟩,?_⟩;conv=>whnf
   refine⟨_,Codec.setN qbe b s (qao.mk U V a W),?_⟩;conv=>whnf
   exact⟨((b.set s (qao.mk U V a W)),j),h,⟨[0,2,3,1],[],⟨rfl,rfl,rfl,rfl⟩,by repeat (first|exact trivial|exact .inl rfl|exact rfl|exact List.not_mem_nil|(refine .inr ?_)|(refine⟨?_,?_⟩)|exact List.length_set.symm|exact Codec.lenSet qbe _ _ _|exact(Codec.lenSet qbe _ _ _).trans (Codec.lenSet qbe _ _ _)|decide),by repeat (first|exact trivial|exact .inl rfl|exact rfl|exact List.not_mem_nil|(refine .inr ?_)|(refine⟨?_,?_⟩)|exact List.length_set.symm|exact Codec.lenSet qbe _ _ _|exact(Codec.lenSet qbe _ _ _).trans (Codec.lenSet qbe _ _ _)|decide)⟩⟩
  conv=>whnf
  refine⟨by repeat (first|exact List.forall_mem_nil _|refine List.forall_mem_cons.2 ⟨⟨rfl,rfl⟩,?_⟩),_,.inl rfl,?_⟩;conv=>whnf
  obtain⟨t,h⟩:=qah h;refine⟨qao.rows (b++[qao.mk (kwr .i64 ((1:Int)+m)) a a ([]:List qdj)]),_,53,4,⟨zxe qbe b (qao.mk (kwr .i64 ((1:Int)+m)) a a ([]:List qdj)) (by try exact fin),⟨rfl,rfl⟩,rfl,rfl,List.forall_mem_cons.2 ⟨rfl,List.forall_mem_nil _⟩,kod t,qb5 t (by decide)⟩,?_⟩;conv=>whnf
  exact⟨((b++[qao.mk (kwr .i64 ((1:Int)+m)) a a ([]:List qdj)]),([]:List qdj)),h,⟨[0,5,3,4],[],⟨rfl,rfl,rfl,rfl⟩,by repeat (first|exact trivial|exact .inl rfl|exact rfl|exact List.not_mem_nil|(refine .inr ?_)|(refine⟨?_,?_⟩)|exact List.length_set.symm|exact Codec.lenSet qbe _ _ _|exact(Codec.lenSet qbe _ _ _).trans (Codec.lenSet qbe _ _ _)|decide),by repeat (first|exact trivial|exact .inl rfl|exact rfl|exact List.not_mem_nil|(refine .inr ?_)|(refine⟨?_,?_⟩)|exact List.length_set.symm|exact Codec.lenSet qbe _ _ _|exact(Codec.lenSet qbe _ _ _).trans (Codec.lenSet qbe _ _ _)|decide)⟩⟩
 obtain rfl:=sj h;conv=>whnf
 try exact fin
abbrev ze3 (r:SS):PV:=PV.str r
def qun (n:Nat) (a:Int):Option SS:=
 bif(a==1)then(
 some ([102,108,111,119]:SS))
 else(
 bif(a==2)then(
 some ([119,104,111,108,101]:SS))
 else(
 some ([119,114,105,116,101]:SS)))
theorem zbp (n:Nat):∀ (a:Int) (r:SS),qun n a=some r->qai TP 32 [PV.int .i64 a] (ze3 r):=by
 intro a r h;unfold qun at h;refine zN Tryz.call32 Tryz.func32 [1000000] ?_;conv=>whnf
 apply ifc h<;>intro b h
 ·obtain rfl:=sj h
  conv=>whnf
  try exact fin
 conv=>whnf
 apply ifc h<;>intro b h
 ·obtain rfl:=sj h
  conv=>whnf
  try exact fin
 obtain rfl:=sj h;conv=>whnf
 try exact fin
abbrev zgw (r:Int):PV:=PV.int .u64 r
def q0h (n:Nat) (a:Int):Option (Int):=
 bif(decide (a<0))then(
 some (kwr .u64 (0 - (kwr .u64 a))))
 else(
 some (kwr .u64 a))
theorem zea (n:Nat):∀ (a r:Int),q0h n a=some r->qai TP 56 [PV.int .i64 a] (zgw r):=by
 intro a r h;unfold q0h at h;refine zN Tryz.call56 Tryz.func56 [1000000] ?_;conv=>whnf
 apply ifc h<;>intro _ h
 ·obtain rfl:=sj h
  conv=>whnf
  try exact fin
 obtain rfl:=sj h;conv=>whnf
 try exact fin
abbrev zgv (r:SS):PV:=PV.str r
def qn2 (n:Nat):Int×SS->Option SS:=fun(c,b)=>
 bnd (qwb c) fun a=>
 chk (decide (a<20)) (
 chk (decide (a+(20 - a)<=b.length)) (
 some ((b.drop a).take (20 - a))))
def qn3 (n:Nat) (j:Int):(Int×Int×SS->Option SS)->Int×Int×SS->Option SS:=fun i (b,f,c)=>
 bnd (qwb (Int.tmod f (10:Int))) fun g=>
 chk (decide (g<10)) (
 bnd (([(48:UInt8),(49:UInt8),(50:UInt8),(51:UInt8),(52:UInt8),(53:UInt8),(54:UInt8),(55:UInt8),(56:UInt8),(57:UInt8)]:SS)[g]?) fun l=>
 bnd (qwb (kwr .i64 (b - 1))) fun a=>
 chk (decide (a<20)) (
 bnd (u8I ((l.toNat:Nat):Int)) fun d=>
 chk (decide (a<c.length)) (
 bif(decide (f<10))then(
 bif(decide (j<0))then(
 bnd (qwb (kwr .i64 ((kwr .i64 (b - 1)) - 1))) fun e=>
 chk (decide (e<20)) (
 bnd (u8I (45:Int)) fun k=>
 chk (decide (e<(c.set a d).length)) (
 qn2 n ((kwr .i64 ((kwr .i64 (b - 1)) - 1)),((c.set a d).set e k)))))
 else(
 qn2 n ((kwr .i64 (b - 1)),(c.set a d))))
 else(
 i ((kwr .i64 (b - 1)),(kwr .u64 (Int.tdiv f (10:Int))),(c.set a d))))))
def qp9 (n:Nat) (a:Int):Option SS:=
 bnd (q0h n a) fun b=>
 qam (qn3 n a) n ((20:Int),b,(List.replicate 20 0:SS))
theorem qtj (n:Nat):∀ (d:Int) (r:SS),qp9 n d=some r->qai TP 33 [PV.int .i64 d] (zgv r):=by
 intro d r h;unfold qp9 at h;refine zN Tryz.call33 Tryz.func33 [10000003,10000004,1000000] ?_;conv=>whnf
 refine⟨rfl,zum rfl,?_⟩;conv=>whnf
 refine⟨(List.replicate 10 0:SS),rfl,?_⟩;conv=>whnf
 refine⟨([(48:UInt8),(49:UInt8),(50:UInt8),(51:UInt8),(52:UInt8),(53:UInt8),(54:UInt8),(55:UInt8),(56:UInt8),(57:UInt8)]:SS),⟨rfl,rfl,rfl,rfl,rfl⟩,?_⟩;conv=>whnf
 refine⟨(List.replicate 20 0:SS),rfl,?_⟩;conv=>whnf
 refine bq h fun _ w h=>?_;refine⟨_,(zea n _ _ w),?_⟩;conv=>whnf
 refine qbh.fn [10000003,10000004,1000000] (S:=Int×Int×SS) (fun(a,f,b)=>[(0,pI d),(3,.eptr 0 1 0 0),(4,.eptr 1 1 0 0),(5,pI a),(6,.p (.int .u64 f))]) (fun(a,f,b)=>[.bv ([(48:UInt8),(49:UInt8),(50:UInt8),(51:UInt8),(52:UInt8),(53:UInt8),(54:UInt8),(55:UInt8),(56:UInt8),(57:UInt8)]:SS),.bv b]) (B:=qn3 n d) h (wk [0,1] []) ?_;intro _ st h;obtain⟨a,f,b⟩:=st;unfold qn3 at h;conv=>whnf
 refine⟨by unfold gI; decide,?_⟩;conv=>whnf
 refine bq h fun H v h=>?_;have c:=qct v;conv=>whnf
 obtain⟨u,h⟩:=qah h;refine⟨H,⟨rfl,c,kod u⟩,?_⟩;conv=>whnf
 refine bq h fun _ t h=>?_;refine⟨_,⟨rfl,rfl,t⟩,?_⟩;conv=>whnf
 refine bq h fun g s h=>?_;have c:=qct s;conv=>whnf
 obtain⟨q,h⟩:=qah h;refine⟨g,⟨rfl,c,kod q⟩,?_⟩;conv=>whnf
 refine bq h fun j E h=>?_;have hb:=qet E;conv=>whnf
 obtain⟨D,h⟩:=qah h;refine⟨_,_,⟨rfl,rfl,kod D,hb,rfl⟩,?_⟩;conv=>whnf
 apply ifc h<;>intro F h
 ·conv=>whnf
  refine qhd.cut (S:=Int×SS) (fun(i,e)=>[(4,.eptr 0 1 0 0),(5,pI i)]) (fun(i,e)=>[.bv e]) (qn2 n) (r:=r) ?_ ?_
  ·intro st h
   obtain⟨i,e⟩:=st;unfold qn2 at h;conv=>whnf
   refine bq h fun l x h=>?_;refine⟨_,qct x,?_⟩;conv=>whnf
   obtain⟨k,h⟩:=qah h;refine⟨⟨rfl,Nat.le_of_lt (kod k),jx _,kod k⟩,?_⟩;conv=>whnf
   obtain⟨o,h⟩:=qah h;refine⟨(kod o:l+(20 - l)<=e.length),?_⟩;obtain rfl:=sj h;conv=>whnf
   try exact fin
  conv=>whnf
  apply ifc h<;>intro F h
  ·conv=>whnf
   refine bq h fun m C h=>?_;have c:=qct C;conv=>whnf
   obtain⟨A,h⟩:=qah h;refine⟨m,⟨rfl,c,kod A⟩,?_⟩;conv=>whnf
   refine bq h fun G z h=>?_;have hb:=qet z;conv=>whnf
   obtain⟨y,h⟩:=qah h;refine⟨_,_,⟨rfl,rfl,kod y,hb,rfl⟩,?_⟩;conv=>whnf
   exact⟨((kwr .i64 ((kwr .i64 (a - 1)) - 1)),((b.set g j).set m G)),h,wk [1] []⟩
  conv=>whnf
  exact⟨((kwr .i64 (a - 1)),(b.set g j)),h,wk [1] []⟩
 conv=>whnf
 refine⟨by unfold gI; decide,?_⟩;conv=>whnf
 exact⟨((kwr .i64 (a - 1)),(kwr .u64 (Int.tdiv f (10:Int))),(b.set g j)),h,wk [0,1] []⟩
abbrev qqh (r:Bool):PV:=PV.bool r
def qed (n:Nat) (a b:SS):Option (Bool):=
 bnd (qaw (decide (((a.length:Nat):Int)≥((b.length:Nat):Int))) (qwb ((b.length:Nat):Int))) fun c=>
 chk (bif(decide (((a.length:Nat):Int)≥((b.length:Nat):Int)))then decide (c<=a.length)else true) (
 some (bif(decide (((a.length:Nat):Int)≥((b.length:Nat):Int)))then((a.take c)==b)else false))
theorem qpv (n:Nat):∀ (a c:SS) (r:Bool),qed n a c=some r->qai TP 147 [PV.str a,PV.str c] (qqh r):=by
 intro a c r h;unfold qed at h;refine zN Tryz.call147 Tryz.func147 [1000000] ?_;conv=>whnf
 refine⟨id,id,id,?_⟩;conv=>whnf
 refine bq h fun d f h=>?_;refine⟨_,fun b=>qct (qac f b),?_⟩;conv=>whnf
 obtain⟨e,h⟩:=qah h;refine⟨fun b=>⟨Nat.zero_le _,(kod (gd e b):(d<=a.length))⟩,?_⟩;rw[show List.drop 0 (List.take d a)=(a.take d)from rfl];conv=>whnf
 refine⟨id,id,id,?_⟩;obtain rfl:=sj h;conv=>whnf
 try exact fin
abbrev qzw (r:Bool):PV:=PV.bool r
def qgg (n:Nat) (a b:SS):Option (Bool):=
 bnd (qed n a b) fun c=>
 some c
theorem qyq (n:Nat):∀ (a b:SS) (r:Bool),qgg n a b=some r->qai TP 98 [PV.str a,PV.str b] (qzw r):=by
 intro a b r h;unfold qgg at h;refine zN Tryz.call98 Tryz.func98 [1000000] ?_;conv=>whnf
 refine bq h fun _ c h=>?_;refine⟨_,(qpv n _ _ _ c),?_⟩;obtain rfl:=sj h;conv=>whnf
 try exact fin
abbrev zcd (r:SS):PV:=PV.str r
def qqz (n:Nat) (b:SS) (a:Nat) (c:SS) (d:SS×Nat->Option SS):Bool->Option SS:=fun m=>
 bif m then(
 bnd (u8I (kwr .u8 (((js (kbt .u8) (224:Int) ||| js (kbt .u8) (kwr .u8 (Int.fdiv ((qa7 b a:Nat):Int) (2 ^ (min (Int.toNat (12:Int)) (kbt .i32)))))).toNat:Nat):Int))) fun k=>
 bnd (u8I (kwr .u8 (((js (kbt .u8) (128:Int) ||| js (kbt .u8) (kwr .u8 (((js (kbt .u8) (kwr .u8 (Int.fdiv ((qa7 b a:Nat):Int) (2 ^ (min (Int.toNat (6:Int)) (kbt .i32))))) &&& js (kbt .u8) (63:Int)).toNat:Nat):Int))).toNat:Nat):Int))) fun l=>
 bnd (u8I (kwr .u8 (((js (kbt .u8) (128:Int) ||| js (kbt .u8) (kwr .u8 (((js (kbt .u8) (kwr .u8 ((qa7 b a:Nat):Int)) &&& js (kbt .u8) (63:Int)).toNat:Nat):Int))).toNat:Nat):Int))) fun e=>
 chk (decide ((qau ((c++[(92:UInt8)])++[k,l,e])).length * 1<=140737488355328)) (
 d (((c++[(92:UInt8)])++[k,l,e]),(bif(decide (a<b.length))then qdz b a else a))))
 else(
 bif(bif(decide ((kwr .u32 ((qa7 b a:Nat):Int))>65535))then(decide ((kwr .u32 ((qa7 b a:Nat):Int))<=1114111))else false)then(
 bnd (u8I (kwr .u8 (((js (kbt .u8) (240:Int) ||| js (kbt .u8) (kwr .u8 (Int.fdiv ((qa7 b a:Nat):Int) (2 ^ (min (Int.toNat (18:Int)) (kbt .i32)))))).toNat:Nat):Int))) fun f=>
 bnd (u8I (kwr .u8 (((js (kbt .u8) (128:Int) ||| js (kbt .u8) (kwr .u8 (((js (kbt .u8) (kwr .u8 (Int.fdiv ((qa7 b a:Nat):Int) (2 ^ (min (Int.toNat (12:Int)) (kbt .i32))))) &&& js (kbt .u8) (63:Int)).toNat:Nat):Int))).toNat:Nat):Int))) fun g=>
 bnd (u8I (kwr .u8 (((js (kbt .u8) (128:Int) ||| js (kbt .u8) (kwr .u8 (((js (kbt .u8) (kwr .u8 (Int.fdiv ((qa7 b a:Nat):Int) (2 ^ (min (Int.toNat (6:Int)) (kbt .i32))))) &&& js (kbt .u8) (63:Int)).toNat:Nat):Int))).toNat:Nat):Int))) fun i=>
 bnd (u8I (kwr .u8 (((js (kbt .u8) (128:Int) ||| js (kbt .u8) (kwr .u8 (((js (kbt .u8) (kwr .u8 ((qa7 b a:Nat):Int)) &&& js (kbt .u8) (63:Int)).toNat:Nat):Int))).toNat:Nat):Int))) fun j=>
 chk (decide ((qau ((c++[(92:UInt8)])++[f,g,i,j])).length * 1<=140737488355328)) (
 d (((c++[(92:UInt8)])++[f,g,i,j]),(bif(decide (a<b.length))then qdz b a else a))))
 else(
 chk (decide ((qau ((c++[(92:UInt8)])++[(239:UInt8),(191:UInt8),(189:UInt8)])).length * 1<=140737488355328)) (
 d (((c++[(92:UInt8)])++[(239:UInt8),(191:UInt8),(189:UInt8)]),(bif(decide (a<b.length))then qdz b a else a)))))
def qig (n:Nat) (b:SS) (a:Nat) (c:SS) (d:SS×Nat->Option SS):Bool->Option SS:=fun m=>
 bif m then(
 bnd (u8I (kwr .u8 (((js (kbt .u8) (224:Int) ||| js (kbt .u8) (kwr .u8 (Int.fdiv ((qa7 b a:Nat):Int) (2 ^ (min (Int.toNat (12:Int)) (kbt .i32)))))).toNat:Nat):Int))) fun e=>
 bnd (u8I (kwr .u8 (((js (kbt .u8) (128:Int) ||| js (kbt .u8) (kwr .u8 (((js (kbt .u8) (kwr .u8 (Int.fdiv ((qa7 b a:Nat):Int) (2 ^ (min (Int.toNat (6:Int)) (kbt .i32))))) &&& js (kbt .u8) (63:Int)).toNat:Nat):Int))).toNat:Nat):Int))) fun f=>
 bnd (u8I (kwr .u8 (((js (kbt .u8) (128:Int) ||| js (kbt .u8) (kwr .u8 (((js (kbt .u8) (kwr .u8 ((qa7 b a:Nat):Int)) &&& js (kbt .u8) (63:Int)).toNat:Nat):Int))).toNat:Nat):Int))) fun g=>
 chk (decide ((qau (c++[e,f,g])).length * 1<=140737488355328)) (
 d ((c++[e,f,g]),(bif(decide (a<b.length))then qdz b a else a))))
 else(
 bif(bif(decide ((kwr .u32 ((qa7 b a:Nat):Int))>65535))then(decide ((kwr .u32 ((qa7 b a:Nat):Int))<=1114111))else false)then(
 bnd (u8I (kwr .u8 (((js (kbt .u8) (240:Int) ||| js (kbt .u8) (kwr .u8 (Int.fdiv ((qa7 b a:Nat):Int) (2 ^ (min (Int.toNat (18:Int)) (kbt .i32)))))).toNat:Nat):Int))) fun i=>
 bnd (u8I (kwr .u8 (((js (kbt .u8) (128:Int) ||| js (kbt .u8) (kwr .u8 (((js (kbt .u8) (kwr .u8 (Int.fdiv ((qa7 b a:Nat):Int) (2 ^ (min (Int.toNat (12:Int)) (kbt .i32))))) &&& js (kbt .u8) (63:Int)).toNat:Nat):Int))).toNat:Nat):Int))) fun j=>
 bnd (u8I (kwr .u8 (((js (kbt .u8) (128:Int) ||| js (kbt .u8) (kwr .u8 (((js (kbt .u8) (kwr .u8 (Int.fdiv ((qa7 b a:Nat):Int) (2 ^ (min (Int.toNat (6:Int)) (kbt .i32))))) &&& js (kbt .u8) (63:Int)).toNat:Nat):Int))).toNat:Nat):Int))) fun k=>
 bnd (u8I (kwr .u8 (((js (kbt .u8) (128:Int) ||| js (kbt .u8) (kwr .u8 (((js (kbt .u8) (kwr .u8 ((qa7 b a:Nat):Int)) &&& js (kbt .u8) (63:Int)).toNat:Nat):Int))).toNat:Nat):Int))) fun l=>
 chk (decide ((qau (c++[i,j,k,l])).length * 1<=140737488355328)) (
 d ((c++[i,j,k,l]),(bif(decide (a<b.length))then qdz b a else a))))
 else(
 chk (decide ((qau (c++[(239:UInt8),(191:UInt8),(189:UInt8)])).length * 1<=140737488355328)) (
 d ((c++[(239:UInt8),(191:UInt8),(189:UInt8)]),(bif(decide (a<b.length))then qdz b a else a)))))
def qfr (n:Nat) (b:SS):(SS×Nat->Option SS)->SS×Nat->Option SS:=fun d (c,a)=>
 bif(decide (a<b.length))then(
 bif(bif(((qa7 b a:Nat):Int)==92)then true else(((qa7 b a:Nat):Int)==39))then(
 chk (decide ((qau (c++[(92:UInt8)])).length * 1<=140737488355328)) (
 bif(decide ((kwr .u32 ((qa7 b a:Nat):Int))<=127))then(
 bnd (u8I (kwr .u8 ((qa7 b a:Nat):Int))) fun m=>
 chk (decide ((qau ((c++[(92:UInt8)])++[m])).length * 1<=140737488355328)) (
 d (((c++[(92:UInt8)])++[m]),(bif(decide (a<b.length))then qdz b a else a))))
 else(
 bif(decide ((kwr .u32 ((qa7 b a:Nat):Int))<=2047))then(
 bnd (u8I (kwr .u8 (((js (kbt .u8) (192:Int) ||| js (kbt .u8) (kwr .u8 (Int.fdiv ((qa7 b a:Nat):Int) (2 ^ (min (Int.toNat (6:Int)) (kbt .i32)))))).toNat:Nat):Int))) fun o=>
 bnd (u8I (kwr .u8 (((js (kbt .u8) (128:Int) ||| js (kbt .u8) (kwr .u8 (((js (kbt .u8) (kwr .u8 ((qa7 b a:Nat):Int)) &&& js (kbt .u8) (63:Int)).toNat:Nat):Int))).toNat:Nat):Int))) fun p=>
 chk (decide ((qau ((c++[(92:UInt8)])++[o,p])).length * 1<=140737488355328)) (
 d (((c++[(92:UInt8)])++[o,p]),(bif(decide (a<b.length))then qdz b a else a))))
 else(
 bif(decide ((kwr .u32 ((qa7 b a:Nat):Int))<55296))then(
 qqz n b a c d (decide ((kwr .u32 ((qa7 b a:Nat):Int))<55296)))
 else(
 qqz n b a c d (bif(decide ((57343:Int)<(kwr .u32 ((qa7 b a:Nat):Int))))then(decide ((kwr .u32 ((qa7 b a:Nat):Int))<=65535))else false))))))
 else(
 bif(((qa7 b a:Nat):Int)==10)then(
 chk (decide ((qau (c++([92,110]:SS))).length * 1<=140737488355328)) (
 d ((c++([92,110]:SS)),(bif(decide (a<b.length))then qdz b a else a))))
 else(
 bif(((qa7 b a:Nat):Int)==9)then(
 chk (decide ((qau (c++([92,116]:SS))).length * 1<=140737488355328)) (
 d ((c++([92,116]:SS)),(bif(decide (a<b.length))then qdz b a else a))))
 else(
 bif(((qa7 b a:Nat):Int)==13)then(
 chk (decide ((qau (c++([92,114]:SS))).length * 1<=140737488355328)) (
 d ((c++([92,114]:SS)),(bif(decide (a<b.length))then qdz b a else a))))
 else(
 bnd (qaw ((!(bif(decide (((qa7 b a:Nat):Int)<32))then true else(((qa7 b a:Nat):Int)==127)))&&(((qa7 b a:Nat):Int)==65533)) (qwb ((a:Nat):Int))) fun f=>
 chk (bif((!(bif(decide (((qa7 b a:Nat):Int)<32))then true else(((qa7 b a:Nat):Int)==127)))&&(((qa7 b a:Nat):Int)==65533))then decide (f<=b.length)else true) (
 bnd (qaw ((!(bif(decide (((qa7 b a:Nat):Int)<32))then true else(((qa7 b a:Nat):Int)==127)))&&(((qa7 b a:Nat):Int)==65533)) (qgg n (b.drop f) ([239,191,189]:SS))) fun q=>
 bif(bif(bif(decide (((qa7 b a:Nat):Int)<32))then true else(((qa7 b a:Nat):Int)==127))then true else(bif(((qa7 b a:Nat):Int)==65533)then(!q)else false))then(
 bnd (idx b ((a:Nat):Int)) fun g=>
 chk (decide ((qau (c++([92,120]:SS))).length * 1<=140737488355328)) (
 bnd (idx ([48,49,50,51,52,53,54,55,56,57,97,98,99,100,101,102]:SS) (Int.fdiv ((g.toNat:Nat):Int) (2 ^ (min (Int.toNat (4:Int)) (kbt .u8))))) fun e=>
 chk (decide ((qau ((c++([92,120]:SS))++[e])).length * 1<=140737488355328)) (
 bnd (idx ([48,49,50,51,52,53,54,55,56,57,97,98,99,100,101,102]:SS) (kwr .u8 (((js (kbt .u8) ((g.toNat:Nat):Int) &&& js (kbt .u8) (15:Int)).toNat:Nat):Int))) fun i=>
 chk (decide ((qau (((c++([92,120]:SS))++[e])++[i])).length * 1<=140737488355328)) (
 d ((((c++([92,120]:SS))++[e])++[i]),(bif(decide (a<b.length))then qdz b a else a))))))
 else(
 bif(decide ((kwr .u32 ((qa7 b a:Nat):Int))<=127))then(
 bnd (u8I (kwr .u8 ((qa7 b a:Nat):Int))) fun j=>
 chk (decide ((qau (c++[j])).length * 1<=140737488355328)) (
 d ((c++[j]),(bif(decide (a<b.length))then qdz b a else a))))
 else(
 bif(decide ((kwr .u32 ((qa7 b a:Nat):Int))<=2047))then(
 bnd (u8I (kwr .u8 (((js (kbt .u8) (192:Int) ||| js (kbt .u8) (kwr .u8 (Int.fdiv ((qa7 b a:Nat):Int) (2 ^ (min (Int.toNat (6:Int)) (kbt .i32)))))).toNat:Nat):Int))) fun k=>
 bnd (u8I (kwr .u8 (((js (kbt .u8) (128:Int) ||| js (kbt .u8) (kwr .u8 (((js (kbt .u8) (kwr .u8 ((qa7 b a:Nat):Int)) &&& js (kbt .u8) (63:Int)).toNat:Nat):Int))).toNat:Nat):Int))) fun l=>
 chk (decide ((qau (c++[k,l])).length * 1<=140737488355328)) (
 d ((c++[k,l]),(bif(decide (a<b.length))then qdz b a else a))))
 else(
 bif(decide ((kwr .u32 ((qa7 b a:Nat):Int))<55296))then(
 qig n b a c d (decide ((kwr .u32 ((qa7 b a:Nat):Int))<55296)))
 else(
 qig n b a c d (bif(decide ((57343:Int)<(kwr .u32 ((qa7 b a:Nat):Int))))then(decide ((kwr .u32 ((qa7 b a:Nat):Int))<=65535))else false)))))))))))
 else(
 chk (decide ((qau (c++[(39:UInt8)])).length * 1<=140737488355328)) (
 some (c++[(39:UInt8)])))
def qsj (n:Nat) (a:SS):Option SS:=
 chk (decide ((qau [(39:UInt8)]).length * 1<=140737488355328)) (
 qam (qfr n a) n ([(39:UInt8)],0))
set_option maxHeartbeats 4000000 in
theorem q89 (n:Nat):∀ (c r:SS),qsj n c=some r->qai TP 58 [PV.str c] (zcd r):=by
 intro c r h;unfold qsj at h;refine zN Tryz.call58 Tryz.func58 [31,35,36,55,94,97,99,146,168,1000000] ?_;conv=>whnf
 refine zI Tryz.call35 Tryz.func35 [31,35,36,55,94,97,99,146,168,1000000] ?_;conv=>whnf
 refine zI Tryz.call55 Tryz.func55 [31,35,36,55,94,97,99,146,168,1000000] ?_;conv=>whnf
 refine⟨fun _=>?_,fun hf=>absurd hf (by first|decide|simp)⟩;conv=>whnf
 refine⟨⟨by decide,by first|decide|exact Nat.zero_lt_succ _⟩,?_⟩;conv=>whnf
 refine qk1.noEscape Tryz.func94 (by kernel_rfl) (by kernel_rfl) (by kernel_rfl) (by kernel_rfl) ?_;conv=>whnf
 refine⟨by kernel_rfl,?_⟩;conv=>whnf
 refine⟨Codec.one qdl [(39:UInt8)],qau [(39:UInt8)],.inl rfl,?_⟩;conv=>whnf
 obtain⟨a4,h⟩:=qah h;refine⟨⟨Codec.wide qdl [(39:UInt8)],kod a4,qb5 a4 (by decide)⟩,?_⟩;conv=>whnf
 refine qbh.fn [31,35,36,55,94,97,99,146,168,1000000] (S:=SS×Nat) (fun(a,b)=>[(0,pS c),(3,.ptr 0 0),(8,.ptr 1 0)]) (fun(a,b)=>[.box 88 [.ptr 0 0,.tsl 2 (qau a)],.sit c b,.tail 5 1 (qau a).length]) (B:=qfr n c) h (wk [0,2,1] []) ?_;intro a7 st h;obtain⟨a,b⟩:=st;unfold qfr at h;conv=>whnf
 refine⟨(decide (b<c.length)),(bif(decide (b<c.length))then qdz c b else b),⟨rfl,rfl⟩,?_⟩;conv=>whnf
 apply ifc h<;>intro d h
 ·conv=>whnf
  refine⟨by assumption,?_⟩;conv=>whnf
  refine⟨by assumption,?_⟩;conv=>whnf
  refine⟨id,id,?_⟩;conv=>whnf
  apply ifc h<;>intro d h
  ·conv=>whnf
   refine zI Tryz.call35 Tryz.func35 [31,35,36,55,94,97,99,146,168,1000000] ?_;conv=>whnf
   refine zI Tryz.call55 Tryz.func55 [31,35,36,55,94,97,99,146,168,1000000] ?_;conv=>whnf
   refine⟨fun hf=>absurd hf (by first|decide|simp),fun _=>?_⟩;conv=>whnf
   refine⟨fun hf=>absurd hf (by first|decide|simp),fun _=>?_⟩;conv=>whnf
   refine⟨Codec.one qdl [(92:UInt8)],qau [(92:UInt8)],.inl rfl,?_⟩;conv=>whnf
   rw[show qau a++qau [(92:UInt8)]=qau (a++[(92:UInt8)])from Codec.append qdl a [(92:UInt8)]];conv=>whnf
   obtain⟨O,h⟩:=qah h;refine⟨⟨Codec.wide qdl (a++[(92:UInt8)]),kod O,qb5 O (by decide)⟩,?_⟩;conv=>whnf
   refine⟨⟨rfl,rfl,rfl⟩,?_⟩;conv=>whnf
   refine zI Tryz.call97 Tryz.func97 [31,35,36,55,94,97,99,146,168,1000000] ?_;conv=>whnf
   refine zI Tryz.call55 Tryz.func55 [31,35,36,55,94,97,99,146,168,1000000] ?_;conv=>whnf
   refine⟨fun hf=>absurd hf (by first|decide|simp),fun _=>?_⟩;conv=>whnf
   refine⟨fun hf=>absurd hf (by first|decide|simp),fun _=>?_⟩;conv=>whnf
   refine zI Tryz.call146 Tryz.func146 [31,35,36,55,94,97,99,146,168,1000000] ?_;conv=>whnf
   apply ifc h<;>intro d h
   ·conv=>whnf
    refine bq h fun C a8 h=>?_;rw[show([[PV.int .u8 (kwr .u8 ((qa7 c b:Nat):Int))]]:List (List PV))=qau [C]from by rw[qet a8]; rfl];refine⟨Codec.one qdl [C],_,.inl rfl,?_⟩;(conv=>whnf);rw[show qau (a++[(92:UInt8)])++qau [C]=qau ((a++[(92:UInt8)])++[C])from Codec.append qdl (a++[(92:UInt8)]) [C]];(conv=>whnf);obtain⟨U,h⟩:=qah h;refine⟨⟨Codec.wide qdl ((a++[(92:UInt8)])++[C]),kod U,qb5 U (by decide)⟩,?_⟩;(conv=>whnf);refine⟨⟨rfl,rfl,rfl⟩,?_⟩;(conv=>whnf);exact⟨(((a++[(92:UInt8)])++[C]),(bif(decide (b<c.length))then qdz c b else b)),h,wk [0,1,4] []⟩
   conv=>whnf
   refine zI Tryz.call168 Tryz.func168 [31,35,36,55,94,97,99,146,168,1000000] ?_;conv=>whnf
   apply ifc h<;>intro d h
   ·conv=>whnf
    refine⟨by unfold gI; decide,?_⟩;(conv=>whnf);refine bq h fun D b9 h=>?_;refine bq h fun F c7 h=>?_;rw[show([[PV.int .u8 (kwr .u8 (((js (kbt .u8) (192:Int) ||| js (kbt .u8) (kwr .u8 (Int.fdiv ((qa7 c b:Nat):Int) (2 ^ (min (Int.toNat (6:Int)) (kbt .i32)))))).toNat:Nat):Int))],[PV.int .u8 (kwr .u8 (((js (kbt .u8) (128:Int) ||| js (kbt .u8) (kwr .u8 (((js (kbt .u8) (kwr .u8 ((qa7 c b:Nat):Int)) &&& js (kbt .u8) (63:Int)).toNat:Nat):Int))).toNat:Nat):Int))]]:List (List PV))=qau [D,F]from by rw[qet b9,qet c7]; rfl];refine⟨Codec.one qdl [D,F],_,.inl rfl,?_⟩;(conv=>whnf);rw[show qau (a++[(92:UInt8)])++qau [D,F]=qau ((a++[(92:UInt8)])++[D,F])from Codec.append qdl (a++[(92:UInt8)]) [D,F]];(conv=>whnf);obtain⟨a5,h⟩:=qah h;refine⟨⟨Codec.wide qdl ((a++[(92:UInt8)])++[D,F]),kod a5,qb5 a5 (by decide)⟩,?_⟩;(conv=>whnf);refine⟨⟨rfl,rfl,rfl⟩,?_⟩;(conv=>whnf);exact⟨(((a++[(92:UInt8)])++[D,F]),(bif(decide (b<c.length))then qdz c b else b)),h,wk [0,1,4] []⟩
   conv=>whnf
   refine qhd.cut (S:=Bool) (fun L=>[(0,.tsl 3 (qau (a++[(92:UInt8)]))),(1,.p (.int .i32 ((qa7 c b:Nat):Int))),(5,.p (.int .u32 (kwr .u32 ((qa7 c b:Nat):Int)))),(25,pB L)]) (fun L=>[.box 88 [.ptr 0 0,.tsl 3 (qau (a++[(92:UInt8)]))],.sit c (bif(decide (b<c.length))then qdz c b else b),.dead,.tail 5 1 (qau (a++[(92:UInt8)])).length]) (qqz n c b a a7) (r:=r) ?_ ?_
   ·intro L h
    unfold qqz at h;(conv=>whnf);apply ifc h<;>intro d h
    ·conv=>whnf
     refine⟨by unfold gI; decide,?_⟩;(conv=>whnf);refine⟨by unfold gI; decide,?_⟩;(conv=>whnf);refine bq h fun G d1 h=>?_;refine bq h fun H d2 h=>?_;refine bq h fun f d3 h=>?_;rw[show([[PV.int .u8 (kwr .u8 (((js (kbt .u8) (224:Int) ||| js (kbt .u8) (kwr .u8 (Int.fdiv ((qa7 c b:Nat):Int) (2 ^ (min (Int.toNat (12:Int)) (kbt .i32)))))).toNat:Nat):Int))],[PV.int .u8 (kwr .u8 (((js (kbt .u8) (128:Int) ||| js (kbt .u8) (kwr .u8 (((js (kbt .u8) (kwr .u8 (Int.fdiv ((qa7 c b:Nat):Int) (2 ^ (min (Int.toNat (6:Int)) (kbt .i32))))) &&& js (kbt .u8) (63:Int)).toNat:Nat):Int))).toNat:Nat):Int))],[PV.int .u8 (kwr .u8 (((js (kbt .u8) (128:Int) ||| js (kbt .u8) (kwr .u8 (((js (kbt .u8) (kwr .u8 ((qa7 c b:Nat):Int)) &&& js (kbt .u8) (63:Int)).toNat:Nat):Int))).toNat:Nat):Int))]]:List (List PV))=qau [G,H,f]from by rw[qet d1,qet d2,qet d3]; rfl];refine⟨Codec.one qdl [G,H,f],_,.inl rfl,?_⟩;(conv=>whnf);rw[show qau (a++[(92:UInt8)])++qau [G,H,f]=qau ((a++[(92:UInt8)])++[G,H,f])from Codec.append qdl (a++[(92:UInt8)]) [G,H,f]];(conv=>whnf);obtain⟨a6,h⟩:=qah h;refine⟨⟨Codec.wide qdl ((a++[(92:UInt8)])++[G,H,f]),kod a6,qb5 a6 (by decide)⟩,?_⟩;(conv=>whnf);refine⟨⟨rfl,rfl,rfl⟩,?_⟩;(conv=>whnf);exact⟨(((a++[(92:UInt8)])++[G,H,f]),(bif(decide (b<c.length))then qdz c b else b)),h,wk [0,1,4] []⟩
    (conv=>whnf);refine⟨id,id,?_⟩
    (conv=>whnf);apply ifc h<;>intro d h
    ·conv=>whnf
     refine⟨by unfold gI; decide,?_⟩;(conv=>whnf);refine⟨by unfold gI; decide,?_⟩;(conv=>whnf);refine⟨by unfold gI; decide,?_⟩;(conv=>whnf);refine bq h fun g a9 h=>?_;refine bq h fun i b0 h=>?_;refine bq h fun l b1 h=>?_;refine bq h fun m b2 h=>?_;rw[show([[PV.int .u8 (kwr .u8 (((js (kbt .u8) (240:Int) ||| js (kbt .u8) (kwr .u8 (Int.fdiv ((qa7 c b:Nat):Int) (2 ^ (min (Int.toNat (18:Int)) (kbt .i32)))))).toNat:Nat):Int))],[PV.int .u8 (kwr .u8 (((js (kbt .u8) (128:Int) ||| js (kbt .u8) (kwr .u8 (((js (kbt .u8) (kwr .u8 (Int.fdiv ((qa7 c b:Nat):Int) (2 ^ (min (Int.toNat (12:Int)) (kbt .i32))))) &&& js (kbt .u8) (63:Int)).toNat:Nat):Int))).toNat:Nat):Int))],[PV.int .u8 (kwr .u8 (((js (kbt .u8) (128:Int) ||| js (kbt .u8) (kwr .u8 (((js (kbt .u8) (kwr .u8 (Int.fdiv ((qa7 c b:Nat):Int) (2 ^ (min (Int.toNat (6:Int)) (kbt .i32))))) &&& js (kbt .u8) (63:Int)).toNat:Nat):Int))).toNat:Nat):Int))],[PV.int .u8 (kwr .u8 (((js (kbt .u8) (128:Int) ||| js (kbt .u8) (kwr .u8 (((js (kbt .u8) (kwr .u8 ((qa7 c b:Nat):Int)) &&& js (kbt .u8) (63:Int)).toNat:Nat):Int))).toNat:Nat):Int))]]:List (List PV))=qau [g,i,l,m]from by rw[qet a9,qet b0,qet b1,qet b2]; rfl];refine⟨Codec.one qdl [g,i,l,m],_,.inl rfl,?_⟩;(conv=>whnf);rw[show qau (a++[(92:UInt8)])++qau [g,i,l,m]=qau ((a++[(92:UInt8)])++[g,i,l,m])from Codec.append qdl (a++[(92:UInt8)]) [g,i,l,m]];(conv=>whnf);obtain⟨M,h⟩:=qah h;refine⟨⟨Codec.wide qdl ((a++[(92:UInt8)])++[g,i,l,m]),kod M,qb5 M (by decide)⟩,?_⟩;(conv=>whnf);refine⟨⟨rfl,rfl,rfl⟩,?_⟩;(conv=>whnf);exact⟨(((a++[(92:UInt8)])++[g,i,l,m]),(bif(decide (b<c.length))then qdz c b else b)),h,wk [0,1,4] []⟩
    (conv=>whnf);refine⟨Codec.one qdl [(239:UInt8),(191:UInt8),(189:UInt8)],qau [(239:UInt8),(191:UInt8),(189:UInt8)],.inl rfl,?_⟩
    (conv=>whnf);rw[show qau (a++[(92:UInt8)])++qau [(239:UInt8),(191:UInt8),(189:UInt8)]=qau ((a++[(92:UInt8)])++[(239:UInt8),(191:UInt8),(189:UInt8)])from Codec.append qdl (a++[(92:UInt8)]) [(239:UInt8),(191:UInt8),(189:UInt8)]]
    (conv=>whnf);obtain⟨N,h⟩:=qah h
    refine⟨⟨Codec.wide qdl ((a++[(92:UInt8)])++[(239:UInt8),(191:UInt8),(189:UInt8)]),kod N,qb5 N (by decide)⟩,?_⟩;(conv=>whnf);refine⟨⟨rfl,rfl,rfl⟩,?_⟩;(conv=>whnf);exact⟨(((a++[(92:UInt8)])++[(239:UInt8),(191:UInt8),(189:UInt8)]),(bif(decide (b<c.length))then qdz c b else b)),h,wk [0,1,4] []⟩
   conv=>whnf
   apply ifc h<;>intro d h
   ·conv=>whnf
    exact⟨(decide ((kwr .u32 ((qa7 c b:Nat):Int))<55296)),h,wk [0,1,2,3] []⟩
   conv=>whnf
   refine⟨id,id,?_⟩;conv=>whnf
   exact⟨(bif(decide ((57343:Int)<(kwr .u32 ((qa7 c b:Nat):Int))))then(decide ((kwr .u32 ((qa7 c b:Nat):Int))<=65535))else false),h,wk [0,1,2,3] []⟩
  conv=>whnf
  apply ifc h<;>intro d h
  ·conv=>whnf
   refine zI Tryz.call31 Tryz.func31 [31,35,36,55,94,97,99,146,168,1000000] ?_;conv=>whnf
   refine zI Tryz.call55 Tryz.func55 [31,35,36,55,94,97,99,146,168,1000000] ?_;conv=>whnf
   refine⟨fun hf=>absurd hf (by first|decide|simp),fun _=>?_⟩;conv=>whnf
   refine⟨fun hf=>absurd hf (by first|decide|simp),fun _=>?_⟩;conv=>whnf
   rw[show qau a++qau ([92,110]:SS)=qau (a++([92,110]:SS))from Codec.append qdl a ([92,110]:SS)];conv=>whnf
   obtain⟨P,h⟩:=qah h;refine⟨⟨Codec.wide qdl a,kod P,qb5 P (by decide)⟩,?_⟩;conv=>whnf
   refine⟨⟨rfl,rfl,rfl⟩,?_⟩;conv=>whnf
   exact⟨((a++([92,110]:SS)),(bif(decide (b<c.length))then qdz c b else b)),h,wk [0,1,3] []⟩
  conv=>whnf
  apply ifc h<;>intro d h
  ·conv=>whnf
   refine zI Tryz.call31 Tryz.func31 [31,35,36,55,94,97,99,146,168,1000000] ?_;conv=>whnf
   refine zI Tryz.call55 Tryz.func55 [31,35,36,55,94,97,99,146,168,1000000] ?_;conv=>whnf
   refine⟨fun hf=>absurd hf (by first|decide|simp),fun _=>?_⟩;conv=>whnf
   refine⟨fun hf=>absurd hf (by first|decide|simp),fun _=>?_⟩;conv=>whnf
   rw[show qau a++qau ([92,116]:SS)=qau (a++([92,116]:SS))from Codec.append qdl a ([92,116]:SS)];conv=>whnf
   obtain⟨Q,h⟩:=qah h;refine⟨⟨Codec.wide qdl a,kod Q,qb5 Q (by decide)⟩,?_⟩;conv=>whnf
   refine⟨⟨rfl,rfl,rfl⟩,?_⟩;conv=>whnf
   exact⟨((a++([92,116]:SS)),(bif(decide (b<c.length))then qdz c b else b)),h,wk [0,1,3] []⟩
  conv=>whnf
  apply ifc h<;>intro d h
  ·conv=>whnf
   refine zI Tryz.call31 Tryz.func31 [31,35,36,55,94,97,99,146,168,1000000] ?_;conv=>whnf
   refine zI Tryz.call55 Tryz.func55 [31,35,36,55,94,97,99,146,168,1000000] ?_;conv=>whnf
   refine⟨fun hf=>absurd hf (by first|decide|simp),fun _=>?_⟩;conv=>whnf
   refine⟨fun hf=>absurd hf (by first|decide|simp),fun _=>?_⟩;conv=>whnf
   rw[show qau a++qau ([92,114]:SS)=qau (a++([92,114]:SS))from Codec.append qdl a ([92,114]:SS)];conv=>whnf
   obtain⟨R,h⟩:=qah h;refine⟨⟨Codec.wide qdl a,kod R,qb5 R (by decide)⟩,?_⟩;conv=>whnf
   refine⟨⟨rfl,rfl,rfl⟩,?_⟩;conv=>whnf
   exact⟨((a++([92,114]:SS)),(bif(decide (b<c.length))then qdz c b else b)),h,wk [0,1,3] []⟩
  conv=>whnf
  iterate 6 refine⟨id,?_⟩
  conv=>whnf
  refine bq h fun J d0 h=>?_;refine⟨_,fun I=>qct (qac d0 I),?_⟩;conv=>whnf
  obtain⟨c9,h⟩:=qah h;refine⟨fun I=>⟨(kod (gd c9 I):(J<=c.length)),jx _⟩,?_⟩;rw[show List.drop J (List.take c.length c)=(c.drop J)from by rw[List.take_length]];conv=>whnf
  refine⟨id,?_⟩;conv=>whnf
  refine bq h fun _ c8 h=>?_;refine⟨_,fun I=>(qyq n _ _ _ (qac c8 I)),?_⟩;conv=>whnf
  refine⟨id,id,id,id,?_⟩;conv=>whnf
  apply ifc h<;>intro d h
  ·conv=>whnf
   refine bq h fun _ b5 h=>?_;refine⟨_,qc8 b5,?_⟩;conv=>whnf
   refine zI Tryz.call99 Tryz.func99 [31,35,36,55,94,97,99,146,168,1000000] ?_;conv=>whnf
   refine zI Tryz.call31 Tryz.func31 [31,35,36,55,94,97,99,146,168,1000000] ?_;conv=>whnf
   refine zI Tryz.call55 Tryz.func55 [31,35,36,55,94,97,99,146,168,1000000] ?_;conv=>whnf
   refine⟨fun hf=>absurd hf (by first|decide|simp),fun _=>?_⟩;conv=>whnf
   refine⟨fun hf=>absurd hf (by first|decide|simp),fun _=>?_⟩;conv=>whnf
   rw[show qau a++qau ([92,120]:SS)=qau (a++([92,120]:SS))from Codec.append qdl a ([92,120]:SS)];conv=>whnf
   obtain⟨X,h⟩:=qah h;refine⟨⟨Codec.wide qdl a,kod X,qb5 X (by decide)⟩,?_⟩;conv=>whnf
   refine⟨⟨rfl,rfl,rfl⟩,?_⟩;conv=>whnf
   refine⟨by unfold gI; decide,?_⟩;conv=>whnf
   refine bq h fun e b4 h=>?_;refine⟨_,qc8 b4,?_⟩;conv=>whnf
   refine zI Tryz.call35 Tryz.func35 [31,35,36,55,94,97,99,146,168,1000000] ?_;conv=>whnf
   refine zI Tryz.call55 Tryz.func55 [31,35,36,55,94,97,99,146,168,1000000] ?_;conv=>whnf
   refine⟨fun hf=>absurd hf (by first|decide|simp),fun _=>?_⟩;conv=>whnf
   refine⟨fun hf=>absurd hf (by first|decide|simp),fun _=>?_⟩;conv=>whnf
   refine⟨Codec.one qdl [e],qau [e],.inl rfl,?_⟩;conv=>whnf
   rw[show qau (a++([92,120]:SS))++qau [e]=qau ((a++([92,120]:SS))++[e])from Codec.append qdl (a++([92,120]:SS)) [e]];conv=>whnf
   obtain⟨W,h⟩:=qah h;refine⟨⟨Codec.wide qdl ((a++([92,120]:SS))++[e]),kod W,qb5 W (by decide)⟩,?_⟩;conv=>whnf
   refine⟨⟨rfl,rfl,rfl⟩,?_⟩;conv=>whnf
   refine bq h fun o b3 h=>?_;refine⟨_,qc8 b3,?_⟩;conv=>whnf
   refine zI Tryz.call35 Tryz.func35 [31,35,36,55,94,97,99,146,168,1000000] ?_;conv=>whnf
   refine zI Tryz.call55 Tryz.func55 [31,35,36,55,94,97,99,146,168,1000000] ?_;conv=>whnf
   refine⟨fun hf=>absurd hf (by first|decide|simp),fun _=>?_⟩;conv=>whnf
   refine⟨fun hf=>absurd hf (by first|decide|simp),fun _=>?_⟩;conv=>whnf
   refine⟨Codec.one qdl [o],qau [o],.inl rfl,?_⟩;conv=>whnf
   rw[show qau ((a++([92,120]:SS))++[e])++qau [o]=qau (((a++([92,120]:SS))++[e])++[o])from Codec.append qdl ((a++([92,120]:SS))++[e]) [o]];conv=>whnf
   obtain⟨V,h⟩:=qah h;refine⟨⟨Codec.wide qdl (((a++([92,120]:SS))++[e])++[o]),kod V,qb5 V (by decide)⟩,?_⟩;conv=>whnf
   refine⟨⟨rfl,rfl,rfl⟩,?_⟩;conv=>whnf
   exact⟨((((a++([92,120]:SS))++[e])++[o]),(bif(decide (b<c.length))then qdz c b else b)),h,wk [0,1,5] []⟩
  conv=>whnf
  refine zI Tryz.call97 Tryz.func97 [31,35,36,55,94,97,99,146,168,1000000] ?_;conv=>whnf
  refine zI Tryz.call55 Tryz.func55 [31,35,36,55,94,97,99,146,168,1000000] ?_;conv=>whnf
  refine⟨fun hf=>absurd hf (by first|decide|simp),fun _=>?_⟩;conv=>whnf
  refine⟨fun hf=>absurd hf (by first|decide|simp),fun _=>?_⟩;conv=>whnf
  refine zI Tryz.call146 Tryz.func146 [31,35,36,55,94,97,99,146,168,1000000] ?_;conv=>whnf
  apply ifc h<;>intro d h
  ·conv=>whnf
   refine bq h fun q b6 h=>?_;rw[show([[PV.int .u8 (kwr .u8 ((qa7 c b:Nat):Int))]]:List (List PV))=qau [q]from by rw[qet b6]; rfl];refine⟨Codec.one qdl [q],_,.inl rfl,?_⟩;conv=>whnf
   rw[show qau a++qau [q]=qau (a++[q])from Codec.append qdl a [q]];conv=>whnf
   obtain⟨Y,h⟩:=qah h;refine⟨⟨Codec.wide qdl (a++[q]),kod Y,qb5 Y (by decide)⟩,?_⟩;conv=>whnf
   refine⟨⟨rfl,rfl,rfl⟩,?_⟩;conv=>whnf
   exact⟨((a++[q]),(bif(decide (b<c.length))then qdz c b else b)),h,wk [0,1,3] []⟩
  conv=>whnf
  refine zI Tryz.call168 Tryz.func168 [31,35,36,55,94,97,99,146,168,1000000] ?_;conv=>whnf
  apply ifc h<;>intro d h
  ·conv=>whnf
   refine⟨by unfold gI; decide,?_⟩;conv=>whnf
   refine bq h fun s b7 h=>?_;refine bq h fun t b8 h=>?_;rw[show([[PV.int .u8 (kwr .u8 (((js (kbt .u8) (192:Int) ||| js (kbt .u8) (kwr .u8 (Int.fdiv ((qa7 c b:Nat):Int) (2 ^ (min (Int.toNat (6:Int)) (kbt .i32)))))).toNat:Nat):Int))],[PV.int .u8 (kwr .u8 (((js (kbt .u8) (128:Int) ||| js (kbt .u8) (kwr .u8 (((js (kbt .u8) (kwr .u8 ((qa7 c b:Nat):Int)) &&& js (kbt .u8) (63:Int)).toNat:Nat):Int))).toNat:Nat):Int))]]:List (List PV))=qau [s,t]from by rw[qet b7,qet b8]; rfl];refine⟨Codec.one qdl [s,t],_,.inl rfl,?_⟩;conv=>whnf
   rw[show qau a++qau [s,t]=qau (a++[s,t])from Codec.append qdl a [s,t]];conv=>whnf
   obtain⟨Z,h⟩:=qah h;refine⟨⟨Codec.wide qdl (a++[s,t]),kod Z,qb5 Z (by decide)⟩,?_⟩;conv=>whnf
   refine⟨⟨rfl,rfl,rfl⟩,?_⟩;conv=>whnf
   exact⟨((a++[s,t]),(bif(decide (b<c.length))then qdz c b else b)),h,wk [0,1,3] []⟩
  conv=>whnf
  refine qhd.cut (S:=Bool) (fun K=>[(0,.tsl 2 (qau a)),(1,.p (.int .i32 ((qa7 c b:Nat):Int))),(5,.p (.int .u32 (kwr .u32 ((qa7 c b:Nat):Int)))),(25,pB K)]) (fun K=>[.box 88 [.ptr 0 0,.tsl 2 (qau a)],.sit c (bif(decide (b<c.length))then qdz c b else b),.tail 5 1 (qau a).length]) (qig n c b a a7) (r:=r) ?_ ?_
  ·intro K h
   unfold qig at h;conv=>whnf
   apply ifc h<;>intro d h
   ·conv=>whnf
    refine⟨by unfold gI; decide,?_⟩;(conv=>whnf);refine⟨by unfold gI; decide,?_⟩;(conv=>whnf);refine bq h fun u c0 h=>?_;refine bq h fun v c1 h=>?_;refine bq h fun w c2 h=>?_;rw[show([[PV.int .u8 (kwr .u8 (((js (kbt .u8) (224:Int) ||| js (kbt .u8) (kwr .u8 (Int.fdiv ((qa7 c b:Nat):Int) (2 ^ (min (Int.toNat (12:Int)) (kbt .i32)))))).toNat:Nat):Int))],[PV.int .u8 (kwr .u8 (((js (kbt .u8) (128:Int) ||| js (kbt .u8) (kwr .u8 (((js (kbt .u8) (kwr .u8 (Int.fdiv ((qa7 c b:Nat):Int) (2 ^ (min (Int.toNat (6:Int)) (kbt .i32))))) &&& js (kbt .u8) (63:Int)).toNat:Nat):Int))).toNat:Nat):Int))],[PV.int .u8 (kwr .u8 (((js (kbt .u8) (128:Int) ||| js (kbt .u8) (kwr .u8 (((js (kbt .u8) (kwr .u8 ((qa7 c b:Nat):Int)) &&& js (kbt .u8) (63:Int)).toNat:Nat):Int))).toNat:Nat):Int))]]:List (List PV))=qau [u,v,w]from by rw[qet c0,qet c1,qet c2]; rfl];refine⟨Codec.one qdl [u,v,w],_,.inl rfl,?_⟩;(conv=>whnf);rw[show qau a++qau [u,v,w]=qau (a++[u,v,w])from Codec.append qdl a [u,v,w]];(conv=>whnf);obtain⟨a0,h⟩:=qah h;refine⟨⟨Codec.wide qdl (a++[u,v,w]),kod a0,qb5 a0 (by decide)⟩,?_⟩;(conv=>whnf);refine⟨⟨rfl,rfl,rfl⟩,?_⟩;(conv=>whnf);exact⟨((a++[u,v,w]),(bif(decide (b<c.length))then qdz c b else b)),h,wk [0,1,3] []⟩
   conv=>whnf
   refine⟨id,id,?_⟩;conv=>whnf
   apply ifc h<;>intro d h
   ·conv=>whnf
    refine⟨by unfold gI; decide,?_⟩;(conv=>whnf);refine⟨by unfold gI; decide,?_⟩;(conv=>whnf);refine⟨by unfold gI; decide,?_⟩;(conv=>whnf);refine bq h fun x c3 h=>?_;refine bq h fun y c4 h=>?_;refine bq h fun z c5 h=>?_;refine bq h fun A c6 h=>?_;rw[show([[PV.int .u8 (kwr .u8 (((js (kbt .u8) (240:Int) ||| js (kbt .u8) (kwr .u8 (Int.fdiv ((qa7 c b:Nat):Int) (2 ^ (min (Int.toNat (18:Int)) (kbt .i32)))))).toNat:Nat):Int))],[PV.int .u8 (kwr .u8 (((js (kbt .u8) (128:Int) ||| js (kbt .u8) (kwr .u8 (((js (kbt .u8) (kwr .u8 (Int.fdiv ((qa7 c b:Nat):Int) (2 ^ (min (Int.toNat (12:Int)) (kbt .i32))))) &&& js (kbt .u8) (63:Int)).toNat:Nat):Int))).toNat:Nat):Int))],[PV.int .u8 (kwr .u8 (((js (kbt .u8) (128:Int) ||| js (kbt .u8) (kwr .u8 (((js (kbt .u8) (kwr .u8 (Int.fdiv ((qa7 c b:Nat):Int) (2 ^ (min (Int.toNat (6:Int)) (kbt .i32))))) &&& js (kbt .u8) (63:Int)).toNat:Nat):Int))).toNat:Nat):Int))],[PV.int .u8 (kwr .u8 (((js (kbt .u8) (128:Int) ||| js (kbt .u8) (kwr .u8 (((js (kbt .u8) (kwr .u8 ((qa7 c b:Nat):Int)) &&& js (kbt .u8) (63:Int)).toNat:Nat):Int))).toNat:Nat):Int))]]:List (List PV))=qau [x,y,z,A]from by rw[qet c3,qet c4,qet c5,qet c6]; rfl];refine⟨Codec.one qdl [x,y,z,A],_,.inl rfl,?_⟩;(conv=>whnf);rw[show qau a++qau [x,y,z,A]=qau (a++[x,y,z,A])from Codec.append qdl a [x,y,z,A]];(conv=>whnf);obtain⟨a1,h⟩:=qah h;refine⟨⟨Codec.wide qdl (a++[x,y,z,A]),kod a1,qb5 a1 (by decide)⟩,?_⟩;(conv=>whnf);refine⟨⟨rfl,rfl,rfl⟩,?_⟩;(conv=>whnf);exact⟨((a++[x,y,z,A]),(bif(decide (b<c.length))then qdz c b else b)),h,wk [0,1,3] []⟩
   conv=>whnf
   refine⟨Codec.one qdl [(239:UInt8),(191:UInt8),(189:UInt8)],qau [(239:UInt8),(191:UInt8),(189:UInt8)],.inl rfl,?_⟩;conv=>whnf
   rw[show qau a++qau [(239:UInt8),(191:UInt8),(189:UInt8)]=qau (a++[(239:UInt8),(191:UInt8),(189:UInt8)])from Codec.append qdl a [(239:UInt8),(191:UInt8),(189:UInt8)]];conv=>whnf
   obtain⟨a2,h⟩:=qah h;refine⟨⟨Codec.wide qdl (a++[(239:UInt8),(191:UInt8),(189:UInt8)]),kod a2,qb5 a2 (by decide)⟩,?_⟩;conv=>whnf
   refine⟨⟨rfl,rfl,rfl⟩,?_⟩;conv=>whnf
   exact⟨((a++[(239:UInt8),(191:UInt8),(189:UInt8)]),(bif(decide (b<c.length))then qdz c b else b)),h,wk [0,1,3] []⟩
  conv=>whnf
  apply ifc h<;>intro d h
  ·conv=>whnf
   exact⟨(decide ((kwr .u32 ((qa7 c b:Nat):Int))<55296)),h,wk [0,1,2] []⟩
  conv=>whnf
  refine⟨id,id,?_⟩;conv=>whnf
  exact⟨(bif(decide ((57343:Int)<(kwr .u32 ((qa7 c b:Nat):Int))))then(decide ((kwr .u32 ((qa7 c b:Nat):Int))<=65535))else false),h,wk [0,1,2] []⟩
 conv=>whnf
 refine zI Tryz.call35 Tryz.func35 [31,35,36,55,94,97,99,146,168,1000000] ?_;conv=>whnf
 refine zI Tryz.call55 Tryz.func55 [31,35,36,55,94,97,99,146,168,1000000] ?_;conv=>whnf
 refine⟨fun hf=>absurd hf (by first|decide|simp),fun _=>?_⟩;conv=>whnf
 refine⟨fun hf=>absurd hf (by first|decide|simp),fun _=>?_⟩;conv=>whnf
 refine⟨Codec.one qdl [(39:UInt8)],qau [(39:UInt8)],.inl rfl,?_⟩;conv=>whnf
 rw[show qau a++qau [(39:UInt8)]=qau (a++[(39:UInt8)])from Codec.append qdl a [(39:UInt8)]];conv=>whnf
 obtain⟨a3,h⟩:=qah h;refine⟨⟨Codec.wide qdl (a++[(39:UInt8)]),kod a3,qb5 a3 (by decide)⟩,?_⟩;conv=>whnf
 refine⟨⟨rfl,rfl,rfl⟩,?_⟩;conv=>whnf
 refine qk1.string_any (T:=88) (E:=5) zk5 q13 q12 (k:=0) (j:=3) (bs:=(a++[(39:UInt8)])) (n:=(qau (a++[(39:UInt8)])).length) rfl rfl ?_;obtain rfl:=sj h;conv=>whnf
 try exact fin
abbrev ze5 (r:SS):PV:=PV.str r
def qrr (n:Nat) (a:SS):Option SS:=
 bnd (qe3 n a) fun b=>
 bif b then(
 some a)
 else(
 bnd (qsj n a) fun c=>
 some c)
theorem q1x (n:Nat):∀ (a r:SS),qrr n a=some r->qai TP 34 [PV.str a] (ze5 r):=by
 intro a r h;unfold qrr at h;refine zN Tryz.call34 Tryz.func34 [1000000] ?_;conv=>whnf
 refine bq h fun _ c h=>?_;refine⟨_,(qf3 n _ _ c),?_⟩;conv=>whnf
 apply ifc h<;>intro _ h
 ·obtain rfl:=sj h
  conv=>whnf
  try exact fin
 conv=>whnf
 refine bq h fun _ b h=>?_;refine⟨_,(q89 n _ _ b),?_⟩;obtain rfl:=sj h;conv=>whnf
 try exact fin
abbrev ze2 (r:SS):PV:=PV.str r
def qj2 (n:Nat) (g:List qdj) (i:Int×SS->Option SS) (p:Int):(Int×SS->Option SS)->Int×SS->Option SS:=fun j (e,d)=>
 bif(decide (e<((qdj.rows g).length:Int)))then(
 bnd (idx g e) fun⟨k,l,m,o⟩=>
 bnd (qp9 n k) fun a=>
 chk (decide (((([59,32,115,101,101,107,32]:SS).length+a.length:Nat):Int)<=qhj)) (
 chk (decide ((((([59,32,115,101,101,107,32]:SS)++a).length+([32]:SS).length:Nat):Int)<=qhj)) (
 bnd (qp9 n l) fun b=>
 chk (decide (((((([59,32,115,101,101,107,32]:SS)++a)++([32]:SS)).length+b.length:Nat):Int)<=qhj)) (
 chk (decide ((((((([59,32,115,101,101,107,32]:SS)++a)++([32]:SS))++b).length+([32]:SS).length:Nat):Int)<=qhj)) (
 bnd (qrr n m) fun c=>
 chk (decide (((((((([59,32,115,101,101,107,32]:SS)++a)++([32]:SS))++b)++([32]:SS)).length+c.length:Nat):Int)<=qhj)) (
 chk (decide ((((((((([59,32,115,101,101,107,32]:SS)++a)++([32]:SS))++b)++([32]:SS))++c).length+([46]:SS).length:Nat):Int)<=qhj)) (
 bnd (qrr n o) fun f=>
 chk (decide (((((((((([59,32,115,101,101,107,32]:SS)++a)++([32]:SS))++b)++([32]:SS))++c)++([46]:SS)).length+f.length:Nat):Int)<=qhj)) (
 chk (decide ((qau (d++(((((((([59,32,115,101,101,107,32]:SS)++a)++([32]:SS))++b)++([32]:SS))++c)++([46]:SS))++f))).length * 1<=140737488355328)) (
 j ((kwr .i64 (e+1)),(d++(((((((([59,32,115,101,101,107,32]:SS)++a)++([32]:SS))++b)++([32]:SS))++c)++([46]:SS))++f))))))))))))
 else(
 chk (decide ((qau (d++[(10:UInt8)])).length * 1<=140737488355328)) (
 i ((kwr .i64 (p+1)),(d++[(10:UInt8)]))))
def qo2 (n:Nat) (d:List qdj) (a:Int×SS->Option SS) (c:Int):SS->Option SS:=fun b=>
 qam (qj2 n d a c) n ((0:Int),b)
def qma (n:Nat) (g:List qao):(Int×SS->Option SS)->Int×SS->Option SS:=fun f (d,b)=>
 bif(decide (d<((qao.rows g).length:Int)))then(
 bnd (idx g d) fun⟨l,i,j,k⟩=>
 bnd (qun n l) fun a=>
 chk (decide (((a.length+([32]:SS).length:Nat):Int)<=qhj)) (
 bnd (qp9 n i) fun c=>
 chk (decide ((((a++([32]:SS)).length+c.length:Nat):Int)<=qhj)) (
 chk (decide ((qau (b++((a++([32]:SS))++c))).length * 1<=140737488355328)) (
 bif(j != i)then(
 bnd (qp9 n j) fun e=>
 chk (decide (((([32,116,111,32]:SS).length+e.length:Nat):Int)<=qhj)) (
 chk (decide ((qau ((b++((a++([32]:SS))++c))++(([32,116,111,32]:SS)++e))).length * 1<=140737488355328)) (
 qo2 n k f d ((b++((a++([32]:SS))++c))++(([32,116,111,32]:SS)++e)))))
 else(
 qo2 n k f d (b++((a++([32]:SS))++c)))))))
 else(
 some b)
def qpw (n:Nat) (a:List qao):Option SS:=
 qam (qma n a) n ((0:Int),([]:List _))
set_option maxHeartbeats 4000000 in
theorem qv1 (n:Nat):∀ (g:List qao) (r:SS),qpw n g=some r->qai TP 13 [PV.sl (qao.rows g)] (ze2 r):=by
 intro g r h;unfold qpw at h;refine zN Tryz.call13 Tryz.func13 [31,35,36,55,94,1000000] ?_;conv=>whnf
 refine qbh.fn [31,35,36,55,94,1000000] (S:=Int×SS) (fun(l,a)=>[(3,.ptr 0 0),(8,pY g),(9,.p (.int .i64 ((qao.rows g).length:Int))),(10,pI l)]) (fun(l,a)=>[.box 88 [.bself 0,.tsl 1 (qau a)],.tail 5 1 (qau a).length]) (B:=qma n g) h (wk [0,0] [1]) ?_;intro z st h;obtain⟨l,a⟩:=st;unfold qma at h;conv=>whnf
 apply ifc h<;>intro y h
 ·conv=>whnf
  refine bq h fun s0 Q h=>?_;obtain⟨A,C,D,o⟩:=s0;refine⟨_,Codec.at_ qbe Q,?_⟩;conv=>whnf
  refine bq h fun b P h=>?_;refine⟨_,(zbp n _ _ P),?_⟩;conv=>whnf
  obtain⟨O,h⟩:=qah h;refine⟨(kod O:((b.length+([32]:SS).length:Nat):Int)<=qhj),?_⟩;conv=>whnf
  refine bq h fun d N h=>?_;refine⟨_,(qtj n _ _ N),?_⟩;conv=>whnf
  obtain⟨M,h⟩:=qah h;refine⟨(kod M:(((b++([32]:SS)).length+d.length:Nat):Int)<=qhj),?_⟩;conv=>whnf
  obtain⟨s,h⟩:=qah h;refine⟨.p (.tup [.int .i64 ((((b++([32]:SS))++d).length:Nat):Int),.nili]),[.box 88 [.ptr 0 0,.tsl 3 (qau (a++((b++([32]:SS))++d)))],.dead,.box 37 [pI A,pI C,pI D,pX o],.tail 5 1 (qau (a++((b++([32]:SS))++d))).length],?_,?_⟩
  ·conv=>whnf
   refine zI Tryz.call31 Tryz.func31 [31,35,36,55,94,1000000] ?_;conv=>whnf
   refine zI Tryz.call55 Tryz.func55 [31,35,36,55,94,1000000] ?_;conv=>whnf
   refine⟨?_,?_⟩
   ·conv=>whnf
    refine⟨fun _=>?_,fun hf=>absurd hf (by first|decide|simp)⟩;conv=>whnf
    refine⟨⟨by decide,by first|decide|exact Nat.zero_lt_succ _⟩,?_⟩;conv=>whnf
    refine qk1.noEscape Tryz.func94 (by kernel_rfl) (by kernel_rfl) (by kernel_rfl) (by kernel_rfl) ?_;(conv=>whnf);refine⟨by kernel_rfl,?_⟩;(conv=>whnf);rw[show qau a++qau ((b++([32]:SS))++d)=qau (a++((b++([32]:SS))++d))from Codec.append qdl a ((b++([32]:SS))++d)];(conv=>whnf);refine⟨⟨Codec.wide qdl a,kod s,qb5 s (by decide)⟩,?_⟩;(conv=>whnf);refine⟨⟨rfl,rfl,rfl⟩,?_⟩;exact⟨rfl,rfl⟩
   conv=>whnf
   refine⟨fun hf=>absurd hf (by first|decide|simp),fun _=>?_⟩;conv=>whnf
   refine⟨fun hf=>absurd hf (by first|decide|simp),fun _=>?_⟩;conv=>whnf
   rw[show qau a++qau ((b++([32]:SS))++d)=qau (a++((b++([32]:SS))++d))from Codec.append qdl a ((b++([32]:SS))++d)];conv=>whnf
   refine⟨⟨Codec.wide qdl a,kod s,qb5 s (by decide)⟩,?_⟩;conv=>whnf
   refine⟨⟨rfl,rfl,rfl⟩,?_⟩;exact⟨rfl,rfl⟩
  conv=>whnf
  refine qhd.cut (S:=SS) (fun t=>[(3,.ptr 0 0),(5,.ptr 1 0),(8,pY g),(9,.p (.int .i64 ((qao.rows g).length:Int))),(10,pI l)]) (fun t=>[.box 88 [.ptr 0 0,.tsl 2 (qau t)],.box 37 [pI A,pI C,pI D,pX o],.tail 5 1 (qau t).length]) (qo2 n o z l) (r:=r) ?_ ?_
  ·intro t h
   unfold qo2 at h;conv=>whnf
   refine qbh.fn [31,35,36,55,94,1000000] (S:=Int×SS) (fun(u,c)=>[(3,.ptr 0 0),(8,pY g),(9,.p (.int .i64 ((qao.rows g).length:Int))),(10,pI l),(34,pX o),(35,.p (.int .i64 ((qdj.rows o).length:Int))),(36,pI u)]) (fun(u,c)=>[.box 88 [.ptr 0 0,.tsl 1 (qau c)],.tail 5 1 (qau c).length]) (B:=qj2 n o z l) h (wk [0,2] []) ?_;intro _ st h;obtain⟨u,c⟩:=st;unfold qj2 at h;conv=>whnf
   apply ifc h<;>intro y h
   ·conv=>whnf
    refine bq h fun s0 J h=>?_;obtain⟨a0,a1,a2,a3⟩:=s0;refine⟨_,Codec.at_ qyx J,?_⟩;(conv=>whnf);refine bq h fun e I h=>?_;refine⟨_,(qtj n _ _ I),?_⟩;(conv=>whnf);obtain⟨H,h⟩:=qah h;refine⟨(kod H:((([59,32,115,101,101,107,32]:SS).length+e.length:Nat):Int)<=qhj),?_⟩;(conv=>whnf);obtain⟨G,h⟩:=qah h;refine⟨(kod G:(((([59,32,115,101,101,107,32]:SS)++e).length+([32]:SS).length:Nat):Int)<=qhj),?_⟩;(conv=>whnf);refine bq h fun f F h=>?_;refine⟨_,(qtj n _ _ F),?_⟩;(conv=>whnf);obtain⟨Z,h⟩:=qah h;refine⟨(kod Z:((((([59,32,115,101,101,107,32]:SS)++e)++([32]:SS)).length+f.length:Nat):Int)<=qhj),?_⟩;(conv=>whnf);obtain⟨Y,h⟩:=qah h;refine⟨(kod Y:(((((([59,32,115,101,101,107,32]:SS)++e)++([32]:SS))++f).length+([32]:SS).length:Nat):Int)<=qhj),?_⟩;(conv=>whnf);refine bq h fun i X h=>?_;refine⟨_,(q1x n _ _ X),?_⟩;(conv=>whnf);obtain⟨W,h⟩:=qah h;refine⟨(kod W:((((((([59,32,115,101,101,107,32]:SS)++e)++([32]:SS))++f)++([32]:SS)).length+i.length:Nat):Int)<=qhj),?_⟩;(conv=>whnf);obtain⟨V,h⟩:=qah h;refine⟨(kod V:(((((((([59,32,115,101,101,107,32]:SS)++e)++([32]:SS))++f)++([32]:SS))++i).length+([46]:SS).length:Nat):Int)<=qhj),?_⟩;(conv=>whnf);refine bq h fun m U h=>?_;refine⟨_,(q1x n _ _ U),?_⟩;(conv=>whnf);obtain⟨R,h⟩:=qah h;refine⟨(kod R:((((((((([59,32,115,101,101,107,32]:SS)++e)++([32]:SS))++f)++([32]:SS))++i)++([46]:SS)).length+m.length:Nat):Int)<=qhj),?_⟩;(conv=>whnf);obtain⟨x,h⟩:=qah h;refine⟨.p (.tup [.int .i64 (((((((((([59,32,115,101,101,107,32]:SS)++e)++([32]:SS))++f)++([32]:SS))++i)++([46]:SS))++m).length:Nat):Int),.nili]),[.box 88 [.ptr 0 0,.tsl 3 (qau (c++(((((((([59,32,115,101,101,107,32]:SS)++e)++([32]:SS))++f)++([32]:SS))++i)++([46]:SS))++m)))],.dead,.box 53 [pI a0,pI a1,pS a2,pS a3],.tail 5 1 (qau (c++(((((((([59,32,115,101,101,107,32]:SS)++e)++([32]:SS))++f)++([32]:SS))++i)++([46]:SS))++m))).length],?_,?_⟩
    ·conv=>whnf
     refine zI Tryz.call31 Tryz.func31 [31,35,36,55,94,1000000] ?_;(conv=>whnf);refine zI Tryz.call55 Tryz.func55 [31,35,36,55,94,1000000] ?_;(conv=>whnf);refine⟨fun hf=>absurd hf (by first|decide|simp),fun _=>?_⟩;conv=>whnf
     refine⟨fun hf=>absurd hf (by first|decide|simp),fun _=>?_⟩;conv=>whnf
     rw[show qau c++qau (((((((([59,32,115,101,101,107,32]:SS)++e)++([32]:SS))++f)++([32]:SS))++i)++([46]:SS))++m)=qau (c++(((((((([59,32,115,101,101,107,32]:SS)++e)++([32]:SS))++f)++([32]:SS))++i)++([46]:SS))++m))from Codec.append qdl c (((((((([59,32,115,101,101,107,32]:SS)++e)++([32]:SS))++f)++([32]:SS))++i)++([46]:SS))++m)];(conv=>whnf);refine⟨⟨Codec.wide qdl c,kod x,qb5 x (by decide)⟩,?_⟩;(conv=>whnf);refine⟨⟨rfl,rfl,rfl⟩,?_⟩;exact⟨rfl,rfl⟩
    (conv=>whnf);exact⟨((kwr .i64 (u+1)),(c++(((((((([59,32,115,101,101,107,32]:SS)++e)++([32]:SS))++f)++([32]:SS))++i)++([46]:SS))++m))),h,wk [0,3] []⟩
   conv=>whnf
   refine zI Tryz.call35 Tryz.func35 [31,35,36,55,94,1000000] ?_;conv=>whnf
   refine zI Tryz.call55 Tryz.func55 [31,35,36,55,94,1000000] ?_;conv=>whnf
   refine⟨fun hf=>absurd hf (by first|decide|simp),fun _=>?_⟩;conv=>whnf
   refine⟨fun hf=>absurd hf (by first|decide|simp),fun _=>?_⟩;conv=>whnf
   refine⟨Codec.one qdl [(10:UInt8)],qau [(10:UInt8)],.inl rfl,?_⟩;conv=>whnf
   rw[show qau c++qau [(10:UInt8)]=qau (c++[(10:UInt8)])from Codec.append qdl c [(10:UInt8)]];conv=>whnf
   obtain⟨v,h⟩:=qah h;refine⟨⟨Codec.wide qdl (c++[(10:UInt8)]),kod v,qb5 v (by decide)⟩,?_⟩;conv=>whnf
   refine⟨⟨rfl,rfl,rfl⟩,?_⟩;conv=>whnf
   exact⟨((kwr .i64 (l+1)),(c++[(10:UInt8)])),h,wk [0,2] []⟩
  conv=>whnf
  apply ifc h<;>intro y h
  ·conv=>whnf
   refine bq h fun q L h=>?_;refine⟨_,(qtj n _ _ L),?_⟩;conv=>whnf
   obtain⟨K,h⟩:=qah h;refine⟨(kod K:((([32,116,111,32]:SS).length+q.length:Nat):Int)<=qhj),?_⟩;conv=>whnf
   refine zI Tryz.call31 Tryz.func31 [31,35,36,55,94,1000000] ?_;conv=>whnf
   refine zI Tryz.call55 Tryz.func55 [31,35,36,55,94,1000000] ?_;conv=>whnf
   refine⟨fun hf=>absurd hf (by first|decide|simp),fun _=>?_⟩;conv=>whnf
   refine⟨fun hf=>absurd hf (by first|decide|simp),fun _=>?_⟩;conv=>whnf
   rw[show qau (a++((b++([32]:SS))++d))++qau (([32,116,111,32]:SS)++q)=qau ((a++((b++([32]:SS))++d))++(([32,116,111,32]:SS)++q))from Codec.append qdl (a++((b++([32]:SS))++d)) (([32,116,111,32]:SS)++q)];conv=>whnf
   obtain⟨w,h⟩:=qah h;refine⟨⟨Codec.wide qdl (a++((b++([32]:SS))++d)),kod w,qb5 w (by decide)⟩,?_⟩;conv=>whnf
   refine⟨⟨rfl,rfl,rfl⟩,?_⟩;conv=>whnf
   exact⟨((a++((b++([32]:SS))++d))++(([32,116,111,32]:SS)++q)),h,wk [0,2,4] []⟩
  conv=>whnf
  exact⟨(a++((b++([32]:SS))++d)),h,wk [0,2,3] []⟩
 conv=>whnf
 refine qk1.string_any (T:=88) (E:=5) zk5 q13 q12 (k:=0) (j:=1) (bs:=a) (n:=(qau a).length) rfl rfl ?_;obtain rfl:=sj h;conv=>whnf
 try exact fin
abbrev zee (r:Bool):PV:=PV.bool r
def qes (n:Nat):Option (Bool):=
 bnd (q2a n ([77,65,84,67,72,32,40,110,58,65,32,123,107,58,32,49,125,41,32,87,73,84,72,32,110,46,107,32,65,83,32,107,32,87,72,69,82,69,32,107,32,62,32,48,32,82,69,84,85,82,78,32,99,111,117,110,116,40,42,41,32,65,83,32,99]:SS)) fun⟨⟨b⟩,_,_⟩=>
 bnd (qj0 n (qip.mk b)) fun⟨c,a⟩=>
 bnd (qaw (a==0) (qpw n c)) fun d=>
 some (bif(a==0)then(d==([102,108,111,119,32,48,32,116,111,32,49,59,32,115,101,101,107,32,48,32,48,32,65,46,107,10,119,104,111,108,101,32,50,10]:SS))else false)
theorem qek (n:Nat):∀ (r:Bool),qes n=some r->qai TP 9 [] (zee r):=by
 intro r h;unfold qes at h;refine zN Tryz.call9 Tryz.func9 [1000000] ?_;conv=>whnf
 refine bq h fun s0 c h=>?_;obtain⟨⟨_⟩,_,_⟩:=s0;refine⟨_,(zbe n _ _ c),?_⟩;conv=>whnf
 refine bq h fun s0 b h=>?_;obtain⟨_,_⟩:=s0;refine⟨_,(ql9 n _ _ b),?_⟩;conv=>whnf
 refine⟨id,?_⟩;conv=>whnf
 refine bq h fun _ a h=>?_;refine⟨_,fun d=>(qv1 n _ _ (qac a d)),?_⟩;conv=>whnf
 refine⟨id,id,?_⟩;obtain rfl:=sj h;conv=>whnf
 try exact fin
abbrev q7m (r:Int):PV:=PV.int .i64 r
def qh2 (n:Nat) (b:List SS) (e:SS) (d:List Int):LK (Int) (Int):=fun c a=>
 bif(decide (a<((qak b).length:Int)))then(
 bnd (idx b a) fun f=>
 bif(f==e)then(
 bnd (idx d a) fun g=>
 some g)
 else(
 c (kwr .i64 (a+1))))
 else(
 some (0:Int))
def qd6 (n:Nat) (a:qa8) (d:SS):Option (Int):=
 match a with
 | ⟨b,c⟩=>
 qam (qh2 n b d c) n (0:Int)
theorem qep (n:Nat):∀ (b:qa8) (a:SS) (r:Int),qd6 n b a=some r->qai TP 63 [PV.agg (qqd.cells b),PV.str a] (q7m r):=by
 intro b a r h;obtain⟨d,e⟩:=b;unfold qd6 at h;refine zN Tryz.call63 Tryz.func63 [1000000] ?_;conv=>whnf
 refine qbh.fn [1000000] (S:=Int) (fun c=>[(1,pS a),(2,.ptr 0 0),(5,pI c)]) (fun c=>[.box 99 [pT d,.p (.sl (qcs .i64 e))]]) (B:=qh2 n d a e) h (wk [0] []) ?_;intro _ c h;unfold qh2 at h;conv=>whnf
 apply ifc h<;>intro i h
 ·conv=>whnf
  refine bq h fun _ g h=>?_;refine⟨_,Codec.at_ qpr g,?_⟩;conv=>whnf
  apply ifc h<;>intro i h
  ·conv=>whnf
   refine bq h fun _ f h=>?_;refine⟨_,Codec.at_ (zt2 .i64) f,?_⟩;obtain rfl:=sj h;conv=>whnf
   try exact fin
  conv=>whnf
  exact⟨(kwr .i64 (c+1)),h,wk [0] []⟩
 obtain rfl:=sj h;conv=>whnf
 try exact fin
abbrev zgo (r:Int×Int×Int):PV:=PV.tup [PV.int .i64 r.1,PV.int .i64 r.2.1,PV.int .i64 r.2.2]
def qi5 (n:Nat) (a:SS):Bool->Option (Int×Int×Int):=fun b=>
 bif b then(
 some ((1:Int),(1:Int),(3:Int)))
 else(
 bif(a==([99,111,97,108,101,115,99,101]:SS))then(
 some ((1:Int),(1048576:Int),(3:Int)))
 else(
 bif(a==([107,101,121,115]:SS))then(
 some ((1:Int),(1:Int),(0:Int)))
 else(
 bif(a==([108,97,98,101,108,115]:SS))then(
 some ((1:Int),(1:Int),(1:Int)))
 else(
 bif(a==([116,121,112,101]:SS))then(
 some ((1:Int),(1:Int),(2:Int)))
 else(
 bif(a==([114,97,110,103,101]:SS))then(
 some ((2:Int),(2:Int),(3:Int)))
 else(
 some ((1:Int),(0:Int),(0:Int))))))))
def qwo (n:Nat) (a:SS):Option (Int×Int×Int):=
 bif(a==([115,105,122,101]:SS))then(
 qi5 n a (a==([115,105,122,101]:SS)))
 else(
 bif(a==([97,98,115]:SS))then(
 qi5 n a (a==([97,98,115]:SS)))
 else(
 bif(a==([104,101,97,100]:SS))then(
 qi5 n a (a==([104,101,97,100]:SS)))
 else(
 bif(a==([108,97,115,116]:SS))then(
 qi5 n a (a==([108,97,115,116]:SS)))
 else(
 qi5 n a (a==([116,101,120,116]:SS))))))
theorem zdx (n:Nat):∀ (a:SS) (r:Int×Int×Int),qwo n a=some r->qai TP 152 [PV.str a] (zgo r):=by
 intro a r h;unfold qwo at h;refine zN Tryz.call152 Tryz.func152 [1000000] ?_;conv=>whnf
 refine qhd.cut (S:=Bool) (fun c=>[(5,pS a),(6,pB c)]) (fun c=>[]) (qi5 n a) (r:=r) ?_ ?_
 ·intro c h
  unfold qi5 at h;conv=>whnf
  apply ifc h<;>intro b h
  ·obtain rfl:=sj h
   conv=>whnf
   try exact fin
  conv=>whnf
  apply ifc h<;>intro b h
  ·obtain rfl:=sj h
   conv=>whnf
   try exact fin
  conv=>whnf
  apply ifc h<;>intro b h
  ·obtain rfl:=sj h
   conv=>whnf
   try exact fin
  conv=>whnf
  apply ifc h<;>intro b h
  ·obtain rfl:=sj h
   conv=>whnf
   try exact fin
  conv=>whnf
  apply ifc h<;>intro b h
  ·obtain rfl:=sj h
   conv=>whnf
   try exact fin
  conv=>whnf
  apply ifc h<;>intro b h
  ·obtain rfl:=sj h
   conv=>whnf
   try exact fin
  obtain rfl:=sj h;conv=>whnf
  try exact fin
 conv=>whnf
 apply ifc h<;>intro b h
 ·conv=>whnf
  exact⟨(a==([115,105,122,101]:SS)),h,wk [] []⟩
 conv=>whnf
 apply ifc h<;>intro b h
 ·conv=>whnf
  exact⟨(a==([97,98,115]:SS)),h,wk [] []⟩
 conv=>whnf
 apply ifc h<;>intro b h
 ·conv=>whnf
  exact⟨(a==([104,101,97,100]:SS)),h,wk [] []⟩
 conv=>whnf
 apply ifc h<;>intro b h
 ·conv=>whnf
  exact⟨(a==([108,97,115,116]:SS)),h,wk [] []⟩
 conv=>whnf
 exact⟨(a==([116,101,120,116]:SS)),h,wk [] []⟩
abbrev zeu (r:Bool):PV:=PV.bool r
def ql2 (n:Nat) (a:Int) (c:List SS) (d:Int->Option (Bool)):LK (Int) (Bool):=fun e b=>
 bif(decide (b<a))then(
 bnd (idx c a) fun f=>
 bnd (idx c b) fun g=>
 bif(f==g)then(
 some true)
 else(
 e (kwr .i64 (b+1))))
 else(
 d (kwr .i64 (a+1)))
def qjv (n:Nat) (a:List SS):LK (Int) (Bool):=fun c b=>
 bif(decide (b<((qak a).length:Int)))then(
 qam (ql2 n b a c) n (0:Int))
 else(
 some false)
def qrl (n:Nat) (a:List SS):Option (Bool):=
 qam (qjv n a) n (0:Int)
theorem q1s (n:Nat):∀ (a:List SS) (r:Bool),qrl n a=some r->qai TP 151 [PV.sl (qak a)] (zeu r):=by
 intro a r h;unfold qrl at h;refine zN Tryz.call151 Tryz.func151 [1000000] ?_;conv=>whnf
 refine qbh.fn [1000000] (S:=Int) (fun b=>[(0,pT a),(3,pI b)]) (fun b=>[]) (B:=qjv n a) h (wk [] []) ?_;intro g b h;unfold qjv at h;conv=>whnf
 apply ifc h<;>intro d h
 ·conv=>whnf
  refine qbh.fn [1000000] (S:=Int) (fun c=>[(0,pT a),(3,pI b),(4,pI c)]) (fun c=>[]) (B:=ql2 n b a g) h (wk [] []) ?_;intro _ c h;unfold ql2 at h;conv=>whnf
  apply ifc h<;>intro d h
  ·conv=>whnf
   refine bq h fun _ f h=>?_;refine⟨_,Codec.at_ qpr f,?_⟩;conv=>whnf
   refine bq h fun _ e h=>?_;refine⟨_,Codec.at_ qpr e,?_⟩;conv=>whnf
   apply ifc h<;>intro d h
   ·obtain rfl:=sj h
    conv=>whnf
    try exact fin
   conv=>whnf
   exact⟨(kwr .i64 (c+1)),h,wk [] []⟩
  conv=>whnf
  exact⟨(kwr .i64 (b+1)),h,wk [] []⟩
 obtain rfl:=sj h;conv=>whnf
 try exact fin
abbrev qur (r:Int):PV:=PV.int .i64 r
abbrev zv2:Type:=qa8->qaa->Option (Int×Int)
def qp8 (n:Nat) (c:List qaa) (g105:zv2) (f:List SS) (p:List Int) (d:Int):LK (Int) (Int):=fun e a=>
 bif(decide (a<((qaa.rows c).length:Int)))then(
 bnd (idx c a) fun⟨q,s,⟨t,u,g,i,j,k⟩,l,m⟩=>
 bnd (g105 (qa8.mk f p) (qaa.mk q s (Val.mk t u g i j k) l m)) fun⟨o,b⟩=>
 bif(b != 0)then(
 some b)
 else(
 bif(bif(decide (d>0))then(o != d)else false)then(
 some (3:Int))
 else(
 e (kwr .i64 (a+1)))))
 else(
 some (0:Int))
abbrev zwd:Type:=qa8->(List qaa)->Int->Option (Int)
def q0f (n:Nat) (g62:zwd) (g105:zv2) (a:qa8) (d:List qaa) (e:Int):Option (Int):=
 match a with
 | ⟨b,c⟩=>
 qam (qp8 n d g105 b c e) n (0:Int)
abbrev qsl (r:Int×Int):PV:=PV.tup [PV.int .i64 r.1,PV.int .i64 r.2]
def qe1 (n:Nat):Int->Option (Int×Int):=fun a=>
 some ((3:Int),a)
def qnu (n:Nat) (g62:zwd) (a:List SS) (c:List Int) (b:List qaa) (f:Int) (g:SS) (g105:zv2) (i:List SS):Bool->Option (Int×Int):=fun j=>
 bif j then(
 bnd (g62 (qa8.mk a c) b (0:Int)) fun k=>
 qe1 n k)
 else(
 bif(f==15)then(
 bnd (g62 (qa8.mk a c) b (1:Int)) fun l=>
 qe1 n l)
 else(
 bif(f==10)then(
 bif(bif(g==([61]:SS))then true else(g==([60,62]:SS)))then(
 bnd (g62 (qa8.mk a c) b (0:Int)) fun d=>
 bif(d==0)then(
 bnd (idx b (0:Int)) fun⟨m,o,⟨p,q,s,t,u,v⟩,w,x⟩=>
 bnd (g105 (qa8.mk a c) (qaa.mk m o (Val.mk p q s t u v) w x)) fun⟨y,_⟩=>
 bnd (idx b (1:Int)) fun⟨z,A,⟨B,C,D,E,F,G⟩,H,I⟩=>
 bnd (g105 (qa8.mk a c) (qaa.mk z A (Val.mk B C D E F G) H I)) fun⟨J,_⟩=>
 bif(y != J)then(
 qe1 n (3:Int))
 else(
 qe1 n d))
 else(
 qe1 n d))
 else(
 bnd (g62 (qa8.mk a c) b (3:Int)) fun K=>
 qe1 n K))
 else(
 bnd (g62 (qa8.mk a c) b (3:Int)) fun e=>
 bnd (qaw (e==0) (qrl n i)) fun L=>
 bif(bif(e==0)then L else false)then(
 qe1 n (2:Int))
 else(
 qe1 n e))))
def qxb (n:Nat) (g62:zwd) (g105:zv2) (i:qa8) (j:qaa):Option (Int×Int):=
 match i,j with
 | ⟨c,d⟩,⟨a,e,⟨_,_,_,_,_,_⟩,f,b⟩=>
 bif(a==2)then(
 bnd (qd6 n (qa8.mk c d) e) fun g=>
 bif(g==0)then(
 some ((0:Int),(2:Int)))
 else(
 some (g,(0:Int))))
 else(
 bif(a==14)then(
 some ((0:Int),(2:Int)))
 else(
 bif(a==13)then(
 bnd (qwo n e) fun⟨k,l,m⟩=>
 bif(bif(decide (((qaa.rows b).length:Int)<k))then true else(decide (((qaa.rows b).length:Int)>l)))then(
 some ((0:Int),(2:Int)))
 else(
 bnd (g62 (qa8.mk c d) b m) fun o=>
 qe1 n o))
 else(
 bif(a==4)then(
 qnu n g62 c d b a e g105 f (a==4))
 else(
 bif(a==11)then(
 qnu n g62 c d b a e g105 f (a==11))
 else(
 qnu n g62 c d b a e g105 f (a==12))))))
theorem zdn (n:Nat) (g62:zwd) (g105:zv2) (g62_ok:∀ (a:qa8) (b:List qaa) (c r:Int),g62 a b c=some r->qai TP 62 [PV.agg (qqd.cells a),PV.sl (qaa.rows b),PV.int .i64 c] (qur r)) (g105_ok:∀ (a:qa8) (e:qaa) (r:Int×Int),g105 a e=some r->qai TP 105 [PV.agg (qqd.cells a),PV.agg (qck.cells e)] (qsl r)):∀ (a:qa8) (b:List qaa) (c r:Int),q0f n g62 g105 a b c=some r->qai TP 62 [PV.agg (qqd.cells a),PV.sl (qaa.rows b),PV.int .i64 c] (qur r):=by
 intro a b c r h;obtain⟨g,i⟩:=a;unfold q0f at h;refine zN Tryz.call62 Tryz.func62 [1000000] ?_;conv=>whnf
 refine qbh.fn [1000000] (S:=Int) (fun d=>[(1,pE b),(2,pI c),(3,.ptr 0 0),(7,pI d)]) (fun d=>[.box 99 [pT g,.p (.sl (qcs .i64 i))]]) (B:=qp8 n b g105 g i c) h (wk [0] []) ?_;intro _ d h;unfold qp8 at h;conv=>whnf
 apply ifc h<;>intro f h
 ·conv=>whnf
  refine bq h fun s0 k h=>?_;obtain⟨_,_,⟨_,_,_,_,_,_⟩,_,_⟩:=s0;refine⟨_,Codec.at_ qck k,?_⟩;conv=>whnf
  refine bq h fun s0 j h=>?_;obtain⟨_,_⟩:=s0;refine⟨_,(g105_ok _ _ _ j),?_⟩;conv=>whnf
  apply ifc h<;>intro f h
  ·obtain rfl:=sj h
   conv=>whnf
   try exact fin
  conv=>whnf
  refine⟨id,id,id,?_⟩;conv=>whnf
  apply ifc h<;>intro f h
  ·obtain rfl:=sj h
   conv=>whnf
   try exact fin
  conv=>whnf
  exact⟨(kwr .i64 (d+1)),h,wk [0] []⟩
 obtain rfl:=sj h;conv=>whnf
 try exact fin
set_option maxHeartbeats 4000000 in
theorem za1 (n:Nat) (g62:zwd) (g105:zv2) (g62_ok:∀ (b:qa8) (c:List qaa) (e r:Int),g62 b c e=some r->qai TP 62 [PV.agg (qqd.cells b),PV.sl (qaa.rows c),PV.int .i64 e] (qur r)) (g105_ok:∀ (b:qa8) (d:qaa) (r:Int×Int),g105 b d=some r->qai TP 105 [PV.agg (qqd.cells b),PV.agg (qck.cells d)] (qsl r)):∀ (b:qa8) (d:qaa) (r:Int×Int),qxb n g62 g105 b d=some r->qai TP 105 [PV.agg (qqd.cells b),PV.agg (qck.cells d)] (qsl r):=by
 intro b d r h;obtain⟨i,l⟩:=b;obtain⟨c,e,⟨K,L,M,N,O,E⟩,j,k⟩:=d;unfold qxb at h;refine zN Tryz.call105 Tryz.func105 [1000000] ?_;conv=>whnf
 refine qhd.cut (S:=Int) (fun f=>[(6,pI f)]) (fun f=>[]) (qe1 n) (r:=r) ?_ ?_
 ·intro f h
  unfold qe1 at h;obtain rfl:=sj h;conv=>whnf
  try exact fin
 conv=>whnf
 apply ifc h<;>intro a h
 ·conv=>whnf
  refine bq h fun _ o h=>?_;refine⟨_,(qep n _ _ _ o),?_⟩;conv=>whnf
  apply ifc h<;>intro a h
  ·obtain rfl:=sj h
   conv=>whnf
   try exact fin
  obtain rfl:=sj h;conv=>whnf
  try exact fin
 conv=>whnf
 apply ifc h<;>intro a h
 ·obtain rfl:=sj h
  conv=>whnf
  try exact fin
 conv=>whnf
 apply ifc h<;>intro a h
 ·conv=>whnf
  refine bq h fun s0 w h=>?_;obtain⟨_,_,_⟩:=s0;refine⟨_,(zdx n _ _ w),?_⟩;conv=>whnf
  refine⟨id,id,id,id,id,?_⟩;conv=>whnf
  apply ifc h<;>intro a h
  ·obtain rfl:=sj h
   conv=>whnf
   try exact fin
  conv=>whnf
  refine bq h fun F v h=>?_;refine⟨_,(g62_ok _ _ _ _ v),?_⟩;conv=>whnf
  exact⟨F,h,wk [] []⟩
 conv=>whnf
 refine qhd.cut (S:=Bool) (fun g=>[(2,.ptr 0 0),(3,.ptr 1 0),(16,pI c),(65,pB g)]) (fun g=>[.box 99 [pT i,.p (.sl (qcs .i64 l))],.box 46 [pI c,pS e,pI K,pB L,pI M,pS N,pV O,pT E,pT j,pE k]]) (qnu n g62 i l k c e g105 j) (r:=r) ?_ ?_
 ·intro g h
  unfold qnu at h;conv=>whnf
  apply ifc h<;>intro a h
  ·conv=>whnf
   refine bq h fun G x h=>?_;refine⟨_,(g62_ok _ _ _ _ x),?_⟩;conv=>whnf
   exact⟨G,h,wk [] []⟩
  conv=>whnf
  apply ifc h<;>intro a h
  ·conv=>whnf
   refine bq h fun H y h=>?_;refine⟨_,(g62_ok _ _ _ _ y),?_⟩;conv=>whnf
   exact⟨H,h,wk [] []⟩
  conv=>whnf
  apply ifc h<;>intro a h
  ·conv=>whnf
   refine⟨id,id,id,?_⟩;conv=>whnf
   apply ifc h<;>intro a h
   ·conv=>whnf
    refine bq h fun m q h=>?_;refine⟨_,(g62_ok _ _ _ _ q),?_⟩;(conv=>whnf);apply ifc h<;>intro a h
    ·conv=>whnf
     refine bq h fun s0 C h=>?_;obtain⟨_,_,⟨_,_,_,_,_,_⟩,_,_⟩:=s0;refine⟨_,Codec.at_ qck C,?_⟩;(conv=>whnf);refine bq h fun s0 B h=>?_;obtain⟨_,_⟩:=s0;refine⟨_,(g105_ok _ _ _ B),?_⟩;(conv=>whnf);refine bq h fun s0 A h=>?_;obtain⟨_,_,⟨_,_,_,_,_,_⟩,_,_⟩:=s0;refine⟨_,Codec.at_ qck A,?_⟩;(conv=>whnf);refine bq h fun s0 z h=>?_;obtain⟨_,_⟩:=s0;refine⟨_,(g105_ok _ _ _ z),?_⟩;(conv=>whnf);apply ifc h<;>intro a h
     ·conv=>whnf
      exact⟨(3:Int),h,wk [] []⟩
     (conv=>whnf);exact⟨m,h,wk [] []⟩
    (conv=>whnf);exact⟨m,h,wk [] []⟩
   conv=>whnf
   refine bq h fun I s h=>?_;refine⟨_,(g62_ok _ _ _ _ s),?_⟩;conv=>whnf
   exact⟨I,h,wk [] []⟩
  conv=>whnf
  refine bq h fun J u h=>?_;refine⟨_,(g62_ok _ _ _ _ u),?_⟩;conv=>whnf
  refine⟨id,id,?_⟩;conv=>whnf
  refine bq h fun _ t h=>?_;refine⟨_,fun D=>(q1s n _ _ (qac t D)),?_⟩;conv=>whnf
  refine⟨id,?_⟩;conv=>whnf
  apply ifc h<;>intro a h
  ·conv=>whnf
   exact⟨(2:Int),h,wk [] []⟩
  conv=>whnf
  exact⟨J,h,wk [] []⟩
 conv=>whnf
 apply ifc h<;>intro a h
 ·conv=>whnf
  exact⟨(c==4),h,wk [0,1] []⟩
 conv=>whnf
 apply ifc h<;>intro a h
 ·conv=>whnf
  exact⟨(c==11),h,wk [0,1] []⟩
 conv=>whnf
 exact⟨(c==12),h,wk [0,1] []⟩
mutual
def qgm:Nat->qa8->(List qaa)->Int->Option (Int)
 | 0=>fun _ _ _=>none
 | n+1=>q0f n (qgm n) (ql3 n)
def ql3:Nat->qa8->qaa->Option (Int×Int)
 | 0=>fun _ _=>none
 | n+1=>qxb n (qgm n) (ql3 n)
end
theorem q3h (n:Nat):(∀ (a:qa8) (c:List qaa) (d r:Int),qgm n a c d=some r->qai TP 62 [PV.agg (qqd.cells a),PV.sl (qaa.rows c),PV.int .i64 d] (qur r))/\(∀ (a:qa8) (b:qaa) (r:Int×Int),ql3 n a b=some r->qai TP 105 [PV.agg (qqd.cells a),PV.agg (qck.cells b)] (qsl r)):=by
 induction n with
 | zero=>exact⟨(by intros; rename_i h; cases h),(by intros; rename_i h; cases h)⟩
 | succ n ih=>
  obtain⟨hg62,hg105⟩:=ih;exact⟨zdn n (qgm n) (ql3 n) hg62 hg105,za1 n (qgm n) (ql3 n) hg62 hg105⟩
theorem qi4 (n:Nat):∀ (a:qa8) (b:List qaa) (c r:Int),qgm n a b c=some r->qai TP 62 [PV.agg (qqd.cells a),PV.sl (qaa.rows b),PV.int .i64 c] (qur r):=(q3h n).1
theorem zdz (n:Nat):∀ (a:qa8) (b:qaa) (r:Int×Int),ql3 n a b=some r->qai TP 105 [PV.agg (qqd.cells a),PV.agg (qck.cells b)] (qsl r):=(q3h n).2
abbrev zew (r:Int):PV:=PV.int .i64 r
def qox (n:Nat):Int->Option (Int):=fun a=>
 some a
def qrm (n:Nat) (b:qa8) (e:List SS) (f:List qaa):Option (Int):=
 match b with
 | ⟨c,d⟩=>
 bnd (qgm n (qa8.mk c d) f (3:Int)) fun a=>
 bnd (qaw (a==0) (qrl n e)) fun g=>
 bif(bif(a==0)then g else false)then(
 qox n (2:Int))
 else(
 qox n a)
theorem q1u (n:Nat):∀ (a:qa8) (b:List SS) (c:List qaa) (r:Int),qrm n a b c=some r->qai TP 104 [PV.agg (qqd.cells a),PV.sl (qak b),PV.sl (qaa.rows c)] (zew r):=by
 intro a b c r h;obtain⟨_,_⟩:=a;unfold qrm at h;refine zN Tryz.call104 Tryz.func104 [1000000] ?_;conv=>whnf
 refine bq h fun i f h=>?_;refine⟨_,(qi4 n _ _ _ _ f),?_⟩;conv=>whnf
 refine qhd.cut (S:=Int) (fun d=>[(7,pI d)]) (fun d=>[]) (qox n) (r:=r) ?_ ?_
 ·intro d h
  unfold qox at h;obtain rfl:=sj h;conv=>whnf
  try exact fin
 conv=>whnf
 refine⟨id,?_⟩;conv=>whnf
 refine bq h fun _ e h=>?_;refine⟨_,fun g=>(q1s n _ _ (qac e g)),?_⟩;conv=>whnf
 refine⟨id,?_⟩;conv=>whnf
 apply ifc h<;>intro _ h
 ·conv=>whnf
  exact⟨(2:Int),h,wk [] []⟩
 conv=>whnf
 exact⟨i,h,wk [] []⟩
abbrev q7n (r:qa8):PV:=PV.agg (qqd.cells r)
def qht (n:Nat) (e:qa8) (c:SS) (d:Int):Option (qa8):=
 match e with
 | ⟨a,b⟩=>
 bnd (qaw (!(c==([]:SS))) (qd6 n (qa8.mk a b) c)) fun f=>
 bif(bif(c==([]:SS))then true else(decide (f>0)))then(
 some (qa8.mk a b))
 else(
 chk (decide ((qak a).length * 16<=140737488355328)) (
 chk (decide ((qcs .i64 b).length * 8<=140737488355328)) (
 chk (decide ((qak (a++[c])).length * 16<=140737488355328)) (
 chk (decide ((qcs .i64 (b++[d])).length * 8<=140737488355328)) (
 some (qa8.mk (a++[c]) (b++[d])))))))
theorem qnt (n:Nat):∀ (e:qa8) (a:SS) (b:Int) (r:qa8),qht n e a b=some r->qai TP 64 [PV.agg (qqd.cells e),PV.str a,PV.int .i64 b] (q7n r):=by
 intro e a b r h;obtain⟨c,d⟩:=e;unfold qht at h;refine zN Tryz.call64 Tryz.func64 [1000000] ?_;conv=>whnf
 refine⟨id,id,?_⟩;conv=>whnf
 refine bq h fun _ k h=>?_;refine⟨_,fun l=>(qep n _ _ _ (qac k l)),?_⟩;conv=>whnf
 refine⟨id,id,?_⟩;conv=>whnf
 apply ifc h<;>intro _ h
 ·obtain rfl:=sj h
  conv=>whnf
  try exact fin
 conv=>whnf
 obtain⟨j,h⟩:=qah h;refine⟨⟨Codec.wide qpr c,kod j,qb5 j (by decide)⟩,?_⟩;conv=>whnf
 obtain⟨i,h⟩:=qah h;refine⟨⟨Codec.wide (zt2 .i64) d,kod i,qb5 i (by decide)⟩,?_⟩;conv=>whnf
 refine⟨Codec.one qpr [a],qak [a],.inl rfl,?_⟩;conv=>whnf
 rw[show qak c++qak [a]=qak (c++[a])from Codec.append qpr c [a]];conv=>whnf
 obtain⟨g,h⟩:=qah h;refine⟨⟨Codec.wide qpr (c++[a]),kod g,qb5 g (by decide)⟩,?_⟩;conv=>whnf
 refine⟨⟨rfl,rfl,rfl⟩,?_⟩;conv=>whnf
 refine⟨Codec.one (zt2 .i64) [b],qcs .i64 [b],.inl rfl,?_⟩;conv=>whnf
 rw[show qcs .i64 d++qcs .i64 [b]=qcs .i64 (d++[b])from Codec.append (zt2 .i64) d [b]];conv=>whnf
 obtain⟨f,h⟩:=qah h;refine⟨⟨Codec.wide (zt2 .i64) (d++[b]),kod f,qb5 f (by decide)⟩,?_⟩;conv=>whnf
 refine⟨⟨rfl,rfl,rfl⟩,?_⟩;obtain rfl:=sj h;conv=>whnf
 try exact fin
abbrev zev (r:qa8×Int):PV:=PV.tup [PV.agg (qqd.cells r.1),PV.int .i64 r.2]
def qks (n:Nat) (a:List SS) (b:List Int) (p:Bool) (j c g:List SS) (k:List Int) (l:List qaa) (i:SS) (f:Int×List SS×List Int->Option (qa8×Int)) (q:Int):Int->Option (qa8×Int):=fun d=>
 bif(decide (d>1))then(
 some (qa8.mk a b,(3:Int)))
 else(
 bif(bif(bif(d==1)then p else false)then(decide ((kwr .i64 (((qak j).length:Int)+((qak c).length:Int)))>0))else false)then(
 some (qa8.mk a b,(2:Int)))
 else(
 bnd (qrm n (qa8.mk g k) c l) fun e=>
 bif(e != 0)then(
 some (qa8.mk a b,e))
 else(
 bnd (qht n (qa8.mk a b) i (1:Int)) fun⟨m,o⟩=>
 f ((kwr .i64 (q+1)),m,o))))
def qkr (n:Nat) (p:List qa9) (q d:Int) (l:Bool) (f:List SS) (j:List Int) (e:Int×List SS×List Int->Option (qa8×Int)):List SS×List Int->Option (qa8×Int):=fun(b,c)=>
 bnd (idx p q) fun⟨m,_⟩=>
 bnd (idx m d) fun⟨a,g,i,k⟩=>
 bif(!(a==([]:SS)))then(
 bnd (qd6 n (qa8.mk b c) a) fun o=>
 qks n b c l g i f j k a e d o)
 else(
 qks n b c l g i f j k a e d (0:Int))
def qjw (n:Nat) (f:List qa9) (c:Int) (j:Bool) (g:List SS) (i:List Int) (m:Int×List SS×List Int->Option (qa8×Int)):LK (Int×List SS×List Int) (qa8×Int):=fun k (d,b,a)=>
 bnd (idx f c) fun⟨o,_⟩=>
 bif(decide (d<((qae.rows o).length:Int)))then(
 bif(decide (d>0))then(
 bnd (idx f c) fun⟨_,p⟩=>
 bnd (idx p (kwr .i64 (d - 1))) fun⟨e,q,s,t,u⟩=>
 bnd (qaw (!(e==([]:SS))) (qd6 n (qa8.mk b a) e)) fun v=>
 bif(bif(bif(!(e==([]:SS)))then(decide (v>0))else false)then true else(bif j then(bif(q==([]:SS))then true else(s==2))else false))then(
 some (qa8.mk b a,(2:Int)))
 else(
 bnd (qrm n (qa8.mk g i) t u) fun l=>
 bif(l != 0)then(
 some (qa8.mk b a,l))
 else(
 bnd (qht n (qa8.mk b a) e (2:Int)) fun⟨w,x⟩=>
 qkr n f c d j g i k (w,x))))
 else(
 qkr n f c d j g i k (b,a)))
 else(
 m ((kwr .i64 (c+1)),b,a))
def ql4 (n:Nat) (a:List qa9) (i:Bool) (f:List SS) (g:List Int):LK (Int×List SS×List Int) (qa8×Int):=fun e (b,c,d)=>
 bif(decide (b<((qa9.rows a).length:Int)))then(
 qam (qjw n a b i f g e) n ((0:Int),c,d))
 else(
 some (qa8.mk c d,(0:Int)))
def qpt (n:Nat) (c:qa8) (d:List qa9) (e:Bool):Option (qa8×Int):=
 match c with
 | ⟨a,b⟩=>
 qam (ql4 n d e a b) n ((0:Int),a,b)
set_option maxHeartbeats 4000000 in
theorem qv0 (n:Nat):∀ (m:qa8) (b:List qa9) (a:Bool) (r:qa8×Int),qpt n m b a=some r->qai TP 61 [PV.agg (qqd.cells m),PV.sl (qa9.rows b),PV.bool a] (zev r):=by
 intro m b a r h;obtain⟨e,f⟩:=m;unfold qpt at h;refine zN Tryz.call61 Tryz.func61 [1000000] ?_;conv=>whnf
 refine qbh.fn [1000000] (S:=Int×List SS×List Int) (fun(c,q,s)=>[(1,pP b),(2,pB a),(3,.ptr 0 0),(6,.ptr 1 0),(8,.ptr 2 0),(9,pI c)]) (fun(c,q,s)=>[.box 99 [pT e,.p (.sl (qcs .i64 f))],zq9,.box 99 [pT q,.p (.sl (qcs .i64 s))]]) (B:=ql4 n b a e f) h (wk [0,1,2] []) ?_;intro L st h;obtain⟨c,q,s⟩:=st;unfold ql4 at h;conv=>whnf
 apply ifc h<;>intro d h
 ·conv=>whnf
  refine qbh.fn [1000000] (S:=Int×List SS×List Int) (fun(g,l,i)=>[(1,pP b),(2,pB a),(3,.ptr 0 0),(6,.ptr 1 0),(8,.ptr 2 0),(9,pI c),(10,pI g)]) (fun(g,l,i)=>[.box 99 [pT e,.p (.sl (qcs .i64 f))],zq9,.box 99 [pT l,.p (.sl (qcs .i64 i))]]) (B:=qjw n b c a e f L) h (wk [0,1,2] []) ?_;intro t st h;obtain⟨g,l,i⟩:=st;unfold qjw at h;conv=>whnf
  refine bq h fun s0 A h=>?_;obtain⟨_,_⟩:=s0;refine⟨_,Codec.at_ qlh A,?_⟩;conv=>whnf
  apply ifc h<;>intro d h
  ·conv=>whnf
   refine qhd.cut (S:=List SS×List Int) (fun(j,k)=>[(1,pP b),(2,pB a),(3,.ptr 0 0),(6,.ptr 1 0),(8,.ptr 2 0),(9,pI c),(10,pI g)]) (fun(j,k)=>[.box 99 [pT e,.p (.sl (qcs .i64 f))],zq9,.box 99 [pT j,.p (.sl (qcs .i64 k))]]) (qkr n b c g a e f t) (r:=r) ?_ ?_
   ·intro st h
    obtain⟨j,k⟩:=st;unfold qkr at h;(conv=>whnf);refine bq h fun s0 F h=>?_;obtain⟨_,_⟩:=s0;refine⟨_,Codec.at_ qlh F,?_⟩;(conv=>whnf);refine bq h fun s0 E h=>?_;obtain⟨u,v,w,x⟩:=s0;refine⟨_,Codec.at_ qd2 E,?_⟩;(conv=>whnf);refine qhd.cut (S:=Int) (fun o=>[(1,pP b),(2,pB a),(3,.ptr 0 0),(6,.ptr 1 0),(8,.ptr 2 0),(9,pI c),(10,pI g),(13,.ptr 3 0),(14,pI o)]) (fun o=>[.box 99 [pT e,.p (.sl (qcs .i64 f))],zq9,.box 99 [pT j,.p (.sl (qcs .i64 k))],.box 55 [pS u,pT v,pT w,pE x]]) (qks n j k a v w e f x u t g) (r:=r) ?_ ?_
    ·intro o h
     unfold qks at h;(conv=>whnf);apply ifc h<;>intro d h
     ·obtain rfl:=sj h
      conv=>whnf
      try exact fin
     conv=>whnf
     iterate 9 refine⟨id,?_⟩
     (conv=>whnf);apply ifc h<;>intro d h
     ·obtain rfl:=sj h
      conv=>whnf
      try exact fin
     (conv=>whnf);refine bq h fun _ C h=>?_
     refine⟨_,(q1u n _ _ _ _ C),?_⟩;(conv=>whnf);apply ifc h<;>intro d h
     ·obtain rfl:=sj h
      conv=>whnf
      try exact fin
     (conv=>whnf);refine bq h fun s0 y h=>?_
     obtain⟨M,N⟩:=s0;refine⟨_,(qnt n _ _ _ _ y),?_⟩;(conv=>whnf);exact⟨((kwr .i64 (g+1)),M,N),h,wk [0,1,2] []⟩
    (conv=>whnf);apply ifc h<;>intro d h
    ·conv=>whnf
     refine bq h fun O D h=>?_;refine⟨_,(qep n _ _ _ D),?_⟩;(conv=>whnf);exact⟨O,h,wk [0,1,2,3] []⟩
    (conv=>whnf);exact⟨(0:Int),h,wk [0,1,2,3] []⟩
   conv=>whnf
   apply ifc h<;>intro d h
   ·conv=>whnf
    refine bq h fun s0 z h=>?_;obtain⟨_,_⟩:=s0;refine⟨_,Codec.at_ qlh z,?_⟩;(conv=>whnf);refine bq h fun s0 J h=>?_;obtain⟨_,_,_,_,_⟩:=s0;refine⟨_,Codec.at_ qg1 J,?_⟩;(conv=>whnf);refine⟨id,id,id,?_⟩;(conv=>whnf);refine bq h fun _ I h=>?_;refine⟨_,fun K=>(qep n _ _ _ (qac I K)),?_⟩;conv=>whnf
    iterate 13 refine⟨id,?_⟩
    (conv=>whnf);apply ifc h<;>intro d h
    ·obtain rfl:=sj h
     conv=>whnf
     try exact fin
    (conv=>whnf);refine bq h fun _ H h=>?_
    refine⟨_,(q1u n _ _ _ _ H),?_⟩;(conv=>whnf);apply ifc h<;>intro d h
    ·obtain rfl:=sj h
     conv=>whnf
     try exact fin
    (conv=>whnf);refine bq h fun s0 G h=>?_
    obtain⟨P,Q⟩:=s0;refine⟨_,(qnt n _ _ _ _ G),?_⟩;(conv=>whnf);exact⟨(P,Q),h,wk [0,1,2] []⟩
   conv=>whnf
   exact⟨(l,i),h,wk [0,1,2] []⟩
  conv=>whnf
  exact⟨((kwr .i64 (c+1)),l,i),h,wk [0,1,2] []⟩
 obtain rfl:=sj h;conv=>whnf
 try exact fin
abbrev zgp (r:qa8×Int):PV:=PV.tup [PV.agg (qqd.cells r.1),PV.int .i64 r.2]
def qnv (n:Nat) (a:List SS) (b:List Int) (i:Int) (d:List qbn) (c:Int) (g:Int×List SS×List Int->Option (qa8×Int)):Int×Int->Option (qa8×Int):=fun(e,f)=>
 bif(f != 0)then(
 some (qa8.mk a b,f))
 else(
 bif(bif(i==9)then(e != 3)else false)then(
 some (qa8.mk a b,(3:Int)))
 else(
 bnd (idx d c) fun⟨⟨_,_,⟨_,_,_,_,_,_⟩,_,_⟩,j⟩=>
 bnd (qd6 n (qa8.mk a b) j) fun k=>
 bif(decide (k>0))then(
 some (qa8.mk a b,(2:Int)))
 else(
 bnd (idx d c) fun⟨⟨_,_,⟨_,_,_,_,_,_⟩,_,_⟩,l⟩=>
 bnd (qht n (qa8.mk a b) l e) fun⟨m,o⟩=>
 g ((kwr .i64 (c+1)),m,o))))
def qqv (n:Nat) (b:List SS) (d:List Int) (j:List qaa) (f:List SS) (g:List Int) (i:Int) (c:List qbn) (e:Int) (a:Int×List SS×List Int->Option (qa8×Int)):Int->Option (qa8×Int):=fun k=>
 bnd (qgm n (qa8.mk b d) j k) fun l=>
 qnv n f g i c e a ((3:Int),l)
def qoz (n:Nat) (a:List SS) (b:List Int):Int->Option (qa8×Int):=fun c=>
 some (qa8.mk a b,c)
def qoy (n:Nat) (a:List SS) (b:List Int) (d:List qaa):Int->Option (qa8×Int):=fun c=>
 bif(c==0)then(
 bnd (qgm n (qa8.mk a b) d (3:Int)) fun e=>
 qoz n a b e)
 else(
 qoz n a b c)
def qi6 (n:Nat) (d:List qat) (a:List SS) (b:List Int) (j k e:List qaa):LK (Int) (qa8×Int):=fun i c=>
 bif(decide (c<((qat.rows d).length:Int)))then(
 bnd (idx d c) fun⟨⟨l,m,⟨o,p,q,s,t,u⟩,v,w⟩,_⟩=>
 bnd (qgm n (qa8.mk a b) [qaa.mk l m (Val.mk o p q s t u) v w] (3:Int)) fun f=>
 bif(f != 0)then(
 some (qa8.mk a b,f))
 else(
 i (kwr .i64 (c+1))))
 else(
 bnd (qgm n (qa8.mk ([]:List SS) ([]:List Int)) j (3:Int)) fun g=>
 bif(g==0)then(
 bnd (qgm n (qa8.mk ([]:List SS) ([]:List Int)) k (3:Int)) fun x=>
 qoy n a b e x)
 else(
 qoy n a b e g))
def qk8 (n:Nat) (a:List qbn) (f:List SS) (g:List Int) (i:Int) (m:List qat) (o p y:List qaa):LK (Int×List SS×List Int) (qa8×Int):=fun e (b,c,d)=>
 bif(decide (b<((qbn.rows a).length:Int)))then(
 bnd (idx a b) fun⟨⟨k,l,⟨q,s,t,u,v,w⟩,x,j⟩,_⟩=>
 bif(k==14)then(
 bif(l==([99,111,117,110,116]:SS))then(
 qqv n f g j c d i a b e (0:Int))
 else(
 qqv n f g j c d i a b e (3:Int)))
 else(
 bnd (ql3 n (qa8.mk f g) (qaa.mk k l (Val.mk q s t u v w) x j)) fun⟨z,A⟩=>
 qnv n c d i a b e (z,A)))
 else(
 qam (qi6 n m c d o p y) n (0:Int))
def qwp (n:Nat) (a:qa8) (b:qab):Option (qa8×Int):=
 match a,b with
 | ⟨c,f⟩,⟨j,_,k,⟨_,_,⟨_,_,_,_,_,_⟩,_,_⟩,_,d,_,e,g,i,_,_,_⟩=>
 qam (qk8 n d c f j e g i k) n ((0:Int),([]:List _),([]:List _))
set_option maxHeartbeats 4000000 in
theorem zd2 (n:Nat):∀ (H:qa8) (I:qab) (r:qa8×Int),qwp n H I=some r->qai TP 65 [PV.agg (qqd.cells H),PV.agg (qcz.cells I)] (zgp r):=by
 intro H I r h;obtain⟨l,x⟩:=H;obtain⟨f,C,g,⟨D,E,⟨F,G,m,o,q,s⟩,t,u⟩,v,d,w,i,j,k,y,z,A⟩:=I;unfold qwp at h;refine zN Tryz.call65 Tryz.func65 [1000000] ?_;conv=>whnf
 refine qbh.fn [1000000] (S:=Int×List SS×List Int) (fun(e,a,b)=>[(2,.ptr 0 0),(3,.ptr 1 0),(4,.ptr 2 0),(6,.ptr 3 0),(7,pI e)]) (fun(e,a,b)=>[.box 99 [pT l,.p (.sl (qcs .i64 x))],.box 51 [pI f,pP C,pE g,pI D,pS E,pI F,pB G,pI m,pS o,pV q,pT s,pT t,pE u,pS v,pA d,pB w,pO i,pE j,pE k,pU y,pT z,pB A],zq9,.box 99 [pT a,.p (.sl (qcs .i64 b))]]) (B:=qk8 n d l x f i j k g) h (wk [0,1,2,3] []) ?_;intro P st h;obtain⟨e,a,b⟩:=st;unfold qk8 at h;conv=>whnf
 apply ifc h<;>intro c h
 ·conv=>whnf
  refine bq h fun s0 b1 h=>?_;obtain⟨⟨b4,b5,⟨b6,b7,b8,b9,c0,c1⟩,c2,Q⟩,_⟩:=s0;refine⟨_,Codec.at_ qst b1,?_⟩;conv=>whnf
  refine qhd.cut (S:=Int×Int) (fun(L,M)=>[(2,.ptr 0 0),(3,.ptr 1 0),(4,.ptr 2 0),(6,.ptr 3 0),(7,pI e),(8,pI L),(9,pI M)]) (fun(L,M)=>[.box 99 [pT l,.p (.sl (qcs .i64 x))],.box 51 [pI f,pP C,pE g,pI D,pS E,pI F,pB G,pI m,pS o,pV q,pT s,pT t,pE u,pS v,pA d,pB w,pO i,pE j,pE k,pU y,pT z,pB A],zq9,.box 99 [pT a,.p (.sl (qcs .i64 b))]]) (qnv n a b f d e P) (r:=r) ?_ ?_
  ·intro st h
   obtain⟨L,M⟩:=st;unfold qnv at h;conv=>whnf
   apply ifc h<;>intro c h
   ·obtain rfl:=sj h
    conv=>whnf
    try exact fin
   conv=>whnf
   refine⟨id,id,?_⟩;conv=>whnf
   apply ifc h<;>intro c h
   ·obtain rfl:=sj h
    conv=>whnf
    try exact fin
   conv=>whnf
   refine bq h fun s0 a8 h=>?_;obtain⟨⟨_,_,⟨_,_,_,_,_,_⟩,_,_⟩,_⟩:=s0;refine⟨_,Codec.at_ qst a8,?_⟩;conv=>whnf
   refine bq h fun _ a7 h=>?_;refine⟨_,(qep n _ _ _ a7),?_⟩;conv=>whnf
   apply ifc h<;>intro c h
   ·obtain rfl:=sj h
    conv=>whnf
    try exact fin
   conv=>whnf
   refine bq h fun s0 a6 h=>?_;obtain⟨⟨_,_,⟨_,_,_,_,_,_⟩,_,_⟩,_⟩:=s0;refine⟨_,Codec.at_ qst a6,?_⟩;conv=>whnf
   refine bq h fun s0 a2 h=>?_;obtain⟨c3,c4⟩:=s0;refine⟨_,(qnt n _ _ _ _ a2),?_⟩;conv=>whnf
   exact⟨((kwr .i64 (e+1)),c3,c4),h,wk [0,1,2,3] []⟩
  conv=>whnf
  apply ifc h<;>intro c h
  ·conv=>whnf
   refine qhd.cut (S:=Int) (fun N=>[(2,.ptr 0 0),(3,.ptr 1 0),(4,.ptr 2 0),(6,.ptr 3 0),(7,pI e),(8,pI N),(10,.ptr 4 0)]) (fun N=>[.box 99 [pT l,.p (.sl (qcs .i64 x))],.box 51 [pI f,pP C,pE g,pI D,pS E,pI F,pB G,pI m,pS o,pV q,pT s,pT t,pE u,pS v,pA d,pB w,pO i,pE j,pE k,pU y,pT z,pB A],zq9,.box 99 [pT a,.p (.sl (qcs .i64 b))],.box 46 [pI b4,pS b5,pI b6,pB b7,pI b8,pS b9,pV c0,pT c1,pT c2,pE Q]]) (qqv n l x Q a b f d e P) (r:=r) ?_ ?_
   ·intro N h
    unfold qqv at h;(conv=>whnf);refine bq h fun c5 a9 h=>?_;refine⟨_,(qi4 n _ _ _ _ a9),?_⟩;(conv=>whnf);exact⟨((3:Int),c5),h,wk [0,1,2,3] []⟩
   conv=>whnf
   apply ifc h<;>intro c h
   ·conv=>whnf
    exact⟨(0:Int),h,wk [0,1,2,3,4] []⟩
   conv=>whnf
   exact⟨(3:Int),h,wk [0,1,2,3,4] []⟩
  conv=>whnf
  refine bq h fun s0 b0 h=>?_;obtain⟨c6,c7⟩:=s0;refine⟨_,(zdz n _ _ _ b0),?_⟩;conv=>whnf
  exact⟨(c6,c7),h,wk [0,1,2,3] []⟩
 conv=>whnf
 refine qbh.fn [1000000] (S:=Int) (fun J=>[(3,.ptr 0 0),(4,.ptr 1 0),(6,.ptr 2 0),(11,pI J)]) (fun J=>[.box 51 [pI f,pP C,pE g,pI D,pS E,pI F,pB G,pI m,pS o,pV q,pT s,pT t,pE u,pS v,pA d,pB w,pO i,pE j,pE k,pU y,pT z,pB A],zq9,.box 99 [pT a,.p (.sl (qcs .i64 b))]]) (B:=qi6 n i a b j k g) h (wk [1,2,3] []) ?_;intro _ J h;unfold qi6 at h;conv=>whnf
 apply ifc h<;>intro c h
 ·conv=>whnf
  refine bq h fun s0 b3 h=>?_;obtain⟨⟨R,T,⟨U,V,W,X,Y,Z⟩,a0,a1⟩,_⟩:=s0;refine⟨_,Codec.at_ qqf b3,?_⟩;conv=>whnf
  refine⟨Codec.one qck [qaa.mk R T (Val.mk U V W X Y Z) a0 a1],qaa.rows [qaa.mk R T (Val.mk U V W X Y Z) a0 a1],.inl rfl,?_⟩;conv=>whnf
  refine bq h fun _ b2 h=>?_;refine⟨_,(qi4 n _ _ _ _ b2),?_⟩;conv=>whnf
  apply ifc h<;>intro c h
  ·obtain rfl:=sj h
   conv=>whnf
   try exact fin
  conv=>whnf
  exact⟨(kwr .i64 (J+1)),h,wk [0,1,2] []⟩
 conv=>whnf
 refine bq h fun c8 a5 h=>?_;refine⟨_,(qai.leArgs (qi4 n _ _ _ _ a5) (by try exact fin)),?_⟩;conv=>whnf
 refine qhd.cut (S:=Int) (fun K=>[(3,.ptr 0 0),(4,.ptr 1 0),(6,.ptr 2 0),(13,pI K)]) (fun K=>[.box 51 [pI f,pP C,pE g,pI D,pS E,pI F,pB G,pI m,pS o,pV q,pT s,pT t,pE u,pS v,pA d,pB w,pO i,pE j,pE k,pU y,pT z,pB A],zq9,.box 99 [pT a,.p (.sl (qcs .i64 b))]]) (qoy n a b g) (r:=r) ?_ ?_
 ·intro K h
  unfold qoy at h;conv=>whnf
  refine qhd.cut (S:=Int) (fun O=>[(4,.ptr 0 0),(6,.ptr 1 0),(13,pI O)]) (fun O=>[zq9,.box 99 [pT a,.p (.sl (qcs .i64 b))]]) (qoz n a b) (r:=r) ?_ ?_
  ·intro O h
   unfold qoz at h;obtain rfl:=sj h;conv=>whnf
   try exact fin
  conv=>whnf
  apply ifc h<;>intro c h
  ·conv=>whnf
   refine bq h fun c9 a3 h=>?_;refine⟨_,(qi4 n _ _ _ _ a3),?_⟩;conv=>whnf
   exact⟨c9,h,wk [1,2] []⟩
  conv=>whnf
  exact⟨K,h,wk [1,2] []⟩
 conv=>whnf
 apply ifc h<;>intro c h
 ·conv=>whnf
  refine bq h fun d0 a4 h=>?_;refine⟨_,(qai.leArgs (qi4 n _ _ _ _ a4) (by try exact fin)),?_⟩;conv=>whnf
  exact⟨d0,h,wk [0,1,2] []⟩
 conv=>whnf
 exact⟨c8,h,wk [0,1,2] []⟩
abbrev zb9 (r:qa8×Int):PV:=PV.tup [PV.agg (qqd.cells r.1),PV.int .i64 r.2]
def qm2 (n:Nat) (a:List SS) (b:List Int):Int->Option (qa8×Int):=fun c=>
 some (qa8.mk a b,c)
def qm3 (n:Nat) (a:List SS) (c:List Int) (b:SS):Int->Option (qa8×Int):=fun d=>
 bnd (qht n (qa8.mk a c) b (3:Int)) fun⟨e,f⟩=>
 some (qa8.mk e f,d)
def qqu (n:Nat) (a:List SS) (b:List Int) (c:List qa9):Unit->Option (qa8×Int):=fun _=>
 bnd (qpt n (qa8.mk a b) c true) fun⟨⟨d,e⟩,f⟩=>
 some (qa8.mk d e,f)
def qlm (n:Nat) (a:Int->Option (qa8×Int)) (b:Int):Unit->Option (qa8×Int):=fun _=>
 a (kwr .i64 (b+1))
def qpj (n:Nat) (f:Int) (g:SS) (b:List SS) (c:List Int) (i:Int) (j:SS) (k:Int) (l:Bool) (m:Int) (o:SS) (p:List Val) (q s:List SS) (t:List qaa) (a:Int->Option (qa8×Int)) (d:Int):Unit->Option (qa8×Int):=fun _=>
 bif(bif(f==6)then(!(g==([]:SS)))else false)then(
 bnd (qgm n (qa8.mk b c) [qaa.mk i j (Val.mk k l m o p q) s t] (3:Int)) fun e=>
 bif(e != 0)then(
 some (qa8.mk b c,e))
 else(
 qlm n a d ()))
 else(
 qlm n a d ())
def qpi (n:Nat) (c:Int) (i:SS) (a:List SS) (b:List Int) (e:Int) (g:SS) (j:Int) (k:SS) (l:Int) (m:Bool) (o:Int) (p:SS) (q:List Val) (s t:List SS) (u:List qaa) (d:Int->Option (qa8×Int)) (f:Int):Unit->Option (qa8×Int):=fun _=>
 bif(bif(c==3)then true else(bif(c==2)then(!(i==([]:SS)))else false))then(
 some (qa8.mk a b,(3:Int)))
 else(
 qpj n e g a b j k l m o p q s t u d f ())
def qph (n:Nat) (f:List qaf) (c:Int) (a:List SS) (b:List Int) (g:Int) (e:Int->Option (qa8×Int)):Unit->Option (qa8×Int):=fun _=>
 bnd (idx f c) fun⟨i,j,k,⟨l,m,⟨o,p,q,s,t,u⟩,v,w⟩⟩=>
 bnd (qd6 n (qa8.mk a b) i) fun d=>
 bif(d==0)then(
 some (qa8.mk a b,(2:Int)))
 else(
 qpi n d k a b g j l m o p q s t u v w e c ())
def qic (n:Nat) (c:List qaf) (a:List SS) (b:List Int) (f:Int):LK (Int) (qa8×Int):=fun e d=>
 bif(decide (d<((qaf.rows c).length:Int)))then(
 qph n c d a b f e ())
 else(
 some (qa8.mk a b,(0:Int)))
def qpl (n:Nat) (e:Int) (b:List SS) (c:List Int) (a:Int->Option (qa8×Int)) (d:Int):Unit->Option (qa8×Int):=fun _=>
 bif(e==3)then(
 some (qa8.mk b c,(3:Int)))
 else(
 a (kwr .i64 (d+1)))
def qpk (n:Nat) (f:List SS) (c:Int) (a:List SS) (b:List Int) (e:Int->Option (qa8×Int)):Unit->Option (qa8×Int):=fun _=>
 bnd (idx f c) fun g=>
 bnd (qd6 n (qa8.mk a b) g) fun d=>
 bif(d==0)then(
 some (qa8.mk a b,(2:Int)))
 else(
 qpl n d a b e c ())
def qid (n:Nat) (c a:List SS) (b:List Int):LK (Int) (qa8×Int):=fun e d=>
 bif(decide (d<((qak c).length:Int)))then(
 qpk n c d a b e ())
 else(
 some (qa8.mk a b,(0:Int)))
def qm4 (n:Nat) (d:List qaf) (a:List SS) (b:List Int) (c:Int) (e:List SS) (v:List qa9) (x:List qaa) (y:Int) (B:SS) (D:Int) (E:Bool) (f:Int) (g:SS) (i:List Val) (j k:List SS) (l:List qaa) (m:SS) (o:List qbn) (p:Bool) (q:List qat) (s t:List qaa) (u:Bool):Bool->Option (qa8×Int):=fun w=>
 bif w then(
 qam (qic n d a b c) n (0:Int))
 else(
 bif(c==8)then(
 qam (qid n e a b) n (0:Int))
 else(
 bnd (qwp n (qa8.mk a b) (qab.mk c v x (qaa.mk y B (Val.mk D E f g i j) k l) m o p q s t d e u)) fun⟨⟨z,A⟩,C⟩=>
 some (qa8.mk z A,C)))
def qsd (n:Nat) (G:qa8) (H:qab):Option (qa8×Int):=
 match G,H with
 | ⟨a,b⟩,⟨c,d,s,⟨t,u,⟨v,w,f,g,i,j⟩,k,l⟩,e,x,y,z,A,B,C,D,E⟩=>
 bif(c==1)then(
 bnd (qpt n (qa8.mk a b) d false) fun⟨⟨m,o⟩,F⟩=>
 bif(F==0)then(
 bnd (qgm n (qa8.mk m o) s (3:Int)) fun I=>
 qm2 n m o I)
 else(
 qm2 n m o F))
 else(
 bif(c==2)then(
 bnd (qgm n (qa8.mk a b) [qaa.mk t u (Val.mk v w f g i j) k l] (3:Int)) fun p=>
 bnd (qaw (p==0) (qd6 n (qa8.mk a b) e)) fun J=>
 bif(bif(p==0)then(decide (J>0))else false)then(
 qm3 n a b e (2:Int))
 else(
 qm3 n a b e p))
 else(
 bif(c==4)then(
 bnd (qpt n (qa8.mk a b) d true) fun⟨⟨K,L⟩,M⟩=>
 some (qa8.mk K L,M))
 else(
 bif(c==5)then(
 bnd (idx d (0:Int)) fun⟨N,_⟩=>
 bnd (idx N (0:Int)) fun⟨q,_,_,_⟩=>
 bnd (qaw (!(q==([]:SS))) (qd6 n (qa8.mk a b) q)) fun O=>
 bif(bif(!(q==([]:SS)))then(decide (O>0))else false)then(
 some (qa8.mk a b,(2:Int)))
 else(
 qqu n a b d ()))
 else(
 bif(c==6)then(
 qm4 n C a b c D d s t u v w f g i j k l e x y z A B E (c==6))
 else(
 qm4 n C a b c D d s t u v w f g i j k l e x y z A B E (c==7))))))
set_option maxHeartbeats 4000000 in
theorem q8v (n:Nat):∀ (Q:qa8) (R:qab) (r:qa8×Int),qsd n Q R=some r->qai TP 39 [PV.agg (qqd.cells Q),PV.agg (qcz.cells R)] (zb9 r):=by
 intro Q R r h;obtain⟨a,b⟩:=Q;obtain⟨c,v,E,⟨o,q,⟨s,t,e,f,g,i⟩,j,k⟩,u,w,x,y,z,A,l,m,C⟩:=R;unfold qsd at h;refine zN Tryz.call39 Tryz.func39 [1000001,1000000] ?_;conv=>whnf
 apply ifc h<;>intro d h
 ·conv=>whnf
  refine bq h fun s0 b4 h=>?_;obtain⟨⟨a1,a2⟩,c2⟩:=s0;refine⟨_,(qv0 n _ _ _ _ b4),?_⟩;conv=>whnf
  refine qhd.cut (S:=Int) (fun W=>[(4,.ptr 0 0),(6,.ptr 1 0),(7,pI W)]) (fun W=>[zq9,.box 99 [pT a1,.p (.sl (qcs .i64 a2))]]) (qm2 n a1 a2) (r:=r) ?_ ?_
  ·intro W h
   unfold qm2 at h;obtain rfl:=sj h;conv=>whnf
   try exact fin
  conv=>whnf
  apply ifc h<;>intro d h
  ·conv=>whnf
   refine bq h fun c3 a6 h=>?_;refine⟨_,(qi4 n _ _ _ _ a6),?_⟩;conv=>whnf
   exact⟨c3,h,wk [2,3] []⟩
  conv=>whnf
  exact⟨c2,h,wk [2,3] []⟩
 conv=>whnf
 apply ifc h<;>intro d h
 ·conv=>whnf
  refine⟨Codec.one qck [qaa.mk o q (Val.mk s t e f g i) j k],qaa.rows [qaa.mk o q (Val.mk s t e f g i) j k],.inl rfl,?_⟩;conv=>whnf
  refine bq h fun c4 b7 h=>?_;refine⟨_,(qi4 n _ _ _ _ b7),?_⟩;conv=>whnf
  refine qhd.cut (S:=Int) (fun X=>[(2,.ptr 0 0),(3,.ptr 1 0),(4,.ptr 2 0),(8,pI X)]) (fun X=>[.box 99 [pT a,.p (.sl (qcs .i64 b))],.box 51 [pI c,pP v,pE E,pI o,pS q,pI s,pB t,pI e,pS f,pV g,pT i,pT j,pE k,pS u,pA w,pB x,pO y,pE z,pE A,pU l,pT m,pB C],zq9]) (qm3 n a b u) (r:=r) ?_ ?_
  ·intro X h
   unfold qm3 at h;conv=>whnf
   refine bq h fun s0 b5 h=>?_;obtain⟨_,_⟩:=s0;refine⟨_,(qnt n _ _ _ _ b5),?_⟩;obtain rfl:=sj h;conv=>whnf
   try exact fin
  conv=>whnf
  refine⟨id,?_⟩;conv=>whnf
  refine⟨id,id,?_⟩;conv=>whnf
  refine bq h fun _ b6 h=>?_;refine⟨_,fun V=>(qep n _ _ _ (qac b6 V)),?_⟩;conv=>whnf
  refine⟨id,id,?_⟩;conv=>whnf
  apply ifc h<;>intro d h
  ·conv=>whnf
   exact⟨(2:Int),h,wk [0,1,2] []⟩
  conv=>whnf
  exact⟨c4,h,wk [0,1,2] []⟩
 conv=>whnf
 apply ifc h<;>intro d h
 ·conv=>whnf
  refine bq h fun s0 b8 h=>?_;obtain⟨⟨_,_⟩,_⟩:=s0;refine⟨_,(qv0 n _ _ _ _ b8),?_⟩;obtain rfl:=sj h;conv=>whnf
  try exact fin
 conv=>whnf
 apply ifc h<;>intro d h
 ·conv=>whnf
  refine bq h fun s0 a7 h=>?_;obtain⟨_,_⟩:=s0;refine⟨_,Codec.at_ qlh a7,?_⟩;conv=>whnf
  refine bq h fun s0 c1 h=>?_;obtain⟨_,_,_,_⟩:=s0;refine⟨_,Codec.at_ qd2 c1,?_⟩;conv=>whnf
  refine qhd.cut (S:=Unit) (fun _=>[(2,.ptr 0 0),(3,.ptr 1 0),(4,.ptr 2 0)]) (fun _=>[.box 99 [pT a,.p (.sl (qcs .i64 b))],.box 51 [pI c,pP v,pE E,pI o,pS q,pI s,pB t,pI e,pS f,pV g,pT i,pT j,pE k,pS u,pA w,pB x,pO y,pE z,pE A,pU l,pT m,pB C],zq9]) (qqu n a b v) (r:=r) ?_ ?_
  ·intro _ h
   unfold qqu at h;conv=>whnf
   refine bq h fun s0 b9 h=>?_;obtain⟨⟨_,_⟩,_⟩:=s0;refine⟨_,(qv0 n _ _ _ _ b9),?_⟩;obtain rfl:=sj h;conv=>whnf
   try exact fin
  conv=>whnf
  refine⟨id,?_⟩;conv=>whnf
  refine⟨id,?_⟩;conv=>whnf
  refine bq h fun _ c0 h=>?_;refine⟨_,fun V=>(qep n _ _ _ (qac c0 V)),?_⟩;conv=>whnf
  refine⟨id,id,?_⟩;conv=>whnf
  apply ifc h<;>intro d h
  ·obtain rfl:=sj h
   conv=>whnf
   try exact fin
  conv=>whnf
  exact⟨(),h,wk [0,1,2] []⟩
 conv=>whnf
 refine qhd.cut (S:=Bool) (fun Y=>[(2,.ptr 0 0),(3,.ptr 1 0),(4,.ptr 2 0),(17,pI c),(89,pB Y)]) (fun Y=>[.box 99 [pT a,.p (.sl (qcs .i64 b))],.box 51 [pI c,pP v,pE E,pI o,pS q,pI s,pB t,pI e,pS f,pV g,pT i,pT j,pE k,pS u,pA w,pB x,pO y,pE z,pE A,pU l,pT m,pB C],zq9]) (qm4 n l a b c m v E o q s t e f g i j k u w x y z A C) (r:=r) ?_ ?_
 ·intro Y h
  unfold qm4 at h;conv=>whnf
  apply ifc h<;>intro d h
  ·conv=>whnf
   refine qbh.fn [1000001,1000000] (S:=Int) (fun D=>[(2,.ptr 0 0),(3,.ptr 1 0),(4,.ptr 2 0),(10,pI D)]) (fun D=>[.box 99 [pT a,.p (.sl (qcs .i64 b))],.box 51 [pI c,pP v,pE E,pI o,pS q,pI s,pB t,pI e,pS f,pV g,pT i,pT j,pE k,pS u,pA w,pB x,pO y,pE z,pE A,pU l,pT m,pB C],zq9]) (B:=qic n l a b c) h (wk [0,1,2] []) ?_;intro T D h;unfold qic at h;conv=>whnf
   refine qhd.cut (S:=Unit) (fun _=>[(2,.ptr 0 0),(3,.ptr 1 0),(4,.ptr 2 0),(10,pI D)]) (fun _=>[.box 99 [pT a,.p (.sl (qcs .i64 b))],.box 51 [pI c,pP v,pE E,pI o,pS q,pI s,pB t,pI e,pS f,pV g,pT i,pT j,pE k,pS u,pA w,pB x,pO y,pE z,pE A,pU l,pT m,pB C],zq9]) (qph n l D a b c T) (r:=r) ?_ ?_
   ·intro _ h
    unfold qph at h;(conv=>whnf);refine qhd.cut (S:=Unit) (fun _=>[(2,.ptr 0 0),(3,.ptr 1 0),(4,.ptr 2 0),(10,pI D)]) (fun _=>[.box 99 [pT a,.p (.sl (qcs .i64 b))],.box 51 [pI c,pP v,pE E,pI o,pS q,pI s,pB t,pI e,pS f,pV g,pT i,pT j,pE k,pS u,pA w,pB x,pO y,pE z,pE A,pU l,pT m,pB C],zq9]) (qlm n T D) (r:=r) ?_ ?_
    ·intro _ h
     unfold qlm at h;(conv=>whnf);exact⟨(kwr .i64 (D+1)),h,wk [0,1,2] []⟩
    (conv=>whnf);refine bq h fun s0 b0 h=>?_
    obtain⟨a3,U,Z,⟨G,H,⟨I,J,K,L,M,N⟩,O,P⟩⟩:=s0;refine⟨_,Codec.at_ qjo b0,?_⟩;(conv=>whnf);refine bq h fun a4 a9 h=>?_;refine⟨_,(qep n _ _ _ a9),?_⟩;(conv=>whnf);refine qhd.cut (S:=Unit) (fun _=>[(2,.ptr 0 0),(3,.ptr 1 0),(4,.ptr 2 0),(10,pI D),(11,.ptr 3 0),(12,pI a4)]) (fun _=>[.box 99 [pT a,.p (.sl (qcs .i64 b))],.box 51 [pI c,pP v,pE E,pI o,pS q,pI s,pB t,pI e,pS f,pV g,pT i,pT j,pE k,pS u,pA w,pB x,pO y,pE z,pE A,pU l,pT m,pB C],zq9,.box 74 [pS a3,pS U,pS Z,pI G,pS H,pI I,pB J,pI K,pS L,pV M,pT N,pT O,pE P]]) (qpi n a4 Z a b c U G H I J K L M N O P T D) (r:=r) ?_ ?_
    ·intro _ h
     unfold qpi at h;(conv=>whnf);refine qhd.cut (S:=Unit) (fun _=>[(2,.ptr 0 0),(3,.ptr 1 0),(4,.ptr 2 0),(10,pI D),(11,.ptr 3 0)]) (fun _=>[.box 99 [pT a,.p (.sl (qcs .i64 b))],.box 51 [pI c,pP v,pE E,pI o,pS q,pI s,pB t,pI e,pS f,pV g,pT i,pT j,pE k,pS u,pA w,pB x,pO y,pE z,pE A,pU l,pT m,pB C],zq9,.box 74 [pS a3,pS U,pS Z,pI G,pS H,pI I,pB J,pI K,pS L,pV M,pT N,pT O,pE P]]) (qpj n c U a b G H I J K L M N O P T D) (r:=r) ?_ ?_
     ·intro _ h
      unfold qpj at h;(conv=>whnf);refine⟨id,id,id,?_⟩;(conv=>whnf);apply ifc h<;>intro d h
      ·conv=>whnf
       refine⟨Codec.one qck [qaa.mk G H (Val.mk I J K L M N) O P],qaa.rows [qaa.mk G H (Val.mk I J K L M N) O P],.inl rfl,?_⟩;(conv=>whnf);refine bq h fun _ a8 h=>?_;refine⟨_,(qi4 n _ _ _ _ a8),?_⟩;(conv=>whnf);apply ifc h<;>intro d h
       ·obtain rfl:=sj h
        conv=>whnf
        try exact fin
       (conv=>whnf);exact⟨(),h,wk [0,1,2] []⟩
      (conv=>whnf);exact⟨(),h,wk [0,1,2] []⟩
     (conv=>whnf);refine⟨id,?_⟩
     conv=>whnf
     iterate 6 refine⟨id,?_⟩
     (conv=>whnf);apply ifc h<;>intro d h
     ·obtain rfl:=sj h
      conv=>whnf
      try exact fin
     (conv=>whnf);exact⟨(),h,wk [0,1,2,3] []⟩
    (conv=>whnf);apply ifc h<;>intro d h
    ·obtain rfl:=sj h
     conv=>whnf
     try exact fin
    (conv=>whnf);exact⟨(),h,wk [0,1,2,3] []⟩
   conv=>whnf
   apply ifc h<;>intro d h
   ·conv=>whnf
    exact⟨(),h,wk [0,1,2] []⟩
   obtain rfl:=sj h;conv=>whnf
   try exact fin
  conv=>whnf
  apply ifc h<;>intro d h
  ·conv=>whnf
   refine qbh.fn [1000001,1000000] (S:=Int) (fun F=>[(2,.ptr 0 0),(3,.ptr 1 0),(4,.ptr 2 0),(14,pI F)]) (fun F=>[.box 99 [pT a,.p (.sl (qcs .i64 b))],.box 51 [pI c,pP v,pE E,pI o,pS q,pI s,pB t,pI e,pS f,pV g,pT i,pT j,pE k,pS u,pA w,pB x,pO y,pE z,pE A,pU l,pT m,pB C],zq9]) (B:=qid n m a b) h (wk [0,1,2] []) ?_;intro a0 F h;unfold qid at h;conv=>whnf
   refine qhd.cut (S:=Unit) (fun _=>[(2,.ptr 0 0),(3,.ptr 1 0),(4,.ptr 2 0),(14,pI F)]) (fun _=>[.box 99 [pT a,.p (.sl (qcs .i64 b))],.box 51 [pI c,pP v,pE E,pI o,pS q,pI s,pB t,pI e,pS f,pV g,pT i,pT j,pE k,pS u,pA w,pB x,pO y,pE z,pE A,pU l,pT m,pB C],zq9]) (qpk n m F a b a0) (r:=r) ?_ ?_
   ·intro _ h
    unfold qpk at h;(conv=>whnf);refine bq h fun _ b2 h=>?_;refine⟨_,Codec.at_ qpr b2,?_⟩;(conv=>whnf);refine bq h fun a5 b1 h=>?_;refine⟨_,(qep n _ _ _ b1),?_⟩;(conv=>whnf);refine qhd.cut (S:=Unit) (fun _=>[(2,.ptr 0 0),(3,.ptr 1 0),(4,.ptr 2 0),(14,pI F),(15,pI a5)]) (fun _=>[.box 99 [pT a,.p (.sl (qcs .i64 b))],.box 51 [pI c,pP v,pE E,pI o,pS q,pI s,pB t,pI e,pS f,pV g,pT i,pT j,pE k,pS u,pA w,pB x,pO y,pE z,pE A,pU l,pT m,pB C],zq9]) (qpl n a5 a b a0 F) (r:=r) ?_ ?_
    ·intro _ h
     unfold qpl at h;(conv=>whnf);apply ifc h<;>intro d h
     ·obtain rfl:=sj h
      conv=>whnf
      try exact fin
     (conv=>whnf);exact⟨(kwr .i64 (F+1)),h,wk [0,1,2] []⟩
    (conv=>whnf);apply ifc h<;>intro d h
    ·obtain rfl:=sj h
     conv=>whnf
     try exact fin
    (conv=>whnf);exact⟨(),h,wk [0,1,2] []⟩
   conv=>whnf
   apply ifc h<;>intro d h
   ·conv=>whnf
    exact⟨(),h,wk [0,1,2] []⟩
   obtain rfl:=sj h;conv=>whnf
   try exact fin
  conv=>whnf
  refine bq h fun s0 b3 h=>?_;obtain⟨⟨_,_⟩,_⟩:=s0;refine⟨_,(zd2 n _ _ _ b3),?_⟩;obtain rfl:=sj h;conv=>whnf
  try exact fin
 conv=>whnf
 apply ifc h<;>intro d h
 ·conv=>whnf
  exact⟨(c==6),h,wk [0,1,2] []⟩
 conv=>whnf
 exact⟨(c==7),h,wk [0,1,2] []⟩
abbrev zet (r:List SS×List Int×Int):PV:=PV.tup [PV.sl (qak r.1),PV.sl (qcs .i64 r.2.1),PV.int .i64 r.2.2]
def qju (n:Nat) (t:Int) (f:List qab):LK (Int×List SS×List Int) (List SS×List Int×Int):=fun e (a,c,d)=>
 bif(decide (a<t))then(
 bnd (idx f a) fun⟨F,G,H,⟨g,i,⟨j,k,l,m,o,p⟩,q,s⟩,u,v,w,x,y,z,A,B,C⟩=>
 bnd (qsd n (qa8.mk c d) (qab.mk F G H (qaa.mk g i (Val.mk j k l m o p) q s) u v w x y z A B C)) fun⟨⟨D,E⟩,b⟩=>
 bif(b != 0)then(
 some (([]:List SS),([]:List Int),b))
 else(
 e ((kwr .i64 (a+1)),D,E)))
 else(
 some (c,d,(0:Int)))
def qie (n:Nat) (c:qip) (b:Int):Option (List SS×List Int×Int):=
 match c with
 | ⟨a⟩=>
 bnd (qqp n (qip.mk a)) fun d=>
 bif(bif(bif(!d)then true else(decide (b<0)))then true else(decide (b>((qab.rows a).length:Int))))then(
 some (([]:List SS),([]:List Int),(20:Int)))
 else(
 qam (qju n b a) n ((0:Int),([]:List _),([]:List _)))
theorem qvz (n:Nat):∀ (b:qip) (a:Int) (r:List SS×List Int×Int),qie n b a=some r->qai TP 17 [PV.agg (qy0.cells b),PV.int .i64 a] (zet r):=by
 intro b a r h;obtain⟨g⟩:=b;unfold qie at h;refine zN Tryz.call17 Tryz.func17 [40000007,1000000] ?_;conv=>whnf
 refine bq h fun _ k h=>?_;refine⟨_,(qu8 n _ _ k),?_⟩;conv=>whnf
 iterate 7 refine⟨id,?_⟩
 conv=>whnf
 apply ifc h<;>intro f h
 ·obtain rfl:=sj h
  conv=>whnf
  try exact fin
 conv=>whnf
 refine qbh.fn [40000007,1000000] (S:=Int×List SS×List Int) (fun(c,d,e)=>[(1,pI a),(2,.ptr 0 0),(7,.ptr 1 0),(8,pI c)]) (fun(c,d,e)=>[.box 24 [pC g],.box 99 [pT d,.p (.sl (qcs .i64 e))]]) (B:=qju n a g) h (wk [0,1] []) ?_;intro _ st h;obtain⟨c,d,e⟩:=st;unfold qju at h;conv=>whnf
 apply ifc h<;>intro f h
 ·conv=>whnf
  refine bq h fun s0 j h=>?_;obtain⟨_,_,_,⟨_,_,⟨_,_,_,_,_,_⟩,_,_⟩,_,_,_,_,_,_,_,_,_⟩:=s0;refine⟨_,Codec.at_ qcz j,?_⟩;conv=>whnf
  refine bq h fun s0 i h=>?_;obtain⟨⟨l,m⟩,_⟩:=s0;refine⟨_,(q8v n _ _ _ i),?_⟩;conv=>whnf
  apply ifc h<;>intro f h
  ·obtain rfl:=sj h
   conv=>whnf
   try exact fin
  conv=>whnf
  exact⟨((kwr .i64 (c+1)),l,m),h,wk [0,1] []⟩
 obtain rfl:=sj h;conv=>whnf
 try exact fin
abbrev zes (r:List SS×Int):PV:=PV.tup [PV.sl (qak r.1),PV.int .i64 r.2]
def quk (n:Nat) (c:qip):Option (List SS×Int):=
 match c with
 | ⟨a⟩=>
 bnd (qie n (qip.mk a) ((qab.rows a).length:Int)) fun⟨d,_,b⟩=>
 bnd (qaw (!(b != 0)) (idx a (kwr .i64 (((qab.rows a).length:Int) - 1)))) fun⟨e,_,_,⟨_,_,⟨_,_,_,_,_,_⟩,_,_⟩,_,_,_,_,_,_,_,_,_⟩=>
 bif(bif(b != 0)then true else(e != 9))then(
 some (([]:List SS),b))
 else(
 some (d,(0:Int)))
theorem zbf (n:Nat):∀ (a:qip) (r:List SS×Int),quk n a=some r->qai TP 28 [PV.agg (qy0.cells a)] (zes r):=by
 intro a r h;obtain⟨_⟩:=a;unfold quk at h;refine zN Tryz.call28 Tryz.func28 [1000000] ?_;conv=>whnf
 refine bq h fun s0 c h=>?_;obtain⟨_,_,_⟩:=s0;refine⟨_,(qvz n _ _ _ c),?_⟩;conv=>whnf
 iterate 6 refine⟨id,?_⟩
 conv=>whnf
 refine bq h fun s0 b h=>?_;obtain⟨_,_,_,⟨_,_,⟨_,_,_,_,_,_⟩,_,_⟩,_,_,_,_,_,_,_,_,_⟩:=s0;refine⟨_,fun d=>Codec.at_ qcz (qac b d),?_⟩;conv=>whnf
 refine⟨id,id,id,id,?_⟩;conv=>whnf
 apply ifc h<;>intro _ h
 ·obtain rfl:=sj h
  conv=>whnf
  try exact fin
 obtain rfl:=sj h;conv=>whnf
 try exact fin
abbrev zgq (r:Int):PV:=PV.int .i64 r
def qnw (n:Nat) (b:List qbn):LK (Int) (Int):=fun c a=>
 bif(decide (a<((qbn.rows b).length:Int)))then(
 bnd (idx b a) fun⟨⟨d,_,⟨_,_,_,_,_,_⟩,_,_⟩,_⟩=>
 bif(d==14)then(
 some (2:Int))
 else(
 c (kwr .i64 (a+1))))
 else(
 some (1:Int))
def qwq (n:Nat) (b:qab):Option (Int):=
 match b with
 | ⟨a,_,_,⟨_,_,⟨_,_,_,_,_,_⟩,_,_⟩,_,c,d,e,f,g,_,_,_⟩=>
 bif(bif(a==1)then true else(a==2))then(
 some (1:Int))
 else(
 bif(bif(a != 3)then(a != 9)else false)then(
 some (3:Int))
 else(
 bif(bif(bif(bif d then true else(decide (((qat.rows e).length:Int)>0)))then true else(decide (((qaa.rows f).length:Int)>0)))then true else(decide (((qaa.rows g).length:Int)>0)))then(
 some (2:Int))
 else(
 qam (qnw n c) n (0:Int))))
theorem zd6 (n:Nat):∀ (a:qab) (r:Int),qwq n a=some r->qai TP 29 [PV.agg (qcz.cells a)] (zgq r):=by
 intro a r h;obtain⟨f,s,w,⟨x,y,⟨z,A,C,D,g,i⟩,j,k⟩,l,d,m,o,p,q,t,u,v⟩:=a;unfold qwq at h;refine zN Tryz.call29 Tryz.func29 [1000000] ?_;conv=>whnf
 refine⟨id,id,id,?_⟩;conv=>whnf
 apply ifc h<;>intro b h
 ·obtain rfl:=sj h
  conv=>whnf
  try exact fin
 conv=>whnf
 refine⟨id,id,id,?_⟩;conv=>whnf
 apply ifc h<;>intro b h
 ·obtain rfl:=sj h
  conv=>whnf
  try exact fin
 conv=>whnf
 iterate 12 refine⟨id,?_⟩
 conv=>whnf
 apply ifc h<;>intro b h
 ·obtain rfl:=sj h
  conv=>whnf
  try exact fin
 conv=>whnf
 refine qbh.fn [1000000] (S:=Int) (fun c=>[(1,.ptr 0 0),(3,pI c)]) (fun c=>[.box 51 [pI f,pP s,pE w,pI x,pS y,pI z,pB A,pI C,pS D,pV g,pT i,pT j,pE k,pS l,pA d,pB m,pO o,pE p,pE q,pU t,pT u,pB v]]) (B:=qnw n d) h (wk [0] []) ?_;intro _ c h;unfold qnw at h;conv=>whnf
 apply ifc h<;>intro b h
 ·conv=>whnf
  refine bq h fun s0 e h=>?_;obtain⟨⟨_,_,⟨_,_,_,_,_,_⟩,_,_⟩,_⟩:=s0;refine⟨_,Codec.at_ qst e,?_⟩;conv=>whnf
  apply ifc h<;>intro b h
  ·obtain rfl:=sj h
   conv=>whnf
   try exact fin
  conv=>whnf
  exact⟨(kwr .i64 (c+1)),h,wk [0] []⟩
 obtain rfl:=sj h;conv=>whnf
 try exact fin
abbrev zez (r:Bool):PV:=PV.bool r
def qjz (n:Nat) (c:List qa9) (a:Int) (f:SS) (d:Int->Option (Bool)):LK (Int) (Bool):=fun e b=>
 bnd (idx c a) fun⟨g,_⟩=>
 bif(decide (b<((qae.rows g).length:Int)))then(
 bnd (idx c a) fun⟨i,_⟩=>
 bnd (idx i b) fun⟨j,_,_,_⟩=>
 bif(j==f)then(
 some true)
 else(
 e (kwr .i64 (b+1))))
 else(
 d (kwr .i64 (a+1)))
def qjy (n:Nat) (d:Int) (c:List qa9) (e:SS):LK (Int) (Bool):=fun b a=>
 bif(decide (a<d))then(
 qam (qjz n c a e b) n (0:Int))
 else(
 some false)
def ql6 (n:Nat) (b:List SS) (c:SS) (f:Int) (e:List qa9):LK (Int) (Bool):=fun d a=>
 bif(decide (a<((qak b).length:Int)))then(
 bnd (idx b a) fun g=>
 bif(g==c)then(
 some true)
 else(
 d (kwr .i64 (a+1))))
 else(
 qam (qjy n f e c) n (0:Int))
def qum (n:Nat) (a:qab) (c:Int) (d:List SS) (e:SS):Option (Bool):=
 match a with
 | ⟨_,b,_,⟨_,_,⟨_,_,_,_,_,_⟩,_,_⟩,_,_,_,_,_,_,_,_,_⟩=>
 qam (ql6 n d e c b) n (0:Int)
theorem zbm (n:Nat):∀ (f:qab) (b:Int) (e:List SS) (a:SS) (r:Bool),qum n f b e a=some r->qai TP 54 [PV.agg (qcz.cells f),PV.int .i64 b,PV.sl (qak e),PV.str a] (zez r):=by
 intro f b e a r h;obtain⟨k,c,A,⟨C,D,⟨E,F,G,H,l,m⟩,o,p⟩,q,s,t,u,v,w,x,y,z⟩:=f;unfold qum at h;refine zN Tryz.call54 Tryz.func54 [1000000] ?_;conv=>whnf
 refine qbh.fn [1000000] (S:=Int) (fun i=>[(1,pI b),(2,pT e),(3,pS a),(4,.ptr 0 0),(9,pI i)]) (fun i=>[.box 51 [pI k,pP c,pE A,pI C,pS D,pI E,pB F,pI G,pS H,pV l,pT m,pT o,pE p,pS q,pA s,pB t,pO u,pE v,pE w,pU x,pT y,pB z]]) (B:=ql6 n e a b c) h (wk [0] []) ?_;intro _ i h;unfold ql6 at h;conv=>whnf
 apply ifc h<;>intro g h
 ·conv=>whnf
  refine bq h fun _ I h=>?_;refine⟨_,Codec.at_ qpr I,?_⟩;conv=>whnf
  apply ifc h<;>intro g h
  ·obtain rfl:=sj h
   conv=>whnf
   try exact fin
  conv=>whnf
  exact⟨(kwr .i64 (i+1)),h,wk [0] []⟩
 conv=>whnf
 refine qbh.fn [1000000] (S:=Int) (fun d=>[(1,pI b),(3,pS a),(4,.ptr 0 0),(10,pI d)]) (fun d=>[.box 51 [pI k,pP c,pE A,pI C,pS D,pI E,pB F,pI G,pS H,pV l,pT m,pT o,pE p,pS q,pA s,pB t,pO u,pE v,pE w,pU x,pT y,pB z]]) (B:=qjy n b c a) h (wk [0] []) ?_;intro M d h;unfold qjy at h;conv=>whnf
 apply ifc h<;>intro g h
 ·conv=>whnf
  refine qbh.fn [1000000] (S:=Int) (fun j=>[(1,pI b),(3,pS a),(4,.ptr 0 0),(10,pI d),(11,pI j)]) (fun j=>[.box 51 [pI k,pP c,pE A,pI C,pS D,pI E,pB F,pI G,pS H,pV l,pT m,pT o,pE p,pS q,pA s,pB t,pO u,pE v,pE w,pU x,pT y,pB z]]) (B:=qjz n c d a M) h (wk [0] []) ?_;intro _ j h;unfold qjz at h;conv=>whnf
  refine bq h fun s0 L h=>?_;obtain⟨_,_⟩:=s0;refine⟨_,Codec.at_ qlh L,?_⟩;conv=>whnf
  apply ifc h<;>intro g h
  ·conv=>whnf
   refine bq h fun s0 K h=>?_;obtain⟨_,_⟩:=s0;refine⟨_,Codec.at_ qlh K,?_⟩;conv=>whnf
   refine bq h fun s0 J h=>?_;obtain⟨_,_,_,_⟩:=s0;refine⟨_,Codec.at_ qd2 J,?_⟩;conv=>whnf
   apply ifc h<;>intro g h
   ·obtain rfl:=sj h
    conv=>whnf
    try exact fin
   conv=>whnf
   exact⟨(kwr .i64 (j+1)),h,wk [0] []⟩
  conv=>whnf
  exact⟨(kwr .i64 (d+1)),h,wk [0] []⟩
 obtain rfl:=sj h;conv=>whnf
 try exact fin
end W
end
