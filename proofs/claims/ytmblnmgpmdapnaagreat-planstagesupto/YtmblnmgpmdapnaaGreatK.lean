/- A part of the proof: contracts, printed by program. -/
import Derived.Test.YtmblnmgpmdapnaaGreatB
import Derived.Test.YtmblnmgpmdapnaaGreatD
import Derived.Test.YtmblnmgpmdapnaaGreatG
import Derived.Test.YtmblnmgpmdapnaaGreatH
import Derived.Test.YtmblnmgpmdapnaaGreatJ
set_option linter.unusedVariables false
set_option linter.unusedSimpArgs false
set_option linter.unnecessarySimpa false
set_option linter.deprecated false
set_option linter.unusedSectionVars false
set_option linter.constructorNameAsVariable false
open Go.IntKind renaming wrap->kwr,bits->kbt
open Nat renaming le_of_ble_eq_true->jh
section
set_option maxRecDepth 100000
open Go Go.Proofs Ax
namespace W
abbrev zey (r:List qdj):PV:=PV.sl (qdj.rows r)
def qo1 (n:Nat) (a:List qdj×Int->Option (List qdj)) (b:Int):List qdj->Option (List qdj):=fun c=>
 a (c,(kwr .i64 (b+1)))
def qhu (n:Nat) (f:List qa9) (j:Int) (G:List qaa) (H:Int) (I:SS) (J:Int) (K:Bool) (m:Int) (o:SS) (p:List Val) (q s:List SS) (t:List qaa) (u:SS) (v:List qbn) (w:Bool) (x:List qat) (y z:List qaa) (A:List qaf) (B:List SS) (C:Bool) (D:List SS) (i:Int):LK (List qdj×Int) (List qdj):=fun g (b,a)=>
 bif(bif(decide (a<((qa9.rows f).length:Int)))then(j==1)else false)then(
 bnd (idx f a) fun⟨E,_⟩=>
 bnd (idx E (0:Int)) fun⟨c,d,e,_⟩=>
 bnd (qaw ((!(bif(((qak d).length:Int)==0)then true else(((qak e).length:Int)==0)))&&(!(c==([]:SS)))) (qum n (qab.mk j f G (qaa.mk H I (Val.mk J K m o p q) s t) u v w x y z A B C) a D c)) fun F=>
 bif(bif(bif(((qak d).length:Int)==0)then true else(((qak e).length:Int)==0))then true else(bif(!(c==([]:SS)))then F else false))then(
 qo1 n g a b)
 else(
 bnd (idx d (0:Int)) fun k=>
 bnd (idx e (0:Int)) fun l=>
 chk (decide ((qdj.rows (b++[qdj.mk i a k l])).length * 48<=140737488355328)) (
 qo1 n g a (b++[qdj.mk i a k l]))))
 else(
 some b)
def qpu (n:Nat) (c:qip) (a:Int):Option (List qdj):=
 match c with
 | ⟨b⟩=>
 bnd (idx b a) fun⟨w,x,y,⟨z,A,⟨B,C,d,e,f,g⟩,i,j⟩,k,l,m,o,p,q,s,t,u⟩=>
 bnd (qie n (qip.mk b) a) fun⟨v,_,_⟩=>
 qam (qhu n x w y z A B C d e f g i j k l m o p q s t u v a) n (([]:List _),(0:Int))
theorem zbk (n:Nat):∀ (g:qip) (a:Int) (r:List qdj),qpu n g a=some r->qai TP 30 [PV.agg (qy0.cells g),PV.int .i64 a] (zey r):=by
 intro g a r h;obtain⟨_⟩:=g;unfold qpu at h;refine zN Tryz.call30 Tryz.func30 [40000009,1000000] ?_;conv=>whnf
 refine bq h fun s0 P h=>?_;obtain⟨A,C,D,⟨E,F,⟨G,H,i,j,k,l⟩,m,o⟩,p,q,s,t,u,v,w,x,y⟩:=s0;refine⟨_,Codec.at_ qcz P,?_⟩;conv=>whnf
 refine bq h fun s0 O h=>?_;obtain⟨z,_,_⟩:=s0;refine⟨_,(qvz n _ _ _ O),?_⟩;conv=>whnf
 refine qbh.fn [40000009,1000000] (S:=List qdj×Int) (fun(c,b)=>[(1,pI a),(5,.tsl 1 (qdj.rows c)),(6,.ptr 0 0),(7,pT z),(10,pI b)]) (fun(c,b)=>[.box 51 [pI A,pP C,pE D,pI E,pS F,pI G,pB H,pI i,pS j,pV k,pT l,pT m,pE o,pS p,pA q,pB s,pO t,pE u,pE v,pU w,pT x,pB y],.tail 53 4 (qdj.rows c).length]) (B:=qhu n C A D E F G H i j k l m o p q s t u v w x y z a) h (wk [1,0] [1]) ?_;intro T st h;obtain⟨c,b⟩:=st;unfold qhu at h;conv=>whnf
 refine⟨id,id,id,?_⟩;conv=>whnf
 apply ifc h<;>intro Q h
 ·conv=>whnf
  refine qhd.cut (S:=List qdj) (fun f=>[(1,pI a),(5,.tsl 0 (qdj.rows f)),(6,.ptr 1 0),(7,pT z),(10,pI b)]) (fun f=>[.tail 53 4 (qdj.rows f).length,.box 51 [pI A,pP C,pE D,pI E,pS F,pI G,pB H,pI i,pS j,pV k,pT l,pT m,pE o,pS p,pA q,pB s,pO t,pE u,pE v,pU w,pT x,pB y]]) (qo1 n T b) (r:=r) ?_ ?_
  ·intro f h
   unfold qo1 at h;conv=>whnf
   exact⟨(f,(kwr .i64 (b+1))),h,wk [1,0] []⟩
  conv=>whnf
  refine bq h fun s0 N h=>?_;obtain⟨_,_⟩:=s0;refine⟨_,Codec.at_ qlh N,?_⟩;conv=>whnf
  refine bq h fun s0 M h=>?_;obtain⟨_,_,_,_⟩:=s0;refine⟨_,Codec.at_ qd2 M,?_⟩;conv=>whnf
  iterate 12 refine⟨id,?_⟩
  conv=>whnf
  refine bq h fun _ L h=>?_;refine⟨_,fun R=>(zbm n _ _ _ _ _ (qac L R)),?_⟩;conv=>whnf
  refine⟨id,id,id,?_⟩;conv=>whnf
  apply ifc h<;>intro Q h
  ·conv=>whnf
   exact⟨c,h,wk [1,0] []⟩
  conv=>whnf
  refine bq h fun d K h=>?_;refine⟨_,Codec.at_ qpr K,?_⟩;conv=>whnf
  refine bq h fun e J h=>?_;refine⟨_,Codec.at_ qpr J,?_⟩;conv=>whnf
  refine⟨Codec.one qyx [qdj.mk a b d e],qdj.rows [qdj.mk a b d e],.inl rfl,?_⟩;conv=>whnf
  rw[show qdj.rows c++qdj.rows [qdj.mk a b d e]=qdj.rows (c++[qdj.mk a b d e])from Codec.append qyx c [qdj.mk a b d e]];conv=>whnf
  obtain⟨I,h⟩:=qah h;refine⟨⟨Codec.wide qyx (c++[qdj.mk a b d e]),kod I,qb5 I (by decide)⟩,?_⟩;conv=>whnf
  refine⟨⟨rfl,rfl,rfl⟩,?_⟩;conv=>whnf
  exact⟨(c++[qdj.mk a b d e]),h,wk [3,0] []⟩
 obtain rfl:=sj h;conv=>whnf
 try exact fin
abbrev zgr (r:List qao×Int):PV:=PV.tup [PV.sl (qao.rows r.1),PV.int .i64 r.2]
def qk9 (n:Nat) (o:List qab) (c:Int) (m:List qdj×List qao×Int->Option (List qao×Int)):Int×List qao×List qdj->Option (List qao×Int):=fun(j,a,p)=>
 bnd (qwb (kwr .i64 (j - 1))) fun b=>
 chk (decide (b<(qao.rows a).length)) (
 bnd (a[b]?) fun⟨d,e,_,f⟩=>
 bnd (qpu n (qip.mk o) c) fun k=>
 bnd (qwb (kwr .i64 (j - 1))) fun l=>
 chk (decide (l<(qao.rows a).length)) (
 bnd ((a.set b (qao.mk d e c f))[l]?) fun⟨_,_,_,g⟩=>
 chk (decide (l+1=(qao.rows (a.set b (qao.mk d e c f))).length)) (
 chk (decide ((qdj.rows p).length=(qdj.rows g).length)) (
 chk (decide ((qdj.rows (g++k)).length * 48<=140737488355328)) (
 bnd (qwb (kwr .i64 (j - 1))) fun i=>
 chk (decide (i<(qao.rows a).length)) (
 chk (decide (i+1=(qao.rows (a.set b (qao.mk d e c f))).length)) (
 bnd ((a.set b (qao.mk d e c f))[i]?) fun⟨q,s,t,_⟩=>
 m ((g++k),((a.set b (qao.mk d e c f)).set i (qao.mk q s t (g++k))),(kwr .i64 (c+1))))))))))
def qi7 (n:Nat) (d:List qab):LK (List qdj×List qao×Int) (List qao×Int):=fun e (C,a,c)=>
 bif(decide (c<((qab.rows d).length:Int)))then(
 bnd (idx d c) fun⟨E,F,G,⟨g,i,⟨j,k,l,m,o,p⟩,q,s⟩,t,u,v,w,x,y,z,A,B⟩=>
 bnd (qwq n (qab.mk E F G (qaa.mk g i (Val.mk j k l m o p) q s) t u v w x y z A B)) fun b=>
 bnd (qaw (!(bif(b != 1)then true else(((((qao.rows a).length):Nat):Int)==0))) (qwb (kwr .i64 (((((qao.rows a).length):Nat):Int) - 1)))) fun f=>
 chk (bif(!(bif(b != 1)then true else(((((qao.rows a).length):Nat):Int)==0)))then decide (f<(qao.rows a).length)else true) (
 bnd (qaw (!(bif(b != 1)then true else(((((qao.rows a).length):Nat):Int)==0))) (a[f]?)) fun⟨D,_,_,_⟩=>
 bif(bif(bif(b != 1)then true else(((((qao.rows a).length):Nat):Int)==0))then true else(D != 1))then(
 chk (decide ((qao.rows (a++[qao.mk b c (0:Int) ([]:List qdj)])).length * 48<=140737488355328)) (
 qk9 n d c e ((kwr .i64 (((((qao.rows a).length):Nat):Int)+1)),(a++[qao.mk b c (0:Int) ([]:List qdj)]),([]:List qdj))))
 else(
 qk9 n d c e (((((qao.rows a).length):Nat):Int),a,C))))
 else(
 some (a,(0:Int)))
def qwr (n:Nat) (c:qip):Option (List qao×Int):=
 match c with
 | ⟨a⟩=>
 bnd (quk n (qip.mk a)) fun⟨_,b⟩=>
 bif(b != 0)then(
 some (([]:List qao),b))
 else(
 qam (qi7 n a) n (([]:List _),([]:List _),(0:Int)))
set_option maxHeartbeats 4000000 in
theorem zd7 (n:Nat):∀ (g:qip) (r:List qao×Int),qwr n g=some r->qai TP 11 [PV.agg (qy0.cells g)] (zgr r):=by
 intro g r h;obtain⟨j⟩:=g;unfold qwr at h;refine zN Tryz.call11 Tryz.func11 [1000000] ?_;conv=>whnf
 refine bq h fun s0 O h=>?_;obtain⟨_,_⟩:=s0;refine⟨_,(zbf n _ _ O),?_⟩;conv=>whnf
 apply ifc h<;>intro x h
 ·obtain rfl:=sj h
  conv=>whnf
  try exact fin
 conv=>whnf
 refine qbh.fn [1000000] (S:=List qdj×List qao×Int) (fun(l,b,a)=>[(1,.ptr 0 0),(6,.vsl 2 ((qao.rows b).length)),(7,pI a)]) (fun(l,b,a)=>[.box 24 [pC j],.tail 53 4 (qdj.rows l).length,.vl 37 4 (qao.rows b) 3 1]) (B:=qi7 n j) h ⟨[0,0,0],[1,2],⟨rfl,rfl,rfl,rfl⟩,by repeat (first|exact trivial|exact .inl rfl|exact rfl|exact List.not_mem_nil|(refine .inr ?_)|(refine⟨?_,?_⟩)|exact List.length_set.symm|exact Codec.lenSet qbe _ _ _|exact(Codec.lenSet qbe _ _ _).trans (Codec.lenSet qbe _ _ _)|decide),by repeat (first|exact trivial|exact .inl rfl|exact rfl|exact List.not_mem_nil|(refine .inr ?_)|(refine⟨?_,?_⟩)|exact List.length_set.symm|exact Codec.lenSet qbe _ _ _|exact(Codec.lenSet qbe _ _ _).trans (Codec.lenSet qbe _ _ _)|decide)⟩ ?_;intro W st h;obtain⟨l,b,a⟩:=st;unfold qi7 at h;conv=>whnf
 apply ifc h<;>intro x h
 ·conv=>whnf
  refine bq h fun s0 N h=>?_;obtain⟨_,_,_,⟨_,_,⟨_,_,_,_,_,_⟩,_,_⟩,_,_,_,_,_,_,_,_,_⟩:=s0;refine⟨_,Codec.at_ qcz N,?_⟩;conv=>whnf
  refine bq h fun m L h=>?_;refine⟨_,(zd6 n _ _ L),?_⟩;conv=>whnf
  refine qhd.cut (S:=Int×List qao×List qdj) (fun(o,c,p)=>[(1,.ptr 0 0),(6,.vsl 1 ((qao.rows c).length)),(7,pI a),(9,pI o)]) (fun(o,c,p)=>[.box 24 [pC j],.vl 37 4 (qao.rows c) 3 2,.tail 53 4 (qdj.rows p).length]) (qk9 n j a W) (r:=r) ?_ ?_
  ·intro st h
   obtain⟨o,c,p⟩:=st;unfold qk9 at h;conv=>whnf
   refine bq h fun k H h=>?_;have f:=qct H;conv=>whnf
   obtain⟨G,h⟩:=qah h;refine⟨k,⟨f,kod G⟩,?_⟩;conv=>whnf
   refine bq h fun s0 F h=>?_;obtain⟨q,s,_,t⟩:=s0;refine⟨_,2,⟨rfl,Codec.getN qbe F,rfl,.inl ⟨jh rfl,by first|exact .inl (jh rfl)|exact .inr (jh rfl),rfl⟩⟩,?_⟩;conv=>whnf
   refine⟨_,Codec.setN qbe c k (qao.mk q s a t),?_⟩;conv=>whnf
   refine bq h fun d E h=>?_;refine⟨_,(zbk n _ _ _ E),?_⟩;conv=>whnf
   refine bq h fun X D h=>?_;have f:=qct D;conv=>whnf
   obtain⟨V,h⟩:=qah h;refine⟨X,⟨f,kod V⟩,?_⟩;conv=>whnf
   refine bq h fun s0 U h=>?_;obtain⟨_,_,_,e⟩:=s0;refine⟨_,⟨rfl,Codec.getN qbe U⟩,?_⟩;conv=>whnf
   obtain⟨T,h⟩:=qah h;refine⟨kod T,_,rfl,?_⟩;conv=>whnf
   obtain⟨R,h⟩:=qah h;have hl_h6:=kod R;conv=>whnf
   rw[show qdj.rows e++qdj.rows d=qdj.rows (e++d)from Codec.append qyx e d];conv=>whnf
   obtain⟨w,h⟩:=qah h;refine⟨⟨Codec.wide qyx (e++d),kod w,qb5 w (by decide)⟩,?_⟩;conv=>whnf
   refine⟨⟨rfl,rfl,by first|rfl|assumption⟩,?_⟩;conv=>whnf
   refine bq h fun u Q h=>?_;have f:=qct Q;conv=>whnf
   obtain⟨P,h⟩:=qah h;refine⟨u,⟨f,kod P⟩,?_⟩;conv=>whnf
   obtain⟨C,h⟩:=qah h;conv=>whnf
   refine bq h fun s0 M h=>?_;obtain⟨y,z,A,_⟩:=s0;refine⟨_,3,⟨rfl,Codec.getN qbe M,rfl,.inr ⟨rfl,kod C,_,rfl⟩⟩,?_⟩;conv=>whnf
   refine⟨_,Codec.setN qbe (c.set k (qao.mk q s a t)) u (qao.mk y z A (e++d)),?_⟩;conv=>whnf
   exact⟨((e++d),((c.set k (qao.mk q s a t)).set u (qao.mk y z A (e++d))),(kwr .i64 (a+1))),h,⟨[0,3,1],[],⟨rfl,rfl,rfl,rfl⟩,by repeat (first|exact trivial|exact .inl rfl|exact rfl|exact List.not_mem_nil|(refine .inr ?_)|(refine⟨?_,?_⟩)|exact List.length_set.symm|exact Codec.lenSet qbe _ _ _|exact(Codec.lenSet qbe _ _ _).trans (Codec.lenSet qbe _ _ _)|decide),by repeat (first|exact trivial|exact .inl rfl|exact rfl|exact List.not_mem_nil|(refine .inr ?_)|(refine⟨?_,?_⟩)|exact List.length_set.symm|exact Codec.lenSet qbe _ _ _|exact(Codec.lenSet qbe _ _ _).trans (Codec.lenSet qbe _ _ _)|decide)⟩⟩
  conv=>whnf
  refine⟨id,?_⟩;conv=>whnf
  refine⟨id,id,id,id,?_⟩;conv=>whnf
  refine bq h fun Y I h=>?_;obtain⟨J,h⟩:=qah h;refine⟨Y,fun i=>⟨qct (qac I i),kod (gd J i)⟩,?_⟩;conv=>whnf
  refine⟨id,id,?_⟩;conv=>whnf
  refine bq h fun s0 K h=>?_;obtain⟨_,_,_,_⟩:=s0;refine⟨_,fun i=>⟨rfl,Codec.getN qbe (qac K i)⟩,?_⟩;conv=>whnf
  refine⟨id,id,?_⟩;conv=>whnf
  apply ifc h<;>intro x h
  ·conv=>whnf
   refine⟨by repeat (first|exact List.forall_mem_nil _|refine List.forall_mem_cons.2 ⟨⟨rfl,rfl⟩,?_⟩),_,.inl rfl,?_⟩;conv=>whnf
   obtain⟨v,h⟩:=qah h;refine⟨qao.rows (b++[qao.mk m a (0:Int) ([]:List qdj)]),_,53,4,⟨zxe qbe b (qao.mk m a (0:Int) ([]:List qdj)) (by try exact fin),⟨rfl,rfl⟩,rfl,rfl,List.forall_mem_cons.2 ⟨rfl,List.forall_mem_nil _⟩,kod v,qb5 v (by decide)⟩,?_⟩;conv=>whnf
   exact⟨((kwr .i64 (((((qao.rows b).length):Nat):Int)+1)),(b++[qao.mk m a (0:Int) ([]:List qdj)]),([]:List qdj)),h,⟨[0,4,3],[],⟨rfl,rfl,rfl,rfl⟩,by repeat (first|exact trivial|exact .inl rfl|exact rfl|exact List.not_mem_nil|(refine .inr ?_)|(refine⟨?_,?_⟩)|exact List.length_set.symm|exact Codec.lenSet qbe _ _ _|exact(Codec.lenSet qbe _ _ _).trans (Codec.lenSet qbe _ _ _)|decide),by repeat (first|exact trivial|exact .inl rfl|exact rfl|exact List.not_mem_nil|(refine .inr ?_)|(refine⟨?_,?_⟩)|exact List.length_set.symm|exact Codec.lenSet qbe _ _ _|exact(Codec.lenSet qbe _ _ _).trans (Codec.lenSet qbe _ _ _)|decide)⟩⟩
  conv=>whnf
  exact⟨(((((qao.rows b).length):Nat):Int),b,l),h,⟨[0,2,1],[],⟨rfl,rfl,rfl,rfl⟩,by repeat (first|exact trivial|exact .inl rfl|exact rfl|exact List.not_mem_nil|(refine .inr ?_)|(refine⟨?_,?_⟩)|exact List.length_set.symm|exact Codec.lenSet qbe _ _ _|exact(Codec.lenSet qbe _ _ _).trans (Codec.lenSet qbe _ _ _)|decide),by repeat (first|exact trivial|exact .inl rfl|exact rfl|exact List.not_mem_nil|(refine .inr ?_)|(refine⟨?_,?_⟩)|exact List.length_set.symm|exact Codec.lenSet qbe _ _ _|exact(Codec.lenSet qbe _ _ _).trans (Codec.lenSet qbe _ _ _)|decide)⟩⟩
 obtain rfl:=sj h;conv=>whnf
 try exact fin
abbrev zgs (r:Bool):PV:=PV.bool r
def qny (n:Nat) (c:List qao) (a:Int) (f:List qao) (d:Int->Option (Bool)):LK (Int) (Bool):=fun e b=>
 bnd (idx c a) fun⟨_,_,_,g⟩=>
 bif(decide (b<((qdj.rows g).length:Int)))then(
 bnd (idx c a) fun⟨_,_,_,i⟩=>
 bnd (idx i b) fun⟨j,k,l,m⟩=>
 bnd (idx f a) fun⟨_,_,_,o⟩=>
 bnd (idx o b) fun⟨p,q,s,t⟩=>
 bif(!(bif(j==p)then(bif(k==q)then(bif(l==s)then(bif(m==t)then true else false)else false)else false)else false))then(
 some false)
 else(
 e (kwr .i64 (b+1))))
 else(
 d (kwr .i64 (a+1)))
def qnx (n:Nat) (d g:List qao):LK (Int) (Bool):=fun k a=>
 bif(decide (a<((qao.rows d).length:Int)))then(
 bnd (idx d a) fun⟨b,_,_,_⟩=>
 bnd (idx g a) fun⟨c,_,_,_⟩=>
 bnd (qaw (!(b != c)) (idx d a)) fun⟨_,e,_,_⟩=>
 bnd (qaw (!(b != c)) (idx g a)) fun⟨_,f,_,_⟩=>
 bnd (qaw (!(bif(b != c)then true else(e != f))) (idx d a)) fun⟨_,_,i,_⟩=>
 bnd (qaw (!(bif(b != c)then true else(e != f))) (idx g a)) fun⟨_,_,j,_⟩=>
 bnd (qaw (!(bif(bif(b != c)then true else(e != f))then true else(i != j))) (idx d a)) fun⟨_,_,_,l⟩=>
 bnd (qaw (!(bif(bif(b != c)then true else(e != f))then true else(i != j))) (idx g a)) fun⟨_,_,_,m⟩=>
 bif(bif(bif(bif(b != c)then true else(e != f))then true else(i != j))then true else(((qdj.rows l).length:Int) != ((qdj.rows m).length:Int)))then(
 some false)
 else(
 qam (qny n d a g k) n (0:Int)))
 else(
 some true)
def qtv (n:Nat) (a b:List qao):Option (Bool):=
 bif(((qao.rows a).length:Int) != ((qao.rows b).length:Int))then(
 some false)
 else(
 qam (qnx n a b) n (0:Int))
set_option maxHeartbeats 4000000 in
theorem q3i (n:Nat):∀ (b c:List qao) (r:Bool),qtv n b c=some r->qai TP 12 [PV.sl (qao.rows b),PV.sl (qao.rows c)] (zgs r):=by
 intro b c r h;unfold qtv at h;refine zN Tryz.call12 Tryz.func12 [1000000] ?_;conv=>whnf
 apply ifc h<;>intro e h
 ·obtain rfl:=sj h
  conv=>whnf
  try exact fin
 conv=>whnf
 refine qbh.fn [1000000] (S:=Int) (fun d=>[(0,pY b),(1,pY c),(5,pI d)]) (fun d=>[]) (B:=qnx n b c) h (wk [] []) ?_;intro w d h;unfold qnx at h;conv=>whnf
 apply ifc h<;>intro e h
 ·conv=>whnf
  refine bq h fun s0 l h=>?_;obtain⟨_,_,_,_⟩:=s0;refine⟨_,Codec.at_ qbe l,?_⟩;conv=>whnf
  refine bq h fun s0 k h=>?_;obtain⟨_,_,_,_⟩:=s0;refine⟨_,Codec.at_ qbe k,?_⟩;conv=>whnf
  refine⟨id,id,?_⟩;conv=>whnf
  refine bq h fun s0 j h=>?_;obtain⟨_,_,_,_⟩:=s0;refine⟨_,fun a=>Codec.at_ qbe (qac j a),?_⟩;conv=>whnf
  refine⟨id,id,id,id,?_⟩;conv=>whnf
  refine bq h fun s0 i h=>?_;obtain⟨_,_,_,_⟩:=s0;refine⟨_,fun a=>Codec.at_ qbe (qac i a),?_⟩;conv=>whnf
  iterate 7 refine⟨id,?_⟩
  conv=>whnf
  refine bq h fun s0 v h=>?_;obtain⟨_,_,_,_⟩:=s0;refine⟨_,fun a=>Codec.at_ qbe (qac v a),?_⟩;conv=>whnf
  refine⟨id,id,id,id,?_⟩;conv=>whnf
  refine bq h fun s0 u h=>?_;obtain⟨_,_,_,_⟩:=s0;refine⟨_,fun a=>Codec.at_ qbe (qac u a),?_⟩;conv=>whnf
  iterate 7 refine⟨id,?_⟩
  conv=>whnf
  refine bq h fun s0 t h=>?_;obtain⟨_,_,_,_⟩:=s0;refine⟨_,fun a=>Codec.at_ qbe (qac t a),?_⟩;conv=>whnf
  refine⟨id,id,id,id,id,?_⟩;conv=>whnf
  refine bq h fun s0 s h=>?_;obtain⟨_,_,_,_⟩:=s0;refine⟨_,fun a=>Codec.at_ qbe (qac s a),?_⟩;conv=>whnf
  iterate 6 refine⟨id,?_⟩
  conv=>whnf
  apply ifc h<;>intro e h
  ·obtain rfl:=sj h
   conv=>whnf
   try exact fin
  conv=>whnf
  refine qbh.fn [1000000] (S:=Int) (fun f=>[(0,pY b),(1,pY c),(5,pI d),(6,pI f)]) (fun f=>[]) (B:=qny n b d c w) h (wk [] []) ?_;intro _ f h;unfold qny at h;conv=>whnf
  refine bq h fun s0 q h=>?_;obtain⟨_,_,_,_⟩:=s0;refine⟨_,Codec.at_ qbe q,?_⟩;conv=>whnf
  apply ifc h<;>intro e h
  ·conv=>whnf
   refine bq h fun s0 p h=>?_;obtain⟨_,_,_,_⟩:=s0;refine⟨_,Codec.at_ qbe p,?_⟩;conv=>whnf
   refine bq h fun s0 o h=>?_;obtain⟨_,_,_,_⟩:=s0;refine⟨_,Codec.at_ qyx o,?_⟩;conv=>whnf
   refine bq h fun s0 m h=>?_;obtain⟨_,_,_,_⟩:=s0;refine⟨_,Codec.at_ qbe m,?_⟩;conv=>whnf
   refine bq h fun s0 g h=>?_;obtain⟨_,_,_,_⟩:=s0;refine⟨_,Codec.at_ qyx g,?_⟩;conv=>whnf
   refine⟨by kernel_rfl,?_⟩;conv=>whnf
   apply ifc h<;>intro e h
   ·obtain rfl:=sj h
    conv=>whnf
    try exact fin
   conv=>whnf
   exact⟨(kwr .i64 (f+1)),h,wk [] []⟩
  conv=>whnf
  exact⟨(kwr .i64 (d+1)),h,wk [] []⟩
 obtain rfl:=sj h;conv=>whnf
 try exact fin
abbrev qvc (r:SS):PV:=PV.str r
def qrh (n:Nat) (g37:Int->Option SS) (a:Int):Option SS:=
 bif(a==(-9223372036854775808:Int))then(
 some ([45,57,50,50,51,51,55,50,48,51,54,56,53,52,55,55,53,56,48,56]:SS))
 else(
 bif(decide (a<0))then(
 bnd (g37 (kwr .i64 ((0:Int) - a))) fun c=>
 chk (decide (((([45]:SS).length+c.length:Nat):Int)<=qhj)) (
 some (([45]:SS)++c)))
 else(
 bnd (u8I (kwr .u8 (kwr .i64 ((48:Int)+(Int.tmod a (10:Int)))))) fun b=>
 bif(decide (a<10))then(
 some [b])
 else(
 bnd (g37 (kwr .i64 (Int.tdiv a (10:Int)))) fun d=>
 chk (decide (((d.length+[b].length:Nat):Int)<=qhj)) (
 some (d++[b])))))
theorem zay (n:Nat) (g37:Int->Option SS) (g37_ok:∀ (a:Int) (r:SS),g37 a=some r->qai TP 37 [PV.int .i64 a] (qvc r)):∀ (a:Int) (r:SS),qrh n g37 a=some r->qai TP 37 [PV.int .i64 a] (qvc r):=by
 intro a r h;unfold qrh at h;refine zN Tryz.call37 Tryz.func37 [1000000] ?_;conv=>whnf
 apply ifc h<;>intro c h
 ·obtain rfl:=sj h
  conv=>whnf
  try exact fin
 conv=>whnf
 apply ifc h<;>intro c h
 ·conv=>whnf
  refine bq h fun j e h=>?_;refine⟨_,(g37_ok _ _ e),?_⟩;conv=>whnf
  obtain⟨d,h⟩:=qah h;refine⟨(kod d:((([45]:SS).length+j.length:Nat):Int)<=qhj),?_⟩;obtain rfl:=sj h;conv=>whnf
  try exact fin
 conv=>whnf
 refine⟨by unfold gI; decide,?_⟩;conv=>whnf
 refine bq h fun b f h=>?_;rw[show([[PV.int .u8 (kwr .u8 (kwr .i64 ((48:Int)+(Int.tmod a (10:Int)))))]]:List (List PV))=qau [b]from by rw[qet f]; rfl];refine⟨Codec.one qdl [b],_,.inl rfl,?_⟩;conv=>whnf
 refine⟨_,rfl,?_⟩;conv=>whnf
 apply ifc h<;>intro c h
 ·obtain rfl:=sj h
  conv=>whnf
  try exact fin
 conv=>whnf
 refine⟨by unfold gI; decide,?_⟩;conv=>whnf
 refine bq h fun k i h=>?_;refine⟨_,(g37_ok _ _ i),?_⟩;conv=>whnf
 obtain⟨g,h⟩:=qah h;refine⟨(kod g:((k.length+[b].length:Nat):Int)<=qhj),?_⟩;obtain rfl:=sj h;conv=>whnf
 try exact fin
def qhy:Nat->Int->Option SS
 | 0=>fun _=>none
 | n+1=>qrh n (qhy n)
theorem za3 (n:Nat):(∀ (a:Int) (r:SS),qhy n a=some r->qai TP 37 [PV.int .i64 a] (qvc r)):=by
 induction n with
 | zero=>exact(by intros; rename_i h; cases h)
 | succ n ih=>
  have hg37:=ih;exact zay n (qhy n) hg37
theorem qte (n:Nat):∀ (a:Int) (r:SS),qhy n a=some r->qai TP 37 [PV.int .i64 a] (qvc r):=(za3 n)
abbrev zi4 (r:SS):PV:=PV.str r
def qwj (n:Nat) (a:Int):Option SS:=
 bnd (idx ([48,49,50,51,52,53,54,55,56,57,97,98,99,100,101,102]:SS) (kwr .u8 (Int.tdiv a (16:Int)))) fun b=>
 bnd (idx ([48,49,50,51,52,53,54,55,56,57,97,98,99,100,101,102]:SS) (Int.tmod a (16:Int))) fun c=>
 some [b,c]
theorem q6a (n:Nat):∀ (a:Int) (r:SS),qwj n a=some r->qai TP 103 [PV.int .u8 a] (zi4 r):=by
 intro a r h;unfold qwj at h;refine zN Tryz.call103 Tryz.func103 [1000000] ?_;conv=>whnf
 refine⟨by unfold gI; decide,?_⟩;conv=>whnf
 refine bq h fun b e h=>?_;refine⟨_,qc8 e,?_⟩;conv=>whnf
 refine⟨by unfold gI; decide,?_⟩;conv=>whnf
 refine bq h fun c d h=>?_;refine⟨_,qc8 d,?_⟩;conv=>whnf
 refine⟨Codec.one qdl [b,c],qau [b,c],.inl rfl,?_⟩;conv=>whnf
 refine⟨_,rfl,?_⟩;obtain rfl:=sj h;conv=>whnf
 try exact fin
abbrev zeh (r:SS):PV:=PV.str r
def qfi (n:Nat) (a:SS×Int->Option SS) (b:Int):SS×Int->Option SS:=fun(c,d)=>
 a (c,(kwr .i64 (b+d)))
def qez (n:Nat) (c:SS):(SS×Int->Option SS)->SS×Int->Option SS:=fun f (a,b)=>
 bif(decide (b<((c.length:Nat):Int)))then(
 bnd (qts n c b) fun e=>
 bnd (idx c b) fun d=>
 bif(bif(e==0)then true else(((d.toNat:Nat):Int)==127))then(
 chk (decide (((a.length+([92,120]:SS).length:Nat):Int)<=qhj)) (
 bnd (qwj n ((d.toNat:Nat):Int)) fun m=>
 chk (decide ((((a++([92,120]:SS)).length+m.length:Nat):Int)<=qhj)) (
 qfi n f b (((a++([92,120]:SS))++m),(1:Int)))))
 else(
 bif(bif(((d.toNat:Nat):Int)==39)then true else(((d.toNat:Nat):Int)==92))then(
 chk (decide (((a.length+([92]:SS).length:Nat):Int)<=qhj)) (
 bnd (qwb (kwr .i64 (b+1))) fun i=>
 bnd (qwb b) fun j=>
 chk (decide (j<=i/\i<=c.length)) (
 chk (decide ((((a++([92]:SS)).length+((c.take i).drop j).length:Nat):Int)<=qhj)) (
 qfi n f b (((a++([92]:SS))++((c.take i).drop j)),e)))))
 else(
 bif(((d.toNat:Nat):Int)==10)then(
 chk (decide (((a.length+([92,110]:SS).length:Nat):Int)<=qhj)) (
 qfi n f b ((a++([92,110]:SS)),e)))
 else(
 bif(((d.toNat:Nat):Int)==9)then(
 chk (decide (((a.length+([92,116]:SS).length:Nat):Int)<=qhj)) (
 qfi n f b ((a++([92,116]:SS)),e)))
 else(
 bif(((d.toNat:Nat):Int)==13)then(
 chk (decide (((a.length+([92,114]:SS).length:Nat):Int)<=qhj)) (
 qfi n f b ((a++([92,114]:SS)),e)))
 else(
 bif(decide (((d.toNat:Nat):Int)<32))then(
 chk (decide (((a.length+([92,120]:SS).length:Nat):Int)<=qhj)) (
 bnd (qwj n ((d.toNat:Nat):Int)) fun l=>
 chk (decide ((((a++([92,120]:SS)).length+l.length:Nat):Int)<=qhj)) (
 qfi n f b (((a++([92,120]:SS))++l),e))))
 else(
 bnd (qwb (kwr .i64 (b+e))) fun g=>
 bnd (qwb b) fun k=>
 chk (decide (k<=g/\g<=c.length)) (
 chk (decide (((a.length+((c.take g).drop k).length:Nat):Int)<=qhj)) (
 qfi n f b ((a++((c.take g).drop k)),e))))))))))
 else(
 chk (decide (((a.length+([39]:SS).length:Nat):Int)<=qhj)) (
 some (a++([39]:SS))))
def qt5 (n:Nat) (a:SS):Option SS:=
 qam (qez n a) n (([39]:SS),(0:Int))
set_option maxHeartbeats 4000000 in
theorem za7 (n:Nat):∀ (b r:SS),qt5 n b=some r->qai TP 60 [PV.str b] (zeh r):=by
 intro b r h;unfold qt5 at h;refine zN Tryz.call60 Tryz.func60 [1000000] ?_;conv=>whnf
 refine qbh.fn [1000000] (S:=SS×Int) (fun(a,e)=>[(0,pS b),(3,pS a),(4,pI e)]) (fun(a,e)=>[]) (B:=qez n b) h (wk [] []) ?_;intro M st h;obtain⟨a,e⟩:=st;unfold qez at h;conv=>whnf
 apply ifc h<;>intro c h
 ·conv=>whnf
  refine bq h fun f E h=>?_;refine⟨_,(q3d n _ _ _ E),?_⟩;conv=>whnf
  refine bq h fun _ C h=>?_;refine⟨_,qc8 C,?_⟩;conv=>whnf
  refine qhd.cut (S:=SS×Int) (fun(k,l)=>[(0,pS b),(3,pS k),(4,pI e),(5,pI l)]) (fun(k,l)=>[]) (qfi n M e) (r:=r) ?_ ?_
  ·intro st h
   obtain⟨k,l⟩:=st;unfold qfi at h;conv=>whnf
   exact⟨(k,(kwr .i64 (e+l))),h,wk [] []⟩
  conv=>whnf
  refine⟨id,?_⟩;conv=>whnf
  refine⟨id,?_⟩;conv=>whnf
  apply ifc h<;>intro c h
  ·conv=>whnf
   obtain⟨G,h⟩:=qah h;refine⟨(kod G:((a.length+([92,120]:SS).length:Nat):Int)<=qhj),?_⟩;conv=>whnf
   refine bq h fun q D h=>?_;refine⟨_,(q6a n _ _ D),?_⟩;conv=>whnf
   obtain⟨s,h⟩:=qah h;refine⟨(kod s:(((a++([92,120]:SS)).length+q.length:Nat):Int)<=qhj),?_⟩;conv=>whnf
   exact⟨(((a++([92,120]:SS))++q),(1:Int)),h,wk [] []⟩
  conv=>whnf
  refine⟨id,id,?_⟩;conv=>whnf
  apply ifc h<;>intro c h
  ·conv=>whnf
   obtain⟨K,h⟩:=qah h;refine⟨(kod K:((a.length+([92]:SS).length:Nat):Int)<=qhj),?_⟩;conv=>whnf
   refine bq h fun g J h=>?_;refine⟨_,qct J,?_⟩;conv=>whnf
   refine bq h fun i I h=>?_;refine⟨_,qct I,?_⟩;conv=>whnf
   obtain⟨o,h⟩:=qah h;refine⟨⟨(kod o:(i<=g/\g<=b.length)).1,(kod o:(i<=g/\g<=b.length)).2⟩,?_⟩;conv=>whnf
   obtain⟨H,h⟩:=qah h;refine⟨(kod H:(((a++([92]:SS)).length+((b.take g).drop i).length:Nat):Int)<=qhj),?_⟩;conv=>whnf
   exact⟨(((a++([92]:SS))++((b.take g).drop i)),f),h,wk [] []⟩
  conv=>whnf
  apply ifc h<;>intro c h
  ·conv=>whnf
   obtain⟨L,h⟩:=qah h;refine⟨(kod L:((a.length+([92,110]:SS).length:Nat):Int)<=qhj),?_⟩;conv=>whnf
   exact⟨((a++([92,110]:SS)),f),h,wk [] []⟩
  conv=>whnf
  apply ifc h<;>intro c h
  ·conv=>whnf
   obtain⟨t,h⟩:=qah h;refine⟨(kod t:((a.length+([92,116]:SS).length:Nat):Int)<=qhj),?_⟩;conv=>whnf
   exact⟨((a++([92,116]:SS)),f),h,wk [] []⟩
  conv=>whnf
  apply ifc h<;>intro c h
  ·conv=>whnf
   obtain⟨u,h⟩:=qah h;refine⟨(kod u:((a.length+([92,114]:SS).length:Nat):Int)<=qhj),?_⟩;conv=>whnf
   exact⟨((a++([92,114]:SS)),f),h,wk [] []⟩
  conv=>whnf
  apply ifc h<;>intro c h
  ·conv=>whnf
   obtain⟨x,h⟩:=qah h;refine⟨(kod x:((a.length+([92,120]:SS).length:Nat):Int)<=qhj),?_⟩;conv=>whnf
   refine bq h fun p w h=>?_;refine⟨_,(q6a n _ _ w),?_⟩;conv=>whnf
   obtain⟨v,h⟩:=qah h;refine⟨(kod v:(((a++([92,120]:SS)).length+p.length:Nat):Int)<=qhj),?_⟩;conv=>whnf
   exact⟨(((a++([92,120]:SS))++p),f),h,wk [] []⟩
  conv=>whnf
  refine bq h fun d A h=>?_;refine⟨_,qct A,?_⟩;conv=>whnf
  refine bq h fun j z h=>?_;refine⟨_,qct z,?_⟩;conv=>whnf
  obtain⟨m,h⟩:=qah h;refine⟨⟨(kod m:(j<=d/\d<=b.length)).1,(kod m:(j<=d/\d<=b.length)).2⟩,?_⟩;conv=>whnf
  obtain⟨y,h⟩:=qah h;refine⟨(kod y:((a.length+((b.take d).drop j).length:Nat):Int)<=qhj),?_⟩;conv=>whnf
  exact⟨((a++((b.take d).drop j)),f),h,wk [] []⟩
 conv=>whnf
 obtain⟨F,h⟩:=qah h;refine⟨(kod F:((a.length+([39]:SS).length:Nat):Int)<=qhj),?_⟩;obtain rfl:=sj h;conv=>whnf
 try exact fin
abbrev zi5 (r:SS):PV:=PV.str r
def qwk (n:Nat) (a:SS):Option SS:=
 bnd (qga n a) fun b=>
 bif b then(
 some a)
 else(
 bnd (qt5 n a) fun c=>
 some c)
theorem q6b (n:Nat):∀ (a r:SS),qwk n a=some r->qai TP 38 [PV.str a] (zi5 r):=by
 intro a r h;unfold qwk at h;refine zN Tryz.call38 Tryz.func38 [1000000] ?_;conv=>whnf
 refine bq h fun _ c h=>?_;refine⟨_,(qgi n _ _ c),?_⟩;conv=>whnf
 apply ifc h<;>intro _ h
 ·obtain rfl:=sj h
  conv=>whnf
  try exact fin
 conv=>whnf
 refine bq h fun _ b h=>?_;refine⟨_,(za7 n _ _ b),?_⟩;obtain rfl:=sj h;conv=>whnf
 try exact fin
abbrev zgt (r:SS):PV:=PV.str r
def qla (n:Nat) (g:List qao) (f:Int) (j:SS×Int->Option SS):(SS×Int->Option SS)->SS×Int->Option SS:=fun k (a,e)=>
 bnd (idx g f) fun⟨_,_,_,l⟩=>
 bif(decide (e<((qdj.rows l).length:Int)))then(
 bnd (idx g f) fun⟨_,_,_,m⟩=>
 bnd (idx m e) fun⟨o,p,q,s⟩=>
 chk (decide (((a.length+([59,32,115,101,101,107,32]:SS).length:Nat):Int)<=qhj)) (
 bnd (qhy n o) fun b=>
 chk (decide ((((a++([59,32,115,101,101,107,32]:SS)).length+b.length:Nat):Int)<=qhj)) (
 chk (decide (((((a++([59,32,115,101,101,107,32]:SS))++b).length+([32]:SS).length:Nat):Int)<=qhj)) (
 bnd (qhy n p) fun c=>
 chk (decide ((((((a++([59,32,115,101,101,107,32]:SS))++b)++([32]:SS)).length+c.length:Nat):Int)<=qhj)) (
 chk (decide (((((((a++([59,32,115,101,101,107,32]:SS))++b)++([32]:SS))++c).length+([32]:SS).length:Nat):Int)<=qhj)) (
 bnd (qwk n q) fun d=>
 chk (decide ((((((((a++([59,32,115,101,101,107,32]:SS))++b)++([32]:SS))++c)++([32]:SS)).length+d.length:Nat):Int)<=qhj)) (
 chk (decide (((((((((a++([59,32,115,101,101,107,32]:SS))++b)++([32]:SS))++c)++([32]:SS))++d).length+([46]:SS).length:Nat):Int)<=qhj)) (
 bnd (qwk n s) fun i=>
 chk (decide ((((((((((a++([59,32,115,101,101,107,32]:SS))++b)++([32]:SS))++c)++([32]:SS))++d)++([46]:SS)).length+i.length:Nat):Int)<=qhj)) (
 k (((((((((a++([59,32,115,101,101,107,32]:SS))++b)++([32]:SS))++c)++([32]:SS))++d)++([46]:SS))++i),(kwr .i64 (e+1))))))))))))
 else(
 chk (decide (((a.length+([10]:SS).length:Nat):Int)<=qhj)) (
 j ((a++([10]:SS)),(kwr .i64 (f+1)))))
def qqw (n:Nat) (b:List qao) (d:Int) (a:SS×Int->Option SS):SS->Option SS:=fun c=>
 qam (qla n b d a) n (c,(0:Int))
def qn0 (n:Nat) (a:SS) (c:List qao) (d:Int) (f:SS×Int->Option SS):SS->Option SS:=fun b=>
 chk (decide (((a.length+b.length:Nat):Int)<=qhj)) (
 chk (decide ((((a++b).length+([32]:SS).length:Nat):Int)<=qhj)) (
 bnd (idx c d) fun⟨_,l,_,_⟩=>
 bnd (qhy n l) fun e=>
 chk (decide (((((a++b)++([32]:SS)).length+e.length:Nat):Int)<=qhj)) (
 bnd (idx c d) fun⟨_,_,i,_⟩=>
 bnd (idx c d) fun⟨_,j,_,_⟩=>
 bif(i != j)then(
 chk (decide ((((((a++b)++([32]:SS))++e).length+([32,116,111,32]:SS).length:Nat):Int)<=qhj)) (
 bnd (idx c d) fun⟨_,_,k,_⟩=>
 bnd (qhy n k) fun g=>
 chk (decide (((((((a++b)++([32]:SS))++e)++([32,116,111,32]:SS)).length+g.length:Nat):Int)<=qhj)) (
 qqw n c d f (((((a++b)++([32]:SS))++e)++([32,116,111,32]:SS))++g))))
 else(
 qqw n c d f (((a++b)++([32]:SS))++e)))))
def qnz (n:Nat) (a:List qao) (b:Int) (d:SS) (c:SS×Int->Option SS):SS->Option SS:=fun e=>
 bnd (idx a b) fun⟨f,_,_,_⟩=>
 bif(f==2)then(
 qn0 n d a b c ([119,104,111,108,101]:SS))
 else(
 qn0 n d a b c e)
def qn1 (n:Nat) (a:List qao):(SS×Int->Option SS)->SS×Int->Option SS:=fun d (c,b)=>
 bif(decide (b<((qao.rows a).length:Int)))then(
 bnd (idx a b) fun⟨e,_,_,_⟩=>
 bif(e==1)then(
 qnz n a b c d ([102,108,111,119]:SS))
 else(
 qnz n a b c d ([119,114,105,116,101]:SS)))
 else(
 some c)
def qtw (n:Nat) (a:List qao):Option SS:=
 qam (qn1 n a) n (([]:SS),(0:Int))
set_option maxHeartbeats 4000000 in
theorem q3j (n:Nat):∀ (c:List qao) (r:SS),qtw n c=some r->qai TP 14 [PV.sl (qao.rows c)] (zgt r):=by
 intro c r h;unfold qtw at h;refine zN Tryz.call14 Tryz.func14 [1000000] ?_;conv=>whnf
 refine qbh.fn [1000000] (S:=SS×Int) (fun(b,d)=>[(0,pY c),(3,pS b),(4,pI d)]) (fun(b,d)=>[]) (B:=qn1 n c) h (wk [] []) ?_;intro k st h;obtain⟨b,d⟩:=st;unfold qn1 at h;conv=>whnf
 apply ifc h<;>intro j h
 ·conv=>whnf
  refine qhd.cut (S:=SS) (fun o=>[(0,pY c),(3,pS b),(4,pI d),(5,pS o)]) (fun o=>[]) (qnz n c d b k) (r:=r) ?_ ?_
  ·intro o h
   unfold qnz at h;conv=>whnf
   refine qhd.cut (S:=SS) (fun e=>[(0,pY c),(3,pS b),(4,pI d),(5,pS e)]) (fun e=>[]) (qn0 n b c d k) (r:=r) ?_ ?_
   ·intro e h
    unfold qn0 at h;(conv=>whnf);obtain⟨N,h⟩:=qah h;refine⟨(kod N:((b.length+e.length:Nat):Int)<=qhj),?_⟩;(conv=>whnf);obtain⟨M,h⟩:=qah h;refine⟨(kod M:(((b++e).length+([32]:SS).length:Nat):Int)<=qhj),?_⟩;(conv=>whnf);refine bq h fun s0 L h=>?_;obtain⟨_,_,_,_⟩:=s0;refine⟨_,Codec.at_ qbe L,?_⟩;(conv=>whnf);refine bq h fun i K h=>?_;refine⟨_,(qte n _ _ K),?_⟩;(conv=>whnf);obtain⟨J,h⟩:=qah h;refine⟨(kod J:((((b++e)++([32]:SS)).length+i.length:Nat):Int)<=qhj),?_⟩;(conv=>whnf);refine qhd.cut (S:=SS) (fun p=>[(0,pY c),(3,pS p),(4,pI d)]) (fun p=>[]) (qqw n c d k) (r:=r) ?_ ?_
    ·intro p h
     unfold qqw at h;(conv=>whnf);refine qbh.fn [1000000] (S:=SS×Int) (fun(a,l)=>[(0,pY c),(3,pS a),(4,pI d),(6,pI l)]) (fun(a,l)=>[]) (B:=qla n c d k) h (wk [] []) ?_;intro _ st h;obtain⟨a,l⟩:=st;unfold qla at h;(conv=>whnf);refine bq h fun s0 A h=>?_;obtain⟨_,_,_,_⟩:=s0;refine⟨_,Codec.at_ qbe A,?_⟩;(conv=>whnf);apply ifc h<;>intro j h
     ·conv=>whnf
      refine bq h fun s0 y h=>?_;obtain⟨_,_,_,_⟩:=s0;refine⟨_,Codec.at_ qbe y,?_⟩;(conv=>whnf);refine bq h fun s0 x h=>?_;obtain⟨_,_,_,_⟩:=s0;refine⟨_,Codec.at_ qyx x,?_⟩;(conv=>whnf);obtain⟨w,h⟩:=qah h;refine⟨(kod w:((a.length+([59,32,115,101,101,107,32]:SS).length:Nat):Int)<=qhj),?_⟩;(conv=>whnf);refine bq h fun f v h=>?_;refine⟨_,(qte n _ _ v),?_⟩;(conv=>whnf);obtain⟨u,h⟩:=qah h;refine⟨(kod u:(((a++([59,32,115,101,101,107,32]:SS)).length+f.length:Nat):Int)<=qhj),?_⟩;(conv=>whnf);obtain⟨X,h⟩:=qah h;refine⟨(kod X:((((a++([59,32,115,101,101,107,32]:SS))++f).length+([32]:SS).length:Nat):Int)<=qhj),?_⟩;(conv=>whnf);refine bq h fun g W h=>?_;refine⟨_,(qte n _ _ W),?_⟩;(conv=>whnf);obtain⟨V,h⟩:=qah h;refine⟨(kod V:(((((a++([59,32,115,101,101,107,32]:SS))++f)++([32]:SS)).length+g.length:Nat):Int)<=qhj),?_⟩;(conv=>whnf);obtain⟨U,h⟩:=qah h;refine⟨(kod U:((((((a++([59,32,115,101,101,107,32]:SS))++f)++([32]:SS))++g).length+([32]:SS).length:Nat):Int)<=qhj),?_⟩;(conv=>whnf);refine bq h fun m T h=>?_;refine⟨_,(q6b n _ _ T),?_⟩;(conv=>whnf);obtain⟨R,h⟩:=qah h;refine⟨(kod R:(((((((a++([59,32,115,101,101,107,32]:SS))++f)++([32]:SS))++g)++([32]:SS)).length+m.length:Nat):Int)<=qhj),?_⟩;(conv=>whnf);obtain⟨Q,h⟩:=qah h;refine⟨(kod Q:((((((((a++([59,32,115,101,101,107,32]:SS))++f)++([32]:SS))++g)++([32]:SS))++m).length+([46]:SS).length:Nat):Int)<=qhj),?_⟩;(conv=>whnf);refine bq h fun q F h=>?_;refine⟨_,(q6b n _ _ F),?_⟩;(conv=>whnf);obtain⟨t,h⟩:=qah h;refine⟨(kod t:(((((((((a++([59,32,115,101,101,107,32]:SS))++f)++([32]:SS))++g)++([32]:SS))++m)++([46]:SS)).length+q.length:Nat):Int)<=qhj),?_⟩;(conv=>whnf);exact⟨(((((((((a++([59,32,115,101,101,107,32]:SS))++f)++([32]:SS))++g)++([32]:SS))++m)++([46]:SS))++q),(kwr .i64 (l+1))),h,wk [] []⟩
     (conv=>whnf);obtain⟨z,h⟩:=qah h
     refine⟨(kod z:((a.length+([10]:SS).length:Nat):Int)<=qhj),?_⟩;(conv=>whnf);exact⟨((a++([10]:SS)),(kwr .i64 (d+1))),h,wk [] []⟩
    (conv=>whnf);refine bq h fun s0 I h=>?_
    obtain⟨_,_,_,_⟩:=s0;refine⟨_,Codec.at_ qbe I,?_⟩;(conv=>whnf);refine bq h fun s0 H h=>?_;obtain⟨_,_,_,_⟩:=s0;refine⟨_,Codec.at_ qbe H,?_⟩;(conv=>whnf);apply ifc h<;>intro j h
    ·conv=>whnf
     obtain⟨G,h⟩:=qah h;refine⟨(kod G:(((((b++e)++([32]:SS))++i).length+([32,116,111,32]:SS).length:Nat):Int)<=qhj),?_⟩;(conv=>whnf);refine bq h fun s0 E h=>?_;obtain⟨_,_,_,_⟩:=s0;refine⟨_,Codec.at_ qbe E,?_⟩;(conv=>whnf);refine bq h fun s D h=>?_;refine⟨_,(qte n _ _ D),?_⟩;(conv=>whnf);obtain⟨C,h⟩:=qah h;refine⟨(kod C:((((((b++e)++([32]:SS))++i)++([32,116,111,32]:SS)).length+s.length:Nat):Int)<=qhj),?_⟩;(conv=>whnf);exact⟨(((((b++e)++([32]:SS))++i)++([32,116,111,32]:SS))++s),h,wk [] []⟩
    (conv=>whnf);exact⟨(((b++e)++([32]:SS))++i),h,wk [] []⟩
   conv=>whnf
   refine bq h fun s0 O h=>?_;obtain⟨_,_,_,_⟩:=s0;refine⟨_,Codec.at_ qbe O,?_⟩;conv=>whnf
   apply ifc h<;>intro j h
   ·conv=>whnf
    exact⟨([119,104,111,108,101]:SS),h,wk [] []⟩
   conv=>whnf
   exact⟨o,h,wk [] []⟩
  conv=>whnf
  refine bq h fun s0 P h=>?_;obtain⟨_,_,_,_⟩:=s0;refine⟨_,Codec.at_ qbe P,?_⟩;conv=>whnf
  apply ifc h<;>intro j h
  ·conv=>whnf
   exact⟨([102,108,111,119]:SS),h,wk [] []⟩
  conv=>whnf
  exact⟨([119,114,105,116,101]:SS),h,wk [] []⟩
 obtain rfl:=sj h;conv=>whnf
 try exact fin
abbrev q3o (r:Bool):PV:=PV.bool r
def qo9 (n:Nat) (j:qip):Option (Bool):=
 match j with
 | ⟨d⟩=>
 bnd (qmx n (qip.mk d)) fun l=>
 bif l then(
 bnd (qes n) fun m=>
 some m)
 else(
 bnd (qj0 n (qip.mk d)) fun⟨f,a⟩=>
 bnd (qwr n (qip.mk d)) fun⟨g,b⟩=>
 bnd (qtv n f g) fun c=>
 bnd (qaw (bif c then(a==b)else false) (qpw n f)) fun i=>
 bnd (qaw (bif c then(a==b)else false) (qtw n g)) fun e=>
 bnd (qaw (bif(bif c then(a==b)else false)then(i==e)else false) (qes n)) fun k=>
 some (bif(bif(bif c then(a==b)else false)then(i==e)else false)then k else false))
theorem q17 (n:Nat):∀ (b:qip) (r:Bool),qo9 n b=some r->qai TP 3 [PV.agg (qy0.cells b)] (q3o r):=by
 intro b r h;obtain⟨_⟩:=b;unfold qo9 at h;refine zN Tryz.call3 Tryz.func3 [1000000] ?_;conv=>whnf
 refine bq h fun _ k h=>?_;refine⟨_,(qr0 n _ _ k),?_⟩;conv=>whnf
 apply ifc h<;>intro _ h
 ·conv=>whnf
  refine bq h fun _ c h=>?_;refine⟨_,(qek n _ c),?_⟩;obtain rfl:=sj h;conv=>whnf
  try exact fin
 conv=>whnf
 refine bq h fun s0 j h=>?_;obtain⟨_,_⟩:=s0;refine⟨_,(ql9 n _ _ j),?_⟩;conv=>whnf
 refine bq h fun s0 i h=>?_;obtain⟨_,_⟩:=s0;refine⟨_,(zd7 n _ _ i),?_⟩;conv=>whnf
 refine bq h fun _ g h=>?_;refine⟨_,(q3i n _ _ _ g),?_⟩;conv=>whnf
 refine⟨id,id,id,id,?_⟩;conv=>whnf
 refine bq h fun _ f h=>?_;refine⟨_,fun a=>(qv1 n _ _ (qac f a)),?_⟩;conv=>whnf
 refine⟨id,?_⟩;conv=>whnf
 refine bq h fun _ e h=>?_;refine⟨_,fun a=>(q3j n _ _ (qac e a)),?_⟩;conv=>whnf
 refine⟨id,id,id,?_⟩;conv=>whnf
 refine bq h fun _ d h=>?_;refine⟨_,fun a=>(qek n _ (qac d a)),?_⟩;conv=>whnf
 refine⟨id,?_⟩;obtain rfl:=sj h;conv=>whnf
 try exact fin
end W
end
