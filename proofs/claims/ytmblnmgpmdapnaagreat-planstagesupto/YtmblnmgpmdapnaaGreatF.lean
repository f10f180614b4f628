/- A part of the proof: contracts, printed by program. -/
import Derived.Test.YtmblnmgpmdapnaaGreatB
import Derived.Test.YtmblnmgpmdapnaaGreatD
import Derived.Test.YtmblnmgpmdapnaaGreatE
set_option linter.unusedVariables false
set_option linter.unusedSimpArgs false
set_option linter.unnecessarySimpa false
set_option linter.deprecated false
set_option linter.unusedSectionVars false
set_option linter.constructorNameAsVariable false
section
set_option maxRecDepth 100000
open Go Go.Proofs Ax
namespace W
abbrev zb5 (_:List qap) (_:Int) (_:Bool) (r:qae×Int×Bool):FV:=.p ((PV.agg (qd2.cells r.1)))
abbrev zbt (a:List qap) (_:Int) (_:Bool) (r:qae×Int×Bool):List AObj:=[.box 113 [pK a,.p (.int .i64 r.2.1),.p (.bool r.2.2)]]
def qqq (n:Nat) (a:List qap) (j:SS) (b:List SS):Int×Bool×List SS×List qaa->Option (qae×Int×Bool):=fun(c,d,e,f)=>
 bnd (qbu n ([41]:SS) a c d) fun⟨g,i⟩=>
 some (qae.mk j b e f,g,i)
def que (n:Nat) (a:List qap) (f:SS):LK (Int×Bool×List SS) (qae×Int×Bool):=fun g (s,b,c)=>
 bnd (qaq n ([58]:SS) a s b) fun⟨i,d⟩=>
 bif i then(
 bnd (qjt n a d b) fun⟨e,j,k⟩=>
 chk (decide ((qak (c++[e])).length * 16<=140737488355328)) (
 g (j,k,(c++[e]))))
 else(
 bnd (qeu n ([123]:SS) a d b) fun l=>
 bif l then(
 bnd (qbg n a d b) fun⟨m,o,p,q⟩=>
 qqq n a f c (p,q,m,o))
 else(
 qqq n a f c (d,b,([]:List _),([]:List _))))
def qp6 (n:Nat) (a:List qap) (b:Int) (c:Bool):Option (qae×Int×Bool):=
 bnd (qbu n ([40]:SS) a b c) fun⟨d,e⟩=>
 bnd (qlk n a d e) fun⟨f,g,i⟩=>
 qam (que n a f) n (g,i,([]:List _))
theorem qqr (n:Nat):∀ (b:List qap) (f:Int) (g:Bool) (r:qae×Int×Bool),qp6 n b f g=some r->qbq TP 81 [.ptr 0 0] [.box 113 [pK b,pI f,pB g]] 1 (fun v lo=>v=zb5 b f g r/\lo=zbt b f g r):=by
 intro b f g r h;unfold qp6 at h;refine zO Tryz.call81 Tryz.func81 [74,78,83,122,123,124,1000000] ?_;conv=>whnf
 refine bq h fun⟨M,N⟩ z h=>?_;refine qcq (qa6 n _ _ _ _ _ z) [0] [] ?_;rintro _ _ ⟨rfl,rfl⟩;refine⟨.p (.tup []),[.box 113 [pK b,pI M,pB N],zrx],rfl,rfl,?_⟩;conv=>whnf
 refine bq h fun⟨c,O,P⟩ A h=>?_;refine qcq (qps n _ _ _ _ A) [0] [] ?_;rintro _ _ ⟨rfl,rfl⟩;refine⟨pS c,[.box 113 [pK b,pI O,pB P],zrx,zrx],rfl,rfl,?_⟩;conv=>whnf
 refine qbh.fn [74,78,83,122,123,124,1000000] (S:=Int×Bool×List SS) (fun(o,e,a)=>[(0,.ptr 0 0),(2,.ptr 1 0),(3,.ptr 2 0)]) (fun(o,e,a)=>[.box 113 [pK b,pI o,pB e],zrx,.box 55 [pS c,.tsl 3 (qak a),zq2,zq2],.tail 9 1 (qak a).length]) (B:=que n b c) h (wk [0,1,2,0] [3]) ?_;intro _ st h;obtain⟨o,e,a⟩:=st;unfold que at h;conv=>whnf
 refine bq h fun⟨I,k⟩ C h=>?_;refine qcq (qal n _ _ _ _ _ C) [0] [] ?_;rintro _ _ ⟨rfl,rfl⟩;refine⟨pB I,[.box 113 [pK b,pI k,pB e],zrx,.box 55 [pS c,.tsl 3 (qak a),zq2,zq2],.tail 9 1 (qak a).length],rfl,rfl,?_⟩;conv=>whnf
 apply ifc h<;>intro H h
 ·conv=>whnf
  refine bq h fun⟨d,s,t⟩ D h=>?_;refine qcq (qhq n _ _ _ _ D) [0] [] ?_;rintro _ _ ⟨rfl,rfl⟩;refine⟨pS d,[.box 113 [pK b,pI s,pB t],zrx,.box 55 [pS c,.tsl 3 (qak a),zq2,zq2],.tail 9 1 (qak a).length],rfl,rfl,?_⟩;conv=>whnf
  refine⟨Codec.one qpr [d],qak [d],.inl rfl,?_⟩;conv=>whnf
  rw[show qak a++qak [d]=qak (a++[d])from Codec.append qpr a [d]];conv=>whnf
  obtain⟨q,h⟩:=qah h;refine⟨⟨Codec.wide qpr (a++[d]),kod q,qb5 q (by decide)⟩,?_⟩;conv=>whnf
  refine⟨⟨rfl,rfl,rfl⟩,?_⟩;conv=>whnf
  exact⟨(s,t,(a++[d])),h,wk [0,1,2,4] []⟩
 conv=>whnf
 refine qhd.cut (S:=Int×Bool×List SS×List qaa) (fun(l,m,i,j)=>[(0,.ptr 0 0),(2,.ptr 1 0),(3,.ptr 2 0)]) (fun(l,m,i,j)=>[.box 113 [pK b,pI l,pB m],zrx,.box 55 [pS c,.tsl 3 (qak a),pT i,pE j],.tail 9 1 (qak a).length]) (qqq n b c a) (r:=r) ?_ ?_
 ·intro st h
  obtain⟨l,m,i,j⟩:=st;unfold qqq at h;conv=>whnf
  refine bq h fun⟨J,K⟩ E h=>?_;refine qcq (qa6 n _ _ _ _ _ E) [0] [] ?_;rintro _ _ ⟨rfl,rfl⟩;refine⟨.p (.tup []),[.box 113 [pK b,pI J,pB K],zrx,.box 55 [pS c,.tsl 3 (qak a),pT i,pE j],.tail 9 1 (qak a).length],rfl,rfl,?_⟩;obtain rfl:=sj h;conv=>whnf
  refine⟨_,_,⟨rfl,rfl⟩,wk [0] []⟩
 conv=>whnf
 refine bq h fun L F h=>?_;refine qcq (qdm n _ _ _ _ _ F) [0] [] ?_;rintro _ _ ⟨rfl,rfl⟩;refine⟨pB L,[.box 113 [pK b,pI k,pB e],zrx,.box 55 [pS c,.tsl 3 (qak a),zq2,zq2],.tail 9 1 (qak a).length],rfl,rfl,?_⟩;conv=>whnf
 apply ifc h<;>intro H h
 ·conv=>whnf
  refine bq h fun⟨u,w,x,y⟩ G h=>?_;refine qcq (qs1 n _ _ _ _ G) [0] [] ?_;rintro _ _ ⟨rfl,rfl⟩;refine⟨.p (.tup [.sl (qak u),.sl (qaa.rows w)]),[.box 113 [pK b,pI x,pB y],zrx,.box 55 [pS c,.tsl 3 (qak a),zq2,zq2],.tail 9 1 (qak a).length],rfl,rfl,?_⟩;conv=>whnf
  exact⟨(x,y,u,w),h,wk [0,1,2,3] []⟩
 conv=>whnf
 exact⟨(k,e,([]:List _),([]:List _)),h,wk [0,1,2,3] []⟩
abbrev zb6 (_:List qap) (_:Int) (_:Bool) (r:qa9×Int×Bool):FV:=.p ((PV.agg (qlh.cells r.1)))
abbrev zbu (a:List qap) (_:Int) (_:Bool) (r:qa9×Int×Bool):List AObj:=[.box 113 [pK a,.p (.int .i64 r.2.1),.p (.bool r.2.2)]]
def qli (n:Nat) (o:List qap) (p:Bool) (b:List qag) (c d:SS) (e:List SS) (f:List qaa) (a:List qae) (m:Int×Bool×List qae×List qag->Option (qa9×Int×Bool)):Int×Int->Option (qa9×Int×Bool):=fun(q,g)=>
 bnd (qp6 n o q p) fun⟨⟨i,j,k,l⟩,s,t⟩=>
 chk (decide ((qag.rows (b++[qag.mk c d g e f])).length * 88<=140737488355328)) (
 chk (decide ((qae.rows (a++[qae.mk i j k l])).length * 88<=140737488355328)) (
 m (s,t,(a++[qae.mk i j k l]),(b++[qag.mk c d g e f]))))
def qpa (n:Nat) (a:List qap) (m:Bool) (e:List qag) (d:List qae) (c:Int×Bool×List qae×List qag->Option (qa9×Int×Bool)):Int×Bool×SS×SS×List SS×List qaa->Option (qa9×Int×Bool):=fun(o,p,f,g,i,j)=>
 bnd (qbu n ([45]:SS) a o p) fun⟨k,b⟩=>
 bif m then(
 qli n a b e f g i j d c (k,(1:Int)))
 else(
 bnd (qaq n ([62]:SS) a k b) fun⟨q,l⟩=>
 bif q then(
 qli n a b e f g i j d c (l,(0:Int)))
 else(
 qli n a b e f g i j d c (l,(2:Int))))
def qpc (n:Nat) (a:List qap) (e:Bool) (d:List qag) (c:List qae) (b:Int×Bool×List qae×List qag->Option (qa9×Int×Bool)) (f g:SS):Int×Bool×List SS×List qaa->Option (qa9×Int×Bool):=fun(i,j,k,l)=>
 bnd (qbu n ([93]:SS) a i j) fun⟨m,o⟩=>
 qpa n a e d c b (m,o,f,g,k,l)
def qpb (n:Nat) (a:List qap) (g:Bool) (f:List qag) (e:List qae) (d:Int×Bool×List qae×List qag->Option (qa9×Int×Bool)) (i:SS):Int×Bool×SS->Option (qa9×Int×Bool):=fun(b,c,j)=>
 bnd (qeu n ([123]:SS) a b c) fun k=>
 bif k then(
 bnd (qbg n a b c) fun⟨l,m,o,p⟩=>
 qpc n a g f e d i j (o,p,l,m))
 else(
 qpc n a g f e d i j (b,c,([]:List _),([]:List _)))
def qlj (n:Nat) (o:List qap) (p:Bool) (b:List qag) (c d:SS) (e:List SS) (f:List qaa) (a:List qae) (m:Int×Bool×List qae×List qag->Option (qa9×Int×Bool)):Int×Int->Option (qa9×Int×Bool):=fun(q,g)=>
 bnd (qp6 n o q p) fun⟨⟨i,j,k,l⟩,s,t⟩=>
 chk (decide ((qag.rows (b++[qag.mk c d g e f])).length * 88<=140737488355328)) (
 chk (decide ((qae.rows (a++[qae.mk i j k l])).length * 88<=140737488355328)) (
 m (s,t,(a++[qae.mk i j k l]),(b++[qag.mk c d g e f]))))
def qpd (n:Nat) (a:List qap) (m:Bool) (e:List qag) (d:List qae) (c:Int×Bool×List qae×List qag->Option (qa9×Int×Bool)):Int×Bool×SS×SS×List SS×List qaa->Option (qa9×Int×Bool):=fun(o,p,f,g,i,j)=>
 bnd (qbu n ([45]:SS) a o p) fun⟨k,b⟩=>
 bif m then(
 qlj n a b e f g i j d c (k,(1:Int)))
 else(
 bnd (qaq n ([62]:SS) a k b) fun⟨q,l⟩=>
 bif q then(
 qlj n a b e f g i j d c (l,(0:Int)))
 else(
 qlj n a b e f g i j d c (l,(2:Int))))
def qpf (n:Nat) (a:List qap) (e:Bool) (d:List qag) (c:List qae) (b:Int×Bool×List qae×List qag->Option (qa9×Int×Bool)) (f g:SS):Int×Bool×List SS×List qaa->Option (qa9×Int×Bool):=fun(i,j,k,l)=>
 bnd (qbu n ([93]:SS) a i j) fun⟨m,o⟩=>
 qpd n a e d c b (m,o,f,g,k,l)
def qpe (n:Nat) (a:List qap) (g:Bool) (f:List qag) (e:List qae) (d:Int×Bool×List qae×List qag->Option (qa9×Int×Bool)) (i:SS):Int×Bool×SS->Option (qa9×Int×Bool):=fun(b,c,j)=>
 bnd (qeu n ([123]:SS) a b c) fun o=>
 bif o then(
 bnd (qbg n a b c) fun⟨p,k,l,m⟩=>
 qpf n a g f e d i j (l,m,p,k))
 else(
 qpf n a g f e d i j (b,c,([]:List _),([]:List _)))
def quf (n:Nat) (a:List qap):LK (Int×Bool×List qae×List qag) (qa9×Int×Bool):=fun e (f,b,c,d)=>
 bnd (qeu n ([45]:SS) a f b) fun g=>
 bif(!g)then(
 bnd (qeu n ([60]:SS) a f b) fun A=>
 bif(bif g then true else A)then(
 bnd (qaq n ([60]:SS) a f b) fun⟨i,B⟩=>
 bnd (qbu n ([45]:SS) a B b) fun⟨C,j⟩=>
 bnd (qaq n ([91]:SS) a C j) fun⟨D,q⟩=>
 bif D then(
 bnd (qlk n a q j) fun⟨s,E,k⟩=>
 bnd (qaq n ([58]:SS) a E k) fun⟨F,t⟩=>
 bif F then(
 bnd (qjt n a t k) fun⟨G,H,I⟩=>
 qpb n a i d c e s (H,I,G))
 else(
 qpb n a i d c e s (t,k,([]:SS))))
 else(
 qpa n a i d c e (q,j,([]:SS),([]:SS),([]:List _),([]:List _))))
 else(
 some (qa9.mk c d,f,b)))
 else(
 bif(bif g then true else false)then(
 bnd (qaq n ([60]:SS) a f b) fun⟨l,J⟩=>
 bnd (qbu n ([45]:SS) a J b) fun⟨K,m⟩=>
 bnd (qaq n ([91]:SS) a K m) fun⟨L,u⟩=>
 bif L then(
 bnd (qlk n a u m) fun⟨v,M,o⟩=>
 bnd (qaq n ([58]:SS) a M o) fun⟨w,p⟩=>
 bif w then(
 bnd (qjt n a p o) fun⟨x,y,z⟩=>
 qpe n a l d c e v (y,z,x))
 else(
 qpe n a l d c e v (p,o,([]:SS))))
 else(
 qpd n a l d c e (u,m,([]:SS),([]:SS),([]:List _),([]:List _))))
 else(
 some (qa9.mk c d,f,b)))
def qzc (n:Nat) (a:List qap) (f:Int) (g:Bool):Option (qa9×Int×Bool):=
 bnd (qp6 n a f g) fun⟨⟨b,c,d,e⟩,i,j⟩=>
 chk (decide ((qae.rows [qae.mk b c d e]).length * 88<=140737488355328)) (
 qam (quf n a) n (i,j,[qae.mk b c d e],([]:List _)))
set_option maxHeartbeats 4000000 in
theorem q8t (n:Nat):∀ (c:List qap) (L:Int) (M:Bool) (r:qa9×Int×Bool),qzc n c L M=some r->qbq TP 119 [.ptr 0 0] [.box 113 [pK c,pI L,pB M]] 1 (fun v lo=>v=zb6 c L M r/\lo=zbu c L M r):=by
 intro c L M r h;unfold qzc at h;refine zO Tryz.call119 Tryz.func119 [74,78,81,83,122,123,124,1000000] ?_;conv=>whnf
 refine bq h fun⟨⟨X,Y,Z,a0⟩,k1,k5⟩ f2 h=>?_;refine qcq (qqr n _ _ _ _ f2) [0] [] ?_;rintro _ _ ⟨rfl,rfl⟩;refine⟨.p (.agg [.str X,.sl (qak Y),.sl (qak Z),.sl (qaa.rows a0)]),[.box 113 [pK c,pI k1,pB k5],zq8,zq8],rfl,rfl,?_⟩;conv=>whnf
 refine⟨Codec.one qd2 [qae.mk X Y Z a0],qae.rows [qae.mk X Y Z a0],.inl rfl,?_⟩;conv=>whnf
 obtain⟨c1,h⟩:=qah h;refine⟨⟨Codec.wide qd2 [qae.mk X Y Z a0],kod c1,qb5 c1 (by decide)⟩,?_⟩;conv=>whnf
 refine qbh.fn [74,78,81,83,122,123,124,1000000] (S:=Int×Bool×List qae×List qag) (fun(K,H,a,b)=>[(0,.ptr 0 0),(2,.ptr 1 0),(3,.ptr 2 0)]) (fun(K,H,a,b)=>[.box 113 [pK c,pI K,pB H],zq8,.box 59 [.tsl 3 (qae.rows a),.tsl 4 (qag.rows b)],.tail 55 4 (qae.rows a).length,.tail 68 5 (qag.rows b).length]) (B:=quf n c) h (wk [0,1,2,4,0] [4]) ?_;intro x st h;obtain⟨K,H,a,b⟩:=st;unfold quf at h;conv=>whnf
 refine bq h fun j0 g3 h=>?_;refine qcq (qdm n _ _ _ _ _ g3) [0] [] ?_;rintro _ _ ⟨rfl,rfl⟩;refine⟨pB j0,[.box 113 [pK c,pI K,pB H],zq8,.box 59 [.tsl 3 (qae.rows a),.tsl 4 (qag.rows b)],.tail 55 4 (qae.rows a).length,.tail 68 5 (qag.rows b).length],rfl,rfl,?_⟩;conv=>whnf
 refine⟨fun a2=>?_,fun a2=>?_⟩
 ·have h:=q10 h a2
  conv=>whnf
  refine⟨id,?_⟩;conv=>whnf
  refine bq h fun j1 i2 h=>?_;refine qcq (qdm n _ _ _ _ _ i2) [0] [] ?_;rintro _ _ ⟨rfl,rfl⟩;refine⟨pB j1,[.box 113 [pK c,pI K,pB H],zq8,.box 59 [.tsl 3 (qae.rows a),.tsl 4 (qag.rows b)],.tail 55 4 (qae.rows a).length,.tail 68 5 (qag.rows b).length],rfl,rfl,?_⟩;conv=>whnf
  refine⟨id,?_⟩;conv=>whnf
  apply ifc h<;>intro m h
  ·conv=>whnf
   refine bq h fun⟨I,j2⟩ i5 h=>?_;refine qcq (qal n _ _ _ _ _ i5) [0] [] ?_;rintro _ _ ⟨rfl,rfl⟩;refine⟨pB I,[.box 113 [pK c,pI j2,pB H],zq8,.box 59 [.tsl 3 (qae.rows a),.tsl 4 (qag.rows b)],.tail 55 4 (qae.rows a).length,.tail 68 5 (qag.rows b).length,zuk],rfl,rfl,?_⟩;conv=>whnf
   refine bq h fun⟨j3,a3⟩ i6 h=>?_;refine qcq (qa6 n _ _ _ _ _ i6) [0] [] ?_;rintro _ _ ⟨rfl,rfl⟩;refine⟨.p (.tup []),[.box 113 [pK c,pI j3,pB a3],zq8,.box 59 [.tsl 3 (qae.rows a),.tsl 4 (qag.rows b)],.tail 55 4 (qae.rows a).length,.tail 68 5 (qag.rows b).length,zuk],rfl,rfl,?_⟩;conv=>whnf
   refine qhd.cut (S:=Int×Bool×SS×SS×List SS×List qaa) (fun(a4,a5,d,e,f,g)=>[(0,.ptr 0 0),(2,.ptr 1 0),(3,.ptr 2 0),(5,.ptr 3 0),(6,pB I)]) (fun(a4,a5,d,e,f,g)=>[.box 113 [pK c,pI a4,pB a5],zq8,.box 59 [.tsl 4 (qae.rows a),.tsl 5 (qag.rows b)],.box 68 [pS d,pS e,zq0,pT f,pE g],.tail 55 4 (qae.rows a).length,.tail 68 5 (qag.rows b).length]) (qpa n c I b a x) (r:=r) ?_ ?_
   ·intro st h
    obtain⟨a4,a5,d,e,f,g⟩:=st;unfold qpa at h;(conv=>whnf);refine bq h fun⟨d1,W⟩ i7 h=>?_;refine qcq (qa6 n _ _ _ _ _ i7) [0] [] ?_;rintro _ _ ⟨rfl,rfl⟩;refine⟨.p (.tup []),[.box 113 [pK c,pI d1,pB W],zq8,.box 59 [.tsl 4 (qae.rows a),.tsl 5 (qag.rows b)],.box 68 [pS d,pS e,zq0,pT f,pE g],.tail 55 4 (qae.rows a).length,.tail 68 5 (qag.rows b).length],rfl,rfl,?_⟩;(conv=>whnf);refine qhd.cut (S:=Int×Int) (fun(a6,o)=>[(0,.ptr 0 0),(2,.ptr 1 0),(3,.ptr 2 0),(5,.ptr 3 0)]) (fun(a6,o)=>[.box 113 [pK c,pI a6,pB W],zq8,.box 59 [.tsl 4 (qae.rows a),.tsl 5 (qag.rows b)],.box 68 [pS d,pS e,pI o,pT f,pE g],.tail 55 4 (qae.rows a).length,.tail 68 5 (qag.rows b).length]) (qli n c W b d e f g a x) (r:=r) ?_ ?_
    ·intro st h
     obtain⟨a6,o⟩:=st;unfold qli at h;(conv=>whnf);refine bq h fun⟨⟨y,z,A,C⟩,d2,d3⟩ i8 h=>?_;refine qcq (qqr n _ _ _ _ i8) [0] [] ?_;rintro _ _ ⟨rfl,rfl⟩;refine⟨.p (.agg [.str y,.sl (qak z),.sl (qak A),.sl (qaa.rows C)]),[.box 113 [pK c,pI d2,pB d3],zq8,.box 59 [.tsl 4 (qae.rows a),.tsl 5 (qag.rows b)],.box 68 [pS d,pS e,pI o,pT f,pE g],.tail 55 4 (qae.rows a).length,.tail 68 5 (qag.rows b).length],rfl,rfl,?_⟩;(conv=>whnf);refine⟨Codec.one qg1 [qag.mk d e o f g],qag.rows [qag.mk d e o f g],.inl rfl,?_⟩;(conv=>whnf);rw[show qag.rows b++qag.rows [qag.mk d e o f g]=qag.rows (b++[qag.mk d e o f g])from Codec.append qg1 b [qag.mk d e o f g]];(conv=>whnf);obtain⟨c3,h⟩:=qah h;refine⟨⟨Codec.wide qg1 (b++[qag.mk d e o f g]),kod c3,qb5 c3 (by decide)⟩,?_⟩;(conv=>whnf);refine⟨⟨rfl,rfl,rfl⟩,?_⟩;(conv=>whnf);refine⟨Codec.one qd2 [qae.mk y z A C],qae.rows [qae.mk y z A C],.inl rfl,?_⟩;(conv=>whnf);rw[show qae.rows a++qae.rows [qae.mk y z A C]=qae.rows (a++[qae.mk y z A C])from Codec.append qd2 a [qae.mk y z A C]];(conv=>whnf);obtain⟨c2,h⟩:=qah h;refine⟨⟨Codec.wide qd2 (a++[qae.mk y z A C]),kod c2,qb5 c2 (by decide)⟩,?_⟩;(conv=>whnf);refine⟨⟨rfl,rfl,rfl⟩,?_⟩;(conv=>whnf);exact⟨(d2,d3,(a++[qae.mk y z A C]),(b++[qag.mk d e o f g])),h,wk [0,1,2,8,7] []⟩
    (conv=>whnf);apply ifc h<;>intro m h
    ·conv=>whnf
     exact⟨(d1,(1:Int)),h,wk [0,1,2,3,4,5] []⟩
    (conv=>whnf);refine bq h fun⟨j4,a7⟩ f3 h=>?_
    refine qcq (qal n _ _ _ _ _ f3) [0] [] ?_;rintro _ _ ⟨rfl,rfl⟩;refine⟨pB j4,[.box 113 [pK c,pI a7,pB W],zq8,.box 59 [.tsl 4 (qae.rows a),.tsl 5 (qag.rows b)],.box 68 [pS d,pS e,.p (.int .i64 (2:Int)),pT f,pE g],.tail 55 4 (qae.rows a).length,.tail 68 5 (qag.rows b).length],rfl,rfl,?_⟩;(conv=>whnf);apply ifc h<;>intro m h
    ·conv=>whnf
     exact⟨(a7,(0:Int)),h,wk [0,1,2,3,4,5] []⟩
    (conv=>whnf);exact⟨(a7,(2:Int)),h,wk [0,1,2,3,4,5] []⟩
   conv=>whnf
   refine bq h fun⟨j5,d4⟩ f4 h=>?_;refine qcq (qal n _ _ _ _ _ f4) [0] [] ?_;rintro _ _ ⟨rfl,rfl⟩;refine⟨pB j5,[.box 113 [pK c,pI d4,pB a3],zq8,.box 59 [.tsl 3 (qae.rows a),.tsl 4 (qag.rows b)],.tail 55 4 (qae.rows a).length,.tail 68 5 (qag.rows b).length,zuk],rfl,rfl,?_⟩;conv=>whnf
   apply ifc h<;>intro m h
   ·conv=>whnf
    refine bq h fun⟨q,j6,a8⟩ f5 h=>?_;refine qcq (qps n _ _ _ _ f5) [0] [] ?_;rintro _ _ ⟨rfl,rfl⟩;refine⟨pS q,[.box 113 [pK c,pI j6,pB a8],zq8,.box 59 [.tsl 3 (qae.rows a),.tsl 4 (qag.rows b)],.tail 55 4 (qae.rows a).length,.tail 68 5 (qag.rows b).length,zuk],rfl,rfl,?_⟩;(conv=>whnf);refine qhd.cut (S:=Int×Bool×SS) (fun(N,O,u)=>[(0,.ptr 0 0),(2,.ptr 1 0),(3,.ptr 2 0),(5,.ptr 3 0),(6,pB I)]) (fun(N,O,u)=>[.box 113 [pK c,pI N,pB O],zq8,.box 59 [.tsl 4 (qae.rows a),.tsl 5 (qag.rows b)],.box 68 [pS q,pS u,zq0,zq2,zq2],.tail 55 4 (qae.rows a).length,.tail 68 5 (qag.rows b).length]) (qpb n c I b a x q) (r:=r) ?_ ?_
    ·intro st h
     obtain⟨N,O,u⟩:=st;unfold qpb at h;(conv=>whnf);refine qhd.cut (S:=Int×Bool×List SS×List qaa) (fun(a9,b0,P,Q)=>[(0,.ptr 0 0),(2,.ptr 1 0),(3,.ptr 2 0),(5,.ptr 3 0),(6,pB I)]) (fun(a9,b0,P,Q)=>[.box 113 [pK c,pI a9,pB b0],zq8,.box 59 [.tsl 4 (qae.rows a),.tsl 5 (qag.rows b)],.box 68 [pS q,pS u,zq0,pT P,pE Q],.tail 55 4 (qae.rows a).length,.tail 68 5 (qag.rows b).length]) (qpc n c I b a x q u) (r:=r) ?_ ?_
     ·intro st h
      obtain⟨a9,b0,P,Q⟩:=st;unfold qpc at h;(conv=>whnf);refine bq h fun⟨d5,d6⟩ f6 h=>?_;refine qcq (qa6 n _ _ _ _ _ f6) [0] [] ?_;rintro _ _ ⟨rfl,rfl⟩;refine⟨.p (.tup []),[.box 113 [pK c,pI d5,pB d6],zq8,.box 59 [.tsl 4 (qae.rows a),.tsl 5 (qag.rows b)],.box 68 [pS q,pS u,zq0,pT P,pE Q],.tail 55 4 (qae.rows a).length,.tail 68 5 (qag.rows b).length],rfl,rfl,?_⟩;(conv=>whnf);exact⟨(d5,d6,q,u,P,Q),h,wk [0,1,2,3,4,5] []⟩
     (conv=>whnf);refine bq h fun j7 f7 h=>?_
     refine qcq (qdm n _ _ _ _ _ f7) [0] [] ?_;rintro _ _ ⟨rfl,rfl⟩;refine⟨pB j7,[.box 113 [pK c,pI N,pB O],zq8,.box 59 [.tsl 4 (qae.rows a),.tsl 5 (qag.rows b)],.box 68 [pS q,pS u,zq0,zq2,zq2],.tail 55 4 (qae.rows a).length,.tail 68 5 (qag.rows b).length],rfl,rfl,?_⟩;(conv=>whnf);apply ifc h<;>intro m h
     ·conv=>whnf
      refine bq h fun⟨d7,d8,d9,e0⟩ f8 h=>?_;refine qcq (qs1 n _ _ _ _ f8) [0] [] ?_;rintro _ _ ⟨rfl,rfl⟩;refine⟨.p (.tup [.sl (qak d7),.sl (qaa.rows d8)]),[.box 113 [pK c,pI d9,pB e0],zq8,.box 59 [.tsl 4 (qae.rows a),.tsl 5 (qag.rows b)],.box 68 [pS q,pS u,zq0,zq2,zq2],.tail 55 4 (qae.rows a).length,.tail 68 5 (qag.rows b).length],rfl,rfl,?_⟩;(conv=>whnf);exact⟨(d9,e0,d7,d8),h,wk [0,1,2,3,4,5] []⟩
     (conv=>whnf);exact⟨(N,O,([]:List _),([]:List _)),h,wk [0,1,2,3,4,5] []⟩
    (conv=>whnf);refine bq h fun⟨j8,e1⟩ f9 h=>?_
    refine qcq (qal n _ _ _ _ _ f9) [0] [] ?_;rintro _ _ ⟨rfl,rfl⟩;refine⟨pB j8,[.box 113 [pK c,pI e1,pB a8],zq8,.box 59 [.tsl 3 (qae.rows a),.tsl 4 (qag.rows b)],.tail 55 4 (qae.rows a).length,.tail 68 5 (qag.rows b).length,.box 68 [pS q,zq1,zq0,zq2,zq2]],rfl,rfl,?_⟩;(conv=>whnf);apply ifc h<;>intro m h
    ·conv=>whnf
     refine bq h fun⟨e2,e3,e4⟩ g0 h=>?_;refine qcq (qhq n _ _ _ _ g0) [0] [] ?_;rintro _ _ ⟨rfl,rfl⟩;refine⟨pS e2,[.box 113 [pK c,pI e3,pB e4],zq8,.box 59 [.tsl 3 (qae.rows a),.tsl 4 (qag.rows b)],.tail 55 4 (qae.rows a).length,.tail 68 5 (qag.rows b).length,.box 68 [pS q,zq1,zq0,zq2,zq2]],rfl,rfl,?_⟩;(conv=>whnf);exact⟨(e3,e4,e2),h,wk [0,1,2,5,3,4] []⟩
    (conv=>whnf);exact⟨(e1,a8,([]:SS)),h,wk [0,1,2,5,3,4] []⟩
   conv=>whnf
   exact⟨(d4,a3,([]:SS),([]:SS),([]:List _),([]:List _)),h,wk [0,1,2,5,3,4] []⟩
  obtain rfl:=sj h;conv=>whnf
  refine⟨_,_,⟨rfl,rfl⟩,wk [0] []⟩
 have h:=q1z h a2;refine⟨pB false,?_⟩;conv=>whnf
 refine⟨id,?_⟩;conv=>whnf
 apply ifc h<;>intro m h
 ·conv=>whnf
  refine bq h fun⟨J,j9⟩ g1 h=>?_;refine qcq (qal n _ _ _ _ _ g1) [0] [] ?_;rintro _ _ ⟨rfl,rfl⟩;refine⟨pB J,[.box 113 [pK c,pI j9,pB H],zq8,.box 59 [.tsl 3 (qae.rows a),.tsl 4 (qag.rows b)],.tail 55 4 (qae.rows a).length,.tail 68 5 (qag.rows b).length,zuk],rfl,rfl,?_⟩;conv=>whnf
  refine bq h fun⟨k0,b1⟩ g2 h=>?_;refine qcq (qa6 n _ _ _ _ _ g2) [0] [] ?_;rintro _ _ ⟨rfl,rfl⟩;refine⟨.p (.tup []),[.box 113 [pK c,pI k0,pB b1],zq8,.box 59 [.tsl 3 (qae.rows a),.tsl 4 (qag.rows b)],.tail 55 4 (qae.rows a).length,.tail 68 5 (qag.rows b).length,zuk],rfl,rfl,?_⟩;conv=>whnf
  refine qhd.cut (S:=Int×Bool×SS×SS×List SS×List qaa) (fun(b2,b3,i,j,k,l)=>[(0,.ptr 0 0),(2,.ptr 1 0),(3,.ptr 2 0),(5,.ptr 3 0),(6,pB J)]) (fun(b2,b3,i,j,k,l)=>[.box 113 [pK c,pI b2,pB b3],zq8,.box 59 [.tsl 4 (qae.rows a),.tsl 5 (qag.rows b)],.box 68 [pS i,pS j,zq0,pT k,pE l],.tail 55 4 (qae.rows a).length,.tail 68 5 (qag.rows b).length]) (qpd n c J b a x) (r:=r) ?_ ?_
  ·intro st h
   obtain⟨b2,b3,i,j,k,l⟩:=st;unfold qpd at h;conv=>whnf
   refine bq h fun⟨e5,a1⟩ g4 h=>?_;refine qcq (qa6 n _ _ _ _ _ g4) [0] [] ?_;rintro _ _ ⟨rfl,rfl⟩;refine⟨.p (.tup []),[.box 113 [pK c,pI e5,pB a1],zq8,.box 59 [.tsl 4 (qae.rows a),.tsl 5 (qag.rows b)],.box 68 [pS i,pS j,zq0,pT k,pE l],.tail 55 4 (qae.rows a).length,.tail 68 5 (qag.rows b).length],rfl,rfl,?_⟩;conv=>whnf
   refine qhd.cut (S:=Int×Int) (fun(b4,s)=>[(0,.ptr 0 0),(2,.ptr 1 0),(3,.ptr 2 0),(5,.ptr 3 0)]) (fun(b4,s)=>[.box 113 [pK c,pI b4,pB a1],zq8,.box 59 [.tsl 4 (qae.rows a),.tsl 5 (qag.rows b)],.box 68 [pS i,pS j,pI s,pT k,pE l],.tail 55 4 (qae.rows a).length,.tail 68 5 (qag.rows b).length]) (qlj n c a1 b i j k l a x) (r:=r) ?_ ?_
   ·intro st h
    obtain⟨b4,s⟩:=st;unfold qlj at h;(conv=>whnf);refine bq h fun⟨⟨D,E,F,G⟩,e6,e7⟩ g5 h=>?_;refine qcq (qqr n _ _ _ _ g5) [0] [] ?_;rintro _ _ ⟨rfl,rfl⟩;refine⟨.p (.agg [.str D,.sl (qak E),.sl (qak F),.sl (qaa.rows G)]),[.box 113 [pK c,pI e6,pB e7],zq8,.box 59 [.tsl 4 (qae.rows a),.tsl 5 (qag.rows b)],.box 68 [pS i,pS j,pI s,pT k,pE l],.tail 55 4 (qae.rows a).length,.tail 68 5 (qag.rows b).length],rfl,rfl,?_⟩;(conv=>whnf);refine⟨Codec.one qg1 [qag.mk i j s k l],qag.rows [qag.mk i j s k l],.inl rfl,?_⟩;(conv=>whnf);rw[show qag.rows b++qag.rows [qag.mk i j s k l]=qag.rows (b++[qag.mk i j s k l])from Codec.append qg1 b [qag.mk i j s k l]];(conv=>whnf);obtain⟨c0,h⟩:=qah h;refine⟨⟨Codec.wide qg1 (b++[qag.mk i j s k l]),kod c0,qb5 c0 (by decide)⟩,?_⟩;(conv=>whnf);refine⟨⟨rfl,rfl,rfl⟩,?_⟩;(conv=>whnf);refine⟨Codec.one qd2 [qae.mk D E F G],qae.rows [qae.mk D E F G],.inl rfl,?_⟩;(conv=>whnf);rw[show qae.rows a++qae.rows [qae.mk D E F G]=qae.rows (a++[qae.mk D E F G])from Codec.append qd2 a [qae.mk D E F G]];(conv=>whnf);obtain⟨b9,h⟩:=qah h;refine⟨⟨Codec.wide qd2 (a++[qae.mk D E F G]),kod b9,qb5 b9 (by decide)⟩,?_⟩;(conv=>whnf);refine⟨⟨rfl,rfl,rfl⟩,?_⟩;(conv=>whnf);exact⟨(e6,e7,(a++[qae.mk D E F G]),(b++[qag.mk i j s k l])),h,wk [0,1,2,8,7] []⟩
   conv=>whnf
   apply ifc h<;>intro m h
   ·conv=>whnf
    exact⟨(e5,(1:Int)),h,wk [0,1,2,3,4,5] []⟩
   conv=>whnf
   refine bq h fun⟨k2,b5⟩ g6 h=>?_;refine qcq (qal n _ _ _ _ _ g6) [0] [] ?_;rintro _ _ ⟨rfl,rfl⟩;refine⟨pB k2,[.box 113 [pK c,pI b5,pB a1],zq8,.box 59 [.tsl 4 (qae.rows a),.tsl 5 (qag.rows b)],.box 68 [pS i,pS j,.p (.int .i64 (2:Int)),pT k,pE l],.tail 55 4 (qae.rows a).length,.tail 68 5 (qag.rows b).length],rfl,rfl,?_⟩;conv=>whnf
   apply ifc h<;>intro m h
   ·conv=>whnf
    exact⟨(b5,(0:Int)),h,wk [0,1,2,3,4,5] []⟩
   conv=>whnf
   exact⟨(b5,(2:Int)),h,wk [0,1,2,3,4,5] []⟩
  conv=>whnf
  refine bq h fun⟨k3,e8⟩ g7 h=>?_;refine qcq (qal n _ _ _ _ _ g7) [0] [] ?_;rintro _ _ ⟨rfl,rfl⟩;refine⟨pB k3,[.box 113 [pK c,pI e8,pB b1],zq8,.box 59 [.tsl 3 (qae.rows a),.tsl 4 (qag.rows b)],.tail 55 4 (qae.rows a).length,.tail 68 5 (qag.rows b).length,zuk],rfl,rfl,?_⟩;conv=>whnf
  apply ifc h<;>intro m h
  ·conv=>whnf
   refine bq h fun⟨t,k4,b6⟩ g8 h=>?_;refine qcq (qps n _ _ _ _ g8) [0] [] ?_;rintro _ _ ⟨rfl,rfl⟩;refine⟨pS t,[.box 113 [pK c,pI k4,pB b6],zq8,.box 59 [.tsl 3 (qae.rows a),.tsl 4 (qag.rows b)],.tail 55 4 (qae.rows a).length,.tail 68 5 (qag.rows b).length,zuk],rfl,rfl,?_⟩;conv=>whnf
   refine qhd.cut (S:=Int×Bool×SS) (fun(R,T,w)=>[(0,.ptr 0 0),(2,.ptr 1 0),(3,.ptr 2 0),(5,.ptr 3 0),(6,pB J)]) (fun(R,T,w)=>[.box 113 [pK c,pI R,pB T],zq8,.box 59 [.tsl 4 (qae.rows a),.tsl 5 (qag.rows b)],.box 68 [pS t,pS w,zq0,zq2,zq2],.tail 55 4 (qae.rows a).length,.tail 68 5 (qag.rows b).length]) (qpe n c J b a x t) (r:=r) ?_ ?_
   ·intro st h
    obtain⟨R,T,w⟩:=st;unfold qpe at h;(conv=>whnf);refine qhd.cut (S:=Int×Bool×List SS×List qaa) (fun(b7,b8,U,V)=>[(0,.ptr 0 0),(2,.ptr 1 0),(3,.ptr 2 0),(5,.ptr 3 0),(6,pB J)]) (fun(b7,b8,U,V)=>[.box 113 [pK c,pI b7,pB b8],zq8,.box 59 [.tsl 4 (qae.rows a),.tsl 5 (qag.rows b)],.box 68 [pS t,pS w,zq0,pT U,pE V],.tail 55 4 (qae.rows a).length,.tail 68 5 (qag.rows b).length]) (qpf n c J b a x t w) (r:=r) ?_ ?_
    ·intro st h
     obtain⟨b7,b8,U,V⟩:=st;unfold qpf at h;(conv=>whnf);refine bq h fun⟨e9,f0⟩ g9 h=>?_;refine qcq (qa6 n _ _ _ _ _ g9) [0] [] ?_;rintro _ _ ⟨rfl,rfl⟩;refine⟨.p (.tup []),[.box 113 [pK c,pI e9,pB f0],zq8,.box 59 [.tsl 4 (qae.rows a),.tsl 5 (qag.rows b)],.box 68 [pS t,pS w,zq0,pT U,pE V],.tail 55 4 (qae.rows a).length,.tail 68 5 (qag.rows b).length],rfl,rfl,?_⟩;(conv=>whnf);exact⟨(e9,f0,t,w,U,V),h,wk [0,1,2,3,4,5] []⟩
    (conv=>whnf);refine bq h fun k6 i0 h=>?_
    refine qcq (qdm n _ _ _ _ _ i0) [0] [] ?_;rintro _ _ ⟨rfl,rfl⟩;refine⟨pB k6,[.box 113 [pK c,pI R,pB T],zq8,.box 59 [.tsl 4 (qae.rows a),.tsl 5 (qag.rows b)],.box 68 [pS t,pS w,zq0,zq2,zq2],.tail 55 4 (qae.rows a).length,.tail 68 5 (qag.rows b).length],rfl,rfl,?_⟩;(conv=>whnf);apply ifc h<;>intro m h
    ·conv=>whnf
     refine bq h fun⟨f1,c4,c5,c6⟩ i1 h=>?_;refine qcq (qs1 n _ _ _ _ i1) [0] [] ?_;rintro _ _ ⟨rfl,rfl⟩;refine⟨.p (.tup [.sl (qak f1),.sl (qaa.rows c4)]),[.box 113 [pK c,pI c5,pB c6],zq8,.box 59 [.tsl 4 (qae.rows a),.tsl 5 (qag.rows b)],.box 68 [pS t,pS w,zq0,zq2,zq2],.tail 55 4 (qae.rows a).length,.tail 68 5 (qag.rows b).length],rfl,rfl,?_⟩;(conv=>whnf);exact⟨(c5,c6,f1,c4),h,wk [0,1,2,3,4,5] []⟩
    (conv=>whnf);exact⟨(R,T,([]:List _),([]:List _)),h,wk [0,1,2,3,4,5] []⟩
   conv=>whnf
   refine bq h fun⟨i9,c7⟩ i3 h=>?_;refine qcq (qal n _ _ _ _ _ i3) [0] [] ?_;rintro _ _ ⟨rfl,rfl⟩;refine⟨pB i9,[.box 113 [pK c,pI c7,pB b6],zq8,.box 59 [.tsl 3 (qae.rows a),.tsl 4 (qag.rows b)],.tail 55 4 (qae.rows a).length,.tail 68 5 (qag.rows b).length,.box 68 [pS t,zq1,zq0,zq2,zq2]],rfl,rfl,?_⟩;conv=>whnf
   apply ifc h<;>intro m h
   ·conv=>whnf
    refine bq h fun⟨c8,c9,d0⟩ i4 h=>?_;refine qcq (qhq n _ _ _ _ i4) [0] [] ?_;rintro _ _ ⟨rfl,rfl⟩;refine⟨pS c8,[.box 113 [pK c,pI c9,pB d0],zq8,.box 59 [.tsl 3 (qae.rows a),.tsl 4 (qag.rows b)],.tail 55 4 (qae.rows a).length,.tail 68 5 (qag.rows b).length,.box 68 [pS t,zq1,zq0,zq2,zq2]],rfl,rfl,?_⟩;(conv=>whnf);exact⟨(c9,d0,c8),h,wk [0,1,2,5,3,4] []⟩
   conv=>whnf
   exact⟨(c7,b6,([]:SS)),h,wk [0,1,2,5,3,4] []⟩
  conv=>whnf
  exact⟨(e8,b1,([]:SS),([]:SS),([]:List _),([]:List _)),h,wk [0,1,2,5,3,4] []⟩
 obtain rfl:=sj h;conv=>whnf
 refine⟨_,_,⟨rfl,rfl⟩,wk [0] []⟩
abbrev q9h (_:List qap) (_:Int) (_:Bool) (r:(List qa9)×Int×Bool):FV:=.p (.sl (qa9.rows r.1))
abbrev q9e (a:List qap) (_:Int) (_:Bool) (r:(List qa9)×Int×Bool):List AObj:=[.box 113 [pK a,.p (.int .i64 r.2.1),.p (.bool r.2.2)]]
def qsz (n:Nat) (e:List qap):LK (List qa9×Int×Bool) ((List qa9)×Int×Bool):=fun g (b,j,k)=>
 bnd (qzc n e j k) fun⟨⟨c,d⟩,l,a⟩=>
 chk (decide ((qa9.rows (b++[qa9.mk c d])).length * 48<=140737488355328)) (
 bnd (qaq n ([44]:SS) e l a) fun⟨i,f⟩=>
 bif(!i)then(
 some ((b++[qa9.mk c d]),f,a))
 else(
 g ((b++[qa9.mk c d]),f,a)))
def qth (n:Nat) (a:List qap) (b:Int) (c:Bool):Option ((List qa9)×Int×Bool):=
 qam (qsz n a) n (([]:List _),b,c)
theorem qyf (n:Nat):∀ (d:List qap) (e:Int) (f:Bool) (r:(List qa9)×Int×Bool),qth n d e f=some r->qbq TP 75 [.ptr 0 0] [.box 113 [pK d,pI e,pB f]] 1 (fun v lo=>v=q9h d e f r/\lo=q9e d e f r):=by
 intro d e f r h;unfold qth at h;refine zO Tryz.call75 Tryz.func75 [74,119,1000000] ?_;conv=>whnf
 refine qbh.fn [74,119,1000000] (S:=List qa9×Int×Bool) (fun(a,i,j)=>[(0,.ptr 0 0),(3,.tsl 1 (qa9.rows a))]) (fun(a,i,j)=>[.box 113 [pK d,pI i,pB j],.tail 59 2 (qa9.rows a).length]) (B:=qsz n d) h (wk [0,0] [1]) ?_;intro _ st h;obtain⟨a,i,j⟩:=st;unfold qsz at h;conv=>whnf
 refine bq h fun⟨⟨b,c⟩,s,g⟩ m h=>?_;refine qcq (q8t n _ _ _ _ m) [0] [] ?_;rintro _ _ ⟨rfl,rfl⟩;refine⟨.p (.agg [.sl (qae.rows b),.sl (qag.rows c)]),[.box 113 [pK d,pI s,pB g],.tail 59 2 (qa9.rows a).length],rfl,rfl,?_⟩;conv=>whnf
 refine⟨Codec.one qlh [qa9.mk b c],qa9.rows [qa9.mk b c],.inl rfl,?_⟩;conv=>whnf
 rw[show qa9.rows a++qa9.rows [qa9.mk b c]=qa9.rows (a++[qa9.mk b c])from Codec.append qlh a [qa9.mk b c]];conv=>whnf
 obtain⟨k,h⟩:=qah h;refine⟨⟨Codec.wide qlh (a++[qa9.mk b c]),kod k,qb5 k (by decide)⟩,?_⟩;conv=>whnf
 refine⟨⟨rfl,rfl,rfl⟩,?_⟩;conv=>whnf
 refine bq h fun⟨q,l⟩ o h=>?_;refine qcq (qal n _ _ _ _ _ o) [0] [] ?_;rintro _ _ ⟨rfl,rfl⟩;refine⟨pB q,[.box 113 [pK d,pI l,pB g],.dead,.box 59 [pN b,pG c],.tail 59 2 (qa9.rows (a++[qa9.mk b c])).length],rfl,rfl,?_⟩;conv=>whnf
 apply ifc h<;>intro _ h
 ·obtain rfl:=sj h
  conv=>whnf
  refine⟨_,_,⟨rfl,rfl⟩,wk [0] []⟩
 conv=>whnf
 exact⟨((a++[qa9.mk b c]),l,g),h,wk [0,3] []⟩
abbrev q7k (_:List qap) (_:Int) (_:Bool) (r:(List qaa)×Int×Bool):FV:=.p (.sl (qaa.rows r.1))
abbrev q7a (a:List qap) (_:Int) (_:Bool) (r:(List qaa)×Int×Bool):List AObj:=[.box 113 [pK a,.p (.int .i64 r.2.1),.p (.bool r.2.2)]]
def ql1 (n:Nat) (d:SS) (b:List qap) (p:Int) (a:Bool):Option ((List qaa)×Int×Bool):=
 bnd (qaq n d b p a) fun⟨q,c⟩=>
 bif(!q)then(
 some (([]:List qaa),c,a))
 else(
 bnd (qbk n b c a) fun⟨⟨s,t,⟨u,e,f,g,i,j⟩,k,l⟩,m,o⟩=>
 some ([qaa.mk s t (Val.mk u e f g i j) k l],m,o))
theorem qns (n:Nat):∀ (d:SS) (a:List qap) (c:Int) (b:Bool) (r:(List qaa)×Int×Bool),ql1 n d a c b=some r->qbq TP 76 [.ptr 0 0,.p (PV.str d)] [.box 113 [pK a,pI c,pB b]] 1 (fun v lo=>v=q7k a c b r/\lo=q7a a c b r):=by
 intro d a c b r h;unfold ql1 at h;refine zO Tryz.call76 Tryz.func76 [74,77,1000000] ?_;conv=>whnf
 refine bq h fun⟨x,y⟩ s h=>?_;refine qcq (qal n _ _ _ _ _ s) [0] [] ?_;rintro _ _ ⟨rfl,rfl⟩;refine⟨pB x,[.box 113 [pK a,pI y,pB b]],rfl,rfl,?_⟩;conv=>whnf
 apply ifc h<;>intro _ h
 ·obtain rfl:=sj h
  conv=>whnf
  refine⟨_,_,⟨rfl,rfl⟩,wk [0] []⟩
 conv=>whnf
 refine bq h fun⟨⟨m,o,⟨q,e,f,g,i,j⟩,k,l⟩,u,w⟩ t h=>?_;refine qcq (qm0 n _ _ _ _ t) [0] [] ?_;rintro _ _ ⟨rfl,rfl⟩;refine⟨.p (.agg [.int .i64 m,.str o,.int .i64 q,.bool e,.int .i64 f,.str g,.sl (Val.rows i),.sl (qak j),.sl (qak k),.sl (qaa.rows l)]),[.box 113 [pK a,pI u,pB w]],rfl,rfl,?_⟩;conv=>whnf
 refine⟨Codec.one qck [qaa.mk m o (Val.mk q e f g i j) k l],qaa.rows [qaa.mk m o (Val.mk q e f g i j) k l],.inl rfl,?_⟩;obtain rfl:=sj h;conv=>whnf
 refine⟨_,_,⟨rfl,rfl⟩,wk [0] []⟩
abbrev zb7 (_:List qap) (_:Int) (_:Bool) (r:qab×Int×Bool):FV:=.p ((PV.agg (qcz.cells r.1)))
abbrev zbv (a:List qap) (_:Int) (_:Bool) (r:qab×Int×Bool):List AObj:=[.box 113 [pK a,.p (.int .i64 r.2.1),.p (.bool r.2.2)]]
def qqt (n:Nat) (a:List qap) (b:Int) (k:List qa9) (q:List qaa) (B:Int) (H:SS) (N:Int) (O:Bool) (P:Int) (Q:SS) (c:List Val) (d e:List SS) (f:List qaa) (g:SS) (o:List qbn) (p:Int) (s:SS) (t:Int) (u:Bool) (v:Int) (w:SS) (x:List Val) (y z:List SS) (A:List qaa) (C:SS) (m:Bool) (i:List qaf) (j:List SS) (l:Bool):Int×Bool×List qat->Option (qab×Int×Bool):=fun(D,E,F)=>
 bnd (ql1 n ([83,75,73,80]:SS) a D E) fun⟨G,I,J⟩=>
 bnd (ql1 n ([76,73,77,73,84]:SS) a I J) fun⟨K,L,M⟩=>
 some (qab.mk b k q (qaa.mk B H (Val.mk N O P Q c d) e f) g (o++[qbn.mk (qaa.mk p s (Val.mk t u v w x y) z A) C]) m F G K i j l,L,M)
def qpg (n:Nat) (a:List qat) (b:Int) (c:SS) (d:Int) (e:Bool) (f:Int) (g:SS) (i:List Val) (j k:List SS) (l:List qaa) (p:List qap) (m:Bool) (t:Int) (B:List qa9) (G:List qaa) (Q:Int) (S:SS) (T:Int) (U:Bool) (X:Int) (Y:SS) (u:List Val) (v w:List SS) (x:List qaa) (y:SS) (E:List qbn) (F:Int) (H:SS) (I:Int) (J:Bool) (K:Int) (L:SS) (M:List Val) (N O:List SS) (P:List qaa) (R:SS) (D:Bool) (z:List qaf) (A:List SS) (C:Bool) (s:Int×Bool×List qat->Option (qab×Int×Bool)):Int×Bool->Option (qab×Int×Bool):=fun(V,o)=>
 chk (decide ((qat.rows (a++[qat.mk (qaa.mk b c (Val.mk d e f g i j) k l) o])).length * 168<=140737488355328)) (
 bnd (qaq n ([44]:SS) p V m) fun⟨W,q⟩=>
 bif(!W)then(
 qqt n p t B G Q S T U X Y u v w x y E F H I J K L M N O P R D z A C (q,m,(a++[qat.mk (qaa.mk b c (Val.mk d e f g i j) k l) o])))
 else(
 s (q,m,(a++[qat.mk (qaa.mk b c (Val.mk d e f g i j) k l) o]))))
def quh (n:Nat) (a:List qap) (d:Int) (m:List qa9) (t:List qaa) (D:Int) (F:SS) (G:Int) (Q:Bool) (U:Int) (V:SS) (e:List Val) (f g:List SS) (i:List qaa) (j:SS) (q:List qbn) (s:Int) (u:SS) (v:Int) (w:Bool) (x:Int) (y:SS) (z:List Val) (A B:List SS) (C:List qaa) (E:SS) (p:Bool) (k:List qaf) (l:List SS) (o:Bool):LK (Int×Bool×List qat) (qab×Int×Bool):=fun c (W,X,H)=>
 bnd (qbk n a W X) fun⟨⟨I,J,⟨K,L,M,N,O,P⟩,R,S⟩,Y,b⟩=>
 bnd (qaq n ([65,83,67]:SS) a Y b) fun⟨Z,T⟩=>
 bif(!Z)then(
 bnd (qaq n ([68,69,83,67]:SS) a T b) fun⟨a0,a1⟩=>
 qpg n H I J K L M N O P R S a b d m t D F G Q U V e f g i j q s u v w x y z A B C E p k l o c (a1,a0))
 else(
 qpg n H I J K L M N O P R S a b d m t D F G Q U V e f g i j q s u v w x y z A B C E p k l o c (T,false))
def qkj (n:Nat) (c:List qbn) (d:Int) (e:SS) (f:Int) (g:Bool) (i:Int) (j:SS) (k:List Val) (l m:List SS) (o:List qaa) (a:List qap) (q:Int) (z:List qa9) (C:List qaa) (D:Int) (F:SS) (H:Int) (I:Bool) (J:Int) (K:SS) (s:List Val) (t u:List SS) (v:List qaa) (w:SS) (B:Bool) (x:List qaf) (y:List SS) (A:Bool) (L:Int×Bool×List qbn->Option (qab×Int×Bool)):Int×Bool×SS->Option (qab×Int×Bool):=fun(M,b,p)=>
 chk (decide ((qbn.rows (c++[qbn.mk (qaa.mk d e (Val.mk f g i j k l) m o) p])).length * 176<=140737488355328)) (
 bnd (qaq n ([44]:SS) a M b) fun⟨N,E⟩=>
 bif(!N)then(
 bnd (qaq n ([79,82,68,69,82]:SS) a E b) fun⟨O,G⟩=>
 bif O then(
 bnd (qbu n ([66,89]:SS) a G b) fun⟨P,Q⟩=>
 qam (quh n a q z C D F H I J K s t u v w c d e f g i j k l m o p B x y A) n (P,Q,([]:List _)))
 else(
 qqt n a q z C D F H I J K s t u v w c d e f g i j k l m o p B x y A (G,b,([]:List _))))
 else(
 L (E,b,(c++[qbn.mk (qaa.mk d e (Val.mk f g i j k l) m o) p]))))
def qug (n:Nat) (a:List qap) (g:Int) (q:List qa9) (v:List qaa) (E:Int) (F:SS) (G:Int) (H:Bool) (I:Int) (J:SS) (i:List Val) (j k:List SS) (l:List qaa) (m:SS) (t:Bool) (o:List qaf) (p:List SS) (s:Bool):LK (Int×Bool×List qbn) (qab×Int×Bool):=fun f (K,L,u)=>
 bnd (qbk n a K L) fun⟨⟨b,c,⟨w,x,y,z,A,B⟩,C,D⟩,d,e⟩=>
 bif(!(b != 2))then(
 bnd (qeu n ([65,83]:SS) a d e) fun M=>
 bif(bif(b != 2)then true else M)then(
 bnd (qbu n ([65,83]:SS) a d e) fun⟨N,O⟩=>
 bnd (qhr n a N O) fun⟨P,Q,R⟩=>
 qkj n u b c w x y z A B C D a g q v E F G H I J i j k l m t o p s f (Q,R,P))
 else(
 qkj n u b c w x y z A B C D a g q v E F G H I J i j k l m t o p s f (d,e,c)))
 else(
 bif(bif(b != 2)then true else false)then(
 bnd (qbu n ([65,83]:SS) a d e) fun⟨S,T⟩=>
 bnd (qhr n a S T) fun⟨U,V,W⟩=>
 qkj n u b c w x y z A B C D a g q v E F G H I J i j k l m t o p s f (V,W,U))
 else(
 qkj n u b c w x y z A B C D a g q v E F G H I J i j k l m t o p s f (d,e,c)))
def qu9 (n:Nat) (c:Int) (l:List qa9) (s:List qaa) (t:Int) (u:SS) (v:Int) (w:Bool) (x:Int) (y:SS) (d:List Val) (e f:List SS) (g:List qaa) (i:SS) (_:Bool) (_ _:List qaa) (j:List qaf) (k:List SS) (m:Bool) (a:List qap) (o:Int) (b:Bool):Option (qab×Int×Bool):=
 bnd (qaq n ([68,73,83,84,73,78,67,84]:SS) a o b) fun⟨p,q⟩=>
 qam (qug n a c l s t u v w x y d e f g i p j k m) n (q,b,([]:List _))
set_option maxHeartbeats 4000000 in
theorem qzd (n:Nat):∀ (q:Int) (A:List qa9) (D:List qaa) (E:Int) (F:SS) (G:Int) (H:Bool) (I:Int) (J:SS) (s:List Val) (t u:List SS) (w:List qaa) (x:SS) (a6:Bool) (M L:List qaa) (y:List qaf) (z:List SS) (C:Bool) (o:List qap) (a5:Int) (a3:Bool) (r:qab×Int×Bool),qu9 n q A D E F G H I J s t u w x a6 M L y z C o a5 a3=some r->qbq TP 80 [.ptr 0 0,.p (.agg [.int .i64 q,.sl (qa9.rows A),.sl (qaa.rows D),.int .i64 E,.str F,.int .i64 G,.bool H,.int .i64 I,.str J,.sl (Val.rows s),.sl (qak t),.sl (qak u),.sl (qaa.rows w),.str x,.nilsl,.bool a6,.nilsl,.sl (qaa.rows M),.sl (qaa.rows L),.sl (qaf.rows y),.sl (qak z),.bool C])] [.box 113 [pK o,pI a5,pB a3]] 1 (fun v lo=>v=zb7 o a5 a3 r/\lo=zbv o a5 a3 r):=by
 intro q A D E F G H I J s t u w x a6 M L y z C o a5 a3 r h;unfold qu9 at h;refine zO Tryz.call80 Tryz.func80 [74,76,77,78,79,83,1000000] ?_;conv=>whnf
 refine bq h fun⟨K,f1⟩ d3 h=>?_;refine qcq (qal n _ _ _ _ _ d3) [0] [] ?_;rintro _ _ ⟨rfl,rfl⟩;refine⟨pB K,[.box 113 [pK o,pI f1,pB a3],.box 51 [pI q,pP A,pE D,pI E,pS F,pI G,pB H,pI I,pS J,pV s,pT t,pT u,pE w,pS x,zq2,pB a6,zq2,pE M,pE L,pU y,pT z,pB C],zq3],rfl,rfl,?_⟩;conv=>whnf
 refine qbh.fn [74,76,77,78,79,83,1000000] (S:=Int×Bool×List qbn) (fun(b0,b1,b)=>[(0,.ptr 0 0),(3,.ptr 1 0),(4,.ptr 2 0)]) (fun(b0,b1,b)=>[.box 113 [pK o,pI b0,pB b1],.box 51 [pI q,pP A,pE D,pI E,pS F,pI G,pB H,pI I,pS J,pV s,pT t,pT u,pE w,pS x,.tsl 3 (qbn.rows b),pB K,zq2,pE M,pE L,pU y,pT z,pB C],zq3,.tail 70 11 (qbn.rows b).length]) (B:=qug n o q A D E F G H I J s t u w x K y z C) h (wk [0,1,2,0] [3]) ?_;intro e9 st h;obtain⟨b0,b1,b⟩:=st;unfold qug at h;conv=>whnf
 refine bq h fun⟨⟨c,a,⟨d,e,f,g,i,j⟩,k,l⟩,a7,a8⟩ e1 h=>?_;refine qcq (qm0 n _ _ _ _ e1) [0] [] ?_;rintro _ _ ⟨rfl,rfl⟩;refine⟨.p (.agg [.int .i64 c,.str a,.int .i64 d,.bool e,.int .i64 f,.str g,.sl (Val.rows i),.sl (qak j),.sl (qak k),.sl (qaa.rows l)]),[.box 113 [pK o,pI a7,pB a8],.box 51 [pI q,pP A,pE D,pI E,pS F,pI G,pB H,pI I,pS J,pV s,pT t,pT u,pE w,pS x,.tsl 3 (qbn.rows b),pB K,zq2,pE M,pE L,pU y,pT z,pB C],zq3,.tail 70 11 (qbn.rows b).length,.box 70 [zq0,zq1,zq0,pB false,zq0,zq1,zq2,zq2,zq2,zq2,zq1]],rfl,rfl,?_⟩;conv=>whnf
 refine qhd.cut (S:=Int×Bool×SS) (fun(b2,a2,m)=>[(0,.ptr 0 0),(3,.ptr 1 0),(4,.ptr 2 0),(5,.ptr 3 0)]) (fun(b2,a2,m)=>[.box 113 [pK o,pI b2,pB a2],.box 51 [pI q,pP A,pE D,pI E,pS F,pI G,pB H,pI I,pS J,pV s,pT t,pT u,pE w,pS x,.tsl 4 (qbn.rows b),pB K,zq2,pE M,pE L,pU y,pT z,pB C],zq3,.box 70 [pI c,pS a,pI d,pB e,pI f,pS g,pV i,pT j,pT k,pE l,pS m],.tail 70 11 (qbn.rows b).length]) (qkj n b c a d e f g i j k l o q A D E F G H I J s t u w x K y z C e9) (r:=r) ?_ ?_
 ·intro st h
  obtain⟨b2,a2,m⟩:=st;unfold qkj at h;conv=>whnf
  refine⟨Codec.one qst [qbn.mk (qaa.mk c a (Val.mk d e f g i j) k l) m],qbn.rows [qbn.mk (qaa.mk c a (Val.mk d e f g i j) k l) m],.inl rfl,?_⟩;conv=>whnf
  rw[show qbn.rows b++qbn.rows [qbn.mk (qaa.mk c a (Val.mk d e f g i j) k l) m]=qbn.rows (b++[qbn.mk (qaa.mk c a (Val.mk d e f g i j) k l) m])from Codec.append qst b [qbn.mk (qaa.mk c a (Val.mk d e f g i j) k l) m]];conv=>whnf
  obtain⟨c0,h⟩:=qah h;refine⟨⟨Codec.wide qst (b++[qbn.mk (qaa.mk c a (Val.mk d e f g i j) k l) m]),kod c0,qb5 c0 (by decide)⟩,?_⟩;conv=>whnf
  refine⟨⟨rfl,rfl,rfl⟩,?_⟩;conv=>whnf
  refine bq h fun⟨f2,c1⟩ e2 h=>?_;refine qcq (qal n _ _ _ _ _ e2) [0] [] ?_;rintro _ _ ⟨rfl,rfl⟩;refine⟨pB f2,[.box 113 [pK o,pI c1,pB a2],.box 51 [pI q,pP A,pE D,pI E,pS F,pI G,pB H,pI I,pS J,pV s,pT t,pT u,pE w,pS x,.tsl 5 (qbn.rows (b++[qbn.mk (qaa.mk c a (Val.mk d e f g i j) k l) m])),pB K,zq2,pE M,pE L,pU y,pT z,pB C],zq3,.box 70 [pI c,pS a,pI d,pB e,pI f,pS g,pV i,pT j,pT k,pE l,pS m],.dead,.tail 70 11 (qbn.rows (b++[qbn.mk (qaa.mk c a (Val.mk d e f g i j) k l) m])).length],rfl,rfl,?_⟩;conv=>whnf
  apply ifc h<;>intro a4 h
  ·conv=>whnf
   refine qhd.cut (S:=Int×Bool×List qat) (fun(b3,b4,a0)=>[(0,.ptr 0 0),(3,.ptr 1 0),(4,.ptr 2 0)]) (fun(b3,b4,a0)=>[.box 113 [pK o,pI b3,pB b4],.box 51 [pI q,pP A,pE D,pI E,pS F,pI G,pB H,pI I,pS J,pV s,pT t,pT u,pE w,pS x,.tsl 3 (qbn.rows (b++[qbn.mk (qaa.mk c a (Val.mk d e f g i j) k l) m])),pB K,.tsl 4 (qat.rows a0),pE M,pE L,pU y,pT z,pB C],zq3,.tail 70 11 (qbn.rows (b++[qbn.mk (qaa.mk c a (Val.mk d e f g i j) k l) m])).length,.tail 72 11 (qat.rows a0).length]) (qqt n o q A D E F G H I J s t u w x b c a d e f g i j k l m K y z C) (r:=r) ?_ ?_
   ·intro st h
    obtain⟨b3,b4,a0⟩:=st;unfold qqt at h;(conv=>whnf);refine bq h fun⟨c2,f3,f4⟩ e3 h=>?_;refine qcq (qns n _ _ _ _ _ e3) [0] [] ?_;rintro _ _ ⟨rfl,rfl⟩;refine⟨pE c2,[.box 113 [pK o,pI f3,pB f4],.box 51 [pI q,pP A,pE D,pI E,pS F,pI G,pB H,pI I,pS J,pV s,pT t,pT u,pE w,pS x,.tsl 3 (qbn.rows (b++[qbn.mk (qaa.mk c a (Val.mk d e f g i j) k l) m])),pB K,.tsl 4 (qat.rows a0),pE M,pE L,pU y,pT z,pB C],zq3,.tail 70 11 (qbn.rows (b++[qbn.mk (qaa.mk c a (Val.mk d e f g i j) k l) m])).length,.tail 72 11 (qat.rows a0).length],rfl,rfl,?_⟩;(conv=>whnf);refine bq h fun⟨f5,f6,f7⟩ e4 h=>?_;refine qcq (qns n _ _ _ _ _ e4) [0] [] ?_;rintro _ _ ⟨rfl,rfl⟩;refine⟨pE f5,[.box 113 [pK o,pI f6,pB f7],.box 51 [pI q,pP A,pE D,pI E,pS F,pI G,pB H,pI I,pS J,pV s,pT t,pT u,pE w,pS x,.tsl 3 (qbn.rows (b++[qbn.mk (qaa.mk c a (Val.mk d e f g i j) k l) m])),pB K,.tsl 4 (qat.rows a0),pE c2,pE L,pU y,pT z,pB C],zq3,.tail 70 11 (qbn.rows (b++[qbn.mk (qaa.mk c a (Val.mk d e f g i j) k l) m])).length,.tail 72 11 (qat.rows a0).length],rfl,rfl,?_⟩;obtain rfl:=sj h;(conv=>whnf);refine⟨_,_,⟨rfl,rfl⟩,wk [0] []⟩
   conv=>whnf
   refine bq h fun⟨f8,c3⟩ e5 h=>?_;refine qcq (qal n _ _ _ _ _ e5) [0] [] ?_;rintro _ _ ⟨rfl,rfl⟩;refine⟨pB f8,[.box 113 [pK o,pI c3,pB a2],.box 51 [pI q,pP A,pE D,pI E,pS F,pI G,pB H,pI I,pS J,pV s,pT t,pT u,pE w,pS x,.tsl 5 (qbn.rows (b++[qbn.mk (qaa.mk c a (Val.mk d e f g i j) k l) m])),pB K,zq2,pE M,pE L,pU y,pT z,pB C],zq3,.box 70 [pI c,pS a,pI d,pB e,pI f,pS g,pV i,pT j,pT k,pE l,pS m],.dead,.tail 70 11 (qbn.rows (b++[qbn.mk (qaa.mk c a (Val.mk d e f g i j) k l) m])).length],rfl,rfl,?_⟩;conv=>whnf
   apply ifc h<;>intro a4 h
   ·conv=>whnf
    refine bq h fun⟨f9,g0⟩ e6 h=>?_;refine qcq (qa6 n _ _ _ _ _ e6) [0] [] ?_;rintro _ _ ⟨rfl,rfl⟩;refine⟨.p (.tup []),[.box 113 [pK o,pI f9,pB g0],.box 51 [pI q,pP A,pE D,pI E,pS F,pI G,pB H,pI I,pS J,pV s,pT t,pT u,pE w,pS x,.tsl 5 (qbn.rows (b++[qbn.mk (qaa.mk c a (Val.mk d e f g i j) k l) m])),pB K,zq2,pE M,pE L,pU y,pT z,pB C],zq3,.box 70 [pI c,pS a,pI d,pB e,pI f,pS g,pV i,pT j,pT k,pE l,pS m],.dead,.tail 70 11 (qbn.rows (b++[qbn.mk (qaa.mk c a (Val.mk d e f g i j) k l) m])).length],rfl,rfl,?_⟩;(conv=>whnf);refine qbh.fn [74,76,77,78,79,83,1000000] (S:=Int×Bool×List qat) (fun(b5,b6,N)=>[(0,.ptr 0 0),(3,.ptr 1 0),(4,.ptr 2 0)]) (fun(b5,b6,N)=>[.box 113 [pK o,pI b5,pB b6],.box 51 [pI q,pP A,pE D,pI E,pS F,pI G,pB H,pI I,pS J,pV s,pT t,pT u,pE w,pS x,.tsl 3 (qbn.rows (b++[qbn.mk (qaa.mk c a (Val.mk d e f g i j) k l) m])),pB K,.tsl 4 (qat.rows N),pE M,pE L,pU y,pT z,pB C],zq3,.tail 70 11 (qbn.rows (b++[qbn.mk (qaa.mk c a (Val.mk d e f g i j) k l) m])).length,.tail 72 11 (qat.rows N).length]) (B:=quh n o q A D E F G H I J s t u w x b c a d e f g i j k l m K y z C) h (wk [0,1,2,5,0] [4]) ?_;intro f0 st h;obtain⟨b5,b6,N⟩:=st;unfold quh at h;(conv=>whnf);refine bq h fun⟨⟨O,P,⟨Q,R,T,U,V,W⟩,X,Y⟩,g1,a1⟩ e7 h=>?_;refine qcq (qm0 n _ _ _ _ e7) [0] [] ?_;rintro _ _ ⟨rfl,rfl⟩;refine⟨.p (.agg [.int .i64 O,.str P,.int .i64 Q,.bool R,.int .i64 T,.str U,.sl (Val.rows V),.sl (qak W),.sl (qak X),.sl (qaa.rows Y)]),[.box 113 [pK o,pI g1,pB a1],.box 51 [pI q,pP A,pE D,pI E,pS F,pI G,pB H,pI I,pS J,pV s,pT t,pT u,pE w,pS x,.tsl 3 (qbn.rows (b++[qbn.mk (qaa.mk c a (Val.mk d e f g i j) k l) m])),pB K,.tsl 4 (qat.rows N),pE M,pE L,pU y,pT z,pB C],zq3,.tail 70 11 (qbn.rows (b++[qbn.mk (qaa.mk c a (Val.mk d e f g i j) k l) m])).length,.tail 72 11 (qat.rows N).length,.box 72 [zq0,zq1,zq0,pB false,zq0,zq1,zq2,zq2,zq2,zq2,pB false]],rfl,rfl,?_⟩;(conv=>whnf);refine qhd.cut (S:=Int×Bool) (fun(b7,Z)=>[(0,.ptr 0 0),(3,.ptr 1 0),(4,.ptr 2 0),(6,.ptr 3 0)]) (fun(b7,Z)=>[.box 113 [pK o,pI b7,pB a1],.box 51 [pI q,pP A,pE D,pI E,pS F,pI G,pB H,pI I,pS J,pV s,pT t,pT u,pE w,pS x,.tsl 4 (qbn.rows (b++[qbn.mk (qaa.mk c a (Val.mk d e f g i j) k l) m])),pB K,.tsl 5 (qat.rows N),pE M,pE L,pU y,pT z,pB C],zq3,.box 72 [pI O,pS P,pI Q,pB R,pI T,pS U,pV V,pT W,pT X,pE Y,pB Z],.tail 70 11 (qbn.rows (b++[qbn.mk (qaa.mk c a (Val.mk d e f g i j) k l) m])).length,.tail 72 11 (qat.rows N).length]) (qpg n N O P Q R T U V W X Y o a1 q A D E F G H I J s t u w x b c a d e f g i j k l m K y z C f0) (r:=r) ?_ ?_
    ·intro st h
     obtain⟨b7,Z⟩:=st;unfold qpg at h;(conv=>whnf);refine⟨Codec.one qqf [qat.mk (qaa.mk O P (Val.mk Q R T U V W) X Y) Z],qat.rows [qat.mk (qaa.mk O P (Val.mk Q R T U V W) X Y) Z],.inl rfl,?_⟩;(conv=>whnf);rw[show qat.rows N++qat.rows [qat.mk (qaa.mk O P (Val.mk Q R T U V W) X Y) Z]=qat.rows (N++[qat.mk (qaa.mk O P (Val.mk Q R T U V W) X Y) Z])from Codec.append qqf N [qat.mk (qaa.mk O P (Val.mk Q R T U V W) X Y) Z]];(conv=>whnf);obtain⟨b9,h⟩:=qah h;refine⟨⟨Codec.wide qqf (N++[qat.mk (qaa.mk O P (Val.mk Q R T U V W) X Y) Z]),kod b9,qb5 b9 (by decide)⟩,?_⟩;(conv=>whnf);refine⟨⟨rfl,rfl,rfl⟩,?_⟩;(conv=>whnf);refine bq h fun⟨g2,b8⟩ e8 h=>?_;refine qcq (qal n _ _ _ _ _ e8) [0] [] ?_;rintro _ _ ⟨rfl,rfl⟩;refine⟨pB g2,[.box 113 [pK o,pI b8,pB a1],.box 51 [pI q,pP A,pE D,pI E,pS F,pI G,pB H,pI I,pS J,pV s,pT t,pT u,pE w,pS x,.tsl 4 (qbn.rows (b++[qbn.mk (qaa.mk c a (Val.mk d e f g i j) k l) m])),pB K,.tsl 6 (qat.rows (N++[qat.mk (qaa.mk O P (Val.mk Q R T U V W) X Y) Z])),pE M,pE L,pU y,pT z,pB C],zq3,.box 72 [pI O,pS P,pI Q,pB R,pI T,pS U,pV V,pT W,pT X,pE Y,pB Z],.tail 70 11 (qbn.rows (b++[qbn.mk (qaa.mk c a (Val.mk d e f g i j) k l) m])).length,.dead,.tail 72 11 (qat.rows (N++[qat.mk (qaa.mk O P (Val.mk Q R T U V W) X Y) Z])).length],rfl,rfl,?_⟩;(conv=>whnf);apply ifc h<;>intro a4 h
     ·conv=>whnf
      exact⟨(b8,a1,(N++[qat.mk (qaa.mk O P (Val.mk Q R T U V W) X Y) Z])),h,wk [0,1,2,4,6] []⟩
     (conv=>whnf);exact⟨(b8,a1,(N++[qat.mk (qaa.mk O P (Val.mk Q R T U V W) X Y) Z])),h,wk [0,1,2,4,6] []⟩
    (conv=>whnf);refine bq h fun⟨g3,c4⟩ d4 h=>?_
    refine qcq (qal n _ _ _ _ _ d4) [0] [] ?_;rintro _ _ ⟨rfl,rfl⟩;refine⟨pB g3,[.box 113 [pK o,pI c4,pB a1],.box 51 [pI q,pP A,pE D,pI E,pS F,pI G,pB H,pI I,pS J,pV s,pT t,pT u,pE w,pS x,.tsl 3 (qbn.rows (b++[qbn.mk (qaa.mk c a (Val.mk d e f g i j) k l) m])),pB K,.tsl 4 (qat.rows N),pE M,pE L,pU y,pT z,pB C],zq3,.tail 70 11 (qbn.rows (b++[qbn.mk (qaa.mk c a (Val.mk d e f g i j) k l) m])).length,.tail 72 11 (qat.rows N).length,.box 72 [pI O,pS P,pI Q,pB R,pI T,pS U,pV V,pT W,pT X,pE Y,pB false]],rfl,rfl,?_⟩;(conv=>whnf);apply ifc h<;>intro a4 h
    ·conv=>whnf
     refine bq h fun⟨c5,c6⟩ d5 h=>?_;refine qcq (qal n _ _ _ _ _ d5) [0] [] ?_;rintro _ _ ⟨rfl,rfl⟩;refine⟨pB c5,[.box 113 [pK o,pI c6,pB a1],.box 51 [pI q,pP A,pE D,pI E,pS F,pI G,pB H,pI I,pS J,pV s,pT t,pT u,pE w,pS x,.tsl 3 (qbn.rows (b++[qbn.mk (qaa.mk c a (Val.mk d e f g i j) k l) m])),pB K,.tsl 4 (qat.rows N),pE M,pE L,pU y,pT z,pB C],zq3,.tail 70 11 (qbn.rows (b++[qbn.mk (qaa.mk c a (Val.mk d e f g i j) k l) m])).length,.tail 72 11 (qat.rows N).length,.box 72 [pI O,pS P,pI Q,pB R,pI T,pS U,pV V,pT W,pT X,pE Y,pB false]],rfl,rfl,?_⟩;(conv=>whnf);exact⟨(c6,c5),h,wk [0,1,2,5,3,4] []⟩
    (conv=>whnf);exact⟨(c4,false),h,wk [0,1,2,5,3,4] []⟩
   conv=>whnf
   exact⟨(c3,a2,([]:List _)),h,wk [0,1,2,5,0] [4]⟩
  conv=>whnf
  exact⟨(c1,a2,(b++[qbn.mk (qaa.mk c a (Val.mk d e f g i j) k l) m])),h,wk [0,1,2,5] []⟩
 conv=>whnf
 refine⟨fun a9=>?_,fun a9=>?_⟩
 ·have h:=q10 h a9
  conv=>whnf
  refine⟨id,?_⟩;conv=>whnf
  refine bq h fun g4 d6 h=>?_;refine qcq (qdm n _ _ _ _ _ d6) [0] [] ?_;rintro _ _ ⟨rfl,rfl⟩;refine⟨pB g4,[.box 113 [pK o,pI a7,pB a8],.box 51 [pI q,pP A,pE D,pI E,pS F,pI G,pB H,pI I,pS J,pV s,pT t,pT u,pE w,pS x,.tsl 3 (qbn.rows b),pB K,zq2,pE M,pE L,pU y,pT z,pB C],zq3,.tail 70 11 (qbn.rows b).length,.box 70 [pI c,pS a,pI d,pB e,pI f,pS g,pV i,pT j,pT k,pE l,pS a]],rfl,rfl,?_⟩;conv=>whnf
  refine⟨id,?_⟩;conv=>whnf
  apply ifc h<;>intro a4 h
  ·conv=>whnf
   refine bq h fun⟨g5,g6⟩ d7 h=>?_;refine qcq (qa6 n _ _ _ _ _ d7) [0] [] ?_;rintro _ _ ⟨rfl,rfl⟩;refine⟨.p (.tup []),[.box 113 [pK o,pI g5,pB g6],.box 51 [pI q,pP A,pE D,pI E,pS F,pI G,pB H,pI I,pS J,pV s,pT t,pT u,pE w,pS x,.tsl 3 (qbn.rows b),pB K,zq2,pE M,pE L,pU y,pT z,pB C],zq3,.tail 70 11 (qbn.rows b).length,.box 70 [pI c,pS a,pI d,pB e,pI f,pS g,pV i,pT j,pT k,pE l,pS a]],rfl,rfl,?_⟩;conv=>whnf
   refine bq h fun⟨c7,c8,c9⟩ d8 h=>?_;refine qcq (qgl n _ _ _ _ d8) [0] [] ?_;rintro _ _ ⟨rfl,rfl⟩;refine⟨pS c7,[.box 113 [pK o,pI c8,pB c9],.box 51 [pI q,pP A,pE D,pI E,pS F,pI G,pB H,pI I,pS J,pV s,pT t,pT u,pE w,pS x,.tsl 3 (qbn.rows b),pB K,zq2,pE M,pE L,pU y,pT z,pB C],zq3,.tail 70 11 (qbn.rows b).length,.box 70 [pI c,pS a,pI d,pB e,pI f,pS g,pV i,pT j,pT k,pE l,pS a]],rfl,rfl,?_⟩;conv=>whnf
   exact⟨(c8,c9,c7),h,wk [0,1,2,4,3] []⟩
  conv=>whnf
  exact⟨(a7,a8,a),h,wk [0,1,2,4,3] []⟩
 have h:=q1z h a9;refine⟨pB false,?_⟩;conv=>whnf
 refine⟨id,?_⟩;conv=>whnf
 apply ifc h<;>intro a4 h
 ·conv=>whnf
  refine bq h fun⟨g7,g8⟩ d9 h=>?_;refine qcq (qa6 n _ _ _ _ _ d9) [0] [] ?_;rintro _ _ ⟨rfl,rfl⟩;refine⟨.p (.tup []),[.box 113 [pK o,pI g7,pB g8],.box 51 [pI q,pP A,pE D,pI E,pS F,pI G,pB H,pI I,pS J,pV s,pT t,pT u,pE w,pS x,.tsl 3 (qbn.rows b),pB K,zq2,pE M,pE L,pU y,pT z,pB C],zq3,.tail 70 11 (qbn.rows b).length,.box 70 [pI c,pS a,pI d,pB e,pI f,pS g,pV i,pT j,pT k,pE l,pS a]],rfl,rfl,?_⟩;conv=>whnf
  refine bq h fun⟨d0,d1,d2⟩ e0 h=>?_;refine qcq (qgl n _ _ _ _ e0) [0] [] ?_;rintro _ _ ⟨rfl,rfl⟩;refine⟨pS d0,[.box 113 [pK o,pI d1,pB d2],.box 51 [pI q,pP A,pE D,pI E,pS F,pI G,pB H,pI I,pS J,pV s,pT t,pT u,pE w,pS x,.tsl 3 (qbn.rows b),pB K,zq2,pE M,pE L,pU y,pT z,pB C],zq3,.tail 70 11 (qbn.rows b).length,.box 70 [pI c,pS a,pI d,pB e,pI f,pS g,pV i,pT j,pT k,pE l,pS a]],rfl,rfl,?_⟩;conv=>whnf
  exact⟨(d1,d2,d0),h,wk [0,1,2,4,3] []⟩
 conv=>whnf
 exact⟨(a7,a8,a),h,wk [0,1,2,4,3] []⟩
abbrev zb8 (_:List qap) (_:Int) (_:Bool) (r:qab×Int×Bool):FV:=.p ((PV.agg (qcz.cells r.1)))
abbrev zbw (a:List qap) (_:Int) (_:Bool) (r:qab×Int×Bool):List AObj:=[.box 113 [pK a,.p (.int .i64 r.2.1),.p (.bool r.2.2)]]
def qm1 (n:Nat) (a:List qaf) (b:SS) (I:List qap) (u:Int) (F:List qa9) (J:List qaa) (L:Int) (N:SS) (O:Int) (P:Bool) (Q:Int) (R:SS) (v:List Val) (w x:List SS) (y:List qaa) (z:SS) (A:List qbn) (B:Bool) (C:List qat) (D E:List qaa) (G:List SS) (H:Bool) (t:Int×Bool×List qaf->Option (qab×Int×Bool)):Int×Bool×SS×SS×Int×SS×Int×Bool×Int×SS×List Val×List SS×List SS×List qaa->Option (qab×Int×Bool):=fun(K,c,d,e,f,g,i,j,k,l,m,o,p,q)=>
 chk (decide ((qaf.rows (a++[qaf.mk b d e (qaa.mk f g (Val.mk i j k l m o) p q)])).length * 208<=140737488355328)) (
 bnd (qaq n ([44]:SS) I K c) fun⟨M,s⟩=>
 bif(!M)then(
 some (qab.mk u F J (qaa.mk L N (Val.mk O P Q R v w) x y) z A B C D E (a++[qaf.mk b d e (qaa.mk f g (Val.mk i j k l m o) p q)]) G H,s,c))
 else(
 t (s,c,(a++[qaf.mk b d e (qaa.mk f g (Val.mk i j k l m o) p q)]))))
def quj (n:Nat) (a:List qap) (b:Int) (p:List qa9) (v:List qaa) (x:Int) (y:SS) (z:Int) (A:Bool) (B:Int) (C:SS) (d:List Val) (e f:List SS) (g:List qaa) (i:SS) (j:List qbn) (k:Bool) (l:List qat) (m o:List qaa) (q:List SS) (s:Bool):LK (Int×Bool×List qaf) (qab×Int×Bool):=fun c (H,I,t)=>
 bnd (qhr n a H I) fun⟨u,J,w⟩=>
 bnd (qaq n ([58]:SS) a J w) fun⟨K,D⟩=>
 bif K then(
 bnd (qjt n a D w) fun⟨L,M,N⟩=>
 qm1 n t u a b p v x y z A B C d e f g i j k l m o q s c (M,N,([]:SS),L,(0:Int),([]:SS),(0:Int),false,(0:Int),([]:SS),([]:List _),([]:List _),([]:List _),([]:List _)))
 else(
 bnd (qbu n ([46]:SS) a D w) fun⟨O,P⟩=>
 bnd (qjt n a O P) fun⟨E,F,G⟩=>
 bif(b==6)then(
 bnd (qbu n ([61]:SS) a F G) fun⟨Q,R⟩=>
 bnd (qbk n a Q R) fun⟨⟨S,T,⟨U,V,W,X,Y,Z⟩,a0,a1⟩,a2,a3⟩=>
 qm1 n t u a b p v x y z A B C d e f g i j k l m o q s c (a2,a3,E,([]:SS),S,T,U,V,W,X,Y,Z,a0,a1))
 else(
 qm1 n t u a b p v x y z A B C d e f g i j k l m o q s c (F,G,E,([]:SS),(0:Int),([]:SS),(0:Int),false,(0:Int),([]:SS),([]:List _),([]:List _),([]:List _),([]:List _))))
def qva (n:Nat) (a:Int) (m:List qa9) (u:List qaa) (v:Int) (w:SS) (x:Int) (y:Bool) (z:Int) (A:SS) (b:List Val) (c d:List SS) (e:List qaa) (f:SS) (g:List qbn) (i:Bool) (j:List qat) (k l:List qaa) (o:List SS) (p:Bool) (q:List qap) (s:Int) (t:Bool):Option (qab×Int×Bool):=
 qam (quj n q a m u v w x y z A b c d e f g i j k l o p) n (s,t,([]:List _))
theorem qze (n:Nat):∀ (d:Int) (s:List qa9) (w:List qaa) (x:Int) (y:SS) (z:Int) (A:Bool) (C:Int) (D:SS) (e:List Val) (f g:List SS) (i:List qaa) (j:SS) (k:List qbn) (l:Bool) (m:List qat) (o q:List qaa) (t:List SS) (u:Bool) (c:List qap) (Q:Int) (R:Bool) (r:qab×Int×Bool),qva n d s w x y z A C D e f g i j k l m o q t u c Q R=some r->qbq TP 82 [.ptr 0 0,.p (.agg [.int .i64 d,.sl (qa9.rows s),.sl (qaa.rows w),.int .i64 x,.str y,.int .i64 z,.bool A,.int .i64 C,.str D,.sl (Val.rows e),.sl (qak f),.sl (qak g),.sl (qaa.rows i),.str j,.sl (qbn.rows k),.bool l,.sl (qat.rows m),.sl (qaa.rows o),.sl (qaa.rows q),.nilsl,.sl (qak t),.bool u])] [.box 113 [pK c,pI Q,pB R]] 1 (fun v lo=>v=zb8 c Q R r/\lo=zbw c Q R r):=by
 intro d s w x y z A C D e f g i j k l m o q t u c Q R r h;unfold qva at h;refine zO Tryz.call82 Tryz.func82 [74,77,78,79,123,1000000] ?_;conv=>whnf
 refine qbh.fn [74,77,78,79,123,1000000] (S:=Int×Bool×List qaf) (fun(V,W,a)=>[(0,.ptr 0 0),(3,.ptr 1 0),(4,.ptr 2 0)]) (fun(V,W,a)=>[.box 113 [pK c,pI V,pB W],.box 51 [pI d,pP s,pE w,pI x,pS y,pI z,pB A,pI C,pS D,pV e,pT f,pT g,pE i,pS j,pA k,pB l,pO m,pE o,pE q,.tsl 3 (qaf.rows a),pT t,pB u],zq3,.tail 74 13 (qaf.rows a).length]) (B:=quj n c d s w x y z A C D e f g i j k l m o q t u) h (wk [0,1,2,0] [3]) ?_;intro c7 st h;obtain⟨V,W,a⟩:=st;unfold quj at h;conv=>whnf
 refine bq h fun⟨b,c8,a0⟩ b9 h=>?_;refine qcq (qgl n _ _ _ _ b9) [0] [] ?_;rintro _ _ ⟨rfl,rfl⟩;refine⟨pS b,[.box 113 [pK c,pI c8,pB a0],.box 51 [pI d,pP s,pE w,pI x,pS y,pI z,pB A,pI C,pS D,pV e,pT f,pT g,pE i,pS j,pA k,pB l,pO m,pE o,pE q,.tsl 3 (qaf.rows a),pT t,pB u],zq3,.tail 74 13 (qaf.rows a).length,.box 74 [zq1,zq1,zq1,zq0,zq1,zq0,pB false,zq0,zq1,zq2,zq2,zq2,zq2]],rfl,rfl,?_⟩;conv=>whnf
 refine qhd.cut (S:=Int×Bool×SS×SS×Int×SS×Int×Bool×Int×SS×List Val×List SS×List SS×List qaa) (fun(X,T,E,F,G,H,I,J,K,L,M,N,O,P)=>[(0,.ptr 0 0),(3,.ptr 1 0),(4,.ptr 2 0),(5,.ptr 3 0)]) (fun(X,T,E,F,G,H,I,J,K,L,M,N,O,P)=>[.box 113 [pK c,pI X,pB T],.box 51 [pI d,pP s,pE w,pI x,pS y,pI z,pB A,pI C,pS D,pV e,pT f,pT g,pE i,pS j,pA k,pB l,pO m,pE o,pE q,.tsl 4 (qaf.rows a),pT t,pB u],zq3,.box 74 [pS b,pS E,pS F,pI G,pS H,pI I,pB J,pI K,pS L,pV M,pT N,pT O,pE P],.tail 74 13 (qaf.rows a).length]) (qm1 n a b c d s w x y z A C D e f g i j k l m o q t u c7) (r:=r) ?_ ?_
 ·intro st h
  obtain⟨X,T,E,F,G,H,I,J,K,L,M,N,O,P⟩:=st;unfold qm1 at h;conv=>whnf
  refine⟨Codec.one qjo [qaf.mk b E F (qaa.mk G H (Val.mk I J K L M N) O P)],qaf.rows [qaf.mk b E F (qaa.mk G H (Val.mk I J K L M N) O P)],.inl rfl,?_⟩;conv=>whnf
  rw[show qaf.rows a++qaf.rows [qaf.mk b E F (qaa.mk G H (Val.mk I J K L M N) O P)]=qaf.rows (a++[qaf.mk b E F (qaa.mk G H (Val.mk I J K L M N) O P)])from Codec.append qjo a [qaf.mk b E F (qaa.mk G H (Val.mk I J K L M N) O P)]];conv=>whnf
  obtain⟨Y,h⟩:=qah h;refine⟨⟨Codec.wide qjo (a++[qaf.mk b E F (qaa.mk G H (Val.mk I J K L M N) O P)]),kod Y,qb5 Y (by decide)⟩,?_⟩;conv=>whnf
  refine⟨⟨rfl,rfl,rfl⟩,?_⟩;conv=>whnf
  refine bq h fun⟨c9,a1⟩ c0 h=>?_;refine qcq (qal n _ _ _ _ _ c0) [0] [] ?_;rintro _ _ ⟨rfl,rfl⟩;refine⟨pB c9,[.box 113 [pK c,pI a1,pB T],.box 51 [pI d,pP s,pE w,pI x,pS y,pI z,pB A,pI C,pS D,pV e,pT f,pT g,pE i,pS j,pA k,pB l,pO m,pE o,pE q,.tsl 5 (qaf.rows (a++[qaf.mk b E F (qaa.mk G H (Val.mk I J K L M N) O P)])),pT t,pB u],zq3,.box 74 [pS b,pS E,pS F,pI G,pS H,pI I,pB J,pI K,pS L,pV M,pT N,pT O,pE P],.dead,.tail 74 13 (qaf.rows (a++[qaf.mk b E F (qaa.mk G H (Val.mk I J K L M N) O P)])).length],rfl,rfl,?_⟩;conv=>whnf
  apply ifc h<;>intro Z h
  ·obtain rfl:=sj h
   conv=>whnf
   refine⟨_,_,⟨rfl,rfl⟩,wk [0] []⟩
  conv=>whnf
  exact⟨(a1,T,(a++[qaf.mk b E F (qaa.mk G H (Val.mk I J K L M N) O P)])),h,wk [0,1,2,5] []⟩
 conv=>whnf
 refine bq h fun⟨d0,d1⟩ c1 h=>?_;refine qcq (qal n _ _ _ _ _ c1) [0] [] ?_;rintro _ _ ⟨rfl,rfl⟩;refine⟨pB d0,[.box 113 [pK c,pI d1,pB a0],.box 51 [pI d,pP s,pE w,pI x,pS y,pI z,pB A,pI C,pS D,pV e,pT f,pT g,pE i,pS j,pA k,pB l,pO m,pE o,pE q,.tsl 3 (qaf.rows a),pT t,pB u],zq3,.tail 74 13 (qaf.rows a).length,.box 74 [pS b,zq1,zq1,zq0,zq1,zq0,pB false,zq0,zq1,zq2,zq2,zq2,zq2]],rfl,rfl,?_⟩;conv=>whnf
 apply ifc h<;>intro Z h
 ·conv=>whnf
  refine bq h fun⟨a2,a3,a4⟩ c2 h=>?_;refine qcq (qhq n _ _ _ _ c2) [0] [] ?_;rintro _ _ ⟨rfl,rfl⟩;refine⟨pS a2,[.box 113 [pK c,pI a3,pB a4],.box 51 [pI d,pP s,pE w,pI x,pS y,pI z,pB A,pI C,pS D,pV e,pT f,pT g,pE i,pS j,pA k,pB l,pO m,pE o,pE q,.tsl 3 (qaf.rows a),pT t,pB u],zq3,.tail 74 13 (qaf.rows a).length,.box 74 [pS b,zq1,zq1,zq0,zq1,zq0,pB false,zq0,zq1,zq2,zq2,zq2,zq2]],rfl,rfl,?_⟩;conv=>whnf
  exact⟨(a3,a4,([]:SS),a2,(0:Int),([]:SS),(0:Int),false,(0:Int),([]:SS),([]:List _),([]:List _),([]:List _),([]:List _)),h,wk [0,1,2,4,3] []⟩
 conv=>whnf
 refine bq h fun⟨d2,d3⟩ c3 h=>?_;refine qcq (qa6 n _ _ _ _ _ c3) [0] [] ?_;rintro _ _ ⟨rfl,rfl⟩;refine⟨.p (.tup []),[.box 113 [pK c,pI d2,pB d3],.box 51 [pI d,pP s,pE w,pI x,pS y,pI z,pB A,pI C,pS D,pV e,pT f,pT g,pE i,pS j,pA k,pB l,pO m,pE o,pE q,.tsl 3 (qaf.rows a),pT t,pB u],zq3,.tail 74 13 (qaf.rows a).length,.box 74 [pS b,zq1,zq1,zq0,zq1,zq0,pB false,zq0,zq1,zq2,zq2,zq2,zq2]],rfl,rfl,?_⟩;conv=>whnf
 refine bq h fun⟨U,a5,a6⟩ c4 h=>?_;refine qcq (qhq n _ _ _ _ c4) [0] [] ?_;rintro _ _ ⟨rfl,rfl⟩;refine⟨pS U,[.box 113 [pK c,pI a5,pB a6],.box 51 [pI d,pP s,pE w,pI x,pS y,pI z,pB A,pI C,pS D,pV e,pT f,pT g,pE i,pS j,pA k,pB l,pO m,pE o,pE q,.tsl 3 (qaf.rows a),pT t,pB u],zq3,.tail 74 13 (qaf.rows a).length,.box 74 [pS b,zq1,zq1,zq0,zq1,zq0,pB false,zq0,zq1,zq2,zq2,zq2,zq2]],rfl,rfl,?_⟩;conv=>whnf
 apply ifc h<;>intro Z h
 ·conv=>whnf
  refine bq h fun⟨d4,d5⟩ c5 h=>?_;refine qcq (qa6 n _ _ _ _ _ c5) [0] [] ?_;rintro _ _ ⟨rfl,rfl⟩;refine⟨.p (.tup []),[.box 113 [pK c,pI d4,pB d5],.box 51 [pI d,pP s,pE w,pI x,pS y,pI z,pB A,pI C,pS D,pV e,pT f,pT g,pE i,pS j,pA k,pB l,pO m,pE o,pE q,.tsl 3 (qaf.rows a),pT t,pB u],zq3,.tail 74 13 (qaf.rows a).length,.box 74 [pS b,pS U,zq1,zq0,zq1,zq0,pB false,zq0,zq1,zq2,zq2,zq2,zq2]],rfl,rfl,?_⟩;conv=>whnf
  refine bq h fun⟨⟨a7,a8,⟨a9,b0,b1,b2,b3,b4⟩,b5,b6⟩,b7,b8⟩ c6 h=>?_;refine qcq (qm0 n _ _ _ _ c6) [0] [] ?_;rintro _ _ ⟨rfl,rfl⟩;refine⟨.p (.agg [.int .i64 a7,.str a8,.int .i64 a9,.bool b0,.int .i64 b1,.str b2,.sl (Val.rows b3),.sl (qak b4),.sl (qak b5),.sl (qaa.rows b6)]),[.box 113 [pK c,pI b7,pB b8],.box 51 [pI d,pP s,pE w,pI x,pS y,pI z,pB A,pI C,pS D,pV e,pT f,pT g,pE i,pS j,pA k,pB l,pO m,pE o,pE q,.tsl 3 (qaf.rows a),pT t,pB u],zq3,.tail 74 13 (qaf.rows a).length,.box 74 [pS b,pS U,zq1,zq0,zq1,zq0,pB false,zq0,zq1,zq2,zq2,zq2,zq2]],rfl,rfl,?_⟩;conv=>whnf
  exact⟨(b7,b8,U,([]:SS),a7,a8,a9,b0,b1,b2,b3,b4,b5,b6),h,wk [0,1,2,4,3] []⟩
 conv=>whnf
 exact⟨(a5,a6,U,([]:SS),(0:Int),([]:SS),(0:Int),false,(0:Int),([]:SS),([]:List _),([]:List _),([]:List _),([]:List _)),h,wk [0,1,2,4,3] []⟩
end W
end
