/- A part of the proof: contracts, printed by program. -/
import Derived.Test.YtglihheagfnakaaGreatC
import Derived.Test.YtglihheagfnakaaGreatE
set_option linter.unusedVariables false
set_option linter.unusedSimpArgs false
set_option linter.unnecessarySimpa false
set_option linter.deprecated false
set_option linter.unusedSectionVars false
set_option linter.constructorNameAsVariable false
section
set_option maxRecDepth 100000
set_option maxHeartbeats 20000000
open Go Go.Proofs Ax
namespace W
abbrev CN (_:List qo) (_:Int) (_:Bool) (r:zU×Int×Bool):FV:=.p ((PV.agg (Qc.cells r.1)))
abbrev CB (a:List qo) (_:Int) (_:Bool) (r:zU×Int×Bool):List AObj:=[.box 117 [pK a,.p (.int .i64 r.2.1),.p (.bool r.2.2)]]
def gp (n:Nat) (o:List qo) (p:Bool) (b:List qg) (c d:SS) (e:List SS) (f:List qd) (a:List qe) (m:Int×Bool×List qe×List qg->Option (zU×Int×Bool)):Int×Int->Option (zU×Int×Bool):=fun(q,g)=>
 bnd (cJ n o q p) fun⟨⟨i,j,k,l⟩,s,t⟩=>
 chk (decide ((qg.rows (b++[qg.mk c d g e f])).length * 88<=140737488355328)) (
 chk (decide ((qe.rows (a++[qe.mk i j k l])).length * 88<=140737488355328)) (
 m (s,t,(a++[qe.mk i j k l]),(b++[qg.mk c d g e f]))))
def cg (n:Nat) (a:List qo) (m:Bool) (e:List qg) (d:List qe) (c:Int×Bool×List qe×List qg->Option (zU×Int×Bool)):Int×Bool×SS×SS×List SS×List qd->Option (zU×Int×Bool):=fun(o,p,f,g,i,j)=>
 bnd (qQ n ([45]:SS) a o p) fun⟨k,b⟩=>
 bif m then(
 gp n a b e f g i j d c (k,(1:Int)))
 else(
 bnd (qt n ([62]:SS) a k b) fun⟨q,l⟩=>
 bif q then(
 gp n a b e f g i j d c (l,(0:Int)))
 else(
 gp n a b e f g i j d c (l,(2:Int))))
def ck (n:Nat) (a:List qo) (e:Bool) (d:List qg) (c:List qe) (b:Int×Bool×List qe×List qg->Option (zU×Int×Bool)) (f g:SS):Int×Bool×List SS×List qd->Option (zU×Int×Bool):=fun(i,j,k,l)=>
 bnd (qQ n ([93]:SS) a i j) fun⟨m,o⟩=>
 cg n a e d c b (m,o,f,g,k,l)
def ch (n:Nat) (a:List qo) (g:Bool) (f:List qg) (e:List qe) (d:Int×Bool×List qe×List qg->Option (zU×Int×Bool)) (i:SS):Int×Bool×SS->Option (zU×Int×Bool):=fun(b,c,j)=>
 bnd (xz n ([123]:SS) a b c) fun k=>
 bif k then(
 bnd (qH n a b c) fun⟨l,m,o,p⟩=>
 ck n a g f e d i j (o,p,l,m))
 else(
 ck n a g f e d i j (b,c,([]:List _),([]:List _)))
def gq (n:Nat) (o:List qo) (p:Bool) (b:List qg) (c d:SS) (e:List SS) (f:List qd) (a:List qe) (m:Int×Bool×List qe×List qg->Option (zU×Int×Bool)):Int×Int->Option (zU×Int×Bool):=fun(q,g)=>
 bnd (cJ n o q p) fun⟨⟨i,j,k,l⟩,s,t⟩=>
 chk (decide ((qg.rows (b++[qg.mk c d g e f])).length * 88<=140737488355328)) (
 chk (decide ((qe.rows (a++[qe.mk i j k l])).length * 88<=140737488355328)) (
 m (s,t,(a++[qe.mk i j k l]),(b++[qg.mk c d g e f]))))
def cl (n:Nat) (a:List qo) (m:Bool) (e:List qg) (d:List qe) (c:Int×Bool×List qe×List qg->Option (zU×Int×Bool)):Int×Bool×SS×SS×List SS×List qd->Option (zU×Int×Bool):=fun(o,p,f,g,i,j)=>
 bnd (qQ n ([45]:SS) a o p) fun⟨k,b⟩=>
 bif m then(
 gq n a b e f g i j d c (k,(1:Int)))
 else(
 bnd (qt n ([62]:SS) a k b) fun⟨q,l⟩=>
 bif q then(
 gq n a b e f g i j d c (l,(0:Int)))
 else(
 gq n a b e f g i j d c (l,(2:Int))))
def cn (n:Nat) (a:List qo) (e:Bool) (d:List qg) (c:List qe) (b:Int×Bool×List qe×List qg->Option (zU×Int×Bool)) (f g:SS):Int×Bool×List SS×List qd->Option (zU×Int×Bool):=fun(i,j,k,l)=>
 bnd (qQ n ([93]:SS) a i j) fun⟨m,o⟩=>
 cl n a e d c b (m,o,f,g,k,l)
def cm (n:Nat) (a:List qo) (g:Bool) (f:List qg) (e:List qe) (d:Int×Bool×List qe×List qg->Option (zU×Int×Bool)) (i:SS):Int×Bool×SS->Option (zU×Int×Bool):=fun(b,c,j)=>
 bnd (xz n ([123]:SS) a b c) fun o=>
 bif o then(
 bnd (qH n a b c) fun⟨p,k,l,m⟩=>
 cn n a g f e d i j (l,m,p,k))
 else(
 cn n a g f e d i j (b,c,([]:List _),([]:List _)))
def nz (n:Nat) (a:List qo):LK (Int×Bool×List qe×List qg) (zU×Int×Bool):=fun e (f,b,c,d)=>
 bnd (xz n ([45]:SS) a f b) fun g=>
 bif(!g)then(
 bnd (xz n ([60]:SS) a f b) fun A=>
 bif(bif g then true else A)then(
 bnd (qt n ([60]:SS) a f b) fun⟨i,B⟩=>
 bnd (qQ n ([45]:SS) a B b) fun⟨C,j⟩=>
 bnd (qt n ([91]:SS) a C j) fun⟨D,q⟩=>
 bif D then(
 bnd (gr n a q j) fun⟨s,E,k⟩=>
 bnd (qt n ([58]:SS) a E k) fun⟨F,t⟩=>
 bif F then(
 bnd (uv n a t k) fun⟨G,H,I⟩=>
 ch n a i d c e s (H,I,G))
 else(
 ch n a i d c e s (t,k,([]:SS))))
 else(
 cg n a i d c e (q,j,([]:SS),([]:SS),([]:List _),([]:List _))))
 else(
 some (zU.mk c d,f,b)))
 else(
 bif(bif g then true else false)then(
 bnd (qt n ([60]:SS) a f b) fun⟨l,J⟩=>
 bnd (qQ n ([45]:SS) a J b) fun⟨K,m⟩=>
 bnd (qt n ([91]:SS) a K m) fun⟨L,u⟩=>
 bif L then(
 bnd (gr n a u m) fun⟨v,M,o⟩=>
 bnd (qt n ([58]:SS) a M o) fun⟨w,p⟩=>
 bif w then(
 bnd (uv n a p o) fun⟨x,y,z⟩=>
 cm n a l d c e v (y,z,x))
 else(
 cm n a l d c e v (p,o,([]:SS))))
 else(
 cl n a l d c e (u,m,([]:SS),([]:SS),([]:List _),([]:List _))))
 else(
 some (zU.mk c d,f,b)))
def Qs (n:Nat) (a:List qo) (f:Int) (g:Bool):Option (zU×Int×Bool):=
 bnd (cJ n a f g) fun⟨⟨b,c,d,e⟩,i,j⟩=>
 chk (decide ((qe.rows [qe.mk b c d e]).length * 88<=140737488355328)) (
 qC (nz n a) n (i,j,[qe.mk b c d e],([]:List _)))
theorem GK (n:Nat):∀ (c:List qo) (L:Int) (M:Bool) (r:zU×Int×Bool),Qs n c L M=some r->qS TP 135 [.ptr 0 0] [.box 117 [pK c,pI L,pB M]] 1 (fun v lo=>v=CN c L M r/\lo=CB c L M r):=by
 intro c L M r h;unfold Qs at h;refine zO Tryz.call135 Tryz.func135 [85,89,92,94,138,139,140,1000000] ?_;conv=>whnf
 refine bq h fun⟨⟨X,Y,Z,a0⟩,k1,k5⟩ f2 h=>?_;refine zz (dd n _ _ _ _ f2) [0] [] ?_;rintro _ _ ⟨rfl,rfl⟩;refine⟨.p (.agg [.str X,.sl (qi Y),.sl (qi Z),.sl (qd.rows a0)]),[.box 117 [pK c,pI k1,pB k5],zq5,zq5],rfl,rfl,?_⟩;conv=>whnf
 refine⟨Codec.one ua [qe.mk X Y Z a0],qe.rows [qe.mk X Y Z a0],.inl rfl,?_⟩;conv=>whnf
 obtain⟨c1,h⟩:=qb h;refine⟨⟨Codec.wide ua [qe.mk X Y Z a0],kod c1,qO c1 (by decide)⟩,?_⟩;conv=>whnf
 refine qP.fn [85,89,92,94,138,139,140,1000000] (S:=Int×Bool×List qe×List qg) (fun(K,H,a,b)=>[(0,.ptr 0 0),(2,.ptr 1 0),(3,.ptr 2 0)]) (fun(K,H,a,b)=>[.box 117 [pK c,pI K,pB H],zq5,.box 100 [.tsl 3 (qe.rows a),.tsl 4 (qg.rows b)],.tail 102 4 (qe.rows a).length,.tail 104 5 (qg.rows b).length]) (B:=nz n c) h (wk [0,1,2,4,0] [4]) ?_;intro x st h;obtain⟨K,H,a,b⟩:=st;unfold nz at h;conv=>whnf
 refine bq h fun j0 g3 h=>?_;refine zz (zH n _ _ _ _ _ g3) [0] [] ?_;rintro _ _ ⟨rfl,rfl⟩;refine⟨pB j0,[.box 117 [pK c,pI K,pB H],zq5,.box 100 [.tsl 3 (qe.rows a),.tsl 4 (qg.rows b)],.tail 102 4 (qe.rows a).length,.tail 104 5 (qg.rows b).length],rfl,rfl,?_⟩;conv=>whnf
 refine⟨fun a2=>?_,fun a2=>?_⟩
 ·replace h:=uA h a2
  conv=>whnf
  refine⟨id,?_⟩;conv=>whnf
  refine bq h fun j1 i2 h=>?_;refine zz (zH n _ _ _ _ _ i2) [0] [] ?_;rintro _ _ ⟨rfl,rfl⟩;refine⟨pB j1,[.box 117 [pK c,pI K,pB H],zq5,.box 100 [.tsl 3 (qe.rows a),.tsl 4 (qg.rows b)],.tail 102 4 (qe.rows a).length,.tail 104 5 (qg.rows b).length],rfl,rfl,?_⟩;conv=>whnf
  refine⟨id,?_⟩;conv=>whnf
  apply ifc h<;>intro m h
  ·conv=>whnf
   refine bq h fun⟨I,j2⟩ i5 h=>?_;refine zz (qf n _ _ _ _ _ i5) [0] [] ?_;rintro _ _ ⟨rfl,rfl⟩;refine⟨pB I,[.box 117 [pK c,pI j2,pB H],zq5,.box 100 [.tsl 3 (qe.rows a),.tsl 4 (qg.rows b)],.tail 102 4 (qe.rows a).length,.tail 104 5 (qg.rows b).length,zq7],rfl,rfl,?_⟩;conv=>whnf
   refine bq h fun⟨j3,a3⟩ i6 h=>?_;refine zz (qD n _ _ _ _ _ i6) [0] [] ?_;rintro _ _ ⟨rfl,rfl⟩;refine⟨.p (.tup []),[.box 117 [pK c,pI j3,pB a3],zq5,.box 100 [.tsl 3 (qe.rows a),.tsl 4 (qg.rows b)],.tail 102 4 (qe.rows a).length,.tail 104 5 (qg.rows b).length,zq7],rfl,rfl,?_⟩;conv=>whnf
   refine gW.cut (S:=Int×Bool×SS×SS×List SS×List qd) (fun(a4,a5,d,e,f,g)=>[(0,.ptr 0 0),(2,.ptr 1 0),(3,.ptr 2 0),(5,.ptr 3 0),(6,pB I)]) (fun(a4,a5,d,e,f,g)=>[.box 117 [pK c,pI a4,pB a5],zq5,.box 100 [.tsl 4 (qe.rows a),.tsl 5 (qg.rows b)],.box 104 [pS d,pS e,zq0,pT f,pE g],.tail 102 4 (qe.rows a).length,.tail 104 5 (qg.rows b).length]) (cg n c I b a x) (r:=r) ?_ ?_
   ·intro st h
    obtain⟨a4,a5,d,e,f,g⟩:=st;unfold cg at h;(conv=>whnf);refine bq h fun⟨d1,W⟩ i7 h=>?_;refine zz (qD n _ _ _ _ _ i7) [0] [] ?_;rintro _ _ ⟨rfl,rfl⟩;refine⟨.p (.tup []),[.box 117 [pK c,pI d1,pB W],zq5,.box 100 [.tsl 4 (qe.rows a),.tsl 5 (qg.rows b)],.box 104 [pS d,pS e,zq0,pT f,pE g],.tail 102 4 (qe.rows a).length,.tail 104 5 (qg.rows b).length],rfl,rfl,?_⟩;(conv=>whnf);refine gW.cut (S:=Int×Int) (fun(a6,o)=>[(0,.ptr 0 0),(2,.ptr 1 0),(3,.ptr 2 0),(5,.ptr 3 0)]) (fun(a6,o)=>[.box 117 [pK c,pI a6,pB W],zq5,.box 100 [.tsl 4 (qe.rows a),.tsl 5 (qg.rows b)],.box 104 [pS d,pS e,pI o,pT f,pE g],.tail 102 4 (qe.rows a).length,.tail 104 5 (qg.rows b).length]) (gp n c W b d e f g a x) (r:=r) ?_ ?_
    ·intro st h
     obtain⟨a6,o⟩:=st;unfold gp at h;(conv=>whnf);refine bq h fun⟨⟨y,z,A,C⟩,d2,d3⟩ i8 h=>?_;refine zz (dd n _ _ _ _ i8) [0] [] ?_;rintro _ _ ⟨rfl,rfl⟩;refine⟨.p (.agg [.str y,.sl (qi z),.sl (qi A),.sl (qd.rows C)]),[.box 117 [pK c,pI d2,pB d3],zq5,.box 100 [.tsl 4 (qe.rows a),.tsl 5 (qg.rows b)],.box 104 [pS d,pS e,pI o,pT f,pE g],.tail 102 4 (qe.rows a).length,.tail 104 5 (qg.rows b).length],rfl,rfl,?_⟩;(conv=>whnf);refine⟨Codec.one gV [qg.mk d e o f g],qg.rows [qg.mk d e o f g],.inl rfl,?_⟩;(conv=>whnf);rw[show qg.rows b++qg.rows [qg.mk d e o f g]=qg.rows (b++[qg.mk d e o f g])from Codec.append gV b [qg.mk d e o f g]];(conv=>whnf);obtain⟨c3,h⟩:=qb h;refine⟨⟨Codec.wide gV (b++[qg.mk d e o f g]),kod c3,qO c3 (by decide)⟩,?_⟩;(conv=>whnf);refine⟨⟨rfl,rfl,rfl⟩,?_⟩;(conv=>whnf);refine⟨Codec.one ua [qe.mk y z A C],qe.rows [qe.mk y z A C],.inl rfl,?_⟩;(conv=>whnf);rw[show qe.rows a++qe.rows [qe.mk y z A C]=qe.rows (a++[qe.mk y z A C])from Codec.append ua a [qe.mk y z A C]];(conv=>whnf);obtain⟨c2,h⟩:=qb h;refine⟨⟨Codec.wide ua (a++[qe.mk y z A C]),kod c2,qO c2 (by decide)⟩,?_⟩;(conv=>whnf);refine⟨⟨rfl,rfl,rfl⟩,?_⟩;(conv=>whnf);exact⟨(d2,d3,(a++[qe.mk y z A C]),(b++[qg.mk d e o f g])),h,wk [0,1,2,8,7] []⟩
    (conv=>whnf);apply ifc h<;>intro m h
    ·conv=>whnf
     exact⟨(d1,(1:Int)),h,wk [0,1,2,3,4,5] []⟩
    (conv=>whnf);refine bq h fun⟨j4,a7⟩ f3 h=>?_
    refine zz (qf n _ _ _ _ _ f3) [0] [] ?_;rintro _ _ ⟨rfl,rfl⟩;refine⟨pB j4,[.box 117 [pK c,pI a7,pB W],zq5,.box 100 [.tsl 4 (qe.rows a),.tsl 5 (qg.rows b)],.box 104 [pS d,pS e,.p (.int .i64 (2:Int)),pT f,pE g],.tail 102 4 (qe.rows a).length,.tail 104 5 (qg.rows b).length],rfl,rfl,?_⟩;(conv=>whnf);apply ifc h<;>intro m h
    ·conv=>whnf
     exact⟨(a7,(0:Int)),h,wk [0,1,2,3,4,5] []⟩
    (conv=>whnf);exact⟨(a7,(2:Int)),h,wk [0,1,2,3,4,5] []⟩
   conv=>whnf
   refine bq h fun⟨j5,d4⟩ f4 h=>?_;refine zz (qf n _ _ _ _ _ f4) [0] [] ?_;rintro _ _ ⟨rfl,rfl⟩;refine⟨pB j5,[.box 117 [pK c,pI d4,pB a3],zq5,.box 100 [.tsl 3 (qe.rows a),.tsl 4 (qg.rows b)],.tail 102 4 (qe.rows a).length,.tail 104 5 (qg.rows b).length,zq7],rfl,rfl,?_⟩;conv=>whnf
   apply ifc h<;>intro m h
   ·conv=>whnf
    refine bq h fun⟨q,j6,a8⟩ f5 h=>?_;refine zz (cA n _ _ _ _ f5) [0] [] ?_;rintro _ _ ⟨rfl,rfl⟩;refine⟨pS q,[.box 117 [pK c,pI j6,pB a8],zq5,.box 100 [.tsl 3 (qe.rows a),.tsl 4 (qg.rows b)],.tail 102 4 (qe.rows a).length,.tail 104 5 (qg.rows b).length,zq7],rfl,rfl,?_⟩;(conv=>whnf);refine gW.cut (S:=Int×Bool×SS) (fun(N,O,u)=>[(0,.ptr 0 0),(2,.ptr 1 0),(3,.ptr 2 0),(5,.ptr 3 0),(6,pB I)]) (fun(N,O,u)=>[.box 117 [pK c,pI N,pB O],zq5,.box 100 [.tsl 4 (qe.rows a),.tsl 5 (qg.rows b)],.box 104 [pS q,pS u,zq0,zq2,zq2],.tail 102 4 (qe.rows a).length,.tail 104 5 (qg.rows b).length]) (ch n c I b a x q) (r:=r) ?_ ?_
    ·intro st h
     obtain⟨N,O,u⟩:=st;unfold ch at h;(conv=>whnf);refine gW.cut (S:=Int×Bool×List SS×List qd) (fun(a9,b0,P,Q)=>[(0,.ptr 0 0),(2,.ptr 1 0),(3,.ptr 2 0),(5,.ptr 3 0),(6,pB I)]) (fun(a9,b0,P,Q)=>[.box 117 [pK c,pI a9,pB b0],zq5,.box 100 [.tsl 4 (qe.rows a),.tsl 5 (qg.rows b)],.box 104 [pS q,pS u,zq0,pT P,pE Q],.tail 102 4 (qe.rows a).length,.tail 104 5 (qg.rows b).length]) (ck n c I b a x q u) (r:=r) ?_ ?_
     ·intro st h
      obtain⟨a9,b0,P,Q⟩:=st;unfold ck at h;(conv=>whnf);refine bq h fun⟨d5,d6⟩ f6 h=>?_;refine zz (qD n _ _ _ _ _ f6) [0] [] ?_;rintro _ _ ⟨rfl,rfl⟩;refine⟨.p (.tup []),[.box 117 [pK c,pI d5,pB d6],zq5,.box 100 [.tsl 4 (qe.rows a),.tsl 5 (qg.rows b)],.box 104 [pS q,pS u,zq0,pT P,pE Q],.tail 102 4 (qe.rows a).length,.tail 104 5 (qg.rows b).length],rfl,rfl,?_⟩;(conv=>whnf);exact⟨(d5,d6,q,u,P,Q),h,wk [0,1,2,3,4,5] []⟩
     (conv=>whnf);refine bq h fun j7 f7 h=>?_
     refine zz (zH n _ _ _ _ _ f7) [0] [] ?_;rintro _ _ ⟨rfl,rfl⟩;refine⟨pB j7,[.box 117 [pK c,pI N,pB O],zq5,.box 100 [.tsl 4 (qe.rows a),.tsl 5 (qg.rows b)],.box 104 [pS q,pS u,zq0,zq2,zq2],.tail 102 4 (qe.rows a).length,.tail 104 5 (qg.rows b).length],rfl,rfl,?_⟩;(conv=>whnf);apply ifc h<;>intro m h
     ·conv=>whnf
      refine bq h fun⟨d7,d8,d9,e0⟩ f8 h=>?_;refine zz (mq n _ _ _ _ f8) [0] [] ?_;rintro _ _ ⟨rfl,rfl⟩;refine⟨.p (.tup [.sl (qi d7),.sl (qd.rows d8)]),[.box 117 [pK c,pI d9,pB e0],zq5,.box 100 [.tsl 4 (qe.rows a),.tsl 5 (qg.rows b)],.box 104 [pS q,pS u,zq0,zq2,zq2],.tail 102 4 (qe.rows a).length,.tail 104 5 (qg.rows b).length],rfl,rfl,?_⟩;(conv=>whnf);exact⟨(d9,e0,d7,d8),h,wk [0,1,2,3,4,5] []⟩
     (conv=>whnf);exact⟨(N,O,([]:List _),([]:List _)),h,wk [0,1,2,3,4,5] []⟩
    (conv=>whnf);refine bq h fun⟨j8,e1⟩ f9 h=>?_
    refine zz (qf n _ _ _ _ _ f9) [0] [] ?_;rintro _ _ ⟨rfl,rfl⟩;refine⟨pB j8,[.box 117 [pK c,pI e1,pB a8],zq5,.box 100 [.tsl 3 (qe.rows a),.tsl 4 (qg.rows b)],.tail 102 4 (qe.rows a).length,.tail 104 5 (qg.rows b).length,.box 104 [pS q,zq1,zq0,zq2,zq2]],rfl,rfl,?_⟩;(conv=>whnf);apply ifc h<;>intro m h
    ·conv=>whnf
     refine bq h fun⟨e2,e3,e4⟩ g0 h=>?_;refine zz (vL n _ _ _ _ g0) [0] [] ?_;rintro _ _ ⟨rfl,rfl⟩;refine⟨pS e2,[.box 117 [pK c,pI e3,pB e4],zq5,.box 100 [.tsl 3 (qe.rows a),.tsl 4 (qg.rows b)],.tail 102 4 (qe.rows a).length,.tail 104 5 (qg.rows b).length,.box 104 [pS q,zq1,zq0,zq2,zq2]],rfl,rfl,?_⟩;(conv=>whnf);exact⟨(e3,e4,e2),h,wk [0,1,2,5,3,4] []⟩
    (conv=>whnf);exact⟨(e1,a8,([]:SS)),h,wk [0,1,2,5,3,4] []⟩
   conv=>whnf
   exact⟨(d4,a3,([]:SS),([]:SS),([]:List _),([]:List _)),h,wk [0,1,2,5,3,4] []⟩
  obtain rfl:=sj h;conv=>whnf
  refine⟨_,_,⟨rfl,rfl⟩,wk [0] []⟩
 replace h:=uz h a2;refine⟨pB false,?_⟩;conv=>whnf
 refine⟨id,?_⟩;conv=>whnf
 apply ifc h<;>intro m h
 ·conv=>whnf
  refine bq h fun⟨J,j9⟩ g1 h=>?_;refine zz (qf n _ _ _ _ _ g1) [0] [] ?_;rintro _ _ ⟨rfl,rfl⟩;refine⟨pB J,[.box 117 [pK c,pI j9,pB H],zq5,.box 100 [.tsl 3 (qe.rows a),.tsl 4 (qg.rows b)],.tail 102 4 (qe.rows a).length,.tail 104 5 (qg.rows b).length,zq7],rfl,rfl,?_⟩;conv=>whnf
  refine bq h fun⟨k0,b1⟩ g2 h=>?_;refine zz (qD n _ _ _ _ _ g2) [0] [] ?_;rintro _ _ ⟨rfl,rfl⟩;refine⟨.p (.tup []),[.box 117 [pK c,pI k0,pB b1],zq5,.box 100 [.tsl 3 (qe.rows a),.tsl 4 (qg.rows b)],.tail 102 4 (qe.rows a).length,.tail 104 5 (qg.rows b).length,zq7],rfl,rfl,?_⟩;conv=>whnf
  refine gW.cut (S:=Int×Bool×SS×SS×List SS×List qd) (fun(b2,b3,i,j,k,l)=>[(0,.ptr 0 0),(2,.ptr 1 0),(3,.ptr 2 0),(5,.ptr 3 0),(6,pB J)]) (fun(b2,b3,i,j,k,l)=>[.box 117 [pK c,pI b2,pB b3],zq5,.box 100 [.tsl 4 (qe.rows a),.tsl 5 (qg.rows b)],.box 104 [pS i,pS j,zq0,pT k,pE l],.tail 102 4 (qe.rows a).length,.tail 104 5 (qg.rows b).length]) (cl n c J b a x) (r:=r) ?_ ?_
  ·intro st h
   obtain⟨b2,b3,i,j,k,l⟩:=st;unfold cl at h;conv=>whnf
   refine bq h fun⟨e5,a1⟩ g4 h=>?_;refine zz (qD n _ _ _ _ _ g4) [0] [] ?_;rintro _ _ ⟨rfl,rfl⟩;refine⟨.p (.tup []),[.box 117 [pK c,pI e5,pB a1],zq5,.box 100 [.tsl 4 (qe.rows a),.tsl 5 (qg.rows b)],.box 104 [pS i,pS j,zq0,pT k,pE l],.tail 102 4 (qe.rows a).length,.tail 104 5 (qg.rows b).length],rfl,rfl,?_⟩;conv=>whnf
   refine gW.cut (S:=Int×Int) (fun(b4,s)=>[(0,.ptr 0 0),(2,.ptr 1 0),(3,.ptr 2 0),(5,.ptr 3 0)]) (fun(b4,s)=>[.box 117 [pK c,pI b4,pB a1],zq5,.box 100 [.tsl 4 (qe.rows a),.tsl 5 (qg.rows b)],.box 104 [pS i,pS j,pI s,pT k,pE l],.tail 102 4 (qe.rows a).length,.tail 104 5 (qg.rows b).length]) (gq n c a1 b i j k l a x) (r:=r) ?_ ?_
   ·intro st h
    obtain⟨b4,s⟩:=st;unfold gq at h;(conv=>whnf);refine bq h fun⟨⟨D,E,F,G⟩,e6,e7⟩ g5 h=>?_;refine zz (dd n _ _ _ _ g5) [0] [] ?_;rintro _ _ ⟨rfl,rfl⟩;refine⟨.p (.agg [.str D,.sl (qi E),.sl (qi F),.sl (qd.rows G)]),[.box 117 [pK c,pI e6,pB e7],zq5,.box 100 [.tsl 4 (qe.rows a),.tsl 5 (qg.rows b)],.box 104 [pS i,pS j,pI s,pT k,pE l],.tail 102 4 (qe.rows a).length,.tail 104 5 (qg.rows b).length],rfl,rfl,?_⟩;(conv=>whnf);refine⟨Codec.one gV [qg.mk i j s k l],qg.rows [qg.mk i j s k l],.inl rfl,?_⟩;(conv=>whnf);rw[show qg.rows b++qg.rows [qg.mk i j s k l]=qg.rows (b++[qg.mk i j s k l])from Codec.append gV b [qg.mk i j s k l]];(conv=>whnf);obtain⟨c0,h⟩:=qb h;refine⟨⟨Codec.wide gV (b++[qg.mk i j s k l]),kod c0,qO c0 (by decide)⟩,?_⟩;(conv=>whnf);refine⟨⟨rfl,rfl,rfl⟩,?_⟩;(conv=>whnf);refine⟨Codec.one ua [qe.mk D E F G],qe.rows [qe.mk D E F G],.inl rfl,?_⟩;(conv=>whnf);rw[show qe.rows a++qe.rows [qe.mk D E F G]=qe.rows (a++[qe.mk D E F G])from Codec.append ua a [qe.mk D E F G]];(conv=>whnf);obtain⟨b9,h⟩:=qb h;refine⟨⟨Codec.wide ua (a++[qe.mk D E F G]),kod b9,qO b9 (by decide)⟩,?_⟩;(conv=>whnf);refine⟨⟨rfl,rfl,rfl⟩,?_⟩;(conv=>whnf);exact⟨(e6,e7,(a++[qe.mk D E F G]),(b++[qg.mk i j s k l])),h,wk [0,1,2,8,7] []⟩
   conv=>whnf
   apply ifc h<;>intro m h
   ·conv=>whnf
    exact⟨(e5,(1:Int)),h,wk [0,1,2,3,4,5] []⟩
   conv=>whnf
   refine bq h fun⟨k2,b5⟩ g6 h=>?_;refine zz (qf n _ _ _ _ _ g6) [0] [] ?_;rintro _ _ ⟨rfl,rfl⟩;refine⟨pB k2,[.box 117 [pK c,pI b5,pB a1],zq5,.box 100 [.tsl 4 (qe.rows a),.tsl 5 (qg.rows b)],.box 104 [pS i,pS j,.p (.int .i64 (2:Int)),pT k,pE l],.tail 102 4 (qe.rows a).length,.tail 104 5 (qg.rows b).length],rfl,rfl,?_⟩;conv=>whnf
   apply ifc h<;>intro m h
   ·conv=>whnf
    exact⟨(b5,(0:Int)),h,wk [0,1,2,3,4,5] []⟩
   conv=>whnf
   exact⟨(b5,(2:Int)),h,wk [0,1,2,3,4,5] []⟩
  conv=>whnf
  refine bq h fun⟨k3,e8⟩ g7 h=>?_;refine zz (qf n _ _ _ _ _ g7) [0] [] ?_;rintro _ _ ⟨rfl,rfl⟩;refine⟨pB k3,[.box 117 [pK c,pI e8,pB b1],zq5,.box 100 [.tsl 3 (qe.rows a),.tsl 4 (qg.rows b)],.tail 102 4 (qe.rows a).length,.tail 104 5 (qg.rows b).length,zq7],rfl,rfl,?_⟩;conv=>whnf
  apply ifc h<;>intro m h
  ·conv=>whnf
   refine bq h fun⟨t,k4,b6⟩ g8 h=>?_;refine zz (cA n _ _ _ _ g8) [0] [] ?_;rintro _ _ ⟨rfl,rfl⟩;refine⟨pS t,[.box 117 [pK c,pI k4,pB b6],zq5,.box 100 [.tsl 3 (qe.rows a),.tsl 4 (qg.rows b)],.tail 102 4 (qe.rows a).length,.tail 104 5 (qg.rows b).length,zq7],rfl,rfl,?_⟩;conv=>whnf
   refine gW.cut (S:=Int×Bool×SS) (fun(R,T,w)=>[(0,.ptr 0 0),(2,.ptr 1 0),(3,.ptr 2 0),(5,.ptr 3 0),(6,pB J)]) (fun(R,T,w)=>[.box 117 [pK c,pI R,pB T],zq5,.box 100 [.tsl 4 (qe.rows a),.tsl 5 (qg.rows b)],.box 104 [pS t,pS w,zq0,zq2,zq2],.tail 102 4 (qe.rows a).length,.tail 104 5 (qg.rows b).length]) (cm n c J b a x t) (r:=r) ?_ ?_
   ·intro st h
    obtain⟨R,T,w⟩:=st;unfold cm at h;(conv=>whnf);refine gW.cut (S:=Int×Bool×List SS×List qd) (fun(b7,b8,U,V)=>[(0,.ptr 0 0),(2,.ptr 1 0),(3,.ptr 2 0),(5,.ptr 3 0),(6,pB J)]) (fun(b7,b8,U,V)=>[.box 117 [pK c,pI b7,pB b8],zq5,.box 100 [.tsl 4 (qe.rows a),.tsl 5 (qg.rows b)],.box 104 [pS t,pS w,zq0,pT U,pE V],.tail 102 4 (qe.rows a).length,.tail 104 5 (qg.rows b).length]) (cn n c J b a x t w) (r:=r) ?_ ?_
    ·intro st h
     obtain⟨b7,b8,U,V⟩:=st;unfold cn at h;(conv=>whnf);refine bq h fun⟨e9,f0⟩ g9 h=>?_;refine zz (qD n _ _ _ _ _ g9) [0] [] ?_;rintro _ _ ⟨rfl,rfl⟩;refine⟨.p (.tup []),[.box 117 [pK c,pI e9,pB f0],zq5,.box 100 [.tsl 4 (qe.rows a),.tsl 5 (qg.rows b)],.box 104 [pS t,pS w,zq0,pT U,pE V],.tail 102 4 (qe.rows a).length,.tail 104 5 (qg.rows b).length],rfl,rfl,?_⟩;(conv=>whnf);exact⟨(e9,f0,t,w,U,V),h,wk [0,1,2,3,4,5] []⟩
    (conv=>whnf);refine bq h fun k6 i0 h=>?_
    refine zz (zH n _ _ _ _ _ i0) [0] [] ?_;rintro _ _ ⟨rfl,rfl⟩;refine⟨pB k6,[.box 117 [pK c,pI R,pB T],zq5,.box 100 [.tsl 4 (qe.rows a),.tsl 5 (qg.rows b)],.box 104 [pS t,pS w,zq0,zq2,zq2],.tail 102 4 (qe.rows a).length,.tail 104 5 (qg.rows b).length],rfl,rfl,?_⟩;(conv=>whnf);apply ifc h<;>intro m h
    ·conv=>whnf
     refine bq h fun⟨f1,c4,c5,c6⟩ i1 h=>?_;refine zz (mq n _ _ _ _ i1) [0] [] ?_;rintro _ _ ⟨rfl,rfl⟩;refine⟨.p (.tup [.sl (qi f1),.sl (qd.rows c4)]),[.box 117 [pK c,pI c5,pB c6],zq5,.box 100 [.tsl 4 (qe.rows a),.tsl 5 (qg.rows b)],.box 104 [pS t,pS w,zq0,zq2,zq2],.tail 102 4 (qe.rows a).length,.tail 104 5 (qg.rows b).length],rfl,rfl,?_⟩;(conv=>whnf);exact⟨(c5,c6,f1,c4),h,wk [0,1,2,3,4,5] []⟩
    (conv=>whnf);exact⟨(R,T,([]:List _),([]:List _)),h,wk [0,1,2,3,4,5] []⟩
   conv=>whnf
   refine bq h fun⟨i9,c7⟩ i3 h=>?_;refine zz (qf n _ _ _ _ _ i3) [0] [] ?_;rintro _ _ ⟨rfl,rfl⟩;refine⟨pB i9,[.box 117 [pK c,pI c7,pB b6],zq5,.box 100 [.tsl 3 (qe.rows a),.tsl 4 (qg.rows b)],.tail 102 4 (qe.rows a).length,.tail 104 5 (qg.rows b).length,.box 104 [pS t,zq1,zq0,zq2,zq2]],rfl,rfl,?_⟩;conv=>whnf
   apply ifc h<;>intro m h
   ·conv=>whnf
    refine bq h fun⟨c8,c9,d0⟩ i4 h=>?_;refine zz (vL n _ _ _ _ i4) [0] [] ?_;rintro _ _ ⟨rfl,rfl⟩;refine⟨pS c8,[.box 117 [pK c,pI c9,pB d0],zq5,.box 100 [.tsl 3 (qe.rows a),.tsl 4 (qg.rows b)],.tail 102 4 (qe.rows a).length,.tail 104 5 (qg.rows b).length,.box 104 [pS t,zq1,zq0,zq2,zq2]],rfl,rfl,?_⟩;(conv=>whnf);exact⟨(c9,d0,c8),h,wk [0,1,2,5,3,4] []⟩
   conv=>whnf
   exact⟨(c7,b6,([]:SS)),h,wk [0,1,2,5,3,4] []⟩
  conv=>whnf
  exact⟨(e8,b1,([]:SS),([]:SS),([]:List _),([]:List _)),h,wk [0,1,2,5,3,4] []⟩
 obtain rfl:=sj h;conv=>whnf
 refine⟨_,_,⟨rfl,rfl⟩,wk [0] []⟩
end W
end
section
set_option maxRecDepth 100000
set_option maxHeartbeats 20000000
open Go Go.Proofs Ax
namespace W
abbrev Fc (_:List qo) (_:Int) (_:Bool) (r:(List zU)×Int×Bool):FV:=.p (.sl (zU.rows r.1))
abbrev GZ (a:List qo) (_:Int) (_:Bool) (r:(List zU)×Int×Bool):List AObj:=[.box 117 [pK a,.p (.int .i64 r.2.1),.p (.bool r.2.2)]]
def mn (n:Nat) (e:List qo):LK (List zU×Int×Bool) ((List zU)×Int×Bool):=fun g (b,j,k)=>
 bnd (Qs n e j k) fun⟨⟨c,d⟩,l,a⟩=>
 chk (decide ((zU.rows (b++[zU.mk c d])).length * 48<=140737488355328)) (
 bnd (qt n ([44]:SS) e l a) fun⟨i,f⟩=>
 bif(!i)then(
 some ((b++[zU.mk c d]),f,a))
 else(
 g ((b++[zU.mk c d]),f,a)))
def mK (n:Nat) (a:List qo) (b:Int) (c:Bool):Option ((List zU)×Int×Bool):=
 qC (mn n a) n (([]:List _),b,c)
theorem tS (n:Nat):∀ (d:List qo) (e:Int) (f:Bool) (r:(List zU)×Int×Bool),mK n d e f=some r->qS TP 86 [.ptr 0 0] [.box 117 [pK d,pI e,pB f]] 1 (fun v lo=>v=Fc d e f r/\lo=GZ d e f r):=by
 intro d e f r h;unfold mK at h;refine zO Tryz.call86 Tryz.func86 [85,135,1000000] ?_;conv=>whnf
 refine qP.fn [85,135,1000000] (S:=List zU×Int×Bool) (fun(a,i,j)=>[(0,.ptr 0 0),(3,.tsl 1 (zU.rows a))]) (fun(a,i,j)=>[.box 117 [pK d,pI i,pB j],.tail 100 2 (zU.rows a).length]) (B:=mn n d) h (wk [0,0] [1]) ?_;intro _ st h;obtain⟨a,i,j⟩:=st;unfold mn at h;conv=>whnf
 refine bq h fun⟨⟨b,c⟩,s,g⟩ m h=>?_;refine zz (GK n _ _ _ _ m) [0] [] ?_;rintro _ _ ⟨rfl,rfl⟩;refine⟨.p (.agg [.sl (qe.rows b),.sl (qg.rows c)]),[.box 117 [pK d,pI s,pB g],.tail 100 2 (zU.rows a).length],rfl,rfl,?_⟩;conv=>whnf
 refine⟨Codec.one Qc [zU.mk b c],zU.rows [zU.mk b c],.inl rfl,?_⟩;conv=>whnf
 rw[show zU.rows a++zU.rows [zU.mk b c]=zU.rows (a++[zU.mk b c])from Codec.append Qc a [zU.mk b c]];conv=>whnf
 obtain⟨k,h⟩:=qb h;refine⟨⟨Codec.wide Qc (a++[zU.mk b c]),kod k,qO k (by decide)⟩,?_⟩;conv=>whnf
 refine⟨⟨rfl,rfl,rfl⟩,?_⟩;conv=>whnf
 refine bq h fun⟨q,l⟩ o h=>?_;refine zz (qf n _ _ _ _ _ o) [0] [] ?_;rintro _ _ ⟨rfl,rfl⟩;refine⟨pB q,[.box 117 [pK d,pI l,pB g],.dead,.box 100 [pN b,pG c],.tail 100 2 (zU.rows (a++[zU.mk b c])).length],rfl,rfl,?_⟩;conv=>whnf
 apply ifc h<;>intro _ h
 ·obtain rfl:=sj h
  conv=>whnf
  refine⟨_,_,⟨rfl,rfl⟩,wk [0] []⟩
 conv=>whnf
 exact⟨((a++[zU.mk b c]),l,g),h,wk [0,3] []⟩
abbrev UJ (_:List qo) (_:Int) (_:Bool) (r:(List qd)×Int×Bool):FV:=.p (.sl (qd.rows r.1))
abbrev Uz (a:List qo) (_:Int) (_:Bool) (r:(List qd)×Int×Bool):List AObj:=[.box 117 [pK a,.p (.int .i64 r.2.1),.p (.bool r.2.2)]]
def gF (n:Nat) (d:SS) (b:List qo) (p:Int) (a:Bool):Option ((List qd)×Int×Bool):=
 bnd (qt n d b p a) fun⟨q,c⟩=>
 bif(!q)then(
 some (([]:List qd),c,a))
 else(
 bnd (qJ n b c a) fun⟨⟨s,t,⟨u,e,f,g,i,j⟩,k,l⟩,m,o⟩=>
 some ([qd.mk s t (Val.mk u e f g i j) k l],m,o))
theorem fE (n:Nat):∀ (d:SS) (a:List qo) (c:Int) (b:Bool) (r:(List qd)×Int×Bool),gF n d a c b=some r->qS TP 87 [.ptr 0 0,.p (PV.str d)] [.box 117 [pK a,pI c,pB b]] 1 (fun v lo=>v=UJ a c b r/\lo=Uz a c b r):=by
 intro d a c b r h;unfold gF at h;refine zO Tryz.call87 Tryz.func87 [85,88,1000000] ?_;conv=>whnf
 refine bq h fun⟨x,y⟩ s h=>?_;refine zz (qf n _ _ _ _ _ s) [0] [] ?_;rintro _ _ ⟨rfl,rfl⟩;refine⟨pB x,[.box 117 [pK a,pI y,pB b]],rfl,rfl,?_⟩;conv=>whnf
 apply ifc h<;>intro _ h
 ·obtain rfl:=sj h
  conv=>whnf
  refine⟨_,_,⟨rfl,rfl⟩,wk [0] []⟩
 conv=>whnf
 refine bq h fun⟨⟨m,o,⟨q,e,f,g,i,j⟩,k,l⟩,u,w⟩ t h=>?_;refine zz (ff n _ _ _ _ t) [0] [] ?_;rintro _ _ ⟨rfl,rfl⟩;refine⟨.p (.agg [.int .i64 m,.str o,.int .i64 q,.bool e,.int .i64 f,.str g,.sl (Val.rows i),.sl (qi j),.sl (qi k),.sl (qd.rows l)]),[.box 117 [pK a,pI u,pB w]],rfl,rfl,?_⟩;conv=>whnf
 refine⟨Codec.one xT [qd.mk m o (Val.mk q e f g i j) k l],qd.rows [qd.mk m o (Val.mk q e f g i j) k l],.inl rfl,?_⟩;obtain rfl:=sj h;conv=>whnf
 refine⟨_,_,⟨rfl,rfl⟩,wk [0] []⟩
end W
end
section
set_option maxRecDepth 100000
set_option maxHeartbeats 20000000
open Go Go.Proofs Ax
namespace W
abbrev CO (_:List qo) (_:Int) (_:Bool) (r:qy×Int×Bool):FV:=.p ((PV.agg (ub.cells r.1)))
abbrev CC (a:List qo) (_:Int) (_:Bool) (r:qy×Int×Bool):List AObj:=[.box 117 [pK a,.p (.int .i64 r.2.1),.p (.bool r.2.2)]]
def df (n:Nat) (a:List qo) (b:Int) (k:List zU) (q:List qd) (B:Int) (H:SS) (N:Int) (O:Bool) (P:Int) (Q:SS) (c:List Val) (d e:List SS) (f:List qd) (g:SS) (o:List xj) (p:Int) (s:SS) (t:Int) (u:Bool) (v:Int) (w:SS) (x:List Val) (y z:List SS) (A:List qd) (C:SS) (m:Bool) (i:List qv) (j:List SS) (l:Bool):Int×Bool×List zy->Option (qy×Int×Bool):=fun(D,E,F)=>
 bnd (gF n ([83,75,73,80]:SS) a D E) fun⟨G,I,J⟩=>
 bnd (gF n ([76,73,77,73,84]:SS) a I J) fun⟨K,L,M⟩=>
 some (qy.mk b k q (qd.mk B H (Val.mk N O P Q c d) e f) g (o++[xj.mk (qd.mk p s (Val.mk t u v w x y) z A) C]) m F G K i j l,L,M)
def cq (n:Nat) (a:List zy) (b:Int) (c:SS) (d:Int) (e:Bool) (f:Int) (g:SS) (i:List Val) (j k:List SS) (l:List qd) (p:List qo) (m:Bool) (t:Int) (B:List zU) (G:List qd) (Q:Int) (S:SS) (T:Int) (U:Bool) (X:Int) (Y:SS) (u:List Val) (v w:List SS) (x:List qd) (y:SS) (E:List xj) (F:Int) (H:SS) (I:Int) (J:Bool) (K:Int) (L:SS) (M:List Val) (N O:List SS) (P:List qd) (R:SS) (D:Bool) (z:List qv) (A:List SS) (C:Bool) (s:Int×Bool×List zy->Option (qy×Int×Bool)):Int×Bool->Option (qy×Int×Bool):=fun(V,o)=>
 chk (decide ((zy.rows (a++[zy.mk (qd.mk b c (Val.mk d e f g i j) k l) o])).length * 168<=140737488355328)) (
 bnd (qt n ([44]:SS) p V m) fun⟨W,q⟩=>
 bif(!W)then(
 df n p t B G Q S T U X Y u v w x y E F H I J K L M N O P R D z A C (q,m,(a++[zy.mk (qd.mk b c (Val.mk d e f g i j) k l) o])))
 else(
 s (q,m,(a++[zy.mk (qd.mk b c (Val.mk d e f g i j) k l) o]))))
def nB (n:Nat) (a:List qo) (d:Int) (m:List zU) (t:List qd) (D:Int) (F:SS) (G:Int) (Q:Bool) (U:Int) (V:SS) (e:List Val) (f g:List SS) (i:List qd) (j:SS) (q:List xj) (s:Int) (u:SS) (v:Int) (w:Bool) (x:Int) (y:SS) (z:List Val) (A B:List SS) (C:List qd) (E:SS) (p:Bool) (k:List qv) (l:List SS) (o:Bool):LK (Int×Bool×List zy) (qy×Int×Bool):=fun c (W,X,H)=>
 bnd (qJ n a W X) fun⟨⟨I,J,⟨K,L,M,N,O,P⟩,R,S⟩,Y,b⟩=>
 bnd (qt n ([65,83,67]:SS) a Y b) fun⟨Z,T⟩=>
 bif(!Z)then(
 bnd (qt n ([68,69,83,67]:SS) a T b) fun⟨a0,a1⟩=>
 cq n H I J K L M N O P R S a b d m t D F G Q U V e f g i j q s u v w x y z A B C E p k l o c (a1,a0))
 else(
 cq n H I J K L M N O P R S a b d m t D F G Q U V e f g i j q s u v w x y z A B C E p k l o c (T,false))
def uI (n:Nat) (c:List xj) (d:Int) (e:SS) (f:Int) (g:Bool) (i:Int) (j:SS) (k:List Val) (l m:List SS) (o:List qd) (a:List qo) (q:Int) (z:List zU) (C:List qd) (D:Int) (F:SS) (H:Int) (I:Bool) (J:Int) (K:SS) (s:List Val) (t u:List SS) (v:List qd) (w:SS) (B:Bool) (x:List qv) (y:List SS) (A:Bool) (L:Int×Bool×List xj->Option (qy×Int×Bool)):Int×Bool×SS->Option (qy×Int×Bool):=fun(M,b,p)=>
 chk (decide ((xj.rows (c++[xj.mk (qd.mk d e (Val.mk f g i j k l) m o) p])).length * 176<=140737488355328)) (
 bnd (qt n ([44]:SS) a M b) fun⟨N,E⟩=>
 bif(!N)then(
 bnd (qt n ([79,82,68,69,82]:SS) a E b) fun⟨O,G⟩=>
 bif O then(
 bnd (qQ n ([66,89]:SS) a G b) fun⟨P,Q⟩=>
 qC (nB n a q z C D F H I J K s t u v w c d e f g i j k l m o p B x y A) n (P,Q,([]:List _)))
 else(
 df n a q z C D F H I J K s t u v w c d e f g i j k l m o p B x y A (G,b,([]:List _))))
 else(
 L (E,b,(c++[xj.mk (qd.mk d e (Val.mk f g i j k l) m o) p]))))
def nA (n:Nat) (a:List qo) (g:Int) (q:List zU) (v:List qd) (E:Int) (F:SS) (G:Int) (H:Bool) (I:Int) (J:SS) (i:List Val) (j k:List SS) (l:List qd) (m:SS) (t:Bool) (o:List qv) (p:List SS) (s:Bool):LK (Int×Bool×List xj) (qy×Int×Bool):=fun f (K,L,u)=>
 bnd (qJ n a K L) fun⟨⟨b,c,⟨w,x,y,z,A,B⟩,C,D⟩,d,e⟩=>
 bif(!(b != 2))then(
 bnd (xz n ([65,83]:SS) a d e) fun M=>
 bif(bif(b != 2)then true else M)then(
 bnd (qQ n ([65,83]:SS) a d e) fun⟨N,O⟩=>
 bnd (vM n a N O) fun⟨P,Q,R⟩=>
 uI n u b c w x y z A B C D a g q v E F G H I J i j k l m t o p s f (Q,R,P))
 else(
 uI n u b c w x y z A B C D a g q v E F G H I J i j k l m t o p s f (d,e,c)))
 else(
 bif(bif(b != 2)then true else false)then(
 bnd (qQ n ([65,83]:SS) a d e) fun⟨S,T⟩=>
 bnd (vM n a S T) fun⟨U,V,W⟩=>
 uI n u b c w x y z A B C D a g q v E F G H I J i j k l m t o p s f (V,W,U))
 else(
 uI n u b c w x y z A B C D a g q v E F G H I J i j k l m t o p s f (d,e,c)))
def pf (n:Nat) (c:Int) (l:List zU) (s:List qd) (t:Int) (u:SS) (v:Int) (w:Bool) (x:Int) (y:SS) (d:List Val) (e f:List SS) (g:List qd) (i:SS) (_:Bool) (_ _:List qd) (j:List qv) (k:List SS) (m:Bool) (a:List qo) (o:Int) (b:Bool):Option (qy×Int×Bool):=
 bnd (qt n ([68,73,83,84,73,78,67,84]:SS) a o b) fun⟨p,q⟩=>
 qC (nA n a c l s t u v w x y d e f g i p j k m) n (q,b,([]:List _))
theorem Qt (n:Nat):∀ (q:Int) (A:List zU) (D:List qd) (E:Int) (F:SS) (G:Int) (H:Bool) (I:Int) (J:SS) (s:List Val) (t u:List SS) (w:List qd) (x:SS) (a6:Bool) (M L:List qd) (y:List qv) (z:List SS) (C:Bool) (o:List qo) (a5:Int) (a3:Bool) (r:qy×Int×Bool),pf n q A D E F G H I J s t u w x a6 M L y z C o a5 a3=some r->qS TP 91 [.ptr 0 0,.p (.agg [.int .i64 q,.sl (zU.rows A),.sl (qd.rows D),.int .i64 E,.str F,.int .i64 G,.bool H,.int .i64 I,.str J,.sl (Val.rows s),.sl (qi t),.sl (qi u),.sl (qd.rows w),.str x,.nilsl,.bool a6,.nilsl,.sl (qd.rows M),.sl (qd.rows L),.sl (qv.rows y),.sl (qi z),.bool C])] [.box 117 [pK o,pI a5,pB a3]] 1 (fun v lo=>v=CO o a5 a3 r/\lo=CC o a5 a3 r):=by
 intro q A D E F G H I J s t u w x a6 M L y z C o a5 a3 r h;unfold pf at h;refine zO Tryz.call91 Tryz.func91 [85,87,88,89,90,94,1000000] ?_;conv=>whnf
 refine bq h fun⟨K,f1⟩ d3 h=>?_;refine zz (qf n _ _ _ _ _ d3) [0] [] ?_;rintro _ _ ⟨rfl,rfl⟩;refine⟨pB K,[.box 117 [pK o,pI f1,pB a3],.box 47 [pI q,pP A,pE D,pI E,pS F,pI G,pB H,pI I,pS J,pV s,pT t,pT u,pE w,pS x,zq2,pB a6,zq2,pE M,pE L,pU y,pT z,pB C],zq3],rfl,rfl,?_⟩;conv=>whnf
 refine qP.fn [85,87,88,89,90,94,1000000] (S:=Int×Bool×List xj) (fun(b0,b1,b)=>[(0,.ptr 0 0),(3,.ptr 1 0),(4,.ptr 2 0)]) (fun(b0,b1,b)=>[.box 117 [pK o,pI b0,pB b1],.box 47 [pI q,pP A,pE D,pI E,pS F,pI G,pB H,pI I,pS J,pV s,pT t,pT u,pE w,pS x,.tsl 3 (xj.rows b),pB K,zq2,pE M,pE L,pU y,pT z,pB C],zq3,.tail 106 11 (xj.rows b).length]) (B:=nA n o q A D E F G H I J s t u w x K y z C) h (wk [0,1,2,0] [3]) ?_;intro e9 st h;obtain⟨b0,b1,b⟩:=st;unfold nA at h;conv=>whnf
 refine bq h fun⟨⟨c,a,⟨d,e,f,g,i,j⟩,k,l⟩,a7,a8⟩ e1 h=>?_;refine zz (ff n _ _ _ _ e1) [0] [] ?_;rintro _ _ ⟨rfl,rfl⟩;refine⟨.p (.agg [.int .i64 c,.str a,.int .i64 d,.bool e,.int .i64 f,.str g,.sl (Val.rows i),.sl (qi j),.sl (qi k),.sl (qd.rows l)]),[.box 117 [pK o,pI a7,pB a8],.box 47 [pI q,pP A,pE D,pI E,pS F,pI G,pB H,pI I,pS J,pV s,pT t,pT u,pE w,pS x,.tsl 3 (xj.rows b),pB K,zq2,pE M,pE L,pU y,pT z,pB C],zq3,.tail 106 11 (xj.rows b).length,.box 106 [zq0,zq1,zq0,pB false,zq0,zq1,zq2,zq2,zq2,zq2,zq1]],rfl,rfl,?_⟩;conv=>whnf
 refine gW.cut (S:=Int×Bool×SS) (fun(b2,a2,m)=>[(0,.ptr 0 0),(3,.ptr 1 0),(4,.ptr 2 0),(5,.ptr 3 0)]) (fun(b2,a2,m)=>[.box 117 [pK o,pI b2,pB a2],.box 47 [pI q,pP A,pE D,pI E,pS F,pI G,pB H,pI I,pS J,pV s,pT t,pT u,pE w,pS x,.tsl 4 (xj.rows b),pB K,zq2,pE M,pE L,pU y,pT z,pB C],zq3,.box 106 [pI c,pS a,pI d,pB e,pI f,pS g,pV i,pT j,pT k,pE l,pS m],.tail 106 11 (xj.rows b).length]) (uI n b c a d e f g i j k l o q A D E F G H I J s t u w x K y z C e9) (r:=r) ?_ ?_
 ·intro st h
  obtain⟨b2,a2,m⟩:=st;unfold uI at h;conv=>whnf
  refine⟨Codec.one Bf [xj.mk (qd.mk c a (Val.mk d e f g i j) k l) m],xj.rows [xj.mk (qd.mk c a (Val.mk d e f g i j) k l) m],.inl rfl,?_⟩;conv=>whnf
  rw[show xj.rows b++xj.rows [xj.mk (qd.mk c a (Val.mk d e f g i j) k l) m]=xj.rows (b++[xj.mk (qd.mk c a (Val.mk d e f g i j) k l) m])from Codec.append Bf b [xj.mk (qd.mk c a (Val.mk d e f g i j) k l) m]];conv=>whnf
  obtain⟨c0,h⟩:=qb h;refine⟨⟨Codec.wide Bf (b++[xj.mk (qd.mk c a (Val.mk d e f g i j) k l) m]),kod c0,qO c0 (by decide)⟩,?_⟩;conv=>whnf
  refine⟨⟨rfl,rfl,rfl⟩,?_⟩;conv=>whnf
  refine bq h fun⟨f2,c1⟩ e2 h=>?_;refine zz (qf n _ _ _ _ _ e2) [0] [] ?_;rintro _ _ ⟨rfl,rfl⟩;refine⟨pB f2,[.box 117 [pK o,pI c1,pB a2],.box 47 [pI q,pP A,pE D,pI E,pS F,pI G,pB H,pI I,pS J,pV s,pT t,pT u,pE w,pS x,.tsl 5 (xj.rows (b++[xj.mk (qd.mk c a (Val.mk d e f g i j) k l) m])),pB K,zq2,pE M,pE L,pU y,pT z,pB C],zq3,.box 106 [pI c,pS a,pI d,pB e,pI f,pS g,pV i,pT j,pT k,pE l,pS m],.dead,.tail 106 11 (xj.rows (b++[xj.mk (qd.mk c a (Val.mk d e f g i j) k l) m])).length],rfl,rfl,?_⟩;conv=>whnf
  apply ifc h<;>intro a4 h
  ·conv=>whnf
   refine gW.cut (S:=Int×Bool×List zy) (fun(b3,b4,a0)=>[(0,.ptr 0 0),(3,.ptr 1 0),(4,.ptr 2 0)]) (fun(b3,b4,a0)=>[.box 117 [pK o,pI b3,pB b4],.box 47 [pI q,pP A,pE D,pI E,pS F,pI G,pB H,pI I,pS J,pV s,pT t,pT u,pE w,pS x,.tsl 3 (xj.rows (b++[xj.mk (qd.mk c a (Val.mk d e f g i j) k l) m])),pB K,.tsl 4 (zy.rows a0),pE M,pE L,pU y,pT z,pB C],zq3,.tail 106 11 (xj.rows (b++[xj.mk (qd.mk c a (Val.mk d e f g i j) k l) m])).length,.tail 108 11 (zy.rows a0).length]) (df n o q A D E F G H I J s t u w x b c a d e f g i j k l m K y z C) (r:=r) ?_ ?_
   ·intro st h
    obtain⟨b3,b4,a0⟩:=st;unfold df at h;(conv=>whnf);refine bq h fun⟨c2,f3,f4⟩ e3 h=>?_;refine zz (fE n _ _ _ _ _ e3) [0] [] ?_;rintro _ _ ⟨rfl,rfl⟩;refine⟨pE c2,[.box 117 [pK o,pI f3,pB f4],.box 47 [pI q,pP A,pE D,pI E,pS F,pI G,pB H,pI I,pS J,pV s,pT t,pT u,pE w,pS x,.tsl 3 (xj.rows (b++[xj.mk (qd.mk c a (Val.mk d e f g i j) k l) m])),pB K,.tsl 4 (zy.rows a0),pE M,pE L,pU y,pT z,pB C],zq3,.tail 106 11 (xj.rows (b++[xj.mk (qd.mk c a (Val.mk d e f g i j) k l) m])).length,.tail 108 11 (zy.rows a0).length],rfl,rfl,?_⟩;(conv=>whnf);refine bq h fun⟨f5,f6,f7⟩ e4 h=>?_;refine zz (fE n _ _ _ _ _ e4) [0] [] ?_;rintro _ _ ⟨rfl,rfl⟩;refine⟨pE f5,[.box 117 [pK o,pI f6,pB f7],.box 47 [pI q,pP A,pE D,pI E,pS F,pI G,pB H,pI I,pS J,pV s,pT t,pT u,pE w,pS x,.tsl 3 (xj.rows (b++[xj.mk (qd.mk c a (Val.mk d e f g i j) k l) m])),pB K,.tsl 4 (zy.rows a0),pE c2,pE L,pU y,pT z,pB C],zq3,.tail 106 11 (xj.rows (b++[xj.mk (qd.mk c a (Val.mk d e f g i j) k l) m])).length,.tail 108 11 (zy.rows a0).length],rfl,rfl,?_⟩;obtain rfl:=sj h;(conv=>whnf);refine⟨_,_,⟨rfl,rfl⟩,wk [0] []⟩
   conv=>whnf
   refine bq h fun⟨f8,c3⟩ e5 h=>?_;refine zz (qf n _ _ _ _ _ e5) [0] [] ?_;rintro _ _ ⟨rfl,rfl⟩;refine⟨pB f8,[.box 117 [pK o,pI c3,pB a2],.box 47 [pI q,pP A,pE D,pI E,pS F,pI G,pB H,pI I,pS J,pV s,pT t,pT u,pE w,pS x,.tsl 5 (xj.rows (b++[xj.mk (qd.mk c a (Val.mk d e f g i j) k l) m])),pB K,zq2,pE M,pE L,pU y,pT z,pB C],zq3,.box 106 [pI c,pS a,pI d,pB e,pI f,pS g,pV i,pT j,pT k,pE l,pS m],.dead,.tail 106 11 (xj.rows (b++[xj.mk (qd.mk c a (Val.mk d e f g i j) k l) m])).length],rfl,rfl,?_⟩;conv=>whnf
   apply ifc h<;>intro a4 h
   ·conv=>whnf
    refine bq h fun⟨f9,g0⟩ e6 h=>?_;refine zz (qD n _ _ _ _ _ e6) [0] [] ?_;rintro _ _ ⟨rfl,rfl⟩;refine⟨.p (.tup []),[.box 117 [pK o,pI f9,pB g0],.box 47 [pI q,pP A,pE D,pI E,pS F,pI G,pB H,pI I,pS J,pV s,pT t,pT u,pE w,pS x,.tsl 5 (xj.rows (b++[xj.mk (qd.mk c a (Val.mk d e f g i j) k l) m])),pB K,zq2,pE M,pE L,pU y,pT z,pB C],zq3,.box 106 [pI c,pS a,pI d,pB e,pI f,pS g,pV i,pT j,pT k,pE l,pS m],.dead,.tail 106 11 (xj.rows (b++[xj.mk (qd.mk c a (Val.mk d e f g i j) k l) m])).length],rfl,rfl,?_⟩;(conv=>whnf);refine qP.fn [85,87,88,89,90,94,1000000] (S:=Int×Bool×List zy) (fun(b5,b6,N)=>[(0,.ptr 0 0),(3,.ptr 1 0),(4,.ptr 2 0)]) (fun(b5,b6,N)=>[.box 117 [pK o,pI b5,pB b6],.box 47 [pI q,pP A,pE D,pI E,pS F,pI G,pB H,pI I,pS J,pV s,pT t,pT u,pE w,pS x,.tsl 3 (xj.rows (b++[xj.mk (qd.mk c a (Val.mk d e f g i j) k l) m])),pB K,.tsl 4 (zy.rows N),pE M,pE L,pU y,pT z,pB C],zq3,.tail 106 11 (xj.rows (b++[xj.mk (qd.mk c a (Val.mk d e f g i j) k l) m])).length,.tail 108 11 (zy.rows N).length]) (B:=nB n o q A D E F G H I J s t u w x b c a d e f g i j k l m K y z C) h (wk [0,1,2,5,0] [4]) ?_;intro f0 st h;obtain⟨b5,b6,N⟩:=st;unfold nB at h;(conv=>whnf);refine bq h fun⟨⟨O,P,⟨Q,R,T,U,V,W⟩,X,Y⟩,g1,a1⟩ e7 h=>?_;refine zz (ff n _ _ _ _ e7) [0] [] ?_;rintro _ _ ⟨rfl,rfl⟩;refine⟨.p (.agg [.int .i64 O,.str P,.int .i64 Q,.bool R,.int .i64 T,.str U,.sl (Val.rows V),.sl (qi W),.sl (qi X),.sl (qd.rows Y)]),[.box 117 [pK o,pI g1,pB a1],.box 47 [pI q,pP A,pE D,pI E,pS F,pI G,pB H,pI I,pS J,pV s,pT t,pT u,pE w,pS x,.tsl 3 (xj.rows (b++[xj.mk (qd.mk c a (Val.mk d e f g i j) k l) m])),pB K,.tsl 4 (zy.rows N),pE M,pE L,pU y,pT z,pB C],zq3,.tail 106 11 (xj.rows (b++[xj.mk (qd.mk c a (Val.mk d e f g i j) k l) m])).length,.tail 108 11 (zy.rows N).length,.box 108 [zq0,zq1,zq0,pB false,zq0,zq1,zq2,zq2,zq2,zq2,pB false]],rfl,rfl,?_⟩;(conv=>whnf);refine gW.cut (S:=Int×Bool) (fun(b7,Z)=>[(0,.ptr 0 0),(3,.ptr 1 0),(4,.ptr 2 0),(6,.ptr 3 0)]) (fun(b7,Z)=>[.box 117 [pK o,pI b7,pB a1],.box 47 [pI q,pP A,pE D,pI E,pS F,pI G,pB H,pI I,pS J,pV s,pT t,pT u,pE w,pS x,.tsl 4 (xj.rows (b++[xj.mk (qd.mk c a (Val.mk d e f g i j) k l) m])),pB K,.tsl 5 (zy.rows N),pE M,pE L,pU y,pT z,pB C],zq3,.box 108 [pI O,pS P,pI Q,pB R,pI T,pS U,pV V,pT W,pT X,pE Y,pB Z],.tail 106 11 (xj.rows (b++[xj.mk (qd.mk c a (Val.mk d e f g i j) k l) m])).length,.tail 108 11 (zy.rows N).length]) (cq n N O P Q R T U V W X Y o a1 q A D E F G H I J s t u w x b c a d e f g i j k l m K y z C f0) (r:=r) ?_ ?_
    ·intro st h
     obtain⟨b7,Z⟩:=st;unfold cq at h;(conv=>whnf);refine⟨Codec.one XW [zy.mk (qd.mk O P (Val.mk Q R T U V W) X Y) Z],zy.rows [zy.mk (qd.mk O P (Val.mk Q R T U V W) X Y) Z],.inl rfl,?_⟩;(conv=>whnf);rw[show zy.rows N++zy.rows [zy.mk (qd.mk O P (Val.mk Q R T U V W) X Y) Z]=zy.rows (N++[zy.mk (qd.mk O P (Val.mk Q R T U V W) X Y) Z])from Codec.append XW N [zy.mk (qd.mk O P (Val.mk Q R T U V W) X Y) Z]];(conv=>whnf);obtain⟨b9,h⟩:=qb h;refine⟨⟨Codec.wide XW (N++[zy.mk (qd.mk O P (Val.mk Q R T U V W) X Y) Z]),kod b9,qO b9 (by decide)⟩,?_⟩;(conv=>whnf);refine⟨⟨rfl,rfl,rfl⟩,?_⟩;(conv=>whnf);refine bq h fun⟨g2,b8⟩ e8 h=>?_;refine zz (qf n _ _ _ _ _ e8) [0] [] ?_;rintro _ _ ⟨rfl,rfl⟩;refine⟨pB g2,[.box 117 [pK o,pI b8,pB a1],.box 47 [pI q,pP A,pE D,pI E,pS F,pI G,pB H,pI I,pS J,pV s,pT t,pT u,pE w,pS x,.tsl 4 (xj.rows (b++[xj.mk (qd.mk c a (Val.mk d e f g i j) k l) m])),pB K,.tsl 6 (zy.rows (N++[zy.mk (qd.mk O P (Val.mk Q R T U V W) X Y) Z])),pE M,pE L,pU y,pT z,pB C],zq3,.box 108 [pI O,pS P,pI Q,pB R,pI T,pS U,pV V,pT W,pT X,pE Y,pB Z],.tail 106 11 (xj.rows (b++[xj.mk (qd.mk c a (Val.mk d e f g i j) k l) m])).length,.dead,.tail 108 11 (zy.rows (N++[zy.mk (qd.mk O P (Val.mk Q R T U V W) X Y) Z])).length],rfl,rfl,?_⟩;(conv=>whnf);apply ifc h<;>intro a4 h
     ·conv=>whnf
      exact⟨(b8,a1,(N++[zy.mk (qd.mk O P (Val.mk Q R T U V W) X Y) Z])),h,wk [0,1,2,4,6] []⟩
     (conv=>whnf);exact⟨(b8,a1,(N++[zy.mk (qd.mk O P (Val.mk Q R T U V W) X Y) Z])),h,wk [0,1,2,4,6] []⟩
    (conv=>whnf);refine bq h fun⟨g3,c4⟩ d4 h=>?_
    refine zz (qf n _ _ _ _ _ d4) [0] [] ?_;rintro _ _ ⟨rfl,rfl⟩;refine⟨pB g3,[.box 117 [pK o,pI c4,pB a1],.box 47 [pI q,pP A,pE D,pI E,pS F,pI G,pB H,pI I,pS J,pV s,pT t,pT u,pE w,pS x,.tsl 3 (xj.rows (b++[xj.mk (qd.mk c a (Val.mk d e f g i j) k l) m])),pB K,.tsl 4 (zy.rows N),pE M,pE L,pU y,pT z,pB C],zq3,.tail 106 11 (xj.rows (b++[xj.mk (qd.mk c a (Val.mk d e f g i j) k l) m])).length,.tail 108 11 (zy.rows N).length,.box 108 [pI O,pS P,pI Q,pB R,pI T,pS U,pV V,pT W,pT X,pE Y,pB false]],rfl,rfl,?_⟩;(conv=>whnf);apply ifc h<;>intro a4 h
    ·conv=>whnf
     refine bq h fun⟨c5,c6⟩ d5 h=>?_;refine zz (qf n _ _ _ _ _ d5) [0] [] ?_;rintro _ _ ⟨rfl,rfl⟩;refine⟨pB c5,[.box 117 [pK o,pI c6,pB a1],.box 47 [pI q,pP A,pE D,pI E,pS F,pI G,pB H,pI I,pS J,pV s,pT t,pT u,pE w,pS x,.tsl 3 (xj.rows (b++[xj.mk (qd.mk c a (Val.mk d e f g i j) k l) m])),pB K,.tsl 4 (zy.rows N),pE M,pE L,pU y,pT z,pB C],zq3,.tail 106 11 (xj.rows (b++[xj.mk (qd.mk c a (Val.mk d e f g i j) k l) m])).length,.tail 108 11 (zy.rows N).length,.box 108 [pI O,pS P,pI Q,pB R,pI T,pS U,pV V,pT W,pT X,pE Y,pB false]],rfl,rfl,?_⟩;(conv=>whnf);exact⟨(c6,c5),h,wk [0,1,2,5,3,4] []⟩
    (conv=>whnf);exact⟨(c4,false),h,wk [0,1,2,5,3,4] []⟩
   conv=>whnf
   exact⟨(c3,a2,([]:List _)),h,wk [0,1,2,5,0] [4]⟩
  conv=>whnf
  exact⟨(c1,a2,(b++[xj.mk (qd.mk c a (Val.mk d e f g i j) k l) m])),h,wk [0,1,2,5] []⟩
 conv=>whnf
 refine⟨fun a9=>?_,fun a9=>?_⟩
 ·replace h:=uA h a9
  conv=>whnf
  refine⟨id,?_⟩;conv=>whnf
  refine bq h fun g4 d6 h=>?_;refine zz (zH n _ _ _ _ _ d6) [0] [] ?_;rintro _ _ ⟨rfl,rfl⟩;refine⟨pB g4,[.box 117 [pK o,pI a7,pB a8],.box 47 [pI q,pP A,pE D,pI E,pS F,pI G,pB H,pI I,pS J,pV s,pT t,pT u,pE w,pS x,.tsl 3 (xj.rows b),pB K,zq2,pE M,pE L,pU y,pT z,pB C],zq3,.tail 106 11 (xj.rows b).length,.box 106 [pI c,pS a,pI d,pB e,pI f,pS g,pV i,pT j,pT k,pE l,pS a]],rfl,rfl,?_⟩;conv=>whnf
  refine⟨id,?_⟩;conv=>whnf
  apply ifc h<;>intro a4 h
  ·conv=>whnf
   refine bq h fun⟨g5,g6⟩ d7 h=>?_;refine zz (qD n _ _ _ _ _ d7) [0] [] ?_;rintro _ _ ⟨rfl,rfl⟩;refine⟨.p (.tup []),[.box 117 [pK o,pI g5,pB g6],.box 47 [pI q,pP A,pE D,pI E,pS F,pI G,pB H,pI I,pS J,pV s,pT t,pT u,pE w,pS x,.tsl 3 (xj.rows b),pB K,zq2,pE M,pE L,pU y,pT z,pB C],zq3,.tail 106 11 (xj.rows b).length,.box 106 [pI c,pS a,pI d,pB e,pI f,pS g,pV i,pT j,pT k,pE l,pS a]],rfl,rfl,?_⟩;conv=>whnf
   refine bq h fun⟨c7,c8,c9⟩ d8 h=>?_;refine zz (vu n _ _ _ _ d8) [0] [] ?_;rintro _ _ ⟨rfl,rfl⟩;refine⟨pS c7,[.box 117 [pK o,pI c8,pB c9],.box 47 [pI q,pP A,pE D,pI E,pS F,pI G,pB H,pI I,pS J,pV s,pT t,pT u,pE w,pS x,.tsl 3 (xj.rows b),pB K,zq2,pE M,pE L,pU y,pT z,pB C],zq3,.tail 106 11 (xj.rows b).length,.box 106 [pI c,pS a,pI d,pB e,pI f,pS g,pV i,pT j,pT k,pE l,pS a]],rfl,rfl,?_⟩;conv=>whnf
   exact⟨(c8,c9,c7),h,wk [0,1,2,4,3] []⟩
  conv=>whnf
  exact⟨(a7,a8,a),h,wk [0,1,2,4,3] []⟩
 replace h:=uz h a9;refine⟨pB false,?_⟩;conv=>whnf
 refine⟨id,?_⟩;conv=>whnf
 apply ifc h<;>intro a4 h
 ·conv=>whnf
  refine bq h fun⟨g7,g8⟩ d9 h=>?_;refine zz (qD n _ _ _ _ _ d9) [0] [] ?_;rintro _ _ ⟨rfl,rfl⟩;refine⟨.p (.tup []),[.box 117 [pK o,pI g7,pB g8],.box 47 [pI q,pP A,pE D,pI E,pS F,pI G,pB H,pI I,pS J,pV s,pT t,pT u,pE w,pS x,.tsl 3 (xj.rows b),pB K,zq2,pE M,pE L,pU y,pT z,pB C],zq3,.tail 106 11 (xj.rows b).length,.box 106 [pI c,pS a,pI d,pB e,pI f,pS g,pV i,pT j,pT k,pE l,pS a]],rfl,rfl,?_⟩;conv=>whnf
  refine bq h fun⟨d0,d1,d2⟩ e0 h=>?_;refine zz (vu n _ _ _ _ e0) [0] [] ?_;rintro _ _ ⟨rfl,rfl⟩;refine⟨pS d0,[.box 117 [pK o,pI d1,pB d2],.box 47 [pI q,pP A,pE D,pI E,pS F,pI G,pB H,pI I,pS J,pV s,pT t,pT u,pE w,pS x,.tsl 3 (xj.rows b),pB K,zq2,pE M,pE L,pU y,pT z,pB C],zq3,.tail 106 11 (xj.rows b).length,.box 106 [pI c,pS a,pI d,pB e,pI f,pS g,pV i,pT j,pT k,pE l,pS a]],rfl,rfl,?_⟩;conv=>whnf
  exact⟨(d1,d2,d0),h,wk [0,1,2,4,3] []⟩
 conv=>whnf
 exact⟨(a7,a8,a),h,wk [0,1,2,4,3] []⟩
end W
end
section
set_option maxRecDepth 100000
set_option maxHeartbeats 20000000
open Go Go.Proofs Ax
namespace W
abbrev CP (_:List qo) (_:Int) (_:Bool) (r:qy×Int×Bool):FV:=.p ((PV.agg (ub.cells r.1)))
abbrev CD (a:List qo) (_:Int) (_:Bool) (r:qy×Int×Bool):List AObj:=[.box 117 [pK a,.p (.int .i64 r.2.1),.p (.bool r.2.2)]]
def fg (n:Nat) (a:List qv) (b:SS) (I:List qo) (u:Int) (F:List zU) (J:List qd) (L:Int) (N:SS) (O:Int) (P:Bool) (Q:Int) (R:SS) (v:List Val) (w x:List SS) (y:List qd) (z:SS) (A:List xj) (B:Bool) (C:List zy) (D E:List qd) (G:List SS) (H:Bool) (t:Int×Bool×List qv->Option (qy×Int×Bool)):Int×Bool×SS×SS×Int×SS×Int×Bool×Int×SS×List Val×List SS×List SS×List qd->Option (qy×Int×Bool):=fun(K,c,d,e,f,g,i,j,k,l,m,o,p,q)=>
 chk (decide ((qv.rows (a++[qv.mk b d e (qd.mk f g (Val.mk i j k l m o) p q)])).length * 208<=140737488355328)) (
 bnd (qt n ([44]:SS) I K c) fun⟨M,s⟩=>
 bif(!M)then(
 some (qy.mk u F J (qd.mk L N (Val.mk O P Q R v w) x y) z A B C D E (a++[qv.mk b d e (qd.mk f g (Val.mk i j k l m o) p q)]) G H,s,c))
 else(
 t (s,c,(a++[qv.mk b d e (qd.mk f g (Val.mk i j k l m o) p q)]))))
def nD (n:Nat) (a:List qo) (b:Int) (p:List zU) (v:List qd) (x:Int) (y:SS) (z:Int) (A:Bool) (B:Int) (C:SS) (d:List Val) (e f:List SS) (g:List qd) (i:SS) (j:List xj) (k:Bool) (l:List zy) (m o:List qd) (q:List SS) (s:Bool):LK (Int×Bool×List qv) (qy×Int×Bool):=fun c (H,I,t)=>
 bnd (vM n a H I) fun⟨u,J,w⟩=>
 bnd (qt n ([58]:SS) a J w) fun⟨K,D⟩=>
 bif K then(
 bnd (uv n a D w) fun⟨L,M,N⟩=>
 fg n t u a b p v x y z A B C d e f g i j k l m o q s c (M,N,([]:SS),L,(0:Int),([]:SS),(0:Int),false,(0:Int),([]:SS),([]:List _),([]:List _),([]:List _),([]:List _)))
 else(
 bnd (qQ n ([46]:SS) a D w) fun⟨O,P⟩=>
 bnd (uv n a O P) fun⟨E,F,G⟩=>
 bif(b==6)then(
 bnd (qQ n ([61]:SS) a F G) fun⟨Q,R⟩=>
 bnd (qJ n a Q R) fun⟨⟨S,T,⟨U,V,W,X,Y,Z⟩,a0,a1⟩,a2,a3⟩=>
 fg n t u a b p v x y z A B C d e f g i j k l m o q s c (a2,a3,E,([]:SS),S,T,U,V,W,X,Y,Z,a0,a1))
 else(
 fg n t u a b p v x y z A B C d e f g i j k l m o q s c (F,G,E,([]:SS),(0:Int),([]:SS),(0:Int),false,(0:Int),([]:SS),([]:List _),([]:List _),([]:List _),([]:List _))))
def pg (n:Nat) (a:Int) (m:List zU) (u:List qd) (v:Int) (w:SS) (x:Int) (y:Bool) (z:Int) (A:SS) (b:List Val) (c d:List SS) (e:List qd) (f:SS) (g:List xj) (i:Bool) (j:List zy) (k l:List qd) (o:List SS) (p:Bool) (q:List qo) (s:Int) (t:Bool):Option (qy×Int×Bool):=
 qC (nD n q a m u v w x y z A b c d e f g i j k l o p) n (s,t,([]:List _))
theorem Qu (n:Nat):∀ (d:Int) (s:List zU) (w:List qd) (x:Int) (y:SS) (z:Int) (A:Bool) (C:Int) (D:SS) (e:List Val) (f g:List SS) (i:List qd) (j:SS) (k:List xj) (l:Bool) (m:List zy) (o q:List qd) (t:List SS) (u:Bool) (c:List qo) (Q:Int) (R:Bool) (r:qy×Int×Bool),pg n d s w x y z A C D e f g i j k l m o q t u c Q R=some r->qS TP 93 [.ptr 0 0,.p (.agg [.int .i64 d,.sl (zU.rows s),.sl (qd.rows w),.int .i64 x,.str y,.int .i64 z,.bool A,.int .i64 C,.str D,.sl (Val.rows e),.sl (qi f),.sl (qi g),.sl (qd.rows i),.str j,.sl (xj.rows k),.bool l,.sl (zy.rows m),.sl (qd.rows o),.sl (qd.rows q),.nilsl,.sl (qi t),.bool u])] [.box 117 [pK c,pI Q,pB R]] 1 (fun v lo=>v=CP c Q R r/\lo=CD c Q R r):=by
 intro d s w x y z A C D e f g i j k l m o q t u c Q R r h;unfold pg at h;refine zO Tryz.call93 Tryz.func93 [85,88,89,90,139,1000000] ?_;conv=>whnf
 refine qP.fn [85,88,89,90,139,1000000] (S:=Int×Bool×List qv) (fun(V,W,a)=>[(0,.ptr 0 0),(3,.ptr 1 0),(4,.ptr 2 0)]) (fun(V,W,a)=>[.box 117 [pK c,pI V,pB W],.box 47 [pI d,pP s,pE w,pI x,pS y,pI z,pB A,pI C,pS D,pV e,pT f,pT g,pE i,pS j,pA k,pB l,pO m,pE o,pE q,.tsl 3 (qv.rows a),pT t,pB u],zq3,.tail 110 13 (qv.rows a).length]) (B:=nD n c d s w x y z A C D e f g i j k l m o q t u) h (wk [0,1,2,0] [3]) ?_;intro c7 st h;obtain⟨V,W,a⟩:=st;unfold nD at h;conv=>whnf
 refine bq h fun⟨b,c8,a0⟩ b9 h=>?_;refine zz (vu n _ _ _ _ b9) [0] [] ?_;rintro _ _ ⟨rfl,rfl⟩;refine⟨pS b,[.box 117 [pK c,pI c8,pB a0],.box 47 [pI d,pP s,pE w,pI x,pS y,pI z,pB A,pI C,pS D,pV e,pT f,pT g,pE i,pS j,pA k,pB l,pO m,pE o,pE q,.tsl 3 (qv.rows a),pT t,pB u],zq3,.tail 110 13 (qv.rows a).length,.box 110 [zq1,zq1,zq1,zq0,zq1,zq0,pB false,zq0,zq1,zq2,zq2,zq2,zq2]],rfl,rfl,?_⟩;conv=>whnf
 refine gW.cut (S:=Int×Bool×SS×SS×Int×SS×Int×Bool×Int×SS×List Val×List SS×List SS×List qd) (fun(X,T,E,F,G,H,I,J,K,L,M,N,O,P)=>[(0,.ptr 0 0),(3,.ptr 1 0),(4,.ptr 2 0),(5,.ptr 3 0)]) (fun(X,T,E,F,G,H,I,J,K,L,M,N,O,P)=>[.box 117 [pK c,pI X,pB T],.box 47 [pI d,pP s,pE w,pI x,pS y,pI z,pB A,pI C,pS D,pV e,pT f,pT g,pE i,pS j,pA k,pB l,pO m,pE o,pE q,.tsl 4 (qv.rows a),pT t,pB u],zq3,.box 110 [pS b,pS E,pS F,pI G,pS H,pI I,pB J,pI K,pS L,pV M,pT N,pT O,pE P],.tail 110 13 (qv.rows a).length]) (fg n a b c d s w x y z A C D e f g i j k l m o q t u c7) (r:=r) ?_ ?_
 ·intro st h
  obtain⟨X,T,E,F,G,H,I,J,K,L,M,N,O,P⟩:=st;unfold fg at h;conv=>whnf
  refine⟨Codec.one pQ [qv.mk b E F (qd.mk G H (Val.mk I J K L M N) O P)],qv.rows [qv.mk b E F (qd.mk G H (Val.mk I J K L M N) O P)],.inl rfl,?_⟩;conv=>whnf
  rw[show qv.rows a++qv.rows [qv.mk b E F (qd.mk G H (Val.mk I J K L M N) O P)]=qv.rows (a++[qv.mk b E F (qd.mk G H (Val.mk I J K L M N) O P)])from Codec.append pQ a [qv.mk b E F (qd.mk G H (Val.mk I J K L M N) O P)]];conv=>whnf
  obtain⟨Y,h⟩:=qb h;refine⟨⟨Codec.wide pQ (a++[qv.mk b E F (qd.mk G H (Val.mk I J K L M N) O P)]),kod Y,qO Y (by decide)⟩,?_⟩;conv=>whnf
  refine⟨⟨rfl,rfl,rfl⟩,?_⟩;conv=>whnf
  refine bq h fun⟨c9,a1⟩ c0 h=>?_;refine zz (qf n _ _ _ _ _ c0) [0] [] ?_;rintro _ _ ⟨rfl,rfl⟩;refine⟨pB c9,[.box 117 [pK c,pI a1,pB T],.box 47 [pI d,pP s,pE w,pI x,pS y,pI z,pB A,pI C,pS D,pV e,pT f,pT g,pE i,pS j,pA k,pB l,pO m,pE o,pE q,.tsl 5 (qv.rows (a++[qv.mk b E F (qd.mk G H (Val.mk I J K L M N) O P)])),pT t,pB u],zq3,.box 110 [pS b,pS E,pS F,pI G,pS H,pI I,pB J,pI K,pS L,pV M,pT N,pT O,pE P],.dead,.tail 110 13 (qv.rows (a++[qv.mk b E F (qd.mk G H (Val.mk I J K L M N) O P)])).length],rfl,rfl,?_⟩;conv=>whnf
  apply ifc h<;>intro Z h
  ·obtain rfl:=sj h
   conv=>whnf
   refine⟨_,_,⟨rfl,rfl⟩,wk [0] []⟩
  conv=>whnf
  exact⟨(a1,T,(a++[qv.mk b E F (qd.mk G H (Val.mk I J K L M N) O P)])),h,wk [0,1,2,5] []⟩
 conv=>whnf
 refine bq h fun⟨d0,d1⟩ c1 h=>?_;refine zz (qf n _ _ _ _ _ c1) [0] [] ?_;rintro _ _ ⟨rfl,rfl⟩;refine⟨pB d0,[.box 117 [pK c,pI d1,pB a0],.box 47 [pI d,pP s,pE w,pI x,pS y,pI z,pB A,pI C,pS D,pV e,pT f,pT g,pE i,pS j,pA k,pB l,pO m,pE o,pE q,.tsl 3 (qv.rows a),pT t,pB u],zq3,.tail 110 13 (qv.rows a).length,.box 110 [pS b,zq1,zq1,zq0,zq1,zq0,pB false,zq0,zq1,zq2,zq2,zq2,zq2]],rfl,rfl,?_⟩;conv=>whnf
 apply ifc h<;>intro Z h
 ·conv=>whnf
  refine bq h fun⟨a2,a3,a4⟩ c2 h=>?_;refine zz (vL n _ _ _ _ c2) [0] [] ?_;rintro _ _ ⟨rfl,rfl⟩;refine⟨pS a2,[.box 117 [pK c,pI a3,pB a4],.box 47 [pI d,pP s,pE w,pI x,pS y,pI z,pB A,pI C,pS D,pV e,pT f,pT g,pE i,pS j,pA k,pB l,pO m,pE o,pE q,.tsl 3 (qv.rows a),pT t,pB u],zq3,.tail 110 13 (qv.rows a).length,.box 110 [pS b,zq1,zq1,zq0,zq1,zq0,pB false,zq0,zq1,zq2,zq2,zq2,zq2]],rfl,rfl,?_⟩;conv=>whnf
  exact⟨(a3,a4,([]:SS),a2,(0:Int),([]:SS),(0:Int),false,(0:Int),([]:SS),([]:List _),([]:List _),([]:List _),([]:List _)),h,wk [0,1,2,4,3] []⟩
 conv=>whnf
 refine bq h fun⟨d2,d3⟩ c3 h=>?_;refine zz (qD n _ _ _ _ _ c3) [0] [] ?_;rintro _ _ ⟨rfl,rfl⟩;refine⟨.p (.tup []),[.box 117 [pK c,pI d2,pB d3],.box 47 [pI d,pP s,pE w,pI x,pS y,pI z,pB A,pI C,pS D,pV e,pT f,pT g,pE i,pS j,pA k,pB l,pO m,pE o,pE q,.tsl 3 (qv.rows a),pT t,pB u],zq3,.tail 110 13 (qv.rows a).length,.box 110 [pS b,zq1,zq1,zq0,zq1,zq0,pB false,zq0,zq1,zq2,zq2,zq2,zq2]],rfl,rfl,?_⟩;conv=>whnf
 refine bq h fun⟨U,a5,a6⟩ c4 h=>?_;refine zz (vL n _ _ _ _ c4) [0] [] ?_;rintro _ _ ⟨rfl,rfl⟩;refine⟨pS U,[.box 117 [pK c,pI a5,pB a6],.box 47 [pI d,pP s,pE w,pI x,pS y,pI z,pB A,pI C,pS D,pV e,pT f,pT g,pE i,pS j,pA k,pB l,pO m,pE o,pE q,.tsl 3 (qv.rows a),pT t,pB u],zq3,.tail 110 13 (qv.rows a).length,.box 110 [pS b,zq1,zq1,zq0,zq1,zq0,pB false,zq0,zq1,zq2,zq2,zq2,zq2]],rfl,rfl,?_⟩;conv=>whnf
 apply ifc h<;>intro Z h
 ·conv=>whnf
  refine bq h fun⟨d4,d5⟩ c5 h=>?_;refine zz (qD n _ _ _ _ _ c5) [0] [] ?_;rintro _ _ ⟨rfl,rfl⟩;refine⟨.p (.tup []),[.box 117 [pK c,pI d4,pB d5],.box 47 [pI d,pP s,pE w,pI x,pS y,pI z,pB A,pI C,pS D,pV e,pT f,pT g,pE i,pS j,pA k,pB l,pO m,pE o,pE q,.tsl 3 (qv.rows a),pT t,pB u],zq3,.tail 110 13 (qv.rows a).length,.box 110 [pS b,pS U,zq1,zq0,zq1,zq0,pB false,zq0,zq1,zq2,zq2,zq2,zq2]],rfl,rfl,?_⟩;conv=>whnf
  refine bq h fun⟨⟨a7,a8,⟨a9,b0,b1,b2,b3,b4⟩,b5,b6⟩,b7,b8⟩ c6 h=>?_;refine zz (ff n _ _ _ _ c6) [0] [] ?_;rintro _ _ ⟨rfl,rfl⟩;refine⟨.p (.agg [.int .i64 a7,.str a8,.int .i64 a9,.bool b0,.int .i64 b1,.str b2,.sl (Val.rows b3),.sl (qi b4),.sl (qi b5),.sl (qd.rows b6)]),[.box 117 [pK c,pI b7,pB b8],.box 47 [pI d,pP s,pE w,pI x,pS y,pI z,pB A,pI C,pS D,pV e,pT f,pT g,pE i,pS j,pA k,pB l,pO m,pE o,pE q,.tsl 3 (qv.rows a),pT t,pB u],zq3,.tail 110 13 (qv.rows a).length,.box 110 [pS b,pS U,zq1,zq0,zq1,zq0,pB false,zq0,zq1,zq2,zq2,zq2,zq2]],rfl,rfl,?_⟩;conv=>whnf
  exact⟨(b7,b8,U,([]:SS),a7,a8,a9,b0,b1,b2,b3,b4,b5,b6),h,wk [0,1,2,4,3] []⟩
 conv=>whnf
 exact⟨(a5,a6,U,([]:SS),(0:Int),([]:SS),(0:Int),false,(0:Int),([]:SS),([]:List _),([]:List _),([]:List _),([]:List _)),h,wk [0,1,2,4,3] []⟩
end W
end
section
set_option maxRecDepth 100000
set_option maxHeartbeats 20000000
open Go Go.Proofs Ax
namespace W
abbrev UK (_:List qo) (_:Int) (_:Bool) (r:qy×Int×Bool):FV:=.p ((PV.agg (ub.cells r.1)))
abbrev UA (a:List qo) (_:Int) (_:Bool) (r:qy×Int×Bool):List AObj:=[.box 117 [pK a,.p (.int .i64 r.2.1),.p (.bool r.2.2)]]
def zR (n:Nat):Int×Bool×Int×List zU×List qd×Int×SS×Int×Bool×Int×SS×List Val×List SS×List SS×List qd×SS×List xj×Bool×List zy×List qd×List qd×List qv×List SS×Bool->Option (qy×Int×Bool):=fun(v,w,x,y,z,A,a,b,c,d,e,f,g,i,j,k,l,m,o,p,q,s,t,u)=>
 some (qy.mk x y z (qd.mk A a (Val.mk b c d e f g) i j) k l m o p q s t u,v,w)
def dR (n:Nat) (d:List qo) (g:Bool):LK (Int×Bool×List SS) (qy×Int×Bool):=fun f (i,j,a)=>
 bnd (vM n d i j) fun⟨b,k,c⟩=>
 chk (decide ((qi (a++[b])).length * 16<=140737488355328)) (
 bnd (qt n ([44]:SS) d k c) fun⟨l,e⟩=>
 bif(!l)then(
 some (qy.mk (8:Int) ([]:List zU) ([]:List qd) (qd.mk (0:Int) ([]:SS) (Val.mk (0:Int) false (0:Int) ([]:SS) ([]:List Val) ([]:List SS)) ([]:List SS) ([]:List qd)) ([]:SS) ([]:List xj) false ([]:List zy) ([]:List qd) ([]:List qd) ([]:List qv) (a++[b]) g,e,c))
 else(
 f (e,c,(a++[b]))))
def dS (n:Nat) (d:List qo) (g:Bool):LK (Int×Bool×List SS) (qy×Int×Bool):=fun f (i,j,a)=>
 bnd (vM n d i j) fun⟨b,k,c⟩=>
 chk (decide ((qi (a++[b])).length * 16<=140737488355328)) (
 bnd (qt n ([44]:SS) d k c) fun⟨l,e⟩=>
 bif(!l)then(
 some (qy.mk (8:Int) ([]:List zU) ([]:List qd) (qd.mk (0:Int) ([]:SS) (Val.mk (0:Int) false (0:Int) ([]:SS) ([]:List Val) ([]:List SS)) ([]:List SS) ([]:List qd)) ([]:SS) ([]:List xj) false ([]:List zy) ([]:List qd) ([]:List qd) ([]:List qv) (a++[b]) g,e,c))
 else(
 f (e,c,(a++[b]))))
def rF (n:Nat) (a:List qo) (e2:Int) (b:Bool):Option (qy×Int×Bool):=
 bnd (qt n ([77,65,84,67,72]:SS) a e2 b) fun⟨e3,i⟩=>
 bif e3 then(
 bnd (mK n a i b) fun⟨e4,e5,e6⟩=>
 bnd (gF n ([87,72,69,82,69]:SS) a e5 e6) fun⟨e7,e8,e9⟩=>
 zR n (e8,e9,(1:Int),e4,e7,(0:Int),([]:SS),(0:Int),false,(0:Int),([]:SS),([]:List _),([]:List _),([]:List _),([]:List _),([]:SS),([]:List _),false,([]:List _),([]:List _),([]:List _),([]:List _),([]:List _),false))
 else(
 bnd (qt n ([85,78,87,73,78,68]:SS) a i b) fun⟨f0,j⟩=>
 bif f0 then(
 bnd (qJ n a j b) fun⟨⟨f1,f2,⟨f3,f4,f5,f6,f7,f8⟩,f9,g0⟩,g1,g2⟩=>
 bnd (qQ n ([65,83]:SS) a g1 g2) fun⟨g3,g4⟩=>
 bnd (vM n a g3 g4) fun⟨g5,g6,g7⟩=>
 zR n (g6,g7,(2:Int),([]:List _),([]:List _),f1,f2,f3,f4,f5,f6,f7,f8,f9,g0,g5,([]:List _),false,([]:List _),([]:List _),([]:List _),([]:List _),([]:List _),false))
 else(
 bnd (qt n ([87,73,84,72]:SS) a j b) fun⟨g8,k⟩=>
 bif g8 then(
 bnd (pf n (3:Int) ([]:List zU) ([]:List qd) (0:Int) ([]:SS) (0:Int) false (0:Int) ([]:SS) ([]:List Val) ([]:List SS) ([]:List SS) ([]:List qd) ([]:SS) false ([]:List qd) ([]:List qd) ([]:List qv) ([]:List SS) false a k b) fun⟨⟨g9,i0,_,⟨i1,i2,⟨i3,i4,i5,i6,i7,i8⟩,i9,j0⟩,j1,j2,j3,j4,j5,j6,j7,j8,j9⟩,k0,k1⟩=>
 bnd (gF n ([87,72,69,82,69]:SS) a k0 k1) fun⟨k2,k3,k4⟩=>
 zR n (k3,k4,g9,i0,k2,i1,i2,i3,i4,i5,i6,i7,i8,i9,j0,j1,j2,j3,j4,j5,j6,j7,j8,j9))
 else(
 bnd (qt n ([82,69,84,85,82,78]:SS) a k b) fun⟨k5,l⟩=>
 bif k5 then(
 bnd (pf n (9:Int) ([]:List zU) ([]:List qd) (0:Int) ([]:SS) (0:Int) false (0:Int) ([]:SS) ([]:List Val) ([]:List SS) ([]:List SS) ([]:List qd) ([]:SS) false ([]:List qd) ([]:List qd) ([]:List qv) ([]:List SS) false a l b) fun⟨⟨k6,k7,k8,⟨k9,l0,⟨l1,l2,l3,l4,l5,l6⟩,l7,l8⟩,l9,m,o,p,q,s,t,u,v⟩,w,x⟩=>
 zR n (w,x,k6,k7,k8,k9,l0,l1,l2,l3,l4,l5,l6,l7,l8,l9,m,o,p,q,s,t,u,v))
 else(
 bnd (qt n ([67,82,69,65,84,69]:SS) a l b) fun⟨y,e⟩=>
 bif y then(
 bnd (mK n a e b) fun⟨z,A,B⟩=>
 zR n (A,B,(4:Int),z,([]:List _),(0:Int),([]:SS),(0:Int),false,(0:Int),([]:SS),([]:List _),([]:List _),([]:List _),([]:List _),([]:SS),([]:List _),false,([]:List _),([]:List _),([]:List _),([]:List _),([]:List _),false))
 else(
 bnd (qt n ([77,69,82,71,69]:SS) a e b) fun⟨C,f⟩=>
 bif C then(
 bnd (cJ n a f b) fun⟨⟨D,E,F,G⟩,H,I⟩=>
 zR n (H,I,(5:Int),[zU.mk [qe.mk D E F G] ([]:List qg)],([]:List _),(0:Int),([]:SS),(0:Int),false,(0:Int),([]:SS),([]:List _),([]:List _),([]:List _),([]:List _),([]:SS),([]:List _),false,([]:List _),([]:List _),([]:List _),([]:List _),([]:List _),false))
 else(
 bnd (qt n ([83,69,84]:SS) a f b) fun⟨J,g⟩=>
 bif J then(
 bnd (pg n (6:Int) ([]:List zU) ([]:List qd) (0:Int) ([]:SS) (0:Int) false (0:Int) ([]:SS) ([]:List Val) ([]:List SS) ([]:List SS) ([]:List qd) ([]:SS) ([]:List xj) false ([]:List zy) ([]:List qd) ([]:List qd) ([]:List SS) false a g b) fun⟨⟨K,L,M,⟨N,O,⟨P,Q,R,S,T,U⟩,V,W⟩,X,Y,Z,a0,a1,a2,a3,a4,a5⟩,a6,a7⟩=>
 some (qy.mk K L M (qd.mk N O (Val.mk P Q R S T U) V W) X Y Z a0 a1 a2 a3 a4 a5,a6,a7))
 else(
 bnd (qt n ([82,69,77,79,86,69]:SS) a g b) fun⟨a8,c⟩=>
 bif a8 then(
 bnd (pg n (7:Int) ([]:List zU) ([]:List qd) (0:Int) ([]:SS) (0:Int) false (0:Int) ([]:SS) ([]:List Val) ([]:List SS) ([]:List SS) ([]:List qd) ([]:SS) ([]:List xj) false ([]:List zy) ([]:List qd) ([]:List qd) ([]:List SS) false a c b) fun⟨⟨a9,b0,b1,⟨b2,b3,⟨b4,b5,b6,b7,b8,b9⟩,c0,c1⟩,c2,c3,c4,c5,c6,c7,c8,c9,d0⟩,d1,d2⟩=>
 some (qy.mk a9 b0 b1 (qd.mk b2 b3 (Val.mk b4 b5 b6 b7 b8 b9) c0 c1) c2 c3 c4 c5 c6 c7 c8 c9 d0,d1,d2))
 else(
 bnd (xz n ([68,69,84,65,67,72]:SS) a c b) fun d=>
 bif(!d)then(
 bnd (xz n ([68,69,76,69,84,69]:SS) a c b) fun d3=>
 bif(bif d then true else d3)then(
 bnd (qt n ([68,69,84,65,67,72]:SS) a c b) fun⟨d4,d5⟩=>
 bnd (qQ n ([68,69,76,69,84,69]:SS) a d5 b) fun⟨d6,d7⟩=>
 qC (dR n a d4) n (d6,d7,([]:List _)))
 else(
 zR n (c,true,(0:Int),([]:List _),([]:List _),(0:Int),([]:SS),(0:Int),false,(0:Int),([]:SS),([]:List _),([]:List _),([]:List _),([]:List _),([]:SS),([]:List _),false,([]:List _),([]:List _),([]:List _),([]:List _),([]:List _),false)))
 else(
 bif(bif d then true else false)then(
 bnd (qt n ([68,69,84,65,67,72]:SS) a c b) fun⟨d8,d9⟩=>
 bnd (qQ n ([68,69,76,69,84,69]:SS) a d9 b) fun⟨e0,e1⟩=>
 qC (dS n a d8) n (e0,e1,([]:List _)))
 else(
 zR n (c,true,(0:Int),([]:List _),([]:List _),(0:Int),([]:SS),(0:Int),false,(0:Int),([]:SS),([]:List _),([]:List _),([]:List _),([]:List _),([]:SS),([]:List _),false,([]:List _),([]:List _),([]:List _),([]:List _),([]:List _),false)))))))))))
theorem Vl (n:Nat):∀ (a:List qo) (s:Int) (b:Bool) (r:qy×Int×Bool),rF n a s b=some r->qS TP 45 [.ptr 0 0] [.box 117 [pK a,pI s,pB b]] 1 (fun v lo=>v=UK a s b r/\lo=UA a s b r):=by
 intro a s b r h;unfold rF at h;refine zO Tryz.call45 Tryz.func45 [85,86,87,88,89,90,91,92,93,94,1000000] ?_;conv=>whnf
 refine gW.cut (S:=Int×Bool×Int×List zU×List qd×Int×SS×Int×Bool×Int×SS×List Val×List SS×List SS×List qd×SS×List xj×Bool×List zy×List qd×List qd×List qv×List SS×Bool) (fun(a6,a7,b0,c1,d1,d2,G,H,I,J,K,L,M,N,O,T,X,Y,Z,a0,a1,a2,a3,a4)=>[(2,.ptr 1 0),(3,.ptr 2 0)]) (fun(a6,a7,b0,c1,d1,d2,G,H,I,J,K,L,M,N,O,T,X,Y,Z,a0,a1,a2,a3,a4)=>[.box 117 [pK a,pI a6,pB a7],zq3,.box 47 [pI b0,pP c1,pE d1,pI d2,pS G,pI H,pB I,pI J,pS K,pV L,pT M,pT N,pE O,pS T,pA X,pB Y,pO Z,pE a0,pE a1,pU a2,pT a3,pB a4]]) (zR n) (r:=r) ?_ ?_
 ·intro st h
  obtain⟨a6,a7,b0,c1,d1,d2,G,H,I,J,K,L,M,N,O,T,X,Y,Z,a0,a1,a2,a3,a4⟩:=st;unfold zR at h;obtain rfl:=sj h;conv=>whnf
  refine⟨_,_,⟨rfl,rfl⟩,wk [0] []⟩
 conv=>whnf
 refine bq h fun⟨s3,s4⟩ i6 h=>?_;refine zz (qf n _ _ _ _ _ i6) [0] [] ?_;rintro _ _ ⟨rfl,rfl⟩;refine⟨pB s3,[.box 117 [pK a,pI s4,pB b],zq3,zq3],rfl,rfl,?_⟩;conv=>whnf
 apply ifc h<;>intro e h
 ·conv=>whnf
  refine bq h fun⟨a5,s5,s6⟩ j7 h=>?_;refine zz (tS n _ _ _ _ j7) [0] [] ?_;rintro _ _ ⟨rfl,rfl⟩;refine⟨pP a5,[.box 117 [pK a,pI s5,pB s6],zq3,.box 47 [.p (.int .i64 (1:Int)),zq2,zq2,zq0,zq1,zq0,pB false,zq0,zq1,zq2,zq2,zq2,zq2,zq1,zq2,pB false,zq2,zq2,zq2,zq2,zq2,pB false]],rfl,rfl,?_⟩;conv=>whnf
  refine bq h fun⟨f2,f3,f4⟩ k7 h=>?_;refine zz (fE n _ _ _ _ _ k7) [0] [] ?_;rintro _ _ ⟨rfl,rfl⟩;refine⟨pE f2,[.box 117 [pK a,pI f3,pB f4],zq3,.box 47 [.p (.int .i64 (1:Int)),pP a5,zq2,zq0,zq1,zq0,pB false,zq0,zq1,zq2,zq2,zq2,zq2,zq1,zq2,pB false,zq2,zq2,zq2,zq2,zq2,pB false]],rfl,rfl,?_⟩;conv=>whnf
  exact⟨(f3,f4,(1:Int),a5,f2,(0:Int),([]:SS),(0:Int),false,(0:Int),([]:SS),([]:List _),([]:List _),([]:List _),([]:List _),([]:SS),([]:List _),false,([]:List _),([]:List _),([]:List _),([]:List _),([]:List _),false),h,wk [0,1,2] []⟩
 conv=>whnf
 refine bq h fun⟨s7,s8⟩ l0 h=>?_;refine zz (qf n _ _ _ _ _ l0) [0] [] ?_;rintro _ _ ⟨rfl,rfl⟩;refine⟨pB s7,[.box 117 [pK a,pI s8,pB b],zq3,zq3],rfl,rfl,?_⟩;conv=>whnf
 apply ifc h<;>intro e h
 ·conv=>whnf
  refine bq h fun⟨⟨t,u,⟨w,x,y,z,A,C⟩,D,E⟩,s9,t0⟩ l1 h=>?_;refine zz (ff n _ _ _ _ l1) [0] [] ?_;rintro _ _ ⟨rfl,rfl⟩;refine⟨.p (.agg [.int .i64 t,.str u,.int .i64 w,.bool x,.int .i64 y,.str z,.sl (Val.rows A),.sl (qi C),.sl (qi D),.sl (qd.rows E)]),[.box 117 [pK a,pI s9,pB t0],zq3,.box 47 [.p (.int .i64 (2:Int)),zq2,zq2,zq0,zq1,zq0,pB false,zq0,zq1,zq2,zq2,zq2,zq2,zq1,zq2,pB false,zq2,zq2,zq2,zq2,zq2,pB false]],rfl,rfl,?_⟩;conv=>whnf
  refine bq h fun⟨t1,t2⟩ l2 h=>?_;refine zz (qD n _ _ _ _ _ l2) [0] [] ?_;rintro _ _ ⟨rfl,rfl⟩;refine⟨.p (.tup []),[.box 117 [pK a,pI t1,pB t2],zq3,.box 47 [.p (.int .i64 (2:Int)),zq2,zq2,pI t,pS u,pI w,pB x,pI y,pS z,pV A,pT C,pT D,pE E,zq1,zq2,pB false,zq2,zq2,zq2,zq2,zq2,pB false]],rfl,rfl,?_⟩;conv=>whnf
  refine bq h fun⟨f5,f6,f7⟩ l3 h=>?_;refine zz (vu n _ _ _ _ l3) [0] [] ?_;rintro _ _ ⟨rfl,rfl⟩;refine⟨pS f5,[.box 117 [pK a,pI f6,pB f7],zq3,.box 47 [.p (.int .i64 (2:Int)),zq2,zq2,pI t,pS u,pI w,pB x,pI y,pS z,pV A,pT C,pT D,pE E,zq1,zq2,pB false,zq2,zq2,zq2,zq2,zq2,pB false]],rfl,rfl,?_⟩;conv=>whnf
  exact⟨(f6,f7,(2:Int),([]:List _),([]:List _),t,u,w,x,y,z,A,C,D,E,f5,([]:List _),false,([]:List _),([]:List _),([]:List _),([]:List _),([]:List _),false),h,wk [0,1,2] []⟩
 conv=>whnf
 refine bq h fun⟨t3,t4⟩ l4 h=>?_;refine zz (qf n _ _ _ _ _ l4) [0] [] ?_;rintro _ _ ⟨rfl,rfl⟩;refine⟨pB t3,[.box 117 [pK a,pI t4,pB b],zq3,zq3],rfl,rfl,?_⟩;conv=>whnf
 apply ifc h<;>intro e h
 ·conv=>whnf
  refine bq h fun⟨⟨a8,a9,f8,⟨b1,b2,⟨b3,b4,b5,b6,b7,b8⟩,b9,c0⟩,c2,c3,c4,c5,c6,c7,c8,c9,d0⟩,t5,t6⟩ l5 h=>?_;refine zz (Qt n _ _ _ _ _ _ _ _ _ _ _ _ _ _ _ _ _ _ _ _ _ _ _ _ l5) [0] [] ?_;rintro _ _ ⟨rfl,rfl⟩;refine⟨.p (.agg [.int .i64 a8,.sl (zU.rows a9),.sl (qd.rows f8),.int .i64 b1,.str b2,.int .i64 b3,.bool b4,.int .i64 b5,.str b6,.sl (Val.rows b7),.sl (qi b8),.sl (qi b9),.sl (qd.rows c0),.str c2,.sl (xj.rows c3),.bool c4,.sl (zy.rows c5),.sl (qd.rows c6),.sl (qd.rows c7),.sl (qv.rows c8),.sl (qi c9),.bool d0]),[.box 117 [pK a,pI t5,pB t6],zq3,.box 47 [.p (.int .i64 (3:Int)),zq2,zq2,zq0,zq1,zq0,pB false,zq0,zq1,zq2,zq2,zq2,zq2,zq1,zq2,pB false,zq2,zq2,zq2,zq2,zq2,pB false]],rfl,rfl,?_⟩;conv=>whnf
  refine bq h fun⟨f9,g0,g1⟩ i7 h=>?_;refine zz (fE n _ _ _ _ _ i7) [0] [] ?_;rintro _ _ ⟨rfl,rfl⟩;refine⟨pE f9,[.box 117 [pK a,pI g0,pB g1],zq3,.box 47 [pI a8,pP a9,pE f8,pI b1,pS b2,pI b3,pB b4,pI b5,pS b6,pV b7,pT b8,pT b9,pE c0,pS c2,pA c3,pB c4,pO c5,pE c6,pE c7,pU c8,pT c9,pB d0]],rfl,rfl,?_⟩;conv=>whnf
  exact⟨(g0,g1,a8,a9,f9,b1,b2,b3,b4,b5,b6,b7,b8,b9,c0,c2,c3,c4,c5,c6,c7,c8,c9,d0),h,wk [0,1,2] []⟩
 conv=>whnf
 refine bq h fun⟨t7,t8⟩ i8 h=>?_;refine zz (qf n _ _ _ _ _ i8) [0] [] ?_;rintro _ _ ⟨rfl,rfl⟩;refine⟨pB t7,[.box 117 [pK a,pI t8,pB b],zq3,zq3],rfl,rfl,?_⟩;conv=>whnf
 apply ifc h<;>intro e h
 ·conv=>whnf
  refine bq h fun⟨⟨g2,g3,g4,⟨g5,g6,⟨g7,g8,g9,i0,i1,i2⟩,i3,i4⟩,i5,d5,d6,d7,d8,d9,e0,e1,e2⟩,e3,e4⟩ i9 h=>?_;refine zz (Qt n _ _ _ _ _ _ _ _ _ _ _ _ _ _ _ _ _ _ _ _ _ _ _ _ i9) [0] [] ?_;rintro _ _ ⟨rfl,rfl⟩;refine⟨.p (.agg [.int .i64 g2,.sl (zU.rows g3),.sl (qd.rows g4),.int .i64 g5,.str g6,.int .i64 g7,.bool g8,.int .i64 g9,.str i0,.sl (Val.rows i1),.sl (qi i2),.sl (qi i3),.sl (qd.rows i4),.str i5,.sl (xj.rows d5),.bool d6,.sl (zy.rows d7),.sl (qd.rows d8),.sl (qd.rows d9),.sl (qv.rows e0),.sl (qi e1),.bool e2]),[.box 117 [pK a,pI e3,pB e4],zq3,.box 47 [.p (.int .i64 (9:Int)),zq2,zq2,zq0,zq1,zq0,pB false,zq0,zq1,zq2,zq2,zq2,zq2,zq1,zq2,pB false,zq2,zq2,zq2,zq2,zq2,pB false]],rfl,rfl,?_⟩;conv=>whnf
  exact⟨(e3,e4,g2,g3,g4,g5,g6,g7,g8,g9,i0,i1,i2,i3,i4,i5,d5,d6,d7,d8,d9,e0,e1,e2),h,wk [0,1,2] []⟩
 conv=>whnf
 refine bq h fun⟨l6,l7⟩ j0 h=>?_;refine zz (qf n _ _ _ _ _ j0) [0] [] ?_;rintro _ _ ⟨rfl,rfl⟩;refine⟨pB l6,[.box 117 [pK a,pI l7,pB b],zq3,zq3],rfl,rfl,?_⟩;conv=>whnf
 apply ifc h<;>intro e h
 ·conv=>whnf
  refine bq h fun⟨e5,e6,e7⟩ j1 h=>?_;refine zz (tS n _ _ _ _ j1) [0] [] ?_;rintro _ _ ⟨rfl,rfl⟩;refine⟨pP e5,[.box 117 [pK a,pI e6,pB e7],zq3,.box 47 [.p (.int .i64 (4:Int)),zq2,zq2,zq0,zq1,zq0,pB false,zq0,zq1,zq2,zq2,zq2,zq2,zq1,zq2,pB false,zq2,zq2,zq2,zq2,zq2,pB false]],rfl,rfl,?_⟩;conv=>whnf
  exact⟨(e6,e7,(4:Int),e5,([]:List _),(0:Int),([]:SS),(0:Int),false,(0:Int),([]:SS),([]:List _),([]:List _),([]:List _),([]:List _),([]:SS),([]:List _),false,([]:List _),([]:List _),([]:List _),([]:List _),([]:List _),false),h,wk [0,1,2] []⟩
 conv=>whnf
 refine bq h fun⟨l8,l9⟩ j2 h=>?_;refine zz (qf n _ _ _ _ _ j2) [0] [] ?_;rintro _ _ ⟨rfl,rfl⟩;refine⟨pB l8,[.box 117 [pK a,pI l9,pB b],zq3,zq3],rfl,rfl,?_⟩;conv=>whnf
 apply ifc h<;>intro e h
 ·conv=>whnf
  refine bq h fun⟨⟨k,l,m,o⟩,e8,e9⟩ j3 h=>?_;refine zz (dd n _ _ _ _ j3) [0] [] ?_;rintro _ _ ⟨rfl,rfl⟩;refine⟨.p (.agg [.str k,.sl (qi l),.sl (qi m),.sl (qd.rows o)]),[.box 117 [pK a,pI e8,pB e9],zq3,.box 47 [.p (.int .i64 (5:Int)),zq2,zq2,zq0,zq1,zq0,pB false,zq0,zq1,zq2,zq2,zq2,zq2,zq1,zq2,pB false,zq2,zq2,zq2,zq2,zq2,pB false]],rfl,rfl,?_⟩;conv=>whnf
  refine⟨Codec.one ua [qe.mk k l m o],qe.rows [qe.mk k l m o],.inl rfl,?_⟩;conv=>whnf
  refine⟨by repeat (first|exact List.forall_mem_nil _|refine List.forall_mem_cons.2 ⟨⟨rfl,rfl⟩,?_⟩),zU.rows [zU.mk [qe.mk k l m o] ([]:List qg)],.inr (by try exact oX),?_⟩;conv=>whnf
  exact⟨(e8,e9,(5:Int),[zU.mk [qe.mk k l m o] ([]:List qg)],([]:List _),(0:Int),([]:SS),(0:Int),false,(0:Int),([]:SS),([]:List _),([]:List _),([]:List _),([]:List _),([]:SS),([]:List _),false,([]:List _),([]:List _),([]:List _),([]:List _),([]:List _),false),h,wk [0,1,2] []⟩
 conv=>whnf
 refine bq h fun⟨m0,m1⟩ j4 h=>?_;refine zz (qf n _ _ _ _ _ j4) [0] [] ?_;rintro _ _ ⟨rfl,rfl⟩;refine⟨pB m0,[.box 117 [pK a,pI m1,pB b],zq3,zq3],rfl,rfl,?_⟩;conv=>whnf
 apply ifc h<;>intro e h
 ·conv=>whnf
  refine bq h fun⟨⟨m2,m3,m4,⟨m5,m6,⟨m7,m8,m9,n0,n1,n2⟩,n3,n4⟩,n5,n6,n7,n8,n9,o0,o1,o2,o3⟩,o4,o5⟩ j5 h=>?_;refine zz (Qu n _ _ _ _ _ _ _ _ _ _ _ _ _ _ _ _ _ _ _ _ _ _ _ _ _ j5) [0] [] ?_;rintro _ _ ⟨rfl,rfl⟩;refine⟨.p (.agg [.int .i64 m2,.sl (zU.rows m3),.sl (qd.rows m4),.int .i64 m5,.str m6,.int .i64 m7,.bool m8,.int .i64 m9,.str n0,.sl (Val.rows n1),.sl (qi n2),.sl (qi n3),.sl (qd.rows n4),.str n5,.sl (xj.rows n6),.bool n7,.sl (zy.rows n8),.sl (qd.rows n9),.sl (qd.rows o0),.sl (qv.rows o1),.sl (qi o2),.bool o3]),[.box 117 [pK a,pI o4,pB o5],zq3,.box 47 [.p (.int .i64 (6:Int)),zq2,zq2,zq0,zq1,zq0,pB false,zq0,zq1,zq2,zq2,zq2,zq2,zq1,zq2,pB false,zq2,zq2,zq2,zq2,zq2,pB false]],rfl,rfl,?_⟩;obtain rfl:=sj h;conv=>whnf
  refine⟨_,_,⟨rfl,rfl⟩,wk [0] []⟩
 conv=>whnf
 refine bq h fun⟨o6,q⟩ j6 h=>?_;refine zz (qf n _ _ _ _ _ j6) [0] [] ?_;rintro _ _ ⟨rfl,rfl⟩;refine⟨pB o6,[.box 117 [pK a,pI q,pB b],zq3,zq3],rfl,rfl,?_⟩;conv=>whnf
 apply ifc h<;>intro e h
 ·conv=>whnf
  refine bq h fun⟨⟨o7,o8,o9,⟨p0,p1,⟨p2,p3,p4,p5,p6,p7⟩,p8,p9⟩,q0,q1,q2,q3,q4,q5,q6,q7,q8⟩,q9,r0⟩ j8 h=>?_;refine zz (Qu n _ _ _ _ _ _ _ _ _ _ _ _ _ _ _ _ _ _ _ _ _ _ _ _ _ j8) [0] [] ?_;rintro _ _ ⟨rfl,rfl⟩;refine⟨.p (.agg [.int .i64 o7,.sl (zU.rows o8),.sl (qd.rows o9),.int .i64 p0,.str p1,.int .i64 p2,.bool p3,.int .i64 p4,.str p5,.sl (Val.rows p6),.sl (qi p7),.sl (qi p8),.sl (qd.rows p9),.str q0,.sl (xj.rows q1),.bool q2,.sl (zy.rows q3),.sl (qd.rows q4),.sl (qd.rows q5),.sl (qv.rows q6),.sl (qi q7),.bool q8]),[.box 117 [pK a,pI q9,pB r0],zq3,.box 47 [.p (.int .i64 (7:Int)),zq2,zq2,zq0,zq1,zq0,pB false,zq0,zq1,zq2,zq2,zq2,zq2,zq1,zq2,pB false,zq2,zq2,zq2,zq2,zq2,pB false]],rfl,rfl,?_⟩;obtain rfl:=sj h;conv=>whnf
  refine⟨_,_,⟨rfl,rfl⟩,wk [0] []⟩
 conv=>whnf
 refine bq h fun r1 j9 h=>?_;refine zz (zH n _ _ _ _ _ j9) [0] [] ?_;rintro _ _ ⟨rfl,rfl⟩;refine⟨pB r1,[.box 117 [pK a,pI q,pB b],zq3,zq3],rfl,rfl,?_⟩;conv=>whnf
 refine⟨fun F=>?_,fun F=>?_⟩
 ·replace h:=uA h F
  conv=>whnf
  refine⟨id,?_⟩;conv=>whnf
  refine bq h fun r2 k0 h=>?_;refine zz (zH n _ _ _ _ _ k0) [0] [] ?_;rintro _ _ ⟨rfl,rfl⟩;refine⟨pB r2,[.box 117 [pK a,pI q,pB b],zq3,zq3],rfl,rfl,?_⟩;conv=>whnf
  refine⟨id,?_⟩;conv=>whnf
  apply ifc h<;>intro e h
  ·conv=>whnf
   refine bq h fun⟨i,r3⟩ k1 h=>?_;refine zz (qf n _ _ _ _ _ k1) [0] [] ?_;rintro _ _ ⟨rfl,rfl⟩;refine⟨pB i,[.box 117 [pK a,pI r3,pB b],zq3,zq9],rfl,rfl,?_⟩;conv=>whnf
   refine bq h fun⟨r4,r5⟩ k2 h=>?_;refine zz (qD n _ _ _ _ _ k2) [0] [] ?_;rintro _ _ ⟨rfl,rfl⟩;refine⟨.p (.tup []),[.box 117 [pK a,pI r4,pB r5],zq3,.box 47 [.p (.int .i64 (8:Int)),zq2,zq2,zq0,zq1,zq0,pB false,zq0,zq1,zq2,zq2,zq2,zq2,zq1,zq2,pB false,zq2,zq2,zq2,zq2,zq2,pB i]],rfl,rfl,?_⟩;conv=>whnf
   refine qP.fn [85,86,87,88,89,90,91,92,93,94,1000000] (S:=Int×Bool×List SS) (fun(P,Q,c)=>[(0,.ptr 0 0),(2,.ptr 1 0),(3,.ptr 2 0)]) (fun(P,Q,c)=>[.box 117 [pK a,pI P,pB Q],zq3,.box 47 [.p (.int .i64 (8:Int)),zq2,zq2,zq0,zq1,zq0,pB false,zq0,zq1,zq2,zq2,zq2,zq2,zq1,zq2,pB false,zq2,zq2,zq2,zq2,.tsl 3 (qi c),pB i],.tail 9 1 (qi c).length]) (B:=dR n a i) h (wk [0,1,2,0] [3]) ?_;intro _ st h;obtain⟨P,Q,c⟩:=st;unfold dR at h;conv=>whnf
   refine bq h fun⟨f,r6,R⟩ k3 h=>?_;refine zz (vu n _ _ _ _ k3) [0] [] ?_;rintro _ _ ⟨rfl,rfl⟩;refine⟨pS f,[.box 117 [pK a,pI r6,pB R],zq3,.box 47 [.p (.int .i64 (8:Int)),zq2,zq2,zq0,zq1,zq0,pB false,zq0,zq1,zq2,zq2,zq2,zq2,zq1,zq2,pB false,zq2,zq2,zq2,zq2,.tsl 3 (qi c),pB i],.tail 9 1 (qi c).length],rfl,rfl,?_⟩;conv=>whnf
   refine⟨Codec.one cV [f],qi [f],.inl rfl,?_⟩;conv=>whnf
   rw[show qi c++qi [f]=qi (c++[f])from Codec.append cV c [f]];conv=>whnf
   obtain⟨d3,h⟩:=qb h;refine⟨⟨Codec.wide cV (c++[f]),kod d3,qO d3 (by decide)⟩,?_⟩;conv=>whnf
   refine⟨⟨rfl,rfl,rfl⟩,?_⟩;conv=>whnf
   refine bq h fun⟨r7,f0⟩ k4 h=>?_;refine zz (qf n _ _ _ _ _ k4) [0] [] ?_;rintro _ _ ⟨rfl,rfl⟩;refine⟨pB r7,[.box 117 [pK a,pI f0,pB R],zq3,.box 47 [.p (.int .i64 (8:Int)),zq2,zq2,zq0,zq1,zq0,pB false,zq0,zq1,zq2,zq2,zq2,zq2,zq1,zq2,pB false,zq2,zq2,zq2,zq2,.tsl 4 (qi (c++[f])),pB i],.dead,.tail 9 1 (qi (c++[f])).length],rfl,rfl,?_⟩;conv=>whnf
   apply ifc h<;>intro e h
   ·obtain rfl:=sj h
    (conv=>whnf);refine⟨_,_,⟨rfl,rfl⟩,wk [0] []⟩
   conv=>whnf
   exact⟨(f0,R,(c++[f])),h,wk [0,1,2,4] []⟩
  conv=>whnf
  exact⟨(q,true,(0:Int),([]:List _),([]:List _),(0:Int),([]:SS),(0:Int),false,(0:Int),([]:SS),([]:List _),([]:List _),([]:List _),([]:List _),([]:SS),([]:List _),false,([]:List _),([]:List _),([]:List _),([]:List _),([]:List _),false),h,wk [0,1,2] []⟩
 replace h:=uz h F;refine⟨pB false,?_⟩;conv=>whnf
 refine⟨id,?_⟩;conv=>whnf
 apply ifc h<;>intro e h
 ·conv=>whnf
  refine bq h fun⟨j,r8⟩ k5 h=>?_;refine zz (qf n _ _ _ _ _ k5) [0] [] ?_;rintro _ _ ⟨rfl,rfl⟩;refine⟨pB j,[.box 117 [pK a,pI r8,pB b],zq3,zq9],rfl,rfl,?_⟩;conv=>whnf
  refine bq h fun⟨r9,s0⟩ k6 h=>?_;refine zz (qD n _ _ _ _ _ k6) [0] [] ?_;rintro _ _ ⟨rfl,rfl⟩;refine⟨.p (.tup []),[.box 117 [pK a,pI r9,pB s0],zq3,.box 47 [.p (.int .i64 (8:Int)),zq2,zq2,zq0,zq1,zq0,pB false,zq0,zq1,zq2,zq2,zq2,zq2,zq1,zq2,pB false,zq2,zq2,zq2,zq2,zq2,pB j]],rfl,rfl,?_⟩;conv=>whnf
  refine qP.fn [85,86,87,88,89,90,91,92,93,94,1000000] (S:=Int×Bool×List SS) (fun(U,V,d)=>[(0,.ptr 0 0),(2,.ptr 1 0),(3,.ptr 2 0)]) (fun(U,V,d)=>[.box 117 [pK a,pI U,pB V],zq3,.box 47 [.p (.int .i64 (8:Int)),zq2,zq2,zq0,zq1,zq0,pB false,zq0,zq1,zq2,zq2,zq2,zq2,zq1,zq2,pB false,zq2,zq2,zq2,zq2,.tsl 3 (qi d),pB j],.tail 9 1 (qi d).length]) (B:=dS n a j) h (wk [0,1,2,0] [3]) ?_;intro _ st h;obtain⟨U,V,d⟩:=st;unfold dS at h;conv=>whnf
  refine bq h fun⟨g,s1,W⟩ k8 h=>?_;refine zz (vu n _ _ _ _ k8) [0] [] ?_;rintro _ _ ⟨rfl,rfl⟩;refine⟨pS g,[.box 117 [pK a,pI s1,pB W],zq3,.box 47 [.p (.int .i64 (8:Int)),zq2,zq2,zq0,zq1,zq0,pB false,zq0,zq1,zq2,zq2,zq2,zq2,zq1,zq2,pB false,zq2,zq2,zq2,zq2,.tsl 3 (qi d),pB j],.tail 9 1 (qi d).length],rfl,rfl,?_⟩;conv=>whnf
  refine⟨Codec.one cV [g],qi [g],.inl rfl,?_⟩;conv=>whnf
  rw[show qi d++qi [g]=qi (d++[g])from Codec.append cV d [g]];conv=>whnf
  obtain⟨d4,h⟩:=qb h;refine⟨⟨Codec.wide cV (d++[g]),kod d4,qO d4 (by decide)⟩,?_⟩;conv=>whnf
  refine⟨⟨rfl,rfl,rfl⟩,?_⟩;conv=>whnf
  refine bq h fun⟨s2,f1⟩ k9 h=>?_;refine zz (qf n _ _ _ _ _ k9) [0] [] ?_;rintro _ _ ⟨rfl,rfl⟩;refine⟨pB s2,[.box 117 [pK a,pI f1,pB W],zq3,.box 47 [.p (.int .i64 (8:Int)),zq2,zq2,zq0,zq1,zq0,pB false,zq0,zq1,zq2,zq2,zq2,zq2,zq1,zq2,pB false,zq2,zq2,zq2,zq2,.tsl 4 (qi (d++[g])),pB j],.dead,.tail 9 1 (qi (d++[g])).length],rfl,rfl,?_⟩;conv=>whnf
  apply ifc h<;>intro e h
  ·obtain rfl:=sj h
   conv=>whnf
   refine⟨_,_,⟨rfl,rfl⟩,wk [0] []⟩
  conv=>whnf
  exact⟨(f1,W,(d++[g])),h,wk [0,1,2,4] []⟩
 conv=>whnf
 exact⟨(q,true,(0:Int),([]:List _),([]:List _),(0:Int),([]:SS),(0:Int),false,(0:Int),([]:SS),([]:List _),([]:List _),([]:List _),([]:List _),([]:SS),([]:List _),false,([]:List _),([]:List _),([]:List _),([]:List _),([]:List _),false),h,wk [0,1,2] []⟩
end W
end
