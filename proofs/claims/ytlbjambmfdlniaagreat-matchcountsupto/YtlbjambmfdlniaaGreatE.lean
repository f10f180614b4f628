/- A part of the proof: contracts, printed by program. -/
import Derived.Test.YtlbjambmfdlniaaGreatC
import Derived.Test.YtlbjambmfdlniaaGreatD
set_option linter.unusedVariables false
set_option linter.unusedSimpArgs false
set_option linter.unnecessarySimpa false
set_option linter.deprecated false
set_option linter.unusedSectionVars false
set_option linter.constructorNameAsVariable false
open Go.IntKind renaming wrap->kwr,bits->kbt
section
set_option maxRecDepth 100000
set_option maxHeartbeats 20000000
open Go Go.Proofs Ax
namespace W
abbrev Ul (_:List qk) (_:Int) (_:Bool) (r:zj×Int×Bool):FV:=.p ((PV.agg (rC.cells r.1)))
abbrev VZ (a:List qk) (_:Int) (_:Bool) (r:zj×Int×Bool):List AObj:=[.box 135 [pK a,.p (.int .i64 r.2.1),.p (.bool r.2.2)]]
def vK (n:Nat) (o:List qk) (p:Bool) (b:List qh) (c d:SS) (e:List SS) (f:List qb) (a:List qd) (m:Int×Bool×List qd×List qh->Option (zj×Int×Bool)):Int×Int->Option (zj×Int×Bool):=fun(q,g)=>
 bnd (gV n o q p) fun⟨⟨i,j,k,l⟩,s,t⟩=>
 chk (decide ((qh.rows (b++[qh.mk c d g e f])).length * 88<=140737488355328)) (
 chk (decide ((qd.rows (a++[qd.mk i j k l])).length * 88<=140737488355328)) (
 m (s,t,(a++[qd.mk i j k l]),(b++[qh.mk c d g e f]))))
def gx (n:Nat) (a:List qk) (m:Bool) (e:List qh) (d:List qd) (c:Int×Bool×List qd×List qh->Option (zj×Int×Bool)):Int×Bool×SS×SS×List SS×List qb->Option (zj×Int×Bool):=fun(o,p,f,g,i,j)=>
 bnd (qH n ([45]:SS) a o p) fun⟨k,b⟩=>
 bif m then(
 vK n a b e f g i j d c (k,(1:Int)))
 else(
 bnd (ql n ([62]:SS) a k b) fun⟨q,l⟩=>
 bif q then(
 vK n a b e f g i j d c (l,(0:Int)))
 else(
 vK n a b e f g i j d c (l,(2:Int))))
def gz (n:Nat) (a:List qk) (e:Bool) (d:List qh) (c:List qd) (b:Int×Bool×List qd×List qh->Option (zj×Int×Bool)) (f g:SS):Int×Bool×List SS×List qb->Option (zj×Int×Bool):=fun(i,j,k,l)=>
 bnd (qH n ([93]:SS) a i j) fun⟨m,o⟩=>
 gx n a e d c b (m,o,f,g,k,l)
def gy (n:Nat) (a:List qk) (g:Bool) (f:List qh) (e:List qd) (d:Int×Bool×List qd×List qh->Option (zj×Int×Bool)) (i:SS):Int×Bool×SS->Option (zj×Int×Bool):=fun(b,c,j)=>
 bnd (zE n ([123]:SS) a b c) fun k=>
 bif k then(
 bnd (qx n a b c) fun⟨l,m,o,p⟩=>
 gz n a g f e d i j (o,p,l,m))
 else(
 gz n a g f e d i j (b,c,([]:List _),([]:List _)))
def vL (n:Nat) (o:List qk) (p:Bool) (b:List qh) (c d:SS) (e:List SS) (f:List qb) (a:List qd) (m:Int×Bool×List qd×List qh->Option (zj×Int×Bool)):Int×Int->Option (zj×Int×Bool):=fun(q,g)=>
 bnd (gV n o q p) fun⟨⟨i,j,k,l⟩,s,t⟩=>
 chk (decide ((qh.rows (b++[qh.mk c d g e f])).length * 88<=140737488355328)) (
 chk (decide ((qd.rows (a++[qd.mk i j k l])).length * 88<=140737488355328)) (
 m (s,t,(a++[qd.mk i j k l]),(b++[qh.mk c d g e f]))))
def gA (n:Nat) (a:List qk) (m:Bool) (e:List qh) (d:List qd) (c:Int×Bool×List qd×List qh->Option (zj×Int×Bool)):Int×Bool×SS×SS×List SS×List qb->Option (zj×Int×Bool):=fun(o,p,f,g,i,j)=>
 bnd (qH n ([45]:SS) a o p) fun⟨k,b⟩=>
 bif m then(
 vL n a b e f g i j d c (k,(1:Int)))
 else(
 bnd (ql n ([62]:SS) a k b) fun⟨q,l⟩=>
 bif q then(
 vL n a b e f g i j d c (l,(0:Int)))
 else(
 vL n a b e f g i j d c (l,(2:Int))))
def gE (n:Nat) (a:List qk) (e:Bool) (d:List qh) (c:List qd) (b:Int×Bool×List qd×List qh->Option (zj×Int×Bool)) (f g:SS):Int×Bool×List SS×List qb->Option (zj×Int×Bool):=fun(i,j,k,l)=>
 bnd (qH n ([93]:SS) a i j) fun⟨m,o⟩=>
 gA n a e d c b (m,o,f,g,k,l)
def gC (n:Nat) (a:List qk) (g:Bool) (f:List qh) (e:List qd) (d:Int×Bool×List qd×List qh->Option (zj×Int×Bool)) (i:SS):Int×Bool×SS->Option (zj×Int×Bool):=fun(b,c,j)=>
 bnd (zE n ([123]:SS) a b c) fun o=>
 bif o then(
 bnd (qx n a b c) fun⟨p,k,l,m⟩=>
 gE n a g f e d i j (l,m,p,k))
 else(
 gE n a g f e d i j (b,c,([]:List _),([]:List _)))
def bB (n:Nat) (a:List qk):LK (Int×Bool×List qd×List qh) (zj×Int×Bool):=fun e (f,b,c,d)=>
 bnd (zE n ([45]:SS) a f b) fun g=>
 bif(!g)then(
 bnd (zE n ([60]:SS) a f b) fun A=>
 bif(bif g then true else A)then(
 bnd (ql n ([60]:SS) a f b) fun⟨i,B⟩=>
 bnd (qH n ([45]:SS) a B b) fun⟨C,j⟩=>
 bnd (ql n ([91]:SS) a C j) fun⟨D,q⟩=>
 bif D then(
 bnd (vM n a q j) fun⟨s,E,k⟩=>
 bnd (ql n ([58]:SS) a E k) fun⟨F,t⟩=>
 bif F then(
 bnd (xY n a t k) fun⟨G,H,I⟩=>
 gy n a i d c e s (H,I,G))
 else(
 gy n a i d c e s (t,k,([]:SS))))
 else(
 gx n a i d c e (q,j,([]:SS),([]:SS),([]:List _),([]:List _))))
 else(
 some (zj.mk c d,f,b)))
 else(
 bif(bif g then true else false)then(
 bnd (ql n ([60]:SS) a f b) fun⟨l,J⟩=>
 bnd (qH n ([45]:SS) a J b) fun⟨K,m⟩=>
 bnd (ql n ([91]:SS) a K m) fun⟨L,u⟩=>
 bif L then(
 bnd (vM n a u m) fun⟨v,M,o⟩=>
 bnd (ql n ([58]:SS) a M o) fun⟨w,p⟩=>
 bif w then(
 bnd (xY n a p o) fun⟨x,y,z⟩=>
 gC n a l d c e v (y,z,x))
 else(
 gC n a l d c e v (p,o,([]:SS))))
 else(
 gA n a l d c e (u,m,([]:SS),([]:SS),([]:List _),([]:List _))))
 else(
 some (zj.mk c d,f,b)))
def sf (n:Nat) (a:List qk) (f:Int) (g:Bool):Option (zj×Int×Bool):=
 bnd (gV n a f g) fun⟨⟨b,c,d,e⟩,i,j⟩=>
 chk (decide ((qd.rows [qd.mk b c d e]).length * 88<=140737488355328)) (
 qU (bB n a) n (i,j,[qd.mk b c d e],([]:List _)))
theorem XC (n:Nat):∀ (c:List qk) (L:Int) (M:Bool) (r:zj×Int×Bool),sf n c L M=some r->zb TP 120 [.ptr 0 0] [.box 135 [pK c,pI L,pB M]] 1 (fun v lo=>v=Ul c L M r/\lo=VZ c L M r):=by
 intro c L M r h;unfold sf at h;refine zO Tryz.call120 Tryz.func120 [77,81,84,86,123,124,125,1000000] ?_;conv=>whnf
 refine bq h fun⟨⟨X,Y,Z,a0⟩,k1,k5⟩ f2 h=>?_;refine zg (fz n _ _ _ _ f2) [0] [] ?_;rintro _ _ ⟨rfl,rfl⟩;refine⟨.p (.agg [.str X,.sl (qy Y),.sl (qy Z),.sl (qb.rows a0)]),[.box 135 [pK c,pI k1,pB k5],SY,SY],rfl,rfl,?_⟩;conv=>whnf
 refine⟨Codec.one vd [qd.mk X Y Z a0],qd.rows [qd.mk X Y Z a0],.inl rfl,?_⟩;conv=>whnf
 obtain⟨c1,h⟩:=qL h;refine⟨⟨Codec.wide vd [qd.mk X Y Z a0],kod c1,xK c1 (by decide)⟩,?_⟩;conv=>whnf
 refine zd.fn [77,81,84,86,123,124,125,1000000] (S:=Int×Bool×List qd×List qh) (fun(K,H,a,b)=>[(0,.ptr 0 0),(2,.ptr 1 0),(3,.ptr 2 0)]) (fun(K,H,a,b)=>[.box 135 [pK c,pI K,pB H],SY,.box 49 [.tsl 3 (qd.rows a),.tsl 4 (qh.rows b)],.tail 85 4 (qd.rows a).length,.tail 83 5 (qh.rows b).length]) (B:=bB n c) h (wk [0,1,2,4,0] [4]) ?_;intro x st h;obtain⟨K,H,a,b⟩:=st;unfold bB at h;conv=>whnf
 refine bq h fun j0 g3 h=>?_;refine zg (zi n _ _ _ _ _ g3) [0] [] ?_;rintro _ _ ⟨rfl,rfl⟩;refine⟨pB j0,[.box 135 [pK c,pI K,pB H],SY,.box 49 [.tsl 3 (qd.rows a),.tsl 4 (qh.rows b)],.tail 85 4 (qd.rows a).length,.tail 83 5 (qh.rows b).length],rfl,rfl,?_⟩;conv=>whnf
 refine⟨fun a2=>?_,fun a2=>?_⟩
 ·replace h:=uU h a2
  conv=>whnf
  refine⟨id,?_⟩;conv=>whnf
  refine bq h fun j1 i2 h=>?_;refine zg (zi n _ _ _ _ _ i2) [0] [] ?_;rintro _ _ ⟨rfl,rfl⟩;refine⟨pB j1,[.box 135 [pK c,pI K,pB H],SY,.box 49 [.tsl 3 (qd.rows a),.tsl 4 (qh.rows b)],.tail 85 4 (qd.rows a).length,.tail 83 5 (qh.rows b).length],rfl,rfl,?_⟩;conv=>whnf
  refine⟨id,?_⟩;conv=>whnf
  apply ifc h<;>intro m h
  ·conv=>whnf
   refine bq h fun⟨I,j2⟩ i5 h=>?_;refine zg (qg n _ _ _ _ _ i5) [0] [] ?_;rintro _ _ ⟨rfl,rfl⟩;refine⟨pB I,[.box 135 [pK c,pI j2,pB H],SY,.box 49 [.tsl 3 (qd.rows a),.tsl 4 (qh.rows b)],.tail 85 4 (qd.rows a).length,.tail 83 5 (qh.rows b).length,Ta],rfl,rfl,?_⟩;conv=>whnf
   refine bq h fun⟨j3,a3⟩ i6 h=>?_;refine zg (qv n _ _ _ _ _ i6) [0] [] ?_;rintro _ _ ⟨rfl,rfl⟩;refine⟨.p (.tup []),[.box 135 [pK c,pI j3,pB a3],SY,.box 49 [.tsl 3 (qd.rows a),.tsl 4 (qh.rows b)],.tail 85 4 (qd.rows a).length,.tail 83 5 (qh.rows b).length,Ta],rfl,rfl,?_⟩;conv=>whnf
   refine nu.cut (S:=Int×Bool×SS×SS×List SS×List qb) (fun(a4,a5,d,e,f,g)=>[(0,.ptr 0 0),(2,.ptr 1 0),(3,.ptr 2 0),(5,.ptr 3 0),(6,pB I)]) (fun(a4,a5,d,e,f,g)=>[.box 135 [pK c,pI a4,pB a5],SY,.box 49 [.tsl 4 (qd.rows a),.tsl 5 (qh.rows b)],.box 83 [pS d,pS e,SR,pT f,pE g],.tail 85 4 (qd.rows a).length,.tail 83 5 (qh.rows b).length]) (gx n c I b a x) (r:=r) ?_ ?_
   ·intro st h
    obtain⟨a4,a5,d,e,f,g⟩:=st;unfold gx at h;(conv=>whnf);refine bq h fun⟨d1,W⟩ i7 h=>?_;refine zg (qv n _ _ _ _ _ i7) [0] [] ?_;rintro _ _ ⟨rfl,rfl⟩;refine⟨.p (.tup []),[.box 135 [pK c,pI d1,pB W],SY,.box 49 [.tsl 4 (qd.rows a),.tsl 5 (qh.rows b)],.box 83 [pS d,pS e,SR,pT f,pE g],.tail 85 4 (qd.rows a).length,.tail 83 5 (qh.rows b).length],rfl,rfl,?_⟩;(conv=>whnf);refine nu.cut (S:=Int×Int) (fun(a6,o)=>[(0,.ptr 0 0),(2,.ptr 1 0),(3,.ptr 2 0),(5,.ptr 3 0)]) (fun(a6,o)=>[.box 135 [pK c,pI a6,pB W],SY,.box 49 [.tsl 4 (qd.rows a),.tsl 5 (qh.rows b)],.box 83 [pS d,pS e,pI o,pT f,pE g],.tail 85 4 (qd.rows a).length,.tail 83 5 (qh.rows b).length]) (vK n c W b d e f g a x) (r:=r) ?_ ?_
    ·intro st h
     obtain⟨a6,o⟩:=st;unfold vK at h;(conv=>whnf);refine bq h fun⟨⟨y,z,A,C⟩,d2,d3⟩ i8 h=>?_;refine zg (fz n _ _ _ _ i8) [0] [] ?_;rintro _ _ ⟨rfl,rfl⟩;refine⟨.p (.agg [.str y,.sl (qy z),.sl (qy A),.sl (qb.rows C)]),[.box 135 [pK c,pI d2,pB d3],SY,.box 49 [.tsl 4 (qd.rows a),.tsl 5 (qh.rows b)],.box 83 [pS d,pS e,pI o,pT f,pE g],.tail 85 4 (qd.rows a).length,.tail 83 5 (qh.rows b).length],rfl,rfl,?_⟩;(conv=>whnf);refine⟨Codec.one fP [qh.mk d e o f g],qh.rows [qh.mk d e o f g],.inl rfl,?_⟩;(conv=>whnf);rw[show qh.rows b++qh.rows [qh.mk d e o f g]=qh.rows (b++[qh.mk d e o f g])from Codec.append fP b [qh.mk d e o f g]];(conv=>whnf);obtain⟨c3,h⟩:=qL h;refine⟨⟨Codec.wide fP (b++[qh.mk d e o f g]),kod c3,xK c3 (by decide)⟩,?_⟩;(conv=>whnf);refine⟨⟨rfl,rfl,rfl⟩,?_⟩;(conv=>whnf);refine⟨Codec.one vd [qd.mk y z A C],qd.rows [qd.mk y z A C],.inl rfl,?_⟩;(conv=>whnf);rw[show qd.rows a++qd.rows [qd.mk y z A C]=qd.rows (a++[qd.mk y z A C])from Codec.append vd a [qd.mk y z A C]];(conv=>whnf);obtain⟨c2,h⟩:=qL h;refine⟨⟨Codec.wide vd (a++[qd.mk y z A C]),kod c2,xK c2 (by decide)⟩,?_⟩;(conv=>whnf);refine⟨⟨rfl,rfl,rfl⟩,?_⟩;(conv=>whnf);exact⟨(d2,d3,(a++[qd.mk y z A C]),(b++[qh.mk d e o f g])),h,wk [0,1,2,8,7] []⟩
    (conv=>whnf);apply ifc h<;>intro m h
    ·conv=>whnf
     exact⟨(d1,(1:Int)),h,wk [0,1,2,3,4,5] []⟩
    (conv=>whnf);refine bq h fun⟨j4,a7⟩ f3 h=>?_
    refine zg (qg n _ _ _ _ _ f3) [0] [] ?_;rintro _ _ ⟨rfl,rfl⟩;refine⟨pB j4,[.box 135 [pK c,pI a7,pB W],SY,.box 49 [.tsl 4 (qd.rows a),.tsl 5 (qh.rows b)],.box 83 [pS d,pS e,.p (.int .i64 (2:Int)),pT f,pE g],.tail 85 4 (qd.rows a).length,.tail 83 5 (qh.rows b).length],rfl,rfl,?_⟩;(conv=>whnf);apply ifc h<;>intro m h
    ·conv=>whnf
     exact⟨(a7,(0:Int)),h,wk [0,1,2,3,4,5] []⟩
    (conv=>whnf);exact⟨(a7,(2:Int)),h,wk [0,1,2,3,4,5] []⟩
   conv=>whnf
   refine bq h fun⟨j5,d4⟩ f4 h=>?_;refine zg (qg n _ _ _ _ _ f4) [0] [] ?_;rintro _ _ ⟨rfl,rfl⟩;refine⟨pB j5,[.box 135 [pK c,pI d4,pB a3],SY,.box 49 [.tsl 3 (qd.rows a),.tsl 4 (qh.rows b)],.tail 85 4 (qd.rows a).length,.tail 83 5 (qh.rows b).length,Ta],rfl,rfl,?_⟩;conv=>whnf
   apply ifc h<;>intro m h
   ·conv=>whnf
    refine bq h fun⟨q,j6,a8⟩ f5 h=>?_;refine zg (gO n _ _ _ _ f5) [0] [] ?_;rintro _ _ ⟨rfl,rfl⟩;refine⟨pS q,[.box 135 [pK c,pI j6,pB a8],SY,.box 49 [.tsl 3 (qd.rows a),.tsl 4 (qh.rows b)],.tail 85 4 (qd.rows a).length,.tail 83 5 (qh.rows b).length,Ta],rfl,rfl,?_⟩;(conv=>whnf);refine nu.cut (S:=Int×Bool×SS) (fun(N,O,u)=>[(0,.ptr 0 0),(2,.ptr 1 0),(3,.ptr 2 0),(5,.ptr 3 0),(6,pB I)]) (fun(N,O,u)=>[.box 135 [pK c,pI N,pB O],SY,.box 49 [.tsl 4 (qd.rows a),.tsl 5 (qh.rows b)],.box 83 [pS q,pS u,SR,SV,SV],.tail 85 4 (qd.rows a).length,.tail 83 5 (qh.rows b).length]) (gy n c I b a x q) (r:=r) ?_ ?_
    ·intro st h
     obtain⟨N,O,u⟩:=st;unfold gy at h;(conv=>whnf);refine nu.cut (S:=Int×Bool×List SS×List qb) (fun(a9,b0,P,Q)=>[(0,.ptr 0 0),(2,.ptr 1 0),(3,.ptr 2 0),(5,.ptr 3 0),(6,pB I)]) (fun(a9,b0,P,Q)=>[.box 135 [pK c,pI a9,pB b0],SY,.box 49 [.tsl 4 (qd.rows a),.tsl 5 (qh.rows b)],.box 83 [pS q,pS u,SR,pT P,pE Q],.tail 85 4 (qd.rows a).length,.tail 83 5 (qh.rows b).length]) (gz n c I b a x q u) (r:=r) ?_ ?_
     ·intro st h
      obtain⟨a9,b0,P,Q⟩:=st;unfold gz at h;(conv=>whnf);refine bq h fun⟨d5,d6⟩ f6 h=>?_;refine zg (qv n _ _ _ _ _ f6) [0] [] ?_;rintro _ _ ⟨rfl,rfl⟩;refine⟨.p (.tup []),[.box 135 [pK c,pI d5,pB d6],SY,.box 49 [.tsl 4 (qd.rows a),.tsl 5 (qh.rows b)],.box 83 [pS q,pS u,SR,pT P,pE Q],.tail 85 4 (qd.rows a).length,.tail 83 5 (qh.rows b).length],rfl,rfl,?_⟩;(conv=>whnf);exact⟨(d5,d6,q,u,P,Q),h,wk [0,1,2,3,4,5] []⟩
     (conv=>whnf);refine bq h fun j7 f7 h=>?_
     refine zg (zi n _ _ _ _ _ f7) [0] [] ?_;rintro _ _ ⟨rfl,rfl⟩;refine⟨pB j7,[.box 135 [pK c,pI N,pB O],SY,.box 49 [.tsl 4 (qd.rows a),.tsl 5 (qh.rows b)],.box 83 [pS q,pS u,SR,SV,SV],.tail 85 4 (qd.rows a).length,.tail 83 5 (qh.rows b).length],rfl,rfl,?_⟩;(conv=>whnf);apply ifc h<;>intro m h
     ·conv=>whnf
      refine bq h fun⟨d7,d8,d9,e0⟩ f8 h=>?_;refine zg (dx n _ _ _ _ f8) [0] [] ?_;rintro _ _ ⟨rfl,rfl⟩;refine⟨.p (.tup [.sl (qy d7),.sl (qb.rows d8)]),[.box 135 [pK c,pI d9,pB e0],SY,.box 49 [.tsl 4 (qd.rows a),.tsl 5 (qh.rows b)],.box 83 [pS q,pS u,SR,SV,SV],.tail 85 4 (qd.rows a).length,.tail 83 5 (qh.rows b).length],rfl,rfl,?_⟩;(conv=>whnf);exact⟨(d9,e0,d7,d8),h,wk [0,1,2,3,4,5] []⟩
     (conv=>whnf);exact⟨(N,O,([]:List _),([]:List _)),h,wk [0,1,2,3,4,5] []⟩
    (conv=>whnf);refine bq h fun⟨j8,e1⟩ f9 h=>?_
    refine zg (qg n _ _ _ _ _ f9) [0] [] ?_;rintro _ _ ⟨rfl,rfl⟩;refine⟨pB j8,[.box 135 [pK c,pI e1,pB a8],SY,.box 49 [.tsl 3 (qd.rows a),.tsl 4 (qh.rows b)],.tail 85 4 (qd.rows a).length,.tail 83 5 (qh.rows b).length,.box 83 [pS q,SU,SR,SV,SV]],rfl,rfl,?_⟩;(conv=>whnf);apply ifc h<;>intro m h
    ·conv=>whnf
     refine bq h fun⟨e2,e3,e4⟩ g0 h=>?_;refine zg (xu n _ _ _ _ g0) [0] [] ?_;rintro _ _ ⟨rfl,rfl⟩;refine⟨pS e2,[.box 135 [pK c,pI e3,pB e4],SY,.box 49 [.tsl 3 (qd.rows a),.tsl 4 (qh.rows b)],.tail 85 4 (qd.rows a).length,.tail 83 5 (qh.rows b).length,.box 83 [pS q,SU,SR,SV,SV]],rfl,rfl,?_⟩;(conv=>whnf);exact⟨(e3,e4,e2),h,wk [0,1,2,5,3,4] []⟩
    (conv=>whnf);exact⟨(e1,a8,([]:SS)),h,wk [0,1,2,5,3,4] []⟩
   conv=>whnf
   exact⟨(d4,a3,([]:SS),([]:SS),([]:List _),([]:List _)),h,wk [0,1,2,5,3,4] []⟩
  obtain rfl:=sj h;conv=>whnf
  refine⟨_,_,⟨rfl,rfl⟩,wk [0] []⟩
 replace h:=uT h a2;refine⟨pB false,?_⟩;conv=>whnf
 refine⟨id,?_⟩;conv=>whnf
 apply ifc h<;>intro m h
 ·conv=>whnf
  refine bq h fun⟨J,j9⟩ g1 h=>?_;refine zg (qg n _ _ _ _ _ g1) [0] [] ?_;rintro _ _ ⟨rfl,rfl⟩;refine⟨pB J,[.box 135 [pK c,pI j9,pB H],SY,.box 49 [.tsl 3 (qd.rows a),.tsl 4 (qh.rows b)],.tail 85 4 (qd.rows a).length,.tail 83 5 (qh.rows b).length,Ta],rfl,rfl,?_⟩;conv=>whnf
  refine bq h fun⟨k0,b1⟩ g2 h=>?_;refine zg (qv n _ _ _ _ _ g2) [0] [] ?_;rintro _ _ ⟨rfl,rfl⟩;refine⟨.p (.tup []),[.box 135 [pK c,pI k0,pB b1],SY,.box 49 [.tsl 3 (qd.rows a),.tsl 4 (qh.rows b)],.tail 85 4 (qd.rows a).length,.tail 83 5 (qh.rows b).length,Ta],rfl,rfl,?_⟩;conv=>whnf
  refine nu.cut (S:=Int×Bool×SS×SS×List SS×List qb) (fun(b2,b3,i,j,k,l)=>[(0,.ptr 0 0),(2,.ptr 1 0),(3,.ptr 2 0),(5,.ptr 3 0),(6,pB J)]) (fun(b2,b3,i,j,k,l)=>[.box 135 [pK c,pI b2,pB b3],SY,.box 49 [.tsl 4 (qd.rows a),.tsl 5 (qh.rows b)],.box 83 [pS i,pS j,SR,pT k,pE l],.tail 85 4 (qd.rows a).length,.tail 83 5 (qh.rows b).length]) (gA n c J b a x) (r:=r) ?_ ?_
  ·intro st h
   obtain⟨b2,b3,i,j,k,l⟩:=st;unfold gA at h;conv=>whnf
   refine bq h fun⟨e5,a1⟩ g4 h=>?_;refine zg (qv n _ _ _ _ _ g4) [0] [] ?_;rintro _ _ ⟨rfl,rfl⟩;refine⟨.p (.tup []),[.box 135 [pK c,pI e5,pB a1],SY,.box 49 [.tsl 4 (qd.rows a),.tsl 5 (qh.rows b)],.box 83 [pS i,pS j,SR,pT k,pE l],.tail 85 4 (qd.rows a).length,.tail 83 5 (qh.rows b).length],rfl,rfl,?_⟩;conv=>whnf
   refine nu.cut (S:=Int×Int) (fun(b4,s)=>[(0,.ptr 0 0),(2,.ptr 1 0),(3,.ptr 2 0),(5,.ptr 3 0)]) (fun(b4,s)=>[.box 135 [pK c,pI b4,pB a1],SY,.box 49 [.tsl 4 (qd.rows a),.tsl 5 (qh.rows b)],.box 83 [pS i,pS j,pI s,pT k,pE l],.tail 85 4 (qd.rows a).length,.tail 83 5 (qh.rows b).length]) (vL n c a1 b i j k l a x) (r:=r) ?_ ?_
   ·intro st h
    obtain⟨b4,s⟩:=st;unfold vL at h;(conv=>whnf);refine bq h fun⟨⟨D,E,F,G⟩,e6,e7⟩ g5 h=>?_;refine zg (fz n _ _ _ _ g5) [0] [] ?_;rintro _ _ ⟨rfl,rfl⟩;refine⟨.p (.agg [.str D,.sl (qy E),.sl (qy F),.sl (qb.rows G)]),[.box 135 [pK c,pI e6,pB e7],SY,.box 49 [.tsl 4 (qd.rows a),.tsl 5 (qh.rows b)],.box 83 [pS i,pS j,pI s,pT k,pE l],.tail 85 4 (qd.rows a).length,.tail 83 5 (qh.rows b).length],rfl,rfl,?_⟩;(conv=>whnf);refine⟨Codec.one fP [qh.mk i j s k l],qh.rows [qh.mk i j s k l],.inl rfl,?_⟩;(conv=>whnf);rw[show qh.rows b++qh.rows [qh.mk i j s k l]=qh.rows (b++[qh.mk i j s k l])from Codec.append fP b [qh.mk i j s k l]];(conv=>whnf);obtain⟨c0,h⟩:=qL h;refine⟨⟨Codec.wide fP (b++[qh.mk i j s k l]),kod c0,xK c0 (by decide)⟩,?_⟩;(conv=>whnf);refine⟨⟨rfl,rfl,rfl⟩,?_⟩;(conv=>whnf);refine⟨Codec.one vd [qd.mk D E F G],qd.rows [qd.mk D E F G],.inl rfl,?_⟩;(conv=>whnf);rw[show qd.rows a++qd.rows [qd.mk D E F G]=qd.rows (a++[qd.mk D E F G])from Codec.append vd a [qd.mk D E F G]];(conv=>whnf);obtain⟨b9,h⟩:=qL h;refine⟨⟨Codec.wide vd (a++[qd.mk D E F G]),kod b9,xK b9 (by decide)⟩,?_⟩;(conv=>whnf);refine⟨⟨rfl,rfl,rfl⟩,?_⟩;(conv=>whnf);exact⟨(e6,e7,(a++[qd.mk D E F G]),(b++[qh.mk i j s k l])),h,wk [0,1,2,8,7] []⟩
   conv=>whnf
   apply ifc h<;>intro m h
   ·conv=>whnf
    exact⟨(e5,(1:Int)),h,wk [0,1,2,3,4,5] []⟩
   conv=>whnf
   refine bq h fun⟨k2,b5⟩ g6 h=>?_;refine zg (qg n _ _ _ _ _ g6) [0] [] ?_;rintro _ _ ⟨rfl,rfl⟩;refine⟨pB k2,[.box 135 [pK c,pI b5,pB a1],SY,.box 49 [.tsl 4 (qd.rows a),.tsl 5 (qh.rows b)],.box 83 [pS i,pS j,.p (.int .i64 (2:Int)),pT k,pE l],.tail 85 4 (qd.rows a).length,.tail 83 5 (qh.rows b).length],rfl,rfl,?_⟩;conv=>whnf
   apply ifc h<;>intro m h
   ·conv=>whnf
    exact⟨(b5,(0:Int)),h,wk [0,1,2,3,4,5] []⟩
   conv=>whnf
   exact⟨(b5,(2:Int)),h,wk [0,1,2,3,4,5] []⟩
  conv=>whnf
  refine bq h fun⟨k3,e8⟩ g7 h=>?_;refine zg (qg n _ _ _ _ _ g7) [0] [] ?_;rintro _ _ ⟨rfl,rfl⟩;refine⟨pB k3,[.box 135 [pK c,pI e8,pB b1],SY,.box 49 [.tsl 3 (qd.rows a),.tsl 4 (qh.rows b)],.tail 85 4 (qd.rows a).length,.tail 83 5 (qh.rows b).length,Ta],rfl,rfl,?_⟩;conv=>whnf
  apply ifc h<;>intro m h
  ·conv=>whnf
   refine bq h fun⟨t,k4,b6⟩ g8 h=>?_;refine zg (gO n _ _ _ _ g8) [0] [] ?_;rintro _ _ ⟨rfl,rfl⟩;refine⟨pS t,[.box 135 [pK c,pI k4,pB b6],SY,.box 49 [.tsl 3 (qd.rows a),.tsl 4 (qh.rows b)],.tail 85 4 (qd.rows a).length,.tail 83 5 (qh.rows b).length,Ta],rfl,rfl,?_⟩;conv=>whnf
   refine nu.cut (S:=Int×Bool×SS) (fun(R,T,w)=>[(0,.ptr 0 0),(2,.ptr 1 0),(3,.ptr 2 0),(5,.ptr 3 0),(6,pB J)]) (fun(R,T,w)=>[.box 135 [pK c,pI R,pB T],SY,.box 49 [.tsl 4 (qd.rows a),.tsl 5 (qh.rows b)],.box 83 [pS t,pS w,SR,SV,SV],.tail 85 4 (qd.rows a).length,.tail 83 5 (qh.rows b).length]) (gC n c J b a x t) (r:=r) ?_ ?_
   ·intro st h
    obtain⟨R,T,w⟩:=st;unfold gC at h;(conv=>whnf);refine nu.cut (S:=Int×Bool×List SS×List qb) (fun(b7,b8,U,V)=>[(0,.ptr 0 0),(2,.ptr 1 0),(3,.ptr 2 0),(5,.ptr 3 0),(6,pB J)]) (fun(b7,b8,U,V)=>[.box 135 [pK c,pI b7,pB b8],SY,.box 49 [.tsl 4 (qd.rows a),.tsl 5 (qh.rows b)],.box 83 [pS t,pS w,SR,pT U,pE V],.tail 85 4 (qd.rows a).length,.tail 83 5 (qh.rows b).length]) (gE n c J b a x t w) (r:=r) ?_ ?_
    ·intro st h
     obtain⟨b7,b8,U,V⟩:=st;unfold gE at h;(conv=>whnf);refine bq h fun⟨e9,f0⟩ g9 h=>?_;refine zg (qv n _ _ _ _ _ g9) [0] [] ?_;rintro _ _ ⟨rfl,rfl⟩;refine⟨.p (.tup []),[.box 135 [pK c,pI e9,pB f0],SY,.box 49 [.tsl 4 (qd.rows a),.tsl 5 (qh.rows b)],.box 83 [pS t,pS w,SR,pT U,pE V],.tail 85 4 (qd.rows a).length,.tail 83 5 (qh.rows b).length],rfl,rfl,?_⟩;(conv=>whnf);exact⟨(e9,f0,t,w,U,V),h,wk [0,1,2,3,4,5] []⟩
    (conv=>whnf);refine bq h fun k6 i0 h=>?_
    refine zg (zi n _ _ _ _ _ i0) [0] [] ?_;rintro _ _ ⟨rfl,rfl⟩;refine⟨pB k6,[.box 135 [pK c,pI R,pB T],SY,.box 49 [.tsl 4 (qd.rows a),.tsl 5 (qh.rows b)],.box 83 [pS t,pS w,SR,SV,SV],.tail 85 4 (qd.rows a).length,.tail 83 5 (qh.rows b).length],rfl,rfl,?_⟩;(conv=>whnf);apply ifc h<;>intro m h
    ·conv=>whnf
     refine bq h fun⟨f1,c4,c5,c6⟩ i1 h=>?_;refine zg (dx n _ _ _ _ i1) [0] [] ?_;rintro _ _ ⟨rfl,rfl⟩;refine⟨.p (.tup [.sl (qy f1),.sl (qb.rows c4)]),[.box 135 [pK c,pI c5,pB c6],SY,.box 49 [.tsl 4 (qd.rows a),.tsl 5 (qh.rows b)],.box 83 [pS t,pS w,SR,SV,SV],.tail 85 4 (qd.rows a).length,.tail 83 5 (qh.rows b).length],rfl,rfl,?_⟩;(conv=>whnf);exact⟨(c5,c6,f1,c4),h,wk [0,1,2,3,4,5] []⟩
    (conv=>whnf);exact⟨(R,T,([]:List _),([]:List _)),h,wk [0,1,2,3,4,5] []⟩
   conv=>whnf
   refine bq h fun⟨i9,c7⟩ i3 h=>?_;refine zg (qg n _ _ _ _ _ i3) [0] [] ?_;rintro _ _ ⟨rfl,rfl⟩;refine⟨pB i9,[.box 135 [pK c,pI c7,pB b6],SY,.box 49 [.tsl 3 (qd.rows a),.tsl 4 (qh.rows b)],.tail 85 4 (qd.rows a).length,.tail 83 5 (qh.rows b).length,.box 83 [pS t,SU,SR,SV,SV]],rfl,rfl,?_⟩;conv=>whnf
   apply ifc h<;>intro m h
   ·conv=>whnf
    refine bq h fun⟨c8,c9,d0⟩ i4 h=>?_;refine zg (xu n _ _ _ _ i4) [0] [] ?_;rintro _ _ ⟨rfl,rfl⟩;refine⟨pS c8,[.box 135 [pK c,pI c9,pB d0],SY,.box 49 [.tsl 3 (qd.rows a),.tsl 4 (qh.rows b)],.tail 85 4 (qd.rows a).length,.tail 83 5 (qh.rows b).length,.box 83 [pS t,SU,SR,SV,SV]],rfl,rfl,?_⟩;(conv=>whnf);exact⟨(c9,d0,c8),h,wk [0,1,2,5,3,4] []⟩
   conv=>whnf
   exact⟨(c7,b6,([]:SS)),h,wk [0,1,2,5,3,4] []⟩
  conv=>whnf
  exact⟨(e8,b1,([]:SS),([]:SS),([]:List _),([]:List _)),h,wk [0,1,2,5,3,4] []⟩
 obtain rfl:=sj h;conv=>whnf
 refine⟨_,_,⟨rfl,rfl⟩,wk [0] []⟩
end W
end
section
set_option maxRecDepth 100000
set_option maxHeartbeats 20000000
open Go Go.Proofs Ax
namespace W
abbrev XL (_:List qk) (_:Int) (_:Bool) (r:(List zj)×Int×Bool):FV:=.p (.sl (zj.rows r.1))
abbrev XI (a:List qk) (_:Int) (_:Bool) (r:(List zj)×Int×Bool):List AObj:=[.box 135 [pK a,.p (.int .i64 r.2.1),.p (.bool r.2.2)]]
def dv (n:Nat) (e:List qk):LK (List zj×Int×Bool) ((List zj)×Int×Bool):=fun g (b,j,k)=>
 bnd (sf n e j k) fun⟨⟨c,d⟩,l,a⟩=>
 chk (decide ((zj.rows (b++[zj.mk c d])).length * 48<=140737488355328)) (
 bnd (ql n ([44]:SS) e l a) fun⟨i,f⟩=>
 bif(!i)then(
 some ((b++[zj.mk c d]),f,a))
 else(
 g ((b++[zj.mk c d]),f,a)))
def dI (n:Nat) (a:List qk) (b:Int) (c:Bool):Option ((List zj)×Int×Bool):=
 qU (dv n a) n (([]:List _),b,c)
theorem rI (n:Nat):∀ (d:List qk) (e:Int) (f:Bool) (r:(List zj)×Int×Bool),dI n d e f=some r->zb TP 78 [.ptr 0 0] [.box 135 [pK d,pI e,pB f]] 1 (fun v lo=>v=XL d e f r/\lo=XI d e f r):=by
 intro d e f r h;unfold dI at h;refine zO Tryz.call78 Tryz.func78 [77,120,1000000] ?_;conv=>whnf
 refine zd.fn [77,120,1000000] (S:=List zj×Int×Bool) (fun(a,i,j)=>[(0,.ptr 0 0),(3,.tsl 1 (zj.rows a))]) (fun(a,i,j)=>[.box 135 [pK d,pI i,pB j],.tail 49 2 (zj.rows a).length]) (B:=dv n d) h (wk [0,0] [1]) ?_;intro _ st h;obtain⟨a,i,j⟩:=st;unfold dv at h;conv=>whnf
 refine bq h fun⟨⟨b,c⟩,s,g⟩ m h=>?_;refine zg (XC n _ _ _ _ m) [0] [] ?_;rintro _ _ ⟨rfl,rfl⟩;refine⟨.p (.agg [.sl (qd.rows b),.sl (qh.rows c)]),[.box 135 [pK d,pI s,pB g],.tail 49 2 (zj.rows a).length],rfl,rfl,?_⟩;conv=>whnf
 refine⟨Codec.one rC [zj.mk b c],zj.rows [zj.mk b c],.inl rfl,?_⟩;conv=>whnf
 rw[show zj.rows a++zj.rows [zj.mk b c]=zj.rows (a++[zj.mk b c])from Codec.append rC a [zj.mk b c]];conv=>whnf
 obtain⟨k,h⟩:=qL h;refine⟨⟨Codec.wide rC (a++[zj.mk b c]),kod k,xK k (by decide)⟩,?_⟩;conv=>whnf
 refine⟨⟨rfl,rfl,rfl⟩,?_⟩;conv=>whnf
 refine bq h fun⟨q,l⟩ o h=>?_;refine zg (qg n _ _ _ _ _ o) [0] [] ?_;rintro _ _ ⟨rfl,rfl⟩;refine⟨pB q,[.box 135 [pK d,pI l,pB g],.dead,.box 49 [pN b,pG c],.tail 49 2 (zj.rows (a++[zj.mk b c])).length],rfl,rfl,?_⟩;conv=>whnf
 apply ifc h<;>intro _ h
 ·obtain rfl:=sj h
  conv=>whnf
  refine⟨_,_,⟨rfl,rfl⟩,wk [0] []⟩
 conv=>whnf
 exact⟨((a++[zj.mk b c]),l,g),h,wk [0,3] []⟩
abbrev ZP (_:List qk) (_:Int) (_:Bool) (r:(List qb)×Int×Bool):FV:=.p (.sl (qb.rows r.1))
abbrev ZF (a:List qk) (_:Int) (_:Bool) (r:(List qb)×Int×Bool):List AObj:=[.box 135 [pK a,.p (.int .i64 r.2.1),.p (.bool r.2.2)]]
def vV (n:Nat) (d:SS) (b:List qk) (p:Int) (a:Bool):Option ((List qb)×Int×Bool):=
 bnd (ql n d b p a) fun⟨q,c⟩=>
 bif(!q)then(
 some (([]:List qb),c,a))
 else(
 bnd (qB n b c a) fun⟨⟨s,t,⟨u,e,f,g,i,j⟩,k,l⟩,m,o⟩=>
 some ([qb.mk s t (Val.mk u e f g i j) k l],m,o))
theorem uN (n:Nat):∀ (d:SS) (a:List qk) (c:Int) (b:Bool) (r:(List qb)×Int×Bool),vV n d a c b=some r->zb TP 79 [.ptr 0 0,.p (PV.str d)] [.box 135 [pK a,pI c,pB b]] 1 (fun v lo=>v=ZP a c b r/\lo=ZF a c b r):=by
 intro d a c b r h;unfold vV at h;refine zO Tryz.call79 Tryz.func79 [77,80,1000000] ?_;conv=>whnf
 refine bq h fun⟨x,y⟩ s h=>?_;refine zg (qg n _ _ _ _ _ s) [0] [] ?_;rintro _ _ ⟨rfl,rfl⟩;refine⟨pB x,[.box 135 [pK a,pI y,pB b]],rfl,rfl,?_⟩;conv=>whnf
 apply ifc h<;>intro _ h
 ·obtain rfl:=sj h
  conv=>whnf
  refine⟨_,_,⟨rfl,rfl⟩,wk [0] []⟩
 conv=>whnf
 refine bq h fun⟨⟨m,o,⟨q,e,f,g,i,j⟩,k,l⟩,u,w⟩ t h=>?_;refine zg (ux n _ _ _ _ t) [0] [] ?_;rintro _ _ ⟨rfl,rfl⟩;refine⟨.p (.agg [.int .i64 m,.str o,.int .i64 q,.bool e,.int .i64 f,.str g,.sl (Val.rows i),.sl (qy j),.sl (qy k),.sl (qb.rows l)]),[.box 135 [pK a,pI u,pB w]],rfl,rfl,?_⟩;conv=>whnf
 refine⟨Codec.one zU [qb.mk m o (Val.mk q e f g i j) k l],qb.rows [qb.mk m o (Val.mk q e f g i j) k l],.inl rfl,?_⟩;obtain rfl:=sj h;conv=>whnf
 refine⟨_,_,⟨rfl,rfl⟩,wk [0] []⟩
end W
end
section
set_option maxRecDepth 100000
set_option maxHeartbeats 20000000
open Go Go.Proofs Ax
namespace W
abbrev Um (_:List qk) (_:Int) (_:Bool) (r:qt×Int×Bool):FV:=.p ((PV.agg (ub.cells r.1)))
abbrev Ua (a:List qk) (_:Int) (_:Bool) (r:qt×Int×Bool):List AObj:=[.box 135 [pK a,.p (.int .i64 r.2.1),.p (.bool r.2.2)]]
def fB (n:Nat) (a:List qk) (b:Int) (k:List zj) (q:List qb) (B:Int) (H:SS) (N:Int) (O:Bool) (P:Int) (Q:SS) (c:List Val) (d e:List SS) (f:List qb) (g:SS) (o:List zx) (p:Int) (s:SS) (t:Int) (u:Bool) (v:Int) (w:SS) (x:List Val) (y z:List SS) (A:List qb) (C:SS) (m:Bool) (i:List qm) (j:List SS) (l:Bool):Int×Bool×List za->Option (qt×Int×Bool):=fun(D,E,F)=>
 bnd (vV n ([83,75,73,80]:SS) a D E) fun⟨G,I,J⟩=>
 bnd (vV n ([76,73,77,73,84]:SS) a I J) fun⟨K,L,M⟩=>
 some (qt.mk b k q (qb.mk B H (Val.mk N O P Q c d) e f) g (o++[zx.mk (qb.mk p s (Val.mk t u v w x y) z A) C]) m F G K i j l,L,M)
def gF (n:Nat) (a:List za) (b:Int) (c:SS) (d:Int) (e:Bool) (f:Int) (g:SS) (i:List Val) (j k:List SS) (l:List qb) (p:List qk) (m:Bool) (t:Int) (B:List zj) (G:List qb) (Q:Int) (S:SS) (T:Int) (U:Bool) (X:Int) (Y:SS) (u:List Val) (v w:List SS) (x:List qb) (y:SS) (E:List zx) (F:Int) (H:SS) (I:Int) (J:Bool) (K:Int) (L:SS) (M:List Val) (N O:List SS) (P:List qb) (R:SS) (D:Bool) (z:List qm) (A:List SS) (C:Bool) (s:Int×Bool×List za->Option (qt×Int×Bool)):Int×Bool->Option (qt×Int×Bool):=fun(V,o)=>
 chk (decide ((za.rows (a++[za.mk (qb.mk b c (Val.mk d e f g i j) k l) o])).length * 168<=140737488355328)) (
 bnd (ql n ([44]:SS) p V m) fun⟨W,q⟩=>
 bif(!W)then(
 fB n p t B G Q S T U X Y u v w x y E F H I J K L M N O P R D z A C (q,m,(a++[za.mk (qb.mk b c (Val.mk d e f g i j) k l) o])))
 else(
 s (q,m,(a++[za.mk (qb.mk b c (Val.mk d e f g i j) k l) o]))))
def bD (n:Nat) (a:List qk) (d:Int) (m:List zj) (t:List qb) (D:Int) (F:SS) (G:Int) (Q:Bool) (U:Int) (V:SS) (e:List Val) (f g:List SS) (i:List qb) (j:SS) (q:List zx) (s:Int) (u:SS) (v:Int) (w:Bool) (x:Int) (y:SS) (z:List Val) (A B:List SS) (C:List qb) (E:SS) (p:Bool) (k:List qm) (l:List SS) (o:Bool):LK (Int×Bool×List za) (qt×Int×Bool):=fun c (W,X,H)=>
 bnd (qB n a W X) fun⟨⟨I,J,⟨K,L,M,N,O,P⟩,R,S⟩,Y,b⟩=>
 bnd (ql n ([65,83,67]:SS) a Y b) fun⟨Z,T⟩=>
 bif(!Z)then(
 bnd (ql n ([68,69,83,67]:SS) a T b) fun⟨a0,a1⟩=>
 gF n H I J K L M N O P R S a b d m t D F G Q U V e f g i j q s u v w x y z A B C E p k l o c (a1,a0))
 else(
 gF n H I J K L M N O P R S a b d m t D F G Q U V e f g i j q s u v w x y z A B C E p k l o c (T,false))
def vq (n:Nat) (c:List zx) (d:Int) (e:SS) (f:Int) (g:Bool) (i:Int) (j:SS) (k:List Val) (l m:List SS) (o:List qb) (a:List qk) (q:Int) (z:List zj) (C:List qb) (D:Int) (F:SS) (H:Int) (I:Bool) (J:Int) (K:SS) (s:List Val) (t u:List SS) (v:List qb) (w:SS) (B:Bool) (x:List qm) (y:List SS) (A:Bool) (L:Int×Bool×List zx->Option (qt×Int×Bool)):Int×Bool×SS->Option (qt×Int×Bool):=fun(M,b,p)=>
 chk (decide ((zx.rows (c++[zx.mk (qb.mk d e (Val.mk f g i j k l) m o) p])).length * 176<=140737488355328)) (
 bnd (ql n ([44]:SS) a M b) fun⟨N,E⟩=>
 bif(!N)then(
 bnd (ql n ([79,82,68,69,82]:SS) a E b) fun⟨O,G⟩=>
 bif O then(
 bnd (qH n ([66,89]:SS) a G b) fun⟨P,Q⟩=>
 qU (bD n a q z C D F H I J K s t u v w c d e f g i j k l m o p B x y A) n (P,Q,([]:List _)))
 else(
 fB n a q z C D F H I J K s t u v w c d e f g i j k l m o p B x y A (G,b,([]:List _))))
 else(
 L (E,b,(c++[zx.mk (qb.mk d e (Val.mk f g i j k l) m o) p]))))
def bC (n:Nat) (a:List qk) (g:Int) (q:List zj) (v:List qb) (E:Int) (F:SS) (G:Int) (H:Bool) (I:Int) (J:SS) (i:List Val) (j k:List SS) (l:List qb) (m:SS) (t:Bool) (o:List qm) (p:List SS) (s:Bool):LK (Int×Bool×List zx) (qt×Int×Bool):=fun f (K,L,u)=>
 bnd (qB n a K L) fun⟨⟨b,c,⟨w,x,y,z,A,B⟩,C,D⟩,d,e⟩=>
 bif(!(b != 2))then(
 bnd (zE n ([65,83]:SS) a d e) fun M=>
 bif(bif(b != 2)then true else M)then(
 bnd (qH n ([65,83]:SS) a d e) fun⟨N,O⟩=>
 bnd (xw n a N O) fun⟨P,Q,R⟩=>
 vq n u b c w x y z A B C D a g q v E F G H I J i j k l m t o p s f (Q,R,P))
 else(
 vq n u b c w x y z A B C D a g q v E F G H I J i j k l m t o p s f (d,e,c)))
 else(
 bif(bif(b != 2)then true else false)then(
 bnd (qH n ([65,83]:SS) a d e) fun⟨S,T⟩=>
 bnd (xw n a S T) fun⟨U,V,W⟩=>
 vq n u b c w x y z A B C D a g q v E F G H I J i j k l m t o p s f (V,W,U))
 else(
 vq n u b c w x y z A B C D a g q v E F G H I J i j k l m t o p s f (d,e,c)))
def mg (n:Nat) (c:Int) (l:List zj) (s:List qb) (t:Int) (u:SS) (v:Int) (w:Bool) (x:Int) (y:SS) (d:List Val) (e f:List SS) (g:List qb) (i:SS) (_:Bool) (_ _:List qb) (j:List qm) (k:List SS) (m:Bool) (a:List qk) (o:Int) (b:Bool):Option (qt×Int×Bool):=
 bnd (ql n ([68,73,83,84,73,78,67,84]:SS) a o b) fun⟨p,q⟩=>
 qU (bC n a c l s t u v w x y d e f g i p j k m) n (q,b,([]:List _))
theorem sg (n:Nat):∀ (q:Int) (A:List zj) (D:List qb) (E:Int) (F:SS) (G:Int) (H:Bool) (I:Int) (J:SS) (s:List Val) (t u:List SS) (w:List qb) (x:SS) (a6:Bool) (M L:List qb) (y:List qm) (z:List SS) (C:Bool) (o:List qk) (a5:Int) (a3:Bool) (r:qt×Int×Bool),mg n q A D E F G H I J s t u w x a6 M L y z C o a5 a3=some r->zb TP 83 [.ptr 0 0,.p (.agg [.int .i64 q,.sl (zj.rows A),.sl (qb.rows D),.int .i64 E,.str F,.int .i64 G,.bool H,.int .i64 I,.str J,.sl (Val.rows s),.sl (qy t),.sl (qy u),.sl (qb.rows w),.str x,.nilsl,.bool a6,.nilsl,.sl (qb.rows M),.sl (qb.rows L),.sl (qm.rows y),.sl (qy z),.bool C])] [.box 135 [pK o,pI a5,pB a3]] 1 (fun v lo=>v=Um o a5 a3 r/\lo=Ua o a5 a3 r):=by
 intro q A D E F G H I J s t u w x a6 M L y z C o a5 a3 r h;unfold mg at h;refine zO Tryz.call83 Tryz.func83 [77,79,80,81,82,86,1000000] ?_;conv=>whnf
 refine bq h fun⟨K,f1⟩ d3 h=>?_;refine zg (qg n _ _ _ _ _ d3) [0] [] ?_;rintro _ _ ⟨rfl,rfl⟩;refine⟨pB K,[.box 135 [pK o,pI f1,pB a3],.box 65 [pI q,pP A,pE D,pI E,pS F,pI G,pB H,pI I,pS J,pV s,pT t,pT u,pE w,pS x,SV,pB a6,SV,pE M,pE L,pU y,pT z,pB C],SW],rfl,rfl,?_⟩;conv=>whnf
 refine zd.fn [77,79,80,81,82,86,1000000] (S:=Int×Bool×List zx) (fun(b0,b1,b)=>[(0,.ptr 0 0),(3,.ptr 1 0),(4,.ptr 2 0)]) (fun(b0,b1,b)=>[.box 135 [pK o,pI b0,pB b1],.box 65 [pI q,pP A,pE D,pI E,pS F,pI G,pB H,pI I,pS J,pV s,pT t,pT u,pE w,pS x,.tsl 3 (zx.rows b),pB K,SV,pE M,pE L,pU y,pT z,pB C],SW,.tail 102 11 (zx.rows b).length]) (B:=bC n o q A D E F G H I J s t u w x K y z C) h (wk [0,1,2,0] [3]) ?_;intro e9 st h;obtain⟨b0,b1,b⟩:=st;unfold bC at h;conv=>whnf
 refine bq h fun⟨⟨c,a,⟨d,e,f,g,i,j⟩,k,l⟩,a7,a8⟩ e1 h=>?_;refine zg (ux n _ _ _ _ e1) [0] [] ?_;rintro _ _ ⟨rfl,rfl⟩;refine⟨.p (.agg [.int .i64 c,.str a,.int .i64 d,.bool e,.int .i64 f,.str g,.sl (Val.rows i),.sl (qy j),.sl (qy k),.sl (qb.rows l)]),[.box 135 [pK o,pI a7,pB a8],.box 65 [pI q,pP A,pE D,pI E,pS F,pI G,pB H,pI I,pS J,pV s,pT t,pT u,pE w,pS x,.tsl 3 (zx.rows b),pB K,SV,pE M,pE L,pU y,pT z,pB C],SW,.tail 102 11 (zx.rows b).length,.box 102 [SR,SU,SR,pB false,SR,SU,SV,SV,SV,SV,SU]],rfl,rfl,?_⟩;conv=>whnf
 refine nu.cut (S:=Int×Bool×SS) (fun(b2,a2,m)=>[(0,.ptr 0 0),(3,.ptr 1 0),(4,.ptr 2 0),(5,.ptr 3 0)]) (fun(b2,a2,m)=>[.box 135 [pK o,pI b2,pB a2],.box 65 [pI q,pP A,pE D,pI E,pS F,pI G,pB H,pI I,pS J,pV s,pT t,pT u,pE w,pS x,.tsl 4 (zx.rows b),pB K,SV,pE M,pE L,pU y,pT z,pB C],SW,.box 102 [pI c,pS a,pI d,pB e,pI f,pS g,pV i,pT j,pT k,pE l,pS m],.tail 102 11 (zx.rows b).length]) (vq n b c a d e f g i j k l o q A D E F G H I J s t u w x K y z C e9) (r:=r) ?_ ?_
 ·intro st h
  obtain⟨b2,a2,m⟩:=st;unfold vq at h;conv=>whnf
  refine⟨Codec.one Uu [zx.mk (qb.mk c a (Val.mk d e f g i j) k l) m],zx.rows [zx.mk (qb.mk c a (Val.mk d e f g i j) k l) m],.inl rfl,?_⟩;conv=>whnf
  rw[show zx.rows b++zx.rows [zx.mk (qb.mk c a (Val.mk d e f g i j) k l) m]=zx.rows (b++[zx.mk (qb.mk c a (Val.mk d e f g i j) k l) m])from Codec.append Uu b [zx.mk (qb.mk c a (Val.mk d e f g i j) k l) m]];conv=>whnf
  obtain⟨c0,h⟩:=qL h;refine⟨⟨Codec.wide Uu (b++[zx.mk (qb.mk c a (Val.mk d e f g i j) k l) m]),kod c0,xK c0 (by decide)⟩,?_⟩;conv=>whnf
  refine⟨⟨rfl,rfl,rfl⟩,?_⟩;conv=>whnf
  refine bq h fun⟨f2,c1⟩ e2 h=>?_;refine zg (qg n _ _ _ _ _ e2) [0] [] ?_;rintro _ _ ⟨rfl,rfl⟩;refine⟨pB f2,[.box 135 [pK o,pI c1,pB a2],.box 65 [pI q,pP A,pE D,pI E,pS F,pI G,pB H,pI I,pS J,pV s,pT t,pT u,pE w,pS x,.tsl 5 (zx.rows (b++[zx.mk (qb.mk c a (Val.mk d e f g i j) k l) m])),pB K,SV,pE M,pE L,pU y,pT z,pB C],SW,.box 102 [pI c,pS a,pI d,pB e,pI f,pS g,pV i,pT j,pT k,pE l,pS m],.dead,.tail 102 11 (zx.rows (b++[zx.mk (qb.mk c a (Val.mk d e f g i j) k l) m])).length],rfl,rfl,?_⟩;conv=>whnf
  apply ifc h<;>intro a4 h
  ·conv=>whnf
   refine nu.cut (S:=Int×Bool×List za) (fun(b3,b4,a0)=>[(0,.ptr 0 0),(3,.ptr 1 0),(4,.ptr 2 0)]) (fun(b3,b4,a0)=>[.box 135 [pK o,pI b3,pB b4],.box 65 [pI q,pP A,pE D,pI E,pS F,pI G,pB H,pI I,pS J,pV s,pT t,pT u,pE w,pS x,.tsl 3 (zx.rows (b++[zx.mk (qb.mk c a (Val.mk d e f g i j) k l) m])),pB K,.tsl 4 (za.rows a0),pE M,pE L,pU y,pT z,pB C],SW,.tail 102 11 (zx.rows (b++[zx.mk (qb.mk c a (Val.mk d e f g i j) k l) m])).length,.tail 104 11 (za.rows a0).length]) (fB n o q A D E F G H I J s t u w x b c a d e f g i j k l m K y z C) (r:=r) ?_ ?_
   ·intro st h
    obtain⟨b3,b4,a0⟩:=st;unfold fB at h;(conv=>whnf);refine bq h fun⟨c2,f3,f4⟩ e3 h=>?_;refine zg (uN n _ _ _ _ _ e3) [0] [] ?_;rintro _ _ ⟨rfl,rfl⟩;refine⟨pE c2,[.box 135 [pK o,pI f3,pB f4],.box 65 [pI q,pP A,pE D,pI E,pS F,pI G,pB H,pI I,pS J,pV s,pT t,pT u,pE w,pS x,.tsl 3 (zx.rows (b++[zx.mk (qb.mk c a (Val.mk d e f g i j) k l) m])),pB K,.tsl 4 (za.rows a0),pE M,pE L,pU y,pT z,pB C],SW,.tail 102 11 (zx.rows (b++[zx.mk (qb.mk c a (Val.mk d e f g i j) k l) m])).length,.tail 104 11 (za.rows a0).length],rfl,rfl,?_⟩;(conv=>whnf);refine bq h fun⟨f5,f6,f7⟩ e4 h=>?_;refine zg (uN n _ _ _ _ _ e4) [0] [] ?_;rintro _ _ ⟨rfl,rfl⟩;refine⟨pE f5,[.box 135 [pK o,pI f6,pB f7],.box 65 [pI q,pP A,pE D,pI E,pS F,pI G,pB H,pI I,pS J,pV s,pT t,pT u,pE w,pS x,.tsl 3 (zx.rows (b++[zx.mk (qb.mk c a (Val.mk d e f g i j) k l) m])),pB K,.tsl 4 (za.rows a0),pE c2,pE L,pU y,pT z,pB C],SW,.tail 102 11 (zx.rows (b++[zx.mk (qb.mk c a (Val.mk d e f g i j) k l) m])).length,.tail 104 11 (za.rows a0).length],rfl,rfl,?_⟩;obtain rfl:=sj h;(conv=>whnf);refine⟨_,_,⟨rfl,rfl⟩,wk [0] []⟩
   conv=>whnf
   refine bq h fun⟨f8,c3⟩ e5 h=>?_;refine zg (qg n _ _ _ _ _ e5) [0] [] ?_;rintro _ _ ⟨rfl,rfl⟩;refine⟨pB f8,[.box 135 [pK o,pI c3,pB a2],.box 65 [pI q,pP A,pE D,pI E,pS F,pI G,pB H,pI I,pS J,pV s,pT t,pT u,pE w,pS x,.tsl 5 (zx.rows (b++[zx.mk (qb.mk c a (Val.mk d e f g i j) k l) m])),pB K,SV,pE M,pE L,pU y,pT z,pB C],SW,.box 102 [pI c,pS a,pI d,pB e,pI f,pS g,pV i,pT j,pT k,pE l,pS m],.dead,.tail 102 11 (zx.rows (b++[zx.mk (qb.mk c a (Val.mk d e f g i j) k l) m])).length],rfl,rfl,?_⟩;conv=>whnf
   apply ifc h<;>intro a4 h
   ·conv=>whnf
    refine bq h fun⟨f9,g0⟩ e6 h=>?_;refine zg (qv n _ _ _ _ _ e6) [0] [] ?_;rintro _ _ ⟨rfl,rfl⟩;refine⟨.p (.tup []),[.box 135 [pK o,pI f9,pB g0],.box 65 [pI q,pP A,pE D,pI E,pS F,pI G,pB H,pI I,pS J,pV s,pT t,pT u,pE w,pS x,.tsl 5 (zx.rows (b++[zx.mk (qb.mk c a (Val.mk d e f g i j) k l) m])),pB K,SV,pE M,pE L,pU y,pT z,pB C],SW,.box 102 [pI c,pS a,pI d,pB e,pI f,pS g,pV i,pT j,pT k,pE l,pS m],.dead,.tail 102 11 (zx.rows (b++[zx.mk (qb.mk c a (Val.mk d e f g i j) k l) m])).length],rfl,rfl,?_⟩;(conv=>whnf);refine zd.fn [77,79,80,81,82,86,1000000] (S:=Int×Bool×List za) (fun(b5,b6,N)=>[(0,.ptr 0 0),(3,.ptr 1 0),(4,.ptr 2 0)]) (fun(b5,b6,N)=>[.box 135 [pK o,pI b5,pB b6],.box 65 [pI q,pP A,pE D,pI E,pS F,pI G,pB H,pI I,pS J,pV s,pT t,pT u,pE w,pS x,.tsl 3 (zx.rows (b++[zx.mk (qb.mk c a (Val.mk d e f g i j) k l) m])),pB K,.tsl 4 (za.rows N),pE M,pE L,pU y,pT z,pB C],SW,.tail 102 11 (zx.rows (b++[zx.mk (qb.mk c a (Val.mk d e f g i j) k l) m])).length,.tail 104 11 (za.rows N).length]) (B:=bD n o q A D E F G H I J s t u w x b c a d e f g i j k l m K y z C) h (wk [0,1,2,5,0] [4]) ?_;intro f0 st h;obtain⟨b5,b6,N⟩:=st;unfold bD at h;(conv=>whnf);refine bq h fun⟨⟨O,P,⟨Q,R,T,U,V,W⟩,X,Y⟩,g1,a1⟩ e7 h=>?_;refine zg (ux n _ _ _ _ e7) [0] [] ?_;rintro _ _ ⟨rfl,rfl⟩;refine⟨.p (.agg [.int .i64 O,.str P,.int .i64 Q,.bool R,.int .i64 T,.str U,.sl (Val.rows V),.sl (qy W),.sl (qy X),.sl (qb.rows Y)]),[.box 135 [pK o,pI g1,pB a1],.box 65 [pI q,pP A,pE D,pI E,pS F,pI G,pB H,pI I,pS J,pV s,pT t,pT u,pE w,pS x,.tsl 3 (zx.rows (b++[zx.mk (qb.mk c a (Val.mk d e f g i j) k l) m])),pB K,.tsl 4 (za.rows N),pE M,pE L,pU y,pT z,pB C],SW,.tail 102 11 (zx.rows (b++[zx.mk (qb.mk c a (Val.mk d e f g i j) k l) m])).length,.tail 104 11 (za.rows N).length,.box 104 [SR,SU,SR,pB false,SR,SU,SV,SV,SV,SV,pB false]],rfl,rfl,?_⟩;(conv=>whnf);refine nu.cut (S:=Int×Bool) (fun(b7,Z)=>[(0,.ptr 0 0),(3,.ptr 1 0),(4,.ptr 2 0),(6,.ptr 3 0)]) (fun(b7,Z)=>[.box 135 [pK o,pI b7,pB a1],.box 65 [pI q,pP A,pE D,pI E,pS F,pI G,pB H,pI I,pS J,pV s,pT t,pT u,pE w,pS x,.tsl 4 (zx.rows (b++[zx.mk (qb.mk c a (Val.mk d e f g i j) k l) m])),pB K,.tsl 5 (za.rows N),pE M,pE L,pU y,pT z,pB C],SW,.box 104 [pI O,pS P,pI Q,pB R,pI T,pS U,pV V,pT W,pT X,pE Y,pB Z],.tail 102 11 (zx.rows (b++[zx.mk (qb.mk c a (Val.mk d e f g i j) k l) m])).length,.tail 104 11 (za.rows N).length]) (gF n N O P Q R T U V W X Y o a1 q A D E F G H I J s t u w x b c a d e f g i j k l m K y z C f0) (r:=r) ?_ ?_
    ·intro st h
     obtain⟨b7,Z⟩:=st;unfold gF at h;(conv=>whnf);refine⟨Codec.one Qg [za.mk (qb.mk O P (Val.mk Q R T U V W) X Y) Z],za.rows [za.mk (qb.mk O P (Val.mk Q R T U V W) X Y) Z],.inl rfl,?_⟩;(conv=>whnf);rw[show za.rows N++za.rows [za.mk (qb.mk O P (Val.mk Q R T U V W) X Y) Z]=za.rows (N++[za.mk (qb.mk O P (Val.mk Q R T U V W) X Y) Z])from Codec.append Qg N [za.mk (qb.mk O P (Val.mk Q R T U V W) X Y) Z]];(conv=>whnf);obtain⟨b9,h⟩:=qL h;refine⟨⟨Codec.wide Qg (N++[za.mk (qb.mk O P (Val.mk Q R T U V W) X Y) Z]),kod b9,xK b9 (by decide)⟩,?_⟩;(conv=>whnf);refine⟨⟨rfl,rfl,rfl⟩,?_⟩;(conv=>whnf);refine bq h fun⟨g2,b8⟩ e8 h=>?_;refine zg (qg n _ _ _ _ _ e8) [0] [] ?_;rintro _ _ ⟨rfl,rfl⟩;refine⟨pB g2,[.box 135 [pK o,pI b8,pB a1],.box 65 [pI q,pP A,pE D,pI E,pS F,pI G,pB H,pI I,pS J,pV s,pT t,pT u,pE w,pS x,.tsl 4 (zx.rows (b++[zx.mk (qb.mk c a (Val.mk d e f g i j) k l) m])),pB K,.tsl 6 (za.rows (N++[za.mk (qb.mk O P (Val.mk Q R T U V W) X Y) Z])),pE M,pE L,pU y,pT z,pB C],SW,.box 104 [pI O,pS P,pI Q,pB R,pI T,pS U,pV V,pT W,pT X,pE Y,pB Z],.tail 102 11 (zx.rows (b++[zx.mk (qb.mk c a (Val.mk d e f g i j) k l) m])).length,.dead,.tail 104 11 (za.rows (N++[za.mk (qb.mk O P (Val.mk Q R T U V W) X Y) Z])).length],rfl,rfl,?_⟩;(conv=>whnf);apply ifc h<;>intro a4 h
     ·conv=>whnf
      exact⟨(b8,a1,(N++[za.mk (qb.mk O P (Val.mk Q R T U V W) X Y) Z])),h,wk [0,1,2,4,6] []⟩
     (conv=>whnf);exact⟨(b8,a1,(N++[za.mk (qb.mk O P (Val.mk Q R T U V W) X Y) Z])),h,wk [0,1,2,4,6] []⟩
    (conv=>whnf);refine bq h fun⟨g3,c4⟩ d4 h=>?_
    refine zg (qg n _ _ _ _ _ d4) [0] [] ?_;rintro _ _ ⟨rfl,rfl⟩;refine⟨pB g3,[.box 135 [pK o,pI c4,pB a1],.box 65 [pI q,pP A,pE D,pI E,pS F,pI G,pB H,pI I,pS J,pV s,pT t,pT u,pE w,pS x,.tsl 3 (zx.rows (b++[zx.mk (qb.mk c a (Val.mk d e f g i j) k l) m])),pB K,.tsl 4 (za.rows N),pE M,pE L,pU y,pT z,pB C],SW,.tail 102 11 (zx.rows (b++[zx.mk (qb.mk c a (Val.mk d e f g i j) k l) m])).length,.tail 104 11 (za.rows N).length,.box 104 [pI O,pS P,pI Q,pB R,pI T,pS U,pV V,pT W,pT X,pE Y,pB false]],rfl,rfl,?_⟩;(conv=>whnf);apply ifc h<;>intro a4 h
    ·conv=>whnf
     refine bq h fun⟨c5,c6⟩ d5 h=>?_;refine zg (qg n _ _ _ _ _ d5) [0] [] ?_;rintro _ _ ⟨rfl,rfl⟩;refine⟨pB c5,[.box 135 [pK o,pI c6,pB a1],.box 65 [pI q,pP A,pE D,pI E,pS F,pI G,pB H,pI I,pS J,pV s,pT t,pT u,pE w,pS x,.tsl 3 (zx.rows (b++[zx.mk (qb.mk c a (Val.mk d e f g i j) k l) m])),pB K,.tsl 4 (za.rows N),pE M,pE L,pU y,pT z,pB C],SW,.tail 102 11 (zx.rows (b++[zx.mk (qb.mk c a (Val.mk d e f g i j) k l) m])).length,.tail 104 11 (za.rows N).length,.box 104 [pI O,pS P,pI Q,pB R,pI T,pS U,pV V,pT W,pT X,pE Y,pB false]],rfl,rfl,?_⟩;(conv=>whnf);exact⟨(c6,c5),h,wk [0,1,2,5,3,4] []⟩
    (conv=>whnf);exact⟨(c4,false),h,wk [0,1,2,5,3,4] []⟩
   conv=>whnf
   exact⟨(c3,a2,([]:List _)),h,wk [0,1,2,5,0] [4]⟩
  conv=>whnf
  exact⟨(c1,a2,(b++[zx.mk (qb.mk c a (Val.mk d e f g i j) k l) m])),h,wk [0,1,2,5] []⟩
 conv=>whnf
 refine⟨fun a9=>?_,fun a9=>?_⟩
 ·replace h:=uU h a9
  conv=>whnf
  refine⟨id,?_⟩;conv=>whnf
  refine bq h fun g4 d6 h=>?_;refine zg (zi n _ _ _ _ _ d6) [0] [] ?_;rintro _ _ ⟨rfl,rfl⟩;refine⟨pB g4,[.box 135 [pK o,pI a7,pB a8],.box 65 [pI q,pP A,pE D,pI E,pS F,pI G,pB H,pI I,pS J,pV s,pT t,pT u,pE w,pS x,.tsl 3 (zx.rows b),pB K,SV,pE M,pE L,pU y,pT z,pB C],SW,.tail 102 11 (zx.rows b).length,.box 102 [pI c,pS a,pI d,pB e,pI f,pS g,pV i,pT j,pT k,pE l,pS a]],rfl,rfl,?_⟩;conv=>whnf
  refine⟨id,?_⟩;conv=>whnf
  apply ifc h<;>intro a4 h
  ·conv=>whnf
   refine bq h fun⟨g5,g6⟩ d7 h=>?_;refine zg (qv n _ _ _ _ _ d7) [0] [] ?_;rintro _ _ ⟨rfl,rfl⟩;refine⟨.p (.tup []),[.box 135 [pK o,pI g5,pB g6],.box 65 [pI q,pP A,pE D,pI E,pS F,pI G,pB H,pI I,pS J,pV s,pT t,pT u,pE w,pS x,.tsl 3 (zx.rows b),pB K,SV,pE M,pE L,pU y,pT z,pB C],SW,.tail 102 11 (zx.rows b).length,.box 102 [pI c,pS a,pI d,pB e,pI f,pS g,pV i,pT j,pT k,pE l,pS a]],rfl,rfl,?_⟩;conv=>whnf
   refine bq h fun⟨c7,c8,c9⟩ d8 h=>?_;refine zg (xh n _ _ _ _ d8) [0] [] ?_;rintro _ _ ⟨rfl,rfl⟩;refine⟨pS c7,[.box 135 [pK o,pI c8,pB c9],.box 65 [pI q,pP A,pE D,pI E,pS F,pI G,pB H,pI I,pS J,pV s,pT t,pT u,pE w,pS x,.tsl 3 (zx.rows b),pB K,SV,pE M,pE L,pU y,pT z,pB C],SW,.tail 102 11 (zx.rows b).length,.box 102 [pI c,pS a,pI d,pB e,pI f,pS g,pV i,pT j,pT k,pE l,pS a]],rfl,rfl,?_⟩;conv=>whnf
   exact⟨(c8,c9,c7),h,wk [0,1,2,4,3] []⟩
  conv=>whnf
  exact⟨(a7,a8,a),h,wk [0,1,2,4,3] []⟩
 replace h:=uT h a9;refine⟨pB false,?_⟩;conv=>whnf
 refine⟨id,?_⟩;conv=>whnf
 apply ifc h<;>intro a4 h
 ·conv=>whnf
  refine bq h fun⟨g7,g8⟩ d9 h=>?_;refine zg (qv n _ _ _ _ _ d9) [0] [] ?_;rintro _ _ ⟨rfl,rfl⟩;refine⟨.p (.tup []),[.box 135 [pK o,pI g7,pB g8],.box 65 [pI q,pP A,pE D,pI E,pS F,pI G,pB H,pI I,pS J,pV s,pT t,pT u,pE w,pS x,.tsl 3 (zx.rows b),pB K,SV,pE M,pE L,pU y,pT z,pB C],SW,.tail 102 11 (zx.rows b).length,.box 102 [pI c,pS a,pI d,pB e,pI f,pS g,pV i,pT j,pT k,pE l,pS a]],rfl,rfl,?_⟩;conv=>whnf
  refine bq h fun⟨d0,d1,d2⟩ e0 h=>?_;refine zg (xh n _ _ _ _ e0) [0] [] ?_;rintro _ _ ⟨rfl,rfl⟩;refine⟨pS d0,[.box 135 [pK o,pI d1,pB d2],.box 65 [pI q,pP A,pE D,pI E,pS F,pI G,pB H,pI I,pS J,pV s,pT t,pT u,pE w,pS x,.tsl 3 (zx.rows b),pB K,SV,pE M,pE L,pU y,pT z,pB C],SW,.tail 102 11 (zx.rows b).length,.box 102 [pI c,pS a,pI d,pB e,pI f,pS g,pV i,pT j,pT k,pE l,pS a]],rfl,rfl,?_⟩;conv=>whnf
  exact⟨(d1,d2,d0),h,wk [0,1,2,4,3] []⟩
 conv=>whnf
 exact⟨(a7,a8,a),h,wk [0,1,2,4,3] []⟩
end W
end
section
set_option maxRecDepth 100000
set_option maxHeartbeats 20000000
open Go Go.Proofs Ax
namespace W
abbrev Un (_:List qk) (_:Int) (_:Bool) (r:qt×Int×Bool):FV:=.p ((PV.agg (ub.cells r.1)))
abbrev Ub (a:List qk) (_:Int) (_:Bool) (r:qt×Int×Bool):List AObj:=[.box 135 [pK a,.p (.int .i64 r.2.1),.p (.bool r.2.2)]]
def uy (n:Nat) (a:List qm) (b:SS) (I:List qk) (u:Int) (F:List zj) (J:List qb) (L:Int) (N:SS) (O:Int) (P:Bool) (Q:Int) (R:SS) (v:List Val) (w x:List SS) (y:List qb) (z:SS) (A:List zx) (B:Bool) (C:List za) (D E:List qb) (G:List SS) (H:Bool) (t:Int×Bool×List qm->Option (qt×Int×Bool)):Int×Bool×SS×SS×Int×SS×Int×Bool×Int×SS×List Val×List SS×List SS×List qb->Option (qt×Int×Bool):=fun(K,c,d,e,f,g,i,j,k,l,m,o,p,q)=>
 chk (decide ((qm.rows (a++[qm.mk b d e (qb.mk f g (Val.mk i j k l m o) p q)])).length * 208<=140737488355328)) (
 bnd (ql n ([44]:SS) I K c) fun⟨M,s⟩=>
 bif(!M)then(
 some (qt.mk u F J (qb.mk L N (Val.mk O P Q R v w) x y) z A B C D E (a++[qm.mk b d e (qb.mk f g (Val.mk i j k l m o) p q)]) G H,s,c))
 else(
 t (s,c,(a++[qm.mk b d e (qb.mk f g (Val.mk i j k l m o) p q)]))))
def bF (n:Nat) (a:List qk) (b:Int) (p:List zj) (v:List qb) (x:Int) (y:SS) (z:Int) (A:Bool) (B:Int) (C:SS) (d:List Val) (e f:List SS) (g:List qb) (i:SS) (j:List zx) (k:Bool) (l:List za) (m o:List qb) (q:List SS) (s:Bool):LK (Int×Bool×List qm) (qt×Int×Bool):=fun c (H,I,t)=>
 bnd (xw n a H I) fun⟨u,J,w⟩=>
 bnd (ql n ([58]:SS) a J w) fun⟨K,D⟩=>
 bif K then(
 bnd (xY n a D w) fun⟨L,M,N⟩=>
 uy n t u a b p v x y z A B C d e f g i j k l m o q s c (M,N,([]:SS),L,(0:Int),([]:SS),(0:Int),false,(0:Int),([]:SS),([]:List _),([]:List _),([]:List _),([]:List _)))
 else(
 bnd (qH n ([46]:SS) a D w) fun⟨O,P⟩=>
 bnd (xY n a O P) fun⟨E,F,G⟩=>
 bif(b==6)then(
 bnd (qH n ([61]:SS) a F G) fun⟨Q,R⟩=>
 bnd (qB n a Q R) fun⟨⟨S,T,⟨U,V,W,X,Y,Z⟩,a0,a1⟩,a2,a3⟩=>
 uy n t u a b p v x y z A B C d e f g i j k l m o q s c (a2,a3,E,([]:SS),S,T,U,V,W,X,Y,Z,a0,a1))
 else(
 uy n t u a b p v x y z A B C d e f g i j k l m o q s c (F,G,E,([]:SS),(0:Int),([]:SS),(0:Int),false,(0:Int),([]:SS),([]:List _),([]:List _),([]:List _),([]:List _))))
def mh (n:Nat) (a:Int) (m:List zj) (u:List qb) (v:Int) (w:SS) (x:Int) (y:Bool) (z:Int) (A:SS) (b:List Val) (c d:List SS) (e:List qb) (f:SS) (g:List zx) (i:Bool) (j:List za) (k l:List qb) (o:List SS) (p:Bool) (q:List qk) (s:Int) (t:Bool):Option (qt×Int×Bool):=
 qU (bF n q a m u v w x y z A b c d e f g i j k l o p) n (s,t,([]:List _))
theorem sh (n:Nat):∀ (d:Int) (s:List zj) (w:List qb) (x:Int) (y:SS) (z:Int) (A:Bool) (C:Int) (D:SS) (e:List Val) (f g:List SS) (i:List qb) (j:SS) (k:List zx) (l:Bool) (m:List za) (o q:List qb) (t:List SS) (u:Bool) (c:List qk) (Q:Int) (R:Bool) (r:qt×Int×Bool),mh n d s w x y z A C D e f g i j k l m o q t u c Q R=some r->zb TP 85 [.ptr 0 0,.p (.agg [.int .i64 d,.sl (zj.rows s),.sl (qb.rows w),.int .i64 x,.str y,.int .i64 z,.bool A,.int .i64 C,.str D,.sl (Val.rows e),.sl (qy f),.sl (qy g),.sl (qb.rows i),.str j,.sl (zx.rows k),.bool l,.sl (za.rows m),.sl (qb.rows o),.sl (qb.rows q),.nilsl,.sl (qy t),.bool u])] [.box 135 [pK c,pI Q,pB R]] 1 (fun v lo=>v=Un c Q R r/\lo=Ub c Q R r):=by
 intro d s w x y z A C D e f g i j k l m o q t u c Q R r h;unfold mh at h;refine zO Tryz.call85 Tryz.func85 [77,80,81,82,124,1000000] ?_;conv=>whnf
 refine zd.fn [77,80,81,82,124,1000000] (S:=Int×Bool×List qm) (fun(V,W,a)=>[(0,.ptr 0 0),(3,.ptr 1 0),(4,.ptr 2 0)]) (fun(V,W,a)=>[.box 135 [pK c,pI V,pB W],.box 65 [pI d,pP s,pE w,pI x,pS y,pI z,pB A,pI C,pS D,pV e,pT f,pT g,pE i,pS j,pA k,pB l,pO m,pE o,pE q,.tsl 3 (qm.rows a),pT t,pB u],SW,.tail 106 13 (qm.rows a).length]) (B:=bF n c d s w x y z A C D e f g i j k l m o q t u) h (wk [0,1,2,0] [3]) ?_;intro c7 st h;obtain⟨V,W,a⟩:=st;unfold bF at h;conv=>whnf
 refine bq h fun⟨b,c8,a0⟩ b9 h=>?_;refine zg (xh n _ _ _ _ b9) [0] [] ?_;rintro _ _ ⟨rfl,rfl⟩;refine⟨pS b,[.box 135 [pK c,pI c8,pB a0],.box 65 [pI d,pP s,pE w,pI x,pS y,pI z,pB A,pI C,pS D,pV e,pT f,pT g,pE i,pS j,pA k,pB l,pO m,pE o,pE q,.tsl 3 (qm.rows a),pT t,pB u],SW,.tail 106 13 (qm.rows a).length,.box 106 [SU,SU,SU,SR,SU,SR,pB false,SR,SU,SV,SV,SV,SV]],rfl,rfl,?_⟩;conv=>whnf
 refine nu.cut (S:=Int×Bool×SS×SS×Int×SS×Int×Bool×Int×SS×List Val×List SS×List SS×List qb) (fun(X,T,E,F,G,H,I,J,K,L,M,N,O,P)=>[(0,.ptr 0 0),(3,.ptr 1 0),(4,.ptr 2 0),(5,.ptr 3 0)]) (fun(X,T,E,F,G,H,I,J,K,L,M,N,O,P)=>[.box 135 [pK c,pI X,pB T],.box 65 [pI d,pP s,pE w,pI x,pS y,pI z,pB A,pI C,pS D,pV e,pT f,pT g,pE i,pS j,pA k,pB l,pO m,pE o,pE q,.tsl 4 (qm.rows a),pT t,pB u],SW,.box 106 [pS b,pS E,pS F,pI G,pS H,pI I,pB J,pI K,pS L,pV M,pT N,pT O,pE P],.tail 106 13 (qm.rows a).length]) (uy n a b c d s w x y z A C D e f g i j k l m o q t u c7) (r:=r) ?_ ?_
 ·intro st h
  obtain⟨X,T,E,F,G,H,I,J,K,L,M,N,O,P⟩:=st;unfold uy at h;conv=>whnf
  refine⟨Codec.one mz [qm.mk b E F (qb.mk G H (Val.mk I J K L M N) O P)],qm.rows [qm.mk b E F (qb.mk G H (Val.mk I J K L M N) O P)],.inl rfl,?_⟩;conv=>whnf
  rw[show qm.rows a++qm.rows [qm.mk b E F (qb.mk G H (Val.mk I J K L M N) O P)]=qm.rows (a++[qm.mk b E F (qb.mk G H (Val.mk I J K L M N) O P)])from Codec.append mz a [qm.mk b E F (qb.mk G H (Val.mk I J K L M N) O P)]];conv=>whnf
  obtain⟨Y,h⟩:=qL h;refine⟨⟨Codec.wide mz (a++[qm.mk b E F (qb.mk G H (Val.mk I J K L M N) O P)]),kod Y,xK Y (by decide)⟩,?_⟩;conv=>whnf
  refine⟨⟨rfl,rfl,rfl⟩,?_⟩;conv=>whnf
  refine bq h fun⟨c9,a1⟩ c0 h=>?_;refine zg (qg n _ _ _ _ _ c0) [0] [] ?_;rintro _ _ ⟨rfl,rfl⟩;refine⟨pB c9,[.box 135 [pK c,pI a1,pB T],.box 65 [pI d,pP s,pE w,pI x,pS y,pI z,pB A,pI C,pS D,pV e,pT f,pT g,pE i,pS j,pA k,pB l,pO m,pE o,pE q,.tsl 5 (qm.rows (a++[qm.mk b E F (qb.mk G H (Val.mk I J K L M N) O P)])),pT t,pB u],SW,.box 106 [pS b,pS E,pS F,pI G,pS H,pI I,pB J,pI K,pS L,pV M,pT N,pT O,pE P],.dead,.tail 106 13 (qm.rows (a++[qm.mk b E F (qb.mk G H (Val.mk I J K L M N) O P)])).length],rfl,rfl,?_⟩;conv=>whnf
  apply ifc h<;>intro Z h
  ·obtain rfl:=sj h
   conv=>whnf
   refine⟨_,_,⟨rfl,rfl⟩,wk [0] []⟩
  conv=>whnf
  exact⟨(a1,T,(a++[qm.mk b E F (qb.mk G H (Val.mk I J K L M N) O P)])),h,wk [0,1,2,5] []⟩
 conv=>whnf
 refine bq h fun⟨d0,d1⟩ c1 h=>?_;refine zg (qg n _ _ _ _ _ c1) [0] [] ?_;rintro _ _ ⟨rfl,rfl⟩;refine⟨pB d0,[.box 135 [pK c,pI d1,pB a0],.box 65 [pI d,pP s,pE w,pI x,pS y,pI z,pB A,pI C,pS D,pV e,pT f,pT g,pE i,pS j,pA k,pB l,pO m,pE o,pE q,.tsl 3 (qm.rows a),pT t,pB u],SW,.tail 106 13 (qm.rows a).length,.box 106 [pS b,SU,SU,SR,SU,SR,pB false,SR,SU,SV,SV,SV,SV]],rfl,rfl,?_⟩;conv=>whnf
 apply ifc h<;>intro Z h
 ·conv=>whnf
  refine bq h fun⟨a2,a3,a4⟩ c2 h=>?_;refine zg (xu n _ _ _ _ c2) [0] [] ?_;rintro _ _ ⟨rfl,rfl⟩;refine⟨pS a2,[.box 135 [pK c,pI a3,pB a4],.box 65 [pI d,pP s,pE w,pI x,pS y,pI z,pB A,pI C,pS D,pV e,pT f,pT g,pE i,pS j,pA k,pB l,pO m,pE o,pE q,.tsl 3 (qm.rows a),pT t,pB u],SW,.tail 106 13 (qm.rows a).length,.box 106 [pS b,SU,SU,SR,SU,SR,pB false,SR,SU,SV,SV,SV,SV]],rfl,rfl,?_⟩;conv=>whnf
  exact⟨(a3,a4,([]:SS),a2,(0:Int),([]:SS),(0:Int),false,(0:Int),([]:SS),([]:List _),([]:List _),([]:List _),([]:List _)),h,wk [0,1,2,4,3] []⟩
 conv=>whnf
 refine bq h fun⟨d2,d3⟩ c3 h=>?_;refine zg (qv n _ _ _ _ _ c3) [0] [] ?_;rintro _ _ ⟨rfl,rfl⟩;refine⟨.p (.tup []),[.box 135 [pK c,pI d2,pB d3],.box 65 [pI d,pP s,pE w,pI x,pS y,pI z,pB A,pI C,pS D,pV e,pT f,pT g,pE i,pS j,pA k,pB l,pO m,pE o,pE q,.tsl 3 (qm.rows a),pT t,pB u],SW,.tail 106 13 (qm.rows a).length,.box 106 [pS b,SU,SU,SR,SU,SR,pB false,SR,SU,SV,SV,SV,SV]],rfl,rfl,?_⟩;conv=>whnf
 refine bq h fun⟨U,a5,a6⟩ c4 h=>?_;refine zg (xu n _ _ _ _ c4) [0] [] ?_;rintro _ _ ⟨rfl,rfl⟩;refine⟨pS U,[.box 135 [pK c,pI a5,pB a6],.box 65 [pI d,pP s,pE w,pI x,pS y,pI z,pB A,pI C,pS D,pV e,pT f,pT g,pE i,pS j,pA k,pB l,pO m,pE o,pE q,.tsl 3 (qm.rows a),pT t,pB u],SW,.tail 106 13 (qm.rows a).length,.box 106 [pS b,SU,SU,SR,SU,SR,pB false,SR,SU,SV,SV,SV,SV]],rfl,rfl,?_⟩;conv=>whnf
 apply ifc h<;>intro Z h
 ·conv=>whnf
  refine bq h fun⟨d4,d5⟩ c5 h=>?_;refine zg (qv n _ _ _ _ _ c5) [0] [] ?_;rintro _ _ ⟨rfl,rfl⟩;refine⟨.p (.tup []),[.box 135 [pK c,pI d4,pB d5],.box 65 [pI d,pP s,pE w,pI x,pS y,pI z,pB A,pI C,pS D,pV e,pT f,pT g,pE i,pS j,pA k,pB l,pO m,pE o,pE q,.tsl 3 (qm.rows a),pT t,pB u],SW,.tail 106 13 (qm.rows a).length,.box 106 [pS b,pS U,SU,SR,SU,SR,pB false,SR,SU,SV,SV,SV,SV]],rfl,rfl,?_⟩;conv=>whnf
  refine bq h fun⟨⟨a7,a8,⟨a9,b0,b1,b2,b3,b4⟩,b5,b6⟩,b7,b8⟩ c6 h=>?_;refine zg (ux n _ _ _ _ c6) [0] [] ?_;rintro _ _ ⟨rfl,rfl⟩;refine⟨.p (.agg [.int .i64 a7,.str a8,.int .i64 a9,.bool b0,.int .i64 b1,.str b2,.sl (Val.rows b3),.sl (qy b4),.sl (qy b5),.sl (qb.rows b6)]),[.box 135 [pK c,pI b7,pB b8],.box 65 [pI d,pP s,pE w,pI x,pS y,pI z,pB A,pI C,pS D,pV e,pT f,pT g,pE i,pS j,pA k,pB l,pO m,pE o,pE q,.tsl 3 (qm.rows a),pT t,pB u],SW,.tail 106 13 (qm.rows a).length,.box 106 [pS b,pS U,SU,SR,SU,SR,pB false,SR,SU,SV,SV,SV,SV]],rfl,rfl,?_⟩;conv=>whnf
  exact⟨(b7,b8,U,([]:SS),a7,a8,a9,b0,b1,b2,b3,b4,b5,b6),h,wk [0,1,2,4,3] []⟩
 conv=>whnf
 exact⟨(a5,a6,U,([]:SS),(0:Int),([]:SS),(0:Int),false,(0:Int),([]:SS),([]:List _),([]:List _),([]:List _),([]:List _)),h,wk [0,1,2,4,3] []⟩
end W
end
section
set_option maxRecDepth 100000
set_option maxHeartbeats 20000000
open Go Go.Proofs Ax
namespace W
abbrev ZQ (_:List qk) (_:Int) (_:Bool) (r:qt×Int×Bool):FV:=.p ((PV.agg (ub.cells r.1)))
abbrev ZG (a:List qk) (_:Int) (_:Bool) (r:qt×Int×Bool):List AObj:=[.box 135 [pK a,.p (.int .i64 r.2.1),.p (.bool r.2.2)]]
def zn (n:Nat):Int×Bool×Int×List zj×List qb×Int×SS×Int×Bool×Int×SS×List Val×List SS×List SS×List qb×SS×List zx×Bool×List za×List qb×List qb×List qm×List SS×Bool->Option (qt×Int×Bool):=fun(v,w,x,y,z,A,a,b,c,d,e,f,g,i,j,k,l,m,o,p,q,s,t,u)=>
 some (qt.mk x y z (qb.mk A a (Val.mk b c d e f g) i j) k l m o p q s t u,v,w)
def ck (n:Nat) (d:List qk) (g:Bool):LK (Int×Bool×List SS) (qt×Int×Bool):=fun f (i,j,a)=>
 bnd (xw n d i j) fun⟨b,k,c⟩=>
 chk (decide ((qy (a++[b])).length * 16<=140737488355328)) (
 bnd (ql n ([44]:SS) d k c) fun⟨l,e⟩=>
 bif(!l)then(
 some (qt.mk (8:Int) ([]:List zj) ([]:List qb) (qb.mk (0:Int) ([]:SS) (Val.mk (0:Int) false (0:Int) ([]:SS) ([]:List Val) ([]:List SS)) ([]:List SS) ([]:List qb)) ([]:SS) ([]:List zx) false ([]:List za) ([]:List qb) ([]:List qb) ([]:List qm) (a++[b]) g,e,c))
 else(
 f (e,c,(a++[b]))))
def cl (n:Nat) (d:List qk) (g:Bool):LK (Int×Bool×List SS) (qt×Int×Bool):=fun f (i,j,a)=>
 bnd (xw n d i j) fun⟨b,k,c⟩=>
 chk (decide ((qy (a++[b])).length * 16<=140737488355328)) (
 bnd (ql n ([44]:SS) d k c) fun⟨l,e⟩=>
 bif(!l)then(
 some (qt.mk (8:Int) ([]:List zj) ([]:List qb) (qb.mk (0:Int) ([]:SS) (Val.mk (0:Int) false (0:Int) ([]:SS) ([]:List Val) ([]:List SS)) ([]:List SS) ([]:List qb)) ([]:SS) ([]:List zx) false ([]:List za) ([]:List qb) ([]:List qb) ([]:List qm) (a++[b]) g,e,c))
 else(
 f (e,c,(a++[b]))))
def mU (n:Nat) (a:List qk) (e2:Int) (b:Bool):Option (qt×Int×Bool):=
 bnd (ql n ([77,65,84,67,72]:SS) a e2 b) fun⟨e3,i⟩=>
 bif e3 then(
 bnd (dI n a i b) fun⟨e4,e5,e6⟩=>
 bnd (vV n ([87,72,69,82,69]:SS) a e5 e6) fun⟨e7,e8,e9⟩=>
 zn n (e8,e9,(1:Int),e4,e7,(0:Int),([]:SS),(0:Int),false,(0:Int),([]:SS),([]:List _),([]:List _),([]:List _),([]:List _),([]:SS),([]:List _),false,([]:List _),([]:List _),([]:List _),([]:List _),([]:List _),false))
 else(
 bnd (ql n ([85,78,87,73,78,68]:SS) a i b) fun⟨f0,j⟩=>
 bif f0 then(
 bnd (qB n a j b) fun⟨⟨f1,f2,⟨f3,f4,f5,f6,f7,f8⟩,f9,g0⟩,g1,g2⟩=>
 bnd (qH n ([65,83]:SS) a g1 g2) fun⟨g3,g4⟩=>
 bnd (xw n a g3 g4) fun⟨g5,g6,g7⟩=>
 zn n (g6,g7,(2:Int),([]:List _),([]:List _),f1,f2,f3,f4,f5,f6,f7,f8,f9,g0,g5,([]:List _),false,([]:List _),([]:List _),([]:List _),([]:List _),([]:List _),false))
 else(
 bnd (ql n ([87,73,84,72]:SS) a j b) fun⟨g8,k⟩=>
 bif g8 then(
 bnd (mg n (3:Int) ([]:List zj) ([]:List qb) (0:Int) ([]:SS) (0:Int) false (0:Int) ([]:SS) ([]:List Val) ([]:List SS) ([]:List SS) ([]:List qb) ([]:SS) false ([]:List qb) ([]:List qb) ([]:List qm) ([]:List SS) false a k b) fun⟨⟨g9,i0,_,⟨i1,i2,⟨i3,i4,i5,i6,i7,i8⟩,i9,j0⟩,j1,j2,j3,j4,j5,j6,j7,j8,j9⟩,k0,k1⟩=>
 bnd (vV n ([87,72,69,82,69]:SS) a k0 k1) fun⟨k2,k3,k4⟩=>
 zn n (k3,k4,g9,i0,k2,i1,i2,i3,i4,i5,i6,i7,i8,i9,j0,j1,j2,j3,j4,j5,j6,j7,j8,j9))
 else(
 bnd (ql n ([82,69,84,85,82,78]:SS) a k b) fun⟨k5,l⟩=>
 bif k5 then(
 bnd (mg n (9:Int) ([]:List zj) ([]:List qb) (0:Int) ([]:SS) (0:Int) false (0:Int) ([]:SS) ([]:List Val) ([]:List SS) ([]:List SS) ([]:List qb) ([]:SS) false ([]:List qb) ([]:List qb) ([]:List qm) ([]:List SS) false a l b) fun⟨⟨k6,k7,k8,⟨k9,l0,⟨l1,l2,l3,l4,l5,l6⟩,l7,l8⟩,l9,m,o,p,q,s,t,u,v⟩,w,x⟩=>
 zn n (w,x,k6,k7,k8,k9,l0,l1,l2,l3,l4,l5,l6,l7,l8,l9,m,o,p,q,s,t,u,v))
 else(
 bnd (ql n ([67,82,69,65,84,69]:SS) a l b) fun⟨y,e⟩=>
 bif y then(
 bnd (dI n a e b) fun⟨z,A,B⟩=>
 zn n (A,B,(4:Int),z,([]:List _),(0:Int),([]:SS),(0:Int),false,(0:Int),([]:SS),([]:List _),([]:List _),([]:List _),([]:List _),([]:SS),([]:List _),false,([]:List _),([]:List _),([]:List _),([]:List _),([]:List _),false))
 else(
 bnd (ql n ([77,69,82,71,69]:SS) a e b) fun⟨C,f⟩=>
 bif C then(
 bnd (gV n a f b) fun⟨⟨D,E,F,G⟩,H,I⟩=>
 zn n (H,I,(5:Int),[zj.mk [qd.mk D E F G] ([]:List qh)],([]:List _),(0:Int),([]:SS),(0:Int),false,(0:Int),([]:SS),([]:List _),([]:List _),([]:List _),([]:List _),([]:SS),([]:List _),false,([]:List _),([]:List _),([]:List _),([]:List _),([]:List _),false))
 else(
 bnd (ql n ([83,69,84]:SS) a f b) fun⟨J,g⟩=>
 bif J then(
 bnd (mh n (6:Int) ([]:List zj) ([]:List qb) (0:Int) ([]:SS) (0:Int) false (0:Int) ([]:SS) ([]:List Val) ([]:List SS) ([]:List SS) ([]:List qb) ([]:SS) ([]:List zx) false ([]:List za) ([]:List qb) ([]:List qb) ([]:List SS) false a g b) fun⟨⟨K,L,M,⟨N,O,⟨P,Q,R,S,T,U⟩,V,W⟩,X,Y,Z,a0,a1,a2,a3,a4,a5⟩,a6,a7⟩=>
 some (qt.mk K L M (qb.mk N O (Val.mk P Q R S T U) V W) X Y Z a0 a1 a2 a3 a4 a5,a6,a7))
 else(
 bnd (ql n ([82,69,77,79,86,69]:SS) a g b) fun⟨a8,c⟩=>
 bif a8 then(
 bnd (mh n (7:Int) ([]:List zj) ([]:List qb) (0:Int) ([]:SS) (0:Int) false (0:Int) ([]:SS) ([]:List Val) ([]:List SS) ([]:List SS) ([]:List qb) ([]:SS) ([]:List zx) false ([]:List za) ([]:List qb) ([]:List qb) ([]:List SS) false a c b) fun⟨⟨a9,b0,b1,⟨b2,b3,⟨b4,b5,b6,b7,b8,b9⟩,c0,c1⟩,c2,c3,c4,c5,c6,c7,c8,c9,d0⟩,d1,d2⟩=>
 some (qt.mk a9 b0 b1 (qb.mk b2 b3 (Val.mk b4 b5 b6 b7 b8 b9) c0 c1) c2 c3 c4 c5 c6 c7 c8 c9 d0,d1,d2))
 else(
 bnd (zE n ([68,69,84,65,67,72]:SS) a c b) fun d=>
 bif(!d)then(
 bnd (zE n ([68,69,76,69,84,69]:SS) a c b) fun d3=>
 bif(bif d then true else d3)then(
 bnd (ql n ([68,69,84,65,67,72]:SS) a c b) fun⟨d4,d5⟩=>
 bnd (qH n ([68,69,76,69,84,69]:SS) a d5 b) fun⟨d6,d7⟩=>
 qU (ck n a d4) n (d6,d7,([]:List _)))
 else(
 zn n (c,true,(0:Int),([]:List _),([]:List _),(0:Int),([]:SS),(0:Int),false,(0:Int),([]:SS),([]:List _),([]:List _),([]:List _),([]:List _),([]:SS),([]:List _),false,([]:List _),([]:List _),([]:List _),([]:List _),([]:List _),false)))
 else(
 bif(bif d then true else false)then(
 bnd (ql n ([68,69,84,65,67,72]:SS) a c b) fun⟨d8,d9⟩=>
 bnd (qH n ([68,69,76,69,84,69]:SS) a d9 b) fun⟨e0,e1⟩=>
 qU (cl n a d8) n (e0,e1,([]:List _)))
 else(
 zn n (c,true,(0:Int),([]:List _),([]:List _),(0:Int),([]:SS),(0:Int),false,(0:Int),([]:SS),([]:List _),([]:List _),([]:List _),([]:List _),([]:SS),([]:List _),false,([]:List _),([]:List _),([]:List _),([]:List _),([]:List _),false)))))))))))
theorem QA (n:Nat):∀ (a:List qk) (s:Int) (b:Bool) (r:qt×Int×Bool),mU n a s b=some r->zb TP 57 [.ptr 0 0] [.box 135 [pK a,pI s,pB b]] 1 (fun v lo=>v=ZQ a s b r/\lo=ZG a s b r):=by
 intro a s b r h;unfold mU at h;refine zO Tryz.call57 Tryz.func57 [77,78,79,80,81,82,83,84,85,86,1000000] ?_;conv=>whnf
 refine nu.cut (S:=Int×Bool×Int×List zj×List qb×Int×SS×Int×Bool×Int×SS×List Val×List SS×List SS×List qb×SS×List zx×Bool×List za×List qb×List qb×List qm×List SS×Bool) (fun(a6,a7,b0,c1,d1,d2,G,H,I,J,K,L,M,N,O,T,X,Y,Z,a0,a1,a2,a3,a4)=>[(2,.ptr 1 0),(3,.ptr 2 0)]) (fun(a6,a7,b0,c1,d1,d2,G,H,I,J,K,L,M,N,O,T,X,Y,Z,a0,a1,a2,a3,a4)=>[.box 135 [pK a,pI a6,pB a7],SW,.box 65 [pI b0,pP c1,pE d1,pI d2,pS G,pI H,pB I,pI J,pS K,pV L,pT M,pT N,pE O,pS T,pA X,pB Y,pO Z,pE a0,pE a1,pU a2,pT a3,pB a4]]) (zn n) (r:=r) ?_ ?_
 ·intro st h
  obtain⟨a6,a7,b0,c1,d1,d2,G,H,I,J,K,L,M,N,O,T,X,Y,Z,a0,a1,a2,a3,a4⟩:=st;unfold zn at h;obtain rfl:=sj h;conv=>whnf
  refine⟨_,_,⟨rfl,rfl⟩,wk [0] []⟩
 conv=>whnf
 refine bq h fun⟨s3,s4⟩ i6 h=>?_;refine zg (qg n _ _ _ _ _ i6) [0] [] ?_;rintro _ _ ⟨rfl,rfl⟩;refine⟨pB s3,[.box 135 [pK a,pI s4,pB b],SW,SW],rfl,rfl,?_⟩;conv=>whnf
 apply ifc h<;>intro e h
 ·conv=>whnf
  refine bq h fun⟨a5,s5,s6⟩ j7 h=>?_;refine zg (rI n _ _ _ _ j7) [0] [] ?_;rintro _ _ ⟨rfl,rfl⟩;refine⟨pP a5,[.box 135 [pK a,pI s5,pB s6],SW,.box 65 [.p (.int .i64 (1:Int)),SV,SV,SR,SU,SR,pB false,SR,SU,SV,SV,SV,SV,SU,SV,pB false,SV,SV,SV,SV,SV,pB false]],rfl,rfl,?_⟩;conv=>whnf
  refine bq h fun⟨f2,f3,f4⟩ k7 h=>?_;refine zg (uN n _ _ _ _ _ k7) [0] [] ?_;rintro _ _ ⟨rfl,rfl⟩;refine⟨pE f2,[.box 135 [pK a,pI f3,pB f4],SW,.box 65 [.p (.int .i64 (1:Int)),pP a5,SV,SR,SU,SR,pB false,SR,SU,SV,SV,SV,SV,SU,SV,pB false,SV,SV,SV,SV,SV,pB false]],rfl,rfl,?_⟩;conv=>whnf
  exact⟨(f3,f4,(1:Int),a5,f2,(0:Int),([]:SS),(0:Int),false,(0:Int),([]:SS),([]:List _),([]:List _),([]:List _),([]:List _),([]:SS),([]:List _),false,([]:List _),([]:List _),([]:List _),([]:List _),([]:List _),false),h,wk [0,1,2] []⟩
 conv=>whnf
 refine bq h fun⟨s7,s8⟩ l0 h=>?_;refine zg (qg n _ _ _ _ _ l0) [0] [] ?_;rintro _ _ ⟨rfl,rfl⟩;refine⟨pB s7,[.box 135 [pK a,pI s8,pB b],SW,SW],rfl,rfl,?_⟩;conv=>whnf
 apply ifc h<;>intro e h
 ·conv=>whnf
  refine bq h fun⟨⟨t,u,⟨w,x,y,z,A,C⟩,D,E⟩,s9,t0⟩ l1 h=>?_;refine zg (ux n _ _ _ _ l1) [0] [] ?_;rintro _ _ ⟨rfl,rfl⟩;refine⟨.p (.agg [.int .i64 t,.str u,.int .i64 w,.bool x,.int .i64 y,.str z,.sl (Val.rows A),.sl (qy C),.sl (qy D),.sl (qb.rows E)]),[.box 135 [pK a,pI s9,pB t0],SW,.box 65 [.p (.int .i64 (2:Int)),SV,SV,SR,SU,SR,pB false,SR,SU,SV,SV,SV,SV,SU,SV,pB false,SV,SV,SV,SV,SV,pB false]],rfl,rfl,?_⟩;conv=>whnf
  refine bq h fun⟨t1,t2⟩ l2 h=>?_;refine zg (qv n _ _ _ _ _ l2) [0] [] ?_;rintro _ _ ⟨rfl,rfl⟩;refine⟨.p (.tup []),[.box 135 [pK a,pI t1,pB t2],SW,.box 65 [.p (.int .i64 (2:Int)),SV,SV,pI t,pS u,pI w,pB x,pI y,pS z,pV A,pT C,pT D,pE E,SU,SV,pB false,SV,SV,SV,SV,SV,pB false]],rfl,rfl,?_⟩;conv=>whnf
  refine bq h fun⟨f5,f6,f7⟩ l3 h=>?_;refine zg (xh n _ _ _ _ l3) [0] [] ?_;rintro _ _ ⟨rfl,rfl⟩;refine⟨pS f5,[.box 135 [pK a,pI f6,pB f7],SW,.box 65 [.p (.int .i64 (2:Int)),SV,SV,pI t,pS u,pI w,pB x,pI y,pS z,pV A,pT C,pT D,pE E,SU,SV,pB false,SV,SV,SV,SV,SV,pB false]],rfl,rfl,?_⟩;conv=>whnf
  exact⟨(f6,f7,(2:Int),([]:List _),([]:List _),t,u,w,x,y,z,A,C,D,E,f5,([]:List _),false,([]:List _),([]:List _),([]:List _),([]:List _),([]:List _),false),h,wk [0,1,2] []⟩
 conv=>whnf
 refine bq h fun⟨t3,t4⟩ l4 h=>?_;refine zg (qg n _ _ _ _ _ l4) [0] [] ?_;rintro _ _ ⟨rfl,rfl⟩;refine⟨pB t3,[.box 135 [pK a,pI t4,pB b],SW,SW],rfl,rfl,?_⟩;conv=>whnf
 apply ifc h<;>intro e h
 ·conv=>whnf
  refine bq h fun⟨⟨a8,a9,f8,⟨b1,b2,⟨b3,b4,b5,b6,b7,b8⟩,b9,c0⟩,c2,c3,c4,c5,c6,c7,c8,c9,d0⟩,t5,t6⟩ l5 h=>?_;refine zg (sg n _ _ _ _ _ _ _ _ _ _ _ _ _ _ _ _ _ _ _ _ _ _ _ _ l5) [0] [] ?_;rintro _ _ ⟨rfl,rfl⟩;refine⟨.p (.agg [.int .i64 a8,.sl (zj.rows a9),.sl (qb.rows f8),.int .i64 b1,.str b2,.int .i64 b3,.bool b4,.int .i64 b5,.str b6,.sl (Val.rows b7),.sl (qy b8),.sl (qy b9),.sl (qb.rows c0),.str c2,.sl (zx.rows c3),.bool c4,.sl (za.rows c5),.sl (qb.rows c6),.sl (qb.rows c7),.sl (qm.rows c8),.sl (qy c9),.bool d0]),[.box 135 [pK a,pI t5,pB t6],SW,.box 65 [.p (.int .i64 (3:Int)),SV,SV,SR,SU,SR,pB false,SR,SU,SV,SV,SV,SV,SU,SV,pB false,SV,SV,SV,SV,SV,pB false]],rfl,rfl,?_⟩;conv=>whnf
  refine bq h fun⟨f9,g0,g1⟩ i7 h=>?_;refine zg (uN n _ _ _ _ _ i7) [0] [] ?_;rintro _ _ ⟨rfl,rfl⟩;refine⟨pE f9,[.box 135 [pK a,pI g0,pB g1],SW,.box 65 [pI a8,pP a9,pE f8,pI b1,pS b2,pI b3,pB b4,pI b5,pS b6,pV b7,pT b8,pT b9,pE c0,pS c2,pA c3,pB c4,pO c5,pE c6,pE c7,pU c8,pT c9,pB d0]],rfl,rfl,?_⟩;conv=>whnf
  exact⟨(g0,g1,a8,a9,f9,b1,b2,b3,b4,b5,b6,b7,b8,b9,c0,c2,c3,c4,c5,c6,c7,c8,c9,d0),h,wk [0,1,2] []⟩
 conv=>whnf
 refine bq h fun⟨t7,t8⟩ i8 h=>?_;refine zg (qg n _ _ _ _ _ i8) [0] [] ?_;rintro _ _ ⟨rfl,rfl⟩;refine⟨pB t7,[.box 135 [pK a,pI t8,pB b],SW,SW],rfl,rfl,?_⟩;conv=>whnf
 apply ifc h<;>intro e h
 ·conv=>whnf
  refine bq h fun⟨⟨g2,g3,g4,⟨g5,g6,⟨g7,g8,g9,i0,i1,i2⟩,i3,i4⟩,i5,d5,d6,d7,d8,d9,e0,e1,e2⟩,e3,e4⟩ i9 h=>?_;refine zg (sg n _ _ _ _ _ _ _ _ _ _ _ _ _ _ _ _ _ _ _ _ _ _ _ _ i9) [0] [] ?_;rintro _ _ ⟨rfl,rfl⟩;refine⟨.p (.agg [.int .i64 g2,.sl (zj.rows g3),.sl (qb.rows g4),.int .i64 g5,.str g6,.int .i64 g7,.bool g8,.int .i64 g9,.str i0,.sl (Val.rows i1),.sl (qy i2),.sl (qy i3),.sl (qb.rows i4),.str i5,.sl (zx.rows d5),.bool d6,.sl (za.rows d7),.sl (qb.rows d8),.sl (qb.rows d9),.sl (qm.rows e0),.sl (qy e1),.bool e2]),[.box 135 [pK a,pI e3,pB e4],SW,.box 65 [.p (.int .i64 (9:Int)),SV,SV,SR,SU,SR,pB false,SR,SU,SV,SV,SV,SV,SU,SV,pB false,SV,SV,SV,SV,SV,pB false]],rfl,rfl,?_⟩;conv=>whnf
  exact⟨(e3,e4,g2,g3,g4,g5,g6,g7,g8,g9,i0,i1,i2,i3,i4,i5,d5,d6,d7,d8,d9,e0,e1,e2),h,wk [0,1,2] []⟩
 conv=>whnf
 refine bq h fun⟨l6,l7⟩ j0 h=>?_;refine zg (qg n _ _ _ _ _ j0) [0] [] ?_;rintro _ _ ⟨rfl,rfl⟩;refine⟨pB l6,[.box 135 [pK a,pI l7,pB b],SW,SW],rfl,rfl,?_⟩;conv=>whnf
 apply ifc h<;>intro e h
 ·conv=>whnf
  refine bq h fun⟨e5,e6,e7⟩ j1 h=>?_;refine zg (rI n _ _ _ _ j1) [0] [] ?_;rintro _ _ ⟨rfl,rfl⟩;refine⟨pP e5,[.box 135 [pK a,pI e6,pB e7],SW,.box 65 [.p (.int .i64 (4:Int)),SV,SV,SR,SU,SR,pB false,SR,SU,SV,SV,SV,SV,SU,SV,pB false,SV,SV,SV,SV,SV,pB false]],rfl,rfl,?_⟩;conv=>whnf
  exact⟨(e6,e7,(4:Int),e5,([]:List _),(0:Int),([]:SS),(0:Int),false,(0:Int),([]:SS),([]:List _),([]:List _),([]:List _),([]:List _),([]:SS),([]:List _),false,([]:List _),([]:List _),([]:List _),([]:List _),([]:List _),false),h,wk [0,1,2] []⟩
 conv=>whnf
 refine bq h fun⟨l8,l9⟩ j2 h=>?_;refine zg (qg n _ _ _ _ _ j2) [0] [] ?_;rintro _ _ ⟨rfl,rfl⟩;refine⟨pB l8,[.box 135 [pK a,pI l9,pB b],SW,SW],rfl,rfl,?_⟩;conv=>whnf
 apply ifc h<;>intro e h
 ·conv=>whnf
  refine bq h fun⟨⟨k,l,m,o⟩,e8,e9⟩ j3 h=>?_;refine zg (fz n _ _ _ _ j3) [0] [] ?_;rintro _ _ ⟨rfl,rfl⟩;refine⟨.p (.agg [.str k,.sl (qy l),.sl (qy m),.sl (qb.rows o)]),[.box 135 [pK a,pI e8,pB e9],SW,.box 65 [.p (.int .i64 (5:Int)),SV,SV,SR,SU,SR,pB false,SR,SU,SV,SV,SV,SV,SU,SV,pB false,SV,SV,SV,SV,SV,pB false]],rfl,rfl,?_⟩;conv=>whnf
  refine⟨Codec.one vd [qd.mk k l m o],qd.rows [qd.mk k l m o],.inl rfl,?_⟩;conv=>whnf
  refine⟨by repeat (first|exact List.forall_mem_nil _|refine List.forall_mem_cons.2 ⟨⟨rfl,rfl⟩,?_⟩),zj.rows [zj.mk [qd.mk k l m o] ([]:List qh)],.inr (by try exact Sk),?_⟩;conv=>whnf
  exact⟨(e8,e9,(5:Int),[zj.mk [qd.mk k l m o] ([]:List qh)],([]:List _),(0:Int),([]:SS),(0:Int),false,(0:Int),([]:SS),([]:List _),([]:List _),([]:List _),([]:List _),([]:SS),([]:List _),false,([]:List _),([]:List _),([]:List _),([]:List _),([]:List _),false),h,wk [0,1,2] []⟩
 conv=>whnf
 refine bq h fun⟨m0,m1⟩ j4 h=>?_;refine zg (qg n _ _ _ _ _ j4) [0] [] ?_;rintro _ _ ⟨rfl,rfl⟩;refine⟨pB m0,[.box 135 [pK a,pI m1,pB b],SW,SW],rfl,rfl,?_⟩;conv=>whnf
 apply ifc h<;>intro e h
 ·conv=>whnf
  refine bq h fun⟨⟨m2,m3,m4,⟨m5,m6,⟨m7,m8,m9,n0,n1,n2⟩,n3,n4⟩,n5,n6,n7,n8,n9,o0,o1,o2,o3⟩,o4,o5⟩ j5 h=>?_;refine zg (sh n _ _ _ _ _ _ _ _ _ _ _ _ _ _ _ _ _ _ _ _ _ _ _ _ _ j5) [0] [] ?_;rintro _ _ ⟨rfl,rfl⟩;refine⟨.p (.agg [.int .i64 m2,.sl (zj.rows m3),.sl (qb.rows m4),.int .i64 m5,.str m6,.int .i64 m7,.bool m8,.int .i64 m9,.str n0,.sl (Val.rows n1),.sl (qy n2),.sl (qy n3),.sl (qb.rows n4),.str n5,.sl (zx.rows n6),.bool n7,.sl (za.rows n8),.sl (qb.rows n9),.sl (qb.rows o0),.sl (qm.rows o1),.sl (qy o2),.bool o3]),[.box 135 [pK a,pI o4,pB o5],SW,.box 65 [.p (.int .i64 (6:Int)),SV,SV,SR,SU,SR,pB false,SR,SU,SV,SV,SV,SV,SU,SV,pB false,SV,SV,SV,SV,SV,pB false]],rfl,rfl,?_⟩;obtain rfl:=sj h;conv=>whnf
  refine⟨_,_,⟨rfl,rfl⟩,wk [0] []⟩
 conv=>whnf
 refine bq h fun⟨o6,q⟩ j6 h=>?_;refine zg (qg n _ _ _ _ _ j6) [0] [] ?_;rintro _ _ ⟨rfl,rfl⟩;refine⟨pB o6,[.box 135 [pK a,pI q,pB b],SW,SW],rfl,rfl,?_⟩;conv=>whnf
 apply ifc h<;>intro e h
 ·conv=>whnf
  refine bq h fun⟨⟨o7,o8,o9,⟨p0,p1,⟨p2,p3,p4,p5,p6,p7⟩,p8,p9⟩,q0,q1,q2,q3,q4,q5,q6,q7,q8⟩,q9,r0⟩ j8 h=>?_;refine zg (sh n _ _ _ _ _ _ _ _ _ _ _ _ _ _ _ _ _ _ _ _ _ _ _ _ _ j8) [0] [] ?_;rintro _ _ ⟨rfl,rfl⟩;refine⟨.p (.agg [.int .i64 o7,.sl (zj.rows o8),.sl (qb.rows o9),.int .i64 p0,.str p1,.int .i64 p2,.bool p3,.int .i64 p4,.str p5,.sl (Val.rows p6),.sl (qy p7),.sl (qy p8),.sl (qb.rows p9),.str q0,.sl (zx.rows q1),.bool q2,.sl (za.rows q3),.sl (qb.rows q4),.sl (qb.rows q5),.sl (qm.rows q6),.sl (qy q7),.bool q8]),[.box 135 [pK a,pI q9,pB r0],SW,.box 65 [.p (.int .i64 (7:Int)),SV,SV,SR,SU,SR,pB false,SR,SU,SV,SV,SV,SV,SU,SV,pB false,SV,SV,SV,SV,SV,pB false]],rfl,rfl,?_⟩;obtain rfl:=sj h;conv=>whnf
  refine⟨_,_,⟨rfl,rfl⟩,wk [0] []⟩
 conv=>whnf
 refine bq h fun r1 j9 h=>?_;refine zg (zi n _ _ _ _ _ j9) [0] [] ?_;rintro _ _ ⟨rfl,rfl⟩;refine⟨pB r1,[.box 135 [pK a,pI q,pB b],SW,SW],rfl,rfl,?_⟩;conv=>whnf
 refine⟨fun F=>?_,fun F=>?_⟩
 ·replace h:=uU h F
  conv=>whnf
  refine⟨id,?_⟩;conv=>whnf
  refine bq h fun r2 k0 h=>?_;refine zg (zi n _ _ _ _ _ k0) [0] [] ?_;rintro _ _ ⟨rfl,rfl⟩;refine⟨pB r2,[.box 135 [pK a,pI q,pB b],SW,SW],rfl,rfl,?_⟩;conv=>whnf
  refine⟨id,?_⟩;conv=>whnf
  apply ifc h<;>intro e h
  ·conv=>whnf
   refine bq h fun⟨i,r3⟩ k1 h=>?_;refine zg (qg n _ _ _ _ _ k1) [0] [] ?_;rintro _ _ ⟨rfl,rfl⟩;refine⟨pB i,[.box 135 [pK a,pI r3,pB b],SW,Tb],rfl,rfl,?_⟩;conv=>whnf
   refine bq h fun⟨r4,r5⟩ k2 h=>?_;refine zg (qv n _ _ _ _ _ k2) [0] [] ?_;rintro _ _ ⟨rfl,rfl⟩;refine⟨.p (.tup []),[.box 135 [pK a,pI r4,pB r5],SW,.box 65 [.p (.int .i64 (8:Int)),SV,SV,SR,SU,SR,pB false,SR,SU,SV,SV,SV,SV,SU,SV,pB false,SV,SV,SV,SV,SV,pB i]],rfl,rfl,?_⟩;conv=>whnf
   refine zd.fn [77,78,79,80,81,82,83,84,85,86,1000000] (S:=Int×Bool×List SS) (fun(P,Q,c)=>[(0,.ptr 0 0),(2,.ptr 1 0),(3,.ptr 2 0)]) (fun(P,Q,c)=>[.box 135 [pK a,pI P,pB Q],SW,.box 65 [.p (.int .i64 (8:Int)),SV,SV,SR,SU,SR,pB false,SR,SU,SV,SV,SV,SV,SU,SV,pB false,SV,SV,SV,SV,.tsl 3 (qy c),pB i],.tail 9 1 (qy c).length]) (B:=ck n a i) h (wk [0,1,2,0] [3]) ?_;intro _ st h;obtain⟨P,Q,c⟩:=st;unfold ck at h;conv=>whnf
   refine bq h fun⟨f,r6,R⟩ k3 h=>?_;refine zg (xh n _ _ _ _ k3) [0] [] ?_;rintro _ _ ⟨rfl,rfl⟩;refine⟨pS f,[.box 135 [pK a,pI r6,pB R],SW,.box 65 [.p (.int .i64 (8:Int)),SV,SV,SR,SU,SR,pB false,SR,SU,SV,SV,SV,SV,SU,SV,pB false,SV,SV,SV,SV,.tsl 3 (qy c),pB i],.tail 9 1 (qy c).length],rfl,rfl,?_⟩;conv=>whnf
   refine⟨Codec.one rE [f],qy [f],.inl rfl,?_⟩;conv=>whnf
   rw[show qy c++qy [f]=qy (c++[f])from Codec.append rE c [f]];conv=>whnf
   obtain⟨d3,h⟩:=qL h;refine⟨⟨Codec.wide rE (c++[f]),kod d3,xK d3 (by decide)⟩,?_⟩;conv=>whnf
   refine⟨⟨rfl,rfl,rfl⟩,?_⟩;conv=>whnf
   refine bq h fun⟨r7,f0⟩ k4 h=>?_;refine zg (qg n _ _ _ _ _ k4) [0] [] ?_;rintro _ _ ⟨rfl,rfl⟩;refine⟨pB r7,[.box 135 [pK a,pI f0,pB R],SW,.box 65 [.p (.int .i64 (8:Int)),SV,SV,SR,SU,SR,pB false,SR,SU,SV,SV,SV,SV,SU,SV,pB false,SV,SV,SV,SV,.tsl 4 (qy (c++[f])),pB i],.dead,.tail 9 1 (qy (c++[f])).length],rfl,rfl,?_⟩;conv=>whnf
   apply ifc h<;>intro e h
   ·obtain rfl:=sj h
    (conv=>whnf);refine⟨_,_,⟨rfl,rfl⟩,wk [0] []⟩
   conv=>whnf
   exact⟨(f0,R,(c++[f])),h,wk [0,1,2,4] []⟩
  conv=>whnf
  exact⟨(q,true,(0:Int),([]:List _),([]:List _),(0:Int),([]:SS),(0:Int),false,(0:Int),([]:SS),([]:List _),([]:List _),([]:List _),([]:List _),([]:SS),([]:List _),false,([]:List _),([]:List _),([]:List _),([]:List _),([]:List _),false),h,wk [0,1,2] []⟩
 replace h:=uT h F;refine⟨pB false,?_⟩;conv=>whnf
 refine⟨id,?_⟩;conv=>whnf
 apply ifc h<;>intro e h
 ·conv=>whnf
  refine bq h fun⟨j,r8⟩ k5 h=>?_;refine zg (qg n _ _ _ _ _ k5) [0] [] ?_;rintro _ _ ⟨rfl,rfl⟩;refine⟨pB j,[.box 135 [pK a,pI r8,pB b],SW,Tb],rfl,rfl,?_⟩;conv=>whnf
  refine bq h fun⟨r9,s0⟩ k6 h=>?_;refine zg (qv n _ _ _ _ _ k6) [0] [] ?_;rintro _ _ ⟨rfl,rfl⟩;refine⟨.p (.tup []),[.box 135 [pK a,pI r9,pB s0],SW,.box 65 [.p (.int .i64 (8:Int)),SV,SV,SR,SU,SR,pB false,SR,SU,SV,SV,SV,SV,SU,SV,pB false,SV,SV,SV,SV,SV,pB j]],rfl,rfl,?_⟩;conv=>whnf
  refine zd.fn [77,78,79,80,81,82,83,84,85,86,1000000] (S:=Int×Bool×List SS) (fun(U,V,d)=>[(0,.ptr 0 0),(2,.ptr 1 0),(3,.ptr 2 0)]) (fun(U,V,d)=>[.box 135 [pK a,pI U,pB V],SW,.box 65 [.p (.int .i64 (8:Int)),SV,SV,SR,SU,SR,pB false,SR,SU,SV,SV,SV,SV,SU,SV,pB false,SV,SV,SV,SV,.tsl 3 (qy d),pB j],.tail 9 1 (qy d).length]) (B:=cl n a j) h (wk [0,1,2,0] [3]) ?_;intro _ st h;obtain⟨U,V,d⟩:=st;unfold cl at h;conv=>whnf
  refine bq h fun⟨g,s1,W⟩ k8 h=>?_;refine zg (xh n _ _ _ _ k8) [0] [] ?_;rintro _ _ ⟨rfl,rfl⟩;refine⟨pS g,[.box 135 [pK a,pI s1,pB W],SW,.box 65 [.p (.int .i64 (8:Int)),SV,SV,SR,SU,SR,pB false,SR,SU,SV,SV,SV,SV,SU,SV,pB false,SV,SV,SV,SV,.tsl 3 (qy d),pB j],.tail 9 1 (qy d).length],rfl,rfl,?_⟩;conv=>whnf
  refine⟨Codec.one rE [g],qy [g],.inl rfl,?_⟩;conv=>whnf
  rw[show qy d++qy [g]=qy (d++[g])from Codec.append rE d [g]];conv=>whnf
  obtain⟨d4,h⟩:=qL h;refine⟨⟨Codec.wide rE (d++[g]),kod d4,xK d4 (by decide)⟩,?_⟩;conv=>whnf
  refine⟨⟨rfl,rfl,rfl⟩,?_⟩;conv=>whnf
  refine bq h fun⟨s2,f1⟩ k9 h=>?_;refine zg (qg n _ _ _ _ _ k9) [0] [] ?_;rintro _ _ ⟨rfl,rfl⟩;refine⟨pB s2,[.box 135 [pK a,pI f1,pB W],SW,.box 65 [.p (.int .i64 (8:Int)),SV,SV,SR,SU,SR,pB false,SR,SU,SV,SV,SV,SV,SU,SV,pB false,SV,SV,SV,SV,.tsl 4 (qy (d++[g])),pB j],.dead,.tail 9 1 (qy (d++[g])).length],rfl,rfl,?_⟩;conv=>whnf
  apply ifc h<;>intro e h
  ·obtain rfl:=sj h
   conv=>whnf
   refine⟨_,_,⟨rfl,rfl⟩,wk [0] []⟩
  conv=>whnf
  exact⟨(f1,W,(d++[g])),h,wk [0,1,2,4] []⟩
 conv=>whnf
 exact⟨(q,true,(0:Int),([]:List _),([]:List _),(0:Int),([]:SS),(0:Int),false,(0:Int),([]:SS),([]:List _),([]:List _),([]:List _),([]:List _),([]:SS),([]:List _),false,([]:List _),([]:List _),([]:List _),([]:List _),([]:List _),false),h,wk [0,1,2] []⟩
end W
end
section
set_option maxRecDepth 100000
set_option maxHeartbeats 20000000
open Go Go.Proofs Ax
namespace W
abbrev Bp (r:qt):PV:=PV.agg (ub.cells r)
def xr (n:Nat) (a:Int):List zj×List qb×Int×SS×Int×Bool×Int×SS×List Val×List SS×List SS×List qb×SS×List zx×Bool×List za×List qb×List qb×List qm×List SS×Bool->Option (qt):=fun(b,c,d,e,f,g,i,j,k,l,m,o,p,q,s,t,u,v,w,x,y)=>
 some (qt.mk a b c (qb.mk d e (Val.mk f g i j k l) m o) p q s t u v w x y)
def mf (n:Nat) (a:Int) (b:List qm) (c:List SS) (d:Bool):Bool->Option (qt):=fun e=>
 bif e then(
 xr n a (([]:List _),([]:List _),(0:Int),([]:SS),(0:Int),false,(0:Int),([]:SS),([]:List _),([]:List _),([]:List _),([]:List _),([]:SS),([]:List _),false,([]:List _),([]:List _),([]:List _),b,([]:List _),false))
 else(
 bif(a==8)then(
 xr n a (([]:List _),([]:List _),(0:Int),([]:SS),(0:Int),false,(0:Int),([]:SS),([]:List _),([]:List _),([]:List _),([]:List _),([]:SS),([]:List _),false,([]:List _),([]:List _),([]:List _),([]:List _),c,d))
 else(
 xr n a (([]:List _),([]:List _),(0:Int),([]:SS),(0:Int),false,(0:Int),([]:SS),([]:List _),([]:List _),([]:List _),([]:List _),([]:SS),([]:List _),false,([]:List _),([]:List _),([]:List _),([]:List _),([]:List _),false)))
def me (n:Nat) (a:Int) (e:List zj) (b:List qm) (c:List SS) (d:Bool):Bool->Option (qt):=fun f=>
 bif f then(
 xr n a (e,([]:List _),(0:Int),([]:SS),(0:Int),false,(0:Int),([]:SS),([]:List _),([]:List _),([]:List _),([]:List _),([]:SS),([]:List _),false,([]:List _),([]:List _),([]:List _),([]:List _),([]:List _),false))
 else(
 bif(a==6)then(
 mf n a b c d (a==6))
 else(
 mf n a b c d (a==7)))
def mc (n:Nat) (a:Int) (l:List qb) (b:List zx) (c:Bool) (d:List za) (e f:List qb) (g:List zj) (i:List qm) (j:List SS) (k:Bool):Bool->Option (qt):=fun m=>
 bif m then(
 bif(a==3)then(
 xr n a (([]:List _),l,(0:Int),([]:SS),(0:Int),false,(0:Int),([]:SS),([]:List _),([]:List _),([]:List _),([]:List _),([]:SS),b,c,d,e,f,([]:List _),([]:List _),false))
 else(
 xr n a (([]:List _),([]:List _),(0:Int),([]:SS),(0:Int),false,(0:Int),([]:SS),([]:List _),([]:List _),([]:List _),([]:List _),([]:SS),b,c,d,e,f,([]:List _),([]:List _),false)))
 else(
 bif(a==4)then(
 me n a g i j k (a==4))
 else(
 me n a g i j k (a==5)))
def XA (n:Nat) (m:qt):Option (qt):=
 match m with
 | ⟨a,b,c,⟨u,v,⟨w,x,y,z,o,p⟩,q,s⟩,t,d,e,f,g,i,j,k,l⟩=>
 bif(a==1)then(
 xr n a (b,c,(0:Int),([]:SS),(0:Int),false,(0:Int),([]:SS),([]:List _),([]:List _),([]:List _),([]:List _),([]:SS),([]:List _),false,([]:List _),([]:List _),([]:List _),([]:List _),([]:List _),false))
 else(
 bif(a==2)then(
 xr n a (([]:List _),([]:List _),u,v,w,x,y,z,o,p,q,s,t,([]:List _),false,([]:List _),([]:List _),([]:List _),([]:List _),([]:List _),false))
 else(
 bif(a==3)then(
 mc n a c d e f g i b j k l (a==3))
 else(
 mc n a c d e f g i b j k l (a==9))))
theorem FG (n:Nat):∀ (o r:qt),XA n o=some r->qi TP 127 [PV.agg (ub.cells o)] (Bp r):=by
 intro o r h;obtain⟨a,c,m,⟨v,w,⟨x,y,z,A,p,q⟩,s,t⟩,u,g,i,j,k,l,d,e,f⟩:=o;unfold XA at h;refine zN Tryz.call127 Tryz.func127 [1000000] ?_;conv=>whnf
 refine nu.cut (S:=List zj×List qb×Int×SS×Int×Bool×Int×SS×List Val×List SS×List SS×List qb×SS×List zx×Bool×List za×List qb×List qb×List qm×List SS×Bool) (fun(B,C,D,E,F,G,H,I,J,K,L,M,N,O,P,Q,R,T,U,V,W)=>[(2,.ptr 0 0),(3,.ptr 1 0)]) (fun(B,C,D,E,F,G,H,I,J,K,L,M,N,O,P,Q,R,T,U,V,W)=>[SW,.box 65 [pI a,pP B,pE C,pI D,pS E,pI F,pB G,pI H,pS I,pV J,pT K,pT L,pE M,pS N,pA O,pB P,pO Q,pE R,pE T,pU U,pT V,pB W]]) (xr n a) (r:=r) ?_ ?_
 ·intro st h
  obtain⟨B,C,D,E,F,G,H,I,J,K,L,M,N,O,P,Q,R,T,U,V,W⟩:=st;unfold xr at h;obtain rfl:=sj h;conv=>whnf
  try exact Sk
 conv=>whnf
 apply ifc h<;>intro b h
 ·conv=>whnf
  exact⟨(c,m,(0:Int),([]:SS),(0:Int),false,(0:Int),([]:SS),([]:List _),([]:List _),([]:List _),([]:List _),([]:SS),([]:List _),false,([]:List _),([]:List _),([]:List _),([]:List _),([]:List _),false),h,wk [1,2] []⟩
 conv=>whnf
 apply ifc h<;>intro b h
 ·conv=>whnf
  exact⟨(([]:List _),([]:List _),v,w,x,y,z,A,p,q,s,t,u,([]:List _),false,([]:List _),([]:List _),([]:List _),([]:List _),([]:List _),false),h,wk [1,2] []⟩
 conv=>whnf
 refine nu.cut (S:=Bool) (fun X=>[(1,.ptr 0 0),(2,.ptr 1 0),(3,.ptr 2 0),(8,pI a),(25,pB X)]) (fun X=>[.box 65 [pI a,pP c,pE m,pI v,pS w,pI x,pB y,pI z,pS A,pV p,pT q,pT s,pE t,pS u,pA g,pB i,pO j,pE k,pE l,pU d,pT e,pB f],SW,.box 65 [pI a,SV,SV,SR,SU,SR,pB false,SR,SU,SV,SV,SV,SV,SU,SV,pB false,SV,SV,SV,SV,SV,pB false]]) (mc n a m g i j k l c d e f) (r:=r) ?_ ?_
 ·intro X h
  unfold mc at h;conv=>whnf
  apply ifc h<;>intro b h
  ·conv=>whnf
   apply ifc h<;>intro b h
   ·conv=>whnf
    exact⟨(([]:List _),m,(0:Int),([]:SS),(0:Int),false,(0:Int),([]:SS),([]:List _),([]:List _),([]:List _),([]:List _),([]:SS),g,i,j,k,l,([]:List _),([]:List _),false),h,wk [1,2] []⟩
   conv=>whnf
   exact⟨(([]:List _),([]:List _),(0:Int),([]:SS),(0:Int),false,(0:Int),([]:SS),([]:List _),([]:List _),([]:List _),([]:List _),([]:SS),g,i,j,k,l,([]:List _),([]:List _),false),h,wk [1,2] []⟩
  conv=>whnf
  refine nu.cut (S:=Bool) (fun Y=>[(1,.ptr 0 0),(2,.ptr 1 0),(3,.ptr 2 0),(8,pI a),(49,pB Y)]) (fun Y=>[.box 65 [pI a,pP c,pE m,pI v,pS w,pI x,pB y,pI z,pS A,pV p,pT q,pT s,pE t,pS u,pA g,pB i,pO j,pE k,pE l,pU d,pT e,pB f],SW,.box 65 [pI a,SV,SV,SR,SU,SR,pB false,SR,SU,SV,SV,SV,SV,SU,SV,pB false,SV,SV,SV,SV,SV,pB false]]) (me n a c d e f) (r:=r) ?_ ?_
  ·intro Y h
   unfold me at h;conv=>whnf
   apply ifc h<;>intro b h
   ·conv=>whnf
    exact⟨(c,([]:List _),(0:Int),([]:SS),(0:Int),false,(0:Int),([]:SS),([]:List _),([]:List _),([]:List _),([]:List _),([]:SS),([]:List _),false,([]:List _),([]:List _),([]:List _),([]:List _),([]:List _),false),h,wk [1,2] []⟩
   conv=>whnf
   refine nu.cut (S:=Bool) (fun Z=>[(1,.ptr 0 0),(2,.ptr 1 0),(3,.ptr 2 0),(8,pI a),(55,pB Z)]) (fun Z=>[.box 65 [pI a,pP c,pE m,pI v,pS w,pI x,pB y,pI z,pS A,pV p,pT q,pT s,pE t,pS u,pA g,pB i,pO j,pE k,pE l,pU d,pT e,pB f],SW,.box 65 [pI a,SV,SV,SR,SU,SR,pB false,SR,SU,SV,SV,SV,SV,SU,SV,pB false,SV,SV,SV,SV,SV,pB false]]) (mf n a d e f) (r:=r) ?_ ?_
   ·intro Z h
    unfold mf at h;(conv=>whnf);apply ifc h<;>intro b h
    ·conv=>whnf
     exact⟨(([]:List _),([]:List _),(0:Int),([]:SS),(0:Int),false,(0:Int),([]:SS),([]:List _),([]:List _),([]:List _),([]:List _),([]:SS),([]:List _),false,([]:List _),([]:List _),([]:List _),d,([]:List _),false),h,wk [1,2] []⟩
    (conv=>whnf);apply ifc h<;>intro b h
    ·conv=>whnf
     exact⟨(([]:List _),([]:List _),(0:Int),([]:SS),(0:Int),false,(0:Int),([]:SS),([]:List _),([]:List _),([]:List _),([]:List _),([]:SS),([]:List _),false,([]:List _),([]:List _),([]:List _),([]:List _),e,f),h,wk [1,2] []⟩
    (conv=>whnf);exact⟨(([]:List _),([]:List _),(0:Int),([]:SS),(0:Int),false,(0:Int),([]:SS),([]:List _),([]:List _),([]:List _),([]:List _),([]:SS),([]:List _),false,([]:List _),([]:List _),([]:List _),([]:List _),([]:List _),false),h,wk [1,2] []⟩
   conv=>whnf
   apply ifc h<;>intro b h
   ·conv=>whnf
    exact⟨(a==6),h,wk [0,1,2] []⟩
   conv=>whnf
   exact⟨(a==7),h,wk [0,1,2] []⟩
  conv=>whnf
  apply ifc h<;>intro b h
  ·conv=>whnf
   exact⟨(a==4),h,wk [0,1,2] []⟩
  conv=>whnf
  exact⟨(a==5),h,wk [0,1,2] []⟩
 conv=>whnf
 apply ifc h<;>intro b h
 ·conv=>whnf
  exact⟨(a==3),h,wk [0,1,2] []⟩
 conv=>whnf
 exact⟨(a==9),h,wk [0,1,2] []⟩
abbrev QI (r:Bool):PV:=PV.bool r
def fh (n:Nat) (b d:List SS):LK (Int) (Bool):=fun c a=>
 bif(decide (a<((qy b).length:Int)))then(
 bnd (idx b a) fun e=>
 bnd (idx d a) fun f=>
 bif(!(e==f))then(
 some false)
 else(
 c (kwr .i64 (a+1))))
 else(
 some true)
def xf (n:Nat) (a b:List SS):Option (Bool):=
 bif(((qy a).length:Int) != ((qy b).length:Int))then(
 some false)
 else(
 qU (fh n a b) n (0:Int))
theorem xk (n:Nat):∀ (a b:List SS) (r:Bool),xf n a b=some r->qi TP 29 [PV.sl (qy a),PV.sl (qy b)] (QI r):=by
 intro a b r h;unfold xf at h;refine zN Tryz.call29 Tryz.func29 [1000000] ?_;conv=>whnf
 apply ifc h<;>intro d h
 ·obtain rfl:=sj h
  conv=>whnf
  try exact Sk
 conv=>whnf
 refine zd.fn [1000000] (S:=Int) (fun c=>[(0,pT a),(1,pT b),(5,pI c)]) (fun c=>[]) (B:=fh n a b) h (wk [] []) ?_;intro _ c h;unfold fh at h;conv=>whnf
 apply ifc h<;>intro d h
 ·conv=>whnf
  refine bq h fun _ f h=>⟨_,Codec.at_ rE f,?_⟩;conv=>whnf
  refine bq h fun _ e h=>⟨_,Codec.at_ rE e,?_⟩;conv=>whnf
  apply ifc h<;>intro d h
  ·obtain rfl:=sj h
   conv=>whnf
   try exact Sk
  conv=>whnf
  exact⟨(kwr .i64 (c+1)),h,wk [] []⟩
 obtain rfl:=sj h;conv=>whnf
 try exact Sk
abbrev dd (r:Bool):PV:=PV.bool r
abbrev Pf:Type:=Val->Val->Option (Bool)
abbrev PG:Type:=(List Val)->(List Val)->Option (Bool)
def td (n:Nat) (g14:Pf) (g30:PG) (k l:Val):Option (Bool):=
 match k,l with
 | ⟨a,c,d,e,q,s⟩,⟨f,g,i,b,m,o⟩=>
 bnd (qG (bif(bif(bif(a==f)then(c==g)else false)then(d==i)else false)then(e==b)else false) (xf n s o)) fun j=>
 bnd (qG (bif(bif(bif(bif(a==f)then(c==g)else false)then(d==i)else false)then(e==b)else false)then j else false) (g30 q m)) fun p=>
 some (bif(bif(bif(bif(bif(a==f)then(c==g)else false)then(d==i)else false)then(e==b)else false)then j else false)then p else false)
abbrev gG (r:Bool):PV:=PV.bool r
def ca (n:Nat) (b l:List Val) (g14:Pf):LK (Int) (Bool):=fun c a=>
 bif(decide (a<((Val.rows b).length:Int)))then(
 bnd (idx b a) fun⟨m,o,p,q,s,t⟩=>
 bnd (idx l a) fun⟨d,e,f,g,i,j⟩=>
 bnd (g14 (Val.mk m o p q s t) (Val.mk d e f g i j)) fun k=>
 bif(!k)then(
 some false)
 else(
 c (kwr .i64 (a+1))))
 else(
 some true)
def bc (n:Nat) (g14:Pf) (g30:PG) (a b:List Val):Option (Bool):=
 bif(((Val.rows a).length:Int) != ((Val.rows b).length:Int))then(
 some false)
 else(
 qU (ca n a b g14) n (0:Int))
theorem VH (n:Nat) (g14:Pf) (g30:PG) (g14_ok:∀ (a b:Val) (r:Bool),g14 a b=some r->qi TP 14 [PV.agg (xV.cells a),PV.agg (xV.cells b)] (dd r)) (g30_ok:∀ (d e:List Val) (r:Bool),g30 d e=some r->qi TP 30 [PV.sl (Val.rows d),PV.sl (Val.rows e)] (gG r)):∀ (a b:Val) (r:Bool),td n g14 g30 a b=some r->qi TP 14 [PV.agg (xV.cells a),PV.agg (xV.cells b)] (dd r):=by
 intro a b r h;obtain⟨d,e,_,_,_,_⟩:=a;obtain⟨_,_,_,_,_,_⟩:=b;unfold td at h;refine zN Tryz.call14 Tryz.func14 [1000000] ?_;conv=>whnf
 iterate 19 refine⟨id,?_⟩
 conv=>whnf
 refine bq h fun _ g h=>⟨_,fun c=>(xk n _ _ _ (qa g c)),?_⟩;conv=>whnf
 refine⟨id,id,id,id,id,?_⟩;conv=>whnf
 refine bq h fun _ f h=>⟨_,fun c=>(g30_ok _ _ _ (qa f c)),?_⟩;conv=>whnf
 refine⟨id,?_⟩;obtain rfl:=sj h;conv=>whnf
 try exact Sk
theorem tJ (n:Nat) (g14:Pf) (g30:PG) (g14_ok:∀ (d e:Val) (r:Bool),g14 d e=some r->qi TP 14 [PV.agg (xV.cells d),PV.agg (xV.cells e)] (dd r)) (g30_ok:∀ (a b:List Val) (r:Bool),g30 a b=some r->qi TP 30 [PV.sl (Val.rows a),PV.sl (Val.rows b)] (gG r)):∀ (a b:List Val) (r:Bool),bc n g14 g30 a b=some r->qi TP 30 [PV.sl (Val.rows a),PV.sl (Val.rows b)] (gG r):=by
 intro a b r h;unfold bc at h;refine zN Tryz.call30 Tryz.func30 [1000000] ?_;conv=>whnf
 apply ifc h<;>intro f h
 ·obtain rfl:=sj h
  conv=>whnf
  try exact Sk
 conv=>whnf
 refine zd.fn [1000000] (S:=Int) (fun c=>[(0,pV a),(1,pV b),(5,pI c)]) (fun c=>[]) (B:=ca n a b g14) h (wk [] []) ?_;intro _ c h;unfold ca at h;conv=>whnf
 apply ifc h<;>intro f h
 ·conv=>whnf
  refine bq h fun⟨_,_,_,_,_,_⟩ j h=>⟨_,Codec.at_ xV j,?_⟩;conv=>whnf
  refine bq h fun⟨_,_,_,_,_,_⟩ i h=>⟨_,Codec.at_ xV i,?_⟩;conv=>whnf
  refine bq h fun _ g h=>⟨_,(g14_ok _ _ _ g),?_⟩;conv=>whnf
  apply ifc h<;>intro f h
  ·obtain rfl:=sj h
   conv=>whnf
   try exact Sk
  conv=>whnf
  exact⟨(kwr .i64 (c+1)),h,wk [] []⟩
 obtain rfl:=sj h;conv=>whnf
 try exact Sk
mutual
def uK:Nat->Val->Val->Option (Bool)
 | 0=>fun _ _=>none
 | n+1=>td n (uK n) (gh n)
def gh:Nat->(List Val)->(List Val)->Option (Bool)
 | 0=>fun _ _=>none
 | n+1=>bc n (uK n) (gh n)
end
theorem VL (n:Nat):(∀ (a b:Val) (r:Bool),uK n a b=some r->qi TP 14 [PV.agg (xV.cells a),PV.agg (xV.cells b)] (dd r))/\(∀ (c d:List Val) (r:Bool),gh n c d=some r->qi TP 30 [PV.sl (Val.rows c),PV.sl (Val.rows d)] (gG r)):=by
 induction n with
 | zero=>exact⟨(by intros; rename_i h; cases h),(by intros; rename_i h; cases h)⟩
 | succ n ih=>
  obtain⟨hg14,hg30⟩:=ih;exact⟨VH n (uK n) (gh n) hg14 hg30,tJ n (uK n) (gh n) hg14 hg30⟩
theorem po (n:Nat):∀ (a b:Val) (r:Bool),uK n a b=some r->qi TP 14 [PV.agg (xV.cells a),PV.agg (xV.cells b)] (dd r):=(VL n).1
abbrev vC (r:Bool):PV:=PV.bool r
abbrev Pg:Type:=qb->qb->Option (Bool)
def ft (n:Nat) (b p:List qb) (g163:Pg):LK (Int) (Bool):=fun c a=>
 bif(decide (a<((qb.rows b).length:Int)))then(
 bnd (idx b a) fun⟨w,x,⟨y,z,A,B,d,e⟩,f,g⟩=>
 bnd (idx p a) fun⟨i,j,⟨k,l,m,o,q,s⟩,t,u⟩=>
 bnd (g163 (qb.mk w x (Val.mk y z A B d e) f g) (qb.mk i j (Val.mk k l m o q s) t u)) fun v=>
 bif(!v)then(
 some false)
 else(
 c (kwr .i64 (a+1))))
 else(
 some true)
abbrev PI:Type:=(List qb)->(List qb)->Option (Bool)
def dm (n:Nat) (g162:PI) (g163:Pg) (a b:List qb):Option (Bool):=
 bif(((qb.rows a).length:Int) != ((qb.rows b).length:Int))then(
 some false)
 else(
 qU (ft n a b g163) n (0:Int))
abbrev vP (r:Bool):PV:=PV.bool r
def bg (n:Nat) (g162:PI) (g163:Pg) (g i:qb):Option (Bool):=
 match g,i with
 | ⟨a,d,⟨v,w,x,y,z,A⟩,B,j⟩,⟨b,c,⟨k,l,m,o,p,q⟩,s,t⟩=>
 bnd (qG (bif(a==b)then(d==c)else false) (uK n (Val.mk v w x y z A) (Val.mk k l m o p q))) fun e=>
 bnd (qG (bif(bif(a==b)then(d==c)else false)then e else false) (xf n B s)) fun f=>
 bnd (qG (bif(bif(bif(a==b)then(d==c)else false)then e else false)then f else false) (g162 j t)) fun u=>
 some (bif(bif(bif(bif(a==b)then(d==c)else false)then e else false)then f else false)then u else false)
theorem tg (n:Nat) (g162:PI) (g163:Pg) (g162_ok:∀ (a b:List qb) (r:Bool),g162 a b=some r->qi TP 162 [PV.sl (qb.rows a),PV.sl (qb.rows b)] (vC r)) (g163_ok:∀ (d e:qb) (r:Bool),g163 d e=some r->qi TP 163 [PV.agg (zU.cells d),PV.agg (zU.cells e)] (vP r)):∀ (a b:List qb) (r:Bool),dm n g162 g163 a b=some r->qi TP 162 [PV.sl (qb.rows a),PV.sl (qb.rows b)] (vC r):=by
 intro a b r h;unfold dm at h;refine zN Tryz.call162 Tryz.func162 [1000000] ?_;conv=>whnf
 apply ifc h<;>intro f h
 ·obtain rfl:=sj h
  conv=>whnf
  try exact Sk
 conv=>whnf
 refine zd.fn [1000000] (S:=Int) (fun c=>[(0,pE a),(1,pE b),(5,pI c)]) (fun c=>[]) (B:=ft n a b g163) h (wk [] []) ?_;intro _ c h;unfold ft at h;conv=>whnf
 apply ifc h<;>intro f h
 ·conv=>whnf
  refine bq h fun⟨_,_,⟨_,_,_,_,_,_⟩,_,_⟩ j h=>⟨_,Codec.at_ zU j,?_⟩;conv=>whnf
  refine bq h fun⟨_,_,⟨_,_,_,_,_,_⟩,_,_⟩ i h=>⟨_,Codec.at_ zU i,?_⟩;conv=>whnf
  refine bq h fun _ g h=>⟨_,(g163_ok _ _ _ g),?_⟩;conv=>whnf
  apply ifc h<;>intro f h
  ·obtain rfl:=sj h
   conv=>whnf
   try exact Sk
  conv=>whnf
  exact⟨(kwr .i64 (c+1)),h,wk [] []⟩
 obtain rfl:=sj h;conv=>whnf
 try exact Sk
theorem tK (n:Nat) (g162:PI) (g163:Pg) (g162_ok:∀ (d e:List qb) (r:Bool),g162 d e=some r->qi TP 162 [PV.sl (qb.rows d),PV.sl (qb.rows e)] (vC r)) (g163_ok:∀ (a b:qb) (r:Bool),g163 a b=some r->qi TP 163 [PV.agg (zU.cells a),PV.agg (zU.cells b)] (vP r)):∀ (a b:qb) (r:Bool),bg n g162 g163 a b=some r->qi TP 163 [PV.agg (zU.cells a),PV.agg (zU.cells b)] (vP r):=by
 intro a b r h;obtain⟨d,e,⟨_,_,_,_,_,_⟩,_,_⟩:=a;obtain⟨_,_,⟨_,_,_,_,_,_⟩,_,_⟩:=b;unfold bg at h;refine zN Tryz.call163 Tryz.func163 [1000000] ?_;conv=>whnf
 iterate 9 refine⟨id,?_⟩
 conv=>whnf
 refine bq h fun _ i h=>⟨_,fun c=>(po n _ _ _ (qa i c)),?_⟩;conv=>whnf
 refine⟨id,id,id,id,id,?_⟩;conv=>whnf
 refine bq h fun _ g h=>⟨_,fun c=>(xk n _ _ _ (qa g c)),?_⟩;conv=>whnf
 refine⟨id,id,id,id,id,?_⟩;conv=>whnf
 refine bq h fun _ f h=>⟨_,fun c=>(g162_ok _ _ _ (qa f c)),?_⟩;conv=>whnf
 refine⟨id,?_⟩;obtain rfl:=sj h;conv=>whnf
 try exact Sk
mutual
def zw:Nat->(List qb)->(List qb)->Option (Bool)
 | 0=>fun _ _=>none
 | n+1=>dm n (zw n) (zM n)
def zM:Nat->qb->qb->Option (Bool)
 | 0=>fun _ _=>none
 | n+1=>bg n (zw n) (zM n)
end
theorem br (n:Nat):(∀ (c d:List qb) (r:Bool),zw n c d=some r->qi TP 162 [PV.sl (qb.rows c),PV.sl (qb.rows d)] (vC r))/\(∀ (a b:qb) (r:Bool),zM n a b=some r->qi TP 163 [PV.agg (zU.cells a),PV.agg (zU.cells b)] (vP r)):=by
 induction n with
 | zero=>exact⟨(by intros; rename_i h; cases h),(by intros; rename_i h; cases h)⟩
 | succ n ih=>
  obtain⟨hg162,hg163⟩:=ih;exact⟨tg n (zw n) (zM n) hg162 hg163,tK n (zw n) (zM n) hg162 hg163⟩
theorem xQ (n:Nat):∀ (a b:List qb) (r:Bool),zw n a b=some r->qi TP 162 [PV.sl (qb.rows a),PV.sl (qb.rows b)] (vC r):=(br n).1
theorem uM (n:Nat):∀ (a b:qb) (r:Bool),zM n a b=some r->qi TP 163 [PV.agg (zU.cells a),PV.agg (zU.cells b)] (vP r):=(br n).2
abbrev ZN (r:Bool):PV:=PV.bool r
def cg (n:Nat) (i s:List qh):LK (Int) (Bool):=fun k a=>
 bif(decide (a<((qh.rows i).length:Int)))then(
 bnd (idx i a) fun⟨b,c,d,l,m⟩=>
 bnd (idx s a) fun⟨e,f,g,o,p⟩=>
 bnd (qG (!(bif(bif(!(b==e))then true else(!(c==f)))then true else(d != g))) (xf n l o)) fun j=>
 bnd (qG (!(bif(bif(bif(!(b==e))then true else(!(c==f)))then true else(d != g))then true else(!j))) (zw n m p)) fun q=>
 bif(bif(bif(bif(bif(!(b==e))then true else(!(c==f)))then true else(d != g))then true else(!j))then true else(!q))then(
 some false)
 else(
 k (kwr .i64 (a+1))))
 else(
 some true)
def cf (n:Nat) (e o:List qd) (m p:List qh):LK (Int) (Bool):=fun g b=>
 bif(decide (b<((qd.rows e).length:Int)))then(
 bnd (idx e b) fun⟨c,q,s,t⟩=>
 bnd (idx o b) fun⟨a,i,j,k⟩=>
 bnd (qG (!(!(c==a))) (xf n q i)) fun d=>
 bnd (qG (!(bif(!(c==a))then true else(!d))) (xf n s j)) fun f=>
 bnd (qG (!(bif(bif(!(c==a))then true else(!d))then true else(!f))) (zw n t k)) fun l=>
 bif(bif(bif(bif(!(c==a))then true else(!d))then true else(!f))then true else(!l))then(
 some false)
 else(
 g (kwr .i64 (b+1))))
 else(
 qU (cg n m p) n (0:Int))
def mR (n:Nat) (e f:zj):Option (Bool):=
 match e,f with
 | ⟨a,b⟩,⟨c,d⟩=>
 bif(bif(((qd.rows a).length:Int) != ((qd.rows c).length:Int))then true else(((qh.rows b).length:Int) != ((qh.rows d).length:Int)))then(
 some false)
 else(
 qU (cf n a c b d) n (0:Int))
theorem Qz (n:Nat):∀ (b c:zj) (r:Bool),mR n b c=some r->qi TP 164 [PV.agg (rC.cells b),PV.agg (rC.cells c)] (ZN r):=by
 intro b c r h;obtain⟨j,f⟩:=b;obtain⟨k,g⟩:=c;unfold mR at h;refine zN Tryz.call164 Tryz.func164 [1000000] ?_;conv=>whnf
 iterate 7 refine⟨id,?_⟩
 conv=>whnf
 apply ifc h<;>intro d h
 ·obtain rfl:=sj h
  conv=>whnf
  try exact Sk
 conv=>whnf
 refine zd.fn [1000000] (S:=Int) (fun i=>[(2,.ptr 0 0),(3,.ptr 1 0),(5,pI i)]) (fun i=>[.box 49 [pN j,pG f],.box 49 [pN k,pG g]]) (B:=cf n j k f g) h (wk [0,1] []) ?_;intro _ i h;unfold cf at h;conv=>whnf
 apply ifc h<;>intro d h
 ·conv=>whnf
  refine bq h fun⟨_,_,_,_⟩ q h=>⟨_,Codec.at_ vd q,?_⟩;conv=>whnf
  refine bq h fun⟨_,_,_,_⟩ p h=>⟨_,Codec.at_ vd p,?_⟩;conv=>whnf
  refine⟨id,id,id,id,?_⟩;conv=>whnf
  refine bq h fun _ o h=>⟨_,fun a=>(xk n _ _ _ (qa o a)),?_⟩;conv=>whnf
  iterate 6 refine⟨id,?_⟩
  conv=>whnf
  refine bq h fun _ m h=>⟨_,fun a=>(xk n _ _ _ (qa m a)),?_⟩;conv=>whnf
  iterate 6 refine⟨id,?_⟩
  conv=>whnf
  refine bq h fun _ l h=>⟨_,fun a=>(xQ n _ _ _ (qa l a)),?_⟩;conv=>whnf
  refine⟨id,id,?_⟩;conv=>whnf
  apply ifc h<;>intro d h
  ·obtain rfl:=sj h
   conv=>whnf
   try exact Sk
  conv=>whnf
  exact⟨(kwr .i64 (i+1)),h,wk [0,1] []⟩
 conv=>whnf
 refine zd.fn [1000000] (S:=Int) (fun e=>[(2,.ptr 0 0),(3,.ptr 1 0),(8,pI e)]) (fun e=>[.box 49 [pN j,pG f],.box 49 [pN k,pG g]]) (B:=cg n f g) h (wk [0,1] []) ?_;intro _ e h;unfold cg at h;conv=>whnf
 apply ifc h<;>intro d h
 ·conv=>whnf
  refine bq h fun⟨_,_,_,_,_⟩ v h=>⟨_,Codec.at_ fP v,?_⟩;conv=>whnf
  refine bq h fun⟨_,_,_,_,_⟩ u h=>⟨_,Codec.at_ fP u,?_⟩;conv=>whnf
  iterate 14 refine⟨id,?_⟩
  conv=>whnf
  refine bq h fun _ t h=>⟨_,fun a=>(xk n _ _ _ (qa t a)),?_⟩;conv=>whnf
  iterate 6 refine⟨id,?_⟩
  conv=>whnf
  refine bq h fun _ s h=>⟨_,fun a=>(xQ n _ _ _ (qa s a)),?_⟩;conv=>whnf
  refine⟨id,id,?_⟩;conv=>whnf
  apply ifc h<;>intro d h
  ·obtain rfl:=sj h
   conv=>whnf
   try exact Sk
  conv=>whnf
  exact⟨(kwr .i64 (e+1)),h,wk [0,1] []⟩
 obtain rfl:=sj h;conv=>whnf
 try exact Sk
end W
end
section
set_option maxRecDepth 100000
set_option maxHeartbeats 20000000
open Go Go.Proofs Ax
namespace W
abbrev tS (r:Bool):PV:=PV.bool r
def gN (n:Nat) (i H:List qm):LK (Int) (Bool):=fun j a=>
 bif(decide (a<((qm.rows i).length:Int)))then(
 bnd (idx i a) fun⟨b,c,d,⟨k,l,⟨m,o,p,q,s,t⟩,u,v⟩⟩=>
 bnd (idx H a) fun⟨e,f,g,⟨w,x,⟨y,z,A,B,C,D⟩,E,F⟩⟩=>
 bnd (qG (!(bif(bif(!(b==e))then true else(!(c==f)))then true else(!(d==g)))) (zM n (qb.mk k l (Val.mk m o p q s t) u v) (qb.mk w x (Val.mk y z A B C D) E F))) fun G=>
 bif(bif(bif(bif(!(b==e))then true else(!(c==f)))then true else(!(d==g)))then true else(!G))then(
 some false)
 else(
 j (kwr .i64 (a+1))))
 else(
 some true)
def gM (n:Nat) (d e:List za) (E F:List qm):LK (Int) (Bool):=fun f a=>
 bif(decide (a<((za.rows d).length:Int)))then(
 bnd (idx d a) fun⟨⟨_,_,⟨_,_,_,_,_,_⟩,_,_⟩,b⟩=>
 bnd (idx e a) fun⟨⟨_,_,⟨_,_,_,_,_,_⟩,_,_⟩,c⟩=>
 bnd (qG (!(!(b==c))) (idx d a)) fun⟨⟨g,i,⟨j,k,l,m,o,p⟩,q,s⟩,_⟩=>
 bnd (qG (!(!(b==c))) (idx e a)) fun⟨⟨t,u,⟨v,w,x,y,z,A⟩,B,C⟩,_⟩=>
 bnd (qG (!(!(b==c))) (zM n (qb.mk g i (Val.mk j k l m o p) q s) (qb.mk t u (Val.mk v w x y z A) B C))) fun D=>
 bif(bif(!(b==c))then true else(!D))then(
 some false)
 else(
 f (kwr .i64 (a+1))))
 else(
 qU (gN n E F) n (0:Int))
def gL (n:Nat) (d e:List zx) (i k:List za) (j l:List qm):LK (Int) (Bool):=fun f a=>
 bif(decide (a<((zx.rows d).length:Int)))then(
 bnd (idx d a) fun⟨⟨_,_,⟨_,_,_,_,_,_⟩,_,_⟩,b⟩=>
 bnd (idx e a) fun⟨⟨_,_,⟨_,_,_,_,_,_⟩,_,_⟩,c⟩=>
 bnd (qG (!(!(b==c))) (idx d a)) fun⟨⟨m,o,⟨p,q,s,t,u,v⟩,w,x⟩,_⟩=>
 bnd (qG (!(!(b==c))) (idx e a)) fun⟨⟨y,z,⟨A,B,C,D,E,F⟩,G,H⟩,_⟩=>
 bnd (qG (!(!(b==c))) (zM n (qb.mk m o (Val.mk p q s t u v) w x) (qb.mk y z (Val.mk A B C D E F) G H))) fun g=>
 bif(bif(!(b==c))then true else(!g))then(
 some false)
 else(
 f (kwr .i64 (a+1))))
 else(
 qU (gM n i k j l) n (0:Int))
def gK (n:Nat) (b g:List zj) (d i:List zx) (e j:List za) (f k:List qm):LK (Int) (Bool):=fun c a=>
 bif(decide (a<((zj.rows b).length:Int)))then(
 bnd (idx b a) fun⟨l,m⟩=>
 bnd (idx g a) fun⟨o,p⟩=>
 bnd (mR n (zj.mk l m) (zj.mk o p)) fun q=>
 bif(!q)then(
 some false)
 else(
 c (kwr .i64 (a+1))))
 else(
 qU (gL n d i e j f k) n (0:Int))
def dt (n:Nat) (v w:qt):Option (Bool):=
 match v,w with
 | ⟨c,a,K,⟨R,X,⟨Y,Z,a0,a1,x,y⟩,z,A⟩,k,e,l,f,B,C,q,D,E⟩,⟨d,b,F,⟨G,H,⟨I,J,L,M,N,O⟩,P,Q⟩,m,g,o,i,S,T,s,U,V⟩=>
 bnd (qG (!(bif(c != d)then true else(((zj.rows a).length:Int) != ((zj.rows b).length:Int)))) (zw n K F)) fun j=>
 bnd (qG (!(bif(bif(c != d)then true else(((zj.rows a).length:Int) != ((zj.rows b).length:Int)))then true else(!j))) (zM n (qb.mk R X (Val.mk Y Z a0 a1 x y) z A) (qb.mk G H (Val.mk I J L M N O) P Q))) fun p=>
 bnd (qG (!(bif(bif(bif(bif(bif(bif(bif(c != d)then true else(((zj.rows a).length:Int) != ((zj.rows b).length:Int)))then true else(!j))then true else(!p))then true else(!(k==m)))then true else(((zx.rows e).length:Int) != ((zx.rows g).length:Int)))then true else(!(l==o)))then true else(((za.rows f).length:Int) != ((za.rows i).length:Int)))) (zw n B S)) fun t=>
 bnd (qG (!(bif(bif(bif(bif(bif(bif(bif(bif(c != d)then true else(((zj.rows a).length:Int) != ((zj.rows b).length:Int)))then true else(!j))then true else(!p))then true else(!(k==m)))then true else(((zx.rows e).length:Int) != ((zx.rows g).length:Int)))then true else(!(l==o)))then true else(((za.rows f).length:Int) != ((za.rows i).length:Int)))then true else(!t))) (zw n C T)) fun u=>
 bnd (qG (!(bif(bif(bif(bif(bif(bif(bif(bif(bif(bif(c != d)then true else(((zj.rows a).length:Int) != ((zj.rows b).length:Int)))then true else(!j))then true else(!p))then true else(!(k==m)))then true else(((zx.rows e).length:Int) != ((zx.rows g).length:Int)))then true else(!(l==o)))then true else(((za.rows f).length:Int) != ((za.rows i).length:Int)))then true else(!t))then true else(!u))then true else(((qm.rows q).length:Int) != ((qm.rows s).length:Int)))) (xf n D U)) fun W=>
 bif(bif(bif(bif(bif(bif(bif(bif(bif(bif(bif(bif(bif(c != d)then true else(((zj.rows a).length:Int) != ((zj.rows b).length:Int)))then true else(!j))then true else(!p))then true else(!(k==m)))then true else(((zx.rows e).length:Int) != ((zx.rows g).length:Int)))then true else(!(l==o)))then true else(((za.rows f).length:Int) != ((za.rows i).length:Int)))then true else(!t))then true else(!u))then true else(((qm.rows q).length:Int) != ((qm.rows s).length:Int)))then true else(!W))then true else(!(E==V)))then(
 some false)
 else(
 qU (gK n a b e g f i q s) n (0:Int))
theorem tr (n:Nat):∀ (l m:qt) (r:Bool),dt n l m=some r->qi TP 126 [PV.agg (ub.cells l),PV.agg (ub.cells m)] (tS r):=by
 intro l m r h;obtain⟨o,j,J,⟨T,Y,⟨a1,a2,a3,a4,p,s⟩,t,u⟩,v,g,x,e,y,z,c,A,C⟩:=l;obtain⟨D,k,E,⟨F,G,⟨H,I,K,L,M,N⟩,O,P⟩,Q,i,R,f,U,V,d,W,X⟩:=m;unfold dt at h;refine zN Tryz.call126 Tryz.func126 [1000000] ?_;conv=>whnf
 iterate 11 refine⟨id,?_⟩
 conv=>whnf
 refine bq h fun _ b8 h=>⟨_,fun a=>(xQ n _ _ _ (qa b8 a)),?_⟩;conv=>whnf
 iterate 6 refine⟨id,?_⟩
 conv=>whnf
 refine bq h fun _ b7 h=>⟨_,fun a=>(uM n _ _ _ (qa b7 a)),?_⟩;conv=>whnf
 iterate 30 refine⟨id,?_⟩
 conv=>whnf
 refine bq h fun _ b5 h=>⟨_,fun a=>(xQ n _ _ _ (qa b5 a)),?_⟩;conv=>whnf
 iterate 6 refine⟨id,?_⟩
 conv=>whnf
 refine bq h fun _ b4 h=>⟨_,fun a=>(xQ n _ _ _ (qa b4 a)),?_⟩;conv=>whnf
 iterate 13 refine⟨id,?_⟩
 conv=>whnf
 refine bq h fun _ b3 h=>⟨_,fun a=>(xk n _ _ _ (qa b3 a)),?_⟩;conv=>whnf
 iterate 7 refine⟨id,?_⟩
 conv=>whnf
 apply ifc h<;>intro b h
 ·obtain rfl:=sj h
  conv=>whnf
  try exact Sk
 conv=>whnf
 refine zd.fn [1000000] (S:=Int) (fun Z=>[(2,.ptr 0 0),(3,.ptr 1 0),(5,pI Z)]) (fun Z=>[.box 65 [pI o,pP j,pE J,pI T,pS Y,pI a1,pB a2,pI a3,pS a4,pV p,pT s,pT t,pE u,pS v,pA g,pB x,pO e,pE y,pE z,pU c,pT A,pB C],.box 65 [pI D,pP k,pE E,pI F,pS G,pI H,pB I,pI K,pS L,pV M,pT N,pT O,pE P,pS Q,pA i,pB R,pO f,pE U,pE V,pU d,pT W,pB X]]) (B:=gK n j k g i e f c d) h (wk [0,1] []) ?_;intro _ Z h;unfold gK at h;conv=>whnf
 apply ifc h<;>intro b h
 ·conv=>whnf
  refine bq h fun⟨_,_⟩ b9 h=>⟨_,Codec.at_ rC b9,?_⟩;conv=>whnf
  refine bq h fun⟨_,_⟩ b6 h=>⟨_,Codec.at_ rC b6,?_⟩;conv=>whnf
  refine bq h fun _ a5 h=>⟨_,(Qz n _ _ _ a5),?_⟩;conv=>whnf
  apply ifc h<;>intro b h
  ·obtain rfl:=sj h
   conv=>whnf
   try exact Sk
  conv=>whnf
  exact⟨(kwr .i64 (Z+1)),h,wk [0,1] []⟩
 conv=>whnf
 refine zd.fn [1000000] (S:=Int) (fun a0=>[(2,.ptr 0 0),(3,.ptr 1 0),(6,pI a0)]) (fun a0=>[.box 65 [pI o,pP j,pE J,pI T,pS Y,pI a1,pB a2,pI a3,pS a4,pV p,pT s,pT t,pE u,pS v,pA g,pB x,pO e,pE y,pE z,pU c,pT A,pB C],.box 65 [pI D,pP k,pE E,pI F,pS G,pI H,pB I,pI K,pS L,pV M,pT N,pT O,pE P,pS Q,pA i,pB R,pO f,pE U,pE V,pU d,pT W,pB X]]) (B:=gL n g i e f c d) h (wk [0,1] []) ?_;intro _ a0 h;unfold gL at h;conv=>whnf
 apply ifc h<;>intro b h
 ·conv=>whnf
  refine bq h fun⟨⟨_,_,⟨_,_,_,_,_,_⟩,_,_⟩,_⟩ c4 h=>⟨_,Codec.at_ Uu c4,?_⟩;conv=>whnf
  refine bq h fun⟨⟨_,_,⟨_,_,_,_,_,_⟩,_,_⟩,_⟩ c3 h=>⟨_,Codec.at_ Uu c3,?_⟩;conv=>whnf
  refine⟨id,id,id,?_⟩;conv=>whnf
  refine bq h fun⟨⟨_,_,⟨_,_,_,_,_,_⟩,_,_⟩,_⟩ c2 h=>⟨_,fun a=>Codec.at_ Uu (qa c2 a),?_⟩;conv=>whnf
  refine⟨id,id,id,id,id,?_⟩;conv=>whnf
  refine bq h fun⟨⟨_,_,⟨_,_,_,_,_,_⟩,_,_⟩,_⟩ c1 h=>⟨_,fun a=>Codec.at_ Uu (qa c1 a),?_⟩;conv=>whnf
  refine⟨id,id,id,id,?_⟩;conv=>whnf
  refine bq h fun _ c0 h=>⟨_,fun a=>(uM n _ _ _ (qa c0 a)),?_⟩;conv=>whnf
  refine⟨id,id,?_⟩;conv=>whnf
  apply ifc h<;>intro b h
  ·obtain rfl:=sj h
   conv=>whnf
   try exact Sk
  conv=>whnf
  exact⟨(kwr .i64 (a0+1)),h,wk [0,1] []⟩
 conv=>whnf
 refine zd.fn [1000000] (S:=Int) (fun q=>[(2,.ptr 0 0),(3,.ptr 1 0),(7,pI q)]) (fun q=>[.box 65 [pI o,pP j,pE J,pI T,pS Y,pI a1,pB a2,pI a3,pS a4,pV p,pT s,pT t,pE u,pS v,pA g,pB x,pO e,pE y,pE z,pU c,pT A,pB C],.box 65 [pI D,pP k,pE E,pI F,pS G,pI H,pB I,pI K,pS L,pV M,pT N,pT O,pE P,pS Q,pA i,pB R,pO f,pE U,pE V,pU d,pT W,pB X]]) (B:=gM n e f c d) h (wk [0,1] []) ?_;intro _ q h;unfold gM at h;conv=>whnf
 apply ifc h<;>intro b h
 ·conv=>whnf
  refine bq h fun⟨⟨_,_,⟨_,_,_,_,_,_⟩,_,_⟩,_⟩ a9 h=>⟨_,Codec.at_ Qg a9,?_⟩;conv=>whnf
  refine bq h fun⟨⟨_,_,⟨_,_,_,_,_,_⟩,_,_⟩,_⟩ a8 h=>⟨_,Codec.at_ Qg a8,?_⟩;conv=>whnf
  refine⟨id,id,id,?_⟩;conv=>whnf
  refine bq h fun⟨⟨_,_,⟨_,_,_,_,_,_⟩,_,_⟩,_⟩ a7 h=>⟨_,fun a=>Codec.at_ Qg (qa a7 a),?_⟩;conv=>whnf
  refine⟨id,id,id,id,id,?_⟩;conv=>whnf
  refine bq h fun⟨⟨_,_,⟨_,_,_,_,_,_⟩,_,_⟩,_⟩ a6 h=>⟨_,fun a=>Codec.at_ Qg (qa a6 a),?_⟩;conv=>whnf
  refine⟨id,id,id,id,?_⟩;conv=>whnf
  refine bq h fun _ c5 h=>⟨_,fun a=>(uM n _ _ _ (qa c5 a)),?_⟩;conv=>whnf
  refine⟨id,id,?_⟩;conv=>whnf
  apply ifc h<;>intro b h
  ·obtain rfl:=sj h
   conv=>whnf
   try exact Sk
  conv=>whnf
  exact⟨(kwr .i64 (q+1)),h,wk [0,1] []⟩
 conv=>whnf
 refine zd.fn [1000000] (S:=Int) (fun w=>[(2,.ptr 0 0),(3,.ptr 1 0),(8,pI w)]) (fun w=>[.box 65 [pI o,pP j,pE J,pI T,pS Y,pI a1,pB a2,pI a3,pS a4,pV p,pT s,pT t,pE u,pS v,pA g,pB x,pO e,pE y,pE z,pU c,pT A,pB C],.box 65 [pI D,pP k,pE E,pI F,pS G,pI H,pB I,pI K,pS L,pV M,pT N,pT O,pE P,pS Q,pA i,pB R,pO f,pE U,pE V,pU d,pT W,pB X]]) (B:=gN n c d) h (wk [0,1] []) ?_;intro _ w h;unfold gN at h;conv=>whnf
 apply ifc h<;>intro b h
 ·conv=>whnf
  refine bq h fun⟨_,_,_,⟨_,_,⟨_,_,_,_,_,_⟩,_,_⟩⟩ b2 h=>⟨_,Codec.at_ mz b2,?_⟩;conv=>whnf
  refine bq h fun⟨_,_,_,⟨_,_,⟨_,_,_,_,_,_⟩,_,_⟩⟩ b1 h=>⟨_,Codec.at_ mz b1,?_⟩;conv=>whnf
  iterate 14 refine⟨id,?_⟩
  conv=>whnf
  refine bq h fun _ b0 h=>⟨_,fun a=>(uM n _ _ _ (qa b0 a)),?_⟩;conv=>whnf
  refine⟨id,id,?_⟩;conv=>whnf
  apply ifc h<;>intro b h
  ·obtain rfl:=sj h
   conv=>whnf
   try exact Sk
  conv=>whnf
  exact⟨(kwr .i64 (w+1)),h,wk [0,1] []⟩
 obtain rfl:=sj h;conv=>whnf
 try exact Sk
abbrev FM (r:Bool):PV:=PV.bool r
def pq (n:Nat) (b:SS):LK (Int) (Bool):=fun d a=>
 bif(decide (a<((b.length:Nat):Int)))then(
 bnd (idx b a) fun e=>
 bnd (gU n ((e.toNat:Nat):Int)) fun c=>
 bnd (qG (!c) (idx b a)) fun f=>
 bnd (qG (!c) (gJ n ((f.toNat:Nat):Int))) fun g=>
 bif(bif(!c)then(!g)else false)then(
 some false)
 else(
 d (kwr .i64 (a+1))))
 else(
 some true)
def Qu (n:Nat) (a:SS):Option (Bool):=
 bnd (qG (!(bif(decide (((a.length:Nat):Int)<1))then true else(decide (((a.length:Nat):Int)>64)))) (idx a (0:Int))) fun b=>
 bnd (qG (!(bif(decide (((a.length:Nat):Int)<1))then true else(decide (((a.length:Nat):Int)>64)))) (gU n ((b.toNat:Nat):Int))) fun c=>
 bif(bif(bif(decide (((a.length:Nat):Int)<1))then true else(decide (((a.length:Nat):Int)>64)))then true else(!c))then(
 some false)
 else(
 qU (pq n a) n (0:Int))
theorem Gi (n:Nat):∀ (b:SS) (r:Bool),Qu n b=some r->qi TP 63 [PV.str b] (FM r):=by
 intro b r h;unfold Qu at h;refine zN Tryz.call63 Tryz.func63 [1000000] ?_;conv=>whnf
 refine⟨id,id,id,id,?_⟩;conv=>whnf
 refine bq h fun _ k h=>⟨_,fun a=>zq (qa k a),?_⟩;conv=>whnf
 refine⟨id,?_⟩;conv=>whnf
 refine bq h fun _ j h=>⟨_,fun a=>(fi n _ _ (qa j a)),?_⟩;conv=>whnf
 refine⟨id,id,?_⟩;conv=>whnf
 apply ifc h<;>intro d h
 ·obtain rfl:=sj h
  conv=>whnf
  try exact Sk
 conv=>whnf
 refine zd.fn [1000000] (S:=Int) (fun c=>[(0,pS b),(3,pI c)]) (fun c=>[]) (B:=pq n b) h (wk [] []) ?_;intro _ c h;unfold pq at h;conv=>whnf
 apply ifc h<;>intro d h
 ·conv=>whnf
  refine bq h fun _ i h=>⟨_,zq i,?_⟩;conv=>whnf
  refine bq h fun _ g h=>⟨_,(fi n _ _ g),?_⟩;conv=>whnf
  refine⟨id,id,?_⟩;conv=>whnf
  refine bq h fun _ f h=>⟨_,fun a=>zq (qa f a),?_⟩;conv=>whnf
  refine⟨id,?_⟩;conv=>whnf
  refine bq h fun _ e h=>⟨_,fun a=>(gi n _ _ (qa e a)),?_⟩;conv=>whnf
  refine⟨id,id,?_⟩;conv=>whnf
  apply ifc h<;>intro d h
  ·obtain rfl:=sj h
   conv=>whnf
   try exact Sk
  conv=>whnf
  exact⟨(kwr .i64 (c+1)),h,wk [] []⟩
 obtain rfl:=sj h;conv=>whnf
 try exact Sk
abbrev GA (r:Bool):PV:=PV.bool r
def xW (n:Nat) (a:SS):Option (Bool):=
 bnd (sI n a) fun⟨_,b⟩=>
 bnd (Qu n a) fun c=>
 some (bif c then(!b)else false)
theorem xq (n:Nat):∀ (a:SS) (r:Bool),xW n a=some r->qi TP 41 [PV.str a] (GA r):=by
 intro a r h;unfold xW at h;refine zN Tryz.call41 Tryz.func41 [1000000] ?_;conv=>whnf
 refine bq h fun⟨_,_⟩ c h=>⟨_,(tM n _ _ c),?_⟩;conv=>whnf
 refine bq h fun _ b h=>⟨_,(Gi n _ _ b),?_⟩;conv=>whnf
 refine⟨id,id,?_⟩;obtain rfl:=sj h;conv=>whnf
 try exact Sk
abbrev Ud (r:Bool):PV:=PV.bool r
def bY (n:Nat) (b:Val):Option (Bool):=
 match b with
 | ⟨a,c,d,e,f,g⟩=>
 bif(bif(a != 1)then c else false)then(
 some false)
 else(
 bif(bif(bif(bif(a != 2)then(a != 6)else false)then(a != 7)else false)then(d != 0)else false)then(
 some false)
 else(
 bif(bif(a != 3)then(!(e==([]:SS)))else false)then(
 some false)
 else(
 bif(bif(bif(a != 4)then(a != 5)else false)then(decide (((Val.rows f).length:Int)>0))else false)then(
 some false)
 else(
 some (bif(a==5)then true else(((qy g).length:Int)==0))))))
theorem Xv (n:Nat):∀ (a:Val) (r:Bool),bY n a=some r->qi TP 94 [PV.agg (xV.cells a)] (Ud r):=by
 intro a r h;obtain⟨_,_,_,_,_,_⟩:=a;unfold bY at h;refine zN Tryz.call94 Tryz.func94 [1000000] ?_;conv=>whnf
 refine⟨id,id,?_⟩;conv=>whnf
 apply ifc h<;>intro b h
 ·obtain rfl:=sj h
  conv=>whnf
  try exact Sk
 conv=>whnf
 iterate 9 refine⟨id,?_⟩
 conv=>whnf
 apply ifc h<;>intro b h
 ·obtain rfl:=sj h
  conv=>whnf
  try exact Sk
 conv=>whnf
 refine⟨id,id,id,?_⟩;conv=>whnf
 apply ifc h<;>intro b h
 ·obtain rfl:=sj h
  conv=>whnf
  try exact Sk
 conv=>whnf
 iterate 7 refine⟨id,?_⟩
 conv=>whnf
 apply ifc h<;>intro b h
 ·obtain rfl:=sj h
  conv=>whnf
  try exact Sk
 conv=>whnf
 refine⟨id,id,id,id,?_⟩;obtain rfl:=sj h;conv=>whnf
 try exact Sk
abbrev pR (r:Int×Bool):PV:=PV.tup [PV.int .i64 r.1,PV.bool r.2]
abbrev Ph:Type:=Val->Int->Int->Option (Int×Bool)
def bW (n:Nat) (d:List Val) (g65:Ph) (o:Int):LK (Int×Int) (Int×Bool):=fun e (b,a)=>
 bif(decide (a<((Val.rows d).length:Int)))then(
 bnd (idx d a) fun⟨f,g,i,j,k,l⟩=>
 bnd (g65 (Val.mk f g i j k l) (kwr .i64 (o - 1)) b) fun⟨c,m⟩=>
 bif(!m)then(
 some (c,false))
 else(
 e (c,(kwr .i64 (a+1)))))
 else(
 some (b,true))
def gT (n:Nat) (a:List Val) (g65:Ph) (b c:Int):Unit->Option (Int×Bool):=fun _=>
 qU (bW n a g65 b) n ((kwr .i64 (c+1)),(0:Int))
def bX (n:Nat) (b:List SS) (g:Int) (j:List Val) (g65:Ph) (k:Int):LK (Int) (Int×Bool):=fun i a=>
 bif(decide (a<((qy b).length:Int)))then(
 bnd (idx b a) fun c=>
 bnd (qG (!(decide (((c.length:Nat):Int)<1))) (idx b a)) fun d=>
 bnd (qG ((!(bif(decide (((c.length:Nat):Int)<1))then true else(decide (((d.length:Nat):Int)>64))))&&(decide (a>0))) (idx b a)) fun e=>
 bnd (qG ((!(bif(decide (((c.length:Nat):Int)<1))then true else(decide (((d.length:Nat):Int)>64))))&&(decide (a>0))) (idx b (kwr .i64 (a - 1)))) fun f=>
 bif(bif(bif(decide (((c.length:Nat):Int)<1))then true else(decide (((d.length:Nat):Int)>64)))then true else(bif(decide (a>0))then(Op.bytesLess e f||e==f)else false))then(
 some ((kwr .i64 (g+1)),false))
 else(
 i (kwr .i64 (a+1))))
 else(
 gT n j g65 k g ())
def nF (n:Nat) (g65:Ph) (g:Val) (d b:Int):Option (Int×Bool):=
 match g with
 | ⟨a,i,f,j,c,e⟩=>
 bnd (qG (!(bif(bif(bif(decide ((kwr .i64 (b+1))>4096))then true else(decide (d<1)))then true else(decide (a<0)))then true else(decide (a>7)))) (bY n (Val.mk a i f j c e))) fun k=>
 bif(bif(bif(bif(bif(decide ((kwr .i64 (b+1))>4096))then true else(decide (d<1)))then true else(decide (a<0)))then true else(decide (a>7)))then true else(!k))then(
 some ((kwr .i64 (b+1)),false))
 else(
 bif(bif(bif(a==6)then true else(a==7))then(decide (f<1))else false)then(
 some ((kwr .i64 (b+1)),false))
 else(
 bif(a==5)then(
 bif(((qy e).length:Int) != ((Val.rows c).length:Int))then(
 some ((kwr .i64 (b+1)),false))
 else(
 qU (bX n e b c g65 d) n (0:Int)))
 else(
 gT n c g65 d b ())))
theorem Ge (n:Nat) (g65:Ph) (g65_ok:∀ (c:Val) (a b:Int) (r:Int×Bool),g65 c a b=some r->qi TP 65 [PV.agg (xV.cells c),PV.int .i64 a,PV.int .i64 b] (pR r)):∀ (c:Val) (a b:Int) (r:Int×Bool),nF n g65 c a b=some r->qi TP 65 [PV.agg (xV.cells c),PV.int .i64 a,PV.int .i64 b] (pR r):=by
 intro c a b r h;obtain⟨k,m,o,q,f,j⟩:=c;unfold nF at h;refine zN Tryz.call65 Tryz.func65 [1000000] ?_;conv=>whnf
 iterate 9 refine⟨id,?_⟩
 conv=>whnf
 refine bq h fun _ y h=>⟨_,fun e=>(Xv n _ _ (qa y e)),?_⟩;conv=>whnf
 refine⟨id,id,?_⟩;conv=>whnf
 apply ifc h<;>intro d h
 ·obtain rfl:=sj h
  conv=>whnf
  try exact Sk
 conv=>whnf
 iterate 6 refine⟨id,?_⟩
 conv=>whnf
 apply ifc h<;>intro d h
 ·obtain rfl:=sj h
  conv=>whnf
  try exact Sk
 conv=>whnf
 refine nu.cut (S:=Unit) (fun _=>[(1,pI a),(2,.p (.int .i64 (kwr .i64 (b+1)))),(3,.ptr 0 0)]) (fun _=>[.box 32 [pI k,pB m,pI o,pS q,pV f,pT j]]) (gT n f g65 a b) (r:=r) ?_ ?_
 ·intro _ h
  unfold gT at h;conv=>whnf
  refine zd.fn [1000000] (S:=Int×Int) (fun(l,g)=>[(1,pI a),(2,pI l),(3,.ptr 0 0),(9,pI g)]) (fun(l,g)=>[.box 32 [pI k,pB m,pI o,pS q,pV f,pT j]]) (B:=bW n f g65 a) h (wk [0] []) ?_;intro _ st h;obtain⟨l,g⟩:=st;unfold bW at h;conv=>whnf
  apply ifc h<;>intro d h
  ·conv=>whnf
   refine bq h fun⟨_,_,_,_,_,_⟩ t h=>⟨_,Codec.at_ xV t,?_⟩;conv=>whnf
   refine bq h fun⟨z,_⟩ s h=>⟨_,(g65_ok _ _ _ _ s),?_⟩;conv=>whnf
   apply ifc h<;>intro d h
   ·obtain rfl:=sj h
    conv=>whnf
    try exact Sk
   conv=>whnf
   exact⟨(z,(kwr .i64 (g+1))),h,wk [0] []⟩
  obtain rfl:=sj h;conv=>whnf
  try exact Sk
 conv=>whnf
 apply ifc h<;>intro d h
 ·conv=>whnf
  apply ifc h<;>intro d h
  ·obtain rfl:=sj h
   conv=>whnf
   try exact Sk
  conv=>whnf
  refine zd.fn [1000000] (S:=Int) (fun i=>[(1,pI a),(2,.p (.int .i64 (kwr .i64 (b+1)))),(3,.ptr 0 0),(8,pI i)]) (fun i=>[.box 32 [pI k,pB m,pI o,pS q,pV f,pT j]]) (B:=bX n j b f g65 a) h (wk [0] []) ?_;intro _ i h;unfold bX at h;conv=>whnf
  apply ifc h<;>intro d h
  ·conv=>whnf
   refine bq h fun _ x h=>⟨_,Codec.at_ rE x,?_⟩;conv=>whnf
   refine⟨id,id,id,?_⟩;conv=>whnf
   refine bq h fun _ w h=>⟨_,fun e=>Codec.at_ rE (qa w e),?_⟩;conv=>whnf
   iterate 9 refine⟨id,?_⟩
   conv=>whnf
   refine bq h fun _ v h=>⟨_,fun e=>Codec.at_ rE (qa v e),?_⟩;conv=>whnf
   refine⟨id,id,id,id,id,?_⟩;conv=>whnf
   refine bq h fun _ u h=>⟨_,fun e=>Codec.at_ rE (qa u e),?_⟩;conv=>whnf
   iterate 6 refine⟨id,?_⟩
   conv=>whnf
   apply ifc h<;>intro d h
   ·obtain rfl:=sj h
    conv=>whnf
    try exact Sk
   conv=>whnf
   exact⟨(kwr .i64 (i+1)),h,wk [0] []⟩
  conv=>whnf
  exact⟨(),h,wk [0] []⟩
 conv=>whnf
 exact⟨(),h,wk [0] []⟩
def cZ:Nat->Val->Int->Int->Option (Int×Bool)
 | 0=>fun _ _ _=>none
 | n+1=>nF n (cZ n)
theorem Gh (n:Nat):(∀ (a:Val) (b c:Int) (r:Int×Bool),cZ n a b c=some r->qi TP 65 [PV.agg (xV.cells a),PV.int .i64 b,PV.int .i64 c] (pR r)):=by
 induction n with
 | zero=>exact(by intros; rename_i h; cases h)
 | succ n ih=>
  have hg65:=ih;exact Ge n (cZ n) hg65
theorem FD (n:Nat):∀ (a:Val) (b c:Int) (r:Int×Bool),cZ n a b c=some r->qi TP 65 [PV.agg (xV.cells a),PV.int .i64 b,PV.int .i64 c] (pR r):=(Gh n)
abbrev Bk (r:Bool):PV:=PV.bool r
def cY (n:Nat) (a:Val):Option (Bool):=
 match a with
 | ⟨b,c,d,e,f,g⟩=>
 bnd (cZ n (Val.mk b c d e f g) (32:Int) (0:Int)) fun⟨_,i⟩=>
 some i
theorem bV (n:Nat):∀ (a:Val) (r:Bool),cY n a=some r->qi TP 43 [PV.agg (xV.cells a)] (Bk r):=by
 intro a r h;obtain⟨_,_,_,_,_,_⟩:=a;unfold cY at h;refine zN Tryz.call43 Tryz.func43 [1000000] ?_;conv=>whnf
 refine bq h fun⟨_,_⟩ b h=>⟨_,(FD n _ _ _ _ b),?_⟩;obtain rfl:=sj h;conv=>whnf
 try exact Sk
abbrev GD (r:Int):PV:=PV.int .i64 r
def gj (n:Nat):Bool->Option (Int):=fun a=>
 bif a then(
 some (7:Int))
 else(
 some (0:Int))
def cK (n:Nat) (a:SS):Bool->Option (Int):=fun b=>
 bif b then(
 some (6:Int))
 else(
 bif(a==([42]:SS))then(
 gj n (a==([42]:SS)))
 else(
 bif(a==([47]:SS))then(
 gj n (a==([47]:SS)))
 else(
 gj n (a==([37]:SS)))))
def xd (n:Nat) (a:SS):Bool->Option (Int):=fun b=>
 bif b then(
 some (5:Int))
 else(
 bif(a==([43]:SS))then(
 cK n a (a==([43]:SS)))
 else(
 cK n a (a==([45]:SS))))
def tm (n:Nat) (a:SS):Option (Int):=
 bif(a==([79,82]:SS))then(
 some (1:Int))
 else(
 bif(a==([88,79,82]:SS))then(
 some (2:Int))
 else(
 bif(a==([65,78,68]:SS))then(
 some (3:Int))
 else(
 bif(a==([61]:SS))then(
 xd n a (a==([61]:SS)))
 else(
 bif(a==([60,62]:SS))then(
 xd n a (a==([60,62]:SS)))
 else(
 bif(a==([60]:SS))then(
 xd n a (a==([60]:SS)))
 else(
 bif(a==([60,61]:SS))then(
 xd n a (a==([60,61]:SS)))
 else(
 bif(a==([62]:SS))then(
 xd n a (a==([62]:SS)))
 else(
 bif(a==([62,61]:SS))then(
 xd n a (a==([62,61]:SS)))
 else(
 xd n a (a==([73,78]:SS)))))))))))
theorem VQ (n:Nat):∀ (a:SS) (r:Int),tm n a=some r->qi TP 166 [PV.str a] (GD r):=by
 intro a r h;unfold tm at h;refine zN Tryz.call166 Tryz.func166 [1000000] ?_;conv=>whnf
 apply ifc h<;>intro b h
 ·obtain rfl:=sj h
  conv=>whnf
  try exact Sk
 conv=>whnf
 apply ifc h<;>intro b h
 ·obtain rfl:=sj h
  conv=>whnf
  try exact Sk
 conv=>whnf
 apply ifc h<;>intro b h
 ·obtain rfl:=sj h
  conv=>whnf
  try exact Sk
 conv=>whnf
 refine nu.cut (S:=Bool) (fun c=>[(3,pS a),(10,pB c)]) (fun c=>[]) (xd n a) (r:=r) ?_ ?_
 ·intro c h
  unfold xd at h;conv=>whnf
  apply ifc h<;>intro b h
  ·obtain rfl:=sj h
   conv=>whnf
   try exact Sk
  conv=>whnf
  refine nu.cut (S:=Bool) (fun d=>[(3,pS a),(18,pB d)]) (fun d=>[]) (cK n a) (r:=r) ?_ ?_
  ·intro d h
   unfold cK at h;conv=>whnf
   apply ifc h<;>intro b h
   ·obtain rfl:=sj h
    conv=>whnf
    try exact Sk
   conv=>whnf
   refine nu.cut (S:=Bool) (fun e=>[(21,pB e)]) (fun e=>[]) (gj n) (r:=r) ?_ ?_
   ·intro e h
    unfold gj at h;(conv=>whnf);apply ifc h<;>intro b h
    ·obtain rfl:=sj h
     conv=>whnf
     try exact Sk
    obtain rfl:=sj h;conv=>whnf
    try exact Sk
   conv=>whnf
   apply ifc h<;>intro b h
   ·conv=>whnf
    exact⟨(a==([42]:SS)),h,wk [] []⟩
   conv=>whnf
   apply ifc h<;>intro b h
   ·conv=>whnf
    exact⟨(a==([47]:SS)),h,wk [] []⟩
   conv=>whnf
   exact⟨(a==([37]:SS)),h,wk [] []⟩
  conv=>whnf
  apply ifc h<;>intro b h
  ·conv=>whnf
   exact⟨(a==([43]:SS)),h,wk [] []⟩
  conv=>whnf
  exact⟨(a==([45]:SS)),h,wk [] []⟩
 conv=>whnf
 apply ifc h<;>intro b h
 ·conv=>whnf
  exact⟨(a==([61]:SS)),h,wk [] []⟩
 conv=>whnf
 apply ifc h<;>intro b h
 ·conv=>whnf
  exact⟨(a==([60,62]:SS)),h,wk [] []⟩
 conv=>whnf
 apply ifc h<;>intro b h
 ·conv=>whnf
  exact⟨(a==([60]:SS)),h,wk [] []⟩
 conv=>whnf
 apply ifc h<;>intro b h
 ·conv=>whnf
  exact⟨(a==([60,61]:SS)),h,wk [] []⟩
 conv=>whnf
 apply ifc h<;>intro b h
 ·conv=>whnf
  exact⟨(a==([62]:SS)),h,wk [] []⟩
 conv=>whnf
 apply ifc h<;>intro b h
 ·conv=>whnf
  exact⟨(a==([62,61]:SS)),h,wk [] []⟩
 conv=>whnf
 exact⟨(a==([73,78]:SS)),h,wk [] []⟩
end W
end
