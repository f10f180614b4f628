/- A part of the proof: contracts, printed by program. -/
import Derived.Test.YtgbnebnnphdenaaGreatC
import Derived.Test.YtgbnebnnphdenaaGreatD
set_option linter.unusedVariables false
set_option linter.unusedSimpArgs false
set_option linter.unnecessarySimpa false
set_option linter.deprecated false
set_option linter.unusedSectionVars false
set_option linter.constructorNameAsVariable false
open Go.IntKind renaming wrap->kwr,bits->kbt
section
set_option maxRecDepth 100000
set_option maxHeartbeats 4000000
open Go Go.Proofs Ax
namespace W
abbrev mq (_:List ql) (_:Int) (_:Bool) (r:(List SS)×(List qa)×Int×Bool):FV:=.p (.tup [.sl (qi r.1),.sl (qa.rows r.2.1)])
abbrev mn (a:List ql) (_:Int) (_:Bool) (r:(List SS)×(List qa)×Int×Bool):List AObj:=[.box 137 [pK a,.p (.int .i64 r.2.2.1),.p (.bool r.2.2.2)]]
abbrev vN:Type:=(List ql)->Int->Bool->Option (qa×Int×Bool)
def pn (n:Nat) (a:List ql) (g120:vN):LK (List SS×List qa×Int×Bool) ((List SS)×(List qa)×Int×Bool):=fun v (b,c,t,d)=>
 bif(!d)then(
 bnd (gG n a t d) fun⟨e,w,x⟩=>
 bnd (qU n ([58]:SS) a w x) fun⟨y,z⟩=>
 bnd (g120 a y z) fun⟨⟨f,g,⟨i,j,k,l,m,o⟩,p,q⟩,A,s⟩=>
 chk (decide ((qi (b++[e])).length * 16<=140737488355328)) (
 chk (decide ((qa.rows (c++[qa.mk f g (Val.mk i j k l m o) p q])).length * 160<=140737488355328)) (
 bnd (qm n ([44]:SS) a A s) fun⟨B,u⟩=>
 bif(!B)then(
 bnd (qU n ([125]:SS) a u s) fun⟨C,D⟩=>
 some ((b++[e]),(c++[qa.mk f g (Val.mk i j k l m o) p q]),C,D))
 else(
 v ((b++[e]),(c++[qa.mk f g (Val.mk i j k l m o) p q]),u,s)))))
 else(
 some (b,c,t,d))
abbrev FJ:Type:=(List ql)->Int->Bool->Option ((List SS)×(List qa)×Int×Bool)
abbrev FK:Type:=SS->(List ql)->Int->Bool->Option (qa×Int×Bool)
abbrev FL:Type:=SS->(List ql)->Int->Bool->Option ((List qa)×Int×Bool)
def tw (n:Nat) (g159:FJ) (g120 g155:vN) (g203 g223:vN) (g230 g234:vN) (g235 g236 g237:vN) (g238:FK) (g239:FL) (a:List ql) (d:Int) (e:Bool):Option ((List SS)×(List qa)×Int×Bool):=
 bnd (qU n ([123]:SS) a d e) fun⟨f,b⟩=>
 bnd (qm n ([125]:SS) a f b) fun⟨g,c⟩=>
 bif g then(
 some (([]:List SS),([]:List qa),c,b))
 else(
 qA (pn n a g120) n (([]:List _),([]:List _),c,b))
abbrev ny (_:List ql) (_:Int) (_:Bool) (r:qa×Int×Bool):FV:=.p ((PV.agg (zx.cells r.1)))
abbrev nu (a:List ql) (_:Int) (_:Bool) (r:qa×Int×Bool):List AObj:=[.box 137 [pK a,.p (.int .i64 r.2.1),.p (.bool r.2.2)]]
def rS (n:Nat) (b:List ql) (g155:vN):LK (Int×Bool×Int×SS×Int×Bool×Int×SS×List Val×List SS×List SS×List qa) (qa×Int×Bool):=fun p (q,a,c,d,e,f,g,i,j,k,l,m)=>
 bnd (qm n ([79,82]:SS) b q a) fun⟨s,o⟩=>
 bif s then(
 bnd (g155 b o a) fun⟨⟨t,u,⟨v,w,x,y,z,A⟩,B,C⟩,D,E⟩=>
 bnd (fx n ([79,82]:SS) (qa.mk c d (Val.mk e f g i j k) l m) (qa.mk t u (Val.mk v w x y z A) B C)) fun⟨F,G,⟨H,I,J,K,L,M⟩,N,O⟩=>
 p (D,E,F,G,H,I,J,K,L,M,N,O))
 else(
 some (qa.mk c d (Val.mk e f g i j k) l m,o,a))
def QA (n:Nat) (g159:FJ) (g120 g155:vN) (g203 g223:vN) (g230 g234:vN) (g235 g236 g237:vN) (g238:FK) (g239:FL) (a:List ql) (i:Int) (j:Bool):Option (qa×Int×Bool):=
 bnd (g155 a i j) fun⟨⟨k,l,⟨m,o,p,q,b,c⟩,d,e⟩,f,g⟩=>
 qA (rS n a g155) n (f,g,k,l,m,o,p,q,b,c,d,e)
abbrev Zh (_:List ql) (_:Int) (_:Bool) (r:qa×Int×Bool):FV:=.p ((PV.agg (zx.cells r.1)))
abbrev Zc (a:List ql) (_:Int) (_:Bool) (r:qa×Int×Bool):List AObj:=[.box 137 [pK a,.p (.int .i64 r.2.1),.p (.bool r.2.2)]]
def tE (n:Nat) (b:List ql) (g203:vN):LK (Int×Bool×Int×SS×Int×Bool×Int×SS×List Val×List SS×List SS×List qa) (qa×Int×Bool):=fun p (q,a,c,d,e,f,g,i,j,k,l,m)=>
 bnd (qm n ([88,79,82]:SS) b q a) fun⟨s,o⟩=>
 bif s then(
 bnd (g203 b o a) fun⟨⟨t,u,⟨v,w,x,y,z,A⟩,B,C⟩,D,E⟩=>
 bnd (fx n ([88,79,82]:SS) (qa.mk c d (Val.mk e f g i j k) l m) (qa.mk t u (Val.mk v w x y z A) B C)) fun⟨F,G,⟨H,I,J,K,L,M⟩,N,O⟩=>
 p (D,E,F,G,H,I,J,K,L,M,N,O))
 else(
 some (qa.mk c d (Val.mk e f g i j k) l m,o,a))
def ZZ (n:Nat) (g159:FJ) (g120 g155:vN) (g203 g223:vN) (g230 g234:vN) (g235 g236 g237:vN) (g238:FK) (g239:FL) (a:List ql) (i:Int) (j:Bool):Option (qa×Int×Bool):=
 bnd (g203 a i j) fun⟨⟨k,l,⟨m,o,p,q,b,c⟩,d,e⟩,f,g⟩=>
 qA (tE n a g203) n (f,g,k,l,m,o,p,q,b,c,d,e)
abbrev Ze (_:List ql) (_:Int) (_:Bool) (r:qa×Int×Bool):FV:=.p ((PV.agg (zx.cells r.1)))
abbrev QZ (a:List ql) (_:Int) (_:Bool) (r:qa×Int×Bool):List AObj:=[.box 137 [pK a,.p (.int .i64 r.2.1),.p (.bool r.2.2)]]
def tB (n:Nat) (b:List ql) (g223:vN):LK (Int×Bool×Int×SS×Int×Bool×Int×SS×List Val×List SS×List SS×List qa) (qa×Int×Bool):=fun p (q,a,c,d,e,f,g,i,j,k,l,m)=>
 bnd (qm n ([65,78,68]:SS) b q a) fun⟨s,o⟩=>
 bif s then(
 bnd (g223 b o a) fun⟨⟨t,u,⟨v,w,x,y,z,A⟩,B,C⟩,D,E⟩=>
 bnd (fx n ([65,78,68]:SS) (qa.mk c d (Val.mk e f g i j k) l m) (qa.mk t u (Val.mk v w x y z A) B C)) fun⟨F,G,⟨H,I,J,K,L,M⟩,N,O⟩=>
 p (D,E,F,G,H,I,J,K,L,M,N,O))
 else(
 some (qa.mk c d (Val.mk e f g i j k) l m,o,a))
def ZW (n:Nat) (g159:FJ) (g120 g155:vN) (g203 g223:vN) (g230 g234:vN) (g235 g236 g237:vN) (g238:FK) (g239:FL) (a:List ql) (i:Int) (j:Bool):Option (qa×Int×Bool):=
 bnd (g223 a i j) fun⟨⟨k,l,⟨m,o,p,q,b,c⟩,d,e⟩,f,g⟩=>
 qA (tB n a g223) n (f,g,k,l,m,o,p,q,b,c,d,e)
abbrev Zf (_:List ql) (_:Int) (_:Bool) (r:qa×Int×Bool):FV:=.p ((PV.agg (zx.cells r.1)))
abbrev Za (a:List ql) (_:Int) (_:Bool) (r:qa×Int×Bool):List AObj:=[.box 137 [pK a,.p (.int .i64 r.2.1),.p (.bool r.2.2)]]
def ZX (n:Nat) (g159:FJ) (g120 g155:vN) (g203 g223:vN) (g230 g234:vN) (g235 g236 g237:vN) (g238:FK) (g239:FL) (a:List ql) (p:Int) (b:Bool):Option (qa×Int×Bool):=
 bnd (qm n ([78,79,84]:SS) a p b) fun⟨L,c⟩=>
 bif L then(
 bnd (g223 a c b) fun⟨⟨M,N,⟨O,P,d,e,f,g⟩,i,j⟩,k,l⟩=>
 bnd (nJ n (9:Int) (qa.mk M N (Val.mk O P d e f g) i j)) fun⟨m,o,⟨q,s,t,u,v,w⟩,x,y⟩=>
 some (qa.mk m o (Val.mk q s t u v w) x y,k,l))
 else(
 bnd (g230 a c b) fun⟨⟨z,A,⟨B,C,D,E,F,G⟩,H,I⟩,J,K⟩=>
 some (qa.mk z A (Val.mk B C D E F G) H I,J,K))
abbrev tO (_:List ql) (_:Int) (_:Bool) (r:qa×Int×Bool):FV:=.p ((PV.agg (zx.cells r.1)))
abbrev tK (a:List ql) (_:Int) (_:Bool) (r:qa×Int×Bool):List AObj:=[.box 137 [pK a,.p (.int .i64 r.2.1),.p (.bool r.2.2)]]
def rY (n:Nat) (c:List ql) (b:Bool) (g234:vN) (i:Int) (l:SS) (m:Int) (o:Bool) (p:Int) (q:SS) (d:List Val) (e f:List SS) (g:List qa):LK (Int×Int) (qa×Int×Bool):=fun s (a,j)=>
 bif(decide (a<(((qi [([61]:SS),([60,62]:SS),([60,61]:SS),([60]:SS),([62,61]:SS),([62]:SS),([73,78]:SS)]).length:Nat):Int)))then(
 bnd (idx [([61]:SS),([60,62]:SS),([60,61]:SS),([60]:SS),([62,61]:SS),([62]:SS),([73,78]:SS)] a) fun t=>
 bnd (qm n t c j b) fun⟨u,k⟩=>
 bif u then(
 bnd (g234 c k b) fun⟨⟨v,w,⟨x,y,z,A,B,C⟩,D,E⟩,F,G⟩=>
 bnd (idx [([61]:SS),([60,62]:SS),([60,61]:SS),([60]:SS),([62,61]:SS),([62]:SS),([73,78]:SS)] a) fun H=>
 bnd (fx n H (qa.mk i l (Val.mk m o p q d e) f g) (qa.mk v w (Val.mk x y z A B C) D E)) fun⟨I,J,⟨K,L,M,N,O,P⟩,Q,R⟩=>
 some (qa.mk I J (Val.mk K L M N O P) Q R,F,G))
 else(
 s ((kwr .i64 (a+1)),k)))
 else(
 some (qa.mk i l (Val.mk m o p q d e) f g,j,b))
def QE (n:Nat) (g159:FJ) (g120 g155:vN) (g203 g223:vN) (g230 g234:vN) (g235 g236 g237:vN) (g238:FK) (g239:FL) (a:List ql) (w:Int) (F:Bool):Option (qa×Int×Bool):=
 bnd (g234 a w F) fun⟨⟨g,i,⟨j,k,l,m,c,d⟩,e,f⟩,s,b⟩=>
 bnd (qm n ([73,83]:SS) a s b) fun⟨t,o⟩=>
 bif t then(
 bnd (qm n ([78,79,84]:SS) a o b) fun⟨u,v⟩=>
 bnd (qU n ([78,85,76,76]:SS) a v b) fun⟨p,q⟩=>
 bif u then(
 bnd (nJ n (12:Int) (qa.mk g i (Val.mk j k l m c d) e f)) fun⟨x,y,⟨z,A,B,C,D,E⟩,G,H⟩=>
 some (qa.mk x y (Val.mk z A B C D E) G H,p,q))
 else(
 bnd (nJ n (11:Int) (qa.mk g i (Val.mk j k l m c d) e f)) fun⟨I,J,⟨K,L,M,N,O,P⟩,Q,R⟩=>
 some (qa.mk I J (Val.mk K L M N O P) Q R,p,q)))
 else(
 qA (rY n a b g234 g i j k l m c d e f) n ((0:Int),o))
abbrev Zg (_:List ql) (_:Int) (_:Bool) (r:qa×Int×Bool):FV:=.p ((PV.agg (zx.cells r.1)))
abbrev Zb (a:List ql) (_:Int) (_:Bool) (r:qa×Int×Bool):List AObj:=[.box 137 [pK a,.p (.int .i64 r.2.1),.p (.bool r.2.2)]]
def tD (n:Nat) (b:List ql) (g235:vN):LK (Int×Bool×Int×SS×Int×Bool×Int×SS×List Val×List SS×List SS×List qa) (qa×Int×Bool):=fun q (a,c,d,e,f,g,i,j,k,l,m,o)=>
 bnd (xR n ([43]:SS) b a c) fun p=>
 bif(!p)then(
 bnd (xR n ([45]:SS) b a c) fun s=>
 bif(bif p then true else s)then(
 bnd (idx b a) fun⟨_,t,_,_⟩=>
 bnd (g235 b (kwr .i64 (a+1)) c) fun⟨⟨u,v,⟨w,x,y,z,A,B⟩,C,D⟩,E,F⟩=>
 bnd (fx n t (qa.mk d e (Val.mk f g i j k l) m o) (qa.mk u v (Val.mk w x y z A B) C D)) fun⟨G,H,⟨I,J,K,L,M,N⟩,O,P⟩=>
 q (E,F,G,H,I,J,K,L,M,N,O,P))
 else(
 some (qa.mk d e (Val.mk f g i j k l) m o,a,c)))
 else(
 bif(bif p then true else false)then(
 bnd (idx b a) fun⟨_,Q,_,_⟩=>
 bnd (g235 b (kwr .i64 (a+1)) c) fun⟨⟨R,S,⟨T,U,V,W,X,Y⟩,Z,a0⟩,a1,a2⟩=>
 bnd (fx n Q (qa.mk d e (Val.mk f g i j k l) m o) (qa.mk R S (Val.mk T U V W X Y) Z a0)) fun⟨a3,a4,⟨a5,a6,a7,a8,a9,b0⟩,b1,b2⟩=>
 q (a1,a2,a3,a4,a5,a6,a7,a8,a9,b0,b1,b2))
 else(
 some (qa.mk d e (Val.mk f g i j k l) m o,a,c)))
def ZY (n:Nat) (g159:FJ) (g120 g155:vN) (g203 g223:vN) (g230 g234:vN) (g235 g236 g237:vN) (g238:FK) (g239:FL) (a:List ql) (i:Int) (j:Bool):Option (qa×Int×Bool):=
 bnd (g235 a i j) fun⟨⟨k,l,⟨m,o,p,q,b,c⟩,d,e⟩,f,g⟩=>
 qA (tD n a g235) n (f,g,k,l,m,o,p,q,b,c,d,e)
abbrev mO (_:List ql) (_:Int) (_:Bool) (r:qa×Int×Bool):FV:=.p ((PV.agg (zx.cells r.1)))
abbrev mN (a:List ql) (_:Int) (_:Bool) (r:qa×Int×Bool):List AObj:=[.box 137 [pK a,.p (.int .i64 r.2.1),.p (.bool r.2.2)]]
def bS (n:Nat) (b:List ql) (g236:vN):LK (Int×Bool×Int×SS×Int×Bool×Int×SS×List Val×List SS×List SS×List qa) (qa×Int×Bool):=fun q (a,c,d,e,f,g,i,j,k,l,m,o)=>
 bnd (xR n ([42]:SS) b a c) fun p=>
 bif(!p)then(
 bnd (xR n ([47]:SS) b a c) fun s=>
 bif(!(bif p then true else s))then(
 bnd (xR n ([37]:SS) b a c) fun a0=>
 bif(bif(bif p then true else s)then true else a0)then(
 bnd (idx b a) fun⟨_,a1,_,_⟩=>
 bnd (g236 b (kwr .i64 (a+1)) c) fun⟨⟨a2,a3,⟨a4,a5,a6,a7,a8,a9⟩,b0,b1⟩,b2,b3⟩=>
 bnd (fx n a1 (qa.mk d e (Val.mk f g i j k l) m o) (qa.mk a2 a3 (Val.mk a4 a5 a6 a7 a8 a9) b0 b1)) fun⟨b4,b5,⟨b6,b7,b8,b9,c0,c1⟩,c2,c3⟩=>
 q (b2,b3,b4,b5,b6,b7,b8,b9,c0,c1,c2,c3))
 else(
 some (qa.mk d e (Val.mk f g i j k l) m o,a,c)))
 else(
 bif(bif(bif p then true else s)then true else false)then(
 bnd (idx b a) fun⟨_,c4,_,_⟩=>
 bnd (g236 b (kwr .i64 (a+1)) c) fun⟨⟨c5,c6,⟨c7,c8,c9,d0,d1,d2⟩,d3,d4⟩,d5,d6⟩=>
 bnd (fx n c4 (qa.mk d e (Val.mk f g i j k l) m o) (qa.mk c5 c6 (Val.mk c7 c8 c9 d0 d1 d2) d3 d4)) fun⟨d7,d8,⟨d9,e0,e1,e2,e3,e4⟩,e5,e6⟩=>
 q (d5,d6,d7,d8,d9,e0,e1,e2,e3,e4,e5,e6))
 else(
 some (qa.mk d e (Val.mk f g i j k l) m o,a,c))))
 else(
 bif(!(bif p then true else false))then(
 bnd (xR n ([37]:SS) b a c) fun e7=>
 bif(bif(bif p then true else false)then true else e7)then(
 bnd (idx b a) fun⟨_,e8,_,_⟩=>
 bnd (g236 b (kwr .i64 (a+1)) c) fun⟨⟨e9,f0,⟨f1,f2,f3,f4,f5,f6⟩,f7,f8⟩,f9,g0⟩=>
 bnd (fx n e8 (qa.mk d e (Val.mk f g i j k l) m o) (qa.mk e9 f0 (Val.mk f1 f2 f3 f4 f5 f6) f7 f8)) fun⟨t,u,⟨v,w,x,y,z,A⟩,B,C⟩=>
 q (f9,g0,t,u,v,w,x,y,z,A,B,C))
 else(
 some (qa.mk d e (Val.mk f g i j k l) m o,a,c)))
 else(
 bif(bif(bif p then true else false)then true else false)then(
 bnd (idx b a) fun⟨_,D,_,_⟩=>
 bnd (g236 b (kwr .i64 (a+1)) c) fun⟨⟨E,F,⟨G,H,I,J,K,L⟩,M,N⟩,O,P⟩=>
 bnd (fx n D (qa.mk d e (Val.mk f g i j k l) m o) (qa.mk E F (Val.mk G H I J K L) M N)) fun⟨Q,R,⟨S,T,U,V,W,X⟩,Y,Z⟩=>
 q (O,P,Q,R,S,T,U,V,W,X,Y,Z))
 else(
 some (qa.mk d e (Val.mk f g i j k l) m o,a,c))))
def pd (n:Nat) (g159:FJ) (g120 g155:vN) (g203 g223:vN) (g230 g234:vN) (g235 g236 g237:vN) (g238:FK) (g239:FL) (a:List ql) (i:Int) (j:Bool):Option (qa×Int×Bool):=
 bnd (g236 a i j) fun⟨⟨k,l,⟨m,o,p,q,b,c⟩,d,e⟩,f,g⟩=>
 qA (bS n a g236) n (f,g,k,l,m,o,p,q,b,c,d,e)
abbrev sv (_:List ql) (_:Int) (_:Bool) (r:qa×Int×Bool):FV:=.p ((PV.agg (zx.cells r.1)))
abbrev su (a:List ql) (_:Int) (_:Bool) (r:qa×Int×Bool):List AObj:=[.box 137 [pK a,.p (.int .i64 r.2.1),.p (.bool r.2.2)]]
def pj (n:Nat) (b:List ql) (g120:vN):LK (Int×Bool×Int×SS×Int×Bool×Int×SS×List Val×List SS×List SS×List qa) (qa×Int×Bool):=fun o (t,a,c,d,e,f,g,i,j,k,l,m)=>
 bnd (qm n ([46]:SS) b t a) fun⟨u,q⟩=>
 bif u then(
 bnd (nJ n (4:Int) (qa.mk c d (Val.mk e f g i j k) l m)) fun⟨v,_,⟨w,x,y,z,A,B⟩,C,D⟩=>
 bnd (gG n b q a) fun⟨E,F,G⟩=>
 o (F,G,v,E,w,x,y,z,A,B,C,D))
 else(
 bnd (qm n ([91]:SS) b q a) fun⟨H,p⟩=>
 bif H then(
 bnd (g120 b p a) fun⟨⟨I,J,⟨K,L,M,N,O,P⟩,Q,R⟩,S,T⟩=>
 bnd (qU n ([93]:SS) b S T) fun⟨U,V⟩=>
 o (U,V,(7:Int),([]:SS),(0:Int),false,(0:Int),([]:SS),([]:List _),([]:List _),([]:List _),[qa.mk c d (Val.mk e f g i j k) l m,qa.mk I J (Val.mk K L M N O P) Q R]))
 else(
 bif(c==2)then(
 bnd (qm n ([58]:SS) b p a) fun⟨W,s⟩=>
 bif(bif(c==2)then W else false)then(
 bnd (nJ n (15:Int) (qa.mk c d (Val.mk e f g i j k) l m)) fun⟨X,_,⟨Y,Z,a0,a1,a2,a3⟩,a4,a5⟩=>
 bnd (gG n b s a) fun⟨a6,a7,a8⟩=>
 o (a7,a8,X,a6,Y,Z,a0,a1,a2,a3,a4,a5))
 else(
 some (qa.mk c d (Val.mk e f g i j k) l m,s,a)))
 else(
 some (qa.mk c d (Val.mk e f g i j k) l m,p,a))))
def tu (n:Nat) (g159:FJ) (g120 g155:vN) (g203 g223:vN) (g230 g234:vN) (g235 g236 g237:vN) (g238:FK) (g239:FL) (a:List ql) (p:Int) (b:Bool):Option (qa×Int×Bool):=
 bnd (qm n ([45]:SS) a p b) fun⟨L,c⟩=>
 bif L then(
 bnd (g236 a c b) fun⟨⟨M,N,⟨O,P,d,e,f,g⟩,i,j⟩,k,l⟩=>
 bnd (nJ n (8:Int) (qa.mk M N (Val.mk O P d e f g) i j)) fun⟨m,o,⟨q,s,t,u,v,w⟩,x,y⟩=>
 some (qa.mk m o (Val.mk q s t u v w) x y,k,l))
 else(
 bnd (g237 a c b) fun⟨⟨z,A,⟨B,C,D,E,F,G⟩,H,I⟩,J,K⟩=>
 qA (pj n a g120) n (J,K,z,A,B,C,D,E,F,G,H,I))
abbrev tL (_:List ql) (_:Int) (_:Bool) (r:qa×Int×Bool):FV:=.p ((PV.agg (zx.cells r.1)))
abbrev tH (a:List ql) (_:Int) (_:Bool) (r:qa×Int×Bool):List AObj:=[.box 137 [pK a,.p (.int .i64 r.2.1),.p (.bool r.2.2)]]
def QB (n:Nat) (g159:FJ) (g120 g155:vN) (g203 g223:vN) (g230 g234:vN) (g235 g236 g237:vN) (g238:FK) (g239:FL) (b:List ql) (c:Int) (a:Bool):Option (qa×Int×Bool):=
 bif a then(
 some (qa.mk (0:Int) ([]:SS) (Val.mk (0:Int) false (0:Int) ([]:SS) ([]:List Val) ([]:List SS)) ([]:List SS) ([]:List qa),c,a))
 else(
 bnd (idx b c) fun⟨e,f,a6,_⟩=>
 bif(e==3)then(
 some (qa.mk (1:Int) ([]:SS) (Val.mk (2:Int) false a6 ([]:SS) ([]:List Val) ([]:List SS)) ([]:List SS) ([]:List qa),(kwr .i64 (c+1)),a))
 else(
 bif(e==4)then(
 some (qa.mk (1:Int) ([]:SS) (Val.mk (3:Int) false (0:Int) f ([]:List Val) ([]:List SS)) ([]:List SS) ([]:List qa),(kwr .i64 (c+1)),a))
 else(
 bif(e==1)then(
 bnd (qm n ([40]:SS) b (kwr .i64 (c+1)) a) fun⟨a7,m⟩=>
 bif a7 then(
 bnd (g238 f b m a) fun⟨⟨o,p,⟨q,s,t,u,v,w⟩,x,y⟩,z,A⟩=>
 some (qa.mk o p (Val.mk q s t u v w) x y,z,A))
 else(
 some (qa.mk (2:Int) f (Val.mk (0:Int) false (0:Int) ([]:SS) ([]:List Val) ([]:List SS)) ([]:List SS) ([]:List qa),m,a)))
 else(
 bnd (qm n ([78,85,76,76]:SS) b c a) fun⟨B,g⟩=>
 bif B then(
 some (qa.mk (1:Int) ([]:SS) (Val.mk (0:Int) false (0:Int) ([]:SS) ([]:List Val) ([]:List SS)) ([]:List SS) ([]:List qa),g,a))
 else(
 bnd (qm n ([84,82,85,69]:SS) b g a) fun⟨C,i⟩=>
 bif C then(
 some (qa.mk (1:Int) ([]:SS) (Val.mk (1:Int) true (0:Int) ([]:SS) ([]:List Val) ([]:List SS)) ([]:List SS) ([]:List qa),i,a))
 else(
 bnd (qm n ([70,65,76,83,69]:SS) b i a) fun⟨D,j⟩=>
 bif D then(
 some (qa.mk (1:Int) ([]:SS) (Val.mk (1:Int) false (0:Int) ([]:SS) ([]:List Val) ([]:List SS)) ([]:List SS) ([]:List qa),j,a))
 else(
 bnd (qm n ([36]:SS) b j a) fun⟨E,k⟩=>
 bif E then(
 bnd (uJ n b k a) fun⟨F,G,H⟩=>
 some (qa.mk (3:Int) F (Val.mk (0:Int) false (0:Int) ([]:SS) ([]:List Val) ([]:List SS)) ([]:List SS) ([]:List qa),G,H))
 else(
 bnd (qm n ([40]:SS) b k a) fun⟨I,l⟩=>
 bif I then(
 bnd (g120 b l a) fun⟨⟨J,K,⟨L,M,N,O,P,Q⟩,R,S⟩,T,U⟩=>
 bnd (qU n ([41]:SS) b T U) fun⟨V,W⟩=>
 some (qa.mk J K (Val.mk L M N O P Q) R S,V,W))
 else(
 bnd (qm n ([91]:SS) b l a) fun⟨X,d⟩=>
 bif X then(
 bnd (g239 ([93]:SS) b d a) fun⟨Y,Z,a0⟩=>
 some (qa.mk (5:Int) ([]:SS) (Val.mk (0:Int) false (0:Int) ([]:SS) ([]:List Val) ([]:List SS)) ([]:List SS) Y,Z,a0))
 else(
 bnd (xR n ([123]:SS) b d a) fun a1=>
 bif a1 then(
 bnd (g159 b d a) fun⟨a2,a3,a4,a5⟩=>
 some (qa.mk (6:Int) ([]:SS) (Val.mk (0:Int) false (0:Int) ([]:SS) ([]:List Val) ([]:List SS)) a2 a3,a4,a5))
 else(
 some (qa.mk (0:Int) ([]:SS) (Val.mk (0:Int) false (0:Int) ([]:SS) ([]:List Val) ([]:List SS)) ([]:List SS) ([]:List qa),d,true))))))))))))
abbrev tM (_:List ql) (_:Int) (_:Bool) (r:qa×Int×Bool):FV:=.p ((PV.agg (zx.cells r.1)))
abbrev tI (a:List ql) (_:Int) (_:Bool) (r:qa×Int×Bool):List AObj:=[.box 137 [pK a,.p (.int .i64 r.2.1),.p (.bool r.2.2)]]
def QC (n:Nat) (g159:FJ) (g120 g155:vN) (g203 g223:vN) (g230 g234:vN) (g235 g236 g237:vN) (g238:FK) (g239:FL) (a:SS) (b:List ql) (d:Int) (c:Bool):Option (qa×Int×Bool):=
 bnd (cA n a) fun M=>
 bif(!M)then(
 bnd (g239 ([41]:SS) b d c) fun⟨N,O,P⟩=>
 some (qa.mk (13:Int) a (Val.mk (0:Int) false (0:Int) ([]:SS) ([]:List Val) ([]:List SS)) ([]:List SS) N,O,P))
 else(
 bif(a==([99,111,117,110,116]:SS))then(
 bnd (qm n ([42]:SS) b d c) fun⟨Q,e⟩=>
 bif(bif(a==([99,111,117,110,116]:SS))then Q else false)then(
 bnd (qU n ([41]:SS) b e c) fun⟨f,g⟩=>
 some (qa.mk (14:Int) a (Val.mk (0:Int) false (0:Int) ([]:SS) ([]:List Val) ([]:List SS)) ([]:List SS) ([]:List qa),f,g))
 else(
 bnd (g120 b e c) fun⟨⟨i,j,⟨k,l,m,o,p,q⟩,s,t⟩,u,v⟩=>
 bnd (qU n ([41]:SS) b u v) fun⟨w,x⟩=>
 some (qa.mk (14:Int) a (Val.mk (0:Int) false (0:Int) ([]:SS) ([]:List Val) ([]:List SS)) ([]:List SS) [qa.mk i j (Val.mk k l m o p q) s t],w,x)))
 else(
 bnd (g120 b d c) fun⟨⟨y,z,⟨A,B,C,D,E,F⟩,G,H⟩,I,J⟩=>
 bnd (qU n ([41]:SS) b I J) fun⟨K,L⟩=>
 some (qa.mk (14:Int) a (Val.mk (0:Int) false (0:Int) ([]:SS) ([]:List Val) ([]:List SS)) ([]:List SS) [qa.mk y z (Val.mk A B C D E F) G H],K,L)))
abbrev tN (_:List ql) (_:Int) (_:Bool) (r:(List qa)×Int×Bool):FV:=.p (.sl (qa.rows r.1))
abbrev tJ (a:List ql) (_:Int) (_:Bool) (r:(List qa)×Int×Bool):List AObj:=[.box 137 [pK a,.p (.int .i64 r.2.1),.p (.bool r.2.2)]]
def rT (n:Nat) (g120:vN) (l:List ql) (s:SS):LK (List qa×Int×Bool) ((List qa)×Int×Bool):=fun q (o,x,y)=>
 bnd (g120 l x y) fun⟨⟨a,b,⟨c,d,e,f,g,i⟩,j,k⟩,t,m⟩=>
 chk (decide ((qa.rows (o++[qa.mk a b (Val.mk c d e f g i) j k])).length * 160<=140737488355328)) (
 bnd (qm n ([44]:SS) l t m) fun⟨u,p⟩=>
 bif(!u)then(
 bnd (qU n s l p m) fun⟨v,w⟩=>
 some ((o++[qa.mk a b (Val.mk c d e f g i) j k]),v,w))
 else(
 q ((o++[qa.mk a b (Val.mk c d e f g i) j k]),p,m)))
def QD (n:Nat) (g159:FJ) (g120 g155:vN) (g203 g223:vN) (g230 g234:vN) (g235 g236 g237:vN) (g238:FK) (g239:FL) (b:SS) (c:List ql) (e:Int) (a:Bool):Option ((List qa)×Int×Bool):=
 bnd (qm n b c e a) fun⟨f,d⟩=>
 bif f then(
 some (([]:List qa),d,a))
 else(
 qA (rT n g120 c b) n (([]:List _),d,a))
abbrev TE (g159:FJ):Prop:=∀ (a:List ql) (b:Int) (c:Bool) (r:(List SS)×(List qa)×Int×Bool),g159 a b c=some r->zn TP 159 [.ptr 0 0] [.box 137 [pK a,pI b,pB c]] 1 (fun v lo=>v=mq a b c r/\lo=mn a b c r)
abbrev TF (g120:vN):Prop:=∀ (a:List ql) (b:Int) (c:Bool) (r:qa×Int×Bool),g120 a b c=some r->zn TP 120 [.ptr 0 0] [.box 137 [pK a,pI b,pB c]] 1 (fun v lo=>v=ny a b c r/\lo=nu a b c r)
abbrev TG (g155:vN):Prop:=∀ (a:List ql) (b:Int) (c:Bool) (r:qa×Int×Bool),g155 a b c=some r->zn TP 155 [.ptr 0 0] [.box 137 [pK a,pI b,pB c]] 1 (fun v lo=>v=Zh a b c r/\lo=Zc a b c r)
abbrev TH (g203:vN):Prop:=∀ (a:List ql) (b:Int) (c:Bool) (r:qa×Int×Bool),g203 a b c=some r->zn TP 203 [.ptr 0 0] [.box 137 [pK a,pI b,pB c]] 1 (fun v lo=>v=Ze a b c r/\lo=QZ a b c r)
abbrev TI (g223:vN):Prop:=∀ (a:List ql) (b:Int) (c:Bool) (r:qa×Int×Bool),g223 a b c=some r->zn TP 223 [.ptr 0 0] [.box 137 [pK a,pI b,pB c]] 1 (fun v lo=>v=Zf a b c r/\lo=Za a b c r)
abbrev TJ (g230:vN):Prop:=∀ (a:List ql) (b:Int) (c:Bool) (r:qa×Int×Bool),g230 a b c=some r->zn TP 230 [.ptr 0 0] [.box 137 [pK a,pI b,pB c]] 1 (fun v lo=>v=tO a b c r/\lo=tK a b c r)
abbrev TK (g234:vN):Prop:=∀ (a:List ql) (b:Int) (c:Bool) (r:qa×Int×Bool),g234 a b c=some r->zn TP 234 [.ptr 0 0] [.box 137 [pK a,pI b,pB c]] 1 (fun v lo=>v=Zg a b c r/\lo=Zb a b c r)
abbrev TL (g235:vN):Prop:=∀ (a:List ql) (b:Int) (c:Bool) (r:qa×Int×Bool),g235 a b c=some r->zn TP 235 [.ptr 0 0] [.box 137 [pK a,pI b,pB c]] 1 (fun v lo=>v=mO a b c r/\lo=mN a b c r)
abbrev TM (g236:vN):Prop:=∀ (a:List ql) (b:Int) (c:Bool) (r:qa×Int×Bool),g236 a b c=some r->zn TP 236 [.ptr 0 0] [.box 137 [pK a,pI b,pB c]] 1 (fun v lo=>v=sv a b c r/\lo=su a b c r)
abbrev TN (g237:vN):Prop:=∀ (a:List ql) (b:Int) (c:Bool) (r:qa×Int×Bool),g237 a b c=some r->zn TP 237 [.ptr 0 0] [.box 137 [pK a,pI b,pB c]] 1 (fun v lo=>v=tL a b c r/\lo=tH a b c r)
abbrev FH (g238:FK):Prop:=∀ (d:SS) (a:List ql) (b:Int) (c:Bool) (r:qa×Int×Bool),g238 d a b c=some r->zn TP 238 [.ptr 0 0,.p (PV.str d)] [.box 137 [pK a,pI b,pB c]] 1 (fun v lo=>v=tM a b c r/\lo=tI a b c r)
abbrev FI (g239:FL):Prop:=∀ (d:SS) (a:List ql) (b:Int) (c:Bool) (r:(List qa)×Int×Bool),g239 d a b c=some r->zn TP 239 [.ptr 0 0,.p (PV.str d)] [.box 137 [pK a,pI b,pB c]] 1 (fun v lo=>v=tN a b c r/\lo=tJ a b c r)
theorem Ga (n:Nat) (g159:FJ) (g120 g155:vN) (g203 g223:vN) (g230 g234:vN) (g235 g236 g237:vN) (g238:FK) (g239:FL) (g159_ok:TE g159) (g120_ok:TF g120) (g155_ok:TG g155) (g203_ok:TH g203) (g223_ok:TI g223) (g230_ok:TJ g230) (g234_ok:TK g234) (g235_ok:TL g235) (g236_ok:TM g236) (g237_ok:TN g237) (g238_ok:FH g238) (g239_ok:FI g239):∀ (a:List ql) (s:Int) (t:Bool) (r:(List SS)×(List qa)×Int×Bool),tw n g159 g120 g155 g203 g223 g230 g234 g235 g236 g237 g238 g239 a s t=some r->zn TP 159 [.ptr 0 0] [.box 137 [pK a,pI s,pB t]] 1 (fun v lo=>v=mq a s t r/\lo=mn a s t r):=by
 intro a s t r h;unfold tw at h;refine zO Tryz.call159 Tryz.func159 [117,120,121,158,1000000] ?_;conv=>whnf
 refine bq h fun⟨U,D⟩ E h=>?_;refine zU (qH n _ _ _ _ _ E) [0] [] ?_;rintro _ _ ⟨rfl,rfl⟩;refine⟨.p (.tup []),[.box 137 [pK a,pI U,pB D]],rfl,rfl,?_⟩;conv=>whnf
 refine bq h fun⟨V,W⟩ F h=>?_;refine zU (qe n _ _ _ _ _ F) [0] [] ?_;rintro _ _ ⟨rfl,rfl⟩;refine⟨pB V,[.box 137 [pK a,pI W,pB D]],rfl,rfl,?_⟩;conv=>whnf
 apply ifc h<;>intro A h
 ·obtain rfl:=sj h
  conv=>whnf
  refine⟨_,_,⟨rfl,rfl⟩,wk [0] []⟩
 conv=>whnf
 refine zj.fn [117,120,121,158,1000000] (S:=List SS×List qa×Int×Bool) (fun(b,c,u,w)=>[(0,.ptr 0 0),(4,.tsl 1 (qi b)),(5,.tsl 2 (qa.rows c))]) (fun(b,c,u,w)=>[.box 137 [pK a,pI u,pB w],.tail 9 1 (qi b).length,.tail 28 10 (qa.rows c).length]) (B:=pn n a g120) h (wk [0,0,0] [1,2]) ?_;intro _ st h;obtain⟨b,c,u,w⟩:=st;unfold pn at h;conv=>whnf
 apply ifc h<;>intro A h
 ·conv=>whnf
  refine bq h fun⟨q,L,M⟩ G h=>?_;refine zU (uI n _ _ _ _ G) [0] [] ?_;rintro _ _ ⟨rfl,rfl⟩;refine⟨pS q,[.box 137 [pK a,pI L,pB M],.tail 9 1 (qi b).length,.tail 28 10 (qa.rows c).length],rfl,rfl,?_⟩;conv=>whnf
  refine bq h fun⟨N,O⟩ H h=>?_;refine zU (qH n _ _ _ _ _ H) [0] [] ?_;rintro _ _ ⟨rfl,rfl⟩;refine⟨.p (.tup []),[.box 137 [pK a,pI N,pB O],.tail 9 1 (qi b).length,.tail 28 10 (qa.rows c).length],rfl,rfl,?_⟩;conv=>whnf
  refine bq h fun⟨⟨d,e,⟨f,g,i,j,k,l⟩,m,o⟩,P,x⟩ I h=>?_;refine zU (g120_ok _ _ _ _ I) [0] [] ?_;rintro _ _ ⟨rfl,rfl⟩;refine⟨.p (.agg [.int .i64 d,.str e,.int .i64 f,.bool g,.int .i64 i,.str j,.sl (Val.rows k),.sl (qi l),.sl (qi m),.sl (qa.rows o)]),[.box 137 [pK a,pI P,pB x],.tail 9 1 (qi b).length,.tail 28 10 (qa.rows c).length],rfl,rfl,?_⟩;conv=>whnf
  refine⟨Codec.one ca [q],qi [q],.inl rfl,?_⟩;conv=>whnf
  rw[show qi b++qi [q]=qi (b++[q])from Codec.append ca b [q]];conv=>whnf
  obtain⟨z,h⟩:=qg h;refine⟨⟨Codec.wide ca (b++[q]),kod z,zy z (by decide)⟩,?_⟩;conv=>whnf
  refine⟨⟨rfl,rfl,rfl⟩,?_⟩;conv=>whnf
  refine⟨Codec.one zx [qa.mk d e (Val.mk f g i j k l) m o],qa.rows [qa.mk d e (Val.mk f g i j k l) m o],.inl rfl,?_⟩;conv=>whnf
  rw[show qa.rows c++qa.rows [qa.mk d e (Val.mk f g i j k l) m o]=qa.rows (c++[qa.mk d e (Val.mk f g i j k l) m o])from Codec.append zx c [qa.mk d e (Val.mk f g i j k l) m o]];conv=>whnf
  obtain⟨y,h⟩:=qg h;refine⟨⟨Codec.wide zx (c++[qa.mk d e (Val.mk f g i j k l) m o]),kod y,zy y (by decide)⟩,?_⟩;conv=>whnf
  refine⟨⟨rfl,rfl,rfl⟩,?_⟩;conv=>whnf
  refine bq h fun⟨Q,C⟩ J h=>?_;refine zU (qe n _ _ _ _ _ J) [0] [] ?_;rintro _ _ ⟨rfl,rfl⟩;refine⟨pB Q,[.box 137 [pK a,pI C,pB x],.dead,.dead,.box 28 [pI d,pS e,pI f,pB g,pI i,pS j,pV k,pT l,pT m,pE o],.tail 9 1 (qi (b++[q])).length,.tail 28 10 (qa.rows (c++[qa.mk d e (Val.mk f g i j k l) m o])).length],rfl,rfl,?_⟩;conv=>whnf
  apply ifc h<;>intro A h
  ·conv=>whnf
   refine bq h fun⟨R,T⟩ K h=>?_;refine zU (qH n _ _ _ _ _ K) [0] [] ?_;rintro _ _ ⟨rfl,rfl⟩;refine⟨.p (.tup []),[.box 137 [pK a,pI R,pB T],.dead,.dead,.box 28 [pI d,pS e,pI f,pB g,pI i,pS j,pV k,pT l,pT m,pE o],.tail 9 1 (qi (b++[q])).length,.tail 28 10 (qa.rows (c++[qa.mk d e (Val.mk f g i j k l) m o])).length],rfl,rfl,?_⟩;obtain rfl:=sj h;conv=>whnf
   refine⟨_,_,⟨rfl,rfl⟩,wk [0] []⟩
  conv=>whnf
  exact⟨((b++[q]),(c++[qa.mk d e (Val.mk f g i j k l) m o]),C,x),h,wk [0,4,5] []⟩
 obtain rfl:=sj h;conv=>whnf
 refine⟨_,_,⟨rfl,rfl⟩,wk [0] []⟩
theorem Fo (n:Nat) (g159:FJ) (g120 g155:vN) (g203 g223:vN) (g230 g234:vN) (g235 g236 g237:vN) (g238:FK) (g239:FL) (g159_ok:TE g159) (g120_ok:TF g120) (g155_ok:TG g155) (g203_ok:TH g203) (g223_ok:TI g223) (g230_ok:TJ g230) (g234_ok:TK g234) (g235_ok:TL g235) (g236_ok:TM g236) (g237_ok:TN g237) (g238_ok:FH g238) (g239_ok:FI g239):∀ (a:List ql) (d:Int) (o:Bool) (r:qa×Int×Bool),QA n g159 g120 g155 g203 g223 g230 g234 g235 g236 g237 g238 g239 a d o=some r->zn TP 120 [.ptr 0 0] [.box 137 [pK a,pI d,pB o]] 1 (fun v lo=>v=ny a d o r/\lo=nu a d o r):=by
 intro a d o r h;unfold QA at h;refine zO Tryz.call120 Tryz.func120 [117,155,1000000] ?_;conv=>whnf
 refine bq h fun⟨⟨U,a3,⟨a6,a7,a8,a9,A,C⟩,D,E⟩,F,G⟩ w h=>?_;refine zU (g155_ok _ _ _ _ w) [0] [] ?_;rintro _ _ ⟨rfl,rfl⟩;refine⟨.p (.agg [.int .i64 U,.str a3,.int .i64 a6,.bool a7,.int .i64 a8,.str a9,.sl (Val.rows A),.sl (qi C),.sl (qi D),.sl (qa.rows E)]),[.box 137 [pK a,pI F,pB G],zq4],rfl,rfl,?_⟩;conv=>whnf
 refine zj.fn [117,155,1000000] (S:=Int×Bool×Int×SS×Int×Bool×Int×SS×List Val×List SS×List SS×List qa) (fun(s,q,b,c,e,f,g,i,j,k,l,m)=>[(0,.ptr 0 0),(2,.ptr 1 0),(3,.ptr 2 0)]) (fun(s,q,b,c,e,f,g,i,j,k,l,m)=>[.box 137 [pK a,pI s,pB q],zq4,.box 28 [pI b,pS c,pI e,pB f,pI g,pS i,pV j,pT k,pT l,pE m]]) (B:=rS n a g155) h (wk [0,1,2] []) ?_;intro _ st h;obtain⟨s,q,b,c,e,f,g,i,j,k,l,m⟩:=st;unfold rS at h;conv=>whnf
 refine bq h fun⟨H,I⟩ x h=>?_;refine zU (qe n _ _ _ _ _ x) [0] [] ?_;rintro _ _ ⟨rfl,rfl⟩;refine⟨pB H,[.box 137 [pK a,pI I,pB q],zq4,.box 28 [pI b,pS c,pI e,pB f,pI g,pS i,pV j,pT k,pT l,pE m]],rfl,rfl,?_⟩;conv=>whnf
 apply ifc h<;>intro _ h
 ·conv=>whnf
  refine bq h fun⟨⟨J,K,⟨L,M,N,O,P,Q⟩,R,T⟩,t,u⟩ y h=>?_;refine zU (g155_ok _ _ _ _ y) [0] [] ?_;rintro _ _ ⟨rfl,rfl⟩;refine⟨.p (.agg [.int .i64 J,.str K,.int .i64 L,.bool M,.int .i64 N,.str O,.sl (Val.rows P),.sl (qi Q),.sl (qi R),.sl (qa.rows T)]),[.box 137 [pK a,pI t,pB u],zq4,.box 28 [pI b,pS c,pI e,pB f,pI g,pS i,pV j,pT k,pT l,pE m]],rfl,rfl,?_⟩;conv=>whnf
  refine bq h fun⟨V,W,⟨X,Y,Z,a0,a1,a2⟩,a4,a5⟩ z h=>⟨_,(uK n _ _ _ _ z),?_⟩;conv=>whnf
  exact⟨(t,u,V,W,X,Y,Z,a0,a1,a2,a4,a5),h,wk [0,1,2] []⟩
 obtain rfl:=sj h;conv=>whnf
 refine⟨_,_,⟨rfl,rfl⟩,wk [0] []⟩
theorem CB (n:Nat) (g159:FJ) (g120 g155:vN) (g203 g223:vN) (g230 g234:vN) (g235 g236 g237:vN) (g238:FK) (g239:FL) (g159_ok:TE g159) (g120_ok:TF g120) (g155_ok:TG g155) (g203_ok:TH g203) (g223_ok:TI g223) (g230_ok:TJ g230) (g234_ok:TK g234) (g235_ok:TL g235) (g236_ok:TM g236) (g237_ok:TN g237) (g238_ok:FH g238) (g239_ok:FI g239):∀ (a:List ql) (d:Int) (o:Bool) (r:qa×Int×Bool),ZZ n g159 g120 g155 g203 g223 g230 g234 g235 g236 g237 g238 g239 a d o=some r->zn TP 155 [.ptr 0 0] [.box 137 [pK a,pI d,pB o]] 1 (fun v lo=>v=Zh a d o r/\lo=Zc a d o r):=by
 intro a d o r h;unfold ZZ at h;refine zO Tryz.call155 Tryz.func155 [117,203,1000000] ?_;conv=>whnf
 refine bq h fun⟨⟨U,a3,⟨a6,a7,a8,a9,A,C⟩,D,E⟩,F,G⟩ w h=>?_;refine zU (g203_ok _ _ _ _ w) [0] [] ?_;rintro _ _ ⟨rfl,rfl⟩;refine⟨.p (.agg [.int .i64 U,.str a3,.int .i64 a6,.bool a7,.int .i64 a8,.str a9,.sl (Val.rows A),.sl (qi C),.sl (qi D),.sl (qa.rows E)]),[.box 137 [pK a,pI F,pB G],zq4],rfl,rfl,?_⟩;conv=>whnf
 refine zj.fn [117,203,1000000] (S:=Int×Bool×Int×SS×Int×Bool×Int×SS×List Val×List SS×List SS×List qa) (fun(s,q,b,c,e,f,g,i,j,k,l,m)=>[(0,.ptr 0 0),(2,.ptr 1 0),(3,.ptr 2 0)]) (fun(s,q,b,c,e,f,g,i,j,k,l,m)=>[.box 137 [pK a,pI s,pB q],zq4,.box 28 [pI b,pS c,pI e,pB f,pI g,pS i,pV j,pT k,pT l,pE m]]) (B:=tE n a g203) h (wk [0,1,2] []) ?_;intro _ st h;obtain⟨s,q,b,c,e,f,g,i,j,k,l,m⟩:=st;unfold tE at h;conv=>whnf
 refine bq h fun⟨H,I⟩ x h=>?_;refine zU (qe n _ _ _ _ _ x) [0] [] ?_;rintro _ _ ⟨rfl,rfl⟩;refine⟨pB H,[.box 137 [pK a,pI I,pB q],zq4,.box 28 [pI b,pS c,pI e,pB f,pI g,pS i,pV j,pT k,pT l,pE m]],rfl,rfl,?_⟩;conv=>whnf
 apply ifc h<;>intro _ h
 ·conv=>whnf
  refine bq h fun⟨⟨J,K,⟨L,M,N,O,P,Q⟩,R,T⟩,t,u⟩ y h=>?_;refine zU (g203_ok _ _ _ _ y) [0] [] ?_;rintro _ _ ⟨rfl,rfl⟩;refine⟨.p (.agg [.int .i64 J,.str K,.int .i64 L,.bool M,.int .i64 N,.str O,.sl (Val.rows P),.sl (qi Q),.sl (qi R),.sl (qa.rows T)]),[.box 137 [pK a,pI t,pB u],zq4,.box 28 [pI b,pS c,pI e,pB f,pI g,pS i,pV j,pT k,pT l,pE m]],rfl,rfl,?_⟩;conv=>whnf
  refine bq h fun⟨V,W,⟨X,Y,Z,a0,a1,a2⟩,a4,a5⟩ z h=>⟨_,(uK n _ _ _ _ z),?_⟩;conv=>whnf
  exact⟨(t,u,V,W,X,Y,Z,a0,a1,a2,a4,a5),h,wk [0,1,2] []⟩
 obtain rfl:=sj h;conv=>whnf
 refine⟨_,_,⟨rfl,rfl⟩,wk [0] []⟩
theorem Cy (n:Nat) (g159:FJ) (g120 g155:vN) (g203 g223:vN) (g230 g234:vN) (g235 g236 g237:vN) (g238:FK) (g239:FL) (g159_ok:TE g159) (g120_ok:TF g120) (g155_ok:TG g155) (g203_ok:TH g203) (g223_ok:TI g223) (g230_ok:TJ g230) (g234_ok:TK g234) (g235_ok:TL g235) (g236_ok:TM g236) (g237_ok:TN g237) (g238_ok:FH g238) (g239_ok:FI g239):∀ (a:List ql) (d:Int) (o:Bool) (r:qa×Int×Bool),ZW n g159 g120 g155 g203 g223 g230 g234 g235 g236 g237 g238 g239 a d o=some r->zn TP 203 [.ptr 0 0] [.box 137 [pK a,pI d,pB o]] 1 (fun v lo=>v=Ze a d o r/\lo=QZ a d o r):=by
 intro a d o r h;unfold ZW at h;refine zO Tryz.call203 Tryz.func203 [117,223,1000000] ?_;conv=>whnf
 refine bq h fun⟨⟨U,a3,⟨a6,a7,a8,a9,A,C⟩,D,E⟩,F,G⟩ w h=>?_;refine zU (g223_ok _ _ _ _ w) [0] [] ?_;rintro _ _ ⟨rfl,rfl⟩;refine⟨.p (.agg [.int .i64 U,.str a3,.int .i64 a6,.bool a7,.int .i64 a8,.str a9,.sl (Val.rows A),.sl (qi C),.sl (qi D),.sl (qa.rows E)]),[.box 137 [pK a,pI F,pB G],zq4],rfl,rfl,?_⟩;conv=>whnf
 refine zj.fn [117,223,1000000] (S:=Int×Bool×Int×SS×Int×Bool×Int×SS×List Val×List SS×List SS×List qa) (fun(s,q,b,c,e,f,g,i,j,k,l,m)=>[(0,.ptr 0 0),(2,.ptr 1 0),(3,.ptr 2 0)]) (fun(s,q,b,c,e,f,g,i,j,k,l,m)=>[.box 137 [pK a,pI s,pB q],zq4,.box 28 [pI b,pS c,pI e,pB f,pI g,pS i,pV j,pT k,pT l,pE m]]) (B:=tB n a g223) h (wk [0,1,2] []) ?_;intro _ st h;obtain⟨s,q,b,c,e,f,g,i,j,k,l,m⟩:=st;unfold tB at h;conv=>whnf
 refine bq h fun⟨H,I⟩ x h=>?_;refine zU (qe n _ _ _ _ _ x) [0] [] ?_;rintro _ _ ⟨rfl,rfl⟩;refine⟨pB H,[.box 137 [pK a,pI I,pB q],zq4,.box 28 [pI b,pS c,pI e,pB f,pI g,pS i,pV j,pT k,pT l,pE m]],rfl,rfl,?_⟩;conv=>whnf
 apply ifc h<;>intro _ h
 ·conv=>whnf
  refine bq h fun⟨⟨J,K,⟨L,M,N,O,P,Q⟩,R,T⟩,t,u⟩ y h=>?_;refine zU (g223_ok _ _ _ _ y) [0] [] ?_;rintro _ _ ⟨rfl,rfl⟩;refine⟨.p (.agg [.int .i64 J,.str K,.int .i64 L,.bool M,.int .i64 N,.str O,.sl (Val.rows P),.sl (qi Q),.sl (qi R),.sl (qa.rows T)]),[.box 137 [pK a,pI t,pB u],zq4,.box 28 [pI b,pS c,pI e,pB f,pI g,pS i,pV j,pT k,pT l,pE m]],rfl,rfl,?_⟩;conv=>whnf
  refine bq h fun⟨V,W,⟨X,Y,Z,a0,a1,a2⟩,a4,a5⟩ z h=>⟨_,(uK n _ _ _ _ z),?_⟩;conv=>whnf
  exact⟨(t,u,V,W,X,Y,Z,a0,a1,a2,a4,a5),h,wk [0,1,2] []⟩
 obtain rfl:=sj h;conv=>whnf
 refine⟨_,_,⟨rfl,rfl⟩,wk [0] []⟩
theorem Cz (n:Nat) (g159:FJ) (g120 g155:vN) (g203 g223:vN) (g230 g234:vN) (g235 g236 g237:vN) (g238:FK) (g239:FL) (g159_ok:TE g159) (g120_ok:TF g120) (g155_ok:TG g155) (g203_ok:TH g203) (g223_ok:TI g223) (g230_ok:TJ g230) (g234_ok:TK g234) (g235_ok:TL g235) (g236_ok:TM g236) (g237_ok:TN g237) (g238_ok:FH g238) (g239_ok:FI g239):∀ (a:List ql) (c:Int) (b:Bool) (r:qa×Int×Bool),ZX n g159 g120 g155 g203 g223 g230 g234 g235 g236 g237 g238 g239 a c b=some r->zn TP 223 [.ptr 0 0] [.box 137 [pK a,pI c,pB b]] 1 (fun v lo=>v=Zf a c b r/\lo=Za a c b r):=by
 intro a c b r h;unfold ZX at h;refine zO Tryz.call223 Tryz.func223 [117,223,230,1000000] ?_;conv=>whnf
 refine bq h fun⟨G,H⟩ d h=>?_;refine zU (qe n _ _ _ _ _ d) [0] [] ?_;rintro _ _ ⟨rfl,rfl⟩;refine⟨pB G,[.box 137 [pK a,pI H,pB b],zq4],rfl,rfl,?_⟩;conv=>whnf
 apply ifc h<;>intro _ h
 ·conv=>whnf
  refine bq h fun⟨⟨I,J,⟨K,L,i,j,k,l⟩,m,o⟩,q,s⟩ e h=>?_;refine zU (g223_ok _ _ _ _ e) [0] [] ?_;rintro _ _ ⟨rfl,rfl⟩;refine⟨.p (.agg [.int .i64 I,.str J,.int .i64 K,.bool L,.int .i64 i,.str j,.sl (Val.rows k),.sl (qi l),.sl (qi m),.sl (qa.rows o)]),[.box 137 [pK a,pI q,pB s],zq4],rfl,rfl,?_⟩;conv=>whnf
  refine bq h fun⟨_,_,⟨_,_,_,_,_,_⟩,_,_⟩ f h=>⟨_,(bh n _ _ _ f),?_⟩;obtain rfl:=sj h;conv=>whnf
  refine⟨_,_,⟨rfl,rfl⟩,wk [0] []⟩
 conv=>whnf
 refine bq h fun⟨⟨t,u,⟨w,x,y,z,A,B⟩,C,D⟩,E,F⟩ g h=>?_;refine zU (g230_ok _ _ _ _ g) [0] [] ?_;rintro _ _ ⟨rfl,rfl⟩;refine⟨.p (.agg [.int .i64 t,.str u,.int .i64 w,.bool x,.int .i64 y,.str z,.sl (Val.rows A),.sl (qi B),.sl (qi C),.sl (qa.rows D)]),[.box 137 [pK a,pI E,pB F],zq4],rfl,rfl,?_⟩;obtain rfl:=sj h;conv=>whnf
 refine⟨_,_,⟨rfl,rfl⟩,wk [0] []⟩
theorem Ft (n:Nat) (g159:FJ) (g120 g155:vN) (g203 g223:vN) (g230 g234:vN) (g235 g236 g237:vN) (g238:FK) (g239:FL) (g159_ok:TE g159) (g120_ok:TF g120) (g155_ok:TG g155) (g203_ok:TH g203) (g223_ok:TI g223) (g230_ok:TJ g230) (g234_ok:TK g234) (g235_ok:TL g235) (g236_ok:TM g236) (g237_ok:TN g237) (g238_ok:FH g238) (g239_ok:FI g239):∀ (a:List ql) (o:Int) (q:Bool) (r:qa×Int×Bool),QE n g159 g120 g155 g203 g223 g230 g234 g235 g236 g237 g238 g239 a o q=some r->zn TP 230 [.ptr 0 0] [.box 137 [pK a,pI o,pB q]] 1 (fun v lo=>v=tO a o q r/\lo=tK a o q r):=by
 intro a o q r h;unfold QE at h;refine zO Tryz.call230 Tryz.func230 [117,121,234,1000000] ?_;conv=>whnf
 refine bq h fun⟨⟨f,g,⟨i,j,k,l,b,c⟩,d,e⟩,J,m⟩ x h=>?_;refine zU (g234_ok _ _ _ _ x) [0] [] ?_;rintro _ _ ⟨rfl,rfl⟩;refine⟨.p (.agg [.int .i64 f,.str g,.int .i64 i,.bool j,.int .i64 k,.str l,.sl (Val.rows b),.sl (qi c),.sl (qi d),.sl (qa.rows e)]),[.box 137 [pK a,pI J,pB m],zq4],rfl,rfl,?_⟩;conv=>whnf
 refine bq h fun⟨K,L⟩ A h=>?_;refine zU (qe n _ _ _ _ _ A) [0] [] ?_;rintro _ _ ⟨rfl,rfl⟩;refine⟨pB K,[.box 137 [pK a,pI L,pB m],zq4,.box 28 [pI f,pS g,pI i,pB j,pI k,pS l,pV b,pT c,pT d,pE e]],rfl,rfl,?_⟩;conv=>whnf
 apply ifc h<;>intro t h
 ·conv=>whnf
  refine bq h fun⟨M,N⟩ C h=>?_;refine zU (qe n _ _ _ _ _ C) [0] [] ?_;rintro _ _ ⟨rfl,rfl⟩;refine⟨pB M,[.box 137 [pK a,pI N,pB m],zq4,.box 28 [pI f,pS g,pI i,pB j,pI k,pS l,pV b,pT c,pT d,pE e]],rfl,rfl,?_⟩;conv=>whnf
  refine bq h fun⟨O,P⟩ D h=>?_;refine zU (qH n _ _ _ _ _ D) [0] [] ?_;rintro _ _ ⟨rfl,rfl⟩;refine⟨.p (.tup []),[.box 137 [pK a,pI O,pB P],zq4,.box 28 [pI f,pS g,pI i,pB j,pI k,pS l,pV b,pT c,pT d,pE e]],rfl,rfl,?_⟩;conv=>whnf
  apply ifc h<;>intro t h
  ·conv=>whnf
   refine bq h fun⟨_,_,⟨_,_,_,_,_,_⟩,_,_⟩ E h=>⟨_,(bh n _ _ _ E),?_⟩;obtain rfl:=sj h;conv=>whnf
   refine⟨_,_,⟨rfl,rfl⟩,wk [0] []⟩
  conv=>whnf
  refine bq h fun⟨_,_,⟨_,_,_,_,_,_⟩,_,_⟩ F h=>⟨_,(bh n _ _ _ F),?_⟩;obtain rfl:=sj h;conv=>whnf
  refine⟨_,_,⟨rfl,rfl⟩,wk [0] []⟩
 conv=>whnf
 refine⟨Codec.one ca [([61]:SS),([60,62]:SS),([60,61]:SS),([60]:SS),([62,61]:SS),([62]:SS),([73,78]:SS)],qi [([61]:SS),([60,62]:SS),([60,61]:SS),([60]:SS),([62,61]:SS),([62]:SS),([73,78]:SS)],.inl rfl,?_⟩;conv=>whnf
 refine zj.fn [117,121,234,1000000] (S:=Int×Int) (fun(s,u)=>[(0,.ptr 0 0),(2,.ptr 1 0),(3,.ptr 2 0),(5,.p (.sl (qi [([61]:SS),([60,62]:SS),([60,61]:SS),([60]:SS),([62,61]:SS),([62]:SS),([73,78]:SS)]))),(6,pI s)]) (fun(s,u)=>[.box 137 [pK a,pI u,pB m],zq4,.box 28 [pI f,pS g,pI i,pB j,pI k,pS l,pV b,pT c,pT d,pE e]]) (B:=rY n a m g234 f g i j k l b c d e) h (wk [0,1,2] []) ?_;intro _ st h;obtain⟨s,u⟩:=st;unfold rY at h;conv=>whnf
 apply ifc h<;>intro t h
 ·conv=>whnf
  refine bq h fun _ z h=>⟨_,Codec.at_ ca z,?_⟩;conv=>whnf
  refine bq h fun⟨Q,w⟩ G h=>?_;refine zU (qe n _ _ _ _ _ G) [0] [] ?_;rintro _ _ ⟨rfl,rfl⟩;refine⟨pB Q,[.box 137 [pK a,pI w,pB m],zq4,.box 28 [pI f,pS g,pI i,pB j,pI k,pS l,pV b,pT c,pT d,pE e]],rfl,rfl,?_⟩;conv=>whnf
  apply ifc h<;>intro t h
  ·conv=>whnf
   refine bq h fun⟨⟨R,T,⟨U,V,W,X,Y,Z⟩,a0,a1⟩,a2,a3⟩ H h=>?_;refine zU (g234_ok _ _ _ _ H) [0] [] ?_;rintro _ _ ⟨rfl,rfl⟩;refine⟨.p (.agg [.int .i64 R,.str T,.int .i64 U,.bool V,.int .i64 W,.str X,.sl (Val.rows Y),.sl (qi Z),.sl (qi a0),.sl (qa.rows a1)]),[.box 137 [pK a,pI a2,pB a3],zq4,.box 28 [pI f,pS g,pI i,pB j,pI k,pS l,pV b,pT c,pT d,pE e]],rfl,rfl,?_⟩;conv=>whnf
   refine bq h fun _ y h=>⟨_,Codec.at_ ca y,?_⟩;conv=>whnf
   refine bq h fun⟨_,_,⟨_,_,_,_,_,_⟩,_,_⟩ I h=>⟨_,(uK n _ _ _ _ I),?_⟩;obtain rfl:=sj h;conv=>whnf
   refine⟨_,_,⟨rfl,rfl⟩,wk [0] []⟩
  conv=>whnf
  exact⟨((kwr .i64 (s+1)),w),h,wk [0,1,2] []⟩
 obtain rfl:=sj h;conv=>whnf
 refine⟨_,_,⟨rfl,rfl⟩,wk [0] []⟩
theorem CA (n:Nat) (g159:FJ) (g120 g155:vN) (g203 g223:vN) (g230 g234:vN) (g235 g236 g237:vN) (g238:FK) (g239:FL) (g159_ok:TE g159) (g120_ok:TF g120) (g155_ok:TG g155) (g203_ok:TH g203) (g223_ok:TI g223) (g230_ok:TJ g230) (g234_ok:TK g234) (g235_ok:TL g235) (g236_ok:TM g236) (g237_ok:TN g237) (g238_ok:FH g238) (g239_ok:FI g239):∀ (a:List ql) (q:Int) (s:Bool) (r:qa×Int×Bool),ZY n g159 g120 g155 g203 g223 g230 g234 g235 g236 g237 g238 g239 a q s=some r->zn TP 234 [.ptr 0 0] [.box 137 [pK a,pI q,pB s]] 1 (fun v lo=>v=Zg a q s r/\lo=Zb a q s r):=by
 intro a q s r h;unfold ZY at h;refine zO Tryz.call234 Tryz.func234 [126,235,1000000] ?_;conv=>whnf
 refine bq h fun⟨⟨Z,a8,⟨b5,c6,d5,d8,K,L⟩,M,N⟩,O,P⟩ z h=>?_;refine zU (g235_ok _ _ _ _ z) [0] [] ?_;rintro _ _ ⟨rfl,rfl⟩;refine⟨.p (.agg [.int .i64 Z,.str a8,.int .i64 b5,.bool c6,.int .i64 d5,.str d8,.sl (Val.rows K),.sl (qi L),.sl (qi M),.sl (qa.rows N)]),[.box 137 [pK a,pI O,pB P],zq4],rfl,rfl,?_⟩;conv=>whnf
 refine zj.fn [126,235,1000000] (S:=Int×Bool×Int×SS×Int×Bool×Int×SS×List Val×List SS×List SS×List qa) (fun(m,o,b,c,d,e,f,g,i,j,k,l)=>[(0,.ptr 0 0),(2,.ptr 1 0),(3,.ptr 2 0)]) (fun(m,o,b,c,d,e,f,g,i,j,k,l)=>[.box 137 [pK a,pI m,pB o],zq4,.box 28 [pI b,pS c,pI d,pB e,pI f,pS g,pV i,pT j,pT k,pE l]]) (B:=tD n a g235) h (wk [0,1,2] []) ?_;intro _ st h;obtain⟨m,o,b,c,d,e,f,g,i,j,k,l⟩:=st;unfold tD at h;conv=>whnf
 refine bq h fun Q A h=>?_;refine zU (zV n _ _ _ _ _ A) [0] [] ?_;rintro _ _ ⟨rfl,rfl⟩;refine⟨pB Q,[.box 137 [pK a,pI m,pB o],zq4,.box 28 [pI b,pS c,pI d,pB e,pI f,pS g,pV i,pT j,pT k,pE l]],rfl,rfl,?_⟩;conv=>whnf
 refine⟨fun t=>?_,fun t=>?_⟩
 ·replace h:=mC h t
  conv=>whnf
  refine⟨id,?_⟩;conv=>whnf
  refine bq h fun R C h=>?_;refine zU (zV n _ _ _ _ _ C) [0] [] ?_;rintro _ _ ⟨rfl,rfl⟩;refine⟨pB R,[.box 137 [pK a,pI m,pB o],zq4,.box 28 [pI b,pS c,pI d,pB e,pI f,pS g,pV i,pT j,pT k,pE l]],rfl,rfl,?_⟩;conv=>whnf
  refine⟨id,?_⟩;conv=>whnf
  apply ifc h<;>intro J h
  ·conv=>whnf
   refine bq h fun⟨_,_,_,_⟩ F h=>⟨_,Codec.at_ nY F,?_⟩;conv=>whnf
   refine bq h fun⟨⟨T,U,⟨V,W,X,Y,a0,a1⟩,a2,a3⟩,u,w⟩ D h=>?_;refine zU (g235_ok _ _ _ _ D) [0] [] ?_;rintro _ _ ⟨rfl,rfl⟩;refine⟨.p (.agg [.int .i64 T,.str U,.int .i64 V,.bool W,.int .i64 X,.str Y,.sl (Val.rows a0),.sl (qi a1),.sl (qi a2),.sl (qa.rows a3)]),[.box 137 [pK a,pI u,pB w],zq4,.box 28 [pI b,pS c,pI d,pB e,pI f,pS g,pV i,pT j,pT k,pE l]],rfl,rfl,?_⟩;conv=>whnf
   refine bq h fun⟨a4,a5,⟨a6,a7,a9,b0,b1,b2⟩,b3,b4⟩ E h=>⟨_,(uK n _ _ _ _ E),?_⟩;conv=>whnf
   exact⟨(u,w,a4,a5,a6,a7,a9,b0,b1,b2,b3,b4),h,wk [0,1,2] []⟩
  obtain rfl:=sj h;conv=>whnf
  refine⟨_,_,⟨rfl,rfl⟩,wk [0] []⟩
 replace h:=gf h t;refine⟨pB false,?_⟩;conv=>whnf
 refine⟨id,?_⟩;conv=>whnf
 apply ifc h<;>intro J h
 ·conv=>whnf
  refine bq h fun⟨_,_,_,_⟩ I h=>⟨_,Codec.at_ nY I,?_⟩;conv=>whnf
  refine bq h fun⟨⟨b6,b7,⟨b8,b9,c0,c1,c2,c3⟩,c4,c5⟩,x,y⟩ G h=>?_;refine zU (g235_ok _ _ _ _ G) [0] [] ?_;rintro _ _ ⟨rfl,rfl⟩;refine⟨.p (.agg [.int .i64 b6,.str b7,.int .i64 b8,.bool b9,.int .i64 c0,.str c1,.sl (Val.rows c2),.sl (qi c3),.sl (qi c4),.sl (qa.rows c5)]),[.box 137 [pK a,pI x,pB y],zq4,.box 28 [pI b,pS c,pI d,pB e,pI f,pS g,pV i,pT j,pT k,pE l]],rfl,rfl,?_⟩;conv=>whnf
  refine bq h fun⟨c7,c8,⟨c9,d0,d1,d2,d3,d4⟩,d6,d7⟩ H h=>⟨_,(uK n _ _ _ _ H),?_⟩;conv=>whnf
  exact⟨(x,y,c7,c8,c9,d0,d1,d2,d3,d4,d6,d7),h,wk [0,1,2] []⟩
 obtain rfl:=sj h;conv=>whnf
 refine⟨_,_,⟨rfl,rfl⟩,wk [0] []⟩
theorem VG (n:Nat) (g159:FJ) (g120 g155:vN) (g203 g223:vN) (g230 g234:vN) (g235 g236 g237:vN) (g238:FK) (g239:FL) (g159_ok:TE g159) (g120_ok:TF g120) (g155_ok:TG g155) (g203_ok:TH g203) (g223_ok:TI g223) (g230_ok:TJ g230) (g234_ok:TK g234) (g235_ok:TL g235) (g236_ok:TM g236) (g237_ok:TN g237) (g238_ok:FH g238) (g239_ok:FI g239):∀ (a:List ql) (s:Int) (t:Bool) (r:qa×Int×Bool),pd n g159 g120 g155 g203 g223 g230 g234 g235 g236 g237 g238 g239 a s t=some r->zn TP 235 [.ptr 0 0] [.box 137 [pK a,pI s,pB t]] 1 (fun v lo=>v=mO a s t r/\lo=mN a s t r):=by
 intro a s t r h;unfold pd at h;refine zO Tryz.call235 Tryz.func235 [126,236,1000000] ?_;conv=>whnf
 refine bq h fun⟨⟨e1,f0,⟨f8,g8,i7,j4,X,a8⟩,b5,c4⟩,d1,d2⟩ F h=>?_;refine zU (g236_ok _ _ _ _ F) [0] [] ?_;rintro _ _ ⟨rfl,rfl⟩;refine⟨.p (.agg [.int .i64 e1,.str f0,.int .i64 f8,.bool g8,.int .i64 i7,.str j4,.sl (Val.rows X),.sl (qi a8),.sl (qi b5),.sl (qa.rows c4)]),[.box 137 [pK a,pI d1,pB d2],zq4],rfl,rfl,?_⟩;conv=>whnf
 refine zj.fn [126,236,1000000] (S:=Int×Bool×Int×SS×Int×Bool×Int×SS×List Val×List SS×List SS×List qa) (fun(o,q,c,d,e,f,g,i,j,k,l,m)=>[(0,.ptr 0 0),(2,.ptr 1 0),(3,.ptr 2 0)]) (fun(o,q,c,d,e,f,g,i,j,k,l,m)=>[.box 137 [pK a,pI o,pB q],zq4,.box 28 [pI c,pS d,pI e,pB f,pI g,pS i,pV j,pT k,pT l,pE m]]) (B:=bS n a g236) h (wk [0,1,2] []) ?_;intro _ st h;obtain⟨o,q,c,d,e,f,g,i,j,k,l,m⟩:=st;unfold bS at h;conv=>whnf
 refine bq h fun d3 O h=>?_;refine zU (zV n _ _ _ _ _ O) [0] [] ?_;rintro _ _ ⟨rfl,rfl⟩;refine⟨pB d3,[.box 137 [pK a,pI o,pB q],zq4,.box 28 [pI c,pS d,pI e,pB f,pI g,pS i,pV j,pT k,pT l,pE m]],rfl,rfl,?_⟩;conv=>whnf
 refine⟨fun b=>?_,fun b=>?_⟩
 ·replace h:=mC h b
  conv=>whnf
  refine⟨id,?_⟩;conv=>whnf
  refine bq h fun d4 P h=>?_;refine zU (zV n _ _ _ _ _ P) [0] [] ?_;rintro _ _ ⟨rfl,rfl⟩;refine⟨pB d4,[.box 137 [pK a,pI o,pB q],zq4,.box 28 [pI c,pS d,pI e,pB f,pI g,pS i,pV j,pT k,pT l,pE m]],rfl,rfl,?_⟩;conv=>whnf
  refine⟨id,?_⟩;conv=>whnf
  refine⟨fun b=>?_,fun b=>?_⟩
  ·replace h:=mC h b
   conv=>whnf
   refine⟨id,?_⟩;conv=>whnf
   refine bq h fun d5 Q h=>?_;refine zU (zV n _ _ _ _ _ Q) [0] [] ?_;rintro _ _ ⟨rfl,rfl⟩;refine⟨pB d5,[.box 137 [pK a,pI o,pB q],zq4,.box 28 [pI c,pS d,pI e,pB f,pI g,pS i,pV j,pT k,pT l,pE m]],rfl,rfl,?_⟩;conv=>whnf
   refine⟨id,?_⟩;conv=>whnf
   apply ifc h<;>intro u h
   ·conv=>whnf
    refine bq h fun⟨_,_,_,_⟩ U h=>⟨_,Codec.at_ nY U,?_⟩;(conv=>whnf);refine bq h fun⟨⟨d6,d7,⟨d8,d9,e0,e2,e3,e4⟩,e5,e6⟩,y,z⟩ R h=>?_;refine zU (g236_ok _ _ _ _ R) [0] [] ?_;rintro _ _ ⟨rfl,rfl⟩;refine⟨.p (.agg [.int .i64 d6,.str d7,.int .i64 d8,.bool d9,.int .i64 e0,.str e2,.sl (Val.rows e3),.sl (qi e4),.sl (qi e5),.sl (qa.rows e6)]),[.box 137 [pK a,pI y,pB z],zq4,.box 28 [pI c,pS d,pI e,pB f,pI g,pS i,pV j,pT k,pT l,pE m]],rfl,rfl,?_⟩;(conv=>whnf);refine bq h fun⟨e7,e8,⟨e9,f1,f2,f3,f4,f5⟩,f6,f7⟩ T h=>⟨_,(uK n _ _ _ _ T),?_⟩;(conv=>whnf);exact⟨(y,z,e7,e8,e9,f1,f2,f3,f4,f5,f6,f7),h,wk [0,1,2] []⟩
   obtain rfl:=sj h;conv=>whnf
   refine⟨_,_,⟨rfl,rfl⟩,wk [0] []⟩
  replace h:=gf h b;refine⟨pB false,?_⟩;conv=>whnf
  refine⟨id,?_⟩;conv=>whnf
  apply ifc h<;>intro u h
  ·conv=>whnf
   refine bq h fun⟨_,_,_,_⟩ G h=>⟨_,Codec.at_ nY G,?_⟩;conv=>whnf
   refine bq h fun⟨⟨f9,g0,⟨g1,g2,g3,g4,g5,g6⟩,g7,g9⟩,A,C⟩ V h=>?_;refine zU (g236_ok _ _ _ _ V) [0] [] ?_;rintro _ _ ⟨rfl,rfl⟩;refine⟨.p (.agg [.int .i64 f9,.str g0,.int .i64 g1,.bool g2,.int .i64 g3,.str g4,.sl (Val.rows g5),.sl (qi g6),.sl (qi g7),.sl (qa.rows g9)]),[.box 137 [pK a,pI A,pB C],zq4,.box 28 [pI c,pS d,pI e,pB f,pI g,pS i,pV j,pT k,pT l,pE m]],rfl,rfl,?_⟩;conv=>whnf
   refine bq h fun⟨i0,i1,⟨i2,i3,i4,i5,i6,i8⟩,i9,j0⟩ W h=>⟨_,(uK n _ _ _ _ W),?_⟩;conv=>whnf
   exact⟨(A,C,i0,i1,i2,i3,i4,i5,i6,i8,i9,j0),h,wk [0,1,2] []⟩
  obtain rfl:=sj h;conv=>whnf
  refine⟨_,_,⟨rfl,rfl⟩,wk [0] []⟩
 replace h:=gf h b;refine⟨pB false,?_⟩;conv=>whnf
 refine⟨id,?_⟩;conv=>whnf
 refine⟨fun b=>?_,fun b=>?_⟩
 ·replace h:=mC h b
  conv=>whnf
  refine⟨id,?_⟩;conv=>whnf
  refine bq h fun j1 H h=>?_;refine zU (zV n _ _ _ _ _ H) [0] [] ?_;rintro _ _ ⟨rfl,rfl⟩;refine⟨pB j1,[.box 137 [pK a,pI o,pB q],zq4,.box 28 [pI c,pS d,pI e,pB f,pI g,pS i,pV j,pT k,pT l,pE m]],rfl,rfl,?_⟩;conv=>whnf
  refine⟨id,?_⟩;conv=>whnf
  apply ifc h<;>intro u h
  ·conv=>whnf
   refine bq h fun⟨_,_,_,_⟩ K h=>⟨_,Codec.at_ nY K,?_⟩;conv=>whnf
   refine bq h fun⟨⟨j2,j3,⟨j5,j6,j7,j8,j9,k0⟩,k1,k2⟩,D,E⟩ I h=>?_;refine zU (g236_ok _ _ _ _ I) [0] [] ?_;rintro _ _ ⟨rfl,rfl⟩;refine⟨.p (.agg [.int .i64 j2,.str j3,.int .i64 j5,.bool j6,.int .i64 j7,.str j8,.sl (Val.rows j9),.sl (qi k0),.sl (qi k1),.sl (qa.rows k2)]),[.box 137 [pK a,pI D,pB E],zq4,.box 28 [pI c,pS d,pI e,pB f,pI g,pS i,pV j,pT k,pT l,pE m]],rfl,rfl,?_⟩;conv=>whnf
   refine bq h fun⟨Y,Z,⟨a0,a1,a2,a3,a4,a5⟩,a6,a7⟩ J h=>⟨_,(uK n _ _ _ _ J),?_⟩;conv=>whnf
   exact⟨(D,E,Y,Z,a0,a1,a2,a3,a4,a5,a6,a7),h,wk [0,1,2] []⟩
  obtain rfl:=sj h;conv=>whnf
  refine⟨_,_,⟨rfl,rfl⟩,wk [0] []⟩
 replace h:=gf h b;refine⟨pB false,?_⟩;conv=>whnf
 refine⟨id,?_⟩;conv=>whnf
 apply ifc h<;>intro u h
 ·conv=>whnf
  refine bq h fun⟨_,_,_,_⟩ N h=>⟨_,Codec.at_ nY N,?_⟩;conv=>whnf
  refine bq h fun⟨⟨a9,b0,⟨b1,b2,b3,b4,b6,b7⟩,b8,b9⟩,w,x⟩ L h=>?_;refine zU (g236_ok _ _ _ _ L) [0] [] ?_;rintro _ _ ⟨rfl,rfl⟩;refine⟨.p (.agg [.int .i64 a9,.str b0,.int .i64 b1,.bool b2,.int .i64 b3,.str b4,.sl (Val.rows b6),.sl (qi b7),.sl (qi b8),.sl (qa.rows b9)]),[.box 137 [pK a,pI w,pB x],zq4,.box 28 [pI c,pS d,pI e,pB f,pI g,pS i,pV j,pT k,pT l,pE m]],rfl,rfl,?_⟩;conv=>whnf
  refine bq h fun⟨c0,c1,⟨c2,c3,c5,c6,c7,c8⟩,c9,d0⟩ M h=>⟨_,(uK n _ _ _ _ M),?_⟩;conv=>whnf
  exact⟨(w,x,c0,c1,c2,c3,c5,c6,c7,c8,c9,d0),h,wk [0,1,2] []⟩
 obtain rfl:=sj h;conv=>whnf
 refine⟨_,_,⟨rfl,rfl⟩,wk [0] []⟩
theorem UZ (n:Nat) (g159:FJ) (g120 g155:vN) (g203 g223:vN) (g230 g234:vN) (g235 g236 g237:vN) (g238:FK) (g239:FL) (g159_ok:TE g159) (g120_ok:TF g120) (g155_ok:TG g155) (g203_ok:TH g203) (g223_ok:TI g223) (g230_ok:TJ g230) (g234_ok:TK g234) (g235_ok:TL g235) (g236_ok:TM g236) (g237_ok:TN g237) (g238_ok:FH g238) (g239_ok:FI g239):∀ (a:List ql) (q:Int) (m:Bool) (r:qa×Int×Bool),tu n g159 g120 g155 g203 g223 g230 g234 g235 g236 g237 g238 g239 a q m=some r->zn TP 236 [.ptr 0 0] [.box 137 [pK a,pI q,pB m]] 1 (fun v lo=>v=sv a q m r/\lo=su a q m r):=by
 intro a q m r h;unfold tu at h;refine zO Tryz.call236 Tryz.func236 [117,120,121,158,236,237,1000000] ?_;conv=>whnf
 refine bq h fun⟨e1,e2⟩ a8 h=>?_;refine zU (qe n _ _ _ _ _ a8) [0] [] ?_;rintro _ _ ⟨rfl,rfl⟩;refine⟨pB e1,[.box 137 [pK a,pI e2,pB m],zq4],rfl,rfl,?_⟩;conv=>whnf
 apply ifc h<;>intro E h
 ·conv=>whnf
  refine bq h fun⟨⟨e6,e9,⟨f1,f6,c1,c2,c3,c4⟩,c5,c6⟩,c7,c8⟩ b3 h=>?_;refine zU (g236_ok _ _ _ _ b3) [0] [] ?_;rintro _ _ ⟨rfl,rfl⟩;refine⟨.p (.agg [.int .i64 e6,.str e9,.int .i64 f1,.bool f6,.int .i64 c1,.str c2,.sl (Val.rows c3),.sl (qi c4),.sl (qi c5),.sl (qa.rows c6)]),[.box 137 [pK a,pI c7,pB c8],zq4],rfl,rfl,?_⟩;conv=>whnf
  refine bq h fun⟨_,_,⟨_,_,_,_,_,_⟩,_,_⟩ b4 h=>⟨_,(bh n _ _ _ b4),?_⟩;obtain rfl:=sj h;conv=>whnf
  refine⟨_,_,⟨rfl,rfl⟩,wk [0] []⟩
 conv=>whnf
 refine bq h fun⟨⟨c9,d0,⟨d1,d2,d3,d4,d5,d6⟩,d7,d8⟩,d9,e0⟩ b5 h=>?_;refine zU (g237_ok _ _ _ _ b5) [0] [] ?_;rintro _ _ ⟨rfl,rfl⟩;refine⟨.p (.agg [.int .i64 c9,.str d0,.int .i64 d1,.bool d2,.int .i64 d3,.str d4,.sl (Val.rows d5),.sl (qi d6),.sl (qi d7),.sl (qa.rows d8)]),[.box 137 [pK a,pI d9,pB e0],zq4],rfl,rfl,?_⟩;conv=>whnf
 refine zj.fn [117,120,121,158,236,237,1000000] (S:=Int×Bool×Int×SS×Int×Bool×Int×SS×List Val×List SS×List SS×List qa) (fun(G,o,b,c,d,e,f,g,i,j,k,l)=>[(0,.ptr 0 0),(2,.ptr 1 0),(4,.ptr 2 0)]) (fun(G,o,b,c,d,e,f,g,i,j,k,l)=>[.box 137 [pK a,pI G,pB o],zq4,.box 28 [pI b,pS c,pI d,pB e,pI f,pS g,pV i,pT j,pT k,pE l]]) (B:=pj n a g120) h (wk [0,1,2] []) ?_;intro _ st h;obtain⟨G,o,b,c,d,e,f,g,i,j,k,l⟩:=st;unfold pj at h;conv=>whnf
 refine bq h fun⟨e3,e4⟩ b6 h=>?_;refine zU (qe n _ _ _ _ _ b6) [0] [] ?_;rintro _ _ ⟨rfl,rfl⟩;refine⟨pB e3,[.box 137 [pK a,pI e4,pB o],zq4,.box 28 [pI b,pS c,pI d,pB e,pI f,pS g,pV i,pT j,pT k,pE l]],rfl,rfl,?_⟩;conv=>whnf
 apply ifc h<;>intro E h
 ·conv=>whnf
  refine bq h fun⟨H,e5,⟨I,J,K,L,M,N⟩,O,P⟩ b8 h=>⟨_,(bh n _ _ _ b8),?_⟩;conv=>whnf
  refine bq h fun⟨Q,R,T⟩ b7 h=>?_;refine zU (uI n _ _ _ _ b7) [0] [] ?_;rintro _ _ ⟨rfl,rfl⟩;refine⟨pS Q,[.box 137 [pK a,pI R,pB T],zq4,.box 28 [pI H,pS e5,pI I,pB J,pI K,pS L,pV M,pT N,pT O,pE P]],rfl,rfl,?_⟩;conv=>whnf
  exact⟨(R,T,H,Q,I,J,K,L,M,N,O,P),h,wk [0,1,2] []⟩
 conv=>whnf
 refine bq h fun⟨e7,e8⟩ b9 h=>?_;refine zU (qe n _ _ _ _ _ b9) [0] [] ?_;rintro _ _ ⟨rfl,rfl⟩;refine⟨pB e7,[.box 137 [pK a,pI e8,pB o],zq4,.box 28 [pI b,pS c,pI d,pB e,pI f,pS g,pV i,pT j,pT k,pE l]],rfl,rfl,?_⟩;conv=>whnf
 apply ifc h<;>intro E h
 ·conv=>whnf
  refine bq h fun⟨⟨s,t,⟨u,w,x,y,z,A⟩,C,D⟩,f0,f2⟩ c0 h=>?_;refine zU (g120_ok _ _ _ _ c0) [0] [] ?_;rintro _ _ ⟨rfl,rfl⟩;refine⟨.p (.agg [.int .i64 s,.str t,.int .i64 u,.bool w,.int .i64 x,.str y,.sl (Val.rows z),.sl (qi A),.sl (qi C),.sl (qa.rows D)]),[.box 137 [pK a,pI f0,pB f2],zq4,.box 28 [pI b,pS c,pI d,pB e,pI f,pS g,pV i,pT j,pT k,pE l]],rfl,rfl,?_⟩;conv=>whnf
  refine bq h fun⟨U,V⟩ a9 h=>?_;refine zU (qH n _ _ _ _ _ a9) [0] [] ?_;rintro _ _ ⟨rfl,rfl⟩;refine⟨.p (.tup []),[.box 137 [pK a,pI U,pB V],zq4,.box 28 [pI b,pS c,pI d,pB e,pI f,pS g,pV i,pT j,pT k,pE l],.box 28 [pI s,pS t,pI u,pB w,pI x,pS y,pV z,pT A,pT C,pE D]],rfl,rfl,?_⟩;conv=>whnf
  refine⟨Codec.one zx [qa.mk b c (Val.mk d e f g i j) k l,qa.mk s t (Val.mk u w x y z A) C D],qa.rows [qa.mk b c (Val.mk d e f g i j) k l,qa.mk s t (Val.mk u w x y z A) C D],.inl rfl,?_⟩;conv=>whnf
  exact⟨(U,V,(7:Int),([]:SS),(0:Int),false,(0:Int),([]:SS),([]:List _),([]:List _),([]:List _),[qa.mk b c (Val.mk d e f g i j) k l,qa.mk s t (Val.mk u w x y z A) C D]),h,wk [0,1,2] []⟩
 conv=>whnf
 refine⟨fun F=>?_,fun F=>?_⟩
 ·replace h:=mC h F
  conv=>whnf
  refine⟨id,?_⟩;conv=>whnf
  refine bq h fun⟨f3,f4⟩ b0 h=>?_;refine zU (qe n _ _ _ _ _ b0) [0] [] ?_;rintro _ _ ⟨rfl,rfl⟩;refine⟨pB f3,[.box 137 [pK a,pI f4,pB o],zq4,.box 28 [pI b,pS c,pI d,pB e,pI f,pS g,pV i,pT j,pT k,pE l]],rfl,rfl,?_⟩;conv=>whnf
  refine⟨id,?_⟩;conv=>whnf
  apply ifc h<;>intro E h
  ·conv=>whnf
   refine bq h fun⟨W,f5,⟨X,Y,Z,a0,a1,a2⟩,a3,a4⟩ b2 h=>⟨_,(bh n _ _ _ b2),?_⟩;conv=>whnf
   refine bq h fun⟨a5,a6,a7⟩ b1 h=>?_;refine zU (uI n _ _ _ _ b1) [0] [] ?_;rintro _ _ ⟨rfl,rfl⟩;refine⟨pS a5,[.box 137 [pK a,pI a6,pB a7],zq4,.box 28 [pI W,pS f5,pI X,pB Y,pI Z,pS a0,pV a1,pT a2,pT a3,pE a4]],rfl,rfl,?_⟩;conv=>whnf
   exact⟨(a6,a7,W,a5,X,Y,Z,a0,a1,a2,a3,a4),h,wk [0,1,2] []⟩
  obtain rfl:=sj h;conv=>whnf
  refine⟨_,_,⟨rfl,rfl⟩,wk [0] []⟩
 replace h:=gf h F;refine⟨pB false,?_⟩;conv=>whnf
 refine⟨id,?_⟩;conv=>whnf
 refine⟨fun hf=>absurd hf (by first|decide|simp),fun _=>?_⟩;obtain rfl:=sj h;conv=>whnf
 refine⟨_,_,⟨rfl,rfl⟩,wk [0] []⟩
theorem Fp (n:Nat) (g159:FJ) (g120 g155:vN) (g203 g223:vN) (g230 g234:vN) (g235 g236 g237:vN) (g238:FK) (g239:FL) (g159_ok:TE g159) (g120_ok:TF g120) (g155_ok:TG g155) (g203_ok:TH g203) (g223_ok:TI g223) (g230_ok:TJ g230) (g234_ok:TK g234) (g235_ok:TL g235) (g236_ok:TM g236) (g237_ok:TN g237) (g238_ok:FH g238) (g239_ok:FI g239):∀ (a:List ql) (i:Int) (f:Bool) (r:qa×Int×Bool),QB n g159 g120 g155 g203 g223 g230 g234 g235 g236 g237 g238 g239 a i f=some r->zn TP 237 [.ptr 0 0] [.box 137 [pK a,pI i,pB f]] 1 (fun v lo=>v=tL a i f r/\lo=tH a i f r):=by
 intro a i f r h;unfold QB at h;refine zO Tryz.call237 Tryz.func237 [117,120,121,122,126,159,238,239,40000003,1000000] ?_;conv=>whnf
 apply ifc h<;>intro g h
 ·obtain rfl:=sj h
  conv=>whnf
  refine⟨_,_,⟨rfl,rfl⟩,wk [0] []⟩
 conv=>whnf
 refine bq h fun⟨b,c,d,e⟩ E h=>⟨_,Codec.at_ nY E,?_⟩;conv=>whnf
 apply ifc h<;>intro g h
 ·obtain rfl:=sj h
  conv=>whnf
  refine⟨_,_,⟨rfl,rfl⟩,wk [0] []⟩
 conv=>whnf
 apply ifc h<;>intro g h
 ·obtain rfl:=sj h
  conv=>whnf
  refine⟨_,_,⟨rfl,rfl⟩,wk [0] []⟩
 conv=>whnf
 apply ifc h<;>intro g h
 ·conv=>whnf
  refine bq h fun⟨c5,c6⟩ y h=>?_;refine zU (qe n _ _ _ _ _ y) [0] [] ?_;rintro _ _ ⟨rfl,rfl⟩;refine⟨pB c5,[.box 137 [pK a,pI c6,pB f],zq4,.box 139 [pI b,pS c,pI d,pI e]],rfl,rfl,?_⟩;conv=>whnf
  apply ifc h<;>intro g h
  ·conv=>whnf
   refine bq h fun⟨⟨N,O,⟨P,Q,R,S,T,U⟩,V,W⟩,X,Y⟩ F h=>?_;refine zU (g238_ok _ _ _ _ _ F) [0] [] ?_;rintro _ _ ⟨rfl,rfl⟩;refine⟨.p (.agg [.int .i64 N,.str O,.int .i64 P,.bool Q,.int .i64 R,.str S,.sl (Val.rows T),.sl (qi U),.sl (qi V),.sl (qa.rows W)]),[.box 137 [pK a,pI X,pB Y],zq4,.box 139 [pI b,pS c,pI d,pI e]],rfl,rfl,?_⟩;obtain rfl:=sj h;conv=>whnf
   refine⟨_,_,⟨rfl,rfl⟩,wk [0] []⟩
  obtain rfl:=sj h;conv=>whnf
  refine⟨_,_,⟨rfl,rfl⟩,wk [0] []⟩
 conv=>whnf
 refine bq h fun⟨Z,a0⟩ G h=>?_;refine zU (qe n _ _ _ _ _ G) [0] [] ?_;rintro _ _ ⟨rfl,rfl⟩;refine⟨pB Z,[.box 137 [pK a,pI a0,pB f],zq4,.box 139 [pI b,pS c,pI d,pI e]],rfl,rfl,?_⟩;conv=>whnf
 apply ifc h<;>intro g h
 ·obtain rfl:=sj h
  conv=>whnf
  refine⟨_,_,⟨rfl,rfl⟩,wk [0] []⟩
 conv=>whnf
 refine bq h fun⟨a1,a2⟩ H h=>?_;refine zU (qe n _ _ _ _ _ H) [0] [] ?_;rintro _ _ ⟨rfl,rfl⟩;refine⟨pB a1,[.box 137 [pK a,pI a2,pB f],zq4,.box 139 [pI b,pS c,pI d,pI e]],rfl,rfl,?_⟩;conv=>whnf
 apply ifc h<;>intro g h
 ·obtain rfl:=sj h
  conv=>whnf
  refine⟨_,_,⟨rfl,rfl⟩,wk [0] []⟩
 conv=>whnf
 refine bq h fun⟨a3,a4⟩ I h=>?_;refine zU (qe n _ _ _ _ _ I) [0] [] ?_;rintro _ _ ⟨rfl,rfl⟩;refine⟨pB a3,[.box 137 [pK a,pI a4,pB f],zq4,.box 139 [pI b,pS c,pI d,pI e]],rfl,rfl,?_⟩;conv=>whnf
 apply ifc h<;>intro g h
 ·obtain rfl:=sj h
  conv=>whnf
  refine⟨_,_,⟨rfl,rfl⟩,wk [0] []⟩
 conv=>whnf
 refine bq h fun⟨a5,a6⟩ J h=>?_;refine zU (qe n _ _ _ _ _ J) [0] [] ?_;rintro _ _ ⟨rfl,rfl⟩;refine⟨pB a5,[.box 137 [pK a,pI a6,pB f],zq4,.box 139 [pI b,pS c,pI d,pI e]],rfl,rfl,?_⟩;conv=>whnf
 apply ifc h<;>intro g h
 ·conv=>whnf
  refine bq h fun⟨a7,a8,a9⟩ K h=>?_;refine zU (uf n _ _ _ _ K) [0] [] ?_;rintro _ _ ⟨rfl,rfl⟩;refine⟨pS a7,[.box 137 [pK a,pI a8,pB a9],zq4,.box 139 [pI b,pS c,pI d,pI e]],rfl,rfl,?_⟩;obtain rfl:=sj h;conv=>whnf
  refine⟨_,_,⟨rfl,rfl⟩,wk [0] []⟩
 conv=>whnf
 refine bq h fun⟨b0,b1⟩ L h=>?_;refine zU (qe n _ _ _ _ _ L) [0] [] ?_;rintro _ _ ⟨rfl,rfl⟩;refine⟨pB b0,[.box 137 [pK a,pI b1,pB f],zq4,.box 139 [pI b,pS c,pI d,pI e]],rfl,rfl,?_⟩;conv=>whnf
 apply ifc h<;>intro g h
 ·conv=>whnf
  refine bq h fun⟨⟨j,k,⟨l,m,o,q,s,t⟩,u,w⟩,b2,b3⟩ M h=>?_;refine zU (g120_ok _ _ _ _ M) [0] [] ?_;rintro _ _ ⟨rfl,rfl⟩;refine⟨.p (.agg [.int .i64 j,.str k,.int .i64 l,.bool m,.int .i64 o,.str q,.sl (Val.rows s),.sl (qi t),.sl (qi u),.sl (qa.rows w)]),[.box 137 [pK a,pI b2,pB b3],zq4,.box 139 [pI b,pS c,pI d,pI e]],rfl,rfl,?_⟩;conv=>whnf
  refine bq h fun⟨b4,b5⟩ z h=>?_;refine zU (qH n _ _ _ _ _ z) [0] [] ?_;rintro _ _ ⟨rfl,rfl⟩;refine⟨.p (.tup []),[.box 137 [pK a,pI b4,pB b5],zq4,.box 139 [pI b,pS c,pI d,pI e],.box 28 [pI j,pS k,pI l,pB m,pI o,pS q,pV s,pT t,pT u,pE w]],rfl,rfl,?_⟩;obtain rfl:=sj h;conv=>whnf
  refine⟨_,_,⟨rfl,rfl⟩,wk [0] []⟩
 conv=>whnf
 refine bq h fun⟨b6,x⟩ A h=>?_;refine zU (qe n _ _ _ _ _ A) [0] [] ?_;rintro _ _ ⟨rfl,rfl⟩;refine⟨pB b6,[.box 137 [pK a,pI x,pB f],zq4,.box 139 [pI b,pS c,pI d,pI e]],rfl,rfl,?_⟩;conv=>whnf
 apply ifc h<;>intro g h
 ·conv=>whnf
  refine bq h fun⟨b7,b8,b9⟩ B h=>?_;refine zU (g239_ok _ _ _ _ _ B) [0] [] ?_;rintro _ _ ⟨rfl,rfl⟩;refine⟨pE b7,[.box 137 [pK a,pI b8,pB b9],zq4,.box 139 [pI b,pS c,pI d,pI e]],rfl,rfl,?_⟩;obtain rfl:=sj h;conv=>whnf
  refine⟨_,_,⟨rfl,rfl⟩,wk [0] []⟩
 conv=>whnf
 refine bq h fun c0 C h=>?_;refine zU (zV n _ _ _ _ _ C) [0] [] ?_;rintro _ _ ⟨rfl,rfl⟩;refine⟨pB c0,[.box 137 [pK a,pI x,pB f],zq4,.box 139 [pI b,pS c,pI d,pI e]],rfl,rfl,?_⟩;conv=>whnf
 apply ifc h<;>intro g h
 ·conv=>whnf
  refine bq h fun⟨c1,c2,c3,c4⟩ D h=>?_;refine zU (g159_ok _ _ _ _ D) [0] [] ?_;rintro _ _ ⟨rfl,rfl⟩;refine⟨.p (.tup [.sl (qi c1),.sl (qa.rows c2)]),[.box 137 [pK a,pI c3,pB c4],zq4,.box 139 [pI b,pS c,pI d,pI e]],rfl,rfl,?_⟩;obtain rfl:=sj h;conv=>whnf
  refine⟨_,_,⟨rfl,rfl⟩,wk [0] []⟩
 obtain rfl:=sj h;conv=>whnf
 refine⟨_,_,⟨rfl,rfl⟩,wk [0] []⟩
theorem Fq (n:Nat) (g159:FJ) (g120 g155:vN) (g203 g223:vN) (g230 g234:vN) (g235 g236 g237:vN) (g238:FK) (g239:FL) (g159_ok:TE g159) (g120_ok:TF g120) (g155_ok:TG g155) (g203_ok:TH g203) (g223_ok:TI g223) (g230_ok:TJ g230) (g234_ok:TK g234) (g235_ok:TL g235) (g236_ok:TM g236) (g237_ok:TN g237) (g238_ok:FH g238) (g239_ok:FI g239):∀ (b:SS) (a:List ql) (d:Int) (c:Bool) (r:qa×Int×Bool),QC n g159 g120 g155 g203 g223 g230 g234 g235 g236 g237 g238 g239 b a d c=some r->zn TP 238 [.ptr 0 0,.p (PV.str b)] [.box 137 [pK a,pI d,pB c]] 1 (fun v lo=>v=tM a d c r/\lo=tI a d c r):=by
 intro b a d c r h;unfold QC at h;refine zO Tryz.call238 Tryz.func238 [117,120,121,239,1000000] ?_;conv=>whnf
 refine bq h fun _ L h=>⟨_,(bK n _ _ L),?_⟩;conv=>whnf
 apply ifc h<;>intro M h
 ·conv=>whnf
  refine bq h fun⟨Y,Z,a0⟩ E h=>?_;refine zU (g239_ok _ _ _ _ _ E) [0] [] ?_;rintro _ _ ⟨rfl,rfl⟩;refine⟨pE Y,[.box 137 [pK a,pI Z,pB a0],zq4],rfl,rfl,?_⟩;obtain rfl:=sj h;conv=>whnf
  refine⟨_,_,⟨rfl,rfl⟩,wk [0] []⟩
 conv=>whnf
 refine⟨fun D=>?_,fun D=>?_⟩
 ·replace h:=mC h D
  conv=>whnf
  refine⟨id,?_⟩;conv=>whnf
  refine bq h fun⟨a1,N⟩ F h=>?_;refine zU (qe n _ _ _ _ _ F) [0] [] ?_;rintro _ _ ⟨rfl,rfl⟩;refine⟨pB a1,[.box 137 [pK a,pI N,pB c],zq4,.box 28 [.p (.int .i64 (14:Int)),pS b,zq0,pB false,zq0,zq1,zq2,zq2,zq2,zq2]],rfl,rfl,?_⟩;conv=>whnf
  refine⟨id,?_⟩;conv=>whnf
  apply ifc h<;>intro M h
  ·conv=>whnf
   refine bq h fun⟨O,P⟩ G h=>?_;refine zU (qH n _ _ _ _ _ G) [0] [] ?_;rintro _ _ ⟨rfl,rfl⟩;refine⟨.p (.tup []),[.box 137 [pK a,pI O,pB P],zq4,.box 28 [.p (.int .i64 (14:Int)),pS b,zq0,pB false,zq0,zq1,zq2,zq2,zq2,zq2]],rfl,rfl,?_⟩;obtain rfl:=sj h;conv=>whnf
   refine⟨_,_,⟨rfl,rfl⟩,wk [0] []⟩
  conv=>whnf
  refine bq h fun⟨⟨e,f,⟨g,i,j,k,l,m⟩,o,q⟩,Q,R⟩ H h=>?_;refine zU (g120_ok _ _ _ _ H) [0] [] ?_;rintro _ _ ⟨rfl,rfl⟩;refine⟨.p (.agg [.int .i64 e,.str f,.int .i64 g,.bool i,.int .i64 j,.str k,.sl (Val.rows l),.sl (qi m),.sl (qi o),.sl (qa.rows q)]),[.box 137 [pK a,pI Q,pB R],zq4,.box 28 [.p (.int .i64 (14:Int)),pS b,zq0,pB false,zq0,zq1,zq2,zq2,zq2,zq2]],rfl,rfl,?_⟩;conv=>whnf
  refine bq h fun⟨S,T⟩ I h=>?_;refine zU (qH n _ _ _ _ _ I) [0] [] ?_;rintro _ _ ⟨rfl,rfl⟩;refine⟨.p (.tup []),[.box 137 [pK a,pI S,pB T],zq4,.box 28 [.p (.int .i64 (14:Int)),pS b,zq0,pB false,zq0,zq1,zq2,zq2,zq2,zq2],.box 28 [pI e,pS f,pI g,pB i,pI j,pS k,pV l,pT m,pT o,pE q]],rfl,rfl,?_⟩;conv=>whnf
  refine⟨Codec.one zx [qa.mk e f (Val.mk g i j k l m) o q],qa.rows [qa.mk e f (Val.mk g i j k l m) o q],.inl rfl,?_⟩;obtain rfl:=sj h;conv=>whnf
  refine⟨_,_,⟨rfl,rfl⟩,wk [0] []⟩
 replace h:=gf h D;refine⟨pB false,?_⟩;conv=>whnf
 refine⟨id,?_⟩;conv=>whnf
 refine⟨fun hf=>absurd hf (by first|decide|simp),fun _=>?_⟩;conv=>whnf
 refine bq h fun⟨⟨s,t,⟨u,w,x,y,z,A⟩,B,C⟩,U,V⟩ J h=>?_;refine zU (g120_ok _ _ _ _ J) [0] [] ?_;rintro _ _ ⟨rfl,rfl⟩;refine⟨.p (.agg [.int .i64 s,.str t,.int .i64 u,.bool w,.int .i64 x,.str y,.sl (Val.rows z),.sl (qi A),.sl (qi B),.sl (qa.rows C)]),[.box 137 [pK a,pI U,pB V],zq4,.box 28 [.p (.int .i64 (14:Int)),pS b,zq0,pB false,zq0,zq1,zq2,zq2,zq2,zq2]],rfl,rfl,?_⟩;conv=>whnf
 refine bq h fun⟨W,X⟩ K h=>?_;refine zU (qH n _ _ _ _ _ K) [0] [] ?_;rintro _ _ ⟨rfl,rfl⟩;refine⟨.p (.tup []),[.box 137 [pK a,pI W,pB X],zq4,.box 28 [.p (.int .i64 (14:Int)),pS b,zq0,pB false,zq0,zq1,zq2,zq2,zq2,zq2],.box 28 [pI s,pS t,pI u,pB w,pI x,pS y,pV z,pT A,pT B,pE C]],rfl,rfl,?_⟩;conv=>whnf
 refine⟨Codec.one zx [qa.mk s t (Val.mk u w x y z A) B C],qa.rows [qa.mk s t (Val.mk u w x y z A) B C],.inl rfl,?_⟩;obtain rfl:=sj h;conv=>whnf
 refine⟨_,_,⟨rfl,rfl⟩,wk [0] []⟩
theorem Fs (n:Nat) (g159:FJ) (g120 g155:vN) (g203 g223:vN) (g230 g234:vN) (g235 g236 g237:vN) (g238:FK) (g239:FL) (g159_ok:TE g159) (g120_ok:TF g120) (g155_ok:TG g155) (g203_ok:TH g203) (g223_ok:TI g223) (g230_ok:TJ g230) (g234_ok:TK g234) (g235_ok:TL g235) (g236_ok:TM g236) (g237_ok:TN g237) (g238_ok:FH g238) (g239_ok:FI g239):∀ (q:SS) (m:List ql) (s:Int) (o:Bool) (r:(List qa)×Int×Bool),QD n g159 g120 g155 g203 g223 g230 g234 g235 g236 g237 g238 g239 q m s o=some r->zn TP 239 [.ptr 0 0,.p (PV.str q)] [.box 137 [pK m,pI s,pB o]] 1 (fun v lo=>v=tN m s o r/\lo=tJ m s o r):=by
 intro q m s o r h;unfold QD at h;refine zO Tryz.call239 Tryz.func239 [117,120,121,1000000] ?_;conv=>whnf
 refine bq h fun⟨J,K⟩ z h=>?_;refine zU (qe n _ _ _ _ _ z) [0] [] ?_;rintro _ _ ⟨rfl,rfl⟩;refine⟨pB J,[.box 137 [pK m,pI K,pB o]],rfl,rfl,?_⟩;conv=>whnf
 apply ifc h<;>intro E h
 ·obtain rfl:=sj h
  conv=>whnf
  refine⟨_,_,⟨rfl,rfl⟩,wk [0] []⟩
 conv=>whnf
 refine zj.fn [117,120,121,1000000] (S:=List qa×Int×Bool) (fun(l,u,w)=>[(0,.ptr 0 0),(1,pS q),(5,.tsl 1 (qa.rows l))]) (fun(l,u,w)=>[.box 137 [pK m,pI u,pB w],.tail 28 10 (qa.rows l).length]) (B:=rT n g120 m q) h (wk [0,0] [1]) ?_;intro _ st h;obtain⟨l,u,w⟩:=st;unfold rT at h;conv=>whnf
 refine bq h fun⟨⟨a,b,⟨c,d,e,f,g,i⟩,j,k⟩,F,t⟩ A h=>?_;refine zU (g120_ok _ _ _ _ A) [0] [] ?_;rintro _ _ ⟨rfl,rfl⟩;refine⟨.p (.agg [.int .i64 a,.str b,.int .i64 c,.bool d,.int .i64 e,.str f,.sl (Val.rows g),.sl (qi i),.sl (qi j),.sl (qa.rows k)]),[.box 137 [pK m,pI F,pB t],.tail 28 10 (qa.rows l).length],rfl,rfl,?_⟩;conv=>whnf
 refine⟨Codec.one zx [qa.mk a b (Val.mk c d e f g i) j k],qa.rows [qa.mk a b (Val.mk c d e f g i) j k],.inl rfl,?_⟩;conv=>whnf
 rw[show qa.rows l++qa.rows [qa.mk a b (Val.mk c d e f g i) j k]=qa.rows (l++[qa.mk a b (Val.mk c d e f g i) j k])from Codec.append zx l [qa.mk a b (Val.mk c d e f g i) j k]];conv=>whnf
 obtain⟨x,h⟩:=qg h;refine⟨⟨Codec.wide zx (l++[qa.mk a b (Val.mk c d e f g i) j k]),kod x,zy x (by decide)⟩,?_⟩;conv=>whnf
 refine⟨⟨rfl,rfl,rfl⟩,?_⟩;conv=>whnf
 refine bq h fun⟨G,y⟩ C h=>?_;refine zU (qe n _ _ _ _ _ C) [0] [] ?_;rintro _ _ ⟨rfl,rfl⟩;refine⟨pB G,[.box 137 [pK m,pI y,pB t],.dead,.box 28 [pI a,pS b,pI c,pB d,pI e,pS f,pV g,pT i,pT j,pE k],.tail 28 10 (qa.rows (l++[qa.mk a b (Val.mk c d e f g i) j k])).length],rfl,rfl,?_⟩;conv=>whnf
 apply ifc h<;>intro E h
 ·conv=>whnf
  refine bq h fun⟨H,I⟩ D h=>?_;refine zU (qH n _ _ _ _ _ D) [0] [] ?_;rintro _ _ ⟨rfl,rfl⟩;refine⟨.p (.tup []),[.box 137 [pK m,pI H,pB I],.dead,.box 28 [pI a,pS b,pI c,pB d,pI e,pS f,pV g,pT i,pT j,pE k],.tail 28 10 (qa.rows (l++[qa.mk a b (Val.mk c d e f g i) j k])).length],rfl,rfl,?_⟩;obtain rfl:=sj h;conv=>whnf
  refine⟨_,_,⟨rfl,rfl⟩,wk [0] []⟩
 conv=>whnf
 exact⟨((l++[qa.mk a b (Val.mk c d e f g i) j k]),y,t),h,wk [0,3] []⟩
mutual
def qK:Nat->(List ql)->Int->Bool->Option ((List SS)×(List qa)×Int×Bool)
 | 0=>fun _ _ _=>none
 | n+1=>tw n (qK n) (qM n) (zt n) (zp n) (zq n) (zg n) (zr n) (qJ n) (qV n) (zd n) (ze n) (zf n)
def qM:Nat->(List ql)->Int->Bool->Option (qa×Int×Bool)
 | 0=>fun _ _ _=>none
 | n+1=>QA n (qK n) (qM n) (zt n) (zp n) (zq n) (zg n) (zr n) (qJ n) (qV n) (zd n) (ze n) (zf n)
def zt:Nat->(List ql)->Int->Bool->Option (qa×Int×Bool)
 | 0=>fun _ _ _=>none
 | n+1=>ZZ n (qK n) (qM n) (zt n) (zp n) (zq n) (zg n) (zr n) (qJ n) (qV n) (zd n) (ze n) (zf n)
def zp:Nat->(List ql)->Int->Bool->Option (qa×Int×Bool)
 | 0=>fun _ _ _=>none
 | n+1=>ZW n (qK n) (qM n) (zt n) (zp n) (zq n) (zg n) (zr n) (qJ n) (qV n) (zd n) (ze n) (zf n)
def zq:Nat->(List ql)->Int->Bool->Option (qa×Int×Bool)
 | 0=>fun _ _ _=>none
 | n+1=>ZX n (qK n) (qM n) (zt n) (zp n) (zq n) (zg n) (zr n) (qJ n) (qV n) (zd n) (ze n) (zf n)
def zg:Nat->(List ql)->Int->Bool->Option (qa×Int×Bool)
 | 0=>fun _ _ _=>none
 | n+1=>QE n (qK n) (qM n) (zt n) (zp n) (zq n) (zg n) (zr n) (qJ n) (qV n) (zd n) (ze n) (zf n)
def zr:Nat->(List ql)->Int->Bool->Option (qa×Int×Bool)
 | 0=>fun _ _ _=>none
 | n+1=>ZY n (qK n) (qM n) (zt n) (zp n) (zq n) (zg n) (zr n) (qJ n) (qV n) (zd n) (ze n) (zf n)
def qJ:Nat->(List ql)->Int->Bool->Option (qa×Int×Bool)
 | 0=>fun _ _ _=>none
 | n+1=>pd n (qK n) (qM n) (zt n) (zp n) (zq n) (zg n) (zr n) (qJ n) (qV n) (zd n) (ze n) (zf n)
def qV:Nat->(List ql)->Int->Bool->Option (qa×Int×Bool)
 | 0=>fun _ _ _=>none
 | n+1=>tu n (qK n) (qM n) (zt n) (zp n) (zq n) (zg n) (zr n) (qJ n) (qV n) (zd n) (ze n) (zf n)
def zd:Nat->(List ql)->Int->Bool->Option (qa×Int×Bool)
 | 0=>fun _ _ _=>none
 | n+1=>QB n (qK n) (qM n) (zt n) (zp n) (zq n) (zg n) (zr n) (qJ n) (qV n) (zd n) (ze n) (zf n)
def ze:Nat->SS->(List ql)->Int->Bool->Option (qa×Int×Bool)
 | 0=>fun _ _ _ _=>none
 | n+1=>QC n (qK n) (qM n) (zt n) (zp n) (zq n) (zg n) (zr n) (qJ n) (qV n) (zd n) (ze n) (zf n)
def zf:Nat->SS->(List ql)->Int->Bool->Option ((List qa)×Int×Bool)
 | 0=>fun _ _ _ _=>none
 | n+1=>QD n (qK n) (qM n) (zt n) (zp n) (zq n) (zg n) (zr n) (qJ n) (qV n) (zd n) (ze n) (zf n)
end
theorem Qf (n:Nat):(∀ (c:List ql) (a:Int) (b:Bool) (r:(List SS)×(List qa)×Int×Bool),qK n c a b=some r->zn TP 159 [.ptr 0 0] [.box 137 [pK c,pI a,pB b]] 1 (fun v lo=>v=mq c a b r/\lo=mn c a b r))/\(∀ (c:List ql) (a:Int) (b:Bool) (r:qa×Int×Bool),qM n c a b=some r->zn TP 120 [.ptr 0 0] [.box 137 [pK c,pI a,pB b]] 1 (fun v lo=>v=ny c a b r/\lo=nu c a b r))/\(∀ (c:List ql) (a:Int) (b:Bool) (r:qa×Int×Bool),zt n c a b=some r->zn TP 155 [.ptr 0 0] [.box 137 [pK c,pI a,pB b]] 1 (fun v lo=>v=Zh c a b r/\lo=Zc c a b r))/\(∀ (c:List ql) (a:Int) (b:Bool) (r:qa×Int×Bool),zp n c a b=some r->zn TP 203 [.ptr 0 0] [.box 137 [pK c,pI a,pB b]] 1 (fun v lo=>v=Ze c a b r/\lo=QZ c a b r))/\(∀ (c:List ql) (a:Int) (b:Bool) (r:qa×Int×Bool),zq n c a b=some r->zn TP 223 [.ptr 0 0] [.box 137 [pK c,pI a,pB b]] 1 (fun v lo=>v=Zf c a b r/\lo=Za c a b r))/\(∀ (c:List ql) (a:Int) (b:Bool) (r:qa×Int×Bool),zg n c a b=some r->zn TP 230 [.ptr 0 0] [.box 137 [pK c,pI a,pB b]] 1 (fun v lo=>v=tO c a b r/\lo=tK c a b r))/\(∀ (c:List ql) (a:Int) (b:Bool) (r:qa×Int×Bool),zr n c a b=some r->zn TP 234 [.ptr 0 0] [.box 137 [pK c,pI a,pB b]] 1 (fun v lo=>v=Zg c a b r/\lo=Zb c a b r))/\(∀ (c:List ql) (a:Int) (b:Bool) (r:qa×Int×Bool),qJ n c a b=some r->zn TP 235 [.ptr 0 0] [.box 137 [pK c,pI a,pB b]] 1 (fun v lo=>v=mO c a b r/\lo=mN c a b r))/\(∀ (c:List ql) (a:Int) (b:Bool) (r:qa×Int×Bool),qV n c a b=some r->zn TP 236 [.ptr 0 0] [.box 137 [pK c,pI a,pB b]] 1 (fun v lo=>v=sv c a b r/\lo=su c a b r))/\(∀ (c:List ql) (a:Int) (b:Bool) (r:qa×Int×Bool),zd n c a b=some r->zn TP 237 [.ptr 0 0] [.box 137 [pK c,pI a,pB b]] 1 (fun v lo=>v=tL c a b r/\lo=tH c a b r))/\(∀ (c:SS) (a:List ql) (b:Int) (t:Bool) (r:qa×Int×Bool),ze n c a b t=some r->zn TP 238 [.ptr 0 0,.p (PV.str c)] [.box 137 [pK a,pI b,pB t]] 1 (fun v lo=>v=tM a b t r/\lo=tI a b t r))/\(∀ (c:SS) (a:List ql) (b:Int) (t:Bool) (r:(List qa)×Int×Bool),zf n c a b t=some r->zn TP 239 [.ptr 0 0,.p (PV.str c)] [.box 137 [pK a,pI b,pB t]] 1 (fun v lo=>v=tN a b t r/\lo=tJ a b t r)):=by
 induction n with
 | zero=>exact⟨(by intros; rename_i h; cases h),(by intros; rename_i h; cases h),(by intros; rename_i h; cases h),(by intros; rename_i h; cases h),(by intros; rename_i h; cases h),(by intros; rename_i h; cases h),(by intros; rename_i h; cases h),(by intros; rename_i h; cases h),(by intros; rename_i h; cases h),(by intros; rename_i h; cases h),(by intros; rename_i h; cases h),(by intros; rename_i h; cases h)⟩
 | succ n ih=>
  obtain⟨d,e,i,j,k,l,m,o,q,s,f,g⟩:=ih;exact⟨Ga n (qK n) (qM n) (zt n) (zp n) (zq n) (zg n) (zr n) (qJ n) (qV n) (zd n) (ze n) (zf n) d e i j k l m o q s f g,Fo n (qK n) (qM n) (zt n) (zp n) (zq n) (zg n) (zr n) (qJ n) (qV n) (zd n) (ze n) (zf n) d e i j k l m o q s f g,CB n (qK n) (qM n) (zt n) (zp n) (zq n) (zg n) (zr n) (qJ n) (qV n) (zd n) (ze n) (zf n) d e i j k l m o q s f g,Cy n (qK n) (qM n) (zt n) (zp n) (zq n) (zg n) (zr n) (qJ n) (qV n) (zd n) (ze n) (zf n) d e i j k l m o q s f g,Cz n (qK n) (qM n) (zt n) (zp n) (zq n) (zg n) (zr n) (qJ n) (qV n) (zd n) (ze n) (zf n) d e i j k l m o q s f g,Ft n (qK n) (qM n) (zt n) (zp n) (zq n) (zg n) (zr n) (qJ n) (qV n) (zd n) (ze n) (zf n) d e i j k l m o q s f g,CA n (qK n) (qM n) (zt n) (zp n) (zq n) (zg n) (zr n) (qJ n) (qV n) (zd n) (ze n) (zf n) d e i j k l m o q s f g,VG n (qK n) (qM n) (zt n) (zp n) (zq n) (zg n) (zr n) (qJ n) (qV n) (zd n) (ze n) (zf n) d e i j k l m o q s f g,UZ n (qK n) (qM n) (zt n) (zp n) (zq n) (zg n) (zr n) (qJ n) (qV n) (zd n) (ze n) (zf n) d e i j k l m o q s f g,Fp n (qK n) (qM n) (zt n) (zp n) (zq n) (zg n) (zr n) (qJ n) (qV n) (zd n) (ze n) (zf n) d e i j k l m o q s f g,Fq n (qK n) (qM n) (zt n) (zp n) (zq n) (zg n) (zr n) (qJ n) (qV n) (zd n) (ze n) (zf n) d e i j k l m o q s f g,Fs n (qK n) (qM n) (zt n) (zp n) (zq n) (zg n) (zr n) (qJ n) (qV n) (zd n) (ze n) (zf n) d e i j k l m o q s f g⟩
theorem po (n:Nat):∀ (a:List ql) (b:Int) (c:Bool) (r:(List SS)×(List qa)×Int×Bool),qK n a b c=some r->zn TP 159 [.ptr 0 0] [.box 137 [pK a,pI b,pB c]] 1 (fun v lo=>v=mq a b c r/\lo=mn a b c r):=(Qf n).1
theorem cB (n:Nat):∀ (a:List ql) (b:Int) (c:Bool) (r:qa×Int×Bool),qM n a b c=some r->zn TP 120 [.ptr 0 0] [.box 137 [pK a,pI b,pB c]] 1 (fun v lo=>v=ny a b c r/\lo=nu a b c r):=(Qf n).2.1
end W
end
section
set_option maxRecDepth 100000
set_option maxHeartbeats 4000000
open Go Go.Proofs Ax
namespace W
abbrev DS (_:List ql) (_:Int) (_:Bool) (r:qd×Int×Bool):FV:=.p ((PV.agg (fr.cells r.1)))
abbrev DG (a:List ql) (_:Int) (_:Bool) (r:qd×Int×Bool):List AObj:=[.box 137 [pK a,.p (.int .i64 r.2.1),.p (.bool r.2.2)]]
def bQ (n:Nat) (a:List ql) (j:SS) (b:List SS):Int×Bool×List SS×List qa->Option (qd×Int×Bool):=fun(c,d,e,f)=>
 bnd (qU n ([41]:SS) a c d) fun⟨g,i⟩=>
 some (qd.mk j b e f,g,i)
def rU (n:Nat) (a:List ql) (f:SS):LK (Int×Bool×List SS) (qd×Int×Bool):=fun g (s,b,c)=>
 bnd (qm n ([58]:SS) a s b) fun⟨i,d⟩=>
 bif i then(
 bnd (gG n a d b) fun⟨e,j,k⟩=>
 chk (decide ((qi (c++[e])).length * 16<=140737488355328)) (
 g (j,k,(c++[e]))))
 else(
 bnd (xR n ([123]:SS) a d b) fun l=>
 bif l then(
 bnd (qK n a d b) fun⟨m,o,p,q⟩=>
 bQ n a f c (p,q,m,o))
 else(
 bQ n a f c (d,b,([]:List _),([]:List _))))
def bg (n:Nat) (a:List ql) (b:Int) (c:Bool):Option (qd×Int×Bool):=
 bnd (qU n ([40]:SS) a b c) fun⟨d,e⟩=>
 bnd (fw n a d e) fun⟨f,g,i⟩=>
 qA (rU n a f) n (g,i,([]:List _))
theorem bR (n:Nat):∀ (b:List ql) (f:Int) (g:Bool) (r:qd×Int×Bool),bg n b f g=some r->zn TP 124 [.ptr 0 0] [.box 137 [pK b,pI f,pB g]] 1 (fun v lo=>v=DS b f g r/\lo=DG b f g r):=by
 intro b f g r h;unfold bg at h;refine zO Tryz.call124 Tryz.func124 [117,121,126,157,158,159,1000000] ?_;conv=>whnf
 refine bq h fun⟨M,N⟩ z h=>?_;refine zU (qH n _ _ _ _ _ z) [0] [] ?_;rintro _ _ ⟨rfl,rfl⟩;refine⟨.p (.tup []),[.box 137 [pK b,pI M,pB N],zq8],rfl,rfl,?_⟩;conv=>whnf
 refine bq h fun⟨c,O,P⟩ A h=>?_;refine zU (dZ n _ _ _ _ A) [0] [] ?_;rintro _ _ ⟨rfl,rfl⟩;refine⟨pS c,[.box 137 [pK b,pI O,pB P],zq8,zq8],rfl,rfl,?_⟩;conv=>whnf
 refine zj.fn [117,121,126,157,158,159,1000000] (S:=Int×Bool×List SS) (fun(o,e,a)=>[(0,.ptr 0 0),(2,.ptr 1 0),(3,.ptr 2 0)]) (fun(o,e,a)=>[.box 137 [pK b,pI o,pB e],zq8,.box 86 [pS c,.tsl 3 (qi a),zq2,zq2],.tail 9 1 (qi a).length]) (B:=rU n b c) h (wk [0,1,2,0] [3]) ?_;intro _ st h;obtain⟨o,e,a⟩:=st;unfold rU at h;conv=>whnf
 refine bq h fun⟨I,k⟩ C h=>?_;refine zU (qe n _ _ _ _ _ C) [0] [] ?_;rintro _ _ ⟨rfl,rfl⟩;refine⟨pB I,[.box 137 [pK b,pI k,pB e],zq8,.box 86 [pS c,.tsl 3 (qi a),zq2,zq2],.tail 9 1 (qi a).length],rfl,rfl,?_⟩;conv=>whnf
 apply ifc h<;>intro H h
 ·conv=>whnf
  refine bq h fun⟨d,s,t⟩ D h=>?_;refine zU (uI n _ _ _ _ D) [0] [] ?_;rintro _ _ ⟨rfl,rfl⟩;refine⟨pS d,[.box 137 [pK b,pI s,pB t],zq8,.box 86 [pS c,.tsl 3 (qi a),zq2,zq2],.tail 9 1 (qi a).length],rfl,rfl,?_⟩;conv=>whnf
  refine⟨Codec.one ca [d],qi [d],.inl rfl,?_⟩;conv=>whnf
  rw[show qi a++qi [d]=qi (a++[d])from Codec.append ca a [d]];conv=>whnf
  obtain⟨q,h⟩:=qg h;refine⟨⟨Codec.wide ca (a++[d]),kod q,zy q (by decide)⟩,?_⟩;conv=>whnf
  refine⟨⟨rfl,rfl,rfl⟩,?_⟩;conv=>whnf
  exact⟨(s,t,(a++[d])),h,wk [0,1,2,4] []⟩
 conv=>whnf
 refine mw.cut (S:=Int×Bool×List SS×List qa) (fun(l,m,i,j)=>[(0,.ptr 0 0),(2,.ptr 1 0),(3,.ptr 2 0)]) (fun(l,m,i,j)=>[.box 137 [pK b,pI l,pB m],zq8,.box 86 [pS c,.tsl 3 (qi a),pT i,pE j],.tail 9 1 (qi a).length]) (bQ n b c a) (r:=r) ?_ ?_
 ·intro st h
  obtain⟨l,m,i,j⟩:=st;unfold bQ at h;conv=>whnf
  refine bq h fun⟨J,K⟩ E h=>?_;refine zU (qH n _ _ _ _ _ E) [0] [] ?_;rintro _ _ ⟨rfl,rfl⟩;refine⟨.p (.tup []),[.box 137 [pK b,pI J,pB K],zq8,.box 86 [pS c,.tsl 3 (qi a),pT i,pE j],.tail 9 1 (qi a).length],rfl,rfl,?_⟩;obtain rfl:=sj h;conv=>whnf
  refine⟨_,_,⟨rfl,rfl⟩,wk [0] []⟩
 conv=>whnf
 refine bq h fun L F h=>?_;refine zU (zV n _ _ _ _ _ F) [0] [] ?_;rintro _ _ ⟨rfl,rfl⟩;refine⟨pB L,[.box 137 [pK b,pI k,pB e],zq8,.box 86 [pS c,.tsl 3 (qi a),zq2,zq2],.tail 9 1 (qi a).length],rfl,rfl,?_⟩;conv=>whnf
 apply ifc h<;>intro H h
 ·conv=>whnf
  refine bq h fun⟨u,w,x,y⟩ G h=>?_;refine zU (po n _ _ _ _ G) [0] [] ?_;rintro _ _ ⟨rfl,rfl⟩;refine⟨.p (.tup [.sl (qi u),.sl (qa.rows w)]),[.box 137 [pK b,pI x,pB y],zq8,.box 86 [pS c,.tsl 3 (qi a),zq2,zq2],.tail 9 1 (qi a).length],rfl,rfl,?_⟩;conv=>whnf
  exact⟨(x,y,u,w),h,wk [0,1,2,3] []⟩
 conv=>whnf
 exact⟨(k,e,([]:List _),([]:List _)),h,wk [0,1,2,3] []⟩
end W
end
section
set_option maxRecDepth 100000
set_option maxHeartbeats 4000000
open Go Go.Proofs Ax
namespace W
abbrev DT (_:List ql) (_:Int) (_:Bool) (r:xN×Int×Bool):FV:=.p ((PV.agg (Vt.cells r.1)))
abbrev DH (a:List ql) (_:Int) (_:Bool) (r:xN×Int×Bool):List AObj:=[.box 137 [pK a,.p (.int .i64 r.2.1),.p (.bool r.2.2)]]
def ft (n:Nat) (o:List ql) (p:Bool) (b:List qf) (c d:SS) (e:List SS) (f:List qa) (a:List qd) (m:Int×Bool×List qd×List qf->Option (xN×Int×Bool)):Int×Int->Option (xN×Int×Bool):=fun(q,g)=>
 bnd (bg n o q p) fun⟨⟨i,j,k,l⟩,s,t⟩=>
 chk (decide ((qf.rows (b++[qf.mk c d g e f])).length * 88<=140737488355328)) (
 chk (decide ((qd.rows (a++[qd.mk i j k l])).length * 88<=140737488355328)) (
 m (s,t,(a++[qd.mk i j k l]),(b++[qf.mk c d g e f]))))
def dE (n:Nat) (a:List ql) (m:Bool) (e:List qf) (d:List qd) (c:Int×Bool×List qd×List qf->Option (xN×Int×Bool)):Int×Bool×SS×SS×List SS×List qa->Option (xN×Int×Bool):=fun(o,p,f,g,i,j)=>
 bnd (qU n ([45]:SS) a o p) fun⟨k,b⟩=>
 bif m then(
 ft n a b e f g i j d c (k,(1:Int)))
 else(
 bnd (qm n ([62]:SS) a k b) fun⟨q,l⟩=>
 bif q then(
 ft n a b e f g i j d c (l,(0:Int)))
 else(
 ft n a b e f g i j d c (l,(2:Int))))
def dG (n:Nat) (a:List ql) (e:Bool) (d:List qf) (c:List qd) (b:Int×Bool×List qd×List qf->Option (xN×Int×Bool)) (f g:SS):Int×Bool×List SS×List qa->Option (xN×Int×Bool):=fun(i,j,k,l)=>
 bnd (qU n ([93]:SS) a i j) fun⟨m,o⟩=>
 dE n a e d c b (m,o,f,g,k,l)
def dF (n:Nat) (a:List ql) (g:Bool) (f:List qf) (e:List qd) (d:Int×Bool×List qd×List qf->Option (xN×Int×Bool)) (i:SS):Int×Bool×SS->Option (xN×Int×Bool):=fun(b,c,j)=>
 bnd (xR n ([123]:SS) a b c) fun k=>
 bif k then(
 bnd (qK n a b c) fun⟨l,m,o,p⟩=>
 dG n a g f e d i j (o,p,l,m))
 else(
 dG n a g f e d i j (b,c,([]:List _),([]:List _)))
def fu (n:Nat) (o:List ql) (p:Bool) (b:List qf) (c d:SS) (e:List SS) (f:List qa) (a:List qd) (m:Int×Bool×List qd×List qf->Option (xN×Int×Bool)):Int×Int->Option (xN×Int×Bool):=fun(q,g)=>
 bnd (bg n o q p) fun⟨⟨i,j,k,l⟩,s,t⟩=>
 chk (decide ((qf.rows (b++[qf.mk c d g e f])).length * 88<=140737488355328)) (
 chk (decide ((qd.rows (a++[qd.mk i j k l])).length * 88<=140737488355328)) (
 m (s,t,(a++[qd.mk i j k l]),(b++[qf.mk c d g e f]))))
def dH (n:Nat) (a:List ql) (m:Bool) (e:List qf) (d:List qd) (c:Int×Bool×List qd×List qf->Option (xN×Int×Bool)):Int×Bool×SS×SS×List SS×List qa->Option (xN×Int×Bool):=fun(o,p,f,g,i,j)=>
 bnd (qU n ([45]:SS) a o p) fun⟨k,b⟩=>
 bif m then(
 fu n a b e f g i j d c (k,(1:Int)))
 else(
 bnd (qm n ([62]:SS) a k b) fun⟨q,l⟩=>
 bif q then(
 fu n a b e f g i j d c (l,(0:Int)))
 else(
 fu n a b e f g i j d c (l,(2:Int))))
def dJ (n:Nat) (a:List ql) (e:Bool) (d:List qf) (c:List qd) (b:Int×Bool×List qd×List qf->Option (xN×Int×Bool)) (f g:SS):Int×Bool×List SS×List qa->Option (xN×Int×Bool):=fun(i,j,k,l)=>
 bnd (qU n ([93]:SS) a i j) fun⟨m,o⟩=>
 dH n a e d c b (m,o,f,g,k,l)
def dI (n:Nat) (a:List ql) (g:Bool) (f:List qf) (e:List qd) (d:Int×Bool×List qd×List qf->Option (xN×Int×Bool)) (i:SS):Int×Bool×SS->Option (xN×Int×Bool):=fun(b,c,j)=>
 bnd (xR n ([123]:SS) a b c) fun o=>
 bif o then(
 bnd (qK n a b c) fun⟨p,k,l,m⟩=>
 dJ n a g f e d i j (l,m,p,k))
 else(
 dJ n a g f e d i j (b,c,([]:List _),([]:List _)))
def rV (n:Nat) (a:List ql):LK (Int×Bool×List qd×List qf) (xN×Int×Bool):=fun e (f,b,c,d)=>
 bnd (xR n ([45]:SS) a f b) fun g=>
 bif(!g)then(
 bnd (xR n ([60]:SS) a f b) fun A=>
 bif(bif g then true else A)then(
 bnd (qm n ([60]:SS) a f b) fun⟨i,B⟩=>
 bnd (qU n ([45]:SS) a B b) fun⟨C,j⟩=>
 bnd (qm n ([91]:SS) a C j) fun⟨D,q⟩=>
 bif D then(
 bnd (fw n a q j) fun⟨s,E,k⟩=>
 bnd (qm n ([58]:SS) a E k) fun⟨F,t⟩=>
 bif F then(
 bnd (gG n a t k) fun⟨G,H,I⟩=>
 dF n a i d c e s (H,I,G))
 else(
 dF n a i d c e s (t,k,([]:SS))))
 else(
 dE n a i d c e (q,j,([]:SS),([]:SS),([]:List _),([]:List _))))
 else(
 some (xN.mk c d,f,b)))
 else(
 bif(bif g then true else false)then(
 bnd (qm n ([60]:SS) a f b) fun⟨l,J⟩=>
 bnd (qU n ([45]:SS) a J b) fun⟨K,m⟩=>
 bnd (qm n ([91]:SS) a K m) fun⟨L,u⟩=>
 bif L then(
 bnd (fw n a u m) fun⟨v,M,o⟩=>
 bnd (qm n ([58]:SS) a M o) fun⟨w,p⟩=>
 bif w then(
 bnd (gG n a p o) fun⟨x,y,z⟩=>
 dI n a l d c e v (y,z,x))
 else(
 dI n a l d c e v (p,o,([]:SS))))
 else(
 dH n a l d c e (u,m,([]:SS),([]:SS),([]:List _),([]:List _))))
 else(
 some (xN.mk c d,f,b)))
def Xj (n:Nat) (a:List ql) (f:Int) (g:Bool):Option (xN×Int×Bool):=
 bnd (bg n a f g) fun⟨⟨b,c,d,e⟩,i,j⟩=>
 chk (decide ((qd.rows [qd.mk b c d e]).length * 88<=140737488355328)) (
 qA (rV n a) n (i,j,[qd.mk b c d e],([]:List _)))
theorem CR (n:Nat):∀ (c:List ql) (L:Int) (M:Bool) (r:xN×Int×Bool),Xj n c L M=some r->zn TP 154 [.ptr 0 0] [.box 137 [pK c,pI L,pB M]] 1 (fun v lo=>v=DT c L M r/\lo=DH c L M r):=by
 intro c L M r h;unfold Xj at h;refine zO Tryz.call154 Tryz.func154 [117,121,124,126,157,158,159,1000000] ?_;conv=>whnf
 refine bq h fun⟨⟨X,Y,Z,a0⟩,k1,k5⟩ f2 h=>?_;refine zU (bR n _ _ _ _ f2) [0] [] ?_;rintro _ _ ⟨rfl,rfl⟩;refine⟨.p (.agg [.str X,.sl (qi Y),.sl (qi Z),.sl (qa.rows a0)]),[.box 137 [pK c,pI k1,pB k5],zq7,zq7],rfl,rfl,?_⟩;conv=>whnf
 refine⟨Codec.one fr [qd.mk X Y Z a0],qd.rows [qd.mk X Y Z a0],.inl rfl,?_⟩;conv=>whnf
 obtain⟨c1,h⟩:=qg h;refine⟨⟨Codec.wide fr [qd.mk X Y Z a0],kod c1,zy c1 (by decide)⟩,?_⟩;conv=>whnf
 refine zj.fn [117,121,124,126,157,158,159,1000000] (S:=Int×Bool×List qd×List qf) (fun(K,H,a,b)=>[(0,.ptr 0 0),(2,.ptr 1 0),(3,.ptr 2 0)]) (fun(K,H,a,b)=>[.box 137 [pK c,pI K,pB H],zq7,.box 84 [.tsl 3 (qd.rows a),.tsl 4 (qf.rows b)],.tail 86 4 (qd.rows a).length,.tail 88 5 (qf.rows b).length]) (B:=rV n c) h (wk [0,1,2,4,0] [4]) ?_;intro x st h;obtain⟨K,H,a,b⟩:=st;unfold rV at h;conv=>whnf
 refine bq h fun j0 g3 h=>?_;refine zU (zV n _ _ _ _ _ g3) [0] [] ?_;rintro _ _ ⟨rfl,rfl⟩;refine⟨pB j0,[.box 137 [pK c,pI K,pB H],zq7,.box 84 [.tsl 3 (qd.rows a),.tsl 4 (qf.rows b)],.tail 86 4 (qd.rows a).length,.tail 88 5 (qf.rows b).length],rfl,rfl,?_⟩;conv=>whnf
 refine⟨fun a2=>?_,fun a2=>?_⟩
 ·replace h:=mC h a2
  conv=>whnf
  refine⟨id,?_⟩;conv=>whnf
  refine bq h fun j1 i2 h=>?_;refine zU (zV n _ _ _ _ _ i2) [0] [] ?_;rintro _ _ ⟨rfl,rfl⟩;refine⟨pB j1,[.box 137 [pK c,pI K,pB H],zq7,.box 84 [.tsl 3 (qd.rows a),.tsl 4 (qf.rows b)],.tail 86 4 (qd.rows a).length,.tail 88 5 (qf.rows b).length],rfl,rfl,?_⟩;conv=>whnf
  refine⟨id,?_⟩;conv=>whnf
  apply ifc h<;>intro m h
  ·conv=>whnf
   refine bq h fun⟨I,j2⟩ i5 h=>?_;refine zU (qe n _ _ _ _ _ i5) [0] [] ?_;rintro _ _ ⟨rfl,rfl⟩;refine⟨pB I,[.box 137 [pK c,pI j2,pB H],zq7,.box 84 [.tsl 3 (qd.rows a),.tsl 4 (qf.rows b)],.tail 86 4 (qd.rows a).length,.tail 88 5 (qf.rows b).length,zq9],rfl,rfl,?_⟩;conv=>whnf
   refine bq h fun⟨j3,a3⟩ i6 h=>?_;refine zU (qH n _ _ _ _ _ i6) [0] [] ?_;rintro _ _ ⟨rfl,rfl⟩;refine⟨.p (.tup []),[.box 137 [pK c,pI j3,pB a3],zq7,.box 84 [.tsl 3 (qd.rows a),.tsl 4 (qf.rows b)],.tail 86 4 (qd.rows a).length,.tail 88 5 (qf.rows b).length,zq9],rfl,rfl,?_⟩;conv=>whnf
   refine mw.cut (S:=Int×Bool×SS×SS×List SS×List qa) (fun(a4,a5,d,e,f,g)=>[(0,.ptr 0 0),(2,.ptr 1 0),(3,.ptr 2 0),(5,.ptr 3 0),(6,pB I)]) (fun(a4,a5,d,e,f,g)=>[.box 137 [pK c,pI a4,pB a5],zq7,.box 84 [.tsl 4 (qd.rows a),.tsl 5 (qf.rows b)],.box 88 [pS d,pS e,zq0,pT f,pE g],.tail 86 4 (qd.rows a).length,.tail 88 5 (qf.rows b).length]) (dE n c I b a x) (r:=r) ?_ ?_
   ·intro st h
    obtain⟨a4,a5,d,e,f,g⟩:=st;unfold dE at h;(conv=>whnf);refine bq h fun⟨d1,W⟩ i7 h=>?_;refine zU (qH n _ _ _ _ _ i7) [0] [] ?_;rintro _ _ ⟨rfl,rfl⟩;refine⟨.p (.tup []),[.box 137 [pK c,pI d1,pB W],zq7,.box 84 [.tsl 4 (qd.rows a),.tsl 5 (qf.rows b)],.box 88 [pS d,pS e,zq0,pT f,pE g],.tail 86 4 (qd.rows a).length,.tail 88 5 (qf.rows b).length],rfl,rfl,?_⟩;(conv=>whnf);refine mw.cut (S:=Int×Int) (fun(a6,o)=>[(0,.ptr 0 0),(2,.ptr 1 0),(3,.ptr 2 0),(5,.ptr 3 0)]) (fun(a6,o)=>[.box 137 [pK c,pI a6,pB W],zq7,.box 84 [.tsl 4 (qd.rows a),.tsl 5 (qf.rows b)],.box 88 [pS d,pS e,pI o,pT f,pE g],.tail 86 4 (qd.rows a).length,.tail 88 5 (qf.rows b).length]) (ft n c W b d e f g a x) (r:=r) ?_ ?_
    ·intro st h
     obtain⟨a6,o⟩:=st;unfold ft at h;(conv=>whnf);refine bq h fun⟨⟨y,z,A,C⟩,d2,d3⟩ i8 h=>?_;refine zU (bR n _ _ _ _ i8) [0] [] ?_;rintro _ _ ⟨rfl,rfl⟩;refine⟨.p (.agg [.str y,.sl (qi z),.sl (qi A),.sl (qa.rows C)]),[.box 137 [pK c,pI d2,pB d3],zq7,.box 84 [.tsl 4 (qd.rows a),.tsl 5 (qf.rows b)],.box 88 [pS d,pS e,pI o,pT f,pE g],.tail 86 4 (qd.rows a).length,.tail 88 5 (qf.rows b).length],rfl,rfl,?_⟩;(conv=>whnf);refine⟨Codec.one nB [qf.mk d e o f g],qf.rows [qf.mk d e o f g],.inl rfl,?_⟩;(conv=>whnf);rw[show qf.rows b++qf.rows [qf.mk d e o f g]=qf.rows (b++[qf.mk d e o f g])from Codec.append nB b [qf.mk d e o f g]];(conv=>whnf);obtain⟨c3,h⟩:=qg h;refine⟨⟨Codec.wide nB (b++[qf.mk d e o f g]),kod c3,zy c3 (by decide)⟩,?_⟩;(conv=>whnf);refine⟨⟨rfl,rfl,rfl⟩,?_⟩;(conv=>whnf);refine⟨Codec.one fr [qd.mk y z A C],qd.rows [qd.mk y z A C],.inl rfl,?_⟩;(conv=>whnf);rw[show qd.rows a++qd.rows [qd.mk y z A C]=qd.rows (a++[qd.mk y z A C])from Codec.append fr a [qd.mk y z A C]];(conv=>whnf);obtain⟨c2,h⟩:=qg h;refine⟨⟨Codec.wide fr (a++[qd.mk y z A C]),kod c2,zy c2 (by decide)⟩,?_⟩;(conv=>whnf);refine⟨⟨rfl,rfl,rfl⟩,?_⟩;(conv=>whnf);exact⟨(d2,d3,(a++[qd.mk y z A C]),(b++[qf.mk d e o f g])),h,wk [0,1,2,8,7] []⟩
    (conv=>whnf);apply ifc h<;>intro m h
    ·conv=>whnf
     exact⟨(d1,(1:Int)),h,wk [0,1,2,3,4,5] []⟩
    (conv=>whnf);refine bq h fun⟨j4,a7⟩ f3 h=>?_
    refine zU (qe n _ _ _ _ _ f3) [0] [] ?_;rintro _ _ ⟨rfl,rfl⟩;refine⟨pB j4,[.box 137 [pK c,pI a7,pB W],zq7,.box 84 [.tsl 4 (qd.rows a),.tsl 5 (qf.rows b)],.box 88 [pS d,pS e,.p (.int .i64 (2:Int)),pT f,pE g],.tail 86 4 (qd.rows a).length,.tail 88 5 (qf.rows b).length],rfl,rfl,?_⟩;(conv=>whnf);apply ifc h<;>intro m h
    ·conv=>whnf
     exact⟨(a7,(0:Int)),h,wk [0,1,2,3,4,5] []⟩
    (conv=>whnf);exact⟨(a7,(2:Int)),h,wk [0,1,2,3,4,5] []⟩
   conv=>whnf
   refine bq h fun⟨j5,d4⟩ f4 h=>?_;refine zU (qe n _ _ _ _ _ f4) [0] [] ?_;rintro _ _ ⟨rfl,rfl⟩;refine⟨pB j5,[.box 137 [pK c,pI d4,pB a3],zq7,.box 84 [.tsl 3 (qd.rows a),.tsl 4 (qf.rows b)],.tail 86 4 (qd.rows a).length,.tail 88 5 (qf.rows b).length,zq9],rfl,rfl,?_⟩;conv=>whnf
   apply ifc h<;>intro m h
   ·conv=>whnf
    refine bq h fun⟨q,j6,a8⟩ f5 h=>?_;refine zU (dZ n _ _ _ _ f5) [0] [] ?_;rintro _ _ ⟨rfl,rfl⟩;refine⟨pS q,[.box 137 [pK c,pI j6,pB a8],zq7,.box 84 [.tsl 3 (qd.rows a),.tsl 4 (qf.rows b)],.tail 86 4 (qd.rows a).length,.tail 88 5 (qf.rows b).length,zq9],rfl,rfl,?_⟩;(conv=>whnf);refine mw.cut (S:=Int×Bool×SS) (fun(N,O,u)=>[(0,.ptr 0 0),(2,.ptr 1 0),(3,.ptr 2 0),(5,.ptr 3 0),(6,pB I)]) (fun(N,O,u)=>[.box 137 [pK c,pI N,pB O],zq7,.box 84 [.tsl 4 (qd.rows a),.tsl 5 (qf.rows b)],.box 88 [pS q,pS u,zq0,zq2,zq2],.tail 86 4 (qd.rows a).length,.tail 88 5 (qf.rows b).length]) (dF n c I b a x q) (r:=r) ?_ ?_
    ·intro st h
     obtain⟨N,O,u⟩:=st;unfold dF at h;(conv=>whnf);refine mw.cut (S:=Int×Bool×List SS×List qa) (fun(a9,b0,P,Q)=>[(0,.ptr 0 0),(2,.ptr 1 0),(3,.ptr 2 0),(5,.ptr 3 0),(6,pB I)]) (fun(a9,b0,P,Q)=>[.box 137 [pK c,pI a9,pB b0],zq7,.box 84 [.tsl 4 (qd.rows a),.tsl 5 (qf.rows b)],.box 88 [pS q,pS u,zq0,pT P,pE Q],.tail 86 4 (qd.rows a).length,.tail 88 5 (qf.rows b).length]) (dG n c I b a x q u) (r:=r) ?_ ?_
     ·intro st h
      obtain⟨a9,b0,P,Q⟩:=st;unfold dG at h;(conv=>whnf);refine bq h fun⟨d5,d6⟩ f6 h=>?_;refine zU (qH n _ _ _ _ _ f6) [0] [] ?_;rintro _ _ ⟨rfl,rfl⟩;refine⟨.p (.tup []),[.box 137 [pK c,pI d5,pB d6],zq7,.box 84 [.tsl 4 (qd.rows a),.tsl 5 (qf.rows b)],.box 88 [pS q,pS u,zq0,pT P,pE Q],.tail 86 4 (qd.rows a).length,.tail 88 5 (qf.rows b).length],rfl,rfl,?_⟩;(conv=>whnf);exact⟨(d5,d6,q,u,P,Q),h,wk [0,1,2,3,4,5] []⟩
     (conv=>whnf);refine bq h fun j7 f7 h=>?_
     refine zU (zV n _ _ _ _ _ f7) [0] [] ?_;rintro _ _ ⟨rfl,rfl⟩;refine⟨pB j7,[.box 137 [pK c,pI N,pB O],zq7,.box 84 [.tsl 4 (qd.rows a),.tsl 5 (qf.rows b)],.box 88 [pS q,pS u,zq0,zq2,zq2],.tail 86 4 (qd.rows a).length,.tail 88 5 (qf.rows b).length],rfl,rfl,?_⟩;(conv=>whnf);apply ifc h<;>intro m h
     ·conv=>whnf
      refine bq h fun⟨d7,d8,d9,e0⟩ f8 h=>?_;refine zU (po n _ _ _ _ f8) [0] [] ?_;rintro _ _ ⟨rfl,rfl⟩;refine⟨.p (.tup [.sl (qi d7),.sl (qa.rows d8)]),[.box 137 [pK c,pI d9,pB e0],zq7,.box 84 [.tsl 4 (qd.rows a),.tsl 5 (qf.rows b)],.box 88 [pS q,pS u,zq0,zq2,zq2],.tail 86 4 (qd.rows a).length,.tail 88 5 (qf.rows b).length],rfl,rfl,?_⟩;(conv=>whnf);exact⟨(d9,e0,d7,d8),h,wk [0,1,2,3,4,5] []⟩
     (conv=>whnf);exact⟨(N,O,([]:List _),([]:List _)),h,wk [0,1,2,3,4,5] []⟩
    (conv=>whnf);refine bq h fun⟨j8,e1⟩ f9 h=>?_
    refine zU (qe n _ _ _ _ _ f9) [0] [] ?_;rintro _ _ ⟨rfl,rfl⟩;refine⟨pB j8,[.box 137 [pK c,pI e1,pB a8],zq7,.box 84 [.tsl 3 (qd.rows a),.tsl 4 (qf.rows b)],.tail 86 4 (qd.rows a).length,.tail 88 5 (qf.rows b).length,.box 88 [pS q,zq1,zq0,zq2,zq2]],rfl,rfl,?_⟩;(conv=>whnf);apply ifc h<;>intro m h
    ·conv=>whnf
     refine bq h fun⟨e2,e3,e4⟩ g0 h=>?_;refine zU (uI n _ _ _ _ g0) [0] [] ?_;rintro _ _ ⟨rfl,rfl⟩;refine⟨pS e2,[.box 137 [pK c,pI e3,pB e4],zq7,.box 84 [.tsl 3 (qd.rows a),.tsl 4 (qf.rows b)],.tail 86 4 (qd.rows a).length,.tail 88 5 (qf.rows b).length,.box 88 [pS q,zq1,zq0,zq2,zq2]],rfl,rfl,?_⟩;(conv=>whnf);exact⟨(e3,e4,e2),h,wk [0,1,2,5,3,4] []⟩
    (conv=>whnf);exact⟨(e1,a8,([]:SS)),h,wk [0,1,2,5,3,4] []⟩
   conv=>whnf
   exact⟨(d4,a3,([]:SS),([]:SS),([]:List _),([]:List _)),h,wk [0,1,2,5,3,4] []⟩
  obtain rfl:=sj h;conv=>whnf
  refine⟨_,_,⟨rfl,rfl⟩,wk [0] []⟩
 replace h:=gf h a2;refine⟨pB false,?_⟩;conv=>whnf
 refine⟨id,?_⟩;conv=>whnf
 apply ifc h<;>intro m h
 ·conv=>whnf
  refine bq h fun⟨J,j9⟩ g1 h=>?_;refine zU (qe n _ _ _ _ _ g1) [0] [] ?_;rintro _ _ ⟨rfl,rfl⟩;refine⟨pB J,[.box 137 [pK c,pI j9,pB H],zq7,.box 84 [.tsl 3 (qd.rows a),.tsl 4 (qf.rows b)],.tail 86 4 (qd.rows a).length,.tail 88 5 (qf.rows b).length,zq9],rfl,rfl,?_⟩;conv=>whnf
  refine bq h fun⟨k0,b1⟩ g2 h=>?_;refine zU (qH n _ _ _ _ _ g2) [0] [] ?_;rintro _ _ ⟨rfl,rfl⟩;refine⟨.p (.tup []),[.box 137 [pK c,pI k0,pB b1],zq7,.box 84 [.tsl 3 (qd.rows a),.tsl 4 (qf.rows b)],.tail 86 4 (qd.rows a).length,.tail 88 5 (qf.rows b).length,zq9],rfl,rfl,?_⟩;conv=>whnf
  refine mw.cut (S:=Int×Bool×SS×SS×List SS×List qa) (fun(b2,b3,i,j,k,l)=>[(0,.ptr 0 0),(2,.ptr 1 0),(3,.ptr 2 0),(5,.ptr 3 0),(6,pB J)]) (fun(b2,b3,i,j,k,l)=>[.box 137 [pK c,pI b2,pB b3],zq7,.box 84 [.tsl 4 (qd.rows a),.tsl 5 (qf.rows b)],.box 88 [pS i,pS j,zq0,pT k,pE l],.tail 86 4 (qd.rows a).length,.tail 88 5 (qf.rows b).length]) (dH n c J b a x) (r:=r) ?_ ?_
  ·intro st h
   obtain⟨b2,b3,i,j,k,l⟩:=st;unfold dH at h;conv=>whnf
   refine bq h fun⟨e5,a1⟩ g4 h=>?_;refine zU (qH n _ _ _ _ _ g4) [0] [] ?_;rintro _ _ ⟨rfl,rfl⟩;refine⟨.p (.tup []),[.box 137 [pK c,pI e5,pB a1],zq7,.box 84 [.tsl 4 (qd.rows a),.tsl 5 (qf.rows b)],.box 88 [pS i,pS j,zq0,pT k,pE l],.tail 86 4 (qd.rows a).length,.tail 88 5 (qf.rows b).length],rfl,rfl,?_⟩;conv=>whnf
   refine mw.cut (S:=Int×Int) (fun(b4,s)=>[(0,.ptr 0 0),(2,.ptr 1 0),(3,.ptr 2 0),(5,.ptr 3 0)]) (fun(b4,s)=>[.box 137 [pK c,pI b4,pB a1],zq7,.box 84 [.tsl 4 (qd.rows a),.tsl 5 (qf.rows b)],.box 88 [pS i,pS j,pI s,pT k,pE l],.tail 86 4 (qd.rows a).length,.tail 88 5 (qf.rows b).length]) (fu n c a1 b i j k l a x) (r:=r) ?_ ?_
   ·intro st h
    obtain⟨b4,s⟩:=st;unfold fu at h;(conv=>whnf);refine bq h fun⟨⟨D,E,F,G⟩,e6,e7⟩ g5 h=>?_;refine zU (bR n _ _ _ _ g5) [0] [] ?_;rintro _ _ ⟨rfl,rfl⟩;refine⟨.p (.agg [.str D,.sl (qi E),.sl (qi F),.sl (qa.rows G)]),[.box 137 [pK c,pI e6,pB e7],zq7,.box 84 [.tsl 4 (qd.rows a),.tsl 5 (qf.rows b)],.box 88 [pS i,pS j,pI s,pT k,pE l],.tail 86 4 (qd.rows a).length,.tail 88 5 (qf.rows b).length],rfl,rfl,?_⟩;(conv=>whnf);refine⟨Codec.one nB [qf.mk i j s k l],qf.rows [qf.mk i j s k l],.inl rfl,?_⟩;(conv=>whnf);rw[show qf.rows b++qf.rows [qf.mk i j s k l]=qf.rows (b++[qf.mk i j s k l])from Codec.append nB b [qf.mk i j s k l]];(conv=>whnf);obtain⟨c0,h⟩:=qg h;refine⟨⟨Codec.wide nB (b++[qf.mk i j s k l]),kod c0,zy c0 (by decide)⟩,?_⟩;(conv=>whnf);refine⟨⟨rfl,rfl,rfl⟩,?_⟩;(conv=>whnf);refine⟨Codec.one fr [qd.mk D E F G],qd.rows [qd.mk D E F G],.inl rfl,?_⟩;(conv=>whnf);rw[show qd.rows a++qd.rows [qd.mk D E F G]=qd.rows (a++[qd.mk D E F G])from Codec.append fr a [qd.mk D E F G]];(conv=>whnf);obtain⟨b9,h⟩:=qg h;refine⟨⟨Codec.wide fr (a++[qd.mk D E F G]),kod b9,zy b9 (by decide)⟩,?_⟩;(conv=>whnf);refine⟨⟨rfl,rfl,rfl⟩,?_⟩;(conv=>whnf);exact⟨(e6,e7,(a++[qd.mk D E F G]),(b++[qf.mk i j s k l])),h,wk [0,1,2,8,7] []⟩
   conv=>whnf
   apply ifc h<;>intro m h
   ·conv=>whnf
    exact⟨(e5,(1:Int)),h,wk [0,1,2,3,4,5] []⟩
   conv=>whnf
   refine bq h fun⟨k2,b5⟩ g6 h=>?_;refine zU (qe n _ _ _ _ _ g6) [0] [] ?_;rintro _ _ ⟨rfl,rfl⟩;refine⟨pB k2,[.box 137 [pK c,pI b5,pB a1],zq7,.box 84 [.tsl 4 (qd.rows a),.tsl 5 (qf.rows b)],.box 88 [pS i,pS j,.p (.int .i64 (2:Int)),pT k,pE l],.tail 86 4 (qd.rows a).length,.tail 88 5 (qf.rows b).length],rfl,rfl,?_⟩;conv=>whnf
   apply ifc h<;>intro m h
   ·conv=>whnf
    exact⟨(b5,(0:Int)),h,wk [0,1,2,3,4,5] []⟩
   conv=>whnf
   exact⟨(b5,(2:Int)),h,wk [0,1,2,3,4,5] []⟩
  conv=>whnf
  refine bq h fun⟨k3,e8⟩ g7 h=>?_;refine zU (qe n _ _ _ _ _ g7) [0] [] ?_;rintro _ _ ⟨rfl,rfl⟩;refine⟨pB k3,[.box 137 [pK c,pI e8,pB b1],zq7,.box 84 [.tsl 3 (qd.rows a),.tsl 4 (qf.rows b)],.tail 86 4 (qd.rows a).length,.tail 88 5 (qf.rows b).length,zq9],rfl,rfl,?_⟩;conv=>whnf
  apply ifc h<;>intro m h
  ·conv=>whnf
   refine bq h fun⟨t,k4,b6⟩ g8 h=>?_;refine zU (dZ n _ _ _ _ g8) [0] [] ?_;rintro _ _ ⟨rfl,rfl⟩;refine⟨pS t,[.box 137 [pK c,pI k4,pB b6],zq7,.box 84 [.tsl 3 (qd.rows a),.tsl 4 (qf.rows b)],.tail 86 4 (qd.rows a).length,.tail 88 5 (qf.rows b).length,zq9],rfl,rfl,?_⟩;conv=>whnf
   refine mw.cut (S:=Int×Bool×SS) (fun(R,T,w)=>[(0,.ptr 0 0),(2,.ptr 1 0),(3,.ptr 2 0),(5,.ptr 3 0),(6,pB J)]) (fun(R,T,w)=>[.box 137 [pK c,pI R,pB T],zq7,.box 84 [.tsl 4 (qd.rows a),.tsl 5 (qf.rows b)],.box 88 [pS t,pS w,zq0,zq2,zq2],.tail 86 4 (qd.rows a).length,.tail 88 5 (qf.rows b).length]) (dI n c J b a x t) (r:=r) ?_ ?_
   ·intro st h
    obtain⟨R,T,w⟩:=st;unfold dI at h;(conv=>whnf);refine mw.cut (S:=Int×Bool×List SS×List qa) (fun(b7,b8,U,V)=>[(0,.ptr 0 0),(2,.ptr 1 0),(3,.ptr 2 0),(5,.ptr 3 0),(6,pB J)]) (fun(b7,b8,U,V)=>[.box 137 [pK c,pI b7,pB b8],zq7,.box 84 [.tsl 4 (qd.rows a),.tsl 5 (qf.rows b)],.box 88 [pS t,pS w,zq0,pT U,pE V],.tail 86 4 (qd.rows a).length,.tail 88 5 (qf.rows b).length]) (dJ n c J b a x t w) (r:=r) ?_ ?_
    ·intro st h
     obtain⟨b7,b8,U,V⟩:=st;unfold dJ at h;(conv=>whnf);refine bq h fun⟨e9,f0⟩ g9 h=>?_;refine zU (qH n _ _ _ _ _ g9) [0] [] ?_;rintro _ _ ⟨rfl,rfl⟩;refine⟨.p (.tup []),[.box 137 [pK c,pI e9,pB f0],zq7,.box 84 [.tsl 4 (qd.rows a),.tsl 5 (qf.rows b)],.box 88 [pS t,pS w,zq0,pT U,pE V],.tail 86 4 (qd.rows a).length,.tail 88 5 (qf.rows b).length],rfl,rfl,?_⟩;(conv=>whnf);exact⟨(e9,f0,t,w,U,V),h,wk [0,1,2,3,4,5] []⟩
    (conv=>whnf);refine bq h fun k6 i0 h=>?_
    refine zU (zV n _ _ _ _ _ i0) [0] [] ?_;rintro _ _ ⟨rfl,rfl⟩;refine⟨pB k6,[.box 137 [pK c,pI R,pB T],zq7,.box 84 [.tsl 4 (qd.rows a),.tsl 5 (qf.rows b)],.box 88 [pS t,pS w,zq0,zq2,zq2],.tail 86 4 (qd.rows a).length,.tail 88 5 (qf.rows b).length],rfl,rfl,?_⟩;(conv=>whnf);apply ifc h<;>intro m h
    ·conv=>whnf
     refine bq h fun⟨f1,c4,c5,c6⟩ i1 h=>?_;refine zU (po n _ _ _ _ i1) [0] [] ?_;rintro _ _ ⟨rfl,rfl⟩;refine⟨.p (.tup [.sl (qi f1),.sl (qa.rows c4)]),[.box 137 [pK c,pI c5,pB c6],zq7,.box 84 [.tsl 4 (qd.rows a),.tsl 5 (qf.rows b)],.box 88 [pS t,pS w,zq0,zq2,zq2],.tail 86 4 (qd.rows a).length,.tail 88 5 (qf.rows b).length],rfl,rfl,?_⟩;(conv=>whnf);exact⟨(c5,c6,f1,c4),h,wk [0,1,2,3,4,5] []⟩
    (conv=>whnf);exact⟨(R,T,([]:List _),([]:List _)),h,wk [0,1,2,3,4,5] []⟩
   conv=>whnf
   refine bq h fun⟨i9,c7⟩ i3 h=>?_;refine zU (qe n _ _ _ _ _ i3) [0] [] ?_;rintro _ _ ⟨rfl,rfl⟩;refine⟨pB i9,[.box 137 [pK c,pI c7,pB b6],zq7,.box 84 [.tsl 3 (qd.rows a),.tsl 4 (qf.rows b)],.tail 86 4 (qd.rows a).length,.tail 88 5 (qf.rows b).length,.box 88 [pS t,zq1,zq0,zq2,zq2]],rfl,rfl,?_⟩;conv=>whnf
   apply ifc h<;>intro m h
   ·conv=>whnf
    refine bq h fun⟨c8,c9,d0⟩ i4 h=>?_;refine zU (uI n _ _ _ _ i4) [0] [] ?_;rintro _ _ ⟨rfl,rfl⟩;refine⟨pS c8,[.box 137 [pK c,pI c9,pB d0],zq7,.box 84 [.tsl 3 (qd.rows a),.tsl 4 (qf.rows b)],.tail 86 4 (qd.rows a).length,.tail 88 5 (qf.rows b).length,.box 88 [pS t,zq1,zq0,zq2,zq2]],rfl,rfl,?_⟩;(conv=>whnf);exact⟨(c9,d0,c8),h,wk [0,1,2,5,3,4] []⟩
   conv=>whnf
   exact⟨(c7,b6,([]:SS)),h,wk [0,1,2,5,3,4] []⟩
  conv=>whnf
  exact⟨(e8,b1,([]:SS),([]:SS),([]:List _),([]:List _)),h,wk [0,1,2,5,3,4] []⟩
 obtain rfl:=sj h;conv=>whnf
 refine⟨_,_,⟨rfl,rfl⟩,wk [0] []⟩
end W
end
section
set_option maxRecDepth 100000
set_option maxHeartbeats 4000000
open Go Go.Proofs Ax
namespace W
abbrev Bf (_:List ql) (_:Int) (_:Bool) (r:(List xN)×Int×Bool):FV:=.p (.sl (xN.rows r.1))
abbrev Bc (a:List ql) (_:Int) (_:Bool) (r:(List xN)×Int×Bool):List AObj:=[.box 137 [pK a,.p (.int .i64 r.2.1),.p (.bool r.2.2)]]
def pk (n:Nat) (e:List ql):LK (List xN×Int×Bool) ((List xN)×Int×Bool):=fun g (b,j,k)=>
 bnd (Xj n e j k) fun⟨⟨c,d⟩,l,a⟩=>
 chk (decide ((xN.rows (b++[xN.mk c d])).length * 48<=140737488355328)) (
 bnd (qm n ([44]:SS) e l a) fun⟨i,f⟩=>
 bif(!i)then(
 some ((b++[xN.mk c d]),f,a))
 else(
 g ((b++[xN.mk c d]),f,a)))
def pL (n:Nat) (a:List ql) (b:Int) (c:Bool):Option ((List xN)×Int×Bool):=
 qA (pk n a) n (([]:List _),b,c)
theorem ZB (n:Nat):∀ (d:List ql) (e:Int) (f:Bool) (r:(List xN)×Int×Bool),pL n d e f=some r->zn TP 118 [.ptr 0 0] [.box 137 [pK d,pI e,pB f]] 1 (fun v lo=>v=Bf d e f r/\lo=Bc d e f r):=by
 intro d e f r h;unfold pL at h;refine zO Tryz.call118 Tryz.func118 [117,154,1000000] ?_;conv=>whnf
 refine zj.fn [117,154,1000000] (S:=List xN×Int×Bool) (fun(a,i,j)=>[(0,.ptr 0 0),(3,.tsl 1 (xN.rows a))]) (fun(a,i,j)=>[.box 137 [pK d,pI i,pB j],.tail 84 2 (xN.rows a).length]) (B:=pk n d) h (wk [0,0] [1]) ?_;intro _ st h;obtain⟨a,i,j⟩:=st;unfold pk at h;conv=>whnf
 refine bq h fun⟨⟨b,c⟩,s,g⟩ m h=>?_;refine zU (CR n _ _ _ _ m) [0] [] ?_;rintro _ _ ⟨rfl,rfl⟩;refine⟨.p (.agg [.sl (qd.rows b),.sl (qf.rows c)]),[.box 137 [pK d,pI s,pB g],.tail 84 2 (xN.rows a).length],rfl,rfl,?_⟩;conv=>whnf
 refine⟨Codec.one Vt [xN.mk b c],xN.rows [xN.mk b c],.inl rfl,?_⟩;conv=>whnf
 rw[show xN.rows a++xN.rows [xN.mk b c]=xN.rows (a++[xN.mk b c])from Codec.append Vt a [xN.mk b c]];conv=>whnf
 obtain⟨k,h⟩:=qg h;refine⟨⟨Codec.wide Vt (a++[xN.mk b c]),kod k,zy k (by decide)⟩,?_⟩;conv=>whnf
 refine⟨⟨rfl,rfl,rfl⟩,?_⟩;conv=>whnf
 refine bq h fun⟨q,l⟩ o h=>?_;refine zU (qe n _ _ _ _ _ o) [0] [] ?_;rintro _ _ ⟨rfl,rfl⟩;refine⟨pB q,[.box 137 [pK d,pI l,pB g],.dead,.box 84 [pN b,pG c],.tail 84 2 (xN.rows (a++[xN.mk b c])).length],rfl,rfl,?_⟩;conv=>whnf
 apply ifc h<;>intro _ h
 ·obtain rfl:=sj h
  conv=>whnf
  refine⟨_,_,⟨rfl,rfl⟩,wk [0] []⟩
 conv=>whnf
 exact⟨((a++[xN.mk b c]),l,g),h,wk [0,3] []⟩
abbrev FQ (_:List ql) (_:Int) (_:Bool) (r:(List qa)×Int×Bool):FV:=.p (.sl (qa.rows r.1))
abbrev FF (a:List ql) (_:Int) (_:Bool) (r:(List qa)×Int×Bool):List AObj:=[.box 137 [pK a,.p (.int .i64 r.2.1),.p (.bool r.2.2)]]
def fL (n:Nat) (d:SS) (b:List ql) (p:Int) (a:Bool):Option ((List qa)×Int×Bool):=
 bnd (qm n d b p a) fun⟨q,c⟩=>
 bif(!q)then(
 some (([]:List qa),c,a))
 else(
 bnd (qM n b c a) fun⟨⟨s,t,⟨u,e,f,g,i,j⟩,k,l⟩,m,o⟩=>
 some ([qa.mk s t (Val.mk u e f g i j) k l],m,o))
theorem cW (n:Nat):∀ (d:SS) (a:List ql) (c:Int) (b:Bool) (r:(List qa)×Int×Bool),fL n d a c b=some r->zn TP 119 [.ptr 0 0,.p (PV.str d)] [.box 137 [pK a,pI c,pB b]] 1 (fun v lo=>v=FQ a c b r/\lo=FF a c b r):=by
 intro d a c b r h;unfold fL at h;refine zO Tryz.call119 Tryz.func119 [117,120,1000000] ?_;conv=>whnf
 refine bq h fun⟨x,y⟩ s h=>?_;refine zU (qe n _ _ _ _ _ s) [0] [] ?_;rintro _ _ ⟨rfl,rfl⟩;refine⟨pB x,[.box 137 [pK a,pI y,pB b]],rfl,rfl,?_⟩;conv=>whnf
 apply ifc h<;>intro _ h
 ·obtain rfl:=sj h
  conv=>whnf
  refine⟨_,_,⟨rfl,rfl⟩,wk [0] []⟩
 conv=>whnf
 refine bq h fun⟨⟨m,o,⟨q,e,f,g,i,j⟩,k,l⟩,u,w⟩ t h=>?_;refine zU (cB n _ _ _ _ t) [0] [] ?_;rintro _ _ ⟨rfl,rfl⟩;refine⟨.p (.agg [.int .i64 m,.str o,.int .i64 q,.bool e,.int .i64 f,.str g,.sl (Val.rows i),.sl (qi j),.sl (qi k),.sl (qa.rows l)]),[.box 137 [pK a,pI u,pB w]],rfl,rfl,?_⟩;conv=>whnf
 refine⟨Codec.one zx [qa.mk m o (Val.mk q e f g i j) k l],qa.rows [qa.mk m o (Val.mk q e f g i j) k l],.inl rfl,?_⟩;obtain rfl:=sj h;conv=>whnf
 refine⟨_,_,⟨rfl,rfl⟩,wk [0] []⟩
end W
end
section
set_option maxRecDepth 100000
set_option maxHeartbeats 4000000
open Go Go.Proofs Ax
namespace W
abbrev DU (_:List ql) (_:Int) (_:Bool) (r:qv×Int×Bool):FV:=.p ((PV.agg (fX.cells r.1)))
abbrev DI (a:List ql) (_:Int) (_:Bool) (r:qv×Int×Bool):List AObj:=[.box 137 [pK a,.p (.int .i64 r.2.1),.p (.bool r.2.2)]]
def bT (n:Nat) (a:List ql) (b:Int) (k:List xN) (q:List qa) (B:Int) (H:SS) (N:Int) (O:Bool) (P:Int) (Q:SS) (c:List Val) (d e:List SS) (f:List qa) (g:SS) (o:List xq) (p:Int) (s:SS) (t:Int) (u:Bool) (v:Int) (w:SS) (x:List Val) (y z:List SS) (A:List qa) (C:SS) (m:Bool) (i:List qq) (j:List SS) (l:Bool):Int×Bool×List zw->Option (qv×Int×Bool):=fun(D,E,F)=>
 bnd (fL n ([83,75,73,80]:SS) a D E) fun⟨G,I,J⟩=>
 bnd (fL n ([76,73,77,73,84]:SS) a I J) fun⟨K,L,M⟩=>
 some (qv.mk b k q (qa.mk B H (Val.mk N O P Q c d) e f) g (o++[xq.mk (qa.mk p s (Val.mk t u v w x y) z A) C]) m F G K i j l,L,M)
def dK (n:Nat) (a:List zw) (b:Int) (c:SS) (d:Int) (e:Bool) (f:Int) (g:SS) (i:List Val) (j k:List SS) (l:List qa) (p:List ql) (m:Bool) (t:Int) (B:List xN) (G:List qa) (Q:Int) (S:SS) (T:Int) (U:Bool) (X:Int) (Y:SS) (u:List Val) (v w:List SS) (x:List qa) (y:SS) (E:List xq) (F:Int) (H:SS) (I:Int) (J:Bool) (K:Int) (L:SS) (M:List Val) (N O:List SS) (P:List qa) (R:SS) (D:Bool) (z:List qq) (A:List SS) (C:Bool) (s:Int×Bool×List zw->Option (qv×Int×Bool)):Int×Bool->Option (qv×Int×Bool):=fun(V,o)=>
 chk (decide ((zw.rows (a++[zw.mk (qa.mk b c (Val.mk d e f g i j) k l) o])).length * 168<=140737488355328)) (
 bnd (qm n ([44]:SS) p V m) fun⟨W,q⟩=>
 bif(!W)then(
 bT n p t B G Q S T U X Y u v w x y E F H I J K L M N O P R D z A C (q,m,(a++[zw.mk (qa.mk b c (Val.mk d e f g i j) k l) o])))
 else(
 s (q,m,(a++[zw.mk (qa.mk b c (Val.mk d e f g i j) k l) o]))))
def rX (n:Nat) (a:List ql) (d:Int) (m:List xN) (t:List qa) (D:Int) (F:SS) (G:Int) (Q:Bool) (U:Int) (V:SS) (e:List Val) (f g:List SS) (i:List qa) (j:SS) (q:List xq) (s:Int) (u:SS) (v:Int) (w:Bool) (x:Int) (y:SS) (z:List Val) (A B:List SS) (C:List qa) (E:SS) (p:Bool) (k:List qq) (l:List SS) (o:Bool):LK (Int×Bool×List zw) (qv×Int×Bool):=fun c (W,X,H)=>
 bnd (qM n a W X) fun⟨⟨I,J,⟨K,L,M,N,O,P⟩,R,S⟩,Y,b⟩=>
 bnd (qm n ([65,83,67]:SS) a Y b) fun⟨Z,T⟩=>
 bif(!Z)then(
 bnd (qm n ([68,69,83,67]:SS) a T b) fun⟨a0,a1⟩=>
 dK n H I J K L M N O P R S a b d m t D F G Q U V e f g i j q s u v w x y z A B C E p k l o c (a1,a0))
 else(
 dK n H I J K L M N O P R S a b d m t D F G Q U V e f g i j q s u v w x y z A B C E p k l o c (T,false))
def gY (n:Nat) (c:List xq) (d:Int) (e:SS) (f:Int) (g:Bool) (i:Int) (j:SS) (k:List Val) (l m:List SS) (o:List qa) (a:List ql) (q:Int) (z:List xN) (C:List qa) (D:Int) (F:SS) (H:Int) (I:Bool) (J:Int) (K:SS) (s:List Val) (t u:List SS) (v:List qa) (w:SS) (B:Bool) (x:List qq) (y:List SS) (A:Bool) (L:Int×Bool×List xq->Option (qv×Int×Bool)):Int×Bool×SS->Option (qv×Int×Bool):=fun(M,b,p)=>
 chk (decide ((xq.rows (c++[xq.mk (qa.mk d e (Val.mk f g i j k l) m o) p])).length * 176<=140737488355328)) (
 bnd (qm n ([44]:SS) a M b) fun⟨N,E⟩=>
 bif(!N)then(
 bnd (qm n ([79,82,68,69,82]:SS) a E b) fun⟨O,G⟩=>
 bif O then(
 bnd (qU n ([66,89]:SS) a G b) fun⟨P,Q⟩=>
 qA (rX n a q z C D F H I J K s t u v w c d e f g i j k l m o p B x y A) n (P,Q,([]:List _)))
 else(
 bT n a q z C D F H I J K s t u v w c d e f g i j k l m o p B x y A (G,b,([]:List _))))
 else(
 L (E,b,(c++[xq.mk (qa.mk d e (Val.mk f g i j k l) m o) p]))))
def rW (n:Nat) (a:List ql) (g:Int) (q:List xN) (v:List qa) (E:Int) (F:SS) (G:Int) (H:Bool) (I:Int) (J:SS) (i:List Val) (j k:List SS) (l:List qa) (m:SS) (t:Bool) (o:List qq) (p:List SS) (s:Bool):LK (Int×Bool×List xq) (qv×Int×Bool):=fun f (K,L,u)=>
 bnd (qM n a K L) fun⟨⟨b,c,⟨w,x,y,z,A,B⟩,C,D⟩,d,e⟩=>
 bif(!(b != 2))then(
 bnd (xR n ([65,83]:SS) a d e) fun M=>
 bif(bif(b != 2)then true else M)then(
 bnd (qU n ([65,83]:SS) a d e) fun⟨N,O⟩=>
 bnd (uJ n a N O) fun⟨P,Q,R⟩=>
 gY n u b c w x y z A B C D a g q v E F G H I J i j k l m t o p s f (Q,R,P))
 else(
 gY n u b c w x y z A B C D a g q v E F G H I J i j k l m t o p s f (d,e,c)))
 else(
 bif(bif(b != 2)then true else false)then(
 bnd (qU n ([65,83]:SS) a d e) fun⟨S,T⟩=>
 bnd (uJ n a S T) fun⟨U,V,W⟩=>
 gY n u b c w x y z A B C D a g q v E F G H I J i j k l m t o p s f (V,W,U))
 else(
 gY n u b c w x y z A B C D a g q v E F G H I J i j k l m t o p s f (d,e,c)))
def sZ (n:Nat) (c:Int) (l:List xN) (s:List qa) (t:Int) (u:SS) (v:Int) (w:Bool) (x:Int) (y:SS) (d:List Val) (e f:List SS) (g:List qa) (i:SS) (_:Bool) (_ _:List qa) (j:List qq) (k:List SS) (m:Bool) (a:List ql) (o:Int) (b:Bool):Option (qv×Int×Bool):=
 bnd (qm n ([68,73,83,84,73,78,67,84]:SS) a o b) fun⟨p,q⟩=>
 qA (rW n a c l s t u v w x y d e f g i p j k m) n (q,b,([]:List _))
theorem Xk (n:Nat):∀ (q:Int) (A:List xN) (D:List qa) (E:Int) (F:SS) (G:Int) (H:Bool) (I:Int) (J:SS) (s:List Val) (t u:List SS) (w:List qa) (x:SS) (a6:Bool) (M L:List qa) (y:List qq) (z:List SS) (C:Bool) (o:List ql) (a5:Int) (a3:Bool) (r:qv×Int×Bool),sZ n q A D E F G H I J s t u w x a6 M L y z C o a5 a3=some r->zn TP 123 [.ptr 0 0,.p (.agg [.int .i64 q,.sl (xN.rows A),.sl (qa.rows D),.int .i64 E,.str F,.int .i64 G,.bool H,.int .i64 I,.str J,.sl (Val.rows s),.sl (qi t),.sl (qi u),.sl (qa.rows w),.str x,.nilsl,.bool a6,.nilsl,.sl (qa.rows M),.sl (qa.rows L),.sl (qq.rows y),.sl (qi z),.bool C])] [.box 137 [pK o,pI a5,pB a3]] 1 (fun v lo=>v=DU o a5 a3 r/\lo=DI o a5 a3 r):=by
 intro q A D E F G H I J s t u w x a6 M L y z C o a5 a3 r h;unfold sZ at h;refine zO Tryz.call123 Tryz.func123 [117,119,120,121,122,126,1000000] ?_;conv=>whnf
 refine bq h fun⟨K,f1⟩ d3 h=>?_;refine zU (qe n _ _ _ _ _ d3) [0] [] ?_;rintro _ _ ⟨rfl,rfl⟩;refine⟨pB K,[.box 137 [pK o,pI f1,pB a3],.box 63 [pI q,pP A,pE D,pI E,pS F,pI G,pB H,pI I,pS J,pV s,pT t,pT u,pE w,pS x,zq2,pB a6,zq2,pE M,pE L,pU y,pT z,pB C],zq3],rfl,rfl,?_⟩;conv=>whnf
 refine zj.fn [117,119,120,121,122,126,1000000] (S:=Int×Bool×List xq) (fun(b0,b1,b)=>[(0,.ptr 0 0),(3,.ptr 1 0),(4,.ptr 2 0)]) (fun(b0,b1,b)=>[.box 137 [pK o,pI b0,pB b1],.box 63 [pI q,pP A,pE D,pI E,pS F,pI G,pB H,pI I,pS J,pV s,pT t,pT u,pE w,pS x,.tsl 3 (xq.rows b),pB K,zq2,pE M,pE L,pU y,pT z,pB C],zq3,.tail 90 11 (xq.rows b).length]) (B:=rW n o q A D E F G H I J s t u w x K y z C) h (wk [0,1,2,0] [3]) ?_;intro e9 st h;obtain⟨b0,b1,b⟩:=st;unfold rW at h;conv=>whnf
 refine bq h fun⟨⟨c,a,⟨d,e,f,g,i,j⟩,k,l⟩,a7,a8⟩ e1 h=>?_;refine zU (cB n _ _ _ _ e1) [0] [] ?_;rintro _ _ ⟨rfl,rfl⟩;refine⟨.p (.agg [.int .i64 c,.str a,.int .i64 d,.bool e,.int .i64 f,.str g,.sl (Val.rows i),.sl (qi j),.sl (qi k),.sl (qa.rows l)]),[.box 137 [pK o,pI a7,pB a8],.box 63 [pI q,pP A,pE D,pI E,pS F,pI G,pB H,pI I,pS J,pV s,pT t,pT u,pE w,pS x,.tsl 3 (xq.rows b),pB K,zq2,pE M,pE L,pU y,pT z,pB C],zq3,.tail 90 11 (xq.rows b).length,.box 90 [zq0,zq1,zq0,pB false,zq0,zq1,zq2,zq2,zq2,zq2,zq1]],rfl,rfl,?_⟩;conv=>whnf
 refine mw.cut (S:=Int×Bool×SS) (fun(b2,a2,m)=>[(0,.ptr 0 0),(3,.ptr 1 0),(4,.ptr 2 0),(5,.ptr 3 0)]) (fun(b2,a2,m)=>[.box 137 [pK o,pI b2,pB a2],.box 63 [pI q,pP A,pE D,pI E,pS F,pI G,pB H,pI I,pS J,pV s,pT t,pT u,pE w,pS x,.tsl 4 (xq.rows b),pB K,zq2,pE M,pE L,pU y,pT z,pB C],zq3,.box 90 [pI c,pS a,pI d,pB e,pI f,pS g,pV i,pT j,pT k,pE l,pS m],.tail 90 11 (xq.rows b).length]) (gY n b c a d e f g i j k l o q A D E F G H I J s t u w x K y z C e9) (r:=r) ?_ ?_
 ·intro st h
  obtain⟨b2,a2,m⟩:=st;unfold gY at h;conv=>whnf
  refine⟨Codec.one BC [xq.mk (qa.mk c a (Val.mk d e f g i j) k l) m],xq.rows [xq.mk (qa.mk c a (Val.mk d e f g i j) k l) m],.inl rfl,?_⟩;conv=>whnf
  rw[show xq.rows b++xq.rows [xq.mk (qa.mk c a (Val.mk d e f g i j) k l) m]=xq.rows (b++[xq.mk (qa.mk c a (Val.mk d e f g i j) k l) m])from Codec.append BC b [xq.mk (qa.mk c a (Val.mk d e f g i j) k l) m]];conv=>whnf
  obtain⟨c0,h⟩:=qg h;refine⟨⟨Codec.wide BC (b++[xq.mk (qa.mk c a (Val.mk d e f g i j) k l) m]),kod c0,zy c0 (by decide)⟩,?_⟩;conv=>whnf
  refine⟨⟨rfl,rfl,rfl⟩,?_⟩;conv=>whnf
  refine bq h fun⟨f2,c1⟩ e2 h=>?_;refine zU (qe n _ _ _ _ _ e2) [0] [] ?_;rintro _ _ ⟨rfl,rfl⟩;refine⟨pB f2,[.box 137 [pK o,pI c1,pB a2],.box 63 [pI q,pP A,pE D,pI E,pS F,pI G,pB H,pI I,pS J,pV s,pT t,pT u,pE w,pS x,.tsl 5 (xq.rows (b++[xq.mk (qa.mk c a (Val.mk d e f g i j) k l) m])),pB K,zq2,pE M,pE L,pU y,pT z,pB C],zq3,.box 90 [pI c,pS a,pI d,pB e,pI f,pS g,pV i,pT j,pT k,pE l,pS m],.dead,.tail 90 11 (xq.rows (b++[xq.mk (qa.mk c a (Val.mk d e f g i j) k l) m])).length],rfl,rfl,?_⟩;conv=>whnf
  apply ifc h<;>intro a4 h
  ·conv=>whnf
   refine mw.cut (S:=Int×Bool×List zw) (fun(b3,b4,a0)=>[(0,.ptr 0 0),(3,.ptr 1 0),(4,.ptr 2 0)]) (fun(b3,b4,a0)=>[.box 137 [pK o,pI b3,pB b4],.box 63 [pI q,pP A,pE D,pI E,pS F,pI G,pB H,pI I,pS J,pV s,pT t,pT u,pE w,pS x,.tsl 3 (xq.rows (b++[xq.mk (qa.mk c a (Val.mk d e f g i j) k l) m])),pB K,.tsl 4 (zw.rows a0),pE M,pE L,pU y,pT z,pB C],zq3,.tail 90 11 (xq.rows (b++[xq.mk (qa.mk c a (Val.mk d e f g i j) k l) m])).length,.tail 92 11 (zw.rows a0).length]) (bT n o q A D E F G H I J s t u w x b c a d e f g i j k l m K y z C) (r:=r) ?_ ?_
   ·intro st h
    obtain⟨b3,b4,a0⟩:=st;unfold bT at h;(conv=>whnf);refine bq h fun⟨c2,f3,f4⟩ e3 h=>?_;refine zU (cW n _ _ _ _ _ e3) [0] [] ?_;rintro _ _ ⟨rfl,rfl⟩;refine⟨pE c2,[.box 137 [pK o,pI f3,pB f4],.box 63 [pI q,pP A,pE D,pI E,pS F,pI G,pB H,pI I,pS J,pV s,pT t,pT u,pE w,pS x,.tsl 3 (xq.rows (b++[xq.mk (qa.mk c a (Val.mk d e f g i j) k l) m])),pB K,.tsl 4 (zw.rows a0),pE M,pE L,pU y,pT z,pB C],zq3,.tail 90 11 (xq.rows (b++[xq.mk (qa.mk c a (Val.mk d e f g i j) k l) m])).length,.tail 92 11 (zw.rows a0).length],rfl,rfl,?_⟩;(conv=>whnf);refine bq h fun⟨f5,f6,f7⟩ e4 h=>?_;refine zU (cW n _ _ _ _ _ e4) [0] [] ?_;rintro _ _ ⟨rfl,rfl⟩;refine⟨pE f5,[.box 137 [pK o,pI f6,pB f7],.box 63 [pI q,pP A,pE D,pI E,pS F,pI G,pB H,pI I,pS J,pV s,pT t,pT u,pE w,pS x,.tsl 3 (xq.rows (b++[xq.mk (qa.mk c a (Val.mk d e f g i j) k l) m])),pB K,.tsl 4 (zw.rows a0),pE c2,pE L,pU y,pT z,pB C],zq3,.tail 90 11 (xq.rows (b++[xq.mk (qa.mk c a (Val.mk d e f g i j) k l) m])).length,.tail 92 11 (zw.rows a0).length],rfl,rfl,?_⟩;obtain rfl:=sj h;(conv=>whnf);refine⟨_,_,⟨rfl,rfl⟩,wk [0] []⟩
   conv=>whnf
   refine bq h fun⟨f8,c3⟩ e5 h=>?_;refine zU (qe n _ _ _ _ _ e5) [0] [] ?_;rintro _ _ ⟨rfl,rfl⟩;refine⟨pB f8,[.box 137 [pK o,pI c3,pB a2],.box 63 [pI q,pP A,pE D,pI E,pS F,pI G,pB H,pI I,pS J,pV s,pT t,pT u,pE w,pS x,.tsl 5 (xq.rows (b++[xq.mk (qa.mk c a (Val.mk d e f g i j) k l) m])),pB K,zq2,pE M,pE L,pU y,pT z,pB C],zq3,.box 90 [pI c,pS a,pI d,pB e,pI f,pS g,pV i,pT j,pT k,pE l,pS m],.dead,.tail 90 11 (xq.rows (b++[xq.mk (qa.mk c a (Val.mk d e f g i j) k l) m])).length],rfl,rfl,?_⟩;conv=>whnf
   apply ifc h<;>intro a4 h
   ·conv=>whnf
    refine bq h fun⟨f9,g0⟩ e6 h=>?_;refine zU (qH n _ _ _ _ _ e6) [0] [] ?_;rintro _ _ ⟨rfl,rfl⟩;refine⟨.p (.tup []),[.box 137 [pK o,pI f9,pB g0],.box 63 [pI q,pP A,pE D,pI E,pS F,pI G,pB H,pI I,pS J,pV s,pT t,pT u,pE w,pS x,.tsl 5 (xq.rows (b++[xq.mk (qa.mk c a (Val.mk d e f g i j) k l) m])),pB K,zq2,pE M,pE L,pU y,pT z,pB C],zq3,.box 90 [pI c,pS a,pI d,pB e,pI f,pS g,pV i,pT j,pT k,pE l,pS m],.dead,.tail 90 11 (xq.rows (b++[xq.mk (qa.mk c a (Val.mk d e f g i j) k l) m])).length],rfl,rfl,?_⟩;(conv=>whnf);refine zj.fn [117,119,120,121,122,126,1000000] (S:=Int×Bool×List zw) (fun(b5,b6,N)=>[(0,.ptr 0 0),(3,.ptr 1 0),(4,.ptr 2 0)]) (fun(b5,b6,N)=>[.box 137 [pK o,pI b5,pB b6],.box 63 [pI q,pP A,pE D,pI E,pS F,pI G,pB H,pI I,pS J,pV s,pT t,pT u,pE w,pS x,.tsl 3 (xq.rows (b++[xq.mk (qa.mk c a (Val.mk d e f g i j) k l) m])),pB K,.tsl 4 (zw.rows N),pE M,pE L,pU y,pT z,pB C],zq3,.tail 90 11 (xq.rows (b++[xq.mk (qa.mk c a (Val.mk d e f g i j) k l) m])).length,.tail 92 11 (zw.rows N).length]) (B:=rX n o q A D E F G H I J s t u w x b c a d e f g i j k l m K y z C) h (wk [0,1,2,5,0] [4]) ?_;intro f0 st h;obtain⟨b5,b6,N⟩:=st;unfold rX at h;(conv=>whnf);refine bq h fun⟨⟨O,P,⟨Q,R,T,U,V,W⟩,X,Y⟩,g1,a1⟩ e7 h=>?_;refine zU (cB n _ _ _ _ e7) [0] [] ?_;rintro _ _ ⟨rfl,rfl⟩;refine⟨.p (.agg [.int .i64 O,.str P,.int .i64 Q,.bool R,.int .i64 T,.str U,.sl (Val.rows V),.sl (qi W),.sl (qi X),.sl (qa.rows Y)]),[.box 137 [pK o,pI g1,pB a1],.box 63 [pI q,pP A,pE D,pI E,pS F,pI G,pB H,pI I,pS J,pV s,pT t,pT u,pE w,pS x,.tsl 3 (xq.rows (b++[xq.mk (qa.mk c a (Val.mk d e f g i j) k l) m])),pB K,.tsl 4 (zw.rows N),pE M,pE L,pU y,pT z,pB C],zq3,.tail 90 11 (xq.rows (b++[xq.mk (qa.mk c a (Val.mk d e f g i j) k l) m])).length,.tail 92 11 (zw.rows N).length,.box 92 [zq0,zq1,zq0,pB false,zq0,zq1,zq2,zq2,zq2,zq2,pB false]],rfl,rfl,?_⟩;(conv=>whnf);refine mw.cut (S:=Int×Bool) (fun(b7,Z)=>[(0,.ptr 0 0),(3,.ptr 1 0),(4,.ptr 2 0),(6,.ptr 3 0)]) (fun(b7,Z)=>[.box 137 [pK o,pI b7,pB a1],.box 63 [pI q,pP A,pE D,pI E,pS F,pI G,pB H,pI I,pS J,pV s,pT t,pT u,pE w,pS x,.tsl 4 (xq.rows (b++[xq.mk (qa.mk c a (Val.mk d e f g i j) k l) m])),pB K,.tsl 5 (zw.rows N),pE M,pE L,pU y,pT z,pB C],zq3,.box 92 [pI O,pS P,pI Q,pB R,pI T,pS U,pV V,pT W,pT X,pE Y,pB Z],.tail 90 11 (xq.rows (b++[xq.mk (qa.mk c a (Val.mk d e f g i j) k l) m])).length,.tail 92 11 (zw.rows N).length]) (dK n N O P Q R T U V W X Y o a1 q A D E F G H I J s t u w x b c a d e f g i j k l m K y z C f0) (r:=r) ?_ ?_
    ·intro st h
     obtain⟨b7,Z⟩:=st;unfold dK at h;(conv=>whnf);refine⟨Codec.one US [zw.mk (qa.mk O P (Val.mk Q R T U V W) X Y) Z],zw.rows [zw.mk (qa.mk O P (Val.mk Q R T U V W) X Y) Z],.inl rfl,?_⟩;(conv=>whnf);rw[show zw.rows N++zw.rows [zw.mk (qa.mk O P (Val.mk Q R T U V W) X Y) Z]=zw.rows (N++[zw.mk (qa.mk O P (Val.mk Q R T U V W) X Y) Z])from Codec.append US N [zw.mk (qa.mk O P (Val.mk Q R T U V W) X Y) Z]];(conv=>whnf);obtain⟨b9,h⟩:=qg h;refine⟨⟨Codec.wide US (N++[zw.mk (qa.mk O P (Val.mk Q R T U V W) X Y) Z]),kod b9,zy b9 (by decide)⟩,?_⟩;(conv=>whnf);refine⟨⟨rfl,rfl,rfl⟩,?_⟩;(conv=>whnf);refine bq h fun⟨g2,b8⟩ e8 h=>?_;refine zU (qe n _ _ _ _ _ e8) [0] [] ?_;rintro _ _ ⟨rfl,rfl⟩;refine⟨pB g2,[.box 137 [pK o,pI b8,pB a1],.box 63 [pI q,pP A,pE D,pI E,pS F,pI G,pB H,pI I,pS J,pV s,pT t,pT u,pE w,pS x,.tsl 4 (xq.rows (b++[xq.mk (qa.mk c a (Val.mk d e f g i j) k l) m])),pB K,.tsl 6 (zw.rows (N++[zw.mk (qa.mk O P (Val.mk Q R T U V W) X Y) Z])),pE M,pE L,pU y,pT z,pB C],zq3,.box 92 [pI O,pS P,pI Q,pB R,pI T,pS U,pV V,pT W,pT X,pE Y,pB Z],.tail 90 11 (xq.rows (b++[xq.mk (qa.mk c a (Val.mk d e f g i j) k l) m])).length,.dead,.tail 92 11 (zw.rows (N++[zw.mk (qa.mk O P (Val.mk Q R T U V W) X Y) Z])).length],rfl,rfl,?_⟩;(conv=>whnf);apply ifc h<;>intro a4 h
     ·conv=>whnf
      exact⟨(b8,a1,(N++[zw.mk (qa.mk O P (Val.mk Q R T U V W) X Y) Z])),h,wk [0,1,2,4,6] []⟩
     (conv=>whnf);exact⟨(b8,a1,(N++[zw.mk (qa.mk O P (Val.mk Q R T U V W) X Y) Z])),h,wk [0,1,2,4,6] []⟩
    (conv=>whnf);refine bq h fun⟨g3,c4⟩ d4 h=>?_
    refine zU (qe n _ _ _ _ _ d4) [0] [] ?_;rintro _ _ ⟨rfl,rfl⟩;refine⟨pB g3,[.box 137 [pK o,pI c4,pB a1],.box 63 [pI q,pP A,pE D,pI E,pS F,pI G,pB H,pI I,pS J,pV s,pT t,pT u,pE w,pS x,.tsl 3 (xq.rows (b++[xq.mk (qa.mk c a (Val.mk d e f g i j) k l) m])),pB K,.tsl 4 (zw.rows N),pE M,pE L,pU y,pT z,pB C],zq3,.tail 90 11 (xq.rows (b++[xq.mk (qa.mk c a (Val.mk d e f g i j) k l) m])).length,.tail 92 11 (zw.rows N).length,.box 92 [pI O,pS P,pI Q,pB R,pI T,pS U,pV V,pT W,pT X,pE Y,pB false]],rfl,rfl,?_⟩;(conv=>whnf);apply ifc h<;>intro a4 h
    ·conv=>whnf
     refine bq h fun⟨c5,c6⟩ d5 h=>?_;refine zU (qe n _ _ _ _ _ d5) [0] [] ?_;rintro _ _ ⟨rfl,rfl⟩;refine⟨pB c5,[.box 137 [pK o,pI c6,pB a1],.box 63 [pI q,pP A,pE D,pI E,pS F,pI G,pB H,pI I,pS J,pV s,pT t,pT u,pE w,pS x,.tsl 3 (xq.rows (b++[xq.mk (qa.mk c a (Val.mk d e f g i j) k l) m])),pB K,.tsl 4 (zw.rows N),pE M,pE L,pU y,pT z,pB C],zq3,.tail 90 11 (xq.rows (b++[xq.mk (qa.mk c a (Val.mk d e f g i j) k l) m])).length,.tail 92 11 (zw.rows N).length,.box 92 [pI O,pS P,pI Q,pB R,pI T,pS U,pV V,pT W,pT X,pE Y,pB false]],rfl,rfl,?_⟩;(conv=>whnf);exact⟨(c6,c5),h,wk [0,1,2,5,3,4] []⟩
    (conv=>whnf);exact⟨(c4,false),h,wk [0,1,2,5,3,4] []⟩
   conv=>whnf
   exact⟨(c3,a2,([]:List _)),h,wk [0,1,2,5,0] [4]⟩
  conv=>whnf
  exact⟨(c1,a2,(b++[xq.mk (qa.mk c a (Val.mk d e f g i j) k l) m])),h,wk [0,1,2,5] []⟩
 conv=>whnf
 refine⟨fun a9=>?_,fun a9=>?_⟩
 ·replace h:=mC h a9
  conv=>whnf
  refine⟨id,?_⟩;conv=>whnf
  refine bq h fun g4 d6 h=>?_;refine zU (zV n _ _ _ _ _ d6) [0] [] ?_;rintro _ _ ⟨rfl,rfl⟩;refine⟨pB g4,[.box 137 [pK o,pI a7,pB a8],.box 63 [pI q,pP A,pE D,pI E,pS F,pI G,pB H,pI I,pS J,pV s,pT t,pT u,pE w,pS x,.tsl 3 (xq.rows b),pB K,zq2,pE M,pE L,pU y,pT z,pB C],zq3,.tail 90 11 (xq.rows b).length,.box 90 [pI c,pS a,pI d,pB e,pI f,pS g,pV i,pT j,pT k,pE l,pS a]],rfl,rfl,?_⟩;conv=>whnf
  refine⟨id,?_⟩;conv=>whnf
  apply ifc h<;>intro a4 h
  ·conv=>whnf
   refine bq h fun⟨g5,g6⟩ d7 h=>?_;refine zU (qH n _ _ _ _ _ d7) [0] [] ?_;rintro _ _ ⟨rfl,rfl⟩;refine⟨.p (.tup []),[.box 137 [pK o,pI g5,pB g6],.box 63 [pI q,pP A,pE D,pI E,pS F,pI G,pB H,pI I,pS J,pV s,pT t,pT u,pE w,pS x,.tsl 3 (xq.rows b),pB K,zq2,pE M,pE L,pU y,pT z,pB C],zq3,.tail 90 11 (xq.rows b).length,.box 90 [pI c,pS a,pI d,pB e,pI f,pS g,pV i,pT j,pT k,pE l,pS a]],rfl,rfl,?_⟩;conv=>whnf
   refine bq h fun⟨c7,c8,c9⟩ d8 h=>?_;refine zU (uf n _ _ _ _ d8) [0] [] ?_;rintro _ _ ⟨rfl,rfl⟩;refine⟨pS c7,[.box 137 [pK o,pI c8,pB c9],.box 63 [pI q,pP A,pE D,pI E,pS F,pI G,pB H,pI I,pS J,pV s,pT t,pT u,pE w,pS x,.tsl 3 (xq.rows b),pB K,zq2,pE M,pE L,pU y,pT z,pB C],zq3,.tail 90 11 (xq.rows b).length,.box 90 [pI c,pS a,pI d,pB e,pI f,pS g,pV i,pT j,pT k,pE l,pS a]],rfl,rfl,?_⟩;conv=>whnf
   exact⟨(c8,c9,c7),h,wk [0,1,2,4,3] []⟩
  conv=>whnf
  exact⟨(a7,a8,a),h,wk [0,1,2,4,3] []⟩
 replace h:=gf h a9;refine⟨pB false,?_⟩;conv=>whnf
 refine⟨id,?_⟩;conv=>whnf
 apply ifc h<;>intro a4 h
 ·conv=>whnf
  refine bq h fun⟨g7,g8⟩ d9 h=>?_;refine zU (qH n _ _ _ _ _ d9) [0] [] ?_;rintro _ _ ⟨rfl,rfl⟩;refine⟨.p (.tup []),[.box 137 [pK o,pI g7,pB g8],.box 63 [pI q,pP A,pE D,pI E,pS F,pI G,pB H,pI I,pS J,pV s,pT t,pT u,pE w,pS x,.tsl 3 (xq.rows b),pB K,zq2,pE M,pE L,pU y,pT z,pB C],zq3,.tail 90 11 (xq.rows b).length,.box 90 [pI c,pS a,pI d,pB e,pI f,pS g,pV i,pT j,pT k,pE l,pS a]],rfl,rfl,?_⟩;conv=>whnf
  refine bq h fun⟨d0,d1,d2⟩ e0 h=>?_;refine zU (uf n _ _ _ _ e0) [0] [] ?_;rintro _ _ ⟨rfl,rfl⟩;refine⟨pS d0,[.box 137 [pK o,pI d1,pB d2],.box 63 [pI q,pP A,pE D,pI E,pS F,pI G,pB H,pI I,pS J,pV s,pT t,pT u,pE w,pS x,.tsl 3 (xq.rows b),pB K,zq2,pE M,pE L,pU y,pT z,pB C],zq3,.tail 90 11 (xq.rows b).length,.box 90 [pI c,pS a,pI d,pB e,pI f,pS g,pV i,pT j,pT k,pE l,pS a]],rfl,rfl,?_⟩;conv=>whnf
  exact⟨(d1,d2,d0),h,wk [0,1,2,4,3] []⟩
 conv=>whnf
 exact⟨(a7,a8,a),h,wk [0,1,2,4,3] []⟩
end W
end
section
set_option maxRecDepth 100000
set_option maxHeartbeats 4000000
open Go Go.Proofs Ax
namespace W
abbrev DW (_:List ql) (_:Int) (_:Bool) (r:qv×Int×Bool):FV:=.p ((PV.agg (fX.cells r.1)))
abbrev DJ (a:List ql) (_:Int) (_:Bool) (r:qv×Int×Bool):List AObj:=[.box 137 [pK a,.p (.int .i64 r.2.1),.p (.bool r.2.2)]]
def cC (n:Nat) (a:List qq) (b:SS) (I:List ql) (u:Int) (F:List xN) (J:List qa) (L:Int) (N:SS) (O:Int) (P:Bool) (Q:Int) (R:SS) (v:List Val) (w x:List SS) (y:List qa) (z:SS) (A:List xq) (B:Bool) (C:List zw) (D E:List qa) (G:List SS) (H:Bool) (t:Int×Bool×List qq->Option (qv×Int×Bool)):Int×Bool×SS×SS×Int×SS×Int×Bool×Int×SS×List Val×List SS×List SS×List qa->Option (qv×Int×Bool):=fun(K,c,d,e,f,g,i,j,k,l,m,o,p,q)=>
 chk (decide ((qq.rows (a++[qq.mk b d e (qa.mk f g (Val.mk i j k l m o) p q)])).length * 208<=140737488355328)) (
 bnd (qm n ([44]:SS) I K c) fun⟨M,s⟩=>
 bif(!M)then(
 some (qv.mk u F J (qa.mk L N (Val.mk O P Q R v w) x y) z A B C D E (a++[qq.mk b d e (qa.mk f g (Val.mk i j k l m o) p q)]) G H,s,c))
 else(
 t (s,c,(a++[qq.mk b d e (qa.mk f g (Val.mk i j k l m o) p q)]))))
def rZ (n:Nat) (a:List ql) (b:Int) (p:List xN) (v:List qa) (x:Int) (y:SS) (z:Int) (A:Bool) (B:Int) (C:SS) (d:List Val) (e f:List SS) (g:List qa) (i:SS) (j:List xq) (k:Bool) (l:List zw) (m o:List qa) (q:List SS) (s:Bool):LK (Int×Bool×List qq) (qv×Int×Bool):=fun c (H,I,t)=>
 bnd (uJ n a H I) fun⟨u,J,w⟩=>
 bnd (qm n ([58]:SS) a J w) fun⟨K,D⟩=>
 bif K then(
 bnd (gG n a D w) fun⟨L,M,N⟩=>
 cC n t u a b p v x y z A B C d e f g i j k l m o q s c (M,N,([]:SS),L,(0:Int),([]:SS),(0:Int),false,(0:Int),([]:SS),([]:List _),([]:List _),([]:List _),([]:List _)))
 else(
 bnd (qU n ([46]:SS) a D w) fun⟨O,P⟩=>
 bnd (gG n a O P) fun⟨E,F,G⟩=>
 bif(b==6)then(
 bnd (qU n ([61]:SS) a F G) fun⟨Q,R⟩=>
 bnd (qM n a Q R) fun⟨⟨S,T,⟨U,V,W,X,Y,Z⟩,a0,a1⟩,a2,a3⟩=>
 cC n t u a b p v x y z A B C d e f g i j k l m o q s c (a2,a3,E,([]:SS),S,T,U,V,W,X,Y,Z,a0,a1))
 else(
 cC n t u a b p v x y z A B C d e f g i j k l m o q s c (F,G,E,([]:SS),(0:Int),([]:SS),(0:Int),false,(0:Int),([]:SS),([]:List _),([]:List _),([]:List _),([]:List _))))
def ta (n:Nat) (a:Int) (m:List xN) (u:List qa) (v:Int) (w:SS) (x:Int) (y:Bool) (z:Int) (A:SS) (b:List Val) (c d:List SS) (e:List qa) (f:SS) (g:List xq) (i:Bool) (j:List zw) (k l:List qa) (o:List SS) (p:Bool) (q:List ql) (s:Int) (t:Bool):Option (qv×Int×Bool):=
 qA (rZ n q a m u v w x y z A b c d e f g i j k l o p) n (s,t,([]:List _))
theorem Xl (n:Nat):∀ (d:Int) (s:List xN) (w:List qa) (x:Int) (y:SS) (z:Int) (A:Bool) (C:Int) (D:SS) (e:List Val) (f g:List SS) (i:List qa) (j:SS) (k:List xq) (l:Bool) (m:List zw) (o q:List qa) (t:List SS) (u:Bool) (c:List ql) (Q:Int) (R:Bool) (r:qv×Int×Bool),ta n d s w x y z A C D e f g i j k l m o q t u c Q R=some r->zn TP 125 [.ptr 0 0,.p (.agg [.int .i64 d,.sl (xN.rows s),.sl (qa.rows w),.int .i64 x,.str y,.int .i64 z,.bool A,.int .i64 C,.str D,.sl (Val.rows e),.sl (qi f),.sl (qi g),.sl (qa.rows i),.str j,.sl (xq.rows k),.bool l,.sl (zw.rows m),.sl (qa.rows o),.sl (qa.rows q),.nilsl,.sl (qi t),.bool u])] [.box 137 [pK c,pI Q,pB R]] 1 (fun v lo=>v=DW c Q R r/\lo=DJ c Q R r):=by
 intro d s w x y z A C D e f g i j k l m o q t u c Q R r h;unfold ta at h;refine zO Tryz.call125 Tryz.func125 [117,120,121,122,158,1000000] ?_;conv=>whnf
 refine zj.fn [117,120,121,122,158,1000000] (S:=Int×Bool×List qq) (fun(V,W,a)=>[(0,.ptr 0 0),(3,.ptr 1 0),(4,.ptr 2 0)]) (fun(V,W,a)=>[.box 137 [pK c,pI V,pB W],.box 63 [pI d,pP s,pE w,pI x,pS y,pI z,pB A,pI C,pS D,pV e,pT f,pT g,pE i,pS j,pA k,pB l,pO m,pE o,pE q,.tsl 3 (qq.rows a),pT t,pB u],zq3,.tail 94 13 (qq.rows a).length]) (B:=rZ n c d s w x y z A C D e f g i j k l m o q t u) h (wk [0,1,2,0] [3]) ?_;intro c7 st h;obtain⟨V,W,a⟩:=st;unfold rZ at h;conv=>whnf
 refine bq h fun⟨b,c8,a0⟩ b9 h=>?_;refine zU (uf n _ _ _ _ b9) [0] [] ?_;rintro _ _ ⟨rfl,rfl⟩;refine⟨pS b,[.box 137 [pK c,pI c8,pB a0],.box 63 [pI d,pP s,pE w,pI x,pS y,pI z,pB A,pI C,pS D,pV e,pT f,pT g,pE i,pS j,pA k,pB l,pO m,pE o,pE q,.tsl 3 (qq.rows a),pT t,pB u],zq3,.tail 94 13 (qq.rows a).length,.box 94 [zq1,zq1,zq1,zq0,zq1,zq0,pB false,zq0,zq1,zq2,zq2,zq2,zq2]],rfl,rfl,?_⟩;conv=>whnf
 refine mw.cut (S:=Int×Bool×SS×SS×Int×SS×Int×Bool×Int×SS×List Val×List SS×List SS×List qa) (fun(X,T,E,F,G,H,I,J,K,L,M,N,O,P)=>[(0,.ptr 0 0),(3,.ptr 1 0),(4,.ptr 2 0),(5,.ptr 3 0)]) (fun(X,T,E,F,G,H,I,J,K,L,M,N,O,P)=>[.box 137 [pK c,pI X,pB T],.box 63 [pI d,pP s,pE w,pI x,pS y,pI z,pB A,pI C,pS D,pV e,pT f,pT g,pE i,pS j,pA k,pB l,pO m,pE o,pE q,.tsl 4 (qq.rows a),pT t,pB u],zq3,.box 94 [pS b,pS E,pS F,pI G,pS H,pI I,pB J,pI K,pS L,pV M,pT N,pT O,pE P],.tail 94 13 (qq.rows a).length]) (cC n a b c d s w x y z A C D e f g i j k l m o q t u c7) (r:=r) ?_ ?_
 ·intro st h
  obtain⟨X,T,E,F,G,H,I,J,K,L,M,N,O,P⟩:=st;unfold cC at h;conv=>whnf
  refine⟨Codec.one tr [qq.mk b E F (qa.mk G H (Val.mk I J K L M N) O P)],qq.rows [qq.mk b E F (qa.mk G H (Val.mk I J K L M N) O P)],.inl rfl,?_⟩;conv=>whnf
  rw[show qq.rows a++qq.rows [qq.mk b E F (qa.mk G H (Val.mk I J K L M N) O P)]=qq.rows (a++[qq.mk b E F (qa.mk G H (Val.mk I J K L M N) O P)])from Codec.append tr a [qq.mk b E F (qa.mk G H (Val.mk I J K L M N) O P)]];conv=>whnf
  obtain⟨Y,h⟩:=qg h;refine⟨⟨Codec.wide tr (a++[qq.mk b E F (qa.mk G H (Val.mk I J K L M N) O P)]),kod Y,zy Y (by decide)⟩,?_⟩;conv=>whnf
  refine⟨⟨rfl,rfl,rfl⟩,?_⟩;conv=>whnf
  refine bq h fun⟨c9,a1⟩ c0 h=>?_;refine zU (qe n _ _ _ _ _ c0) [0] [] ?_;rintro _ _ ⟨rfl,rfl⟩;refine⟨pB c9,[.box 137 [pK c,pI a1,pB T],.box 63 [pI d,pP s,pE w,pI x,pS y,pI z,pB A,pI C,pS D,pV e,pT f,pT g,pE i,pS j,pA k,pB l,pO m,pE o,pE q,.tsl 5 (qq.rows (a++[qq.mk b E F (qa.mk G H (Val.mk I J K L M N) O P)])),pT t,pB u],zq3,.box 94 [pS b,pS E,pS F,pI G,pS H,pI I,pB J,pI K,pS L,pV M,pT N,pT O,pE P],.dead,.tail 94 13 (qq.rows (a++[qq.mk b E F (qa.mk G H (Val.mk I J K L M N) O P)])).length],rfl,rfl,?_⟩;conv=>whnf
  apply ifc h<;>intro Z h
  ·obtain rfl:=sj h
   conv=>whnf
   refine⟨_,_,⟨rfl,rfl⟩,wk [0] []⟩
  conv=>whnf
  exact⟨(a1,T,(a++[qq.mk b E F (qa.mk G H (Val.mk I J K L M N) O P)])),h,wk [0,1,2,5] []⟩
 conv=>whnf
 refine bq h fun⟨d0,d1⟩ c1 h=>?_;refine zU (qe n _ _ _ _ _ c1) [0] [] ?_;rintro _ _ ⟨rfl,rfl⟩;refine⟨pB d0,[.box 137 [pK c,pI d1,pB a0],.box 63 [pI d,pP s,pE w,pI x,pS y,pI z,pB A,pI C,pS D,pV e,pT f,pT g,pE i,pS j,pA k,pB l,pO m,pE o,pE q,.tsl 3 (qq.rows a),pT t,pB u],zq3,.tail 94 13 (qq.rows a).length,.box 94 [pS b,zq1,zq1,zq0,zq1,zq0,pB false,zq0,zq1,zq2,zq2,zq2,zq2]],rfl,rfl,?_⟩;conv=>whnf
 apply ifc h<;>intro Z h
 ·conv=>whnf
  refine bq h fun⟨a2,a3,a4⟩ c2 h=>?_;refine zU (uI n _ _ _ _ c2) [0] [] ?_;rintro _ _ ⟨rfl,rfl⟩;refine⟨pS a2,[.box 137 [pK c,pI a3,pB a4],.box 63 [pI d,pP s,pE w,pI x,pS y,pI z,pB A,pI C,pS D,pV e,pT f,pT g,pE i,pS j,pA k,pB l,pO m,pE o,pE q,.tsl 3 (qq.rows a),pT t,pB u],zq3,.tail 94 13 (qq.rows a).length,.box 94 [pS b,zq1,zq1,zq0,zq1,zq0,pB false,zq0,zq1,zq2,zq2,zq2,zq2]],rfl,rfl,?_⟩;conv=>whnf
  exact⟨(a3,a4,([]:SS),a2,(0:Int),([]:SS),(0:Int),false,(0:Int),([]:SS),([]:List _),([]:List _),([]:List _),([]:List _)),h,wk [0,1,2,4,3] []⟩
 conv=>whnf
 refine bq h fun⟨d2,d3⟩ c3 h=>?_;refine zU (qH n _ _ _ _ _ c3) [0] [] ?_;rintro _ _ ⟨rfl,rfl⟩;refine⟨.p (.tup []),[.box 137 [pK c,pI d2,pB d3],.box 63 [pI d,pP s,pE w,pI x,pS y,pI z,pB A,pI C,pS D,pV e,pT f,pT g,pE i,pS j,pA k,pB l,pO m,pE o,pE q,.tsl 3 (qq.rows a),pT t,pB u],zq3,.tail 94 13 (qq.rows a).length,.box 94 [pS b,zq1,zq1,zq0,zq1,zq0,pB false,zq0,zq1,zq2,zq2,zq2,zq2]],rfl,rfl,?_⟩;conv=>whnf
 refine bq h fun⟨U,a5,a6⟩ c4 h=>?_;refine zU (uI n _ _ _ _ c4) [0] [] ?_;rintro _ _ ⟨rfl,rfl⟩;refine⟨pS U,[.box 137 [pK c,pI a5,pB a6],.box 63 [pI d,pP s,pE w,pI x,pS y,pI z,pB A,pI C,pS D,pV e,pT f,pT g,pE i,pS j,pA k,pB l,pO m,pE o,pE q,.tsl 3 (qq.rows a),pT t,pB u],zq3,.tail 94 13 (qq.rows a).length,.box 94 [pS b,zq1,zq1,zq0,zq1,zq0,pB false,zq0,zq1,zq2,zq2,zq2,zq2]],rfl,rfl,?_⟩;conv=>whnf
 apply ifc h<;>intro Z h
 ·conv=>whnf
  refine bq h fun⟨d4,d5⟩ c5 h=>?_;refine zU (qH n _ _ _ _ _ c5) [0] [] ?_;rintro _ _ ⟨rfl,rfl⟩;refine⟨.p (.tup []),[.box 137 [pK c,pI d4,pB d5],.box 63 [pI d,pP s,pE w,pI x,pS y,pI z,pB A,pI C,pS D,pV e,pT f,pT g,pE i,pS j,pA k,pB l,pO m,pE o,pE q,.tsl 3 (qq.rows a),pT t,pB u],zq3,.tail 94 13 (qq.rows a).length,.box 94 [pS b,pS U,zq1,zq0,zq1,zq0,pB false,zq0,zq1,zq2,zq2,zq2,zq2]],rfl,rfl,?_⟩;conv=>whnf
  refine bq h fun⟨⟨a7,a8,⟨a9,b0,b1,b2,b3,b4⟩,b5,b6⟩,b7,b8⟩ c6 h=>?_;refine zU (cB n _ _ _ _ c6) [0] [] ?_;rintro _ _ ⟨rfl,rfl⟩;refine⟨.p (.agg [.int .i64 a7,.str a8,.int .i64 a9,.bool b0,.int .i64 b1,.str b2,.sl (Val.rows b3),.sl (qi b4),.sl (qi b5),.sl (qa.rows b6)]),[.box 137 [pK c,pI b7,pB b8],.box 63 [pI d,pP s,pE w,pI x,pS y,pI z,pB A,pI C,pS D,pV e,pT f,pT g,pE i,pS j,pA k,pB l,pO m,pE o,pE q,.tsl 3 (qq.rows a),pT t,pB u],zq3,.tail 94 13 (qq.rows a).length,.box 94 [pS b,pS U,zq1,zq0,zq1,zq0,pB false,zq0,zq1,zq2,zq2,zq2,zq2]],rfl,rfl,?_⟩;conv=>whnf
  exact⟨(b7,b8,U,([]:SS),a7,a8,a9,b0,b1,b2,b3,b4,b5,b6),h,wk [0,1,2,4,3] []⟩
 conv=>whnf
 exact⟨(a5,a6,U,([]:SS),(0:Int),([]:SS),(0:Int),false,(0:Int),([]:SS),([]:List _),([]:List _),([]:List _),([]:List _)),h,wk [0,1,2,4,3] []⟩
end W
end
