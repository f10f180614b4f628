/- A part of the proof: contracts, printed by program. -/
import Derived.Test.YtmblnmgpmdapnaaGreatB
import Derived.Test.YtmblnmgpmdapnaaGreatD
set_option linter.unusedVariables false
set_option linter.unusedSimpArgs false
set_option linter.unnecessarySimpa false
set_option linter.deprecated false
set_option linter.unusedSectionVars false
set_option linter.constructorNameAsVariable false
open Go.IntKind renaming wrap->kwr,bits->kbt
section
set_option maxRecDepth 100000
open Go Go.Proofs Ax
namespace W
abbrev qq3 (_:List qap) (_:Int) (_:Bool) (r:(List SS)×(List qaa)×Int×Bool):FV:=.p (.tup [.sl (qak r.1),.sl (qaa.rows r.2.1)])
abbrev qq2 (a:List qap) (_:Int) (_:Bool) (r:(List SS)×(List qaa)×Int×Bool):List AObj:=[.box 113 [pK a,.p (.int .i64 r.2.2.1),.p (.bool r.2.2.2)]]
abbrev qf5:Type:=(List qap)->Int->Bool->Option (qaa×Int×Bool)
def qs0 (n:Nat) (a:List qap) (g77:qf5):LK (List SS×List qaa×Int×Bool) ((List SS)×(List qaa)×Int×Bool):=fun v (b,c,t,d)=>
 bif(!d)then(
 bnd (qjt n a t d) fun⟨e,w,x⟩=>
 bnd (qbu n ([58]:SS) a w x) fun⟨y,z⟩=>
 bnd (g77 a y z) fun⟨⟨f,g,⟨i,j,k,l,m,o⟩,p,q⟩,A,s⟩=>
 chk (decide ((qak (b++[e])).length * 16<=140737488355328)) (
 chk (decide ((qaa.rows (c++[qaa.mk f g (Val.mk i j k l m o) p q])).length * 160<=140737488355328)) (
 bnd (qaq n ([44]:SS) a A s) fun⟨B,u⟩=>
 bif(!B)then(
 bnd (qbu n ([125]:SS) a u s) fun⟨C,D⟩=>
 some ((b++[e]),(c++[qaa.mk f g (Val.mk i j k l m o) p q]),C,D))
 else(
 v ((b++[e]),(c++[qaa.mk f g (Val.mk i j k l m o) p q]),u,s)))))
 else(
 some (b,c,t,d))
abbrev q7e:Type:=(List qap)->Int->Bool->Option ((List SS)×(List qaa)×Int×Bool)
abbrev q7f:Type:=SS->(List qap)->Int->Bool->Option (qaa×Int×Bool)
abbrev q7g:Type:=SS->(List qap)->Int->Bool->Option ((List qaa)×Int×Bool)
def qvr (n:Nat) (g124:q7e) (g77 g120:qf5) (g159 g173:qf5) (g178 g186:qf5) (g189 g190 g191:qf5) (g192:q7f) (g193:q7g) (a:List qap) (d:Int) (e:Bool):Option ((List SS)×(List qaa)×Int×Bool):=
 bnd (qbu n ([123]:SS) a d e) fun⟨f,b⟩=>
 bnd (qaq n ([125]:SS) a f b) fun⟨g,c⟩=>
 bif g then(
 some (([]:List SS),([]:List qaa),c,b))
 else(
 qam (qs0 n a g77) n (([]:List _),([]:List _),c,b))
abbrev qr5 (_:List qap) (_:Int) (_:Bool) (r:qaa×Int×Bool):FV:=.p ((PV.agg (qck.cells r.1)))
abbrev qr4 (a:List qap) (_:Int) (_:Bool) (r:qaa×Int×Bool):List AObj:=[.box 113 [pK a,.p (.int .i64 r.2.1),.p (.bool r.2.2)]]
def quc (n:Nat) (b:List qap) (g120:qf5):LK (Int×Bool×Int×SS×Int×Bool×Int×SS×List Val×List SS×List SS×List qaa) (qaa×Int×Bool):=fun p (q,a,c,d,e,f,g,i,j,k,l,m)=>
 bnd (qaq n ([79,82]:SS) b q a) fun⟨s,o⟩=>
 bif s then(
 bnd (g120 b o a) fun⟨⟨t,u,⟨v,w,x,y,z,A⟩,B,C⟩,D,E⟩=>
 bnd (qll n ([79,82]:SS) (qaa.mk c d (Val.mk e f g i j k) l m) (qaa.mk t u (Val.mk v w x y z A) B C)) fun⟨F,G,⟨H,I,J,K,L,M⟩,N,O⟩=>
 p (D,E,F,G,H,I,J,K,L,M,N,O))
 else(
 some (qaa.mk c d (Val.mk e f g i j k) l m,o,a))
def qw6 (n:Nat) (g124:q7e) (g77 g120:qf5) (g159 g173:qf5) (g178 g186:qf5) (g189 g190 g191:qf5) (g192:q7f) (g193:q7g) (a:List qap) (i:Int) (j:Bool):Option (qaa×Int×Bool):=
 bnd (g120 a i j) fun⟨⟨k,l,⟨m,o,p,q,b,c⟩,d,e⟩,f,g⟩=>
 qam (quc n a g120) n (f,g,k,l,m,o,p,q,b,c,d,e)
abbrev qxq (_:List qap) (_:Int) (_:Bool) (r:qaa×Int×Bool):FV:=.p ((PV.agg (qck.cells r.1)))
abbrev qxl (a:List qap) (_:Int) (_:Bool) (r:qaa×Int×Bool):List AObj:=[.box 113 [pK a,.p (.int .i64 r.2.1),.p (.bool r.2.2)]]
def qvx (n:Nat) (b:List qap) (g159:qf5):LK (Int×Bool×Int×SS×Int×Bool×Int×SS×List Val×List SS×List SS×List qaa) (qaa×Int×Bool):=fun p (q,a,c,d,e,f,g,i,j,k,l,m)=>
 bnd (qaq n ([88,79,82]:SS) b q a) fun⟨s,o⟩=>
 bif s then(
 bnd (g159 b o a) fun⟨⟨t,u,⟨v,w,x,y,z,A⟩,B,C⟩,D,E⟩=>
 bnd (qll n ([88,79,82]:SS) (qaa.mk c d (Val.mk e f g i j k) l m) (qaa.mk t u (Val.mk v w x y z A) B C)) fun⟨F,G,⟨H,I,J,K,L,M⟩,N,O⟩=>
 p (D,E,F,G,H,I,J,K,L,M,N,O))
 else(
 some (qaa.mk c d (Val.mk e f g i j k) l m,o,a))
def qy5 (n:Nat) (g124:q7e) (g77 g120:qf5) (g159 g173:qf5) (g178 g186:qf5) (g189 g190 g191:qf5) (g192:q7f) (g193:q7g) (a:List qap) (i:Int) (j:Bool):Option (qaa×Int×Bool):=
 bnd (g159 a i j) fun⟨⟨k,l,⟨m,o,p,q,b,c⟩,d,e⟩,f,g⟩=>
 qam (qvx n a g159) n (f,g,k,l,m,o,p,q,b,c,d,e)
abbrev qxn (_:List qap) (_:Int) (_:Bool) (r:qaa×Int×Bool):FV:=.p ((PV.agg (qck.cells r.1)))
abbrev qxi (a:List qap) (_:Int) (_:Bool) (r:qaa×Int×Bool):List AObj:=[.box 113 [pK a,.p (.int .i64 r.2.1),.p (.bool r.2.2)]]
def qvu (n:Nat) (b:List qap) (g173:qf5):LK (Int×Bool×Int×SS×Int×Bool×Int×SS×List Val×List SS×List SS×List qaa) (qaa×Int×Bool):=fun p (q,a,c,d,e,f,g,i,j,k,l,m)=>
 bnd (qaq n ([65,78,68]:SS) b q a) fun⟨s,o⟩=>
 bif s then(
 bnd (g173 b o a) fun⟨⟨t,u,⟨v,w,x,y,z,A⟩,B,C⟩,D,E⟩=>
 bnd (qll n ([65,78,68]:SS) (qaa.mk c d (Val.mk e f g i j k) l m) (qaa.mk t u (Val.mk v w x y z A) B C)) fun⟨F,G,⟨H,I,J,K,L,M⟩,N,O⟩=>
 p (D,E,F,G,H,I,J,K,L,M,N,O))
 else(
 some (qaa.mk c d (Val.mk e f g i j k) l m,o,a))
def qy2 (n:Nat) (g124:q7e) (g77 g120:qf5) (g159 g173:qf5) (g178 g186:qf5) (g189 g190 g191:qf5) (g192:q7f) (g193:q7g) (a:List qap) (i:Int) (j:Bool):Option (qaa×Int×Bool):=
 bnd (g173 a i j) fun⟨⟨k,l,⟨m,o,p,q,b,c⟩,d,e⟩,f,g⟩=>
 qam (qvu n a g173) n (f,g,k,l,m,o,p,q,b,c,d,e)
abbrev qxo (_:List qap) (_:Int) (_:Bool) (r:qaa×Int×Bool):FV:=.p ((PV.agg (qck.cells r.1)))
abbrev qxj (a:List qap) (_:Int) (_:Bool) (r:qaa×Int×Bool):List AObj:=[.box 113 [pK a,.p (.int .i64 r.2.1),.p (.bool r.2.2)]]
def qy3 (n:Nat) (g124:q7e) (g77 g120:qf5) (g159 g173:qf5) (g178 g186:qf5) (g189 g190 g191:qf5) (g192:q7f) (g193:q7g) (a:List qap) (p:Int) (b:Bool):Option (qaa×Int×Bool):=
 bnd (qaq n ([78,79,84]:SS) a p b) fun⟨L,c⟩=>
 bif L then(
 bnd (g173 a c b) fun⟨⟨M,N,⟨O,P,d,e,f,g⟩,i,j⟩,k,l⟩=>
 bnd (qsc n (9:Int) (qaa.mk M N (Val.mk O P d e f g) i j)) fun⟨m,o,⟨q,s,t,u,v,w⟩,x,y⟩=>
 some (qaa.mk m o (Val.mk q s t u v w) x y,k,l))
 else(
 bnd (g178 a c b) fun⟨⟨z,A,⟨B,C,D,E,F,G⟩,H,I⟩,J,K⟩=>
 some (qaa.mk z A (Val.mk B C D E F G) H I,J,K))
abbrev qv9 (_:List qap) (_:Int) (_:Bool) (r:qaa×Int×Bool):FV:=.p ((PV.agg (qck.cells r.1)))
abbrev qv5 (a:List qap) (_:Int) (_:Bool) (r:qaa×Int×Bool):List AObj:=[.box 113 [pK a,.p (.int .i64 r.2.1),.p (.bool r.2.2)]]
def qui (n:Nat) (c:List qap) (b:Bool) (g186:qf5) (i:Int) (l:SS) (m:Int) (o:Bool) (p:Int) (q:SS) (d:List Val) (e f:List SS) (g:List qaa):LK (Int×Int) (qaa×Int×Bool):=fun s (a,j)=>
 bif(decide (a<(((qak [([61]:SS),([60,62]:SS),([60,61]:SS),([60]:SS),([62,61]:SS),([62]:SS),([73,78]:SS)]).length:Nat):Int)))then(
 bnd (idx [([61]:SS),([60,62]:SS),([60,61]:SS),([60]:SS),([62,61]:SS),([62]:SS),([73,78]:SS)] a) fun t=>
 bnd (qaq n t c j b) fun⟨u,k⟩=>
 bif u then(
 bnd (g186 c k b) fun⟨⟨v,w,⟨x,y,z,A,B,C⟩,D,E⟩,F,G⟩=>
 bnd (idx [([61]:SS),([60,62]:SS),([60,61]:SS),([60]:SS),([62,61]:SS),([62]:SS),([73,78]:SS)] a) fun H=>
 bnd (qll n H (qaa.mk i l (Val.mk m o p q d e) f g) (qaa.mk v w (Val.mk x y z A B C) D E)) fun⟨I,J,⟨K,L,M,N,O,P⟩,Q,R⟩=>
 some (qaa.mk I J (Val.mk K L M N O P) Q R,F,G))
 else(
 s ((kwr .i64 (a+1)),k)))
 else(
 some (qaa.mk i l (Val.mk m o p q d e) f g,j,b))
def qxa (n:Nat) (g124:q7e) (g77 g120:qf5) (g159 g173:qf5) (g178 g186:qf5) (g189 g190 g191:qf5) (g192:q7f) (g193:q7g) (a:List qap) (w:Int) (F:Bool):Option (qaa×Int×Bool):=
 bnd (g186 a w F) fun⟨⟨g,i,⟨j,k,l,m,c,d⟩,e,f⟩,s,b⟩=>
 bnd (qaq n ([73,83]:SS) a s b) fun⟨t,o⟩=>
 bif t then(
 bnd (qaq n ([78,79,84]:SS) a o b) fun⟨u,v⟩=>
 bnd (qbu n ([78,85,76,76]:SS) a v b) fun⟨p,q⟩=>
 bif u then(
 bnd (qsc n (12:Int) (qaa.mk g i (Val.mk j k l m c d) e f)) fun⟨x,y,⟨z,A,B,C,D,E⟩,G,H⟩=>
 some (qaa.mk x y (Val.mk z A B C D E) G H,p,q))
 else(
 bnd (qsc n (11:Int) (qaa.mk g i (Val.mk j k l m c d) e f)) fun⟨I,J,⟨K,L,M,N,O,P⟩,Q,R⟩=>
 some (qaa.mk I J (Val.mk K L M N O P) Q R,p,q)))
 else(
 qam (qui n a b g186 g i j k l m c d e f) n ((0:Int),o))
abbrev qxp (_:List qap) (_:Int) (_:Bool) (r:qaa×Int×Bool):FV:=.p ((PV.agg (qck.cells r.1)))
abbrev qxk (a:List qap) (_:Int) (_:Bool) (r:qaa×Int×Bool):List AObj:=[.box 113 [pK a,.p (.int .i64 r.2.1),.p (.bool r.2.2)]]
def qvw (n:Nat) (b:List qap) (g189:qf5):LK (Int×Bool×Int×SS×Int×Bool×Int×SS×List Val×List SS×List SS×List qaa) (qaa×Int×Bool):=fun q (a,c,d,e,f,g,i,j,k,l,m,o)=>
 bnd (qeu n ([43]:SS) b a c) fun p=>
 bif(!p)then(
 bnd (qeu n ([45]:SS) b a c) fun s=>
 bif(bif p then true else s)then(
 bnd (idx b a) fun⟨_,t,_,_⟩=>
 bnd (g189 b (kwr .i64 (a+1)) c) fun⟨⟨u,v,⟨w,x,y,z,A,B⟩,C,D⟩,E,F⟩=>
 bnd (qll n t (qaa.mk d e (Val.mk f g i j k l) m o) (qaa.mk u v (Val.mk w x y z A B) C D)) fun⟨G,H,⟨I,J,K,L,M,N⟩,O,P⟩=>
 q (E,F,G,H,I,J,K,L,M,N,O,P))
 else(
 some (qaa.mk d e (Val.mk f g i j k l) m o,a,c)))
 else(
 bif(bif p then true else false)then(
 bnd (idx b a) fun⟨_,Q,_,_⟩=>
 bnd (g189 b (kwr .i64 (a+1)) c) fun⟨⟨R,S,⟨T,U,V,W,X,Y⟩,Z,a0⟩,a1,a2⟩=>
 bnd (qll n Q (qaa.mk d e (Val.mk f g i j k l) m o) (qaa.mk R S (Val.mk T U V W X Y) Z a0)) fun⟨a3,a4,⟨a5,a6,a7,a8,a9,b0⟩,b1,b2⟩=>
 q (a1,a2,a3,a4,a5,a6,a7,a8,a9,b0,b1,b2))
 else(
 some (qaa.mk d e (Val.mk f g i j k l) m o,a,c)))
def qy4 (n:Nat) (g124:q7e) (g77 g120:qf5) (g159 g173:qf5) (g178 g186:qf5) (g189 g190 g191:qf5) (g192:q7f) (g193:q7g) (a:List qap) (i:Int) (j:Bool):Option (qaa×Int×Bool):=
 bnd (g189 a i j) fun⟨⟨k,l,⟨m,o,p,q,b,c⟩,d,e⟩,f,g⟩=>
 qam (qvw n a g189) n (f,g,k,l,m,o,p,q,b,c,d,e)
abbrev qrt (_:List qap) (_:Int) (_:Bool) (r:qaa×Int×Bool):FV:=.p ((PV.agg (qck.cells r.1)))
abbrev qrs (a:List qap) (_:Int) (_:Bool) (r:qaa×Int×Bool):List AObj:=[.box 113 [pK a,.p (.int .i64 r.2.1),.p (.bool r.2.2)]]
def qqs (n:Nat) (b:List qap) (g190:qf5):LK (Int×Bool×Int×SS×Int×Bool×Int×SS×List Val×List SS×List SS×List qaa) (qaa×Int×Bool):=fun q (a,c,d,e,f,g,i,j,k,l,m,o)=>
 bnd (qeu n ([42]:SS) b a c) fun p=>
 bif(!p)then(
 bnd (qeu n ([47]:SS) b a c) fun s=>
 bif(!(bif p then true else s))then(
 bnd (qeu n ([37]:SS) b a c) fun a0=>
 bif(bif(bif p then true else s)then true else a0)then(
 bnd (idx b a) fun⟨_,a1,_,_⟩=>
 bnd (g190 b (kwr .i64 (a+1)) c) fun⟨⟨a2,a3,⟨a4,a5,a6,a7,a8,a9⟩,b0,b1⟩,b2,b3⟩=>
 bnd (qll n a1 (qaa.mk d e (Val.mk f g i j k l) m o) (qaa.mk a2 a3 (Val.mk a4 a5 a6 a7 a8 a9) b0 b1)) fun⟨b4,b5,⟨b6,b7,b8,b9,c0,c1⟩,c2,c3⟩=>
 q (b2,b3,b4,b5,b6,b7,b8,b9,c0,c1,c2,c3))
 else(
 some (qaa.mk d e (Val.mk f g i j k l) m o,a,c)))
 else(
 bif(bif(bif p then true else s)then true else false)then(
 bnd (idx b a) fun⟨_,c4,_,_⟩=>
 bnd (g190 b (kwr .i64 (a+1)) c) fun⟨⟨c5,c6,⟨c7,c8,c9,d0,d1,d2⟩,d3,d4⟩,d5,d6⟩=>
 bnd (qll n c4 (qaa.mk d e (Val.mk f g i j k l) m o) (qaa.mk c5 c6 (Val.mk c7 c8 c9 d0 d1 d2) d3 d4)) fun⟨d7,d8,⟨d9,e0,e1,e2,e3,e4⟩,e5,e6⟩=>
 q (d5,d6,d7,d8,d9,e0,e1,e2,e3,e4,e5,e6))
 else(
 some (qaa.mk d e (Val.mk f g i j k l) m o,a,c))))
 else(
 bif(!(bif p then true else false))then(
 bnd (qeu n ([37]:SS) b a c) fun e7=>
 bif(bif(bif p then true else false)then true else e7)then(
 bnd (idx b a) fun⟨_,e8,_,_⟩=>
 bnd (g190 b (kwr .i64 (a+1)) c) fun⟨⟨e9,f0,⟨f1,f2,f3,f4,f5,f6⟩,f7,f8⟩,f9,g0⟩=>
 bnd (qll n e8 (qaa.mk d e (Val.mk f g i j k l) m o) (qaa.mk e9 f0 (Val.mk f1 f2 f3 f4 f5 f6) f7 f8)) fun⟨t,u,⟨v,w,x,y,z,A⟩,B,C⟩=>
 q (f9,g0,t,u,v,w,x,y,z,A,B,C))
 else(
 some (qaa.mk d e (Val.mk f g i j k l) m o,a,c)))
 else(
 bif(bif(bif p then true else false)then true else false)then(
 bnd (idx b a) fun⟨_,D,_,_⟩=>
 bnd (g190 b (kwr .i64 (a+1)) c) fun⟨⟨E,F,⟨G,H,I,J,K,L⟩,M,N⟩,O,P⟩=>
 bnd (qll n D (qaa.mk d e (Val.mk f g i j k l) m o) (qaa.mk E F (Val.mk G H I J K L) M N)) fun⟨Q,R,⟨S,T,U,V,W,X⟩,Y,Z⟩=>
 q (O,P,Q,R,S,T,U,V,W,X,Y,Z))
 else(
 some (qaa.mk d e (Val.mk f g i j k l) m o,a,c))))
def qsx (n:Nat) (g124:q7e) (g77 g120:qf5) (g159 g173:qf5) (g178 g186:qf5) (g189 g190 g191:qf5) (g192:q7f) (g193:q7g) (a:List qap) (i:Int) (j:Bool):Option (qaa×Int×Bool):=
 bnd (g190 a i j) fun⟨⟨k,l,⟨m,o,p,q,b,c⟩,d,e⟩,f,g⟩=>
 qam (qqs n a g190) n (f,g,k,l,m,o,p,q,b,c,d,e)
abbrev quq (_:List qap) (_:Int) (_:Bool) (r:qaa×Int×Bool):FV:=.p ((PV.agg (qck.cells r.1)))
abbrev qup (a:List qap) (_:Int) (_:Bool) (r:qaa×Int×Bool):List AObj:=[.box 113 [pK a,.p (.int .i64 r.2.1),.p (.bool r.2.2)]]
def qsy (n:Nat) (b:List qap) (g77:qf5):LK (Int×Bool×Int×SS×Int×Bool×Int×SS×List Val×List SS×List SS×List qaa) (qaa×Int×Bool):=fun o (t,a,c,d,e,f,g,i,j,k,l,m)=>
 bnd (qaq n ([46]:SS) b t a) fun⟨u,q⟩=>
 bif u then(
 bnd (qsc n (4:Int) (qaa.mk c d (Val.mk e f g i j k) l m)) fun⟨v,_,⟨w,x,y,z,A,B⟩,C,D⟩=>
 bnd (qjt n b q a) fun⟨E,F,G⟩=>
 o (F,G,v,E,w,x,y,z,A,B,C,D))
 else(
 bnd (qaq n ([91]:SS) b q a) fun⟨H,p⟩=>
 bif H then(
 bnd (g77 b p a) fun⟨⟨I,J,⟨K,L,M,N,O,P⟩,Q,R⟩,S,T⟩=>
 bnd (qbu n ([93]:SS) b S T) fun⟨U,V⟩=>
 o (U,V,(7:Int),([]:SS),(0:Int),false,(0:Int),([]:SS),([]:List _),([]:List _),([]:List _),[qaa.mk c d (Val.mk e f g i j k) l m,qaa.mk I J (Val.mk K L M N O P) Q R]))
 else(
 bif(c==2)then(
 bnd (qaq n ([58]:SS) b p a) fun⟨W,s⟩=>
 bif(bif(c==2)then W else false)then(
 bnd (qsc n (15:Int) (qaa.mk c d (Val.mk e f g i j k) l m)) fun⟨X,_,⟨Y,Z,a0,a1,a2,a3⟩,a4,a5⟩=>
 bnd (qjt n b s a) fun⟨a6,a7,a8⟩=>
 o (a7,a8,X,a6,Y,Z,a0,a1,a2,a3,a4,a5))
 else(
 some (qaa.mk c d (Val.mk e f g i j k) l m,s,a)))
 else(
 some (qaa.mk c d (Val.mk e f g i j k) l m,p,a))))
def qvq (n:Nat) (g124:q7e) (g77 g120:qf5) (g159 g173:qf5) (g178 g186:qf5) (g189 g190 g191:qf5) (g192:q7f) (g193:q7g) (a:List qap) (p:Int) (b:Bool):Option (qaa×Int×Bool):=
 bnd (qaq n ([45]:SS) a p b) fun⟨L,c⟩=>
 bif L then(
 bnd (g190 a c b) fun⟨⟨M,N,⟨O,P,d,e,f,g⟩,i,j⟩,k,l⟩=>
 bnd (qsc n (8:Int) (qaa.mk M N (Val.mk O P d e f g) i j)) fun⟨m,o,⟨q,s,t,u,v,w⟩,x,y⟩=>
 some (qaa.mk m o (Val.mk q s t u v w) x y,k,l))
 else(
 bnd (g191 a c b) fun⟨⟨z,A,⟨B,C,D,E,F,G⟩,H,I⟩,J,K⟩=>
 qam (qsy n a g77) n (J,K,z,A,B,C,D,E,F,G,H,I))
abbrev qv6 (_:List qap) (_:Int) (_:Bool) (r:qaa×Int×Bool):FV:=.p ((PV.agg (qck.cells r.1)))
abbrev qv2 (a:List qap) (_:Int) (_:Bool) (r:qaa×Int×Bool):List AObj:=[.box 113 [pK a,.p (.int .i64 r.2.1),.p (.bool r.2.2)]]
def qw7 (n:Nat) (g124:q7e) (g77 g120:qf5) (g159 g173:qf5) (g178 g186:qf5) (g189 g190 g191:qf5) (g192:q7f) (g193:q7g) (b:List qap) (c:Int) (a:Bool):Option (qaa×Int×Bool):=
 bif a then(
 some (qaa.mk (0:Int) ([]:SS) (Val.mk (0:Int) false (0:Int) ([]:SS) ([]:List Val) ([]:List SS)) ([]:List SS) ([]:List qaa),c,a))
 else(
 bnd (idx b c) fun⟨e,f,a6,_⟩=>
 bif(e==3)then(
 some (qaa.mk (1:Int) ([]:SS) (Val.mk (2:Int) false a6 ([]:SS) ([]:List Val) ([]:List SS)) ([]:List SS) ([]:List qaa),(kwr .i64 (c+1)),a))
 else(
 bif(e==4)then(
 some (qaa.mk (1:Int) ([]:SS) (Val.mk (3:Int) false (0:Int) f ([]:List Val) ([]:List SS)) ([]:List SS) ([]:List qaa),(kwr .i64 (c+1)),a))
 else(
 bif(e==1)then(
 bnd (qaq n ([40]:SS) b (kwr .i64 (c+1)) a) fun⟨a7,m⟩=>
 bif a7 then(
 bnd (g192 f b m a) fun⟨⟨o,p,⟨q,s,t,u,v,w⟩,x,y⟩,z,A⟩=>
 some (qaa.mk o p (Val.mk q s t u v w) x y,z,A))
 else(
 some (qaa.mk (2:Int) f (Val.mk (0:Int) false (0:Int) ([]:SS) ([]:List Val) ([]:List SS)) ([]:List SS) ([]:List qaa),m,a)))
 else(
 bnd (qaq n ([78,85,76,76]:SS) b c a) fun⟨B,g⟩=>
 bif B then(
 some (qaa.mk (1:Int) ([]:SS) (Val.mk (0:Int) false (0:Int) ([]:SS) ([]:List Val) ([]:List SS)) ([]:List SS) ([]:List qaa),g,a))
 else(
 bnd (qaq n ([84,82,85,69]:SS) b g a) fun⟨C,i⟩=>
 bif C then(
 some (qaa.mk (1:Int) ([]:SS) (Val.mk (1:Int) true (0:Int) ([]:SS) ([]:List Val) ([]:List SS)) ([]:List SS) ([]:List qaa),i,a))
 else(
 bnd (qaq n ([70,65,76,83,69]:SS) b i a) fun⟨D,j⟩=>
 bif D then(
 some (qaa.mk (1:Int) ([]:SS) (Val.mk (1:Int) false (0:Int) ([]:SS) ([]:List Val) ([]:List SS)) ([]:List SS) ([]:List qaa),j,a))
 else(
 bnd (qaq n ([36]:SS) b j a) fun⟨E,k⟩=>
 bif E then(
 bnd (qhr n b k a) fun⟨F,G,H⟩=>
 some (qaa.mk (3:Int) F (Val.mk (0:Int) false (0:Int) ([]:SS) ([]:List Val) ([]:List SS)) ([]:List SS) ([]:List qaa),G,H))
 else(
 bnd (qaq n ([40]:SS) b k a) fun⟨I,l⟩=>
 bif I then(
 bnd (g77 b l a) fun⟨⟨J,K,⟨L,M,N,O,P,Q⟩,R,S⟩,T,U⟩=>
 bnd (qbu n ([41]:SS) b T U) fun⟨V,W⟩=>
 some (qaa.mk J K (Val.mk L M N O P Q) R S,V,W))
 else(
 bnd (qaq n ([91]:SS) b l a) fun⟨X,d⟩=>
 bif X then(
 bnd (g193 ([93]:SS) b d a) fun⟨Y,Z,a0⟩=>
 some (qaa.mk (5:Int) ([]:SS) (Val.mk (0:Int) false (0:Int) ([]:SS) ([]:List Val) ([]:List SS)) ([]:List SS) Y,Z,a0))
 else(
 bnd (qeu n ([123]:SS) b d a) fun a1=>
 bif a1 then(
 bnd (g124 b d a) fun⟨a2,a3,a4,a5⟩=>
 some (qaa.mk (6:Int) ([]:SS) (Val.mk (0:Int) false (0:Int) ([]:SS) ([]:List Val) ([]:List SS)) a2 a3,a4,a5))
 else(
 some (qaa.mk (0:Int) ([]:SS) (Val.mk (0:Int) false (0:Int) ([]:SS) ([]:List Val) ([]:List SS)) ([]:List SS) ([]:List qaa),d,true))))))))))))
abbrev qv7 (_:List qap) (_:Int) (_:Bool) (r:qaa×Int×Bool):FV:=.p ((PV.agg (qck.cells r.1)))
abbrev qv3 (a:List qap) (_:Int) (_:Bool) (r:qaa×Int×Bool):List AObj:=[.box 113 [pK a,.p (.int .i64 r.2.1),.p (.bool r.2.2)]]
def qw8 (n:Nat) (g124:q7e) (g77 g120:qf5) (g159 g173:qf5) (g178 g186:qf5) (g189 g190 g191:qf5) (g192:q7f) (g193:q7g) (a:SS) (b:List qap) (d:Int) (c:Bool):Option (qaa×Int×Bool):=
 bnd (qkf n a) fun M=>
 bif(!M)then(
 bnd (g193 ([41]:SS) b d c) fun⟨N,O,P⟩=>
 some (qaa.mk (13:Int) a (Val.mk (0:Int) false (0:Int) ([]:SS) ([]:List Val) ([]:List SS)) ([]:List SS) N,O,P))
 else(
 bif(a==([99,111,117,110,116]:SS))then(
 bnd (qaq n ([42]:SS) b d c) fun⟨Q,e⟩=>
 bif(bif(a==([99,111,117,110,116]:SS))then Q else false)then(
 bnd (qbu n ([41]:SS) b e c) fun⟨f,g⟩=>
 some (qaa.mk (14:Int) a (Val.mk (0:Int) false (0:Int) ([]:SS) ([]:List Val) ([]:List SS)) ([]:List SS) ([]:List qaa),f,g))
 else(
 bnd (g77 b e c) fun⟨⟨i,j,⟨k,l,m,o,p,q⟩,s,t⟩,u,v⟩=>
 bnd (qbu n ([41]:SS) b u v) fun⟨w,x⟩=>
 some (qaa.mk (14:Int) a (Val.mk (0:Int) false (0:Int) ([]:SS) ([]:List Val) ([]:List SS)) ([]:List SS) [qaa.mk i j (Val.mk k l m o p q) s t],w,x)))
 else(
 bnd (g77 b d c) fun⟨⟨y,z,⟨A,B,C,D,E,F⟩,G,H⟩,I,J⟩=>
 bnd (qbu n ([41]:SS) b I J) fun⟨K,L⟩=>
 some (qaa.mk (14:Int) a (Val.mk (0:Int) false (0:Int) ([]:SS) ([]:List Val) ([]:List SS)) ([]:List SS) [qaa.mk y z (Val.mk A B C D E F) G H],K,L)))
abbrev qv8 (_:List qap) (_:Int) (_:Bool) (r:(List qaa)×Int×Bool):FV:=.p (.sl (qaa.rows r.1))
abbrev qv4 (a:List qap) (_:Int) (_:Bool) (r:(List qaa)×Int×Bool):List AObj:=[.box 113 [pK a,.p (.int .i64 r.2.1),.p (.bool r.2.2)]]
def qud (n:Nat) (g77:qf5) (l:List qap) (s:SS):LK (List qaa×Int×Bool) ((List qaa)×Int×Bool):=fun q (o,x,y)=>
 bnd (g77 l x y) fun⟨⟨a,b,⟨c,d,e,f,g,i⟩,j,k⟩,t,m⟩=>
 chk (decide ((qaa.rows (o++[qaa.mk a b (Val.mk c d e f g i) j k])).length * 160<=140737488355328)) (
 bnd (qaq n ([44]:SS) l t m) fun⟨u,p⟩=>
 bif(!u)then(
 bnd (qbu n s l p m) fun⟨v,w⟩=>
 some ((o++[qaa.mk a b (Val.mk c d e f g i) j k]),v,w))
 else(
 q ((o++[qaa.mk a b (Val.mk c d e f g i) j k]),p,m)))
def qw9 (n:Nat) (g124:q7e) (g77 g120:qf5) (g159 g173:qf5) (g178 g186:qf5) (g189 g190 g191:qf5) (g192:q7f) (g193:q7g) (b:SS) (c:List qap) (e:Int) (a:Bool):Option ((List qaa)×Int×Bool):=
 bnd (qaq n b c e a) fun⟨f,d⟩=>
 bif f then(
 some (([]:List qaa),d,a))
 else(
 qam (qud n g77 c b) n (([]:List _),d,a))
abbrev zm9 (g124:q7e):Prop:=∀ (a:List qap) (b:Int) (c:Bool) (r:(List SS)×(List qaa)×Int×Bool),g124 a b c=some r->qbq TP 124 [.ptr 0 0] [.box 113 [pK a,pI b,pB c]] 1 (fun v lo=>v=qq3 a b c r/\lo=qq2 a b c r)
abbrev zna (g77:qf5):Prop:=∀ (a:List qap) (b:Int) (c:Bool) (r:qaa×Int×Bool),g77 a b c=some r->qbq TP 77 [.ptr 0 0] [.box 113 [pK a,pI b,pB c]] 1 (fun v lo=>v=qr5 a b c r/\lo=qr4 a b c r)
abbrev znb (g120:qf5):Prop:=∀ (a:List qap) (b:Int) (c:Bool) (r:qaa×Int×Bool),g120 a b c=some r->qbq TP 120 [.ptr 0 0] [.box 113 [pK a,pI b,pB c]] 1 (fun v lo=>v=qxq a b c r/\lo=qxl a b c r)
abbrev znc (g159:qf5):Prop:=∀ (a:List qap) (b:Int) (c:Bool) (r:qaa×Int×Bool),g159 a b c=some r->qbq TP 159 [.ptr 0 0] [.box 113 [pK a,pI b,pB c]] 1 (fun v lo=>v=qxn a b c r/\lo=qxi a b c r)
abbrev znd (g173:qf5):Prop:=∀ (a:List qap) (b:Int) (c:Bool) (r:qaa×Int×Bool),g173 a b c=some r->qbq TP 173 [.ptr 0 0] [.box 113 [pK a,pI b,pB c]] 1 (fun v lo=>v=qxo a b c r/\lo=qxj a b c r)
abbrev zne (g178:qf5):Prop:=∀ (a:List qap) (b:Int) (c:Bool) (r:qaa×Int×Bool),g178 a b c=some r->qbq TP 178 [.ptr 0 0] [.box 113 [pK a,pI b,pB c]] 1 (fun v lo=>v=qv9 a b c r/\lo=qv5 a b c r)
abbrev znf (g186:qf5):Prop:=∀ (a:List qap) (b:Int) (c:Bool) (r:qaa×Int×Bool),g186 a b c=some r->qbq TP 186 [.ptr 0 0] [.box 113 [pK a,pI b,pB c]] 1 (fun v lo=>v=qxp a b c r/\lo=qxk a b c r)
abbrev zng (g189:qf5):Prop:=∀ (a:List qap) (b:Int) (c:Bool) (r:qaa×Int×Bool),g189 a b c=some r->qbq TP 189 [.ptr 0 0] [.box 113 [pK a,pI b,pB c]] 1 (fun v lo=>v=qrt a b c r/\lo=qrs a b c r)
abbrev znh (g190:qf5):Prop:=∀ (a:List qap) (b:Int) (c:Bool) (r:qaa×Int×Bool),g190 a b c=some r->qbq TP 190 [.ptr 0 0] [.box 113 [pK a,pI b,pB c]] 1 (fun v lo=>v=quq a b c r/\lo=qup a b c r)
abbrev zni (g191:qf5):Prop:=∀ (a:List qap) (b:Int) (c:Bool) (r:qaa×Int×Bool),g191 a b c=some r->qbq TP 191 [.ptr 0 0] [.box 113 [pK a,pI b,pB c]] 1 (fun v lo=>v=qv6 a b c r/\lo=qv2 a b c r)
abbrev q7c (g192:q7f):Prop:=∀ (d:SS) (a:List qap) (b:Int) (c:Bool) (r:qaa×Int×Bool),g192 d a b c=some r->qbq TP 192 [.ptr 0 0,.p (PV.str d)] [.box 113 [pK a,pI b,pB c]] 1 (fun v lo=>v=qv7 a b c r/\lo=qv3 a b c r)
abbrev q7d (g193:q7g):Prop:=∀ (d:SS) (a:List qap) (b:Int) (c:Bool) (r:(List qaa)×Int×Bool),g193 d a b c=some r->qbq TP 193 [.ptr 0 0,.p (PV.str d)] [.box 113 [pK a,pI b,pB c]] 1 (fun v lo=>v=qv8 a b c r/\lo=qv4 a b c r)
theorem q4z (n:Nat) (g124:q7e) (g77 g120:qf5) (g159 g173:qf5) (g178 g186:qf5) (g189 g190 g191:qf5) (g192:q7f) (g193:q7g) (g124_ok:zm9 g124) (g77_ok:zna g77) (g120_ok:znb g120) (g159_ok:znc g159) (g173_ok:znd g173) (g178_ok:zne g178) (g186_ok:znf g186) (g189_ok:zng g189) (g190_ok:znh g190) (g191_ok:zni g191) (g192_ok:q7c g192) (g193_ok:q7d g193):∀ (a:List qap) (s:Int) (t:Bool) (r:(List SS)×(List qaa)×Int×Bool),qvr n g124 g77 g120 g159 g173 g178 g186 g189 g190 g191 g192 g193 a s t=some r->qbq TP 124 [.ptr 0 0] [.box 113 [pK a,pI s,pB t]] 1 (fun v lo=>v=qq3 a s t r/\lo=qq2 a s t r):=by
 intro a s t r h;unfold qvr at h;refine zO Tryz.call124 Tryz.func124 [74,77,78,123,1000000] ?_;conv=>whnf
 refine bq h fun⟨U,D⟩ E h=>?_;refine qcq (qa6 n _ _ _ _ _ E) [0] [] ?_;rintro _ _ ⟨rfl,rfl⟩;refine⟨.p (.tup []),[.box 113 [pK a,pI U,pB D]],rfl,rfl,?_⟩;conv=>whnf
 refine bq h fun⟨V,W⟩ F h=>?_;refine qcq (qal n _ _ _ _ _ F) [0] [] ?_;rintro _ _ ⟨rfl,rfl⟩;refine⟨pB V,[.box 113 [pK a,pI W,pB D]],rfl,rfl,?_⟩;conv=>whnf
 apply ifc h<;>intro A h
 ·obtain rfl:=sj h
  conv=>whnf
  refine⟨_,_,⟨rfl,rfl⟩,wk [0] []⟩
 conv=>whnf
 refine qbh.fn [74,77,78,123,1000000] (S:=List SS×List qaa×Int×Bool) (fun(b,c,u,w)=>[(0,.ptr 0 0),(4,.tsl 1 (qak b)),(5,.tsl 2 (qaa.rows c))]) (fun(b,c,u,w)=>[.box 113 [pK a,pI u,pB w],.tail 9 1 (qak b).length,.tail 46 10 (qaa.rows c).length]) (B:=qs0 n a g77) h (wk [0,0,0] [1,2]) ?_;intro _ st h;obtain⟨b,c,u,w⟩:=st;unfold qs0 at h;conv=>whnf
 apply ifc h<;>intro A h
 ·conv=>whnf
  refine bq h fun⟨q,L,M⟩ G h=>?_;refine qcq (qhq n _ _ _ _ G) [0] [] ?_;rintro _ _ ⟨rfl,rfl⟩;refine⟨pS q,[.box 113 [pK a,pI L,pB M],.tail 9 1 (qak b).length,.tail 46 10 (qaa.rows c).length],rfl,rfl,?_⟩;conv=>whnf
  refine bq h fun⟨N,O⟩ H h=>?_;refine qcq (qa6 n _ _ _ _ _ H) [0] [] ?_;rintro _ _ ⟨rfl,rfl⟩;refine⟨.p (.tup []),[.box 113 [pK a,pI N,pB O],.tail 9 1 (qak b).length,.tail 46 10 (qaa.rows c).length],rfl,rfl,?_⟩;conv=>whnf
  refine bq h fun⟨⟨d,e,⟨f,g,i,j,k,l⟩,m,o⟩,P,x⟩ I h=>?_;refine qcq (g77_ok _ _ _ _ I) [0] [] ?_;rintro _ _ ⟨rfl,rfl⟩;refine⟨.p (.agg [.int .i64 d,.str e,.int .i64 f,.bool g,.int .i64 i,.str j,.sl (Val.rows k),.sl (qak l),.sl (qak m),.sl (qaa.rows o)]),[.box 113 [pK a,pI P,pB x],.tail 9 1 (qak b).length,.tail 46 10 (qaa.rows c).length],rfl,rfl,?_⟩;conv=>whnf
  refine⟨Codec.one qpr [q],qak [q],.inl rfl,?_⟩;conv=>whnf
  rw[show qak b++qak [q]=qak (b++[q])from Codec.append qpr b [q]];conv=>whnf
  obtain⟨z,h⟩:=qah h;refine⟨⟨Codec.wide qpr (b++[q]),kod z,qb5 z (by decide)⟩,?_⟩;conv=>whnf
  refine⟨⟨rfl,rfl,rfl⟩,?_⟩;conv=>whnf
  refine⟨Codec.one qck [qaa.mk d e (Val.mk f g i j k l) m o],qaa.rows [qaa.mk d e (Val.mk f g i j k l) m o],.inl rfl,?_⟩;conv=>whnf
  rw[show qaa.rows c++qaa.rows [qaa.mk d e (Val.mk f g i j k l) m o]=qaa.rows (c++[qaa.mk d e (Val.mk f g i j k l) m o])from Codec.append qck c [qaa.mk d e (Val.mk f g i j k l) m o]];conv=>whnf
  obtain⟨y,h⟩:=qah h;refine⟨⟨Codec.wide qck (c++[qaa.mk d e (Val.mk f g i j k l) m o]),kod y,qb5 y (by decide)⟩,?_⟩;conv=>whnf
  refine⟨⟨rfl,rfl,rfl⟩,?_⟩;conv=>whnf
  refine bq h fun⟨Q,C⟩ J h=>?_;refine qcq (qal n _ _ _ _ _ J) [0] [] ?_;rintro _ _ ⟨rfl,rfl⟩;refine⟨pB Q,[.box 113 [pK a,pI C,pB x],.dead,.dead,.box 46 [pI d,pS e,pI f,pB g,pI i,pS j,pV k,pT l,pT m,pE o],.tail 9 1 (qak (b++[q])).length,.tail 46 10 (qaa.rows (c++[qaa.mk d e (Val.mk f g i j k l) m o])).length],rfl,rfl,?_⟩;conv=>whnf
  apply ifc h<;>intro A h
  ·conv=>whnf
   refine bq h fun⟨R,T⟩ K h=>?_;refine qcq (qa6 n _ _ _ _ _ K) [0] [] ?_;rintro _ _ ⟨rfl,rfl⟩;refine⟨.p (.tup []),[.box 113 [pK a,pI R,pB T],.dead,.dead,.box 46 [pI d,pS e,pI f,pB g,pI i,pS j,pV k,pT l,pT m,pE o],.tail 9 1 (qak (b++[q])).length,.tail 46 10 (qaa.rows (c++[qaa.mk d e (Val.mk f g i j k l) m o])).length],rfl,rfl,?_⟩;obtain rfl:=sj h;conv=>whnf
   refine⟨_,_,⟨rfl,rfl⟩,wk [0] []⟩
  conv=>whnf
  exact⟨((b++[q]),(c++[qaa.mk d e (Val.mk f g i j k l) m o]),C,x),h,wk [0,4,5] []⟩
 obtain rfl:=sj h;conv=>whnf
 refine⟨_,_,⟨rfl,rfl⟩,wk [0] []⟩
theorem q6r (n:Nat) (g124:q7e) (g77 g120:qf5) (g159 g173:qf5) (g178 g186:qf5) (g189 g190 g191:qf5) (g192:q7f) (g193:q7g) (g124_ok:zm9 g124) (g77_ok:zna g77) (g120_ok:znb g120) (g159_ok:znc g159) (g173_ok:znd g173) (g178_ok:zne g178) (g186_ok:znf g186) (g189_ok:zng g189) (g190_ok:znh g190) (g191_ok:zni g191) (g192_ok:q7c g192) (g193_ok:q7d g193):∀ (a:List qap) (d:Int) (o:Bool) (r:qaa×Int×Bool),qw6 n g124 g77 g120 g159 g173 g178 g186 g189 g190 g191 g192 g193 a d o=some r->qbq TP 77 [.ptr 0 0] [.box 113 [pK a,pI d,pB o]] 1 (fun v lo=>v=qr5 a d o r/\lo=qr4 a d o r):=by
 intro a d o r h;unfold qw6 at h;refine zO Tryz.call77 Tryz.func77 [74,120,1000000] ?_;conv=>whnf
 refine bq h fun⟨⟨U,a3,⟨a6,a7,a8,a9,A,C⟩,D,E⟩,F,G⟩ w h=>?_;refine qcq (g120_ok _ _ _ _ w) [0] [] ?_;rintro _ _ ⟨rfl,rfl⟩;refine⟨.p (.agg [.int .i64 U,.str a3,.int .i64 a6,.bool a7,.int .i64 a8,.str a9,.sl (Val.rows A),.sl (qak C),.sl (qak D),.sl (qaa.rows E)]),[.box 113 [pK a,pI F,pB G],zq4],rfl,rfl,?_⟩;conv=>whnf
 refine qbh.fn [74,120,1000000] (S:=Int×Bool×Int×SS×Int×Bool×Int×SS×List Val×List SS×List SS×List qaa) (fun(s,q,b,c,e,f,g,i,j,k,l,m)=>[(0,.ptr 0 0),(2,.ptr 1 0),(3,.ptr 2 0)]) (fun(s,q,b,c,e,f,g,i,j,k,l,m)=>[.box 113 [pK a,pI s,pB q],zq4,.box 46 [pI b,pS c,pI e,pB f,pI g,pS i,pV j,pT k,pT l,pE m]]) (B:=quc n a g120) h (wk [0,1,2] []) ?_;intro _ st h;obtain⟨s,q,b,c,e,f,g,i,j,k,l,m⟩:=st;unfold quc at h;conv=>whnf
 refine bq h fun⟨H,I⟩ x h=>?_;refine qcq (qal n _ _ _ _ _ x) [0] [] ?_;rintro _ _ ⟨rfl,rfl⟩;refine⟨pB H,[.box 113 [pK a,pI I,pB q],zq4,.box 46 [pI b,pS c,pI e,pB f,pI g,pS i,pV j,pT k,pT l,pE m]],rfl,rfl,?_⟩;conv=>whnf
 apply ifc h<;>intro _ h
 ·conv=>whnf
  refine bq h fun⟨⟨J,K,⟨L,M,N,O,P,Q⟩,R,T⟩,t,u⟩ y h=>?_;refine qcq (g120_ok _ _ _ _ y) [0] [] ?_;rintro _ _ ⟨rfl,rfl⟩;refine⟨.p (.agg [.int .i64 J,.str K,.int .i64 L,.bool M,.int .i64 N,.str O,.sl (Val.rows P),.sl (qak Q),.sl (qak R),.sl (qaa.rows T)]),[.box 113 [pK a,pI t,pB u],zq4,.box 46 [pI b,pS c,pI e,pB f,pI g,pS i,pV j,pT k,pT l,pE m]],rfl,rfl,?_⟩;conv=>whnf
  refine bq h fun⟨V,W,⟨X,Y,Z,a0,a1,a2⟩,a4,a5⟩ z h=>?_;refine⟨_,(qhs n _ _ _ _ z),?_⟩;conv=>whnf
  exact⟨(t,u,V,W,X,Y,Z,a0,a1,a2,a4,a5),h,wk [0,1,2] []⟩
 obtain rfl:=sj h;conv=>whnf
 refine⟨_,_,⟨rfl,rfl⟩,wk [0] []⟩
theorem q8j (n:Nat) (g124:q7e) (g77 g120:qf5) (g159 g173:qf5) (g178 g186:qf5) (g189 g190 g191:qf5) (g192:q7f) (g193:q7g) (g124_ok:zm9 g124) (g77_ok:zna g77) (g120_ok:znb g120) (g159_ok:znc g159) (g173_ok:znd g173) (g178_ok:zne g178) (g186_ok:znf g186) (g189_ok:zng g189) (g190_ok:znh g190) (g191_ok:zni g191) (g192_ok:q7c g192) (g193_ok:q7d g193):∀ (a:List qap) (d:Int) (o:Bool) (r:qaa×Int×Bool),qy5 n g124 g77 g120 g159 g173 g178 g186 g189 g190 g191 g192 g193 a d o=some r->qbq TP 120 [.ptr 0 0] [.box 113 [pK a,pI d,pB o]] 1 (fun v lo=>v=qxq a d o r/\lo=qxl a d o r):=by
 intro a d o r h;unfold qy5 at h;refine zO Tryz.call120 Tryz.func120 [74,159,1000000] ?_;conv=>whnf
 refine bq h fun⟨⟨U,a3,⟨a6,a7,a8,a9,A,C⟩,D,E⟩,F,G⟩ w h=>?_;refine qcq (g159_ok _ _ _ _ w) [0] [] ?_;rintro _ _ ⟨rfl,rfl⟩;refine⟨.p (.agg [.int .i64 U,.str a3,.int .i64 a6,.bool a7,.int .i64 a8,.str a9,.sl (Val.rows A),.sl (qak C),.sl (qak D),.sl (qaa.rows E)]),[.box 113 [pK a,pI F,pB G],zq4],rfl,rfl,?_⟩;conv=>whnf
 refine qbh.fn [74,159,1000000] (S:=Int×Bool×Int×SS×Int×Bool×Int×SS×List Val×List SS×List SS×List qaa) (fun(s,q,b,c,e,f,g,i,j,k,l,m)=>[(0,.ptr 0 0),(2,.ptr 1 0),(3,.ptr 2 0)]) (fun(s,q,b,c,e,f,g,i,j,k,l,m)=>[.box 113 [pK a,pI s,pB q],zq4,.box 46 [pI b,pS c,pI e,pB f,pI g,pS i,pV j,pT k,pT l,pE m]]) (B:=qvx n a g159) h (wk [0,1,2] []) ?_;intro _ st h;obtain⟨s,q,b,c,e,f,g,i,j,k,l,m⟩:=st;unfold qvx at h;conv=>whnf
 refine bq h fun⟨H,I⟩ x h=>?_;refine qcq (qal n _ _ _ _ _ x) [0] [] ?_;rintro _ _ ⟨rfl,rfl⟩;refine⟨pB H,[.box 113 [pK a,pI I,pB q],zq4,.box 46 [pI b,pS c,pI e,pB f,pI g,pS i,pV j,pT k,pT l,pE m]],rfl,rfl,?_⟩;conv=>whnf
 apply ifc h<;>intro _ h
 ·conv=>whnf
  refine bq h fun⟨⟨J,K,⟨L,M,N,O,P,Q⟩,R,T⟩,t,u⟩ y h=>?_;refine qcq (g159_ok _ _ _ _ y) [0] [] ?_;rintro _ _ ⟨rfl,rfl⟩;refine⟨.p (.agg [.int .i64 J,.str K,.int .i64 L,.bool M,.int .i64 N,.str O,.sl (Val.rows P),.sl (qak Q),.sl (qak R),.sl (qaa.rows T)]),[.box 113 [pK a,pI t,pB u],zq4,.box 46 [pI b,pS c,pI e,pB f,pI g,pS i,pV j,pT k,pT l,pE m]],rfl,rfl,?_⟩;conv=>whnf
  refine bq h fun⟨V,W,⟨X,Y,Z,a0,a1,a2⟩,a4,a5⟩ z h=>?_;refine⟨_,(qhs n _ _ _ _ z),?_⟩;conv=>whnf
  exact⟨(t,u,V,W,X,Y,Z,a0,a1,a2,a4,a5),h,wk [0,1,2] []⟩
 obtain rfl:=sj h;conv=>whnf
 refine⟨_,_,⟨rfl,rfl⟩,wk [0] []⟩
theorem q8g (n:Nat) (g124:q7e) (g77 g120:qf5) (g159 g173:qf5) (g178 g186:qf5) (g189 g190 g191:qf5) (g192:q7f) (g193:q7g) (g124_ok:zm9 g124) (g77_ok:zna g77) (g120_ok:znb g120) (g159_ok:znc g159) (g173_ok:znd g173) (g178_ok:zne g178) (g186_ok:znf g186) (g189_ok:zng g189) (g190_ok:znh g190) (g191_ok:zni g191) (g192_ok:q7c g192) (g193_ok:q7d g193):∀ (a:List qap) (d:Int) (o:Bool) (r:qaa×Int×Bool),qy2 n g124 g77 g120 g159 g173 g178 g186 g189 g190 g191 g192 g193 a d o=some r->qbq TP 159 [.ptr 0 0] [.box 113 [pK a,pI d,pB o]] 1 (fun v lo=>v=qxn a d o r/\lo=qxi a d o r):=by
 intro a d o r h;unfold qy2 at h;refine zO Tryz.call159 Tryz.func159 [74,173,1000000] ?_;conv=>whnf
 refine bq h fun⟨⟨U,a3,⟨a6,a7,a8,a9,A,C⟩,D,E⟩,F,G⟩ w h=>?_;refine qcq (g173_ok _ _ _ _ w) [0] [] ?_;rintro _ _ ⟨rfl,rfl⟩;refine⟨.p (.agg [.int .i64 U,.str a3,.int .i64 a6,.bool a7,.int .i64 a8,.str a9,.sl (Val.rows A),.sl (qak C),.sl (qak D),.sl (qaa.rows E)]),[.box 113 [pK a,pI F,pB G],zq4],rfl,rfl,?_⟩;conv=>whnf
 refine qbh.fn [74,173,1000000] (S:=Int×Bool×Int×SS×Int×Bool×Int×SS×List Val×List SS×List SS×List qaa) (fun(s,q,b,c,e,f,g,i,j,k,l,m)=>[(0,.ptr 0 0),(2,.ptr 1 0),(3,.ptr 2 0)]) (fun(s,q,b,c,e,f,g,i,j,k,l,m)=>[.box 113 [pK a,pI s,pB q],zq4,.box 46 [pI b,pS c,pI e,pB f,pI g,pS i,pV j,pT k,pT l,pE m]]) (B:=qvu n a g173) h (wk [0,1,2] []) ?_;intro _ st h;obtain⟨s,q,b,c,e,f,g,i,j,k,l,m⟩:=st;unfold qvu at h;conv=>whnf
 refine bq h fun⟨H,I⟩ x h=>?_;refine qcq (qal n _ _ _ _ _ x) [0] [] ?_;rintro _ _ ⟨rfl,rfl⟩;refine⟨pB H,[.box 113 [pK a,pI I,pB q],zq4,.box 46 [pI b,pS c,pI e,pB f,pI g,pS i,pV j,pT k,pT l,pE m]],rfl,rfl,?_⟩;conv=>whnf
 apply ifc h<;>intro _ h
 ·conv=>whnf
  refine bq h fun⟨⟨J,K,⟨L,M,N,O,P,Q⟩,R,T⟩,t,u⟩ y h=>?_;refine qcq (g173_ok _ _ _ _ y) [0] [] ?_;rintro _ _ ⟨rfl,rfl⟩;refine⟨.p (.agg [.int .i64 J,.str K,.int .i64 L,.bool M,.int .i64 N,.str O,.sl (Val.rows P),.sl (qak Q),.sl (qak R),.sl (qaa.rows T)]),[.box 113 [pK a,pI t,pB u],zq4,.box 46 [pI b,pS c,pI e,pB f,pI g,pS i,pV j,pT k,pT l,pE m]],rfl,rfl,?_⟩;conv=>whnf
  refine bq h fun⟨V,W,⟨X,Y,Z,a0,a1,a2⟩,a4,a5⟩ z h=>?_;refine⟨_,(qhs n _ _ _ _ z),?_⟩;conv=>whnf
  exact⟨(t,u,V,W,X,Y,Z,a0,a1,a2,a4,a5),h,wk [0,1,2] []⟩
 obtain rfl:=sj h;conv=>whnf
 refine⟨_,_,⟨rfl,rfl⟩,wk [0] []⟩
theorem q8h (n:Nat) (g124:q7e) (g77 g120:qf5) (g159 g173:qf5) (g178 g186:qf5) (g189 g190 g191:qf5) (g192:q7f) (g193:q7g) (g124_ok:zm9 g124) (g77_ok:zna g77) (g120_ok:znb g120) (g159_ok:znc g159) (g173_ok:znd g173) (g178_ok:zne g178) (g186_ok:znf g186) (g189_ok:zng g189) (g190_ok:znh g190) (g191_ok:zni g191) (g192_ok:q7c g192) (g193_ok:q7d g193):∀ (a:List qap) (c:Int) (b:Bool) (r:qaa×Int×Bool),qy3 n g124 g77 g120 g159 g173 g178 g186 g189 g190 g191 g192 g193 a c b=some r->qbq TP 173 [.ptr 0 0] [.box 113 [pK a,pI c,pB b]] 1 (fun v lo=>v=qxo a c b r/\lo=qxj a c b r):=by
 intro a c b r h;unfold qy3 at h;refine zO Tryz.call173 Tryz.func173 [74,173,178,1000000] ?_;conv=>whnf
 refine bq h fun⟨G,H⟩ d h=>?_;refine qcq (qal n _ _ _ _ _ d) [0] [] ?_;rintro _ _ ⟨rfl,rfl⟩;refine⟨pB G,[.box 113 [pK a,pI H,pB b],zq4],rfl,rfl,?_⟩;conv=>whnf
 apply ifc h<;>intro _ h
 ·conv=>whnf
  refine bq h fun⟨⟨I,J,⟨K,L,i,j,k,l⟩,m,o⟩,q,s⟩ e h=>?_;refine qcq (g173_ok _ _ _ _ e) [0] [] ?_;rintro _ _ ⟨rfl,rfl⟩;refine⟨.p (.agg [.int .i64 I,.str J,.int .i64 K,.bool L,.int .i64 i,.str j,.sl (Val.rows k),.sl (qak l),.sl (qak m),.sl (qaa.rows o)]),[.box 113 [pK a,pI q,pB s],zq4],rfl,rfl,?_⟩;conv=>whnf
  refine bq h fun⟨_,_,⟨_,_,_,_,_,_⟩,_,_⟩ f h=>?_;refine⟨_,(qp7 n _ _ _ f),?_⟩;obtain rfl:=sj h;conv=>whnf
  refine⟨_,_,⟨rfl,rfl⟩,wk [0] []⟩
 conv=>whnf
 refine bq h fun⟨⟨t,u,⟨w,x,y,z,A,B⟩,C,D⟩,E,F⟩ g h=>?_;refine qcq (g178_ok _ _ _ _ g) [0] [] ?_;rintro _ _ ⟨rfl,rfl⟩;refine⟨.p (.agg [.int .i64 t,.str u,.int .i64 w,.bool x,.int .i64 y,.str z,.sl (Val.rows A),.sl (qak B),.sl (qak C),.sl (qaa.rows D)]),[.box 113 [pK a,pI E,pB F],zq4],rfl,rfl,?_⟩;obtain rfl:=sj h;conv=>whnf
 refine⟨_,_,⟨rfl,rfl⟩,wk [0] []⟩
theorem q6v (n:Nat) (g124:q7e) (g77 g120:qf5) (g159 g173:qf5) (g178 g186:qf5) (g189 g190 g191:qf5) (g192:q7f) (g193:q7g) (g124_ok:zm9 g124) (g77_ok:zna g77) (g120_ok:znb g120) (g159_ok:znc g159) (g173_ok:znd g173) (g178_ok:zne g178) (g186_ok:znf g186) (g189_ok:zng g189) (g190_ok:znh g190) (g191_ok:zni g191) (g192_ok:q7c g192) (g193_ok:q7d g193):∀ (a:List qap) (o:Int) (q:Bool) (r:qaa×Int×Bool),qxa n g124 g77 g120 g159 g173 g178 g186 g189 g190 g191 g192 g193 a o q=some r->qbq TP 178 [.ptr 0 0] [.box 113 [pK a,pI o,pB q]] 1 (fun v lo=>v=qv9 a o q r/\lo=qv5 a o q r):=by
 intro a o q r h;unfold qxa at h;refine zO Tryz.call178 Tryz.func178 [74,78,186,1000000] ?_;conv=>whnf
 refine bq h fun⟨⟨f,g,⟨i,j,k,l,b,c⟩,d,e⟩,J,m⟩ x h=>?_;refine qcq (g186_ok _ _ _ _ x) [0] [] ?_;rintro _ _ ⟨rfl,rfl⟩;refine⟨.p (.agg [.int .i64 f,.str g,.int .i64 i,.bool j,.int .i64 k,.str l,.sl (Val.rows b),.sl (qak c),.sl (qak d),.sl (qaa.rows e)]),[.box 113 [pK a,pI J,pB m],zq4],rfl,rfl,?_⟩;conv=>whnf
 refine bq h fun⟨K,L⟩ A h=>?_;refine qcq (qal n _ _ _ _ _ A) [0] [] ?_;rintro _ _ ⟨rfl,rfl⟩;refine⟨pB K,[.box 113 [pK a,pI L,pB m],zq4,.box 46 [pI f,pS g,pI i,pB j,pI k,pS l,pV b,pT c,pT d,pE e]],rfl,rfl,?_⟩;conv=>whnf
 apply ifc h<;>intro t h
 ·conv=>whnf
  refine bq h fun⟨M,N⟩ C h=>?_;refine qcq (qal n _ _ _ _ _ C) [0] [] ?_;rintro _ _ ⟨rfl,rfl⟩;refine⟨pB M,[.box 113 [pK a,pI N,pB m],zq4,.box 46 [pI f,pS g,pI i,pB j,pI k,pS l,pV b,pT c,pT d,pE e]],rfl,rfl,?_⟩;conv=>whnf
  refine bq h fun⟨O,P⟩ D h=>?_;refine qcq (qa6 n _ _ _ _ _ D) [0] [] ?_;rintro _ _ ⟨rfl,rfl⟩;refine⟨.p (.tup []),[.box 113 [pK a,pI O,pB P],zq4,.box 46 [pI f,pS g,pI i,pB j,pI k,pS l,pV b,pT c,pT d,pE e]],rfl,rfl,?_⟩;conv=>whnf
  apply ifc h<;>intro t h
  ·conv=>whnf
   refine bq h fun⟨_,_,⟨_,_,_,_,_,_⟩,_,_⟩ E h=>?_;refine⟨_,(qp7 n _ _ _ E),?_⟩;obtain rfl:=sj h;conv=>whnf
   refine⟨_,_,⟨rfl,rfl⟩,wk [0] []⟩
  conv=>whnf
  refine bq h fun⟨_,_,⟨_,_,_,_,_,_⟩,_,_⟩ F h=>?_;refine⟨_,(qp7 n _ _ _ F),?_⟩;obtain rfl:=sj h;conv=>whnf
  refine⟨_,_,⟨rfl,rfl⟩,wk [0] []⟩
 conv=>whnf
 refine⟨Codec.one qpr [([61]:SS),([60,62]:SS),([60,61]:SS),([60]:SS),([62,61]:SS),([62]:SS),([73,78]:SS)],qak [([61]:SS),([60,62]:SS),([60,61]:SS),([60]:SS),([62,61]:SS),([62]:SS),([73,78]:SS)],.inl rfl,?_⟩;conv=>whnf
 refine qbh.fn [74,78,186,1000000] (S:=Int×Int) (fun(s,u)=>[(0,.ptr 0 0),(2,.ptr 1 0),(3,.ptr 2 0),(5,.p (.sl (qak [([61]:SS),([60,62]:SS),([60,61]:SS),([60]:SS),([62,61]:SS),([62]:SS),([73,78]:SS)]))),(6,pI s)]) (fun(s,u)=>[.box 113 [pK a,pI u,pB m],zq4,.box 46 [pI f,pS g,pI i,pB j,pI k,pS l,pV b,pT c,pT d,pE e]]) (B:=qui n a m g186 f g i j k l b c d e) h (wk [0,1,2] []) ?_;intro _ st h;obtain⟨s,u⟩:=st;unfold qui at h;conv=>whnf
 apply ifc h<;>intro t h
 ·conv=>whnf
  refine bq h fun _ z h=>?_;refine⟨_,Codec.at_ qpr z,?_⟩;conv=>whnf
  refine bq h fun⟨Q,w⟩ G h=>?_;refine qcq (qal n _ _ _ _ _ G) [0] [] ?_;rintro _ _ ⟨rfl,rfl⟩;refine⟨pB Q,[.box 113 [pK a,pI w,pB m],zq4,.box 46 [pI f,pS g,pI i,pB j,pI k,pS l,pV b,pT c,pT d,pE e]],rfl,rfl,?_⟩;conv=>whnf
  apply ifc h<;>intro t h
  ·conv=>whnf
   refine bq h fun⟨⟨R,T,⟨U,V,W,X,Y,Z⟩,a0,a1⟩,a2,a3⟩ H h=>?_;refine qcq (g186_ok _ _ _ _ H) [0] [] ?_;rintro _ _ ⟨rfl,rfl⟩;refine⟨.p (.agg [.int .i64 R,.str T,.int .i64 U,.bool V,.int .i64 W,.str X,.sl (Val.rows Y),.sl (qak Z),.sl (qak a0),.sl (qaa.rows a1)]),[.box 113 [pK a,pI a2,pB a3],zq4,.box 46 [pI f,pS g,pI i,pB j,pI k,pS l,pV b,pT c,pT d,pE e]],rfl,rfl,?_⟩;conv=>whnf
   refine bq h fun _ y h=>?_;refine⟨_,Codec.at_ qpr y,?_⟩;conv=>whnf
   refine bq h fun⟨_,_,⟨_,_,_,_,_,_⟩,_,_⟩ I h=>?_;refine⟨_,(qhs n _ _ _ _ I),?_⟩;obtain rfl:=sj h;conv=>whnf
   refine⟨_,_,⟨rfl,rfl⟩,wk [0] []⟩
  conv=>whnf
  exact⟨((kwr .i64 (s+1)),w),h,wk [0,1,2] []⟩
 obtain rfl:=sj h;conv=>whnf
 refine⟨_,_,⟨rfl,rfl⟩,wk [0] []⟩
theorem q8i (n:Nat) (g124:q7e) (g77 g120:qf5) (g159 g173:qf5) (g178 g186:qf5) (g189 g190 g191:qf5) (g192:q7f) (g193:q7g) (g124_ok:zm9 g124) (g77_ok:zna g77) (g120_ok:znb g120) (g159_ok:znc g159) (g173_ok:znd g173) (g178_ok:zne g178) (g186_ok:znf g186) (g189_ok:zng g189) (g190_ok:znh g190) (g191_ok:zni g191) (g192_ok:q7c g192) (g193_ok:q7d g193):∀ (a:List qap) (q:Int) (s:Bool) (r:qaa×Int×Bool),qy4 n g124 g77 g120 g159 g173 g178 g186 g189 g190 g191 g192 g193 a q s=some r->qbq TP 186 [.ptr 0 0] [.box 113 [pK a,pI q,pB s]] 1 (fun v lo=>v=qxp a q s r/\lo=qxk a q s r):=by
 intro a q s r h;unfold qy4 at h;refine zO Tryz.call186 Tryz.func186 [83,189,1000000] ?_;conv=>whnf
 refine bq h fun⟨⟨Z,a8,⟨b5,c6,d5,d8,K,L⟩,M,N⟩,O,P⟩ z h=>?_;refine qcq (g189_ok _ _ _ _ z) [0] [] ?_;rintro _ _ ⟨rfl,rfl⟩;refine⟨.p (.agg [.int .i64 Z,.str a8,.int .i64 b5,.bool c6,.int .i64 d5,.str d8,.sl (Val.rows K),.sl (qak L),.sl (qak M),.sl (qaa.rows N)]),[.box 113 [pK a,pI O,pB P],zq4],rfl,rfl,?_⟩;conv=>whnf
 refine qbh.fn [83,189,1000000] (S:=Int×Bool×Int×SS×Int×Bool×Int×SS×List Val×List SS×List SS×List qaa) (fun(m,o,b,c,d,e,f,g,i,j,k,l)=>[(0,.ptr 0 0),(2,.ptr 1 0),(3,.ptr 2 0)]) (fun(m,o,b,c,d,e,f,g,i,j,k,l)=>[.box 113 [pK a,pI m,pB o],zq4,.box 46 [pI b,pS c,pI d,pB e,pI f,pS g,pV i,pT j,pT k,pE l]]) (B:=qvw n a g189) h (wk [0,1,2] []) ?_;intro _ st h;obtain⟨m,o,b,c,d,e,f,g,i,j,k,l⟩:=st;unfold qvw at h;conv=>whnf
 refine bq h fun Q A h=>?_;refine qcq (qdm n _ _ _ _ _ A) [0] [] ?_;rintro _ _ ⟨rfl,rfl⟩;refine⟨pB Q,[.box 113 [pK a,pI m,pB o],zq4,.box 46 [pI b,pS c,pI d,pB e,pI f,pS g,pV i,pT j,pT k,pE l]],rfl,rfl,?_⟩;conv=>whnf
 refine⟨fun t=>?_,fun t=>?_⟩
 ·have h:=q10 h t
  conv=>whnf
  refine⟨id,?_⟩;conv=>whnf
  refine bq h fun R C h=>?_;refine qcq (qdm n _ _ _ _ _ C) [0] [] ?_;rintro _ _ ⟨rfl,rfl⟩;refine⟨pB R,[.box 113 [pK a,pI m,pB o],zq4,.box 46 [pI b,pS c,pI d,pB e,pI f,pS g,pV i,pT j,pT k,pE l]],rfl,rfl,?_⟩;conv=>whnf
  refine⟨id,?_⟩;conv=>whnf
  apply ifc h<;>intro J h
  ·conv=>whnf
   refine bq h fun⟨_,_,_,_⟩ F h=>?_;refine⟨_,Codec.at_ qsv F,?_⟩;conv=>whnf
   refine bq h fun⟨⟨T,U,⟨V,W,X,Y,a0,a1⟩,a2,a3⟩,u,w⟩ D h=>?_;refine qcq (g189_ok _ _ _ _ D) [0] [] ?_;rintro _ _ ⟨rfl,rfl⟩;refine⟨.p (.agg [.int .i64 T,.str U,.int .i64 V,.bool W,.int .i64 X,.str Y,.sl (Val.rows a0),.sl (qak a1),.sl (qak a2),.sl (qaa.rows a3)]),[.box 113 [pK a,pI u,pB w],zq4,.box 46 [pI b,pS c,pI d,pB e,pI f,pS g,pV i,pT j,pT k,pE l]],rfl,rfl,?_⟩;conv=>whnf
   refine bq h fun⟨a4,a5,⟨a6,a7,a9,b0,b1,b2⟩,b3,b4⟩ E h=>?_;refine⟨_,(qhs n _ _ _ _ E),?_⟩;conv=>whnf
   exact⟨(u,w,a4,a5,a6,a7,a9,b0,b1,b2,b3,b4),h,wk [0,1,2] []⟩
  obtain rfl:=sj h;conv=>whnf
  refine⟨_,_,⟨rfl,rfl⟩,wk [0] []⟩
 have h:=q1z h t;refine⟨pB false,?_⟩;conv=>whnf
 refine⟨id,?_⟩;conv=>whnf
 apply ifc h<;>intro J h
 ·conv=>whnf
  refine bq h fun⟨_,_,_,_⟩ I h=>?_;refine⟨_,Codec.at_ qsv I,?_⟩;conv=>whnf
  refine bq h fun⟨⟨b6,b7,⟨b8,b9,c0,c1,c2,c3⟩,c4,c5⟩,x,y⟩ G h=>?_;refine qcq (g189_ok _ _ _ _ G) [0] [] ?_;rintro _ _ ⟨rfl,rfl⟩;refine⟨.p (.agg [.int .i64 b6,.str b7,.int .i64 b8,.bool b9,.int .i64 c0,.str c1,.sl (Val.rows c2),.sl (qak c3),.sl (qak c4),.sl (qaa.rows c5)]),[.box 113 [pK a,pI x,pB y],zq4,.box 46 [pI b,pS c,pI d,pB e,pI f,pS g,pV i,pT j,pT k,pE l]],rfl,rfl,?_⟩;conv=>whnf
  refine bq h fun⟨c7,c8,⟨c9,d0,d1,d2,d3,d4⟩,d6,d7⟩ H h=>?_;refine⟨_,(qhs n _ _ _ _ H),?_⟩;conv=>whnf
  exact⟨(x,y,c7,c8,c9,d0,d1,d2,d3,d4,d6,d7),h,wk [0,1,2] []⟩
 obtain rfl:=sj h;conv=>whnf
 refine⟨_,_,⟨rfl,rfl⟩,wk [0] []⟩
set_option maxHeartbeats 4000000 in
theorem q15 (n:Nat) (g124:q7e) (g77 g120:qf5) (g159 g173:qf5) (g178 g186:qf5) (g189 g190 g191:qf5) (g192:q7f) (g193:q7g) (g124_ok:zm9 g124) (g77_ok:zna g77) (g120_ok:znb g120) (g159_ok:znc g159) (g173_ok:znd g173) (g178_ok:zne g178) (g186_ok:znf g186) (g189_ok:zng g189) (g190_ok:znh g190) (g191_ok:zni g191) (g192_ok:q7c g192) (g193_ok:q7d g193):∀ (a:List qap) (s:Int) (t:Bool) (r:qaa×Int×Bool),qsx n g124 g77 g120 g159 g173 g178 g186 g189 g190 g191 g192 g193 a s t=some r->qbq TP 189 [.ptr 0 0] [.box 113 [pK a,pI s,pB t]] 1 (fun v lo=>v=qrt a s t r/\lo=qrs a s t r):=by
 intro a s t r h;unfold qsx at h;refine zO Tryz.call189 Tryz.func189 [83,190,1000000] ?_;conv=>whnf
 refine bq h fun⟨⟨e1,f0,⟨f8,g8,i7,j4,X,a8⟩,b5,c4⟩,d1,d2⟩ F h=>?_;refine qcq (g190_ok _ _ _ _ F) [0] [] ?_;rintro _ _ ⟨rfl,rfl⟩;refine⟨.p (.agg [.int .i64 e1,.str f0,.int .i64 f8,.bool g8,.int .i64 i7,.str j4,.sl (Val.rows X),.sl (qak a8),.sl (qak b5),.sl (qaa.rows c4)]),[.box 113 [pK a,pI d1,pB d2],zq4],rfl,rfl,?_⟩;conv=>whnf
 refine qbh.fn [83,190,1000000] (S:=Int×Bool×Int×SS×Int×Bool×Int×SS×List Val×List SS×List SS×List qaa) (fun(o,q,c,d,e,f,g,i,j,k,l,m)=>[(0,.ptr 0 0),(2,.ptr 1 0),(3,.ptr 2 0)]) (fun(o,q,c,d,e,f,g,i,j,k,l,m)=>[.box 113 [pK a,pI o,pB q],zq4,.box 46 [pI c,pS d,pI e,pB f,pI g,pS i,pV j,pT k,pT l,pE m]]) (B:=qqs n a g190) h (wk [0,1,2] []) ?_;intro _ st h;obtain⟨o,q,c,d,e,f,g,i,j,k,l,m⟩:=st;unfold qqs at h;conv=>whnf
 refine bq h fun d3 O h=>?_;refine qcq (qdm n _ _ _ _ _ O) [0] [] ?_;rintro _ _ ⟨rfl,rfl⟩;refine⟨pB d3,[.box 113 [pK a,pI o,pB q],zq4,.box 46 [pI c,pS d,pI e,pB f,pI g,pS i,pV j,pT k,pT l,pE m]],rfl,rfl,?_⟩;conv=>whnf
 refine⟨fun b=>?_,fun b=>?_⟩
 ·have h:=q10 h b
  conv=>whnf
  refine⟨id,?_⟩;conv=>whnf
  refine bq h fun d4 P h=>?_;refine qcq (qdm n _ _ _ _ _ P) [0] [] ?_;rintro _ _ ⟨rfl,rfl⟩;refine⟨pB d4,[.box 113 [pK a,pI o,pB q],zq4,.box 46 [pI c,pS d,pI e,pB f,pI g,pS i,pV j,pT k,pT l,pE m]],rfl,rfl,?_⟩;conv=>whnf
  refine⟨id,?_⟩;conv=>whnf
  refine⟨fun b=>?_,fun b=>?_⟩
  ·have h:=q10 h b
   conv=>whnf
   refine⟨id,?_⟩;conv=>whnf
   refine bq h fun d5 Q h=>?_;refine qcq (qdm n _ _ _ _ _ Q) [0] [] ?_;rintro _ _ ⟨rfl,rfl⟩;refine⟨pB d5,[.box 113 [pK a,pI o,pB q],zq4,.box 46 [pI c,pS d,pI e,pB f,pI g,pS i,pV j,pT k,pT l,pE m]],rfl,rfl,?_⟩;conv=>whnf
   refine⟨id,?_⟩;conv=>whnf
   apply ifc h<;>intro u h
   ·conv=>whnf
    refine bq h fun⟨_,_,_,_⟩ U h=>?_;refine⟨_,Codec.at_ qsv U,?_⟩;(conv=>whnf);refine bq h fun⟨⟨d6,d7,⟨d8,d9,e0,e2,e3,e4⟩,e5,e6⟩,y,z⟩ R h=>?_;refine qcq (g190_ok _ _ _ _ R) [0] [] ?_;rintro _ _ ⟨rfl,rfl⟩;refine⟨.p (.agg [.int .i64 d6,.str d7,.int .i64 d8,.bool d9,.int .i64 e0,.str e2,.sl (Val.rows e3),.sl (qak e4),.sl (qak e5),.sl (qaa.rows e6)]),[.box 113 [pK a,pI y,pB z],zq4,.box 46 [pI c,pS d,pI e,pB f,pI g,pS i,pV j,pT k,pT l,pE m]],rfl,rfl,?_⟩;(conv=>whnf);refine bq h fun⟨e7,e8,⟨e9,f1,f2,f3,f4,f5⟩,f6,f7⟩ T h=>?_;refine⟨_,(qhs n _ _ _ _ T),?_⟩;(conv=>whnf);exact⟨(y,z,e7,e8,e9,f1,f2,f3,f4,f5,f6,f7),h,wk [0,1,2] []⟩
   obtain rfl:=sj h;conv=>whnf
   refine⟨_,_,⟨rfl,rfl⟩,wk [0] []⟩
  have h:=q1z h b;refine⟨pB false,?_⟩;conv=>whnf
  refine⟨id,?_⟩;conv=>whnf
  apply ifc h<;>intro u h
  ·conv=>whnf
   refine bq h fun⟨_,_,_,_⟩ G h=>?_;refine⟨_,Codec.at_ qsv G,?_⟩;conv=>whnf
   refine bq h fun⟨⟨f9,g0,⟨g1,g2,g3,g4,g5,g6⟩,g7,g9⟩,A,C⟩ V h=>?_;refine qcq (g190_ok _ _ _ _ V) [0] [] ?_;rintro _ _ ⟨rfl,rfl⟩;refine⟨.p (.agg [.int .i64 f9,.str g0,.int .i64 g1,.bool g2,.int .i64 g3,.str g4,.sl (Val.rows g5),.sl (qak g6),.sl (qak g7),.sl (qaa.rows g9)]),[.box 113 [pK a,pI A,pB C],zq4,.box 46 [pI c,pS d,pI e,pB f,pI g,pS i,pV j,pT k,pT l,pE m]],rfl,rfl,?_⟩;conv=>whnf
   refine bq h fun⟨i0,i1,⟨i2,i3,i4,i5,i6,i8⟩,i9,j0⟩ W h=>?_;refine⟨_,(qhs n _ _ _ _ W),?_⟩;conv=>whnf
   exact⟨(A,C,i0,i1,i2,i3,i4,i5,i6,i8,i9,j0),h,wk [0,1,2] []⟩
  obtain rfl:=sj h;conv=>whnf
  refine⟨_,_,⟨rfl,rfl⟩,wk [0] []⟩
 have h:=q1z h b;refine⟨pB false,?_⟩;conv=>whnf
 refine⟨id,?_⟩;conv=>whnf
 refine⟨fun b=>?_,fun b=>?_⟩
 ·have h:=q10 h b
  conv=>whnf
  refine⟨id,?_⟩;conv=>whnf
  refine bq h fun j1 H h=>?_;refine qcq (qdm n _ _ _ _ _ H) [0] [] ?_;rintro _ _ ⟨rfl,rfl⟩;refine⟨pB j1,[.box 113 [pK a,pI o,pB q],zq4,.box 46 [pI c,pS d,pI e,pB f,pI g,pS i,pV j,pT k,pT l,pE m]],rfl,rfl,?_⟩;conv=>whnf
  refine⟨id,?_⟩;conv=>whnf
  apply ifc h<;>intro u h
  ·conv=>whnf
   refine bq h fun⟨_,_,_,_⟩ K h=>?_;refine⟨_,Codec.at_ qsv K,?_⟩;conv=>whnf
   refine bq h fun⟨⟨j2,j3,⟨j5,j6,j7,j8,j9,k0⟩,k1,k2⟩,D,E⟩ I h=>?_;refine qcq (g190_ok _ _ _ _ I) [0] [] ?_;rintro _ _ ⟨rfl,rfl⟩;refine⟨.p (.agg [.int .i64 j2,.str j3,.int .i64 j5,.bool j6,.int .i64 j7,.str j8,.sl (Val.rows j9),.sl (qak k0),.sl (qak k1),.sl (qaa.rows k2)]),[.box 113 [pK a,pI D,pB E],zq4,.box 46 [pI c,pS d,pI e,pB f,pI g,pS i,pV j,pT k,pT l,pE m]],rfl,rfl,?_⟩;conv=>whnf
   refine bq h fun⟨Y,Z,⟨a0,a1,a2,a3,a4,a5⟩,a6,a7⟩ J h=>?_;refine⟨_,(qhs n _ _ _ _ J),?_⟩;conv=>whnf
   exact⟨(D,E,Y,Z,a0,a1,a2,a3,a4,a5,a6,a7),h,wk [0,1,2] []⟩
  obtain rfl:=sj h;conv=>whnf
  refine⟨_,_,⟨rfl,rfl⟩,wk [0] []⟩
 have h:=q1z h b;refine⟨pB false,?_⟩;conv=>whnf
 refine⟨id,?_⟩;conv=>whnf
 apply ifc h<;>intro u h
 ·conv=>whnf
  refine bq h fun⟨_,_,_,_⟩ N h=>?_;refine⟨_,Codec.at_ qsv N,?_⟩;conv=>whnf
  refine bq h fun⟨⟨a9,b0,⟨b1,b2,b3,b4,b6,b7⟩,b8,b9⟩,w,x⟩ L h=>?_;refine qcq (g190_ok _ _ _ _ L) [0] [] ?_;rintro _ _ ⟨rfl,rfl⟩;refine⟨.p (.agg [.int .i64 a9,.str b0,.int .i64 b1,.bool b2,.int .i64 b3,.str b4,.sl (Val.rows b6),.sl (qak b7),.sl (qak b8),.sl (qaa.rows b9)]),[.box 113 [pK a,pI w,pB x],zq4,.box 46 [pI c,pS d,pI e,pB f,pI g,pS i,pV j,pT k,pT l,pE m]],rfl,rfl,?_⟩;conv=>whnf
  refine bq h fun⟨c0,c1,⟨c2,c3,c5,c6,c7,c8⟩,c9,d0⟩ M h=>?_;refine⟨_,(qhs n _ _ _ _ M),?_⟩;conv=>whnf
  exact⟨(w,x,c0,c1,c2,c3,c5,c6,c7,c8,c9,d0),h,wk [0,1,2] []⟩
 obtain rfl:=sj h;conv=>whnf
 refine⟨_,_,⟨rfl,rfl⟩,wk [0] []⟩
set_option maxHeartbeats 4000000 in
theorem q4y (n:Nat) (g124:q7e) (g77 g120:qf5) (g159 g173:qf5) (g178 g186:qf5) (g189 g190 g191:qf5) (g192:q7f) (g193:q7g) (g124_ok:zm9 g124) (g77_ok:zna g77) (g120_ok:znb g120) (g159_ok:znc g159) (g173_ok:znd g173) (g178_ok:zne g178) (g186_ok:znf g186) (g189_ok:zng g189) (g190_ok:znh g190) (g191_ok:zni g191) (g192_ok:q7c g192) (g193_ok:q7d g193):∀ (a:List qap) (q:Int) (m:Bool) (r:qaa×Int×Bool),qvq n g124 g77 g120 g159 g173 g178 g186 g189 g190 g191 g192 g193 a q m=some r->qbq TP 190 [.ptr 0 0] [.box 113 [pK a,pI q,pB m]] 1 (fun v lo=>v=quq a q m r/\lo=qup a q m r):=by
 intro a q m r h;unfold qvq at h;refine zO Tryz.call190 Tryz.func190 [74,77,78,123,190,191,1000000] ?_;conv=>whnf
 refine bq h fun⟨e1,e2⟩ a8 h=>?_;refine qcq (qal n _ _ _ _ _ a8) [0] [] ?_;rintro _ _ ⟨rfl,rfl⟩;refine⟨pB e1,[.box 113 [pK a,pI e2,pB m],zq4],rfl,rfl,?_⟩;conv=>whnf
 apply ifc h<;>intro E h
 ·conv=>whnf
  refine bq h fun⟨⟨e6,e9,⟨f1,f6,c1,c2,c3,c4⟩,c5,c6⟩,c7,c8⟩ b3 h=>?_;refine qcq (g190_ok _ _ _ _ b3) [0] [] ?_;rintro _ _ ⟨rfl,rfl⟩;refine⟨.p (.agg [.int .i64 e6,.str e9,.int .i64 f1,.bool f6,.int .i64 c1,.str c2,.sl (Val.rows c3),.sl (qak c4),.sl (qak c5),.sl (qaa.rows c6)]),[.box 113 [pK a,pI c7,pB c8],zq4],rfl,rfl,?_⟩;conv=>whnf
  refine bq h fun⟨_,_,⟨_,_,_,_,_,_⟩,_,_⟩ b4 h=>?_;refine⟨_,(qp7 n _ _ _ b4),?_⟩;obtain rfl:=sj h;conv=>whnf
  refine⟨_,_,⟨rfl,rfl⟩,wk [0] []⟩
 conv=>whnf
 refine bq h fun⟨⟨c9,d0,⟨d1,d2,d3,d4,d5,d6⟩,d7,d8⟩,d9,e0⟩ b5 h=>?_;refine qcq (g191_ok _ _ _ _ b5) [0] [] ?_;rintro _ _ ⟨rfl,rfl⟩;refine⟨.p (.agg [.int .i64 c9,.str d0,.int .i64 d1,.bool d2,.int .i64 d3,.str d4,.sl (Val.rows d5),.sl (qak d6),.sl (qak d7),.sl (qaa.rows d8)]),[.box 113 [pK a,pI d9,pB e0],zq4],rfl,rfl,?_⟩;conv=>whnf
 refine qbh.fn [74,77,78,123,190,191,1000000] (S:=Int×Bool×Int×SS×Int×Bool×Int×SS×List Val×List SS×List SS×List qaa) (fun(G,o,b,c,d,e,f,g,i,j,k,l)=>[(0,.ptr 0 0),(2,.ptr 1 0),(4,.ptr 2 0)]) (fun(G,o,b,c,d,e,f,g,i,j,k,l)=>[.box 113 [pK a,pI G,pB o],zq4,.box 46 [pI b,pS c,pI d,pB e,pI f,pS g,pV i,pT j,pT k,pE l]]) (B:=qsy n a g77) h (wk [0,1,2] []) ?_;intro _ st h;obtain⟨G,o,b,c,d,e,f,g,i,j,k,l⟩:=st;unfold qsy at h;conv=>whnf
 refine bq h fun⟨e3,e4⟩ b6 h=>?_;refine qcq (qal n _ _ _ _ _ b6) [0] [] ?_;rintro _ _ ⟨rfl,rfl⟩;refine⟨pB e3,[.box 113 [pK a,pI e4,pB o],zq4,.box 46 [pI b,pS c,pI d,pB e,pI f,pS g,pV i,pT j,pT k,pE l]],rfl,rfl,?_⟩;conv=>whnf
 apply ifc h<;>intro E h
 ·conv=>whnf
  refine bq h fun⟨H,e5,⟨I,J,K,L,M,N⟩,O,P⟩ b8 h=>?_;refine⟨_,(qp7 n _ _ _ b8),?_⟩;conv=>whnf
  refine bq h fun⟨Q,R,T⟩ b7 h=>?_;refine qcq (qhq n _ _ _ _ b7) [0] [] ?_;rintro _ _ ⟨rfl,rfl⟩;refine⟨pS Q,[.box 113 [pK a,pI R,pB T],zq4,.box 46 [pI H,pS e5,pI I,pB J,pI K,pS L,pV M,pT N,pT O,pE P]],rfl,rfl,?_⟩;conv=>whnf
  exact⟨(R,T,H,Q,I,J,K,L,M,N,O,P),h,wk [0,1,2] []⟩
 conv=>whnf
 refine bq h fun⟨e7,e8⟩ b9 h=>?_;refine qcq (qal n _ _ _ _ _ b9) [0] [] ?_;rintro _ _ ⟨rfl,rfl⟩;refine⟨pB e7,[.box 113 [pK a,pI e8,pB o],zq4,.box 46 [pI b,pS c,pI d,pB e,pI f,pS g,pV i,pT j,pT k,pE l]],rfl,rfl,?_⟩;conv=>whnf
 apply ifc h<;>intro E h
 ·conv=>whnf
  refine bq h fun⟨⟨s,t,⟨u,w,x,y,z,A⟩,C,D⟩,f0,f2⟩ c0 h=>?_;refine qcq (g77_ok _ _ _ _ c0) [0] [] ?_;rintro _ _ ⟨rfl,rfl⟩;refine⟨.p (.agg [.int .i64 s,.str t,.int .i64 u,.bool w,.int .i64 x,.str y,.sl (Val.rows z),.sl (qak A),.sl (qak C),.sl (qaa.rows D)]),[.box 113 [pK a,pI f0,pB f2],zq4,.box 46 [pI b,pS c,pI d,pB e,pI f,pS g,pV i,pT j,pT k,pE l]],rfl,rfl,?_⟩;conv=>whnf
  refine bq h fun⟨U,V⟩ a9 h=>?_;refine qcq (qa6 n _ _ _ _ _ a9) [0] [] ?_;rintro _ _ ⟨rfl,rfl⟩;refine⟨.p (.tup []),[.box 113 [pK a,pI U,pB V],zq4,.box 46 [pI b,pS c,pI d,pB e,pI f,pS g,pV i,pT j,pT k,pE l],.box 46 [pI s,pS t,pI u,pB w,pI x,pS y,pV z,pT A,pT C,pE D]],rfl,rfl,?_⟩;conv=>whnf
  refine⟨Codec.one qck [qaa.mk b c (Val.mk d e f g i j) k l,qaa.mk s t (Val.mk u w x y z A) C D],qaa.rows [qaa.mk b c (Val.mk d e f g i j) k l,qaa.mk s t (Val.mk u w x y z A) C D],.inl rfl,?_⟩;conv=>whnf
  exact⟨(U,V,(7:Int),([]:SS),(0:Int),false,(0:Int),([]:SS),([]:List _),([]:List _),([]:List _),[qaa.mk b c (Val.mk d e f g i j) k l,qaa.mk s t (Val.mk u w x y z A) C D]),h,wk [0,1,2] []⟩
 conv=>whnf
 refine⟨fun F=>?_,fun F=>?_⟩
 ·have h:=q10 h F
  conv=>whnf
  refine⟨id,?_⟩;conv=>whnf
  refine bq h fun⟨f3,f4⟩ b0 h=>?_;refine qcq (qal n _ _ _ _ _ b0) [0] [] ?_;rintro _ _ ⟨rfl,rfl⟩;refine⟨pB f3,[.box 113 [pK a,pI f4,pB o],zq4,.box 46 [pI b,pS c,pI d,pB e,pI f,pS g,pV i,pT j,pT k,pE l]],rfl,rfl,?_⟩;conv=>whnf
  refine⟨id,?_⟩;conv=>whnf
  apply ifc h<;>intro E h
  ·conv=>whnf
   refine bq h fun⟨W,f5,⟨X,Y,Z,a0,a1,a2⟩,a3,a4⟩ b2 h=>?_;refine⟨_,(qp7 n _ _ _ b2),?_⟩;conv=>whnf
   refine bq h fun⟨a5,a6,a7⟩ b1 h=>?_;refine qcq (qhq n _ _ _ _ b1) [0] [] ?_;rintro _ _ ⟨rfl,rfl⟩;refine⟨pS a5,[.box 113 [pK a,pI a6,pB a7],zq4,.box 46 [pI W,pS f5,pI X,pB Y,pI Z,pS a0,pV a1,pT a2,pT a3,pE a4]],rfl,rfl,?_⟩;conv=>whnf
   exact⟨(a6,a7,W,a5,X,Y,Z,a0,a1,a2,a3,a4),h,wk [0,1,2] []⟩
  obtain rfl:=sj h;conv=>whnf
  refine⟨_,_,⟨rfl,rfl⟩,wk [0] []⟩
 have h:=q1z h F;refine⟨pB false,?_⟩;conv=>whnf
 refine⟨id,?_⟩;conv=>whnf
 refine⟨fun hf=>absurd hf (by first|decide|simp),fun _=>?_⟩;obtain rfl:=sj h;conv=>whnf
 refine⟨_,_,⟨rfl,rfl⟩,wk [0] []⟩
set_option maxHeartbeats 4000000 in
theorem q6s (n:Nat) (g124:q7e) (g77 g120:qf5) (g159 g173:qf5) (g178 g186:qf5) (g189 g190 g191:qf5) (g192:q7f) (g193:q7g) (g124_ok:zm9 g124) (g77_ok:zna g77) (g120_ok:znb g120) (g159_ok:znc g159) (g173_ok:znd g173) (g178_ok:zne g178) (g186_ok:znf g186) (g189_ok:zng g189) (g190_ok:znh g190) (g191_ok:zni g191) (g192_ok:q7c g192) (g193_ok:q7d g193):∀ (a:List qap) (i:Int) (f:Bool) (r:qaa×Int×Bool),qw7 n g124 g77 g120 g159 g173 g178 g186 g189 g190 g191 g192 g193 a i f=some r->qbq TP 191 [.ptr 0 0] [.box 113 [pK a,pI i,pB f]] 1 (fun v lo=>v=qv6 a i f r/\lo=qv2 a i f r):=by
 intro a i f r h;unfold qw7 at h;refine zO Tryz.call191 Tryz.func191 [74,77,78,79,83,124,192,193,40000003,1000000] ?_;conv=>whnf
 apply ifc h<;>intro g h
 ·obtain rfl:=sj h
  conv=>whnf
  refine⟨_,_,⟨rfl,rfl⟩,wk [0] []⟩
 conv=>whnf
 refine bq h fun⟨b,c,d,e⟩ E h=>?_;refine⟨_,Codec.at_ qsv E,?_⟩;conv=>whnf
 apply ifc h<;>intro g h
 ·obtain rfl:=sj h
  conv=>whnf
  refine⟨_,_,⟨rfl,rfl⟩,wk [0] []⟩
 conv=>whnf
 apply ifc h<;>intro g h
 ·obtain rfl:=sj h
  conv=>whnf
  refine⟨_,_,⟨rfl,rfl⟩,wk [0] []⟩
 conv=>whnf
 apply ifc h<;>intro g h
 ·conv=>whnf
  refine bq h fun⟨c5,c6⟩ y h=>?_;refine qcq (qal n _ _ _ _ _ y) [0] [] ?_;rintro _ _ ⟨rfl,rfl⟩;refine⟨pB c5,[.box 113 [pK a,pI c6,pB f],zq4,.box 115 [pI b,pS c,pI d,pI e]],rfl,rfl,?_⟩;conv=>whnf
  apply ifc h<;>intro g h
  ·conv=>whnf
   refine bq h fun⟨⟨N,O,⟨P,Q,R,S,T,U⟩,V,W⟩,X,Y⟩ F h=>?_;refine qcq (g192_ok _ _ _ _ _ F) [0] [] ?_;rintro _ _ ⟨rfl,rfl⟩;refine⟨.p (.agg [.int .i64 N,.str O,.int .i64 P,.bool Q,.int .i64 R,.str S,.sl (Val.rows T),.sl (qak U),.sl (qak V),.sl (qaa.rows W)]),[.box 113 [pK a,pI X,pB Y],zq4,.box 115 [pI b,pS c,pI d,pI e]],rfl,rfl,?_⟩;obtain rfl:=sj h;conv=>whnf
   refine⟨_,_,⟨rfl,rfl⟩,wk [0] []⟩
  obtain rfl:=sj h;conv=>whnf
  refine⟨_,_,⟨rfl,rfl⟩,wk [0] []⟩
 conv=>whnf
 refine bq h fun⟨Z,a0⟩ G h=>?_;refine qcq (qal n _ _ _ _ _ G) [0] [] ?_;rintro _ _ ⟨rfl,rfl⟩;refine⟨pB Z,[.box 113 [pK a,pI a0,pB f],zq4,.box 115 [pI b,pS c,pI d,pI e]],rfl,rfl,?_⟩;conv=>whnf
 apply ifc h<;>intro g h
 ·obtain rfl:=sj h
  conv=>whnf
  refine⟨_,_,⟨rfl,rfl⟩,wk [0] []⟩
 conv=>whnf
 refine bq h fun⟨a1,a2⟩ H h=>?_;refine qcq (qal n _ _ _ _ _ H) [0] [] ?_;rintro _ _ ⟨rfl,rfl⟩;refine⟨pB a1,[.box 113 [pK a,pI a2,pB f],zq4,.box 115 [pI b,pS c,pI d,pI e]],rfl,rfl,?_⟩;conv=>whnf
 apply ifc h<;>intro g h
 ·obtain rfl:=sj h
  conv=>whnf
  refine⟨_,_,⟨rfl,rfl⟩,wk [0] []⟩
 conv=>whnf
 refine bq h fun⟨a3,a4⟩ I h=>?_;refine qcq (qal n _ _ _ _ _ I) [0] [] ?_;rintro _ _ ⟨rfl,rfl⟩;refine⟨pB a3,[.box 113 [pK a,pI a4,pB f],zq4,.box 115 [pI b,pS c,pI d,pI e]],rfl,rfl,?_⟩;conv=>whnf
 apply ifc h<;>intro g h
 ·obtain rfl:=sj h
  conv=>whnf
  refine⟨_,_,⟨rfl,rfl⟩,wk [0] []⟩
 conv=>whnf
 refine bq h fun⟨a5,a6⟩ J h=>?_;refine qcq (qal n _ _ _ _ _ J) [0] [] ?_;rintro _ _ ⟨rfl,rfl⟩;refine⟨pB a5,[.box 113 [pK a,pI a6,pB f],zq4,.box 115 [pI b,pS c,pI d,pI e]],rfl,rfl,?_⟩;conv=>whnf
 apply ifc h<;>intro g h
 ·conv=>whnf
  refine bq h fun⟨a7,a8,a9⟩ K h=>?_;refine qcq (qgl n _ _ _ _ K) [0] [] ?_;rintro _ _ ⟨rfl,rfl⟩;refine⟨pS a7,[.box 113 [pK a,pI a8,pB a9],zq4,.box 115 [pI b,pS c,pI d,pI e]],rfl,rfl,?_⟩;obtain rfl:=sj h;conv=>whnf
  refine⟨_,_,⟨rfl,rfl⟩,wk [0] []⟩
 conv=>whnf
 refine bq h fun⟨b0,b1⟩ L h=>?_;refine qcq (qal n _ _ _ _ _ L) [0] [] ?_;rintro _ _ ⟨rfl,rfl⟩;refine⟨pB b0,[.box 113 [pK a,pI b1,pB f],zq4,.box 115 [pI b,pS c,pI d,pI e]],rfl,rfl,?_⟩;conv=>whnf
 apply ifc h<;>intro g h
 ·conv=>whnf
  refine bq h fun⟨⟨j,k,⟨l,m,o,q,s,t⟩,u,w⟩,b2,b3⟩ M h=>?_;refine qcq (g77_ok _ _ _ _ M) [0] [] ?_;rintro _ _ ⟨rfl,rfl⟩;refine⟨.p (.agg [.int .i64 j,.str k,.int .i64 l,.bool m,.int .i64 o,.str q,.sl (Val.rows s),.sl (qak t),.sl (qak u),.sl (qaa.rows w)]),[.box 113 [pK a,pI b2,pB b3],zq4,.box 115 [pI b,pS c,pI d,pI e]],rfl,rfl,?_⟩;conv=>whnf
  refine bq h fun⟨b4,b5⟩ z h=>?_;refine qcq (qa6 n _ _ _ _ _ z) [0] [] ?_;rintro _ _ ⟨rfl,rfl⟩;refine⟨.p (.tup []),[.box 113 [pK a,pI b4,pB b5],zq4,.box 115 [pI b,pS c,pI d,pI e],.box 46 [pI j,pS k,pI l,pB m,pI o,pS q,pV s,pT t,pT u,pE w]],rfl,rfl,?_⟩;obtain rfl:=sj h;conv=>whnf
  refine⟨_,_,⟨rfl,rfl⟩,wk [0] []⟩
 conv=>whnf
 refine bq h fun⟨b6,x⟩ A h=>?_;refine qcq (qal n _ _ _ _ _ A) [0] [] ?_;rintro _ _ ⟨rfl,rfl⟩;refine⟨pB b6,[.box 113 [pK a,pI x,pB f],zq4,.box 115 [pI b,pS c,pI d,pI e]],rfl,rfl,?_⟩;conv=>whnf
 apply ifc h<;>intro g h
 ·conv=>whnf
  refine bq h fun⟨b7,b8,b9⟩ B h=>?_;refine qcq (g193_ok _ _ _ _ _ B) [0] [] ?_;rintro _ _ ⟨rfl,rfl⟩;refine⟨pE b7,[.box 113 [pK a,pI b8,pB b9],zq4,.box 115 [pI b,pS c,pI d,pI e]],rfl,rfl,?_⟩;obtain rfl:=sj h;conv=>whnf
  refine⟨_,_,⟨rfl,rfl⟩,wk [0] []⟩
 conv=>whnf
 refine bq h fun c0 C h=>?_;refine qcq (qdm n _ _ _ _ _ C) [0] [] ?_;rintro _ _ ⟨rfl,rfl⟩;refine⟨pB c0,[.box 113 [pK a,pI x,pB f],zq4,.box 115 [pI b,pS c,pI d,pI e]],rfl,rfl,?_⟩;conv=>whnf
 apply ifc h<;>intro g h
 ·conv=>whnf
  refine bq h fun⟨c1,c2,c3,c4⟩ D h=>?_;refine qcq (g124_ok _ _ _ _ D) [0] [] ?_;rintro _ _ ⟨rfl,rfl⟩;refine⟨.p (.tup [.sl (qak c1),.sl (qaa.rows c2)]),[.box 113 [pK a,pI c3,pB c4],zq4,.box 115 [pI b,pS c,pI d,pI e]],rfl,rfl,?_⟩;obtain rfl:=sj h;conv=>whnf
  refine⟨_,_,⟨rfl,rfl⟩,wk [0] []⟩
 obtain rfl:=sj h;conv=>whnf
 refine⟨_,_,⟨rfl,rfl⟩,wk [0] []⟩
theorem q6t (n:Nat) (g124:q7e) (g77 g120:qf5) (g159 g173:qf5) (g178 g186:qf5) (g189 g190 g191:qf5) (g192:q7f) (g193:q7g) (g124_ok:zm9 g124) (g77_ok:zna g77) (g120_ok:znb g120) (g159_ok:znc g159) (g173_ok:znd g173) (g178_ok:zne g178) (g186_ok:znf g186) (g189_ok:zng g189) (g190_ok:znh g190) (g191_ok:zni g191) (g192_ok:q7c g192) (g193_ok:q7d g193):∀ (b:SS) (a:List qap) (d:Int) (c:Bool) (r:qaa×Int×Bool),qw8 n g124 g77 g120 g159 g173 g178 g186 g189 g190 g191 g192 g193 b a d c=some r->qbq TP 192 [.ptr 0 0,.p (PV.str b)] [.box 113 [pK a,pI d,pB c]] 1 (fun v lo=>v=qv7 a d c r/\lo=qv3 a d c r):=by
 intro b a d c r h;unfold qw8 at h;refine zO Tryz.call192 Tryz.func192 [74,77,78,193,1000000] ?_;conv=>whnf
 refine bq h fun _ L h=>?_;refine⟨_,(qqo n _ _ L),?_⟩;conv=>whnf
 apply ifc h<;>intro M h
 ·conv=>whnf
  refine bq h fun⟨Y,Z,a0⟩ E h=>?_;refine qcq (g193_ok _ _ _ _ _ E) [0] [] ?_;rintro _ _ ⟨rfl,rfl⟩;refine⟨pE Y,[.box 113 [pK a,pI Z,pB a0],zq4],rfl,rfl,?_⟩;obtain rfl:=sj h;conv=>whnf
  refine⟨_,_,⟨rfl,rfl⟩,wk [0] []⟩
 conv=>whnf
 refine⟨fun D=>?_,fun D=>?_⟩
 ·have h:=q10 h D
  conv=>whnf
  refine⟨id,?_⟩;conv=>whnf
  refine bq h fun⟨a1,N⟩ F h=>?_;refine qcq (qal n _ _ _ _ _ F) [0] [] ?_;rintro _ _ ⟨rfl,rfl⟩;refine⟨pB a1,[.box 113 [pK a,pI N,pB c],zq4,.box 46 [.p (.int .i64 (14:Int)),pS b,zq0,pB false,zq0,zq1,zq2,zq2,zq2,zq2]],rfl,rfl,?_⟩;conv=>whnf
  refine⟨id,?_⟩;conv=>whnf
  apply ifc h<;>intro M h
  ·conv=>whnf
   refine bq h fun⟨O,P⟩ G h=>?_;refine qcq (qa6 n _ _ _ _ _ G) [0] [] ?_;rintro _ _ ⟨rfl,rfl⟩;refine⟨.p (.tup []),[.box 113 [pK a,pI O,pB P],zq4,.box 46 [.p (.int .i64 (14:Int)),pS b,zq0,pB false,zq0,zq1,zq2,zq2,zq2,zq2]],rfl,rfl,?_⟩;obtain rfl:=sj h;conv=>whnf
   refine⟨_,_,⟨rfl,rfl⟩,wk [0] []⟩
  conv=>whnf
  refine bq h fun⟨⟨e,f,⟨g,i,j,k,l,m⟩,o,q⟩,Q,R⟩ H h=>?_;refine qcq (g77_ok _ _ _ _ H) [0] [] ?_;rintro _ _ ⟨rfl,rfl⟩;refine⟨.p (.agg [.int .i64 e,.str f,.int .i64 g,.bool i,.int .i64 j,.str k,.sl (Val.rows l),.sl (qak m),.sl (qak o),.sl (qaa.rows q)]),[.box 113 [pK a,pI Q,pB R],zq4,.box 46 [.p (.int .i64 (14:Int)),pS b,zq0,pB false,zq0,zq1,zq2,zq2,zq2,zq2]],rfl,rfl,?_⟩;conv=>whnf
  refine bq h fun⟨S,T⟩ I h=>?_;refine qcq (qa6 n _ _ _ _ _ I) [0] [] ?_;rintro _ _ ⟨rfl,rfl⟩;refine⟨.p (.tup []),[.box 113 [pK a,pI S,pB T],zq4,.box 46 [.p (.int .i64 (14:Int)),pS b,zq0,pB false,zq0,zq1,zq2,zq2,zq2,zq2],.box 46 [pI e,pS f,pI g,pB i,pI j,pS k,pV l,pT m,pT o,pE q]],rfl,rfl,?_⟩;conv=>whnf
  refine⟨Codec.one qck [qaa.mk e f (Val.mk g i j k l m) o q],qaa.rows [qaa.mk e f (Val.mk g i j k l m) o q],.inl rfl,?_⟩;obtain rfl:=sj h;conv=>whnf
  refine⟨_,_,⟨rfl,rfl⟩,wk [0] []⟩
 have h:=q1z h D;refine⟨pB false,?_⟩;conv=>whnf
 refine⟨id,?_⟩;conv=>whnf
 refine⟨fun hf=>absurd hf (by first|decide|simp),fun _=>?_⟩;conv=>whnf
 refine bq h fun⟨⟨s,t,⟨u,w,x,y,z,A⟩,B,C⟩,U,V⟩ J h=>?_;refine qcq (g77_ok _ _ _ _ J) [0] [] ?_;rintro _ _ ⟨rfl,rfl⟩;refine⟨.p (.agg [.int .i64 s,.str t,.int .i64 u,.bool w,.int .i64 x,.str y,.sl (Val.rows z),.sl (qak A),.sl (qak B),.sl (qaa.rows C)]),[.box 113 [pK a,pI U,pB V],zq4,.box 46 [.p (.int .i64 (14:Int)),pS b,zq0,pB false,zq0,zq1,zq2,zq2,zq2,zq2]],rfl,rfl,?_⟩;conv=>whnf
 refine bq h fun⟨W,X⟩ K h=>?_;refine qcq (qa6 n _ _ _ _ _ K) [0] [] ?_;rintro _ _ ⟨rfl,rfl⟩;refine⟨.p (.tup []),[.box 113 [pK a,pI W,pB X],zq4,.box 46 [.p (.int .i64 (14:Int)),pS b,zq0,pB false,zq0,zq1,zq2,zq2,zq2,zq2],.box 46 [pI s,pS t,pI u,pB w,pI x,pS y,pV z,pT A,pT B,pE C]],rfl,rfl,?_⟩;conv=>whnf
 refine⟨Codec.one qck [qaa.mk s t (Val.mk u w x y z A) B C],qaa.rows [qaa.mk s t (Val.mk u w x y z A) B C],.inl rfl,?_⟩;obtain rfl:=sj h;conv=>whnf
 refine⟨_,_,⟨rfl,rfl⟩,wk [0] []⟩
theorem q6u (n:Nat) (g124:q7e) (g77 g120:qf5) (g159 g173:qf5) (g178 g186:qf5) (g189 g190 g191:qf5) (g192:q7f) (g193:q7g) (g124_ok:zm9 g124) (g77_ok:zna g77) (g120_ok:znb g120) (g159_ok:znc g159) (g173_ok:znd g173) (g178_ok:zne g178) (g186_ok:znf g186) (g189_ok:zng g189) (g190_ok:znh g190) (g191_ok:zni g191) (g192_ok:q7c g192) (g193_ok:q7d g193):∀ (q:SS) (m:List qap) (s:Int) (o:Bool) (r:(List qaa)×Int×Bool),qw9 n g124 g77 g120 g159 g173 g178 g186 g189 g190 g191 g192 g193 q m s o=some r->qbq TP 193 [.ptr 0 0,.p (PV.str q)] [.box 113 [pK m,pI s,pB o]] 1 (fun v lo=>v=qv8 m s o r/\lo=qv4 m s o r):=by
 intro q m s o r h;unfold qw9 at h;refine zO Tryz.call193 Tryz.func193 [74,77,78,1000000] ?_;conv=>whnf
 refine bq h fun⟨J,K⟩ z h=>?_;refine qcq (qal n _ _ _ _ _ z) [0] [] ?_;rintro _ _ ⟨rfl,rfl⟩;refine⟨pB J,[.box 113 [pK m,pI K,pB o]],rfl,rfl,?_⟩;conv=>whnf
 apply ifc h<;>intro E h
 ·obtain rfl:=sj h
  conv=>whnf
  refine⟨_,_,⟨rfl,rfl⟩,wk [0] []⟩
 conv=>whnf
 refine qbh.fn [74,77,78,1000000] (S:=List qaa×Int×Bool) (fun(l,u,w)=>[(0,.ptr 0 0),(1,pS q),(5,.tsl 1 (qaa.rows l))]) (fun(l,u,w)=>[.box 113 [pK m,pI u,pB w],.tail 46 10 (qaa.rows l).length]) (B:=qud n g77 m q) h (wk [0,0] [1]) ?_;intro _ st h;obtain⟨l,u,w⟩:=st;unfold qud at h;conv=>whnf
 refine bq h fun⟨⟨a,b,⟨c,d,e,f,g,i⟩,j,k⟩,F,t⟩ A h=>?_;refine qcq (g77_ok _ _ _ _ A) [0] [] ?_;rintro _ _ ⟨rfl,rfl⟩;refine⟨.p (.agg [.int .i64 a,.str b,.int .i64 c,.bool d,.int .i64 e,.str f,.sl (Val.rows g),.sl (qak i),.sl (qak j),.sl (qaa.rows k)]),[.box 113 [pK m,pI F,pB t],.tail 46 10 (qaa.rows l).length],rfl,rfl,?_⟩;conv=>whnf
 refine⟨Codec.one qck [qaa.mk a b (Val.mk c d e f g i) j k],qaa.rows [qaa.mk a b (Val.mk c d e f g i) j k],.inl rfl,?_⟩;conv=>whnf
 rw[show qaa.rows l++qaa.rows [qaa.mk a b (Val.mk c d e f g i) j k]=qaa.rows (l++[qaa.mk a b (Val.mk c d e f g i) j k])from Codec.append qck l [qaa.mk a b (Val.mk c d e f g i) j k]];conv=>whnf
 obtain⟨x,h⟩:=qah h;refine⟨⟨Codec.wide qck (l++[qaa.mk a b (Val.mk c d e f g i) j k]),kod x,qb5 x (by decide)⟩,?_⟩;conv=>whnf
 refine⟨⟨rfl,rfl,rfl⟩,?_⟩;conv=>whnf
 refine bq h fun⟨G,y⟩ C h=>?_;refine qcq (qal n _ _ _ _ _ C) [0] [] ?_;rintro _ _ ⟨rfl,rfl⟩;refine⟨pB G,[.box 113 [pK m,pI y,pB t],.dead,.box 46 [pI a,pS b,pI c,pB d,pI e,pS f,pV g,pT i,pT j,pE k],.tail 46 10 (qaa.rows (l++[qaa.mk a b (Val.mk c d e f g i) j k])).length],rfl,rfl,?_⟩;conv=>whnf
 apply ifc h<;>intro E h
 ·conv=>whnf
  refine bq h fun⟨H,I⟩ D h=>?_;refine qcq (qa6 n _ _ _ _ _ D) [0] [] ?_;rintro _ _ ⟨rfl,rfl⟩;refine⟨.p (.tup []),[.box 113 [pK m,pI H,pB I],.dead,.box 46 [pI a,pS b,pI c,pB d,pI e,pS f,pV g,pT i,pT j,pE k],.tail 46 10 (qaa.rows (l++[qaa.mk a b (Val.mk c d e f g i) j k])).length],rfl,rfl,?_⟩;obtain rfl:=sj h;conv=>whnf
  refine⟨_,_,⟨rfl,rfl⟩,wk [0] []⟩
 conv=>whnf
 exact⟨((l++[qaa.mk a b (Val.mk c d e f g i) j k]),y,t),h,wk [0,3] []⟩
mutual
def qbg:Nat->(List qap)->Int->Bool->Option ((List SS)×(List qaa)×Int×Bool)
 | 0=>fun _ _ _=>none
 | n+1=>qvr n (qbg n) (qbk n) (qcx n) (qcu n) (qcv n) (qcg n) (qcw n) (qba n) (qbv n) (qcd n) (qce n) (qcf n)
def qbk:Nat->(List qap)->Int->Bool->Option (qaa×Int×Bool)
 | 0=>fun _ _ _=>none
 | n+1=>qw6 n (qbg n) (qbk n) (qcx n) (qcu n) (qcv n) (qcg n) (qcw n) (qba n) (qbv n) (qcd n) (qce n) (qcf n)
def qcx:Nat->(List qap)->Int->Bool->Option (qaa×Int×Bool)
 | 0=>fun _ _ _=>none
 | n+1=>qy5 n (qbg n) (qbk n) (qcx n) (qcu n) (qcv n) (qcg n) (qcw n) (qba n) (qbv n) (qcd n) (qce n) (qcf n)
def qcu:Nat->(List qap)->Int->Bool->Option (qaa×Int×Bool)
 | 0=>fun _ _ _=>none
 | n+1=>qy2 n (qbg n) (qbk n) (qcx n) (qcu n) (qcv n) (qcg n) (qcw n) (qba n) (qbv n) (qcd n) (qce n) (qcf n)
def qcv:Nat->(List qap)->Int->Bool->Option (qaa×Int×Bool)
 | 0=>fun _ _ _=>none
 | n+1=>qy3 n (qbg n) (qbk n) (qcx n) (qcu n) (qcv n) (qcg n) (qcw n) (qba n) (qbv n) (qcd n) (qce n) (qcf n)
def qcg:Nat->(List qap)->Int->Bool->Option (qaa×Int×Bool)
 | 0=>fun _ _ _=>none
 | n+1=>qxa n (qbg n) (qbk n) (qcx n) (qcu n) (qcv n) (qcg n) (qcw n) (qba n) (qbv n) (qcd n) (qce n) (qcf n)
def qcw:Nat->(List qap)->Int->Bool->Option (qaa×Int×Bool)
 | 0=>fun _ _ _=>none
 | n+1=>qy4 n (qbg n) (qbk n) (qcx n) (qcu n) (qcv n) (qcg n) (qcw n) (qba n) (qbv n) (qcd n) (qce n) (qcf n)
def qba:Nat->(List qap)->Int->Bool->Option (qaa×Int×Bool)
 | 0=>fun _ _ _=>none
 | n+1=>qsx n (qbg n) (qbk n) (qcx n) (qcu n) (qcv n) (qcg n) (qcw n) (qba n) (qbv n) (qcd n) (qce n) (qcf n)
def qbv:Nat->(List qap)->Int->Bool->Option (qaa×Int×Bool)
 | 0=>fun _ _ _=>none
 | n+1=>qvq n (qbg n) (qbk n) (qcx n) (qcu n) (qcv n) (qcg n) (qcw n) (qba n) (qbv n) (qcd n) (qce n) (qcf n)
def qcd:Nat->(List qap)->Int->Bool->Option (qaa×Int×Bool)
 | 0=>fun _ _ _=>none
 | n+1=>qw7 n (qbg n) (qbk n) (qcx n) (qcu n) (qcv n) (qcg n) (qcw n) (qba n) (qbv n) (qcd n) (qce n) (qcf n)
def qce:Nat->SS->(List qap)->Int->Bool->Option (qaa×Int×Bool)
 | 0=>fun _ _ _ _=>none
 | n+1=>qw8 n (qbg n) (qbk n) (qcx n) (qcu n) (qcv n) (qcg n) (qcw n) (qba n) (qbv n) (qcd n) (qce n) (qcf n)
def qcf:Nat->SS->(List qap)->Int->Bool->Option ((List qaa)×Int×Bool)
 | 0=>fun _ _ _ _=>none
 | n+1=>qw9 n (qbg n) (qbk n) (qcx n) (qcu n) (qcv n) (qcg n) (qcw n) (qba n) (qbv n) (qcd n) (qce n) (qcf n)
end
theorem qwn (n:Nat):(∀ (c:List qap) (a:Int) (b:Bool) (r:(List SS)×(List qaa)×Int×Bool),qbg n c a b=some r->qbq TP 124 [.ptr 0 0] [.box 113 [pK c,pI a,pB b]] 1 (fun v lo=>v=qq3 c a b r/\lo=qq2 c a b r))/\(∀ (c:List qap) (a:Int) (b:Bool) (r:qaa×Int×Bool),qbk n c a b=some r->qbq TP 77 [.ptr 0 0] [.box 113 [pK c,pI a,pB b]] 1 (fun v lo=>v=qr5 c a b r/\lo=qr4 c a b r))/\(∀ (c:List qap) (a:Int) (b:Bool) (r:qaa×Int×Bool),qcx n c a b=some r->qbq TP 120 [.ptr 0 0] [.box 113 [pK c,pI a,pB b]] 1 (fun v lo=>v=qxq c a b r/\lo=qxl c a b r))/\(∀ (c:List qap) (a:Int) (b:Bool) (r:qaa×Int×Bool),qcu n c a b=some r->qbq TP 159 [.ptr 0 0] [.box 113 [pK c,pI a,pB b]] 1 (fun v lo=>v=qxn c a b r/\lo=qxi c a b r))/\(∀ (c:List qap) (a:Int) (b:Bool) (r:qaa×Int×Bool),qcv n c a b=some r->qbq TP 173 [.ptr 0 0] [.box 113 [pK c,pI a,pB b]] 1 (fun v lo=>v=qxo c a b r/\lo=qxj c a b r))/\(∀ (c:List qap) (a:Int) (b:Bool) (r:qaa×Int×Bool),qcg n c a b=some r->qbq TP 178 [.ptr 0 0] [.box 113 [pK c,pI a,pB b]] 1 (fun v lo=>v=qv9 c a b r/\lo=qv5 c a b r))/\(∀ (c:List qap) (a:Int) (b:Bool) (r:qaa×Int×Bool),qcw n c a b=some r->qbq TP 186 [.ptr 0 0] [.box 113 [pK c,pI a,pB b]] 1 (fun v lo=>v=qxp c a b r/\lo=qxk c a b r))/\(∀ (c:List qap) (a:Int) (b:Bool) (r:qaa×Int×Bool),qba n c a b=some r->qbq TP 189 [.ptr 0 0] [.box 113 [pK c,pI a,pB b]] 1 (fun v lo=>v=qrt c a b r/\lo=qrs c a b r))/\(∀ (c:List qap) (a:Int) (b:Bool) (r:qaa×Int×Bool),qbv n c a b=some r->qbq TP 190 [.ptr 0 0] [.box 113 [pK c,pI a,pB b]] 1 (fun v lo=>v=quq c a b r/\lo=qup c a b r))/\(∀ (c:List qap) (a:Int) (b:Bool) (r:qaa×Int×Bool),qcd n c a b=some r->qbq TP 191 [.ptr 0 0] [.box 113 [pK c,pI a,pB b]] 1 (fun v lo=>v=qv6 c a b r/\lo=qv2 c a b r))/\(∀ (c:SS) (a:List qap) (b:Int) (t:Bool) (r:qaa×Int×Bool),qce n c a b t=some r->qbq TP 192 [.ptr 0 0,.p (PV.str c)] [.box 113 [pK a,pI b,pB t]] 1 (fun v lo=>v=qv7 a b t r/\lo=qv3 a b t r))/\(∀ (c:SS) (a:List qap) (b:Int) (t:Bool) (r:(List qaa)×Int×Bool),qcf n c a b t=some r->qbq TP 193 [.ptr 0 0,.p (PV.str c)] [.box 113 [pK a,pI b,pB t]] 1 (fun v lo=>v=qv8 a b t r/\lo=qv4 a b t r)):=by
 induction n with
 | zero=>exact⟨(by intros; rename_i h; cases h),(by intros; rename_i h; cases h),(by intros; rename_i h; cases h),(by intros; rename_i h; cases h),(by intros; rename_i h; cases h),(by intros; rename_i h; cases h),(by intros; rename_i h; cases h),(by intros; rename_i h; cases h),(by intros; rename_i h; cases h),(by intros; rename_i h; cases h),(by intros; rename_i h; cases h),(by intros; rename_i h; cases h)⟩
 | succ n ih=>
  obtain⟨d,e,i,j,k,l,m,o,q,s,f,g⟩:=ih;exact⟨q4z n (qbg n) (qbk n) (qcx n) (qcu n) (qcv n) (qcg n) (qcw n) (qba n) (qbv n) (qcd n) (qce n) (qcf n) d e i j k l m o q s f g,q6r n (qbg n) (qbk n) (qcx n) (qcu n) (qcv n) (qcg n) (qcw n) (qba n) (qbv n) (qcd n) (qce n) (qcf n) d e i j k l m o q s f g,q8j n (qbg n) (qbk n) (qcx n) (qcu n) (qcv n) (qcg n) (qcw n) (qba n) (qbv n) (qcd n) (qce n) (qcf n) d e i j k l m o q s f g,q8g n (qbg n) (qbk n) (qcx n) (qcu n) (qcv n) (qcg n) (qcw n) (qba n) (qbv n) (qcd n) (qce n) (qcf n) d e i j k l m o q s f g,q8h n (qbg n) (qbk n) (qcx n) (qcu n) (qcv n) (qcg n) (qcw n) (qba n) (qbv n) (qcd n) (qce n) (qcf n) d e i j k l m o q s f g,q6v n (qbg n) (qbk n) (qcx n) (qcu n) (qcv n) (qcg n) (qcw n) (qba n) (qbv n) (qcd n) (qce n) (qcf n) d e i j k l m o q s f g,q8i n (qbg n) (qbk n) (qcx n) (qcu n) (qcv n) (qcg n) (qcw n) (qba n) (qbv n) (qcd n) (qce n) (qcf n) d e i j k l m o q s f g,q15 n (qbg n) (qbk n) (qcx n) (qcu n) (qcv n) (qcg n) (qcw n) (qba n) (qbv n) (qcd n) (qce n) (qcf n) d e i j k l m o q s f g,q4y n (qbg n) (qbk n) (qcx n) (qcu n) (qcv n) (qcg n) (qcw n) (qba n) (qbv n) (qcd n) (qce n) (qcf n) d e i j k l m o q s f g,q6s n (qbg n) (qbk n) (qcx n) (qcu n) (qcv n) (qcg n) (qcw n) (qba n) (qbv n) (qcd n) (qce n) (qcf n) d e i j k l m o q s f g,q6t n (qbg n) (qbk n) (qcx n) (qcu n) (qcv n) (qcg n) (qcw n) (qba n) (qbv n) (qcd n) (qce n) (qcf n) d e i j k l m o q s f g,q6u n (qbg n) (qbk n) (qcx n) (qcu n) (qcv n) (qcg n) (qcw n) (qba n) (qbv n) (qcd n) (qce n) (qcf n) d e i j k l m o q s f g⟩
theorem qs1 (n:Nat):∀ (a:List qap) (b:Int) (c:Bool) (r:(List SS)×(List qaa)×Int×Bool),qbg n a b c=some r->qbq TP 124 [.ptr 0 0] [.box 113 [pK a,pI b,pB c]] 1 (fun v lo=>v=qq3 a b c r/\lo=qq2 a b c r):=(qwn n).1
theorem qm0 (n:Nat):∀ (a:List qap) (b:Int) (c:Bool) (r:qaa×Int×Bool),qbk n a b c=some r->qbq TP 77 [.ptr 0 0] [.box 113 [pK a,pI b,pB c]] 1 (fun v lo=>v=qr5 a b c r/\lo=qr4 a b c r):=(qwn n).2.1
end W
end
