/- A part of the proof: contracts, printed by program. -/
import Derived.Test.YtmblnmgpmdapnaaGreatB
import Derived.Test.YtmblnmgpmdapnaaGreatC
import Derived.Test.YtmblnmgpmdapnaaGreatD
set_option linter.unusedVariables false
set_option linter.unusedSimpArgs false
set_option linter.unnecessarySimpa false
set_option linter.deprecated false
set_option linter.unusedSectionVars false
set_option linter.constructorNameAsVariable false
section
set_option maxRecDepth 100000
open Go Go.Proofs Ax
namespace W
abbrev qp7 (_:List qao) (_:Int) (_:Bool) (r:(List SS)×(List qaa)×Int×Bool):FV:=.p (.tup [.sl (qai r.1),.sl (qaa.rows r.2.1)])
abbrev qp6 (a:List qao) (_:Int) (_:Bool) (r:(List SS)×(List qaa)×Int×Bool):List AObj:=[.box 113 [pK a,.p (.int .i64 r.2.2.1),.p (.bool r.2.2.2)]]
abbrev qfx:Type:=(List qao)->Int->Bool->Option (qaa×Int×Bool)
def qr1 (n:Nat) (a:List qao) (g77:qfx):(List SS×List qaa×Int×Bool->Option ((List SS)×(List qaa)×Int×Bool))->List SS×List qaa×Int×Bool->Option ((List SS)×(List qaa)×Int×Bool):=fun v (b,c,t,d)=>
 bif(!d)then(
 bnd (qjh n a t d) fun⟨e,w,x⟩=>
 bnd (qbq n ([58]:SS) a w x) fun⟨y,z⟩=>
 bnd (g77 a y z) fun⟨⟨f,g,⟨i,j,k,l,m,o⟩,p,q⟩,A,s⟩=>
 chk (decide ((qai (b++[e])).length * 16<=140737488355328)) (
 chk (decide ((qaa.rows (c++[qaa.mk f g (Val.mk i j k l m o) p q])).length * 160<=140737488355328)) (
 bnd (qap n ([44]:SS) a A s) fun⟨B,u⟩=>
 bif(!B)then(
 bnd (qbq n ([125]:SS) a u s) fun⟨C,D⟩=>
 some ((b++[e]),(c++[qaa.mk f g (Val.mk i j k l m o) p q]),C,D))
 else(
 v ((b++[e]),(c++[qaa.mk f g (Val.mk i j k l m o) p q]),u,s)))))
 else(
 some (b,c,t,d))
abbrev q5n:Type:=(List qao)->Int->Bool->Option ((List SS)×(List qaa)×Int×Bool)
abbrev q5o:Type:=SS->(List qao)->Int->Bool->Option (qaa×Int×Bool)
abbrev q5p:Type:=SS->(List qao)->Int->Bool->Option ((List qaa)×Int×Bool)
def quj (n:Nat) (g124:q5n) (g77 g120:qfx) (g159 g173:qfx) (g178 g186:qfx) (g189 g190 g191:qfx) (g192:q5o) (g193:q5p) (a:List qao) (d:Int) (e:Bool):Option ((List SS)×(List qaa)×Int×Bool):=
 bnd (qbq n ([123]:SS) a d e) fun⟨f,b⟩=>
 bnd (qap n ([125]:SS) a f b) fun⟨g,c⟩=>
 bif g then(
 some (([]:List SS),([]:List qaa),c,b))
 else(
 qan (qr1 n a g77) n (([]:List _),([]:List _),c,b))
abbrev qq9 (_:List qao) (_:Int) (_:Bool) (r:qaa×Int×Bool):FV:=.p ((PV.agg (qcf.cells r.1)))
abbrev qq8 (a:List qao) (_:Int) (_:Bool) (r:qaa×Int×Bool):List AObj:=[.box 113 [pK a,.p (.int .i64 r.2.1),.p (.bool r.2.2)]]
def qs8 (n:Nat) (b:List qao) (g120:qfx):(Int×Bool×Int×SS×Int×Bool×Int×SS×List Val×List SS×List SS×List qaa->Option (qaa×Int×Bool))->Int×Bool×Int×SS×Int×Bool×Int×SS×List Val×List SS×List SS×List qaa->Option (qaa×Int×Bool):=fun p (q,a,c,d,e,f,g,i,j,k,l,m)=>
 bnd (qap n ([79,82]:SS) b q a) fun⟨s,o⟩=>
 bif s then(
 bnd (g120 b o a) fun⟨⟨t,u,⟨v,w,x,y,z,A⟩,B,C⟩,D,E⟩=>
 bnd (qk2 n ([79,82]:SS) (qaa.mk c d (Val.mk e f g i j k) l m) (qaa.mk t u (Val.mk v w x y z A) B C)) fun⟨F,G,⟨H,I,J,K,L,M⟩,N,O⟩=>
 p (D,E,F,G,H,I,J,K,L,M,N,O))
 else(
 some (qaa.mk c d (Val.mk e f g i j k) l m,o,a))
def qvv (n:Nat) (g124:q5n) (g77 g120:qfx) (g159 g173:qfx) (g178 g186:qfx) (g189 g190 g191:qfx) (g192:q5o) (g193:q5p) (a:List qao) (i:Int) (j:Bool):Option (qaa×Int×Bool):=
 bnd (g120 a i j) fun⟨⟨k,l,⟨m,o,p,q,b,c⟩,d,e⟩,f,g⟩=>
 qan (qs8 n a g120) n (f,g,k,l,m,o,p,q,b,c,d,e)
abbrev qwh (_:List qao) (_:Int) (_:Bool) (r:qaa×Int×Bool):FV:=.p ((PV.agg (qcf.cells r.1)))
abbrev qwc (a:List qao) (_:Int) (_:Bool) (r:qaa×Int×Bool):List AObj:=[.box 113 [pK a,.p (.int .i64 r.2.1),.p (.bool r.2.2)]]
def qur (n:Nat) (b:List qao) (g159:qfx):(Int×Bool×Int×SS×Int×Bool×Int×SS×List Val×List SS×List SS×List qaa->Option (qaa×Int×Bool))->Int×Bool×Int×SS×Int×Bool×Int×SS×List Val×List SS×List SS×List qaa->Option (qaa×Int×Bool):=fun p (q,a,c,d,e,f,g,i,j,k,l,m)=>
 bnd (qap n ([88,79,82]:SS) b q a) fun⟨s,o⟩=>
 bif s then(
 bnd (g159 b o a) fun⟨⟨t,u,⟨v,w,x,y,z,A⟩,B,C⟩,D,E⟩=>
 bnd (qk2 n ([88,79,82]:SS) (qaa.mk c d (Val.mk e f g i j k) l m) (qaa.mk t u (Val.mk v w x y z A) B C)) fun⟨F,G,⟨H,I,J,K,L,M⟩,N,O⟩=>
 p (D,E,F,G,H,I,J,K,L,M,N,O))
 else(
 some (qaa.mk c d (Val.mk e f g i j k) l m,o,a))
def qxq (n:Nat) (g124:q5n) (g77 g120:qfx) (g159 g173:qfx) (g178 g186:qfx) (g189 g190 g191:qfx) (g192:q5o) (g193:q5p) (a:List qao) (i:Int) (j:Bool):Option (qaa×Int×Bool):=
 bnd (g159 a i j) fun⟨⟨k,l,⟨m,o,p,q,b,c⟩,d,e⟩,f,g⟩=>
 qan (qur n a g159) n (f,g,k,l,m,o,p,q,b,c,d,e)
abbrev qwe (_:List qao) (_:Int) (_:Bool) (r:qaa×Int×Bool):FV:=.p ((PV.agg (qcf.cells r.1)))
abbrev qv9 (a:List qao) (_:Int) (_:Bool) (r:qaa×Int×Bool):List AObj:=[.box 113 [pK a,.p (.int .i64 r.2.1),.p (.bool r.2.2)]]
def qun (n:Nat) (b:List qao) (g173:qfx):(Int×Bool×Int×SS×Int×Bool×Int×SS×List Val×List SS×List SS×List qaa->Option (qaa×Int×Bool))->Int×Bool×Int×SS×Int×Bool×Int×SS×List Val×List SS×List SS×List qaa->Option (qaa×Int×Bool):=fun p (q,a,c,d,e,f,g,i,j,k,l,m)=>
 bnd (qap n ([65,78,68]:SS) b q a) fun⟨s,o⟩=>
 bif s then(
 bnd (g173 b o a) fun⟨⟨t,u,⟨v,w,x,y,z,A⟩,B,C⟩,D,E⟩=>
 bnd (qk2 n ([65,78,68]:SS) (qaa.mk c d (Val.mk e f g i j k) l m) (qaa.mk t u (Val.mk v w x y z A) B C)) fun⟨F,G,⟨H,I,J,K,L,M⟩,N,O⟩=>
 p (D,E,F,G,H,I,J,K,L,M,N,O))
 else(
 some (qaa.mk c d (Val.mk e f g i j k) l m,o,a))
def qxn (n:Nat) (g124:q5n) (g77 g120:qfx) (g159 g173:qfx) (g178 g186:qfx) (g189 g190 g191:qfx) (g192:q5o) (g193:q5p) (a:List qao) (i:Int) (j:Bool):Option (qaa×Int×Bool):=
 bnd (g173 a i j) fun⟨⟨k,l,⟨m,o,p,q,b,c⟩,d,e⟩,f,g⟩=>
 qan (qun n a g173) n (f,g,k,l,m,o,p,q,b,c,d,e)
abbrev qwf (_:List qao) (_:Int) (_:Bool) (r:qaa×Int×Bool):FV:=.p ((PV.agg (qcf.cells r.1)))
abbrev qwa (a:List qao) (_:Int) (_:Bool) (r:qaa×Int×Bool):List AObj:=[.box 113 [pK a,.p (.int .i64 r.2.1),.p (.bool r.2.2)]]
def qxo (n:Nat) (g124:q5n) (g77 g120:qfx) (g159 g173:qfx) (g178 g186:qfx) (g189 g190 g191:qfx) (g192:q5o) (g193:q5p) (a:List qao) (p:Int) (b:Bool):Option (qaa×Int×Bool):=
 bnd (qap n ([78,79,84]:SS) a p b) fun⟨L,c⟩=>
 bif L then(
 bnd (g173 a c b) fun⟨⟨M,N,⟨O,P,d,e,f,g⟩,i,j⟩,k,l⟩=>
 bnd (qrg n (9:Int) (qaa.mk M N (Val.mk O P d e f g) i j)) fun⟨m,o,⟨q,s,t,u,v,w⟩,x,y⟩=>
 some (qaa.mk m o (Val.mk q s t u v w) x y,k,l))
 else(
 bnd (g178 a c b) fun⟨⟨z,A,⟨B,C,D,E,F,G⟩,H,I⟩,J,K⟩=>
 some (qaa.mk z A (Val.mk B C D E F G) H I,J,K))
abbrev qu4 (_:List qao) (_:Int) (_:Bool) (r:qaa×Int×Bool):FV:=.p ((PV.agg (qcf.cells r.1)))
abbrev qu0 (a:List qao) (_:Int) (_:Bool) (r:qaa×Int×Bool):List AObj:=[.box 113 [pK a,.p (.int .i64 r.2.1),.p (.bool r.2.2)]]
def qte (n:Nat) (c:List qao) (b:Bool) (g186:qfx) (i:Int) (l:SS) (m:Int) (o:Bool) (p:Int) (q:SS) (d:List Val) (e f:List SS) (g:List qaa):(Int×Int->Option (qaa×Int×Bool))->Int×Int->Option (qaa×Int×Bool):=fun s (a,j)=>
 bif(decide (a<(((qai [([61]:SS),([60,62]:SS),([60,61]:SS),([60]:SS),([62,61]:SS),([62]:SS),([73,78]:SS)]).length:Nat):Int)))then(
 bnd (idx [([61]:SS),([60,62]:SS),([60,61]:SS),([60]:SS),([62,61]:SS),([62]:SS),([73,78]:SS)] a) fun t=>
 bnd (qap n t c j b) fun⟨u,k⟩=>
 bif u then(
 bnd (g186 c k b) fun⟨⟨v,w,⟨x,y,z,A,B,C⟩,D,E⟩,F,G⟩=>
 bnd (idx [([61]:SS),([60,62]:SS),([60,61]:SS),([60]:SS),([62,61]:SS),([62]:SS),([73,78]:SS)] a) fun H=>
 bnd (qk2 n H (qaa.mk i l (Val.mk m o p q d e) f g) (qaa.mk v w (Val.mk x y z A B C) D E)) fun⟨I,J,⟨K,L,M,N,O,P⟩,Q,R⟩=>
 some (qaa.mk I J (Val.mk K L M N O P) Q R,F,G))
 else(
 s ((IntKind.i64.wrap (a+1)),k)))
 else(
 some (qaa.mk i l (Val.mk m o p q d e) f g,j,b))
def qvz (n:Nat) (g124:q5n) (g77 g120:qfx) (g159 g173:qfx) (g178 g186:qfx) (g189 g190 g191:qfx) (g192:q5o) (g193:q5p) (a:List qao) (w:Int) (F:Bool):Option (qaa×Int×Bool):=
 bnd (g186 a w F) fun⟨⟨g,i,⟨j,k,l,m,c,d⟩,e,f⟩,s,b⟩=>
 bnd (qap n ([73,83]:SS) a s b) fun⟨t,o⟩=>
 bif t then(
 bnd (qap n ([78,79,84]:SS) a o b) fun⟨u,v⟩=>
 bnd (qbq n ([78,85,76,76]:SS) a v b) fun⟨p,q⟩=>
 bif u then(
 bnd (qrg n (12:Int) (qaa.mk g i (Val.mk j k l m c d) e f)) fun⟨x,y,⟨z,A,B,C,D,E⟩,G,H⟩=>
 some (qaa.mk x y (Val.mk z A B C D E) G H,p,q))
 else(
 bnd (qrg n (11:Int) (qaa.mk g i (Val.mk j k l m c d) e f)) fun⟨I,J,⟨K,L,M,N,O,P⟩,Q,R⟩=>
 some (qaa.mk I J (Val.mk K L M N O P) Q R,p,q)))
 else(
 qan (qte n a b g186 g i j k l m c d e f) n ((0:Int),o))
abbrev qwg (_:List qao) (_:Int) (_:Bool) (r:qaa×Int×Bool):FV:=.p ((PV.agg (qcf.cells r.1)))
abbrev qwb (a:List qao) (_:Int) (_:Bool) (r:qaa×Int×Bool):List AObj:=[.box 113 [pK a,.p (.int .i64 r.2.1),.p (.bool r.2.2)]]
def quq (n:Nat) (b:List qao) (g189:qfx):(Int×Bool×Int×SS×Int×Bool×Int×SS×List Val×List SS×List SS×List qaa->Option (qaa×Int×Bool))->Int×Bool×Int×SS×Int×Bool×Int×SS×List Val×List SS×List SS×List qaa->Option (qaa×Int×Bool):=fun q (a,c,d,e,f,g,i,j,k,l,m,o)=>
 bnd (qem n ([43]:SS) b a c) fun p=>
 bif(!p)then(
 bnd (qem n ([45]:SS) b a c) fun s=>
 bif(bif p then true else s)then(
 bnd (idx b a) fun⟨_,t,_,_⟩=>
 bnd (g189 b (IntKind.i64.wrap (a+1)) c) fun⟨⟨u,v,⟨w,x,y,z,A,B⟩,C,D⟩,E,F⟩=>
 bnd (qk2 n t (qaa.mk d e (Val.mk f g i j k l) m o) (qaa.mk u v (Val.mk w x y z A B) C D)) fun⟨G,H,⟨I,J,K,L,M,N⟩,O,P⟩=>
 q (E,F,G,H,I,J,K,L,M,N,O,P))
 else(
 some (qaa.mk d e (Val.mk f g i j k l) m o,a,c)))
 else(
 bif(bif p then true else false)then(
 bnd (idx b a) fun⟨_,Q,_,_⟩=>
 bnd (g189 b (IntKind.i64.wrap (a+1)) c) fun⟨⟨R,S,⟨T,U,V,W,X,Y⟩,Z,a0⟩,a1,a2⟩=>
 bnd (qk2 n Q (qaa.mk d e (Val.mk f g i j k l) m o) (qaa.mk R S (Val.mk T U V W X Y) Z a0)) fun⟨a3,a4,⟨a5,a6,a7,a8,a9,b0⟩,b1,b2⟩=>
 q (a1,a2,a3,a4,a5,a6,a7,a8,a9,b0,b1,b2))
 else(
 some (qaa.mk d e (Val.mk f g i j k l) m o,a,c)))
def qxp (n:Nat) (g124:q5n) (g77 g120:qfx) (g159 g173:qfx) (g178 g186:qfx) (g189 g190 g191:qfx) (g192:q5o) (g193:q5p) (a:List qao) (i:Int) (j:Bool):Option (qaa×Int×Bool):=
 bnd (g189 a i j) fun⟨⟨k,l,⟨m,o,p,q,b,c⟩,d,e⟩,f,g⟩=>
 qan (quq n a g189) n (f,g,k,l,m,o,p,q,b,c,d,e)
abbrev qqv (_:List qao) (_:Int) (_:Bool) (r:qaa×Int×Bool):FV:=.p ((PV.agg (qcf.cells r.1)))
abbrev qqu (a:List qao) (_:Int) (_:Bool) (r:qaa×Int×Bool):List AObj:=[.box 113 [pK a,.p (.int .i64 r.2.1),.p (.bool r.2.2)]]
def qpv (n:Nat) (b:List qao) (g190:qfx):(Int×Bool×Int×SS×Int×Bool×Int×SS×List Val×List SS×List SS×List qaa->Option (qaa×Int×Bool))->Int×Bool×Int×SS×Int×Bool×Int×SS×List Val×List SS×List SS×List qaa->Option (qaa×Int×Bool):=fun q (a,c,d,e,f,g,i,j,k,l,m,o)=>
 bnd (qem n ([42]:SS) b a c) fun p=>
 bif(!p)then(
 bnd (qem n ([47]:SS) b a c) fun s=>
 bif(!(bif p then true else s))then(
 bnd (qem n ([37]:SS) b a c) fun a0=>
 bif(bif(bif p then true else s)then true else a0)then(
 bnd (idx b a) fun⟨_,a1,_,_⟩=>
 bnd (g190 b (IntKind.i64.wrap (a+1)) c) fun⟨⟨a2,a3,⟨a4,a5,a6,a7,a8,a9⟩,b0,b1⟩,b2,b3⟩=>
 bnd (qk2 n a1 (qaa.mk d e (Val.mk f g i j k l) m o) (qaa.mk a2 a3 (Val.mk a4 a5 a6 a7 a8 a9) b0 b1)) fun⟨b4,b5,⟨b6,b7,b8,b9,c0,c1⟩,c2,c3⟩=>
 q (b2,b3,b4,b5,b6,b7,b8,b9,c0,c1,c2,c3))
 else(
 some (qaa.mk d e (Val.mk f g i j k l) m o,a,c)))
 else(
 bif(bif(bif p then true else s)then true else false)then(
 bnd (idx b a) fun⟨_,c4,_,_⟩=>
 bnd (g190 b (IntKind.i64.wrap (a+1)) c) fun⟨⟨c5,c6,⟨c7,c8,c9,d0,d1,d2⟩,d3,d4⟩,d5,d6⟩=>
 bnd (qk2 n c4 (qaa.mk d e (Val.mk f g i j k l) m o) (qaa.mk c5 c6 (Val.mk c7 c8 c9 d0 d1 d2) d3 d4)) fun⟨d7,d8,⟨d9,e0,e1,e2,e3,e4⟩,e5,e6⟩=>
 q (d5,d6,d7,d8,d9,e0,e1,e2,e3,e4,e5,e6))
 else(
 some (qaa.mk d e (Val.mk f g i j k l) m o,a,c))))
 else(
 bif(!(bif p then true else false))then(
 bnd (qem n ([37]:SS) b a c) fun e7=>
 bif(bif(bif p then true else false)then true else e7)then(
 bnd (idx b a) fun⟨_,e8,_,_⟩=>
 bnd (g190 b (IntKind.i64.wrap (a+1)) c) fun⟨⟨e9,f0,⟨f1,f2,f3,f4,f5,f6⟩,f7,f8⟩,f9,g0⟩=>
 bnd (qk2 n e8 (qaa.mk d e (Val.mk f g i j k l) m o) (qaa.mk e9 f0 (Val.mk f1 f2 f3 f4 f5 f6) f7 f8)) fun⟨t,u,⟨v,w,x,y,z,A⟩,B,C⟩=>
 q (f9,g0,t,u,v,w,x,y,z,A,B,C))
 else(
 some (qaa.mk d e (Val.mk f g i j k l) m o,a,c)))
 else(
 bif(bif(bif p then true else false)then true else false)then(
 bnd (idx b a) fun⟨_,D,_,_⟩=>
 bnd (g190 b (IntKind.i64.wrap (a+1)) c) fun⟨⟨E,F,⟨G,H,I,J,K,L⟩,M,N⟩,O,P⟩=>
 bnd (qk2 n D (qaa.mk d e (Val.mk f g i j k l) m o) (qaa.mk E F (Val.mk G H I J K L) M N)) fun⟨Q,R,⟨S,T,U,V,W,X⟩,Y,Z⟩=>
 q (O,P,Q,R,S,T,U,V,W,X,Y,Z))
 else(
 some (qaa.mk d e (Val.mk f g i j k l) m o,a,c))))
def qry (n:Nat) (g124:q5n) (g77 g120:qfx) (g159 g173:qfx) (g178 g186:qfx) (g189 g190 g191:qfx) (g192:q5o) (g193:q5p) (a:List qao) (i:Int) (j:Bool):Option (qaa×Int×Bool):=
 bnd (g190 a i j) fun⟨⟨k,l,⟨m,o,p,q,b,c⟩,d,e⟩,f,g⟩=>
 qan (qpv n a g190) n (f,g,k,l,m,o,p,q,b,c,d,e)
abbrev qtj (_:List qao) (_:Int) (_:Bool) (r:qaa×Int×Bool):FV:=.p ((PV.agg (qcf.cells r.1)))
abbrev qti (a:List qao) (_:Int) (_:Bool) (r:qaa×Int×Bool):List AObj:=[.box 113 [pK a,.p (.int .i64 r.2.1),.p (.bool r.2.2)]]
def qrz (n:Nat) (b:List qao) (g77:qfx):(Int×Bool×Int×SS×Int×Bool×Int×SS×List Val×List SS×List SS×List qaa->Option (qaa×Int×Bool))->Int×Bool×Int×SS×Int×Bool×Int×SS×List Val×List SS×List SS×List qaa->Option (qaa×Int×Bool):=fun o (t,a,c,d,e,f,g,i,j,k,l,m)=>
 bnd (qap n ([46]:SS) b t a) fun⟨u,q⟩=>
 bif u then(
 bnd (qrg n (4:Int) (qaa.mk c d (Val.mk e f g i j k) l m)) fun⟨v,_,⟨w,x,y,z,A,B⟩,C,D⟩=>
 bnd (qjh n b q a) fun⟨E,F,G⟩=>
 o (F,G,v,E,w,x,y,z,A,B,C,D))
 else(
 bnd (qap n ([91]:SS) b q a) fun⟨H,p⟩=>
 bif H then(
 bnd (g77 b p a) fun⟨⟨I,J,⟨K,L,M,N,O,P⟩,Q,R⟩,S,T⟩=>
 bnd (qbq n ([93]:SS) b S T) fun⟨U,V⟩=>
 o (U,V,(7:Int),([]:SS),(0:Int),false,(0:Int),([]:SS),([]:List _),([]:List _),([]:List _),[qaa.mk c d (Val.mk e f g i j k) l m,qaa.mk I J (Val.mk K L M N O P) Q R]))
 else(
 bif(c==2)then(
 bnd (qap n ([58]:SS) b p a) fun⟨W,s⟩=>
 bif(bif(c==2)then W else false)then(
 bnd (qrg n (15:Int) (qaa.mk c d (Val.mk e f g i j k) l m)) fun⟨X,_,⟨Y,Z,a0,a1,a2,a3⟩,a4,a5⟩=>
 bnd (qjh n b s a) fun⟨a6,a7,a8⟩=>
 o (a7,a8,X,a6,Y,Z,a0,a1,a2,a3,a4,a5))
 else(
 some (qaa.mk c d (Val.mk e f g i j k) l m,s,a)))
 else(
 some (qaa.mk c d (Val.mk e f g i j k) l m,p,a))))
def qui (n:Nat) (g124:q5n) (g77 g120:qfx) (g159 g173:qfx) (g178 g186:qfx) (g189 g190 g191:qfx) (g192:q5o) (g193:q5p) (a:List qao) (p:Int) (b:Bool):Option (qaa×Int×Bool):=
 bnd (qap n ([45]:SS) a p b) fun⟨L,c⟩=>
 bif L then(
 bnd (g190 a c b) fun⟨⟨M,N,⟨O,P,d,e,f,g⟩,i,j⟩,k,l⟩=>
 bnd (qrg n (8:Int) (qaa.mk M N (Val.mk O P d e f g) i j)) fun⟨m,o,⟨q,s,t,u,v,w⟩,x,y⟩=>
 some (qaa.mk m o (Val.mk q s t u v w) x y,k,l))
 else(
 bnd (g191 a c b) fun⟨⟨z,A,⟨B,C,D,E,F,G⟩,H,I⟩,J,K⟩=>
 qan (qrz n a g77) n (J,K,z,A,B,C,D,E,F,G,H,I))
abbrev qu1 (_:List qao) (_:Int) (_:Bool) (r:qaa×Int×Bool):FV:=.p ((PV.agg (qcf.cells r.1)))
abbrev qux (a:List qao) (_:Int) (_:Bool) (r:qaa×Int×Bool):List AObj:=[.box 113 [pK a,.p (.int .i64 r.2.1),.p (.bool r.2.2)]]
def qvw (n:Nat) (g124:q5n) (g77 g120:qfx) (g159 g173:qfx) (g178 g186:qfx) (g189 g190 g191:qfx) (g192:q5o) (g193:q5p) (b:List qao) (c:Int) (a:Bool):Option (qaa×Int×Bool):=
 bif a then(
 some (qaa.mk (0:Int) ([]:SS) (Val.mk (0:Int) false (0:Int) ([]:SS) ([]:List Val) ([]:List SS)) ([]:List SS) ([]:List qaa),c,a))
 else(
 bnd (idx b c) fun⟨e,f,a6,_⟩=>
 bif(e==3)then(
 some (qaa.mk (1:Int) ([]:SS) (Val.mk (2:Int) false a6 ([]:SS) ([]:List Val) ([]:List SS)) ([]:List SS) ([]:List qaa),(IntKind.i64.wrap (c+1)),a))
 else(
 bif(e==4)then(
 some (qaa.mk (1:Int) ([]:SS) (Val.mk (3:Int) false (0:Int) f ([]:List Val) ([]:List SS)) ([]:List SS) ([]:List qaa),(IntKind.i64.wrap (c+1)),a))
 else(
 bif(e==1)then(
 bnd (qap n ([40]:SS) b (IntKind.i64.wrap (c+1)) a) fun⟨a7,m⟩=>
 bif a7 then(
 bnd (g192 f b m a) fun⟨⟨o,p,⟨q,s,t,u,v,w⟩,x,y⟩,z,A⟩=>
 some (qaa.mk o p (Val.mk q s t u v w) x y,z,A))
 else(
 some (qaa.mk (2:Int) f (Val.mk (0:Int) false (0:Int) ([]:SS) ([]:List Val) ([]:List SS)) ([]:List SS) ([]:List qaa),m,a)))
 else(
 bnd (qap n ([78,85,76,76]:SS) b c a) fun⟨B,g⟩=>
 bif B then(
 some (qaa.mk (1:Int) ([]:SS) (Val.mk (0:Int) false (0:Int) ([]:SS) ([]:List Val) ([]:List SS)) ([]:List SS) ([]:List qaa),g,a))
 else(
 bnd (qap n ([84,82,85,69]:SS) b g a) fun⟨C,i⟩=>
 bif C then(
 some (qaa.mk (1:Int) ([]:SS) (Val.mk (1:Int) true (0:Int) ([]:SS) ([]:List Val) ([]:List SS)) ([]:List SS) ([]:List qaa),i,a))
 else(
 bnd (qap n ([70,65,76,83,69]:SS) b i a) fun⟨D,j⟩=>
 bif D then(
 some (qaa.mk (1:Int) ([]:SS) (Val.mk (1:Int) false (0:Int) ([]:SS) ([]:List Val) ([]:List SS)) ([]:List SS) ([]:List qaa),j,a))
 else(
 bnd (qap n ([36]:SS) b j a) fun⟨E,k⟩=>
 bif E then(
 bnd (qhi n b k a) fun⟨F,G,H⟩=>
 some (qaa.mk (3:Int) F (Val.mk (0:Int) false (0:Int) ([]:SS) ([]:List Val) ([]:List SS)) ([]:List SS) ([]:List qaa),G,H))
 else(
 bnd (qap n ([40]:SS) b k a) fun⟨I,l⟩=>
 bif I then(
 bnd (g77 b l a) fun⟨⟨J,K,⟨L,M,N,O,P,Q⟩,R,S⟩,T,U⟩=>
 bnd (qbq n ([41]:SS) b T U) fun⟨V,W⟩=>
 some (qaa.mk J K (Val.mk L M N O P Q) R S,V,W))
 else(
 bnd (qap n ([91]:SS) b l a) fun⟨X,d⟩=>
 bif X then(
 bnd (g193 ([93]:SS) b d a) fun⟨Y,Z,a0⟩=>
 some (qaa.mk (5:Int) ([]:SS) (Val.mk (0:Int) false (0:Int) ([]:SS) ([]:List Val) ([]:List SS)) ([]:List SS) Y,Z,a0))
 else(
 bnd (qem n ([123]:SS) b d a) fun a1=>
 bif a1 then(
 bnd (g124 b d a) fun⟨a2,a3,a4,a5⟩=>
 some (qaa.mk (6:Int) ([]:SS) (Val.mk (0:Int) false (0:Int) ([]:SS) ([]:List Val) ([]:List SS)) a2 a3,a4,a5))
 else(
 some (qaa.mk (0:Int) ([]:SS) (Val.mk (0:Int) false (0:Int) ([]:SS) ([]:List Val) ([]:List SS)) ([]:List SS) ([]:List qaa),d,true))))))))))))
abbrev qu2 (_:List qao) (_:Int) (_:Bool) (r:qaa×Int×Bool):FV:=.p ((PV.agg (qcf.cells r.1)))
abbrev quy (a:List qao) (_:Int) (_:Bool) (r:qaa×Int×Bool):List AObj:=[.box 113 [pK a,.p (.int .i64 r.2.1),.p (.bool r.2.2)]]
def qvx (n:Nat) (g124:q5n) (g77 g120:qfx) (g159 g173:qfx) (g178 g186:qfx) (g189 g190 g191:qfx) (g192:q5o) (g193:q5p) (a:SS) (b:List qao) (d:Int) (c:Bool):Option (qaa×Int×Bool):=
 bnd (qjx n a) fun M=>
 bif(!M)then(
 bnd (g193 ([41]:SS) b d c) fun⟨N,O,P⟩=>
 some (qaa.mk (13:Int) a (Val.mk (0:Int) false (0:Int) ([]:SS) ([]:List Val) ([]:List SS)) ([]:List SS) N,O,P))
 else(
 bif(a==([99,111,117,110,116]:SS))then(
 bnd (qap n ([42]:SS) b d c) fun⟨Q,e⟩=>
 bif(bif(a==([99,111,117,110,116]:SS))then Q else false)then(
 bnd (qbq n ([41]:SS) b e c) fun⟨f,g⟩=>
 some (qaa.mk (14:Int) a (Val.mk (0:Int) false (0:Int) ([]:SS) ([]:List Val) ([]:List SS)) ([]:List SS) ([]:List qaa),f,g))
 else(
 bnd (g77 b e c) fun⟨⟨i,j,⟨k,l,m,o,p,q⟩,s,t⟩,u,v⟩=>
 bnd (qbq n ([41]:SS) b u v) fun⟨w,x⟩=>
 some (qaa.mk (14:Int) a (Val.mk (0:Int) false (0:Int) ([]:SS) ([]:List Val) ([]:List SS)) ([]:List SS) [qaa.mk i j (Val.mk k l m o p q) s t],w,x)))
 else(
 bnd (g77 b d c) fun⟨⟨y,z,⟨A,B,C,D,E,F⟩,G,H⟩,I,J⟩=>
 bnd (qbq n ([41]:SS) b I J) fun⟨K,L⟩=>
 some (qaa.mk (14:Int) a (Val.mk (0:Int) false (0:Int) ([]:SS) ([]:List Val) ([]:List SS)) ([]:List SS) [qaa.mk y z (Val.mk A B C D E F) G H],K,L)))
abbrev qu3 (_:List qao) (_:Int) (_:Bool) (r:(List qaa)×Int×Bool):FV:=.p (.sl (qaa.rows r.1))
abbrev quz (a:List qao) (_:Int) (_:Bool) (r:(List qaa)×Int×Bool):List AObj:=[.box 113 [pK a,.p (.int .i64 r.2.1),.p (.bool r.2.2)]]
def qs9 (n:Nat) (g77:qfx) (l:List qao) (s:SS):(List qaa×Int×Bool->Option ((List qaa)×Int×Bool))->List qaa×Int×Bool->Option ((List qaa)×Int×Bool):=fun q (o,x,y)=>
 bnd (g77 l x y) fun⟨⟨a,b,⟨c,d,e,f,g,i⟩,j,k⟩,t,m⟩=>
 chk (decide ((qaa.rows (o++[qaa.mk a b (Val.mk c d e f g i) j k])).length * 160<=140737488355328)) (
 bnd (qap n ([44]:SS) l t m) fun⟨u,p⟩=>
 bif(!u)then(
 bnd (qbq n s l p m) fun⟨v,w⟩=>
 some ((o++[qaa.mk a b (Val.mk c d e f g i) j k]),v,w))
 else(
 q ((o++[qaa.mk a b (Val.mk c d e f g i) j k]),p,m)))
def qvy (n:Nat) (g124:q5n) (g77 g120:qfx) (g159 g173:qfx) (g178 g186:qfx) (g189 g190 g191:qfx) (g192:q5o) (g193:q5p) (b:SS) (c:List qao) (e:Int) (a:Bool):Option ((List qaa)×Int×Bool):=
 bnd (qap n b c e a) fun⟨f,d⟩=>
 bif f then(
 some (([]:List qaa),d,a))
 else(
 qan (qs9 n g77 c b) n (([]:List _),d,a))
abbrev zj1 (g124:q5n):Prop:=∀ (a:List qao) (b:Int) (c:Bool) (r:(List SS)×(List qaa)×Int×Bool),g124 a b c=some r->qay Tryz.prog 124 [.ptr 0 0] [.box 113 [pK a,pI b,pB c]] 1 (fun v lo=>v=qp7 a b c r/\lo=qp6 a b c r)
abbrev zj2 (g77:qfx):Prop:=∀ (a:List qao) (b:Int) (c:Bool) (r:qaa×Int×Bool),g77 a b c=some r->qay Tryz.prog 77 [.ptr 0 0] [.box 113 [pK a,pI b,pB c]] 1 (fun v lo=>v=qq9 a b c r/\lo=qq8 a b c r)
abbrev zj3 (g120:qfx):Prop:=∀ (a:List qao) (b:Int) (c:Bool) (r:qaa×Int×Bool),g120 a b c=some r->qay Tryz.prog 120 [.ptr 0 0] [.box 113 [pK a,pI b,pB c]] 1 (fun v lo=>v=qwh a b c r/\lo=qwc a b c r)
abbrev zj4 (g159:qfx):Prop:=∀ (a:List qao) (b:Int) (c:Bool) (r:qaa×Int×Bool),g159 a b c=some r->qay Tryz.prog 159 [.ptr 0 0] [.box 113 [pK a,pI b,pB c]] 1 (fun v lo=>v=qwe a b c r/\lo=qv9 a b c r)
abbrev zj5 (g173:qfx):Prop:=∀ (a:List qao) (b:Int) (c:Bool) (r:qaa×Int×Bool),g173 a b c=some r->qay Tryz.prog 173 [.ptr 0 0] [.box 113 [pK a,pI b,pB c]] 1 (fun v lo=>v=qwf a b c r/\lo=qwa a b c r)
abbrev zj6 (g178:qfx):Prop:=∀ (a:List qao) (b:Int) (c:Bool) (r:qaa×Int×Bool),g178 a b c=some r->qay Tryz.prog 178 [.ptr 0 0] [.box 113 [pK a,pI b,pB c]] 1 (fun v lo=>v=qu4 a b c r/\lo=qu0 a b c r)
abbrev zj7 (g186:qfx):Prop:=∀ (a:List qao) (b:Int) (c:Bool) (r:qaa×Int×Bool),g186 a b c=some r->qay Tryz.prog 186 [.ptr 0 0] [.box 113 [pK a,pI b,pB c]] 1 (fun v lo=>v=qwg a b c r/\lo=qwb a b c r)
abbrev zj8 (g189:qfx):Prop:=∀ (a:List qao) (b:Int) (c:Bool) (r:qaa×Int×Bool),g189 a b c=some r->qay Tryz.prog 189 [.ptr 0 0] [.box 113 [pK a,pI b,pB c]] 1 (fun v lo=>v=qqv a b c r/\lo=qqu a b c r)
abbrev zj9 (g190:qfx):Prop:=∀ (a:List qao) (b:Int) (c:Bool) (r:qaa×Int×Bool),g190 a b c=some r->qay Tryz.prog 190 [.ptr 0 0] [.box 113 [pK a,pI b,pB c]] 1 (fun v lo=>v=qtj a b c r/\lo=qti a b c r)
abbrev zka (g191:qfx):Prop:=∀ (a:List qao) (b:Int) (c:Bool) (r:qaa×Int×Bool),g191 a b c=some r->qay Tryz.prog 191 [.ptr 0 0] [.box 113 [pK a,pI b,pB c]] 1 (fun v lo=>v=qu1 a b c r/\lo=qux a b c r)
abbrev q5l (g192:q5o):Prop:=∀ (d:SS) (a:List qao) (b:Int) (c:Bool) (r:qaa×Int×Bool),g192 d a b c=some r->qay Tryz.prog 192 [.ptr 0 0,.p (PV.str d)] [.box 113 [pK a,pI b,pB c]] 1 (fun v lo=>v=qu2 a b c r/\lo=quy a b c r)
abbrev q5m (g193:q5p):Prop:=∀ (d:SS) (a:List qao) (b:Int) (c:Bool) (r:(List qaa)×Int×Bool),g193 d a b c=some r->qay Tryz.prog 193 [.ptr 0 0,.p (PV.str d)] [.box 113 [pK a,pI b,pB c]] 1 (fun v lo=>v=qu3 a b c r/\lo=quz a b c r)
theorem q3d (n:Nat) (g124:q5n) (g77 g120:qfx) (g159 g173:qfx) (g178 g186:qfx) (g189 g190 g191:qfx) (g192:q5o) (g193:q5p) (g124_ok:zj1 g124) (g77_ok:zj2 g77) (g120_ok:zj3 g120) (g159_ok:zj4 g159) (g173_ok:zj5 g173) (g178_ok:zj6 g178) (g186_ok:zj7 g186) (g189_ok:zj8 g189) (g190_ok:zj9 g190) (g191_ok:zka g191) (g192_ok:q5l g192) (g193_ok:q5m g193):∀ (a:List qao) (s:Int) (t:Bool) (r:(List SS)×(List qaa)×Int×Bool),quj n g124 g77 g120 g159 g173 g178 g186 g189 g190 g191 g192 g193 a s t=some r->qay Tryz.prog 124 [.ptr 0 0] [.box 113 [pK a,pI s,pB t]] 1 (fun v lo=>v=qp7 a s t r/\lo=qp6 a s t r):=by
 intro a s t r h;unfold quj at h;refine qay.of_vc mixed (fun _ _=>Tryz.call124 _ _) Tryz.func124 (by kernel_rfl) (inl:=[74,77,78,123,1000000]) (Nat.le_of_ble_eq_true rfl) ?_;conv=>whnf
 refine bq h fun⟨U,D⟩ E h=>?_;refine qcl (qa5 n _ _ _ _ _ E) [0] [] ?_;rintro _ _ ⟨rfl,rfl⟩;refine⟨.p (.tup []),[.box 113 [pK a,pI U,pB D]],rfl,rfl,?_⟩;conv=>whnf
 refine bq h fun⟨V,W⟩ F h=>?_;refine qcl (qaj n _ _ _ _ _ F) [0] [] ?_;rintro _ _ ⟨rfl,rfl⟩;refine⟨pB V,[.box 113 [pK a,pI W,pB D]],rfl,rfl,?_⟩;conv=>whnf
 apply ifc h<;>intro A h
 ·obtain rfl:=sj h
  conv=>whnf
  refine⟨_,_,⟨rfl,rfl⟩,wk [0] []⟩
 ·conv=>whnf
  refine qbl.fn [74,77,78,123,1000000] (S:=List SS×List qaa×Int×Bool) (fun(b,c,u,w)=>[(0,.ptr 0 0),(4,.tsl 1 (qai b)),(5,.tsl 2 (qaa.rows c))]) (fun(b,c,u,w)=>[.box 113 [pK a,pI u,pB w],.tail 9 1 (qai b).length,.tail 46 10 (qaa.rows c).length]) (B:=qr1 n a g77) h (wk [0,0,0] [1,2]) ?_;intro _ st h;obtain⟨b,c,u,w⟩:=st;unfold qr1 at h;conv=>whnf
  apply ifc h<;>intro A h
  ·conv=>whnf
   refine bq h fun⟨q,L,M⟩ G h=>?_;refine qcl (qhh n _ _ _ _ G) [0] [] ?_;rintro _ _ ⟨rfl,rfl⟩;refine⟨pS q,[.box 113 [pK a,pI L,pB M],.tail 9 1 (qai b).length,.tail 46 10 (qaa.rows c).length],rfl,rfl,?_⟩;conv=>whnf
   refine bq h fun⟨N,O⟩ H h=>?_;refine qcl (qa5 n _ _ _ _ _ H) [0] [] ?_;rintro _ _ ⟨rfl,rfl⟩;refine⟨.p (.tup []),[.box 113 [pK a,pI N,pB O],.tail 9 1 (qai b).length,.tail 46 10 (qaa.rows c).length],rfl,rfl,?_⟩;conv=>whnf
   refine bq h fun⟨⟨d,e,⟨f,g,i,j,k,l⟩,m,o⟩,P,x⟩ I h=>?_;refine qcl (g77_ok _ _ _ _ I) [0] [] ?_;rintro _ _ ⟨rfl,rfl⟩;refine⟨.p (.agg [.int .i64 d,.str e,.int .i64 f,.bool g,.int .i64 i,.str j,.sl (Val.rows k),.sl (qai l),.sl (qai m),.sl (qaa.rows o)]),[.box 113 [pK a,pI P,pB x],.tail 9 1 (qai b).length,.tail 46 10 (qaa.rows c).length],rfl,rfl,?_⟩;conv=>whnf
   refine⟨Codec.one qpl [q],qai [q],.inl rfl,?_⟩;conv=>whnf
   rw[show qai b++qai [q]=qai (b++[q])from Codec.append qpl b [q]];conv=>whnf
   obtain⟨z,h⟩:=qak h;refine⟨⟨Codec.wide qpl (b++[q]),of_decide_eq_true z,qcb z (by decide)⟩,?_⟩;conv=>whnf
   refine⟨⟨rfl,rfl,rfl⟩,?_⟩;conv=>whnf
   refine⟨Codec.one qcf [qaa.mk d e (Val.mk f g i j k l) m o],qaa.rows [qaa.mk d e (Val.mk f g i j k l) m o],.inl rfl,?_⟩;conv=>whnf
   rw[show qaa.rows c++qaa.rows [qaa.mk d e (Val.mk f g i j k l) m o]=qaa.rows (c++[qaa.mk d e (Val.mk f g i j k l) m o])from Codec.append qcf c [qaa.mk d e (Val.mk f g i j k l) m o]];conv=>whnf
   obtain⟨y,h⟩:=qak h;refine⟨⟨Codec.wide qcf (c++[qaa.mk d e (Val.mk f g i j k l) m o]),of_decide_eq_true y,qcb y (by decide)⟩,?_⟩;conv=>whnf
   refine⟨⟨rfl,rfl,rfl⟩,?_⟩;conv=>whnf
   refine bq h fun⟨Q,C⟩ J h=>?_;refine qcl (qaj n _ _ _ _ _ J) [0] [] ?_;rintro _ _ ⟨rfl,rfl⟩;refine⟨pB Q,[.box 113 [pK a,pI C,pB x],.dead,.dead,.box 46 [pI d,pS e,pI f,pB g,pI i,pS j,pV k,pT l,pT m,pE o],.tail 9 1 (qai (b++[q])).length,.tail 46 10 (qaa.rows (c++[qaa.mk d e (Val.mk f g i j k l) m o])).length],rfl,rfl,?_⟩;conv=>whnf
   apply ifc h<;>intro A h
   ·conv=>whnf
    refine bq h fun⟨R,T⟩ K h=>?_;refine qcl (qa5 n _ _ _ _ _ K) [0] [] ?_;rintro _ _ ⟨rfl,rfl⟩;refine⟨.p (.tup []),[.box 113 [pK a,pI R,pB T],.dead,.dead,.box 46 [pI d,pS e,pI f,pB g,pI i,pS j,pV k,pT l,pT m,pE o],.tail 9 1 (qai (b++[q])).length,.tail 46 10 (qaa.rows (c++[qaa.mk d e (Val.mk f g i j k l) m o])).length],rfl,rfl,?_⟩;obtain rfl:=sj h;conv=>whnf
    refine⟨_,_,⟨rfl,rfl⟩,wk [0] []⟩
   ·conv=>whnf
    exact⟨((b++[q]),(c++[qaa.mk d e (Val.mk f g i j k l) m o]),C,x),h,wk [0,4,5] []⟩
  ·obtain rfl:=sj h
   conv=>whnf
   refine⟨_,_,⟨rfl,rfl⟩,wk [0] []⟩
theorem q40 (n:Nat) (g124:q5n) (g77 g120:qfx) (g159 g173:qfx) (g178 g186:qfx) (g189 g190 g191:qfx) (g192:q5o) (g193:q5p) (g124_ok:zj1 g124) (g77_ok:zj2 g77) (g120_ok:zj3 g120) (g159_ok:zj4 g159) (g173_ok:zj5 g173) (g178_ok:zj6 g178) (g186_ok:zj7 g186) (g189_ok:zj8 g189) (g190_ok:zj9 g190) (g191_ok:zka g191) (g192_ok:q5l g192) (g193_ok:q5m g193):∀ (a:List qao) (d:Int) (o:Bool) (r:qaa×Int×Bool),qvv n g124 g77 g120 g159 g173 g178 g186 g189 g190 g191 g192 g193 a d o=some r->qay Tryz.prog 77 [.ptr 0 0] [.box 113 [pK a,pI d,pB o]] 1 (fun v lo=>v=qq9 a d o r/\lo=qq8 a d o r):=by
 intro a d o r h;unfold qvv at h;refine qay.of_vc mixed (fun _ _=>Tryz.call77 _ _) Tryz.func77 (by kernel_rfl) (inl:=[74,120,1000000]) (Nat.le_of_ble_eq_true rfl) ?_;conv=>whnf
 refine bq h fun⟨⟨U,a3,⟨a6,a7,a8,a9,A,C⟩,D,E⟩,F,G⟩ w h=>?_;refine qcl (g120_ok _ _ _ _ w) [0] [] ?_;rintro _ _ ⟨rfl,rfl⟩;refine⟨.p (.agg [.int .i64 U,.str a3,.int .i64 a6,.bool a7,.int .i64 a8,.str a9,.sl (Val.rows A),.sl (qai C),.sl (qai D),.sl (qaa.rows E)]),[.box 113 [pK a,pI F,pB G],zq4],rfl,rfl,?_⟩;conv=>whnf
 refine qbl.fn [74,120,1000000] (S:=Int×Bool×Int×SS×Int×Bool×Int×SS×List Val×List SS×List SS×List qaa) (fun(s,q,b,c,e,f,g,i,j,k,l,m)=>[(0,.ptr 0 0),(2,.ptr 1 0),(3,.ptr 2 0)]) (fun(s,q,b,c,e,f,g,i,j,k,l,m)=>[.box 113 [pK a,pI s,pB q],zq4,.box 46 [pI b,pS c,pI e,pB f,pI g,pS i,pV j,pT k,pT l,pE m]]) (B:=qs8 n a g120) h (wk [0,1,2] []) ?_;intro _ st h;obtain⟨s,q,b,c,e,f,g,i,j,k,l,m⟩:=st;unfold qs8 at h;conv=>whnf
 refine bq h fun⟨H,I⟩ x h=>?_;refine qcl (qaj n _ _ _ _ _ x) [0] [] ?_;rintro _ _ ⟨rfl,rfl⟩;refine⟨pB H,[.box 113 [pK a,pI I,pB q],zq4,.box 46 [pI b,pS c,pI e,pB f,pI g,pS i,pV j,pT k,pT l,pE m]],rfl,rfl,?_⟩;conv=>whnf
 apply ifc h<;>intro _ h
 ·conv=>whnf
  refine bq h fun⟨⟨J,K,⟨L,M,N,O,P,Q⟩,R,T⟩,t,u⟩ y h=>?_;refine qcl (g120_ok _ _ _ _ y) [0] [] ?_;rintro _ _ ⟨rfl,rfl⟩;refine⟨.p (.agg [.int .i64 J,.str K,.int .i64 L,.bool M,.int .i64 N,.str O,.sl (Val.rows P),.sl (qai Q),.sl (qai R),.sl (qaa.rows T)]),[.box 113 [pK a,pI t,pB u],zq4,.box 46 [pI b,pS c,pI e,pB f,pI g,pS i,pV j,pT k,pT l,pE m]],rfl,rfl,?_⟩;conv=>whnf
  refine bq h fun⟨V,W,⟨X,Y,Z,a0,a1,a2⟩,a4,a5⟩ z h=>?_;refine⟨_,(qhj n _ _ _ _ z),?_⟩;conv=>whnf
  exact⟨(t,u,V,W,X,Y,Z,a0,a1,a2,a4,a5),h,wk [0,1,2] []⟩
 ·obtain rfl:=sj h
  conv=>whnf
  refine⟨_,_,⟨rfl,rfl⟩,wk [0] []⟩
theorem q6k (n:Nat) (g124:q5n) (g77 g120:qfx) (g159 g173:qfx) (g178 g186:qfx) (g189 g190 g191:qfx) (g192:q5o) (g193:q5p) (g124_ok:zj1 g124) (g77_ok:zj2 g77) (g120_ok:zj3 g120) (g159_ok:zj4 g159) (g173_ok:zj5 g173) (g178_ok:zj6 g178) (g186_ok:zj7 g186) (g189_ok:zj8 g189) (g190_ok:zj9 g190) (g191_ok:zka g191) (g192_ok:q5l g192) (g193_ok:q5m g193):∀ (a:List qao) (d:Int) (o:Bool) (r:qaa×Int×Bool),qxq n g124 g77 g120 g159 g173 g178 g186 g189 g190 g191 g192 g193 a d o=some r->qay Tryz.prog 120 [.ptr 0 0] [.box 113 [pK a,pI d,pB o]] 1 (fun v lo=>v=qwh a d o r/\lo=qwc a d o r):=by
 intro a d o r h;unfold qxq at h;refine qay.of_vc mixed (fun _ _=>Tryz.call120 _ _) Tryz.func120 (by kernel_rfl) (inl:=[74,159,1000000]) (Nat.le_of_ble_eq_true rfl) ?_;conv=>whnf
 refine bq h fun⟨⟨U,a3,⟨a6,a7,a8,a9,A,C⟩,D,E⟩,F,G⟩ w h=>?_;refine qcl (g159_ok _ _ _ _ w) [0] [] ?_;rintro _ _ ⟨rfl,rfl⟩;refine⟨.p (.agg [.int .i64 U,.str a3,.int .i64 a6,.bool a7,.int .i64 a8,.str a9,.sl (Val.rows A),.sl (qai C),.sl (qai D),.sl (qaa.rows E)]),[.box 113 [pK a,pI F,pB G],zq4],rfl,rfl,?_⟩;conv=>whnf
 refine qbl.fn [74,159,1000000] (S:=Int×Bool×Int×SS×Int×Bool×Int×SS×List Val×List SS×List SS×List qaa) (fun(s,q,b,c,e,f,g,i,j,k,l,m)=>[(0,.ptr 0 0),(2,.ptr 1 0),(3,.ptr 2 0)]) (fun(s,q,b,c,e,f,g,i,j,k,l,m)=>[.box 113 [pK a,pI s,pB q],zq4,.box 46 [pI b,pS c,pI e,pB f,pI g,pS i,pV j,pT k,pT l,pE m]]) (B:=qur n a g159) h (wk [0,1,2] []) ?_;intro _ st h;obtain⟨s,q,b,c,e,f,g,i,j,k,l,m⟩:=st;unfold qur at h;conv=>whnf
 refine bq h fun⟨H,I⟩ x h=>?_;refine qcl (qaj n _ _ _ _ _ x) [0] [] ?_;rintro _ _ ⟨rfl,rfl⟩;refine⟨pB H,[.box 113 [pK a,pI I,pB q],zq4,.box 46 [pI b,pS c,pI e,pB f,pI g,pS i,pV j,pT k,pT l,pE m]],rfl,rfl,?_⟩;conv=>whnf
 apply ifc h<;>intro _ h
 ·conv=>whnf
  refine bq h fun⟨⟨J,K,⟨L,M,N,O,P,Q⟩,R,T⟩,t,u⟩ y h=>?_;refine qcl (g159_ok _ _ _ _ y) [0] [] ?_;rintro _ _ ⟨rfl,rfl⟩;refine⟨.p (.agg [.int .i64 J,.str K,.int .i64 L,.bool M,.int .i64 N,.str O,.sl (Val.rows P),.sl (qai Q),.sl (qai R),.sl (qaa.rows T)]),[.box 113 [pK a,pI t,pB u],zq4,.box 46 [pI b,pS c,pI e,pB f,pI g,pS i,pV j,pT k,pT l,pE m]],rfl,rfl,?_⟩;conv=>whnf
  refine bq h fun⟨V,W,⟨X,Y,Z,a0,a1,a2⟩,a4,a5⟩ z h=>?_;refine⟨_,(qhj n _ _ _ _ z),?_⟩;conv=>whnf
  exact⟨(t,u,V,W,X,Y,Z,a0,a1,a2,a4,a5),h,wk [0,1,2] []⟩
 ·obtain rfl:=sj h
  conv=>whnf
  refine⟨_,_,⟨rfl,rfl⟩,wk [0] []⟩
theorem q6h (n:Nat) (g124:q5n) (g77 g120:qfx) (g159 g173:qfx) (g178 g186:qfx) (g189 g190 g191:qfx) (g192:q5o) (g193:q5p) (g124_ok:zj1 g124) (g77_ok:zj2 g77) (g120_ok:zj3 g120) (g159_ok:zj4 g159) (g173_ok:zj5 g173) (g178_ok:zj6 g178) (g186_ok:zj7 g186) (g189_ok:zj8 g189) (g190_ok:zj9 g190) (g191_ok:zka g191) (g192_ok:q5l g192) (g193_ok:q5m g193):∀ (a:List qao) (d:Int) (o:Bool) (r:qaa×Int×Bool),qxn n g124 g77 g120 g159 g173 g178 g186 g189 g190 g191 g192 g193 a d o=some r->qay Tryz.prog 159 [.ptr 0 0] [.box 113 [pK a,pI d,pB o]] 1 (fun v lo=>v=qwe a d o r/\lo=qv9 a d o r):=by
 intro a d o r h;unfold qxn at h;refine qay.of_vc mixed (fun _ _=>Tryz.call159 _ _) Tryz.func159 (by kernel_rfl) (inl:=[74,173,1000000]) (Nat.le_of_ble_eq_true rfl) ?_;conv=>whnf
 refine bq h fun⟨⟨U,a3,⟨a6,a7,a8,a9,A,C⟩,D,E⟩,F,G⟩ w h=>?_;refine qcl (g173_ok _ _ _ _ w) [0] [] ?_;rintro _ _ ⟨rfl,rfl⟩;refine⟨.p (.agg [.int .i64 U,.str a3,.int .i64 a6,.bool a7,.int .i64 a8,.str a9,.sl (Val.rows A),.sl (qai C),.sl (qai D),.sl (qaa.rows E)]),[.box 113 [pK a,pI F,pB G],zq4],rfl,rfl,?_⟩;conv=>whnf
 refine qbl.fn [74,173,1000000] (S:=Int×Bool×Int×SS×Int×Bool×Int×SS×List Val×List SS×List SS×List qaa) (fun(s,q,b,c,e,f,g,i,j,k,l,m)=>[(0,.ptr 0 0),(2,.ptr 1 0),(3,.ptr 2 0)]) (fun(s,q,b,c,e,f,g,i,j,k,l,m)=>[.box 113 [pK a,pI s,pB q],zq4,.box 46 [pI b,pS c,pI e,pB f,pI g,pS i,pV j,pT k,pT l,pE m]]) (B:=qun n a g173) h (wk [0,1,2] []) ?_;intro _ st h;obtain⟨s,q,b,c,e,f,g,i,j,k,l,m⟩:=st;unfold qun at h;conv=>whnf
 refine bq h fun⟨H,I⟩ x h=>?_;refine qcl (qaj n _ _ _ _ _ x) [0] [] ?_;rintro _ _ ⟨rfl,rfl⟩;refine⟨pB H,[.box 113 [pK a,pI I,pB q],zq4,.box 46 [pI b,pS c,pI e,pB f,pI g,pS i,pV j,pT k,pT l,pE m]],rfl,rfl,?_⟩;conv=>whnf
 apply ifc h<;>intro _ h
 ·conv=>whnf
  refine bq h fun⟨⟨J,K,⟨L,M,N,O,P,Q⟩,R,T⟩,t,u⟩ y h=>?_;refine qcl (g173_ok _ _ _ _ y) [0] [] ?_;rintro _ _ ⟨rfl,rfl⟩;refine⟨.p (.agg [.int .i64 J,.str K,.int .i64 L,.bool M,.int .i64 N,.str O,.sl (Val.rows P),.sl (qai Q),.sl (qai R),.sl (qaa.rows T)]),[.box 113 [pK a,pI t,pB u],zq4,.box 46 [pI b,pS c,pI e,pB f,pI g,pS i,pV j,pT k,pT l,pE m]],rfl,rfl,?_⟩;conv=>whnf
  refine bq h fun⟨V,W,⟨X,Y,Z,a0,a1,a2⟩,a4,a5⟩ z h=>?_;refine⟨_,(qhj n _ _ _ _ z),?_⟩;conv=>whnf
  exact⟨(t,u,V,W,X,Y,Z,a0,a1,a2,a4,a5),h,wk [0,1,2] []⟩
 ·obtain rfl:=sj h
  conv=>whnf
  refine⟨_,_,⟨rfl,rfl⟩,wk [0] []⟩
theorem q6i (n:Nat) (g124:q5n) (g77 g120:qfx) (g159 g173:qfx) (g178 g186:qfx) (g189 g190 g191:qfx) (g192:q5o) (g193:q5p) (g124_ok:zj1 g124) (g77_ok:zj2 g77) (g120_ok:zj3 g120) (g159_ok:zj4 g159) (g173_ok:zj5 g173) (g178_ok:zj6 g178) (g186_ok:zj7 g186) (g189_ok:zj8 g189) (g190_ok:zj9 g190) (g191_ok:zka g191) (g192_ok:q5l g192) (g193_ok:q5m g193):∀ (a:List qao) (c:Int) (b:Bool) (r:qaa×Int×Bool),qxo n g124 g77 g120 g159 g173 g178 g186 g189 g190 g191 g192 g193 a c b=some r->qay Tryz.prog 173 [.ptr 0 0] [.box 113 [pK a,pI c,pB b]] 1 (fun v lo=>v=qwf a c b r/\lo=qwa a c b r):=by
 intro a c b r h;unfold qxo at h;refine qay.of_vc mixed (fun _ _=>Tryz.call173 _ _) Tryz.func173 (by kernel_rfl) (inl:=[74,173,178,1000000]) (Nat.le_of_ble_eq_true rfl) ?_;conv=>whnf
 refine bq h fun⟨G,H⟩ d h=>?_;refine qcl (qaj n _ _ _ _ _ d) [0] [] ?_;rintro _ _ ⟨rfl,rfl⟩;refine⟨pB G,[.box 113 [pK a,pI H,pB b],zq4],rfl,rfl,?_⟩;conv=>whnf
 apply ifc h<;>intro _ h
 ·conv=>whnf
  refine bq h fun⟨⟨I,J,⟨K,L,i,j,k,l⟩,m,o⟩,q,s⟩ e h=>?_;refine qcl (g173_ok _ _ _ _ e) [0] [] ?_;rintro _ _ ⟨rfl,rfl⟩;refine⟨.p (.agg [.int .i64 I,.str J,.int .i64 K,.bool L,.int .i64 i,.str j,.sl (Val.rows k),.sl (qai l),.sl (qai m),.sl (qaa.rows o)]),[.box 113 [pK a,pI q,pB s],zq4],rfl,rfl,?_⟩;conv=>whnf
  refine bq h fun⟨_,_,⟨_,_,_,_,_,_⟩,_,_⟩ f h=>?_;refine⟨_,(qpb n _ _ _ f),?_⟩;obtain rfl:=sj h;conv=>whnf
  refine⟨_,_,⟨rfl,rfl⟩,wk [0] []⟩
 ·conv=>whnf
  refine bq h fun⟨⟨t,u,⟨w,x,y,z,A,B⟩,C,D⟩,E,F⟩ g h=>?_;refine qcl (g178_ok _ _ _ _ g) [0] [] ?_;rintro _ _ ⟨rfl,rfl⟩;refine⟨.p (.agg [.int .i64 t,.str u,.int .i64 w,.bool x,.int .i64 y,.str z,.sl (Val.rows A),.sl (qai B),.sl (qai C),.sl (qaa.rows D)]),[.box 113 [pK a,pI E,pB F],zq4],rfl,rfl,?_⟩;obtain rfl:=sj h;conv=>whnf
  refine⟨_,_,⟨rfl,rfl⟩,wk [0] []⟩
theorem q44 (n:Nat) (g124:q5n) (g77 g120:qfx) (g159 g173:qfx) (g178 g186:qfx) (g189 g190 g191:qfx) (g192:q5o) (g193:q5p) (g124_ok:zj1 g124) (g77_ok:zj2 g77) (g120_ok:zj3 g120) (g159_ok:zj4 g159) (g173_ok:zj5 g173) (g178_ok:zj6 g178) (g186_ok:zj7 g186) (g189_ok:zj8 g189) (g190_ok:zj9 g190) (g191_ok:zka g191) (g192_ok:q5l g192) (g193_ok:q5m g193):∀ (a:List qao) (o:Int) (q:Bool) (r:qaa×Int×Bool),qvz n g124 g77 g120 g159 g173 g178 g186 g189 g190 g191 g192 g193 a o q=some r->qay Tryz.prog 178 [.ptr 0 0] [.box 113 [pK a,pI o,pB q]] 1 (fun v lo=>v=qu4 a o q r/\lo=qu0 a o q r):=by
 intro a o q r h;unfold qvz at h;refine qay.of_vc mixed (fun _ _=>Tryz.call178 _ _) Tryz.func178 (by kernel_rfl) (inl:=[74,78,186,1000000]) (Nat.le_of_ble_eq_true rfl) ?_;conv=>whnf
 refine bq h fun⟨⟨f,g,⟨i,j,k,l,b,c⟩,d,e⟩,J,m⟩ x h=>?_;refine qcl (g186_ok _ _ _ _ x) [0] [] ?_;rintro _ _ ⟨rfl,rfl⟩;refine⟨.p (.agg [.int .i64 f,.str g,.int .i64 i,.bool j,.int .i64 k,.str l,.sl (Val.rows b),.sl (qai c),.sl (qai d),.sl (qaa.rows e)]),[.box 113 [pK a,pI J,pB m],zq4],rfl,rfl,?_⟩;conv=>whnf
 refine bq h fun⟨K,L⟩ A h=>?_;refine qcl (qaj n _ _ _ _ _ A) [0] [] ?_;rintro _ _ ⟨rfl,rfl⟩;refine⟨pB K,[.box 113 [pK a,pI L,pB m],zq4,.box 46 [pI f,pS g,pI i,pB j,pI k,pS l,pV b,pT c,pT d,pE e]],rfl,rfl,?_⟩;conv=>whnf
 apply ifc h<;>intro t h
 ·conv=>whnf
  refine bq h fun⟨M,N⟩ C h=>?_;refine qcl (qaj n _ _ _ _ _ C) [0] [] ?_;rintro _ _ ⟨rfl,rfl⟩;refine⟨pB M,[.box 113 [pK a,pI N,pB m],zq4,.box 46 [pI f,pS g,pI i,pB j,pI k,pS l,pV b,pT c,pT d,pE e]],rfl,rfl,?_⟩;conv=>whnf
  refine bq h fun⟨O,P⟩ D h=>?_;refine qcl (qa5 n _ _ _ _ _ D) [0] [] ?_;rintro _ _ ⟨rfl,rfl⟩;refine⟨.p (.tup []),[.box 113 [pK a,pI O,pB P],zq4,.box 46 [pI f,pS g,pI i,pB j,pI k,pS l,pV b,pT c,pT d,pE e]],rfl,rfl,?_⟩;conv=>whnf
  apply ifc h<;>intro t h
  ·conv=>whnf
   refine bq h fun⟨_,_,⟨_,_,_,_,_,_⟩,_,_⟩ E h=>?_;refine⟨_,(qpb n _ _ _ E),?_⟩;obtain rfl:=sj h;conv=>whnf
   refine⟨_,_,⟨rfl,rfl⟩,wk [0] []⟩
  ·conv=>whnf
   refine bq h fun⟨_,_,⟨_,_,_,_,_,_⟩,_,_⟩ F h=>?_;refine⟨_,(qpb n _ _ _ F),?_⟩;obtain rfl:=sj h;conv=>whnf
   refine⟨_,_,⟨rfl,rfl⟩,wk [0] []⟩
 ·conv=>whnf
  refine⟨Codec.one qpl [([61]:SS),([60,62]:SS),([60,61]:SS),([60]:SS),([62,61]:SS),([62]:SS),([73,78]:SS)],qai [([61]:SS),([60,62]:SS),([60,61]:SS),([60]:SS),([62,61]:SS),([62]:SS),([73,78]:SS)],.inl rfl,?_⟩;conv=>whnf
  refine qbl.fn [74,78,186,1000000] (S:=Int×Int) (fun(s,u)=>[(0,.ptr 0 0),(2,.ptr 1 0),(3,.ptr 2 0),(5,.p (.sl (qai [([61]:SS),([60,62]:SS),([60,61]:SS),([60]:SS),([62,61]:SS),([62]:SS),([73,78]:SS)]))),(6,pI s)]) (fun(s,u)=>[.box 113 [pK a,pI u,pB m],zq4,.box 46 [pI f,pS g,pI i,pB j,pI k,pS l,pV b,pT c,pT d,pE e]]) (B:=qte n a m g186 f g i j k l b c d e) h (wk [0,1,2] []) ?_;intro _ st h;obtain⟨s,u⟩:=st;unfold qte at h;conv=>whnf
  apply ifc h<;>intro t h
  ·conv=>whnf
   refine bq h fun _ z h=>?_;refine⟨_,Codec.at_ qpl z,?_⟩;conv=>whnf
   refine bq h fun⟨Q,w⟩ G h=>?_;refine qcl (qaj n _ _ _ _ _ G) [0] [] ?_;rintro _ _ ⟨rfl,rfl⟩;refine⟨pB Q,[.box 113 [pK a,pI w,pB m],zq4,.box 46 [pI f,pS g,pI i,pB j,pI k,pS l,pV b,pT c,pT d,pE e]],rfl,rfl,?_⟩;conv=>whnf
   apply ifc h<;>intro t h
   ·conv=>whnf
    refine bq h fun⟨⟨R,T,⟨U,V,W,X,Y,Z⟩,a0,a1⟩,a2,a3⟩ H h=>?_;refine qcl (g186_ok _ _ _ _ H) [0] [] ?_;rintro _ _ ⟨rfl,rfl⟩;refine⟨.p (.agg [.int .i64 R,.str T,.int .i64 U,.bool V,.int .i64 W,.str X,.sl (Val.rows Y),.sl (qai Z),.sl (qai a0),.sl (qaa.rows a1)]),[.box 113 [pK a,pI a2,pB a3],zq4,.box 46 [pI f,pS g,pI i,pB j,pI k,pS l,pV b,pT c,pT d,pE e]],rfl,rfl,?_⟩;conv=>whnf
    refine bq h fun _ y h=>?_;refine⟨_,Codec.at_ qpl y,?_⟩;conv=>whnf
    refine bq h fun⟨_,_,⟨_,_,_,_,_,_⟩,_,_⟩ I h=>?_;refine⟨_,(qhj n _ _ _ _ I),?_⟩;obtain rfl:=sj h;conv=>whnf
    refine⟨_,_,⟨rfl,rfl⟩,wk [0] []⟩
   ·conv=>whnf
    exact⟨((IntKind.i64.wrap (s+1)),w),h,wk [0,1,2] []⟩
  ·obtain rfl:=sj h
   conv=>whnf
   refine⟨_,_,⟨rfl,rfl⟩,wk [0] []⟩
theorem q6j (n:Nat) (g124:q5n) (g77 g120:qfx) (g159 g173:qfx) (g178 g186:qfx) (g189 g190 g191:qfx) (g192:q5o) (g193:q5p) (g124_ok:zj1 g124) (g77_ok:zj2 g77) (g120_ok:zj3 g120) (g159_ok:zj4 g159) (g173_ok:zj5 g173) (g178_ok:zj6 g178) (g186_ok:zj7 g186) (g189_ok:zj8 g189) (g190_ok:zj9 g190) (g191_ok:zka g191) (g192_ok:q5l g192) (g193_ok:q5m g193):∀ (a:List qao) (q:Int) (s:Bool) (r:qaa×Int×Bool),qxp n g124 g77 g120 g159 g173 g178 g186 g189 g190 g191 g192 g193 a q s=some r->qay Tryz.prog 186 [.ptr 0 0] [.box 113 [pK a,pI q,pB s]] 1 (fun v lo=>v=qwg a q s r/\lo=qwb a q s r):=by
 intro a q s r h;unfold qxp at h;refine qay.of_vc mixed (fun _ _=>Tryz.call186 _ _) Tryz.func186 (by kernel_rfl) (inl:=[83,189,1000000]) (Nat.le_of_ble_eq_true rfl) ?_;conv=>whnf
 refine bq h fun⟨⟨Z,a8,⟨b5,c6,d5,d8,K,L⟩,M,N⟩,O,P⟩ z h=>?_;refine qcl (g189_ok _ _ _ _ z) [0] [] ?_;rintro _ _ ⟨rfl,rfl⟩;refine⟨.p (.agg [.int .i64 Z,.str a8,.int .i64 b5,.bool c6,.int .i64 d5,.str d8,.sl (Val.rows K),.sl (qai L),.sl (qai M),.sl (qaa.rows N)]),[.box 113 [pK a,pI O,pB P],zq4],rfl,rfl,?_⟩;conv=>whnf
 refine qbl.fn [83,189,1000000] (S:=Int×Bool×Int×SS×Int×Bool×Int×SS×List Val×List SS×List SS×List qaa) (fun(m,o,b,c,d,e,f,g,i,j,k,l)=>[(0,.ptr 0 0),(2,.ptr 1 0),(3,.ptr 2 0)]) (fun(m,o,b,c,d,e,f,g,i,j,k,l)=>[.box 113 [pK a,pI m,pB o],zq4,.box 46 [pI b,pS c,pI d,pB e,pI f,pS g,pV i,pT j,pT k,pE l]]) (B:=quq n a g189) h (wk [0,1,2] []) ?_;intro _ st h;obtain⟨m,o,b,c,d,e,f,g,i,j,k,l⟩:=st;unfold quq at h;conv=>whnf
 refine bq h fun Q A h=>?_;refine qcl (qdd n _ _ _ _ _ A) [0] [] ?_;rintro _ _ ⟨rfl,rfl⟩;refine⟨pB Q,[.box 113 [pK a,pI m,pB o],zq4,.box 46 [pI b,pS c,pI d,pB e,pI f,pS g,pV i,pT j,pT k,pE l]],rfl,rfl,?_⟩;conv=>whnf
 refine⟨fun t=>?_,fun t=>?_⟩
 ·have h:=q0i h t
  conv=>whnf
  refine⟨id,?_⟩;conv=>whnf
  refine bq h fun R C h=>?_;refine qcl (qdd n _ _ _ _ _ C) [0] [] ?_;rintro _ _ ⟨rfl,rfl⟩;refine⟨pB R,[.box 113 [pK a,pI m,pB o],zq4,.box 46 [pI b,pS c,pI d,pB e,pI f,pS g,pV i,pT j,pT k,pE l]],rfl,rfl,?_⟩;conv=>whnf
  refine⟨id,?_⟩;conv=>whnf
  apply ifc h<;>intro J h
  ·conv=>whnf
   refine bq h fun⟨_,_,_,_⟩ F h=>?_;refine⟨_,Codec.at_ qrw F,?_⟩;conv=>whnf
   refine bq h fun⟨⟨T,U,⟨V,W,X,Y,a0,a1⟩,a2,a3⟩,u,w⟩ D h=>?_;refine qcl (g189_ok _ _ _ _ D) [0] [] ?_;rintro _ _ ⟨rfl,rfl⟩;refine⟨.p (.agg [.int .i64 T,.str U,.int .i64 V,.bool W,.int .i64 X,.str Y,.sl (Val.rows a0),.sl (qai a1),.sl (qai a2),.sl (qaa.rows a3)]),[.box 113 [pK a,pI u,pB w],zq4,.box 46 [pI b,pS c,pI d,pB e,pI f,pS g,pV i,pT j,pT k,pE l]],rfl,rfl,?_⟩;conv=>whnf
   refine bq h fun⟨a4,a5,⟨a6,a7,a9,b0,b1,b2⟩,b3,b4⟩ E h=>?_;refine⟨_,(qhj n _ _ _ _ E),?_⟩;conv=>whnf
   exact⟨(u,w,a4,a5,a6,a7,a9,b0,b1,b2,b3,b4),h,wk [0,1,2] []⟩
  ·obtain rfl:=sj h
   conv=>whnf
   refine⟨_,_,⟨rfl,rfl⟩,wk [0] []⟩
 ·have h:=q0h h t
  refine⟨pB false,?_⟩;conv=>whnf
  refine⟨id,?_⟩;conv=>whnf
  apply ifc h<;>intro J h
  ·conv=>whnf
   refine bq h fun⟨_,_,_,_⟩ I h=>?_;refine⟨_,Codec.at_ qrw I,?_⟩;conv=>whnf
   refine bq h fun⟨⟨b6,b7,⟨b8,b9,c0,c1,c2,c3⟩,c4,c5⟩,x,y⟩ G h=>?_;refine qcl (g189_ok _ _ _ _ G) [0] [] ?_;rintro _ _ ⟨rfl,rfl⟩;refine⟨.p (.agg [.int .i64 b6,.str b7,.int .i64 b8,.bool b9,.int .i64 c0,.str c1,.sl (Val.rows c2),.sl (qai c3),.sl (qai c4),.sl (qaa.rows c5)]),[.box 113 [pK a,pI x,pB y],zq4,.box 46 [pI b,pS c,pI d,pB e,pI f,pS g,pV i,pT j,pT k,pE l]],rfl,rfl,?_⟩;conv=>whnf
   refine bq h fun⟨c7,c8,⟨c9,d0,d1,d2,d3,d4⟩,d6,d7⟩ H h=>?_;refine⟨_,(qhj n _ _ _ _ H),?_⟩;conv=>whnf
   exact⟨(x,y,c7,c8,c9,d0,d1,d2,d3,d4,d6,d7),h,wk [0,1,2] []⟩
  ·obtain rfl:=sj h
   conv=>whnf
   refine⟨_,_,⟨rfl,rfl⟩,wk [0] []⟩
set_option maxHeartbeats 4000000 in
theorem q0n (n:Nat) (g124:q5n) (g77 g120:qfx) (g159 g173:qfx) (g178 g186:qfx) (g189 g190 g191:qfx) (g192:q5o) (g193:q5p) (g124_ok:zj1 g124) (g77_ok:zj2 g77) (g120_ok:zj3 g120) (g159_ok:zj4 g159) (g173_ok:zj5 g173) (g178_ok:zj6 g178) (g186_ok:zj7 g186) (g189_ok:zj8 g189) (g190_ok:zj9 g190) (g191_ok:zka g191) (g192_ok:q5l g192) (g193_ok:q5m g193):∀ (a:List qao) (s:Int) (t:Bool) (r:qaa×Int×Bool),qry n g124 g77 g120 g159 g173 g178 g186 g189 g190 g191 g192 g193 a s t=some r->qay Tryz.prog 189 [.ptr 0 0] [.box 113 [pK a,pI s,pB t]] 1 (fun v lo=>v=qqv a s t r/\lo=qqu a s t r):=by
 intro a s t r h;unfold qry at h;refine qay.of_vc mixed (fun _ _=>Tryz.call189 _ _) Tryz.func189 (by kernel_rfl) (inl:=[83,190,1000000]) (Nat.le_of_ble_eq_true rfl) ?_;conv=>whnf
 refine bq h fun⟨⟨e1,f0,⟨f8,g8,i7,j4,X,a8⟩,b5,c4⟩,d1,d2⟩ F h=>?_;refine qcl (g190_ok _ _ _ _ F) [0] [] ?_;rintro _ _ ⟨rfl,rfl⟩;refine⟨.p (.agg [.int .i64 e1,.str f0,.int .i64 f8,.bool g8,.int .i64 i7,.str j4,.sl (Val.rows X),.sl (qai a8),.sl (qai b5),.sl (qaa.rows c4)]),[.box 113 [pK a,pI d1,pB d2],zq4],rfl,rfl,?_⟩;conv=>whnf
 refine qbl.fn [83,190,1000000] (S:=Int×Bool×Int×SS×Int×Bool×Int×SS×List Val×List SS×List SS×List qaa) (fun(o,q,c,d,e,f,g,i,j,k,l,m)=>[(0,.ptr 0 0),(2,.ptr 1 0),(3,.ptr 2 0)]) (fun(o,q,c,d,e,f,g,i,j,k,l,m)=>[.box 113 [pK a,pI o,pB q],zq4,.box 46 [pI c,pS d,pI e,pB f,pI g,pS i,pV j,pT k,pT l,pE m]]) (B:=qpv n a g190) h (wk [0,1,2] []) ?_;intro _ st h;obtain⟨o,q,c,d,e,f,g,i,j,k,l,m⟩:=st;unfold qpv at h;conv=>whnf
 refine bq h fun d3 O h=>?_;refine qcl (qdd n _ _ _ _ _ O) [0] [] ?_;rintro _ _ ⟨rfl,rfl⟩;refine⟨pB d3,[.box 113 [pK a,pI o,pB q],zq4,.box 46 [pI c,pS d,pI e,pB f,pI g,pS i,pV j,pT k,pT l,pE m]],rfl,rfl,?_⟩;conv=>whnf
 refine⟨fun b=>?_,fun b=>?_⟩
 ·have h:=q0i h b
  conv=>whnf
  refine⟨id,?_⟩;conv=>whnf
  refine bq h fun d4 P h=>?_;refine qcl (qdd n _ _ _ _ _ P) [0] [] ?_;rintro _ _ ⟨rfl,rfl⟩;refine⟨pB d4,[.box 113 [pK a,pI o,pB q],zq4,.box 46 [pI c,pS d,pI e,pB f,pI g,pS i,pV j,pT k,pT l,pE m]],rfl,rfl,?_⟩;conv=>whnf
  refine⟨id,?_⟩;conv=>whnf
  refine⟨fun b=>?_,fun b=>?_⟩
  ·have h:=q0i h b
   conv=>whnf
   refine⟨id,?_⟩;conv=>whnf
   refine bq h fun d5 Q h=>?_;refine qcl (qdd n _ _ _ _ _ Q) [0] [] ?_;rintro _ _ ⟨rfl,rfl⟩;refine⟨pB d5,[.box 113 [pK a,pI o,pB q],zq4,.box 46 [pI c,pS d,pI e,pB f,pI g,pS i,pV j,pT k,pT l,pE m]],rfl,rfl,?_⟩;conv=>whnf
   refine⟨id,?_⟩;conv=>whnf
   apply ifc h<;>intro u h
   ·conv=>whnf
    refine bq h fun⟨_,_,_,_⟩ U h=>?_;refine⟨_,Codec.at_ qrw U,?_⟩;conv=>whnf
    refine bq h fun⟨⟨d6,d7,⟨d8,d9,e0,e2,e3,e4⟩,e5,e6⟩,y,z⟩ R h=>?_;refine qcl (g190_ok _ _ _ _ R) [0] [] ?_;rintro _ _ ⟨rfl,rfl⟩;refine⟨.p (.agg [.int .i64 d6,.str d7,.int .i64 d8,.bool d9,.int .i64 e0,.str e2,.sl (Val.rows e3),.sl (qai e4),.sl (qai e5),.sl (qaa.rows e6)]),[.box 113 [pK a,pI y,pB z],zq4,.box 46 [pI c,pS d,pI e,pB f,pI g,pS i,pV j,pT k,pT l,pE m]],rfl,rfl,?_⟩;conv=>whnf
    refine bq h fun⟨e7,e8,⟨e9,f1,f2,f3,f4,f5⟩,f6,f7⟩ T h=>?_;refine⟨_,(qhj n _ _ _ _ T),?_⟩;conv=>whnf
    exact⟨(y,z,e7,e8,e9,f1,f2,f3,f4,f5,f6,f7),h,wk [0,1,2] []⟩
   ·obtain rfl:=sj h
    conv=>whnf
    refine⟨_,_,⟨rfl,rfl⟩,wk [0] []⟩
  ·have h:=q0h h b
   refine⟨pB false,?_⟩;conv=>whnf
   refine⟨id,?_⟩;conv=>whnf
   apply ifc h<;>intro u h
   ·conv=>whnf
    refine bq h fun⟨_,_,_,_⟩ G h=>?_;refine⟨_,Codec.at_ qrw G,?_⟩;conv=>whnf
    refine bq h fun⟨⟨f9,g0,⟨g1,g2,g3,g4,g5,g6⟩,g7,g9⟩,A,C⟩ V h=>?_;refine qcl (g190_ok _ _ _ _ V) [0] [] ?_;rintro _ _ ⟨rfl,rfl⟩;refine⟨.p (.agg [.int .i64 f9,.str g0,.int .i64 g1,.bool g2,.int .i64 g3,.str g4,.sl (Val.rows g5),.sl (qai g6),.sl (qai g7),.sl (qaa.rows g9)]),[.box 113 [pK a,pI A,pB C],zq4,.box 46 [pI c,pS d,pI e,pB f,pI g,pS i,pV j,pT k,pT l,pE m]],rfl,rfl,?_⟩;conv=>whnf
    refine bq h fun⟨i0,i1,⟨i2,i3,i4,i5,i6,i8⟩,i9,j0⟩ W h=>?_;refine⟨_,(qhj n _ _ _ _ W),?_⟩;conv=>whnf
    exact⟨(A,C,i0,i1,i2,i3,i4,i5,i6,i8,i9,j0),h,wk [0,1,2] []⟩
   ·obtain rfl:=sj h
    conv=>whnf
    refine⟨_,_,⟨rfl,rfl⟩,wk [0] []⟩
 ·have h:=q0h h b
  refine⟨pB false,?_⟩;conv=>whnf
  refine⟨id,?_⟩;conv=>whnf
  refine⟨fun b=>?_,fun b=>?_⟩
  ·have h:=q0i h b
   conv=>whnf
   refine⟨id,?_⟩;conv=>whnf
   refine bq h fun j1 H h=>?_;refine qcl (qdd n _ _ _ _ _ H) [0] [] ?_;rintro _ _ ⟨rfl,rfl⟩;refine⟨pB j1,[.box 113 [pK a,pI o,pB q],zq4,.box 46 [pI c,pS d,pI e,pB f,pI g,pS i,pV j,pT k,pT l,pE m]],rfl,rfl,?_⟩;conv=>whnf
   refine⟨id,?_⟩;conv=>whnf
   apply ifc h<;>intro u h
   ·conv=>whnf
    refine bq h fun⟨_,_,_,_⟩ K h=>?_;refine⟨_,Codec.at_ qrw K,?_⟩;conv=>whnf
    refine bq h fun⟨⟨j2,j3,⟨j5,j6,j7,j8,j9,k0⟩,k1,k2⟩,D,E⟩ I h=>?_;refine qcl (g190_ok _ _ _ _ I) [0] [] ?_;rintro _ _ ⟨rfl,rfl⟩;refine⟨.p (.agg [.int .i64 j2,.str j3,.int .i64 j5,.bool j6,.int .i64 j7,.str j8,.sl (Val.rows j9),.sl (qai k0),.sl (qai k1),.sl (qaa.rows k2)]),[.box 113 [pK a,pI D,pB E],zq4,.box 46 [pI c,pS d,pI e,pB f,pI g,pS i,pV j,pT k,pT l,pE m]],rfl,rfl,?_⟩;conv=>whnf
    refine bq h fun⟨Y,Z,⟨a0,a1,a2,a3,a4,a5⟩,a6,a7⟩ J h=>?_;refine⟨_,(qhj n _ _ _ _ J),?_⟩;conv=>whnf
    exact⟨(D,E,Y,Z,a0,a1,a2,a3,a4,a5,a6,a7),h,wk [0,1,2] []⟩
   ·obtain rfl:=sj h
    conv=>whnf
    refine⟨_,_,⟨rfl,rfl⟩,wk [0] []⟩
  ·have h:=q0h h b
   refine⟨pB false,?_⟩;conv=>whnf
   refine⟨id,?_⟩;conv=>whnf
   apply ifc h<;>intro u h
   ·conv=>whnf
    refine bq h fun⟨_,_,_,_⟩ N h=>?_;refine⟨_,Codec.at_ qrw N,?_⟩;conv=>whnf
    refine bq h fun⟨⟨a9,b0,⟨b1,b2,b3,b4,b6,b7⟩,b8,b9⟩,w,x⟩ L h=>?_;refine qcl (g190_ok _ _ _ _ L) [0] [] ?_;rintro _ _ ⟨rfl,rfl⟩;refine⟨.p (.agg [.int .i64 a9,.str b0,.int .i64 b1,.bool b2,.int .i64 b3,.str b4,.sl (Val.rows b6),.sl (qai b7),.sl (qai b8),.sl (qaa.rows b9)]),[.box 113 [pK a,pI w,pB x],zq4,.box 46 [pI c,pS d,pI e,pB f,pI g,pS i,pV j,pT k,pT l,pE m]],rfl,rfl,?_⟩;conv=>whnf
    refine bq h fun⟨c0,c1,⟨c2,c3,c5,c6,c7,c8⟩,c9,d0⟩ M h=>?_;refine⟨_,(qhj n _ _ _ _ M),?_⟩;conv=>whnf
    exact⟨(w,x,c0,c1,c2,c3,c5,c6,c7,c8,c9,d0),h,wk [0,1,2] []⟩
   ·obtain rfl:=sj h
    conv=>whnf
    refine⟨_,_,⟨rfl,rfl⟩,wk [0] []⟩
set_option maxHeartbeats 4000000 in
theorem q3c (n:Nat) (g124:q5n) (g77 g120:qfx) (g159 g173:qfx) (g178 g186:qfx) (g189 g190 g191:qfx) (g192:q5o) (g193:q5p) (g124_ok:zj1 g124) (g77_ok:zj2 g77) (g120_ok:zj3 g120) (g159_ok:zj4 g159) (g173_ok:zj5 g173) (g178_ok:zj6 g178) (g186_ok:zj7 g186) (g189_ok:zj8 g189) (g190_ok:zj9 g190) (g191_ok:zka g191) (g192_ok:q5l g192) (g193_ok:q5m g193):∀ (a:List qao) (q:Int) (m:Bool) (r:qaa×Int×Bool),qui n g124 g77 g120 g159 g173 g178 g186 g189 g190 g191 g192 g193 a q m=some r->qay Tryz.prog 190 [.ptr 0 0] [.box 113 [pK a,pI q,pB m]] 1 (fun v lo=>v=qtj a q m r/\lo=qti a q m r):=by
 intro a q m r h;unfold qui at h;refine qay.of_vc mixed (fun _ _=>Tryz.call190 _ _) Tryz.func190 (by kernel_rfl) (inl:=[74,77,78,123,190,191,1000000]) (Nat.le_of_ble_eq_true rfl) ?_;conv=>whnf
 refine bq h fun⟨e1,e2⟩ a8 h=>?_;refine qcl (qaj n _ _ _ _ _ a8) [0] [] ?_;rintro _ _ ⟨rfl,rfl⟩;refine⟨pB e1,[.box 113 [pK a,pI e2,pB m],zq4],rfl,rfl,?_⟩;conv=>whnf
 apply ifc h<;>intro E h
 ·conv=>whnf
  refine bq h fun⟨⟨e6,e9,⟨f1,f6,c1,c2,c3,c4⟩,c5,c6⟩,c7,c8⟩ b3 h=>?_;refine qcl (g190_ok _ _ _ _ b3) [0] [] ?_;rintro _ _ ⟨rfl,rfl⟩;refine⟨.p (.agg [.int .i64 e6,.str e9,.int .i64 f1,.bool f6,.int .i64 c1,.str c2,.sl (Val.rows c3),.sl (qai c4),.sl (qai c5),.sl (qaa.rows c6)]),[.box 113 [pK a,pI c7,pB c8],zq4],rfl,rfl,?_⟩;conv=>whnf
  refine bq h fun⟨_,_,⟨_,_,_,_,_,_⟩,_,_⟩ b4 h=>?_;refine⟨_,(qpb n _ _ _ b4),?_⟩;obtain rfl:=sj h;conv=>whnf
  refine⟨_,_,⟨rfl,rfl⟩,wk [0] []⟩
 ·conv=>whnf
  refine bq h fun⟨⟨c9,d0,⟨d1,d2,d3,d4,d5,d6⟩,d7,d8⟩,d9,e0⟩ b5 h=>?_;refine qcl (g191_ok _ _ _ _ b5) [0] [] ?_;rintro _ _ ⟨rfl,rfl⟩;refine⟨.p (.agg [.int .i64 c9,.str d0,.int .i64 d1,.bool d2,.int .i64 d3,.str d4,.sl (Val.rows d5),.sl (qai d6),.sl (qai d7),.sl (qaa.rows d8)]),[.box 113 [pK a,pI d9,pB e0],zq4],rfl,rfl,?_⟩;conv=>whnf
  refine qbl.fn [74,77,78,123,190,191,1000000] (S:=Int×Bool×Int×SS×Int×Bool×Int×SS×List Val×List SS×List SS×List qaa) (fun(G,o,b,c,d,e,f,g,i,j,k,l)=>[(0,.ptr 0 0),(2,.ptr 1 0),(4,.ptr 2 0)]) (fun(G,o,b,c,d,e,f,g,i,j,k,l)=>[.box 113 [pK a,pI G,pB o],zq4,.box 46 [pI b,pS c,pI d,pB e,pI f,pS g,pV i,pT j,pT k,pE l]]) (B:=qrz n a g77) h (wk [0,1,2] []) ?_;intro _ st h;obtain⟨G,o,b,c,d,e,f,g,i,j,k,l⟩:=st;unfold qrz at h;conv=>whnf
  refine bq h fun⟨e3,e4⟩ b6 h=>?_;refine qcl (qaj n _ _ _ _ _ b6) [0] [] ?_;rintro _ _ ⟨rfl,rfl⟩;refine⟨pB e3,[.box 113 [pK a,pI e4,pB o],zq4,.box 46 [pI b,pS c,pI d,pB e,pI f,pS g,pV i,pT j,pT k,pE l]],rfl,rfl,?_⟩;conv=>whnf
  apply ifc h<;>intro E h
  ·conv=>whnf
   refine bq h fun⟨H,e5,⟨I,J,K,L,M,N⟩,O,P⟩ b8 h=>?_;refine⟨_,(qpb n _ _ _ b8),?_⟩;conv=>whnf
   refine bq h fun⟨Q,R,T⟩ b7 h=>?_;refine qcl (qhh n _ _ _ _ b7) [0] [] ?_;rintro _ _ ⟨rfl,rfl⟩;refine⟨pS Q,[.box 113 [pK a,pI R,pB T],zq4,.box 46 [pI H,pS e5,pI I,pB J,pI K,pS L,pV M,pT N,pT O,pE P]],rfl,rfl,?_⟩;conv=>whnf
   exact⟨(R,T,H,Q,I,J,K,L,M,N,O,P),h,wk [0,1,2] []⟩
  ·conv=>whnf
   refine bq h fun⟨e7,e8⟩ b9 h=>?_;refine qcl (qaj n _ _ _ _ _ b9) [0] [] ?_;rintro _ _ ⟨rfl,rfl⟩;refine⟨pB e7,[.box 113 [pK a,pI e8,pB o],zq4,.box 46 [pI b,pS c,pI d,pB e,pI f,pS g,pV i,pT j,pT k,pE l]],rfl,rfl,?_⟩;conv=>whnf
   apply ifc h<;>intro E h
   ·conv=>whnf
    refine bq h fun⟨⟨s,t,⟨u,w,x,y,z,A⟩,C,D⟩,f0,f2⟩ c0 h=>?_;refine qcl (g77_ok _ _ _ _ c0) [0] [] ?_;rintro _ _ ⟨rfl,rfl⟩;refine⟨.p (.agg [.int .i64 s,.str t,.int .i64 u,.bool w,.int .i64 x,.str y,.sl (Val.rows z),.sl (qai A),.sl (qai C),.sl (qaa.rows D)]),[.box 113 [pK a,pI f0,pB f2],zq4,.box 46 [pI b,pS c,pI d,pB e,pI f,pS g,pV i,pT j,pT k,pE l]],rfl,rfl,?_⟩;conv=>whnf
    refine bq h fun⟨U,V⟩ a9 h=>?_;refine qcl (qa5 n _ _ _ _ _ a9) [0] [] ?_;rintro _ _ ⟨rfl,rfl⟩;refine⟨.p (.tup []),[.box 113 [pK a,pI U,pB V],zq4,.box 46 [pI b,pS c,pI d,pB e,pI f,pS g,pV i,pT j,pT k,pE l],.box 46 [pI s,pS t,pI u,pB w,pI x,pS y,pV z,pT A,pT C,pE D]],rfl,rfl,?_⟩;conv=>whnf
    refine⟨Codec.one qcf [qaa.mk b c (Val.mk d e f g i j) k l,qaa.mk s t (Val.mk u w x y z A) C D],qaa.rows [qaa.mk b c (Val.mk d e f g i j) k l,qaa.mk s t (Val.mk u w x y z A) C D],.inl rfl,?_⟩;conv=>whnf
    exact⟨(U,V,(7:Int),([]:SS),(0:Int),false,(0:Int),([]:SS),([]:List _),([]:List _),([]:List _),[qaa.mk b c (Val.mk d e f g i j) k l,qaa.mk s t (Val.mk u w x y z A) C D]),h,wk [0,1,2] []⟩
   ·conv=>whnf
    refine⟨fun F=>?_,fun F=>?_⟩
    ·have h:=q0i h F
     conv=>whnf
     refine⟨id,?_⟩;conv=>whnf
     refine bq h fun⟨f3,f4⟩ b0 h=>?_;refine qcl (qaj n _ _ _ _ _ b0) [0] [] ?_;rintro _ _ ⟨rfl,rfl⟩;refine⟨pB f3,[.box 113 [pK a,pI f4,pB o],zq4,.box 46 [pI b,pS c,pI d,pB e,pI f,pS g,pV i,pT j,pT k,pE l]],rfl,rfl,?_⟩;conv=>whnf
     refine⟨id,?_⟩;conv=>whnf
     apply ifc h<;>intro E h
     ·conv=>whnf
      refine bq h fun⟨W,f5,⟨X,Y,Z,a0,a1,a2⟩,a3,a4⟩ b2 h=>?_;refine⟨_,(qpb n _ _ _ b2),?_⟩;conv=>whnf
      refine bq h fun⟨a5,a6,a7⟩ b1 h=>?_;refine qcl (qhh n _ _ _ _ b1) [0] [] ?_;rintro _ _ ⟨rfl,rfl⟩;refine⟨pS a5,[.box 113 [pK a,pI a6,pB a7],zq4,.box 46 [pI W,pS f5,pI X,pB Y,pI Z,pS a0,pV a1,pT a2,pT a3,pE a4]],rfl,rfl,?_⟩;conv=>whnf
      exact⟨(a6,a7,W,a5,X,Y,Z,a0,a1,a2,a3,a4),h,wk [0,1,2] []⟩
     ·obtain rfl:=sj h
      conv=>whnf
      refine⟨_,_,⟨rfl,rfl⟩,wk [0] []⟩
    ·have h:=q0h h F
     refine⟨pB false,?_⟩;conv=>whnf
     refine⟨id,?_⟩;conv=>whnf
     refine⟨fun hf=>absurd hf (by first|decide|simp),fun _=>?_⟩;obtain rfl:=sj h;conv=>whnf
     refine⟨_,_,⟨rfl,rfl⟩,wk [0] []⟩
set_option maxHeartbeats 4000000 in
theorem q41 (n:Nat) (g124:q5n) (g77 g120:qfx) (g159 g173:qfx) (g178 g186:qfx) (g189 g190 g191:qfx) (g192:q5o) (g193:q5p) (g124_ok:zj1 g124) (g77_ok:zj2 g77) (g120_ok:zj3 g120) (g159_ok:zj4 g159) (g173_ok:zj5 g173) (g178_ok:zj6 g178) (g186_ok:zj7 g186) (g189_ok:zj8 g189) (g190_ok:zj9 g190) (g191_ok:zka g191) (g192_ok:q5l g192) (g193_ok:q5m g193):∀ (a:List qao) (i:Int) (f:Bool) (r:qaa×Int×Bool),qvw n g124 g77 g120 g159 g173 g178 g186 g189 g190 g191 g192 g193 a i f=some r->qay Tryz.prog 191 [.ptr 0 0] [.box 113 [pK a,pI i,pB f]] 1 (fun v lo=>v=qu1 a i f r/\lo=qux a i f r):=by
 intro a i f r h;unfold qvw at h;refine qay.of_vc mixed (fun _ _=>Tryz.call191 _ _) Tryz.func191 (by kernel_rfl) (inl:=[74,77,78,79,83,124,192,193,40000003,1000000]) (Nat.le_of_ble_eq_true rfl) ?_;conv=>whnf
 apply ifc h<;>intro g h
 ·obtain rfl:=sj h
  conv=>whnf
  refine⟨_,_,⟨rfl,rfl⟩,wk [0] []⟩
 ·conv=>whnf
  refine bq h fun⟨b,c,d,e⟩ E h=>?_;refine⟨_,Codec.at_ qrw E,?_⟩;conv=>whnf
  apply ifc h<;>intro g h
  ·obtain rfl:=sj h
   conv=>whnf
   refine⟨_,_,⟨rfl,rfl⟩,wk [0] []⟩
  ·conv=>whnf
   apply ifc h<;>intro g h
   ·obtain rfl:=sj h
    conv=>whnf
    refine⟨_,_,⟨rfl,rfl⟩,wk [0] []⟩
   ·conv=>whnf
    apply ifc h<;>intro g h
    ·conv=>whnf
     refine bq h fun⟨c5,c6⟩ y h=>?_;refine qcl (qaj n _ _ _ _ _ y) [0] [] ?_;rintro _ _ ⟨rfl,rfl⟩;refine⟨pB c5,[.box 113 [pK a,pI c6,pB f],zq4,.box 115 [pI b,pS c,pI d,pI e]],rfl,rfl,?_⟩;conv=>whnf
     apply ifc h<;>intro g h
     ·conv=>whnf
      refine bq h fun⟨⟨N,O,⟨P,Q,R,S,T,U⟩,V,W⟩,X,Y⟩ F h=>?_;refine qcl (g192_ok _ _ _ _ _ F) [0] [] ?_;rintro _ _ ⟨rfl,rfl⟩;refine⟨.p (.agg [.int .i64 N,.str O,.int .i64 P,.bool Q,.int .i64 R,.str S,.sl (Val.rows T),.sl (qai U),.sl (qai V),.sl (qaa.rows W)]),[.box 113 [pK a,pI X,pB Y],zq4,.box 115 [pI b,pS c,pI d,pI e]],rfl,rfl,?_⟩;obtain rfl:=sj h;conv=>whnf
      refine⟨_,_,⟨rfl,rfl⟩,wk [0] []⟩
     ·obtain rfl:=sj h
      conv=>whnf
      refine⟨_,_,⟨rfl,rfl⟩,wk [0] []⟩
    ·conv=>whnf
     refine bq h fun⟨Z,a0⟩ G h=>?_;refine qcl (qaj n _ _ _ _ _ G) [0] [] ?_;rintro _ _ ⟨rfl,rfl⟩;refine⟨pB Z,[.box 113 [pK a,pI a0,pB f],zq4,.box 115 [pI b,pS c,pI d,pI e]],rfl,rfl,?_⟩;conv=>whnf
     apply ifc h<;>intro g h
     ·obtain rfl:=sj h
      conv=>whnf
      refine⟨_,_,⟨rfl,rfl⟩,wk [0] []⟩
     ·conv=>whnf
      refine bq h fun⟨a1,a2⟩ H h=>?_;refine qcl (qaj n _ _ _ _ _ H) [0] [] ?_;rintro _ _ ⟨rfl,rfl⟩;refine⟨pB a1,[.box 113 [pK a,pI a2,pB f],zq4,.box 115 [pI b,pS c,pI d,pI e]],rfl,rfl,?_⟩;conv=>whnf
      apply ifc h<;>intro g h
      ·obtain rfl:=sj h
       conv=>whnf
       refine⟨_,_,⟨rfl,rfl⟩,wk [0] []⟩
      ·conv=>whnf
       refine bq h fun⟨a3,a4⟩ I h=>?_;refine qcl (qaj n _ _ _ _ _ I) [0] [] ?_;rintro _ _ ⟨rfl,rfl⟩;refine⟨pB a3,[.box 113 [pK a,pI a4,pB f],zq4,.box 115 [pI b,pS c,pI d,pI e]],rfl,rfl,?_⟩;conv=>whnf
       apply ifc h<;>intro g h
       ·obtain rfl:=sj h
        conv=>whnf
        refine⟨_,_,⟨rfl,rfl⟩,wk [0] []⟩
       ·conv=>whnf
        refine bq h fun⟨a5,a6⟩ J h=>?_;refine qcl (qaj n _ _ _ _ _ J) [0] [] ?_;rintro _ _ ⟨rfl,rfl⟩;refine⟨pB a5,[.box 113 [pK a,pI a6,pB f],zq4,.box 115 [pI b,pS c,pI d,pI e]],rfl,rfl,?_⟩;conv=>whnf
        apply ifc h<;>intro g h
        ·conv=>whnf
         refine bq h fun⟨a7,a8,a9⟩ K h=>?_;refine qcl (qgd n _ _ _ _ K) [0] [] ?_;rintro _ _ ⟨rfl,rfl⟩;refine⟨pS a7,[.box 113 [pK a,pI a8,pB a9],zq4,.box 115 [pI b,pS c,pI d,pI e]],rfl,rfl,?_⟩;obtain rfl:=sj h;conv=>whnf
         refine⟨_,_,⟨rfl,rfl⟩,wk [0] []⟩
        ·conv=>whnf
         refine bq h fun⟨b0,b1⟩ L h=>?_;refine qcl (qaj n _ _ _ _ _ L) [0] [] ?_;rintro _ _ ⟨rfl,rfl⟩;refine⟨pB b0,[.box 113 [pK a,pI b1,pB f],zq4,.box 115 [pI b,pS c,pI d,pI e]],rfl,rfl,?_⟩;conv=>whnf
         apply ifc h<;>intro g h
         ·conv=>whnf
          refine bq h fun⟨⟨j,k,⟨l,m,o,q,s,t⟩,u,w⟩,b2,b3⟩ M h=>?_;refine qcl (g77_ok _ _ _ _ M) [0] [] ?_;rintro _ _ ⟨rfl,rfl⟩;refine⟨.p (.agg [.int .i64 j,.str k,.int .i64 l,.bool m,.int .i64 o,.str q,.sl (Val.rows s),.sl (qai t),.sl (qai u),.sl (qaa.rows w)]),[.box 113 [pK a,pI b2,pB b3],zq4,.box 115 [pI b,pS c,pI d,pI e]],rfl,rfl,?_⟩;conv=>whnf
          refine bq h fun⟨b4,b5⟩ z h=>?_;refine qcl (qa5 n _ _ _ _ _ z) [0] [] ?_;rintro _ _ ⟨rfl,rfl⟩;refine⟨.p (.tup []),[.box 113 [pK a,pI b4,pB b5],zq4,.box 115 [pI b,pS c,pI d,pI e],.box 46 [pI j,pS k,pI l,pB m,pI o,pS q,pV s,pT t,pT u,pE w]],rfl,rfl,?_⟩;obtain rfl:=sj h;conv=>whnf
          refine⟨_,_,⟨rfl,rfl⟩,wk [0] []⟩
         ·conv=>whnf
          refine bq h fun⟨b6,x⟩ A h=>?_;refine qcl (qaj n _ _ _ _ _ A) [0] [] ?_;rintro _ _ ⟨rfl,rfl⟩;refine⟨pB b6,[.box 113 [pK a,pI x,pB f],zq4,.box 115 [pI b,pS c,pI d,pI e]],rfl,rfl,?_⟩;conv=>whnf
          apply ifc h<;>intro g h
          ·conv=>whnf
           refine bq h fun⟨b7,b8,b9⟩ B h=>?_;refine qcl (g193_ok _ _ _ _ _ B) [0] [] ?_;rintro _ _ ⟨rfl,rfl⟩;refine⟨pE b7,[.box 113 [pK a,pI b8,pB b9],zq4,.box 115 [pI b,pS c,pI d,pI e]],rfl,rfl,?_⟩;obtain rfl:=sj h;conv=>whnf
           refine⟨_,_,⟨rfl,rfl⟩,wk [0] []⟩
          ·conv=>whnf
           refine bq h fun c0 C h=>?_;refine qcl (qdd n _ _ _ _ _ C) [0] [] ?_;rintro _ _ ⟨rfl,rfl⟩;refine⟨pB c0,[.box 113 [pK a,pI x,pB f],zq4,.box 115 [pI b,pS c,pI d,pI e]],rfl,rfl,?_⟩;conv=>whnf
           apply ifc h<;>intro g h
           ·conv=>whnf
            refine bq h fun⟨c1,c2,c3,c4⟩ D h=>?_;refine qcl (g124_ok _ _ _ _ D) [0] [] ?_;rintro _ _ ⟨rfl,rfl⟩;refine⟨.p (.tup [.sl (qai c1),.sl (qaa.rows c2)]),[.box 113 [pK a,pI c3,pB c4],zq4,.box 115 [pI b,pS c,pI d,pI e]],rfl,rfl,?_⟩;obtain rfl:=sj h;conv=>whnf
            refine⟨_,_,⟨rfl,rfl⟩,wk [0] []⟩
           ·obtain rfl:=sj h
            conv=>whnf
            refine⟨_,_,⟨rfl,rfl⟩,wk [0] []⟩
theorem q42 (n:Nat) (g124:q5n) (g77 g120:qfx) (g159 g173:qfx) (g178 g186:qfx) (g189 g190 g191:qfx) (g192:q5o) (g193:q5p) (g124_ok:zj1 g124) (g77_ok:zj2 g77) (g120_ok:zj3 g120) (g159_ok:zj4 g159) (g173_ok:zj5 g173) (g178_ok:zj6 g178) (g186_ok:zj7 g186) (g189_ok:zj8 g189) (g190_ok:zj9 g190) (g191_ok:zka g191) (g192_ok:q5l g192) (g193_ok:q5m g193):∀ (b:SS) (a:List qao) (d:Int) (c:Bool) (r:qaa×Int×Bool),qvx n g124 g77 g120 g159 g173 g178 g186 g189 g190 g191 g192 g193 b a d c=some r->qay Tryz.prog 192 [.ptr 0 0,.p (PV.str b)] [.box 113 [pK a,pI d,pB c]] 1 (fun v lo=>v=qu2 a d c r/\lo=quy a d c r):=by
 intro b a d c r h;unfold qvx at h;refine qay.of_vc mixed (fun _ _=>Tryz.call192 _ _) Tryz.func192 (by kernel_rfl) (inl:=[74,77,78,193,1000000]) (Nat.le_of_ble_eq_true rfl) ?_;conv=>whnf
 refine bq h fun _ L h=>?_;refine⟨_,(qpr n _ _ L),?_⟩;conv=>whnf
 apply ifc h<;>intro M h
 ·conv=>whnf
  refine bq h fun⟨Y,Z,a0⟩ E h=>?_;refine qcl (g193_ok _ _ _ _ _ E) [0] [] ?_;rintro _ _ ⟨rfl,rfl⟩;refine⟨pE Y,[.box 113 [pK a,pI Z,pB a0],zq4],rfl,rfl,?_⟩;obtain rfl:=sj h;conv=>whnf
  refine⟨_,_,⟨rfl,rfl⟩,wk [0] []⟩
 ·conv=>whnf
  refine⟨fun D=>?_,fun D=>?_⟩
  ·have h:=q0i h D
   conv=>whnf
   refine⟨id,?_⟩;conv=>whnf
   refine bq h fun⟨a1,N⟩ F h=>?_;refine qcl (qaj n _ _ _ _ _ F) [0] [] ?_;rintro _ _ ⟨rfl,rfl⟩;refine⟨pB a1,[.box 113 [pK a,pI N,pB c],zq4,.box 46 [.p (.int .i64 (14:Int)),pS b,zq0,pB false,zq0,zq1,zq2,zq2,zq2,zq2]],rfl,rfl,?_⟩;conv=>whnf
   refine⟨id,?_⟩;conv=>whnf
   apply ifc h<;>intro M h
   ·conv=>whnf
    refine bq h fun⟨O,P⟩ G h=>?_;refine qcl (qa5 n _ _ _ _ _ G) [0] [] ?_;rintro _ _ ⟨rfl,rfl⟩;refine⟨.p (.tup []),[.box 113 [pK a,pI O,pB P],zq4,.box 46 [.p (.int .i64 (14:Int)),pS b,zq0,pB false,zq0,zq1,zq2,zq2,zq2,zq2]],rfl,rfl,?_⟩;obtain rfl:=sj h;conv=>whnf
    refine⟨_,_,⟨rfl,rfl⟩,wk [0] []⟩
   ·conv=>whnf
    refine bq h fun⟨⟨e,f,⟨g,i,j,k,l,m⟩,o,q⟩,Q,R⟩ H h=>?_;refine qcl (g77_ok _ _ _ _ H) [0] [] ?_;rintro _ _ ⟨rfl,rfl⟩;refine⟨.p (.agg [.int .i64 e,.str f,.int .i64 g,.bool i,.int .i64 j,.str k,.sl (Val.rows l),.sl (qai m),.sl (qai o),.sl (qaa.rows q)]),[.box 113 [pK a,pI Q,pB R],zq4,.box 46 [.p (.int .i64 (14:Int)),pS b,zq0,pB false,zq0,zq1,zq2,zq2,zq2,zq2]],rfl,rfl,?_⟩;conv=>whnf
    refine bq h fun⟨S,T⟩ I h=>?_;refine qcl (qa5 n _ _ _ _ _ I) [0] [] ?_;rintro _ _ ⟨rfl,rfl⟩;refine⟨.p (.tup []),[.box 113 [pK a,pI S,pB T],zq4,.box 46 [.p (.int .i64 (14:Int)),pS b,zq0,pB false,zq0,zq1,zq2,zq2,zq2,zq2],.box 46 [pI e,pS f,pI g,pB i,pI j,pS k,pV l,pT m,pT o,pE q]],rfl,rfl,?_⟩;conv=>whnf
    refine⟨Codec.one qcf [qaa.mk e f (Val.mk g i j k l m) o q],qaa.rows [qaa.mk e f (Val.mk g i j k l m) o q],.inl rfl,?_⟩;obtain rfl:=sj h;conv=>whnf
    refine⟨_,_,⟨rfl,rfl⟩,wk [0] []⟩
  ·have h:=q0h h D
   refine⟨pB false,?_⟩;conv=>whnf
   refine⟨id,?_⟩;conv=>whnf
   refine⟨fun hf=>absurd hf (by first|decide|simp),fun _=>?_⟩;conv=>whnf
   refine bq h fun⟨⟨s,t,⟨u,w,x,y,z,A⟩,B,C⟩,U,V⟩ J h=>?_;refine qcl (g77_ok _ _ _ _ J) [0] [] ?_;rintro _ _ ⟨rfl,rfl⟩;refine⟨.p (.agg [.int .i64 s,.str t,.int .i64 u,.bool w,.int .i64 x,.str y,.sl (Val.rows z),.sl (qai A),.sl (qai B),.sl (qaa.rows C)]),[.box 113 [pK a,pI U,pB V],zq4,.box 46 [.p (.int .i64 (14:Int)),pS b,zq0,pB false,zq0,zq1,zq2,zq2,zq2,zq2]],rfl,rfl,?_⟩;conv=>whnf
   refine bq h fun⟨W,X⟩ K h=>?_;refine qcl (qa5 n _ _ _ _ _ K) [0] [] ?_;rintro _ _ ⟨rfl,rfl⟩;refine⟨.p (.tup []),[.box 113 [pK a,pI W,pB X],zq4,.box 46 [.p (.int .i64 (14:Int)),pS b,zq0,pB false,zq0,zq1,zq2,zq2,zq2,zq2],.box 46 [pI s,pS t,pI u,pB w,pI x,pS y,pV z,pT A,pT B,pE C]],rfl,rfl,?_⟩;conv=>whnf
   refine⟨Codec.one qcf [qaa.mk s t (Val.mk u w x y z A) B C],qaa.rows [qaa.mk s t (Val.mk u w x y z A) B C],.inl rfl,?_⟩;obtain rfl:=sj h;conv=>whnf
   refine⟨_,_,⟨rfl,rfl⟩,wk [0] []⟩
theorem q43 (n:Nat) (g124:q5n) (g77 g120:qfx) (g159 g173:qfx) (g178 g186:qfx) (g189 g190 g191:qfx) (g192:q5o) (g193:q5p) (g124_ok:zj1 g124) (g77_ok:zj2 g77) (g120_ok:zj3 g120) (g159_ok:zj4 g159) (g173_ok:zj5 g173) (g178_ok:zj6 g178) (g186_ok:zj7 g186) (g189_ok:zj8 g189) (g190_ok:zj9 g190) (g191_ok:zka g191) (g192_ok:q5l g192) (g193_ok:q5m g193):∀ (q:SS) (m:List qao) (s:Int) (o:Bool) (r:(List qaa)×Int×Bool),qvy n g124 g77 g120 g159 g173 g178 g186 g189 g190 g191 g192 g193 q m s o=some r->qay Tryz.prog 193 [.ptr 0 0,.p (PV.str q)] [.box 113 [pK m,pI s,pB o]] 1 (fun v lo=>v=qu3 m s o r/\lo=quz m s o r):=by
 intro q m s o r h;unfold qvy at h;refine qay.of_vc mixed (fun _ _=>Tryz.call193 _ _) Tryz.func193 (by kernel_rfl) (inl:=[74,77,78,1000000]) (Nat.le_of_ble_eq_true rfl) ?_;conv=>whnf
 refine bq h fun⟨J,K⟩ z h=>?_;refine qcl (qaj n _ _ _ _ _ z) [0] [] ?_;rintro _ _ ⟨rfl,rfl⟩;refine⟨pB J,[.box 113 [pK m,pI K,pB o]],rfl,rfl,?_⟩;conv=>whnf
 apply ifc h<;>intro E h
 ·obtain rfl:=sj h
  conv=>whnf
  refine⟨_,_,⟨rfl,rfl⟩,wk [0] []⟩
 ·conv=>whnf
  refine qbl.fn [74,77,78,1000000] (S:=List qaa×Int×Bool) (fun(l,u,w)=>[(0,.ptr 0 0),(1,pS q),(5,.tsl 1 (qaa.rows l))]) (fun(l,u,w)=>[.box 113 [pK m,pI u,pB w],.tail 46 10 (qaa.rows l).length]) (B:=qs9 n g77 m q) h (wk [0,0] [1]) ?_;intro _ st h;obtain⟨l,u,w⟩:=st;unfold qs9 at h;conv=>whnf
  refine bq h fun⟨⟨a,b,⟨c,d,e,f,g,i⟩,j,k⟩,F,t⟩ A h=>?_;refine qcl (g77_ok _ _ _ _ A) [0] [] ?_;rintro _ _ ⟨rfl,rfl⟩;refine⟨.p (.agg [.int .i64 a,.str b,.int .i64 c,.bool d,.int .i64 e,.str f,.sl (Val.rows g),.sl (qai i),.sl (qai j),.sl (qaa.rows k)]),[.box 113 [pK m,pI F,pB t],.tail 46 10 (qaa.rows l).length],rfl,rfl,?_⟩;conv=>whnf
  refine⟨Codec.one qcf [qaa.mk a b (Val.mk c d e f g i) j k],qaa.rows [qaa.mk a b (Val.mk c d e f g i) j k],.inl rfl,?_⟩;conv=>whnf
  rw[show qaa.rows l++qaa.rows [qaa.mk a b (Val.mk c d e f g i) j k]=qaa.rows (l++[qaa.mk a b (Val.mk c d e f g i) j k])from Codec.append qcf l [qaa.mk a b (Val.mk c d e f g i) j k]];conv=>whnf
  obtain⟨x,h⟩:=qak h;refine⟨⟨Codec.wide qcf (l++[qaa.mk a b (Val.mk c d e f g i) j k]),of_decide_eq_true x,qcb x (by decide)⟩,?_⟩;conv=>whnf
  refine⟨⟨rfl,rfl,rfl⟩,?_⟩;conv=>whnf
  refine bq h fun⟨G,y⟩ C h=>?_;refine qcl (qaj n _ _ _ _ _ C) [0] [] ?_;rintro _ _ ⟨rfl,rfl⟩;refine⟨pB G,[.box 113 [pK m,pI y,pB t],.dead,.box 46 [pI a,pS b,pI c,pB d,pI e,pS f,pV g,pT i,pT j,pE k],.tail 46 10 (qaa.rows (l++[qaa.mk a b (Val.mk c d e f g i) j k])).length],rfl,rfl,?_⟩;conv=>whnf
  apply ifc h<;>intro E h
  ·conv=>whnf
   refine bq h fun⟨H,I⟩ D h=>?_;refine qcl (qa5 n _ _ _ _ _ D) [0] [] ?_;rintro _ _ ⟨rfl,rfl⟩;refine⟨.p (.tup []),[.box 113 [pK m,pI H,pB I],.dead,.box 46 [pI a,pS b,pI c,pB d,pI e,pS f,pV g,pT i,pT j,pE k],.tail 46 10 (qaa.rows (l++[qaa.mk a b (Val.mk c d e f g i) j k])).length],rfl,rfl,?_⟩;obtain rfl:=sj h;conv=>whnf
   refine⟨_,_,⟨rfl,rfl⟩,wk [0] []⟩
  ·conv=>whnf
   exact⟨((l++[qaa.mk a b (Val.mk c d e f g i) j k]),y,t),h,wk [0,3] []⟩
mutual
def qbd:Nat->(List qao)->Int->Bool->Option ((List SS)×(List qaa)×Int×Bool)
 | 0=>fun _ _ _=>none
 | n+1=>quj n (qbd n) (qbf n) (qct n) (qcq n) (qcr n) (qca n) (qcs n) (qa9 n) (qbr n) (qb7 n) (qb8 n) (qb9 n)
def qbf:Nat->(List qao)->Int->Bool->Option (qaa×Int×Bool)
 | 0=>fun _ _ _=>none
 | n+1=>qvv n (qbd n) (qbf n) (qct n) (qcq n) (qcr n) (qca n) (qcs n) (qa9 n) (qbr n) (qb7 n) (qb8 n) (qb9 n)
def qct:Nat->(List qao)->Int->Bool->Option (qaa×Int×Bool)
 | 0=>fun _ _ _=>none
 | n+1=>qxq n (qbd n) (qbf n) (qct n) (qcq n) (qcr n) (qca n) (qcs n) (qa9 n) (qbr n) (qb7 n) (qb8 n) (qb9 n)
def qcq:Nat->(List qao)->Int->Bool->Option (qaa×Int×Bool)
 | 0=>fun _ _ _=>none
 | n+1=>qxn n (qbd n) (qbf n) (qct n) (qcq n) (qcr n) (qca n) (qcs n) (qa9 n) (qbr n) (qb7 n) (qb8 n) (qb9 n)
def qcr:Nat->(List qao)->Int->Bool->Option (qaa×Int×Bool)
 | 0=>fun _ _ _=>none
 | n+1=>qxo n (qbd n) (qbf n) (qct n) (qcq n) (qcr n) (qca n) (qcs n) (qa9 n) (qbr n) (qb7 n) (qb8 n) (qb9 n)
def qca:Nat->(List qao)->Int->Bool->Option (qaa×Int×Bool)
 | 0=>fun _ _ _=>none
 | n+1=>qvz n (qbd n) (qbf n) (qct n) (qcq n) (qcr n) (qca n) (qcs n) (qa9 n) (qbr n) (qb7 n) (qb8 n) (qb9 n)
def qcs:Nat->(List qao)->Int->Bool->Option (qaa×Int×Bool)
 | 0=>fun _ _ _=>none
 | n+1=>qxp n (qbd n) (qbf n) (qct n) (qcq n) (qcr n) (qca n) (qcs n) (qa9 n) (qbr n) (qb7 n) (qb8 n) (qb9 n)
def qa9:Nat->(List qao)->Int->Bool->Option (qaa×Int×Bool)
 | 0=>fun _ _ _=>none
 | n+1=>qry n (qbd n) (qbf n) (qct n) (qcq n) (qcr n) (qca n) (qcs n) (qa9 n) (qbr n) (qb7 n) (qb8 n) (qb9 n)
def qbr:Nat->(List qao)->Int->Bool->Option (qaa×Int×Bool)
 | 0=>fun _ _ _=>none
 | n+1=>qui n (qbd n) (qbf n) (qct n) (qcq n) (qcr n) (qca n) (qcs n) (qa9 n) (qbr n) (qb7 n) (qb8 n) (qb9 n)
def qb7:Nat->(List qao)->Int->Bool->Option (qaa×Int×Bool)
 | 0=>fun _ _ _=>none
 | n+1=>qvw n (qbd n) (qbf n) (qct n) (qcq n) (qcr n) (qca n) (qcs n) (qa9 n) (qbr n) (qb7 n) (qb8 n) (qb9 n)
def qb8:Nat->SS->(List qao)->Int->Bool->Option (qaa×Int×Bool)
 | 0=>fun _ _ _ _=>none
 | n+1=>qvx n (qbd n) (qbf n) (qct n) (qcq n) (qcr n) (qca n) (qcs n) (qa9 n) (qbr n) (qb7 n) (qb8 n) (qb9 n)
def qb9:Nat->SS->(List qao)->Int->Bool->Option ((List qaa)×Int×Bool)
 | 0=>fun _ _ _ _=>none
 | n+1=>qvy n (qbd n) (qbf n) (qct n) (qcq n) (qcr n) (qca n) (qcs n) (qa9 n) (qbr n) (qb7 n) (qb8 n) (qb9 n)
end
theorem qve (n:Nat):(∀ (c:List qao) (a:Int) (b:Bool) (r:(List SS)×(List qaa)×Int×Bool),qbd n c a b=some r->qay Tryz.prog 124 [.ptr 0 0] [.box 113 [pK c,pI a,pB b]] 1 (fun v lo=>v=qp7 c a b r/\lo=qp6 c a b r))/\(∀ (c:List qao) (a:Int) (b:Bool) (r:qaa×Int×Bool),qbf n c a b=some r->qay Tryz.prog 77 [.ptr 0 0] [.box 113 [pK c,pI a,pB b]] 1 (fun v lo=>v=qq9 c a b r/\lo=qq8 c a b r))/\(∀ (c:List qao) (a:Int) (b:Bool) (r:qaa×Int×Bool),qct n c a b=some r->qay Tryz.prog 120 [.ptr 0 0] [.box 113 [pK c,pI a,pB b]] 1 (fun v lo=>v=qwh c a b r/\lo=qwc c a b r))/\(∀ (c:List qao) (a:Int) (b:Bool) (r:qaa×Int×Bool),qcq n c a b=some r->qay Tryz.prog 159 [.ptr 0 0] [.box 113 [pK c,pI a,pB b]] 1 (fun v lo=>v=qwe c a b r/\lo=qv9 c a b r))/\(∀ (c:List qao) (a:Int) (b:Bool) (r:qaa×Int×Bool),qcr n c a b=some r->qay Tryz.prog 173 [.ptr 0 0] [.box 113 [pK c,pI a,pB b]] 1 (fun v lo=>v=qwf c a b r/\lo=qwa c a b r))/\(∀ (c:List qao) (a:Int) (b:Bool) (r:qaa×Int×Bool),qca n c a b=some r->qay Tryz.prog 178 [.ptr 0 0] [.box 113 [pK c,pI a,pB b]] 1 (fun v lo=>v=qu4 c a b r/\lo=qu0 c a b r))/\(∀ (c:List qao) (a:Int) (b:Bool) (r:qaa×Int×Bool),qcs n c a b=some r->qay Tryz.prog 186 [.ptr 0 0] [.box 113 [pK c,pI a,pB b]] 1 (fun v lo=>v=qwg c a b r/\lo=qwb c a b r))/\(∀ (c:List qao) (a:Int) (b:Bool) (r:qaa×Int×Bool),qa9 n c a b=some r->qay Tryz.prog 189 [.ptr 0 0] [.box 113 [pK c,pI a,pB b]] 1 (fun v lo=>v=qqv c a b r/\lo=qqu c a b r))/\(∀ (c:List qao) (a:Int) (b:Bool) (r:qaa×Int×Bool),qbr n c a b=some r->qay Tryz.prog 190 [.ptr 0 0] [.box 113 [pK c,pI a,pB b]] 1 (fun v lo=>v=qtj c a b r/\lo=qti c a b r))/\(∀ (c:List qao) (a:Int) (b:Bool) (r:qaa×Int×Bool),qb7 n c a b=some r->qay Tryz.prog 191 [.ptr 0 0] [.box 113 [pK c,pI a,pB b]] 1 (fun v lo=>v=qu1 c a b r/\lo=qux c a b r))/\(∀ (c:SS) (a:List qao) (b:Int) (t:Bool) (r:qaa×Int×Bool),qb8 n c a b t=some r->qay Tryz.prog 192 [.ptr 0 0,.p (PV.str c)] [.box 113 [pK a,pI b,pB t]] 1 (fun v lo=>v=qu2 a b t r/\lo=quy a b t r))/\(∀ (c:SS) (a:List qao) (b:Int) (t:Bool) (r:(List qaa)×Int×Bool),qb9 n c a b t=some r->qay Tryz.prog 193 [.ptr 0 0,.p (PV.str c)] [.box 113 [pK a,pI b,pB t]] 1 (fun v lo=>v=qu3 a b t r/\lo=quz a b t r)):=by
 induction n with
 | zero=>exact⟨(by intros; rename_i h; cases h),(by intros; rename_i h; cases h),(by intros; rename_i h; cases h),(by intros; rename_i h; cases h),(by intros; rename_i h; cases h),(by intros; rename_i h; cases h),(by intros; rename_i h; cases h),(by intros; rename_i h; cases h),(by intros; rename_i h; cases h),(by intros; rename_i h; cases h),(by intros; rename_i h; cases h),(by intros; rename_i h; cases h)⟩
 | succ n ih=>
  obtain⟨d,e,i,j,k,l,m,o,q,s,f,g⟩:=ih;exact⟨q3d n (qbd n) (qbf n) (qct n) (qcq n) (qcr n) (qca n) (qcs n) (qa9 n) (qbr n) (qb7 n) (qb8 n) (qb9 n) d e i j k l m o q s f g,q40 n (qbd n) (qbf n) (qct n) (qcq n) (qcr n) (qca n) (qcs n) (qa9 n) (qbr n) (qb7 n) (qb8 n) (qb9 n) d e i j k l m o q s f g,q6k n (qbd n) (qbf n) (qct n) (qcq n) (qcr n) (qca n) (qcs n) (qa9 n) (qbr n) (qb7 n) (qb8 n) (qb9 n) d e i j k l m o q s f g,q6h n (qbd n) (qbf n) (qct n) (qcq n) (qcr n) (qca n) (qcs n) (qa9 n) (qbr n) (qb7 n) (qb8 n) (qb9 n) d e i j k l m o q s f g,q6i n (qbd n) (qbf n) (qct n) (qcq n) (qcr n) (qca n) (qcs n) (qa9 n) (qbr n) (qb7 n) (qb8 n) (qb9 n) d e i j k l m o q s f g,q44 n (qbd n) (qbf n) (qct n) (qcq n) (qcr n) (qca n) (qcs n) (qa9 n) (qbr n) (qb7 n) (qb8 n) (qb9 n) d e i j k l m o q s f g,q6j n (qbd n) (qbf n) (qct n) (qcq n) (qcr n) (qca n) (qcs n) (qa9 n) (qbr n) (qb7 n) (qb8 n) (qb9 n) d e i j k l m o q s f g,q0n n (qbd n) (qbf n) (qct n) (qcq n) (qcr n) (qca n) (qcs n) (qa9 n) (qbr n) (qb7 n) (qb8 n) (qb9 n) d e i j k l m o q s f g,q3c n (qbd n) (qbf n) (qct n) (qcq n) (qcr n) (qca n) (qcs n) (qa9 n) (qbr n) (qb7 n) (qb8 n) (qb9 n) d e i j k l m o q s f g,q41 n (qbd n) (qbf n) (qct n) (qcq n) (qcr n) (qca n) (qcs n) (qa9 n) (qbr n) (qb7 n) (qb8 n) (qb9 n) d e i j k l m o q s f g,q42 n (qbd n) (qbf n) (qct n) (qcq n) (qcr n) (qca n) (qcs n) (qa9 n) (qbr n) (qb7 n) (qb8 n) (qb9 n) d e i j k l m o q s f g,q43 n (qbd n) (qbf n) (qct n) (qcq n) (qcr n) (qca n) (qcs n) (qa9 n) (qbr n) (qb7 n) (qb8 n) (qb9 n) d e i j k l m o q s f g⟩
theorem qr2 (n:Nat):∀ (a:List qao) (b:Int) (c:Bool) (r:(List SS)×(List qaa)×Int×Bool),qbd n a b c=some r->qay Tryz.prog 124 [.ptr 0 0] [.box 113 [pK a,pI b,pB c]] 1 (fun v lo=>v=qp7 a b c r/\lo=qp6 a b c r):=(qve n).1
theorem qmc (n:Nat):∀ (a:List qao) (b:Int) (c:Bool) (r:qaa×Int×Bool),qbf n a b c=some r->qay Tryz.prog 77 [.ptr 0 0] [.box 113 [pK a,pI b,pB c]] 1 (fun v lo=>v=qq9 a b c r/\lo=qq8 a b c r):=(qve n).2.1
end W
end
