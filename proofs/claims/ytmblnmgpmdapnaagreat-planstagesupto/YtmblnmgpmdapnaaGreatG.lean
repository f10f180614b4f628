/- A part of the proof: contracts, printed by program. -/
import Derived.Test.YtmblnmgpmdapnaaGreatB
import Derived.Test.YtmblnmgpmdapnaaGreatD
import Derived.Test.YtmblnmgpmdapnaaGreatE
import Derived.Test.YtmblnmgpmdapnaaGreatF
set_option linter.unusedVariables false
set_option linter.unusedSimpArgs false
set_option linter.unnecessarySimpa false
set_option linter.deprecated false
set_option linter.unusedSectionVars false
set_option linter.constructorNameAsVariable false
open Go.IntKind renaming wrap->kwr,bits->kbt
section
set_option maxRecDepth 100000
open Go Go.Proofs Ax
namespace W
abbrev q7l (_:List qap) (_:Int) (_:Bool) (r:qab×Int×Bool):FV:=.p ((PV.agg (qcz.cells r.1)))
abbrev q7b (a:List qap) (_:Int) (_:Bool) (r:qab×Int×Bool):List AObj:=[.box 113 [pK a,.p (.int .i64 r.2.1),.p (.bool r.2.2)]]
def qd5 (n:Nat):Int×Bool×Int×List qa9×List qaa×Int×SS×Int×Bool×Int×SS×List Val×List SS×List SS×List qaa×SS×List qbn×Bool×List qat×List qaa×List qaa×List qaf×List SS×Bool->Option (qab×Int×Bool):=fun(v,w,x,y,z,A,a,b,c,d,e,f,g,i,j,k,l,m,o,p,q,s,t,u)=>
 some (qab.mk x y z (qaa.mk A a (Val.mk b c d e f g) i j) k l m o p q s t u,v,w)
def qrj (n:Nat) (d:List qap) (g:Bool):LK (Int×Bool×List SS) (qab×Int×Bool):=fun f (i,j,a)=>
 bnd (qhr n d i j) fun⟨b,k,c⟩=>
 chk (decide ((qak (a++[b])).length * 16<=140737488355328)) (
 bnd (qaq n ([44]:SS) d k c) fun⟨l,e⟩=>
 bif(!l)then(
 some (qab.mk (8:Int) ([]:List qa9) ([]:List qaa) (qaa.mk (0:Int) ([]:SS) (Val.mk (0:Int) false (0:Int) ([]:SS) ([]:List Val) ([]:List SS)) ([]:List SS) ([]:List qaa)) ([]:SS) ([]:List qbn) false ([]:List qat) ([]:List qaa) ([]:List qaa) ([]:List qaf) (a++[b]) g,e,c))
 else(
 f (e,c,(a++[b]))))
def qrk (n:Nat) (d:List qap) (g:Bool):LK (Int×Bool×List SS) (qab×Int×Bool):=fun f (i,j,a)=>
 bnd (qhr n d i j) fun⟨b,k,c⟩=>
 chk (decide ((qak (a++[b])).length * 16<=140737488355328)) (
 bnd (qaq n ([44]:SS) d k c) fun⟨l,e⟩=>
 bif(!l)then(
 some (qab.mk (8:Int) ([]:List qa9) ([]:List qaa) (qaa.mk (0:Int) ([]:SS) (Val.mk (0:Int) false (0:Int) ([]:SS) ([]:List Val) ([]:List SS)) ([]:List SS) ([]:List qaa)) ([]:SS) ([]:List qbn) false ([]:List qat) ([]:List qaa) ([]:List qaa) ([]:List qaf) (a++[b]) g,e,c))
 else(
 f (e,c,(a++[b]))))
def qvv (n:Nat) (a:List qap) (e2:Int) (b:Bool):Option (qab×Int×Bool):=
 bnd (qaq n ([77,65,84,67,72]:SS) a e2 b) fun⟨e3,i⟩=>
 bif e3 then(
 bnd (qth n a i b) fun⟨e4,e5,e6⟩=>
 bnd (ql1 n ([87,72,69,82,69]:SS) a e5 e6) fun⟨e7,e8,e9⟩=>
 qd5 n (e8,e9,(1:Int),e4,e7,(0:Int),([]:SS),(0:Int),false,(0:Int),([]:SS),([]:List _),([]:List _),([]:List _),([]:List _),([]:SS),([]:List _),false,([]:List _),([]:List _),([]:List _),([]:List _),([]:List _),false))
 else(
 bnd (qaq n ([85,78,87,73,78,68]:SS) a i b) fun⟨f0,j⟩=>
 bif f0 then(
 bnd (qbk n a j b) fun⟨⟨f1,f2,⟨f3,f4,f5,f6,f7,f8⟩,f9,g0⟩,g1,g2⟩=>
 bnd (qbu n ([65,83]:SS) a g1 g2) fun⟨g3,g4⟩=>
 bnd (qhr n a g3 g4) fun⟨g5,g6,g7⟩=>
 qd5 n (g6,g7,(2:Int),([]:List _),([]:List _),f1,f2,f3,f4,f5,f6,f7,f8,f9,g0,g5,([]:List _),false,([]:List _),([]:List _),([]:List _),([]:List _),([]:List _),false))
 else(
 bnd (qaq n ([87,73,84,72]:SS) a j b) fun⟨g8,k⟩=>
 bif g8 then(
 bnd (qu9 n (3:Int) ([]:List qa9) ([]:List qaa) (0:Int) ([]:SS) (0:Int) false (0:Int) ([]:SS) ([]:List Val) ([]:List SS) ([]:List SS) ([]:List qaa) ([]:SS) false ([]:List qaa) ([]:List qaa) ([]:List qaf) ([]:List SS) false a k b) fun⟨⟨g9,i0,_,⟨i1,i2,⟨i3,i4,i5,i6,i7,i8⟩,i9,j0⟩,j1,j2,j3,j4,j5,j6,j7,j8,j9⟩,k0,k1⟩=>
 bnd (ql1 n ([87,72,69,82,69]:SS) a k0 k1) fun⟨k2,k3,k4⟩=>
 qd5 n (k3,k4,g9,i0,k2,i1,i2,i3,i4,i5,i6,i7,i8,i9,j0,j1,j2,j3,j4,j5,j6,j7,j8,j9))
 else(
 bnd (qaq n ([82,69,84,85,82,78]:SS) a k b) fun⟨k5,l⟩=>
 bif k5 then(
 bnd (qu9 n (9:Int) ([]:List qa9) ([]:List qaa) (0:Int) ([]:SS) (0:Int) false (0:Int) ([]:SS) ([]:List Val) ([]:List SS) ([]:List SS) ([]:List qaa) ([]:SS) false ([]:List qaa) ([]:List qaa) ([]:List qaf) ([]:List SS) false a l b) fun⟨⟨k6,k7,k8,⟨k9,l0,⟨l1,l2,l3,l4,l5,l6⟩,l7,l8⟩,l9,m,o,p,q,s,t,u,v⟩,w,x⟩=>
 qd5 n (w,x,k6,k7,k8,k9,l0,l1,l2,l3,l4,l5,l6,l7,l8,l9,m,o,p,q,s,t,u,v))
 else(
 bnd (qaq n ([67,82,69,65,84,69]:SS) a l b) fun⟨y,e⟩=>
 bif y then(
 bnd (qth n a e b) fun⟨z,A,B⟩=>
 qd5 n (A,B,(4:Int),z,([]:List _),(0:Int),([]:SS),(0:Int),false,(0:Int),([]:SS),([]:List _),([]:List _),([]:List _),([]:List _),([]:SS),([]:List _),false,([]:List _),([]:List _),([]:List _),([]:List _),([]:List _),false))
 else(
 bnd (qaq n ([77,69,82,71,69]:SS) a e b) fun⟨C,f⟩=>
 bif C then(
 bnd (qp6 n a f b) fun⟨⟨D,E,F,G⟩,H,I⟩=>
 qd5 n (H,I,(5:Int),[qa9.mk [qae.mk D E F G] ([]:List qag)],([]:List _),(0:Int),([]:SS),(0:Int),false,(0:Int),([]:SS),([]:List _),([]:List _),([]:List _),([]:List _),([]:SS),([]:List _),false,([]:List _),([]:List _),([]:List _),([]:List _),([]:List _),false))
 else(
 bnd (qaq n ([83,69,84]:SS) a f b) fun⟨J,g⟩=>
 bif J then(
 bnd (qva n (6:Int) ([]:List qa9) ([]:List qaa) (0:Int) ([]:SS) (0:Int) false (0:Int) ([]:SS) ([]:List Val) ([]:List SS) ([]:List SS) ([]:List qaa) ([]:SS) ([]:List qbn) false ([]:List qat) ([]:List qaa) ([]:List qaa) ([]:List SS) false a g b) fun⟨⟨K,L,M,⟨N,O,⟨P,Q,R,S,T,U⟩,V,W⟩,X,Y,Z,a0,a1,a2,a3,a4,a5⟩,a6,a7⟩=>
 some (qab.mk K L M (qaa.mk N O (Val.mk P Q R S T U) V W) X Y Z a0 a1 a2 a3 a4 a5,a6,a7))
 else(
 bnd (qaq n ([82,69,77,79,86,69]:SS) a g b) fun⟨a8,c⟩=>
 bif a8 then(
 bnd (qva n (7:Int) ([]:List qa9) ([]:List qaa) (0:Int) ([]:SS) (0:Int) false (0:Int) ([]:SS) ([]:List Val) ([]:List SS) ([]:List SS) ([]:List qaa) ([]:SS) ([]:List qbn) false ([]:List qat) ([]:List qaa) ([]:List qaa) ([]:List SS) false a c b) fun⟨⟨a9,b0,b1,⟨b2,b3,⟨b4,b5,b6,b7,b8,b9⟩,c0,c1⟩,c2,c3,c4,c5,c6,c7,c8,c9,d0⟩,d1,d2⟩=>
 some (qab.mk a9 b0 b1 (qaa.mk b2 b3 (Val.mk b4 b5 b6 b7 b8 b9) c0 c1) c2 c3 c4 c5 c6 c7 c8 c9 d0,d1,d2))
 else(
 bnd (qeu n ([68,69,84,65,67,72]:SS) a c b) fun d=>
 bif(!d)then(
 bnd (qeu n ([68,69,76,69,84,69]:SS) a c b) fun d3=>
 bif(bif d then true else d3)then(
 bnd (qaq n ([68,69,84,65,67,72]:SS) a c b) fun⟨d4,d5⟩=>
 bnd (qbu n ([68,69,76,69,84,69]:SS) a d5 b) fun⟨d6,d7⟩=>
 qam (qrj n a d4) n (d6,d7,([]:List _)))
 else(
 qd5 n (c,true,(0:Int),([]:List _),([]:List _),(0:Int),([]:SS),(0:Int),false,(0:Int),([]:SS),([]:List _),([]:List _),([]:List _),([]:List _),([]:SS),([]:List _),false,([]:List _),([]:List _),([]:List _),([]:List _),([]:List _),false)))
 else(
 bif(bif d then true else false)then(
 bnd (qaq n ([68,69,84,65,67,72]:SS) a c b) fun⟨d8,d9⟩=>
 bnd (qbu n ([68,69,76,69,84,69]:SS) a d9 b) fun⟨e0,e1⟩=>
 qam (qrk n a d8) n (e0,e1,([]:List _)))
 else(
 qd5 n (c,true,(0:Int),([]:List _),([]:List _),(0:Int),([]:SS),(0:Int),false,(0:Int),([]:SS),([]:List _),([]:List _),([]:List _),([]:List _),([]:SS),([]:List _),false,([]:List _),([]:List _),([]:List _),([]:List _),([]:List _),false)))))))))))
set_option maxHeartbeats 4000000 in
theorem q44 (n:Nat):∀ (a:List qap) (s:Int) (b:Bool) (r:qab×Int×Bool),qvv n a s b=some r->qbq TP 47 [.ptr 0 0] [.box 113 [pK a,pI s,pB b]] 1 (fun v lo=>v=q7l a s b r/\lo=q7b a s b r):=by
 intro a s b r h;unfold qvv at h;refine zO Tryz.call47 Tryz.func47 [74,75,76,77,78,79,80,81,82,83,1000000] ?_;conv=>whnf
 refine qhd.cut (S:=Int×Bool×Int×List qa9×List qaa×Int×SS×Int×Bool×Int×SS×List Val×List SS×List SS×List qaa×SS×List qbn×Bool×List qat×List qaa×List qaa×List qaf×List SS×Bool) (fun(a6,a7,b0,c1,d1,d2,G,H,I,J,K,L,M,N,O,T,X,Y,Z,a0,a1,a2,a3,a4)=>[(2,.ptr 1 0),(3,.ptr 2 0)]) (fun(a6,a7,b0,c1,d1,d2,G,H,I,J,K,L,M,N,O,T,X,Y,Z,a0,a1,a2,a3,a4)=>[.box 113 [pK a,pI a6,pB a7],zq3,.box 51 [pI b0,pP c1,pE d1,pI d2,pS G,pI H,pB I,pI J,pS K,pV L,pT M,pT N,pE O,pS T,pA X,pB Y,pO Z,pE a0,pE a1,pU a2,pT a3,pB a4]]) (qd5 n) (r:=r) ?_ ?_
 ·intro st h
  obtain⟨a6,a7,b0,c1,d1,d2,G,H,I,J,K,L,M,N,O,T,X,Y,Z,a0,a1,a2,a3,a4⟩:=st;unfold qd5 at h;obtain rfl:=sj h;conv=>whnf
  refine⟨_,_,⟨rfl,rfl⟩,wk [0] []⟩
 conv=>whnf
 refine bq h fun⟨s3,s4⟩ i6 h=>?_;refine qcq (qal n _ _ _ _ _ i6) [0] [] ?_;rintro _ _ ⟨rfl,rfl⟩;refine⟨pB s3,[.box 113 [pK a,pI s4,pB b],zq3,zq3],rfl,rfl,?_⟩;conv=>whnf
 apply ifc h<;>intro e h
 ·conv=>whnf
  refine bq h fun⟨a5,s5,s6⟩ j7 h=>?_;refine qcq (qyf n _ _ _ _ j7) [0] [] ?_;rintro _ _ ⟨rfl,rfl⟩;refine⟨pP a5,[.box 113 [pK a,pI s5,pB s6],zq3,.box 51 [.p (.int .i64 (1:Int)),zq2,zq2,zq0,zq1,zq0,pB false,zq0,zq1,zq2,zq2,zq2,zq2,zq1,zq2,pB false,zq2,zq2,zq2,zq2,zq2,pB false]],rfl,rfl,?_⟩;conv=>whnf
  refine bq h fun⟨f2,f3,f4⟩ k7 h=>?_;refine qcq (qns n _ _ _ _ _ k7) [0] [] ?_;rintro _ _ ⟨rfl,rfl⟩;refine⟨pE f2,[.box 113 [pK a,pI f3,pB f4],zq3,.box 51 [.p (.int .i64 (1:Int)),pP a5,zq2,zq0,zq1,zq0,pB false,zq0,zq1,zq2,zq2,zq2,zq2,zq1,zq2,pB false,zq2,zq2,zq2,zq2,zq2,pB false]],rfl,rfl,?_⟩;conv=>whnf
  exact⟨(f3,f4,(1:Int),a5,f2,(0:Int),([]:SS),(0:Int),false,(0:Int),([]:SS),([]:List _),([]:List _),([]:List _),([]:List _),([]:SS),([]:List _),false,([]:List _),([]:List _),([]:List _),([]:List _),([]:List _),false),h,wk [0,1,2] []⟩
 conv=>whnf
 refine bq h fun⟨s7,s8⟩ l0 h=>?_;refine qcq (qal n _ _ _ _ _ l0) [0] [] ?_;rintro _ _ ⟨rfl,rfl⟩;refine⟨pB s7,[.box 113 [pK a,pI s8,pB b],zq3,zq3],rfl,rfl,?_⟩;conv=>whnf
 apply ifc h<;>intro e h
 ·conv=>whnf
  refine bq h fun⟨⟨t,u,⟨w,x,y,z,A,C⟩,D,E⟩,s9,t0⟩ l1 h=>?_;refine qcq (qm0 n _ _ _ _ l1) [0] [] ?_;rintro _ _ ⟨rfl,rfl⟩;refine⟨.p (.agg [.int .i64 t,.str u,.int .i64 w,.bool x,.int .i64 y,.str z,.sl (Val.rows A),.sl (qak C),.sl (qak D),.sl (qaa.rows E)]),[.box 113 [pK a,pI s9,pB t0],zq3,.box 51 [.p (.int .i64 (2:Int)),zq2,zq2,zq0,zq1,zq0,pB false,zq0,zq1,zq2,zq2,zq2,zq2,zq1,zq2,pB false,zq2,zq2,zq2,zq2,zq2,pB false]],rfl,rfl,?_⟩;conv=>whnf
  refine bq h fun⟨t1,t2⟩ l2 h=>?_;refine qcq (qa6 n _ _ _ _ _ l2) [0] [] ?_;rintro _ _ ⟨rfl,rfl⟩;refine⟨.p (.tup []),[.box 113 [pK a,pI t1,pB t2],zq3,.box 51 [.p (.int .i64 (2:Int)),zq2,zq2,pI t,pS u,pI w,pB x,pI y,pS z,pV A,pT C,pT D,pE E,zq1,zq2,pB false,zq2,zq2,zq2,zq2,zq2,pB false]],rfl,rfl,?_⟩;conv=>whnf
  refine bq h fun⟨f5,f6,f7⟩ l3 h=>?_;refine qcq (qgl n _ _ _ _ l3) [0] [] ?_;rintro _ _ ⟨rfl,rfl⟩;refine⟨pS f5,[.box 113 [pK a,pI f6,pB f7],zq3,.box 51 [.p (.int .i64 (2:Int)),zq2,zq2,pI t,pS u,pI w,pB x,pI y,pS z,pV A,pT C,pT D,pE E,zq1,zq2,pB false,zq2,zq2,zq2,zq2,zq2,pB false]],rfl,rfl,?_⟩;conv=>whnf
  exact⟨(f6,f7,(2:Int),([]:List _),([]:List _),t,u,w,x,y,z,A,C,D,E,f5,([]:List _),false,([]:List _),([]:List _),([]:List _),([]:List _),([]:List _),false),h,wk [0,1,2] []⟩
 conv=>whnf
 refine bq h fun⟨t3,t4⟩ l4 h=>?_;refine qcq (qal n _ _ _ _ _ l4) [0] [] ?_;rintro _ _ ⟨rfl,rfl⟩;refine⟨pB t3,[.box 113 [pK a,pI t4,pB b],zq3,zq3],rfl,rfl,?_⟩;conv=>whnf
 apply ifc h<;>intro e h
 ·conv=>whnf
  refine bq h fun⟨⟨a8,a9,f8,⟨b1,b2,⟨b3,b4,b5,b6,b7,b8⟩,b9,c0⟩,c2,c3,c4,c5,c6,c7,c8,c9,d0⟩,t5,t6⟩ l5 h=>?_;refine qcq (qzd n _ _ _ _ _ _ _ _ _ _ _ _ _ _ _ _ _ _ _ _ _ _ _ _ l5) [0] [] ?_;rintro _ _ ⟨rfl,rfl⟩;refine⟨.p (.agg [.int .i64 a8,.sl (qa9.rows a9),.sl (qaa.rows f8),.int .i64 b1,.str b2,.int .i64 b3,.bool b4,.int .i64 b5,.str b6,.sl (Val.rows b7),.sl (qak b8),.sl (qak b9),.sl (qaa.rows c0),.str c2,.sl (qbn.rows c3),.bool c4,.sl (qat.rows c5),.sl (qaa.rows c6),.sl (qaa.rows c7),.sl (qaf.rows c8),.sl (qak c9),.bool d0]),[.box 113 [pK a,pI t5,pB t6],zq3,.box 51 [.p (.int .i64 (3:Int)),zq2,zq2,zq0,zq1,zq0,pB false,zq0,zq1,zq2,zq2,zq2,zq2,zq1,zq2,pB false,zq2,zq2,zq2,zq2,zq2,pB false]],rfl,rfl,?_⟩;conv=>whnf
  refine bq h fun⟨f9,g0,g1⟩ i7 h=>?_;refine qcq (qns n _ _ _ _ _ i7) [0] [] ?_;rintro _ _ ⟨rfl,rfl⟩;refine⟨pE f9,[.box 113 [pK a,pI g0,pB g1],zq3,.box 51 [pI a8,pP a9,pE f8,pI b1,pS b2,pI b3,pB b4,pI b5,pS b6,pV b7,pT b8,pT b9,pE c0,pS c2,pA c3,pB c4,pO c5,pE c6,pE c7,pU c8,pT c9,pB d0]],rfl,rfl,?_⟩;conv=>whnf
  exact⟨(g0,g1,a8,a9,f9,b1,b2,b3,b4,b5,b6,b7,b8,b9,c0,c2,c3,c4,c5,c6,c7,c8,c9,d0),h,wk [0,1,2] []⟩
 conv=>whnf
 refine bq h fun⟨t7,t8⟩ i8 h=>?_;refine qcq (qal n _ _ _ _ _ i8) [0] [] ?_;rintro _ _ ⟨rfl,rfl⟩;refine⟨pB t7,[.box 113 [pK a,pI t8,pB b],zq3,zq3],rfl,rfl,?_⟩;conv=>whnf
 apply ifc h<;>intro e h
 ·conv=>whnf
  refine bq h fun⟨⟨g2,g3,g4,⟨g5,g6,⟨g7,g8,g9,i0,i1,i2⟩,i3,i4⟩,i5,d5,d6,d7,d8,d9,e0,e1,e2⟩,e3,e4⟩ i9 h=>?_;refine qcq (qzd n _ _ _ _ _ _ _ _ _ _ _ _ _ _ _ _ _ _ _ _ _ _ _ _ i9) [0] [] ?_;rintro _ _ ⟨rfl,rfl⟩;refine⟨.p (.agg [.int .i64 g2,.sl (qa9.rows g3),.sl (qaa.rows g4),.int .i64 g5,.str g6,.int .i64 g7,.bool g8,.int .i64 g9,.str i0,.sl (Val.rows i1),.sl (qak i2),.sl (qak i3),.sl (qaa.rows i4),.str i5,.sl (qbn.rows d5),.bool d6,.sl (qat.rows d7),.sl (qaa.rows d8),.sl (qaa.rows d9),.sl (qaf.rows e0),.sl (qak e1),.bool e2]),[.box 113 [pK a,pI e3,pB e4],zq3,.box 51 [.p (.int .i64 (9:Int)),zq2,zq2,zq0,zq1,zq0,pB false,zq0,zq1,zq2,zq2,zq2,zq2,zq1,zq2,pB false,zq2,zq2,zq2,zq2,zq2,pB false]],rfl,rfl,?_⟩;conv=>whnf
  exact⟨(e3,e4,g2,g3,g4,g5,g6,g7,g8,g9,i0,i1,i2,i3,i4,i5,d5,d6,d7,d8,d9,e0,e1,e2),h,wk [0,1,2] []⟩
 conv=>whnf
 refine bq h fun⟨l6,l7⟩ j0 h=>?_;refine qcq (qal n _ _ _ _ _ j0) [0] [] ?_;rintro _ _ ⟨rfl,rfl⟩;refine⟨pB l6,[.box 113 [pK a,pI l7,pB b],zq3,zq3],rfl,rfl,?_⟩;conv=>whnf
 apply ifc h<;>intro e h
 ·conv=>whnf
  refine bq h fun⟨e5,e6,e7⟩ j1 h=>?_;refine qcq (qyf n _ _ _ _ j1) [0] [] ?_;rintro _ _ ⟨rfl,rfl⟩;refine⟨pP e5,[.box 113 [pK a,pI e6,pB e7],zq3,.box 51 [.p (.int .i64 (4:Int)),zq2,zq2,zq0,zq1,zq0,pB false,zq0,zq1,zq2,zq2,zq2,zq2,zq1,zq2,pB false,zq2,zq2,zq2,zq2,zq2,pB false]],rfl,rfl,?_⟩;conv=>whnf
  exact⟨(e6,e7,(4:Int),e5,([]:List _),(0:Int),([]:SS),(0:Int),false,(0:Int),([]:SS),([]:List _),([]:List _),([]:List _),([]:List _),([]:SS),([]:List _),false,([]:List _),([]:List _),([]:List _),([]:List _),([]:List _),false),h,wk [0,1,2] []⟩
 conv=>whnf
 refine bq h fun⟨l8,l9⟩ j2 h=>?_;refine qcq (qal n _ _ _ _ _ j2) [0] [] ?_;rintro _ _ ⟨rfl,rfl⟩;refine⟨pB l8,[.box 113 [pK a,pI l9,pB b],zq3,zq3],rfl,rfl,?_⟩;conv=>whnf
 apply ifc h<;>intro e h
 ·conv=>whnf
  refine bq h fun⟨⟨k,l,m,o⟩,e8,e9⟩ j3 h=>?_;refine qcq (qqr n _ _ _ _ j3) [0] [] ?_;rintro _ _ ⟨rfl,rfl⟩;refine⟨.p (.agg [.str k,.sl (qak l),.sl (qak m),.sl (qaa.rows o)]),[.box 113 [pK a,pI e8,pB e9],zq3,.box 51 [.p (.int .i64 (5:Int)),zq2,zq2,zq0,zq1,zq0,pB false,zq0,zq1,zq2,zq2,zq2,zq2,zq1,zq2,pB false,zq2,zq2,zq2,zq2,zq2,pB false]],rfl,rfl,?_⟩;conv=>whnf
  refine⟨Codec.one qd2 [qae.mk k l m o],qae.rows [qae.mk k l m o],.inl rfl,?_⟩;conv=>whnf
  refine⟨by repeat (first|exact List.forall_mem_nil _|refine List.forall_mem_cons.2 ⟨⟨rfl,rfl⟩,?_⟩),qa9.rows [qa9.mk [qae.mk k l m o] ([]:List qag)],.inr (by try exact fin),?_⟩;conv=>whnf
  exact⟨(e8,e9,(5:Int),[qa9.mk [qae.mk k l m o] ([]:List qag)],([]:List _),(0:Int),([]:SS),(0:Int),false,(0:Int),([]:SS),([]:List _),([]:List _),([]:List _),([]:List _),([]:SS),([]:List _),false,([]:List _),([]:List _),([]:List _),([]:List _),([]:List _),false),h,wk [0,1,2] []⟩
 conv=>whnf
 refine bq h fun⟨m0,m1⟩ j4 h=>?_;refine qcq (qal n _ _ _ _ _ j4) [0] [] ?_;rintro _ _ ⟨rfl,rfl⟩;refine⟨pB m0,[.box 113 [pK a,pI m1,pB b],zq3,zq3],rfl,rfl,?_⟩;conv=>whnf
 apply ifc h<;>intro e h
 ·conv=>whnf
  refine bq h fun⟨⟨m2,m3,m4,⟨m5,m6,⟨m7,m8,m9,n0,n1,n2⟩,n3,n4⟩,n5,n6,n7,n8,n9,o0,o1,o2,o3⟩,o4,o5⟩ j5 h=>?_;refine qcq (qze n _ _ _ _ _ _ _ _ _ _ _ _ _ _ _ _ _ _ _ _ _ _ _ _ _ j5) [0] [] ?_;rintro _ _ ⟨rfl,rfl⟩;refine⟨.p (.agg [.int .i64 m2,.sl (qa9.rows m3),.sl (qaa.rows m4),.int .i64 m5,.str m6,.int .i64 m7,.bool m8,.int .i64 m9,.str n0,.sl (Val.rows n1),.sl (qak n2),.sl (qak n3),.sl (qaa.rows n4),.str n5,.sl (qbn.rows n6),.bool n7,.sl (qat.rows n8),.sl (qaa.rows n9),.sl (qaa.rows o0),.sl (qaf.rows o1),.sl (qak o2),.bool o3]),[.box 113 [pK a,pI o4,pB o5],zq3,.box 51 [.p (.int .i64 (6:Int)),zq2,zq2,zq0,zq1,zq0,pB false,zq0,zq1,zq2,zq2,zq2,zq2,zq1,zq2,pB false,zq2,zq2,zq2,zq2,zq2,pB false]],rfl,rfl,?_⟩;obtain rfl:=sj h;conv=>whnf
  refine⟨_,_,⟨rfl,rfl⟩,wk [0] []⟩
 conv=>whnf
 refine bq h fun⟨o6,q⟩ j6 h=>?_;refine qcq (qal n _ _ _ _ _ j6) [0] [] ?_;rintro _ _ ⟨rfl,rfl⟩;refine⟨pB o6,[.box 113 [pK a,pI q,pB b],zq3,zq3],rfl,rfl,?_⟩;conv=>whnf
 apply ifc h<;>intro e h
 ·conv=>whnf
  refine bq h fun⟨⟨o7,o8,o9,⟨p0,p1,⟨p2,p3,p4,p5,p6,p7⟩,p8,p9⟩,q0,q1,q2,q3,q4,q5,q6,q7,q8⟩,q9,r0⟩ j8 h=>?_;refine qcq (qze n _ _ _ _ _ _ _ _ _ _ _ _ _ _ _ _ _ _ _ _ _ _ _ _ _ j8) [0] [] ?_;rintro _ _ ⟨rfl,rfl⟩;refine⟨.p (.agg [.int .i64 o7,.sl (qa9.rows o8),.sl (qaa.rows o9),.int .i64 p0,.str p1,.int .i64 p2,.bool p3,.int .i64 p4,.str p5,.sl (Val.rows p6),.sl (qak p7),.sl (qak p8),.sl (qaa.rows p9),.str q0,.sl (qbn.rows q1),.bool q2,.sl (qat.rows q3),.sl (qaa.rows q4),.sl (qaa.rows q5),.sl (qaf.rows q6),.sl (qak q7),.bool q8]),[.box 113 [pK a,pI q9,pB r0],zq3,.box 51 [.p (.int .i64 (7:Int)),zq2,zq2,zq0,zq1,zq0,pB false,zq0,zq1,zq2,zq2,zq2,zq2,zq1,zq2,pB false,zq2,zq2,zq2,zq2,zq2,pB false]],rfl,rfl,?_⟩;obtain rfl:=sj h;conv=>whnf
  refine⟨_,_,⟨rfl,rfl⟩,wk [0] []⟩
 conv=>whnf
 refine bq h fun r1 j9 h=>?_;refine qcq (qdm n _ _ _ _ _ j9) [0] [] ?_;rintro _ _ ⟨rfl,rfl⟩;refine⟨pB r1,[.box 113 [pK a,pI q,pB b],zq3,zq3],rfl,rfl,?_⟩;conv=>whnf
 refine⟨fun F=>?_,fun F=>?_⟩
 ·have h:=q10 h F
  conv=>whnf
  refine⟨id,?_⟩;conv=>whnf
  refine bq h fun r2 k0 h=>?_;refine qcq (qdm n _ _ _ _ _ k0) [0] [] ?_;rintro _ _ ⟨rfl,rfl⟩;refine⟨pB r2,[.box 113 [pK a,pI q,pB b],zq3,zq3],rfl,rfl,?_⟩;conv=>whnf
  refine⟨id,?_⟩;conv=>whnf
  apply ifc h<;>intro e h
  ·conv=>whnf
   refine bq h fun⟨i,r3⟩ k1 h=>?_;refine qcq (qal n _ _ _ _ _ k1) [0] [] ?_;rintro _ _ ⟨rfl,rfl⟩;refine⟨pB i,[.box 113 [pK a,pI r3,pB b],zq3,zyg],rfl,rfl,?_⟩;conv=>whnf
   refine bq h fun⟨r4,r5⟩ k2 h=>?_;refine qcq (qa6 n _ _ _ _ _ k2) [0] [] ?_;rintro _ _ ⟨rfl,rfl⟩;refine⟨.p (.tup []),[.box 113 [pK a,pI r4,pB r5],zq3,.box 51 [.p (.int .i64 (8:Int)),zq2,zq2,zq0,zq1,zq0,pB false,zq0,zq1,zq2,zq2,zq2,zq2,zq1,zq2,pB false,zq2,zq2,zq2,zq2,zq2,pB i]],rfl,rfl,?_⟩;conv=>whnf
   refine qbh.fn [74,75,76,77,78,79,80,81,82,83,1000000] (S:=Int×Bool×List SS) (fun(P,Q,c)=>[(0,.ptr 0 0),(2,.ptr 1 0),(3,.ptr 2 0)]) (fun(P,Q,c)=>[.box 113 [pK a,pI P,pB Q],zq3,.box 51 [.p (.int .i64 (8:Int)),zq2,zq2,zq0,zq1,zq0,pB false,zq0,zq1,zq2,zq2,zq2,zq2,zq1,zq2,pB false,zq2,zq2,zq2,zq2,.tsl 3 (qak c),pB i],.tail 9 1 (qak c).length]) (B:=qrj n a i) h (wk [0,1,2,0] [3]) ?_;intro _ st h;obtain⟨P,Q,c⟩:=st;unfold qrj at h;conv=>whnf
   refine bq h fun⟨f,r6,R⟩ k3 h=>?_;refine qcq (qgl n _ _ _ _ k3) [0] [] ?_;rintro _ _ ⟨rfl,rfl⟩;refine⟨pS f,[.box 113 [pK a,pI r6,pB R],zq3,.box 51 [.p (.int .i64 (8:Int)),zq2,zq2,zq0,zq1,zq0,pB false,zq0,zq1,zq2,zq2,zq2,zq2,zq1,zq2,pB false,zq2,zq2,zq2,zq2,.tsl 3 (qak c),pB i],.tail 9 1 (qak c).length],rfl,rfl,?_⟩;conv=>whnf
   refine⟨Codec.one qpr [f],qak [f],.inl rfl,?_⟩;conv=>whnf
   rw[show qak c++qak [f]=qak (c++[f])from Codec.append qpr c [f]];conv=>whnf
   obtain⟨d3,h⟩:=qah h;refine⟨⟨Codec.wide qpr (c++[f]),kod d3,qb5 d3 (by decide)⟩,?_⟩;conv=>whnf
   refine⟨⟨rfl,rfl,rfl⟩,?_⟩;conv=>whnf
   refine bq h fun⟨r7,f0⟩ k4 h=>?_;refine qcq (qal n _ _ _ _ _ k4) [0] [] ?_;rintro _ _ ⟨rfl,rfl⟩;refine⟨pB r7,[.box 113 [pK a,pI f0,pB R],zq3,.box 51 [.p (.int .i64 (8:Int)),zq2,zq2,zq0,zq1,zq0,pB false,zq0,zq1,zq2,zq2,zq2,zq2,zq1,zq2,pB false,zq2,zq2,zq2,zq2,.tsl 4 (qak (c++[f])),pB i],.dead,.tail 9 1 (qak (c++[f])).length],rfl,rfl,?_⟩;conv=>whnf
   apply ifc h<;>intro e h
   ·obtain rfl:=sj h
    (conv=>whnf);refine⟨_,_,⟨rfl,rfl⟩,wk [0] []⟩
   conv=>whnf
   exact⟨(f0,R,(c++[f])),h,wk [0,1,2,4] []⟩
  conv=>whnf
  exact⟨(q,true,(0:Int),([]:List _),([]:List _),(0:Int),([]:SS),(0:Int),false,(0:Int),([]:SS),([]:List _),([]:List _),([]:List _),([]:List _),([]:SS),([]:List _),false,([]:List _),([]:List _),([]:List _),([]:List _),([]:List _),false),h,wk [0,1,2] []⟩
 have h:=q1z h F;refine⟨pB false,?_⟩;conv=>whnf
 refine⟨id,?_⟩;conv=>whnf
 apply ifc h<;>intro e h
 ·conv=>whnf
  refine bq h fun⟨j,r8⟩ k5 h=>?_;refine qcq (qal n _ _ _ _ _ k5) [0] [] ?_;rintro _ _ ⟨rfl,rfl⟩;refine⟨pB j,[.box 113 [pK a,pI r8,pB b],zq3,zyg],rfl,rfl,?_⟩;conv=>whnf
  refine bq h fun⟨r9,s0⟩ k6 h=>?_;refine qcq (qa6 n _ _ _ _ _ k6) [0] [] ?_;rintro _ _ ⟨rfl,rfl⟩;refine⟨.p (.tup []),[.box 113 [pK a,pI r9,pB s0],zq3,.box 51 [.p (.int .i64 (8:Int)),zq2,zq2,zq0,zq1,zq0,pB false,zq0,zq1,zq2,zq2,zq2,zq2,zq1,zq2,pB false,zq2,zq2,zq2,zq2,zq2,pB j]],rfl,rfl,?_⟩;conv=>whnf
  refine qbh.fn [74,75,76,77,78,79,80,81,82,83,1000000] (S:=Int×Bool×List SS) (fun(U,V,d)=>[(0,.ptr 0 0),(2,.ptr 1 0),(3,.ptr 2 0)]) (fun(U,V,d)=>[.box 113 [pK a,pI U,pB V],zq3,.box 51 [.p (.int .i64 (8:Int)),zq2,zq2,zq0,zq1,zq0,pB false,zq0,zq1,zq2,zq2,zq2,zq2,zq1,zq2,pB false,zq2,zq2,zq2,zq2,.tsl 3 (qak d),pB j],.tail 9 1 (qak d).length]) (B:=qrk n a j) h (wk [0,1,2,0] [3]) ?_;intro _ st h;obtain⟨U,V,d⟩:=st;unfold qrk at h;conv=>whnf
  refine bq h fun⟨g,s1,W⟩ k8 h=>?_;refine qcq (qgl n _ _ _ _ k8) [0] [] ?_;rintro _ _ ⟨rfl,rfl⟩;refine⟨pS g,[.box 113 [pK a,pI s1,pB W],zq3,.box 51 [.p (.int .i64 (8:Int)),zq2,zq2,zq0,zq1,zq0,pB false,zq0,zq1,zq2,zq2,zq2,zq2,zq1,zq2,pB false,zq2,zq2,zq2,zq2,.tsl 3 (qak d),pB j],.tail 9 1 (qak d).length],rfl,rfl,?_⟩;conv=>whnf
  refine⟨Codec.one qpr [g],qak [g],.inl rfl,?_⟩;conv=>whnf
  rw[show qak d++qak [g]=qak (d++[g])from Codec.append qpr d [g]];conv=>whnf
  obtain⟨d4,h⟩:=qah h;refine⟨⟨Codec.wide qpr (d++[g]),kod d4,qb5 d4 (by decide)⟩,?_⟩;conv=>whnf
  refine⟨⟨rfl,rfl,rfl⟩,?_⟩;conv=>whnf
  refine bq h fun⟨s2,f1⟩ k9 h=>?_;refine qcq (qal n _ _ _ _ _ k9) [0] [] ?_;rintro _ _ ⟨rfl,rfl⟩;refine⟨pB s2,[.box 113 [pK a,pI f1,pB W],zq3,.box 51 [.p (.int .i64 (8:Int)),zq2,zq2,zq0,zq1,zq0,pB false,zq0,zq1,zq2,zq2,zq2,zq2,zq1,zq2,pB false,zq2,zq2,zq2,zq2,.tsl 4 (qak (d++[g])),pB j],.dead,.tail 9 1 (qak (d++[g])).length],rfl,rfl,?_⟩;conv=>whnf
  apply ifc h<;>intro e h
  ·obtain rfl:=sj h
   conv=>whnf
   refine⟨_,_,⟨rfl,rfl⟩,wk [0] []⟩
  conv=>whnf
  exact⟨(f1,W,(d++[g])),h,wk [0,1,2,4] []⟩
 conv=>whnf
 exact⟨(q,true,(0:Int),([]:List _),([]:List _),(0:Int),([]:SS),(0:Int),false,(0:Int),([]:SS),([]:List _),([]:List _),([]:List _),([]:List _),([]:SS),([]:List _),false,([]:List _),([]:List _),([]:List _),([]:List _),([]:List _),false),h,wk [0,1,2] []⟩
abbrev zi9 (r:qab):PV:=PV.agg (qcz.cells r)
def qf0 (n:Nat) (a:Int):List qa9×List qaa×Int×SS×Int×Bool×Int×SS×List Val×List SS×List SS×List qaa×SS×List qbn×Bool×List qat×List qaa×List qaa×List qaf×List SS×Bool->Option (qab):=fun(b,c,d,e,f,g,i,j,k,l,m,o,p,q,s,t,u,v,w,x,y)=>
 some (qab.mk a b c (qaa.mk d e (Val.mk f g i j k l) m o) p q s t u v w x y)
def qp5 (n:Nat) (a:Int) (b:List qaf) (c:List SS) (d:Bool):Bool->Option (qab):=fun e=>
 bif e then(
 qf0 n a (([]:List _),([]:List _),(0:Int),([]:SS),(0:Int),false,(0:Int),([]:SS),([]:List _),([]:List _),([]:List _),([]:List _),([]:SS),([]:List _),false,([]:List _),([]:List _),([]:List _),b,([]:List _),false))
 else(
 bif(a==8)then(
 qf0 n a (([]:List _),([]:List _),(0:Int),([]:SS),(0:Int),false,(0:Int),([]:SS),([]:List _),([]:List _),([]:List _),([]:List _),([]:SS),([]:List _),false,([]:List _),([]:List _),([]:List _),([]:List _),c,d))
 else(
 qf0 n a (([]:List _),([]:List _),(0:Int),([]:SS),(0:Int),false,(0:Int),([]:SS),([]:List _),([]:List _),([]:List _),([]:List _),([]:SS),([]:List _),false,([]:List _),([]:List _),([]:List _),([]:List _),([]:List _),false)))
def qp4 (n:Nat) (a:Int) (e:List qa9) (b:List qaf) (c:List SS) (d:Bool):Bool->Option (qab):=fun f=>
 bif f then(
 qf0 n a (e,([]:List _),(0:Int),([]:SS),(0:Int),false,(0:Int),([]:SS),([]:List _),([]:List _),([]:List _),([]:List _),([]:SS),([]:List _),false,([]:List _),([]:List _),([]:List _),([]:List _),([]:List _),false))
 else(
 bif(a==6)then(
 qp5 n a b c d (a==6))
 else(
 qp5 n a b c d (a==7)))
def qp3 (n:Nat) (a:Int) (l:List qaa) (b:List qbn) (c:Bool) (d:List qat) (e f:List qaa) (g:List qa9) (i:List qaf) (j:List SS) (k:Bool):Bool->Option (qab):=fun m=>
 bif m then(
 bif(a==3)then(
 qf0 n a (([]:List _),l,(0:Int),([]:SS),(0:Int),false,(0:Int),([]:SS),([]:List _),([]:List _),([]:List _),([]:List _),([]:SS),b,c,d,e,f,([]:List _),([]:List _),false))
 else(
 qf0 n a (([]:List _),([]:List _),(0:Int),([]:SS),(0:Int),false,(0:Int),([]:SS),([]:List _),([]:List _),([]:List _),([]:List _),([]:SS),b,c,d,e,f,([]:List _),([]:List _),false)))
 else(
 bif(a==4)then(
 qp4 n a g i j k (a==4))
 else(
 qp4 n a g i j k (a==5)))
def qub (n:Nat) (m:qab):Option (qab):=
 match m with
 | ⟨a,b,c,⟨u,v,⟨w,x,y,z,o,p⟩,q,s⟩,t,d,e,f,g,i,j,k,l⟩=>
 bif(a==1)then(
 qf0 n a (b,c,(0:Int),([]:SS),(0:Int),false,(0:Int),([]:SS),([]:List _),([]:List _),([]:List _),([]:List _),([]:SS),([]:List _),false,([]:List _),([]:List _),([]:List _),([]:List _),([]:List _),false))
 else(
 bif(a==2)then(
 qf0 n a (([]:List _),([]:List _),u,v,w,x,y,z,o,p,q,s,t,([]:List _),false,([]:List _),([]:List _),([]:List _),([]:List _),([]:List _),false))
 else(
 bif(a==3)then(
 qp3 n a c d e f g i b j k l (a==3))
 else(
 qp3 n a c d e f g i b j k l (a==9))))
theorem zgc (n:Nat):∀ (o r:qab),qub n o=some r->qai TP 67 [PV.agg (qcz.cells o)] (zi9 r):=by
 intro o r h;obtain⟨a,c,m,⟨v,w,⟨x,y,z,A,p,q⟩,s,t⟩,u,g,i,j,k,l,d,e,f⟩:=o;unfold qub at h;refine zN Tryz.call67 Tryz.func67 [1000000] ?_;conv=>whnf
 refine qhd.cut (S:=List qa9×List qaa×Int×SS×Int×Bool×Int×SS×List Val×List SS×List SS×List qaa×SS×List qbn×Bool×List qat×List qaa×List qaa×List qaf×List SS×Bool) (fun(B,C,D,E,F,G,H,I,J,K,L,M,N,O,P,Q,R,T,U,V,W)=>[(2,.ptr 0 0),(3,.ptr 1 0)]) (fun(B,C,D,E,F,G,H,I,J,K,L,M,N,O,P,Q,R,T,U,V,W)=>[zq3,.box 51 [pI a,pP B,pE C,pI D,pS E,pI F,pB G,pI H,pS I,pV J,pT K,pT L,pE M,pS N,pA O,pB P,pO Q,pE R,pE T,pU U,pT V,pB W]]) (qf0 n a) (r:=r) ?_ ?_
 ·intro st h
  obtain⟨B,C,D,E,F,G,H,I,J,K,L,M,N,O,P,Q,R,T,U,V,W⟩:=st;unfold qf0 at h;obtain rfl:=sj h;conv=>whnf
  try exact fin
 conv=>whnf
 apply ifc h<;>intro b h
 ·conv=>whnf
  exact⟨(c,m,(0:Int),([]:SS),(0:Int),false,(0:Int),([]:SS),([]:List _),([]:List _),([]:List _),([]:List _),([]:SS),([]:List _),false,([]:List _),([]:List _),([]:List _),([]:List _),([]:List _),false),h,wk [1,2] []⟩
 conv=>whnf
 apply ifc h<;>intro b h
 ·conv=>whnf
  exact⟨(([]:List _),([]:List _),v,w,x,y,z,A,p,q,s,t,u,([]:List _),false,([]:List _),([]:List _),([]:List _),([]:List _),([]:List _),false),h,wk [1,2] []⟩
 conv=>whnf
 refine qhd.cut (S:=Bool) (fun X=>[(1,.ptr 0 0),(2,.ptr 1 0),(3,.ptr 2 0),(8,pI a),(25,pB X)]) (fun X=>[.box 51 [pI a,pP c,pE m,pI v,pS w,pI x,pB y,pI z,pS A,pV p,pT q,pT s,pE t,pS u,pA g,pB i,pO j,pE k,pE l,pU d,pT e,pB f],zq3,.box 51 [pI a,zq2,zq2,zq0,zq1,zq0,pB false,zq0,zq1,zq2,zq2,zq2,zq2,zq1,zq2,pB false,zq2,zq2,zq2,zq2,zq2,pB false]]) (qp3 n a m g i j k l c d e f) (r:=r) ?_ ?_
 ·intro X h
  unfold qp3 at h;conv=>whnf
  apply ifc h<;>intro b h
  ·conv=>whnf
   apply ifc h<;>intro b h
   ·conv=>whnf
    exact⟨(([]:List _),m,(0:Int),([]:SS),(0:Int),false,(0:Int),([]:SS),([]:List _),([]:List _),([]:List _),([]:List _),([]:SS),g,i,j,k,l,([]:List _),([]:List _),false),h,wk [1,2] []⟩
   conv=>whnf
   exact⟨(([]:List _),([]:List _),(0:Int),([]:SS),(0:Int),false,(0:Int),([]:SS),([]:List _),([]:List _),([]:List _),([]:List _),([]:SS),g,i,j,k,l,([]:List _),([]:List _),false),h,wk [1,2] []⟩
  conv=>whnf
  refine qhd.cut (S:=Bool) (fun Y=>[(1,.ptr 0 0),(2,.ptr 1 0),(3,.ptr 2 0),(8,pI a),(49,pB Y)]) (fun Y=>[.box 51 [pI a,pP c,pE m,pI v,pS w,pI x,pB y,pI z,pS A,pV p,pT q,pT s,pE t,pS u,pA g,pB i,pO j,pE k,pE l,pU d,pT e,pB f],zq3,.box 51 [pI a,zq2,zq2,zq0,zq1,zq0,pB false,zq0,zq1,zq2,zq2,zq2,zq2,zq1,zq2,pB false,zq2,zq2,zq2,zq2,zq2,pB false]]) (qp4 n a c d e f) (r:=r) ?_ ?_
  ·intro Y h
   unfold qp4 at h;conv=>whnf
   apply ifc h<;>intro b h
   ·conv=>whnf
    exact⟨(c,([]:List _),(0:Int),([]:SS),(0:Int),false,(0:Int),([]:SS),([]:List _),([]:List _),([]:List _),([]:List _),([]:SS),([]:List _),false,([]:List _),([]:List _),([]:List _),([]:List _),([]:List _),false),h,wk [1,2] []⟩
   conv=>whnf
   refine qhd.cut (S:=Bool) (fun Z=>[(1,.ptr 0 0),(2,.ptr 1 0),(3,.ptr 2 0),(8,pI a),(55,pB Z)]) (fun Z=>[.box 51 [pI a,pP c,pE m,pI v,pS w,pI x,pB y,pI z,pS A,pV p,pT q,pT s,pE t,pS u,pA g,pB i,pO j,pE k,pE l,pU d,pT e,pB f],zq3,.box 51 [pI a,zq2,zq2,zq0,zq1,zq0,pB false,zq0,zq1,zq2,zq2,zq2,zq2,zq1,zq2,pB false,zq2,zq2,zq2,zq2,zq2,pB false]]) (qp5 n a d e f) (r:=r) ?_ ?_
   ·intro Z h
    unfold qp5 at h;(conv=>whnf);apply ifc h<;>intro b h
    ·conv=>whnf
     exact⟨(([]:List _),([]:List _),(0:Int),([]:SS),(0:Int),false,(0:Int),([]:SS),([]:List _),([]:List _),([]:List _),([]:List _),([]:SS),([]:List _),false,([]:List _),([]:List _),([]:List _),d,([]:List _),false),h,wk [1,2] []⟩
    (conv=>whnf);apply ifc h<;>intro b h
    ·conv=>whnf
     exact⟨(([]:List _),([]:List _),(0:Int),([]:SS),(0:Int),false,(0:Int),([]:SS),([]:List _),([]:List _),([]:List _),([]:List _),([]:SS),([]:List _),false,([]:List _),([]:List _),([]:List _),([]:List _),e,f),h,wk [1,2] []⟩
    (conv=>whnf);exact⟨(([]:List _),([]:List _),(0:Int),([]:SS),(0:Int),false,(0:Int),([]:SS),([]:List _),([]:List _),([]:List _),([]:List _),([]:SS),([]:List _),false,([]:List _),([]:List _),([]:List _),([]:List _),([]:List _),false),h,wk [1,2] []⟩
   conv=>whnf
   apply ifc h<;>intro b h
   ·conv=>whnf
    exact⟨(a==6),h,wk [0,1,2] []⟩
   conv=>whnf
   exact⟨(a==7),h,wk [0,1,2] []⟩
  conv=>whnf
  apply ifc h<;>intro b h
  ·conv=>whnf
   exact⟨(a==4),h,wk [0,1,2] []⟩
  conv=>whnf
  exact⟨(a==5),h,wk [0,1,2] []⟩
 conv=>whnf
 apply ifc h<;>intro b h
 ·conv=>whnf
  exact⟨(a==3),h,wk [0,1,2] []⟩
 conv=>whnf
 exact⟨(a==9),h,wk [0,1,2] []⟩
abbrev q5d (r:Bool):PV:=PV.bool r
def qiw (n:Nat) (b d:List SS):LK (Int) (Bool):=fun c a=>
 bif(decide (a<((qak b).length:Int)))then(
 bnd (idx b a) fun e=>
 bnd (idx d a) fun f=>
 bif(!(e==f))then(
 some false)
 else(
 c (kwr .i64 (a+1))))
 else(
 some true)
def qey (n:Nat) (a b:List SS):Option (Bool):=
 bif(((qak a).length:Int) != ((qak b).length:Int))then(
 some false)
 else(
 qam (qiw n a b) n (0:Int))
theorem qgz (n:Nat):∀ (a b:List SS) (r:Bool),qey n a b=some r->qai TP 108 [PV.sl (qak a),PV.sl (qak b)] (q5d r):=by
 intro a b r h;unfold qey at h;refine zN Tryz.call108 Tryz.func108 [1000000] ?_;conv=>whnf
 apply ifc h<;>intro d h
 ·obtain rfl:=sj h
  conv=>whnf
  try exact fin
 conv=>whnf
 refine qbh.fn [1000000] (S:=Int) (fun c=>[(0,pT a),(1,pT b),(5,pI c)]) (fun c=>[]) (B:=qiw n a b) h (wk [] []) ?_;intro _ c h;unfold qiw at h;conv=>whnf
 apply ifc h<;>intro d h
 ·conv=>whnf
  refine bq h fun _ f h=>?_;refine⟨_,Codec.at_ qpr f,?_⟩;conv=>whnf
  refine bq h fun _ e h=>?_;refine⟨_,Codec.at_ qpr e,?_⟩;conv=>whnf
  apply ifc h<;>intro d h
  ·obtain rfl:=sj h
   conv=>whnf
   try exact fin
  conv=>whnf
  exact⟨(kwr .i64 (c+1)),h,wk [] []⟩
 obtain rfl:=sj h;conv=>whnf
 try exact fin
abbrev qsk (r:Bool):PV:=PV.bool r
abbrev zv9:Type:=Val->Val->Option (Bool)
abbrev zxh:Type:=(List Val)->(List Val)->Option (Bool)
def qw4 (n:Nat) (g153:zv9) (g169:zxh) (k l:Val):Option (Bool):=
 match k,l with
 | ⟨a,c,d,e,q,s⟩,⟨f,g,i,b,m,o⟩=>
 bnd (qaw (bif(bif(bif(a==f)then(c==g)else false)then(d==i)else false)then(e==b)else false) (qey n s o)) fun j=>
 bnd (qaw (bif(bif(bif(bif(a==f)then(c==g)else false)then(d==i)else false)then(e==b)else false)then j else false) (g169 q m)) fun p=>
 some (bif(bif(bif(bif(bif(a==f)then(c==g)else false)then(d==i)else false)then(e==b)else false)then j else false)then p else false)
abbrev qpo (r:Bool):PV:=PV.bool r
def qkd (n:Nat) (b l:List Val) (g153:zv9):LK (Int) (Bool):=fun c a=>
 bif(decide (a<((Val.rows b).length:Int)))then(
 bnd (idx b a) fun⟨m,o,p,q,s,t⟩=>
 bnd (idx l a) fun⟨d,e,f,g,i,j⟩=>
 bnd (g153 (Val.mk m o p q s t) (Val.mk d e f g i j)) fun k=>
 bif(!k)then(
 some false)
 else(
 c (kwr .i64 (a+1))))
 else(
 some true)
def qqi (n:Nat) (g153:zv9) (g169:zxh) (a b:List Val):Option (Bool):=
 bif(((Val.rows a).length:Int) != ((Val.rows b).length:Int))then(
 some false)
 else(
 qam (qkd n a b g153) n (0:Int))
theorem zaz (n:Nat) (g153:zv9) (g169:zxh) (g153_ok:∀ (a b:Val) (r:Bool),g153 a b=some r->qai TP 153 [PV.agg (qvp.cells a),PV.agg (qvp.cells b)] (qsk r)) (g169_ok:∀ (d e:List Val) (r:Bool),g169 d e=some r->qai TP 169 [PV.sl (Val.rows d),PV.sl (Val.rows e)] (qpo r)):∀ (a b:Val) (r:Bool),qw4 n g153 g169 a b=some r->qai TP 153 [PV.agg (qvp.cells a),PV.agg (qvp.cells b)] (qsk r):=by
 intro a b r h;obtain⟨d,e,_,_,_,_⟩:=a;obtain⟨_,_,_,_,_,_⟩:=b;unfold qw4 at h;refine zN Tryz.call153 Tryz.func153 [1000000] ?_;conv=>whnf
 iterate 19 refine⟨id,?_⟩
 conv=>whnf
 refine bq h fun _ g h=>?_;refine⟨_,fun c=>(qgz n _ _ _ (qac g c)),?_⟩;conv=>whnf
 refine⟨id,id,id,id,id,?_⟩;conv=>whnf
 refine bq h fun _ f h=>?_;refine⟨_,fun c=>(g169_ok _ _ _ (qac f c)),?_⟩;conv=>whnf
 refine⟨id,?_⟩;obtain rfl:=sj h;conv=>whnf
 try exact fin
theorem q28 (n:Nat) (g153:zv9) (g169:zxh) (g153_ok:∀ (d e:Val) (r:Bool),g153 d e=some r->qai TP 153 [PV.agg (qvp.cells d),PV.agg (qvp.cells e)] (qsk r)) (g169_ok:∀ (a b:List Val) (r:Bool),g169 a b=some r->qai TP 169 [PV.sl (Val.rows a),PV.sl (Val.rows b)] (qpo r)):∀ (a b:List Val) (r:Bool),qqi n g153 g169 a b=some r->qai TP 169 [PV.sl (Val.rows a),PV.sl (Val.rows b)] (qpo r):=by
 intro a b r h;unfold qqi at h;refine zN Tryz.call169 Tryz.func169 [1000000] ?_;conv=>whnf
 apply ifc h<;>intro f h
 ·obtain rfl:=sj h
  conv=>whnf
  try exact fin
 conv=>whnf
 refine qbh.fn [1000000] (S:=Int) (fun c=>[(0,pV a),(1,pV b),(5,pI c)]) (fun c=>[]) (B:=qkd n a b g153) h (wk [] []) ?_;intro _ c h;unfold qkd at h;conv=>whnf
 apply ifc h<;>intro f h
 ·conv=>whnf
  refine bq h fun⟨_,_,_,_,_,_⟩ j h=>?_;refine⟨_,Codec.at_ qvp j,?_⟩;conv=>whnf
  refine bq h fun⟨_,_,_,_,_,_⟩ i h=>?_;refine⟨_,Codec.at_ qvp i,?_⟩;conv=>whnf
  refine bq h fun _ g h=>?_;refine⟨_,(g153_ok _ _ _ g),?_⟩;conv=>whnf
  apply ifc h<;>intro f h
  ·obtain rfl:=sj h
   conv=>whnf
   try exact fin
  conv=>whnf
  exact⟨(kwr .i64 (c+1)),h,wk [] []⟩
 obtain rfl:=sj h;conv=>whnf
 try exact fin
mutual
def qkc:Nat->Val->Val->Option (Bool)
 | 0=>fun _ _=>none
 | n+1=>qw4 n (qkc n) (qjp n)
def qjp:Nat->(List Val)->(List Val)->Option (Bool)
 | 0=>fun _ _=>none
 | n+1=>qqi n (qkc n) (qjp n)
end
theorem za5 (n:Nat):(∀ (a b:Val) (r:Bool),qkc n a b=some r->qai TP 153 [PV.agg (qvp.cells a),PV.agg (qvp.cells b)] (qsk r))/\(∀ (c d:List Val) (r:Bool),qjp n c d=some r->qai TP 169 [PV.sl (Val.rows c),PV.sl (Val.rows d)] (qpo r)):=by
 induction n with
 | zero=>exact⟨(by intros; rename_i h; cases h),(by intros; rename_i h; cases h)⟩
 | succ n ih=>
  obtain⟨hg153,hg169⟩:=ih;exact⟨zaz n (qkc n) (qjp n) hg153 hg169,q28 n (qkc n) (qjp n) hg153 hg169⟩
theorem qxc (n:Nat):∀ (a b:Val) (r:Bool),qkc n a b=some r->qai TP 153 [PV.agg (qvp.cells a),PV.agg (qvp.cells b)] (qsk r):=(za5 n).1
abbrev qkx (r:Bool):PV:=PV.bool r
abbrev zwa:Type:=qaa->qaa->Option (Bool)
def qiz (n:Nat) (b p:List qaa) (g107:zwa):LK (Int) (Bool):=fun c a=>
 bif(decide (a<((qaa.rows b).length:Int)))then(
 bnd (idx b a) fun⟨w,x,⟨y,z,A,B,d,e⟩,f,g⟩=>
 bnd (idx p a) fun⟨i,j,⟨k,l,m,o,q,s⟩,t,u⟩=>
 bnd (g107 (qaa.mk w x (Val.mk y z A B d e) f g) (qaa.mk i j (Val.mk k l m o q s) t u)) fun v=>
 bif(!v)then(
 some false)
 else(
 c (kwr .i64 (a+1))))
 else(
 some true)
abbrev zxi:Type:=(List qaa)->(List qaa)->Option (Bool)
def qo7 (n:Nat) (g106:zxi) (g107:zwa) (a b:List qaa):Option (Bool):=
 bif(((qaa.rows a).length:Int) != ((qaa.rows b).length:Int))then(
 some false)
 else(
 qam (qiz n a b g107) n (0:Int))
abbrev qlq (r:Bool):PV:=PV.bool r
def qqj (n:Nat) (g106:zxi) (g107:zwa) (g i:qaa):Option (Bool):=
 match g,i with
 | ⟨a,d,⟨v,w,x,y,z,A⟩,B,j⟩,⟨b,c,⟨k,l,m,o,p,q⟩,s,t⟩=>
 bnd (qaw (bif(a==b)then(d==c)else false) (qkc n (Val.mk v w x y z A) (Val.mk k l m o p q))) fun e=>
 bnd (qaw (bif(bif(a==b)then(d==c)else false)then e else false) (qey n B s)) fun f=>
 bnd (qaw (bif(bif(bif(a==b)then(d==c)else false)then e else false)then f else false) (g106 j t)) fun u=>
 some (bif(bif(bif(bif(a==b)then(d==c)else false)then e else false)then f else false)then u else false)
theorem q14 (n:Nat) (g106:zxi) (g107:zwa) (g106_ok:∀ (a b:List qaa) (r:Bool),g106 a b=some r->qai TP 106 [PV.sl (qaa.rows a),PV.sl (qaa.rows b)] (qkx r)) (g107_ok:∀ (d e:qaa) (r:Bool),g107 d e=some r->qai TP 107 [PV.agg (qck.cells d),PV.agg (qck.cells e)] (qlq r)):∀ (a b:List qaa) (r:Bool),qo7 n g106 g107 a b=some r->qai TP 106 [PV.sl (qaa.rows a),PV.sl (qaa.rows b)] (qkx r):=by
 intro a b r h;unfold qo7 at h;refine zN Tryz.call106 Tryz.func106 [1000000] ?_;conv=>whnf
 apply ifc h<;>intro f h
 ·obtain rfl:=sj h
  conv=>whnf
  try exact fin
 conv=>whnf
 refine qbh.fn [1000000] (S:=Int) (fun c=>[(0,pE a),(1,pE b),(5,pI c)]) (fun c=>[]) (B:=qiz n a b g107) h (wk [] []) ?_;intro _ c h;unfold qiz at h;conv=>whnf
 apply ifc h<;>intro f h
 ·conv=>whnf
  refine bq h fun⟨_,_,⟨_,_,_,_,_,_⟩,_,_⟩ j h=>?_;refine⟨_,Codec.at_ qck j,?_⟩;conv=>whnf
  refine bq h fun⟨_,_,⟨_,_,_,_,_,_⟩,_,_⟩ i h=>?_;refine⟨_,Codec.at_ qck i,?_⟩;conv=>whnf
  refine bq h fun _ g h=>?_;refine⟨_,(g107_ok _ _ _ g),?_⟩;conv=>whnf
  apply ifc h<;>intro f h
  ·obtain rfl:=sj h
   conv=>whnf
   try exact fin
  conv=>whnf
  exact⟨(kwr .i64 (c+1)),h,wk [] []⟩
 obtain rfl:=sj h;conv=>whnf
 try exact fin
theorem q29 (n:Nat) (g106:zxi) (g107:zwa) (g106_ok:∀ (d e:List qaa) (r:Bool),g106 d e=some r->qai TP 106 [PV.sl (qaa.rows d),PV.sl (qaa.rows e)] (qkx r)) (g107_ok:∀ (a b:qaa) (r:Bool),g107 a b=some r->qai TP 107 [PV.agg (qck.cells a),PV.agg (qck.cells b)] (qlq r)):∀ (a b:qaa) (r:Bool),qqj n g106 g107 a b=some r->qai TP 107 [PV.agg (qck.cells a),PV.agg (qck.cells b)] (qlq r):=by
 intro a b r h;obtain⟨d,e,⟨_,_,_,_,_,_⟩,_,_⟩:=a;obtain⟨_,_,⟨_,_,_,_,_,_⟩,_,_⟩:=b;unfold qqj at h;refine zN Tryz.call107 Tryz.func107 [1000000] ?_;conv=>whnf
 iterate 9 refine⟨id,?_⟩
 conv=>whnf
 refine bq h fun _ i h=>?_;refine⟨_,fun c=>(qxc n _ _ _ (qac i c)),?_⟩;conv=>whnf
 refine⟨id,id,id,id,id,?_⟩;conv=>whnf
 refine bq h fun _ g h=>?_;refine⟨_,fun c=>(qgz n _ _ _ (qac g c)),?_⟩;conv=>whnf
 refine⟨id,id,id,id,id,?_⟩;conv=>whnf
 refine bq h fun _ f h=>?_;refine⟨_,fun c=>(g106_ok _ _ _ (qac f c)),?_⟩;conv=>whnf
 refine⟨id,?_⟩;obtain rfl:=sj h;conv=>whnf
 try exact fin
mutual
def qdo:Nat->(List qaa)->(List qaa)->Option (Bool)
 | 0=>fun _ _=>none
 | n+1=>qo7 n (qdo n) (qel n)
def qel:Nat->qaa->qaa->Option (Bool)
 | 0=>fun _ _=>none
 | n+1=>qqj n (qdo n) (qel n)
end
theorem qt9 (n:Nat):(∀ (c d:List qaa) (r:Bool),qdo n c d=some r->qai TP 106 [PV.sl (qaa.rows c),PV.sl (qaa.rows d)] (qkx r))/\(∀ (a b:qaa) (r:Bool),qel n a b=some r->qai TP 107 [PV.agg (qck.cells a),PV.agg (qck.cells b)] (qlq r)):=by
 induction n with
 | zero=>exact⟨(by intros; rename_i h; cases h),(by intros; rename_i h; cases h)⟩
 | succ n ih=>
  obtain⟨hg106,hg107⟩:=ih;exact⟨q14 n (qdo n) (qel n) hg106 hg107,q29 n (qdo n) (qel n) hg106 hg107⟩
theorem qi0 (n:Nat):∀ (a b:List qaa) (r:Bool),qdo n a b=some r->qai TP 106 [PV.sl (qaa.rows a),PV.sl (qaa.rows b)] (qkx r):=(qt9 n).1
theorem qnp (n:Nat):∀ (a b:qaa) (r:Bool),qel n a b=some r->qai TP 107 [PV.agg (qck.cells a),PV.agg (qck.cells b)] (qlq r):=(qt9 n).2
abbrev q7i (r:Bool):PV:=PV.bool r
def qh0 (n:Nat) (i s:List qag):LK (Int) (Bool):=fun k a=>
 bif(decide (a<((qag.rows i).length:Int)))then(
 bnd (idx i a) fun⟨b,c,d,l,m⟩=>
 bnd (idx s a) fun⟨e,f,g,o,p⟩=>
 bnd (qaw (!(bif(bif(!(b==e))then true else(!(c==f)))then true else(d != g))) (qey n l o)) fun j=>
 bnd (qaw (!(bif(bif(bif(!(b==e))then true else(!(c==f)))then true else(d != g))then true else(!j))) (qdo n m p)) fun q=>
 bif(bif(bif(bif(bif(!(b==e))then true else(!(c==f)))then true else(d != g))then true else(!j))then true else(!q))then(
 some false)
 else(
 k (kwr .i64 (a+1))))
 else(
 some true)
def qkh (n:Nat) (e o:List qae) (m p:List qag):LK (Int) (Bool):=fun g b=>
 bif(decide (b<((qae.rows e).length:Int)))then(
 bnd (idx e b) fun⟨c,q,s,t⟩=>
 bnd (idx o b) fun⟨a,i,j,k⟩=>
 bnd (qaw (!(!(c==a))) (qey n q i)) fun d=>
 bnd (qaw (!(bif(!(c==a))then true else(!d))) (qey n s j)) fun f=>
 bnd (qaw (!(bif(bif(!(c==a))then true else(!d))then true else(!f))) (qdo n t k)) fun l=>
 bif(bif(bif(bif(!(c==a))then true else(!d))then true else(!f))then true else(!l))then(
 some false)
 else(
 g (kwr .i64 (b+1))))
 else(
 qam (qh0 n m p) n (0:Int))
def qov (n:Nat) (e f:qa9):Option (Bool):=
 match e,f with
 | ⟨a,b⟩,⟨c,d⟩=>
 bif(bif(((qae.rows a).length:Int) != ((qae.rows c).length:Int))then true else(((qag.rows b).length:Int) != ((qag.rows d).length:Int)))then(
 some false)
 else(
 qam (qkh n a c b d) n (0:Int))
set_option maxHeartbeats 4000000 in
theorem q43 (n:Nat):∀ (b c:qa9) (r:Bool),qov n b c=some r->qai TP 109 [PV.agg (qlh.cells b),PV.agg (qlh.cells c)] (q7i r):=by
 intro b c r h;obtain⟨j,f⟩:=b;obtain⟨k,g⟩:=c;unfold qov at h;refine zN Tryz.call109 Tryz.func109 [1000000] ?_;conv=>whnf
 iterate 7 refine⟨id,?_⟩
 conv=>whnf
 apply ifc h<;>intro d h
 ·obtain rfl:=sj h
  conv=>whnf
  try exact fin
 conv=>whnf
 refine qbh.fn [1000000] (S:=Int) (fun i=>[(2,.ptr 0 0),(3,.ptr 1 0),(5,pI i)]) (fun i=>[.box 59 [pN j,pG f],.box 59 [pN k,pG g]]) (B:=qkh n j k f g) h (wk [0,1] []) ?_;intro _ i h;unfold qkh at h;conv=>whnf
 apply ifc h<;>intro d h
 ·conv=>whnf
  refine bq h fun⟨_,_,_,_⟩ q h=>?_;refine⟨_,Codec.at_ qd2 q,?_⟩;conv=>whnf
  refine bq h fun⟨_,_,_,_⟩ p h=>?_;refine⟨_,Codec.at_ qd2 p,?_⟩;conv=>whnf
  refine⟨id,id,id,id,?_⟩;conv=>whnf
  refine bq h fun _ o h=>?_;refine⟨_,fun a=>(qgz n _ _ _ (qac o a)),?_⟩;conv=>whnf
  iterate 6 refine⟨id,?_⟩
  conv=>whnf
  refine bq h fun _ m h=>?_;refine⟨_,fun a=>(qgz n _ _ _ (qac m a)),?_⟩;conv=>whnf
  iterate 6 refine⟨id,?_⟩
  conv=>whnf
  refine bq h fun _ l h=>?_;refine⟨_,fun a=>(qi0 n _ _ _ (qac l a)),?_⟩;conv=>whnf
  refine⟨id,id,?_⟩;conv=>whnf
  apply ifc h<;>intro d h
  ·obtain rfl:=sj h
   conv=>whnf
   try exact fin
  conv=>whnf
  exact⟨(kwr .i64 (i+1)),h,wk [0,1] []⟩
 conv=>whnf
 refine qbh.fn [1000000] (S:=Int) (fun e=>[(2,.ptr 0 0),(3,.ptr 1 0),(8,pI e)]) (fun e=>[.box 59 [pN j,pG f],.box 59 [pN k,pG g]]) (B:=qh0 n f g) h (wk [0,1] []) ?_;intro _ e h;unfold qh0 at h;conv=>whnf
 apply ifc h<;>intro d h
 ·conv=>whnf
  refine bq h fun⟨_,_,_,_,_⟩ v h=>?_;refine⟨_,Codec.at_ qg1 v,?_⟩;conv=>whnf
  refine bq h fun⟨_,_,_,_,_⟩ u h=>?_;refine⟨_,Codec.at_ qg1 u,?_⟩;conv=>whnf
  iterate 14 refine⟨id,?_⟩
  conv=>whnf
  refine bq h fun _ t h=>?_;refine⟨_,fun a=>(qgz n _ _ _ (qac t a)),?_⟩;conv=>whnf
  iterate 6 refine⟨id,?_⟩
  conv=>whnf
  refine bq h fun _ s h=>?_;refine⟨_,fun a=>(qi0 n _ _ _ (qac s a)),?_⟩;conv=>whnf
  refine⟨id,id,?_⟩;conv=>whnf
  apply ifc h<;>intro d h
  ·obtain rfl:=sj h
   conv=>whnf
   try exact fin
  conv=>whnf
  exact⟨(kwr .i64 (e+1)),h,wk [0,1] []⟩
 obtain rfl:=sj h;conv=>whnf
 try exact fin
abbrev q3p (r:Bool):PV:=PV.bool r
def qe8 (n:Nat) (i H:List qaf):LK (Int) (Bool):=fun j a=>
 bif(decide (a<((qaf.rows i).length:Int)))then(
 bnd (idx i a) fun⟨b,c,d,⟨k,l,⟨m,o,p,q,s,t⟩,u,v⟩⟩=>
 bnd (idx H a) fun⟨e,f,g,⟨w,x,⟨y,z,A,B,C,D⟩,E,F⟩⟩=>
 bnd (qaw (!(bif(bif(!(b==e))then true else(!(c==f)))then true else(!(d==g)))) (qel n (qaa.mk k l (Val.mk m o p q s t) u v) (qaa.mk w x (Val.mk y z A B C D) E F))) fun G=>
 bif(bif(bif(bif(!(b==e))then true else(!(c==f)))then true else(!(d==g)))then true else(!G))then(
 some false)
 else(
 j (kwr .i64 (a+1))))
 else(
 some true)
def qe7 (n:Nat) (d e:List qat) (E F:List qaf):LK (Int) (Bool):=fun f a=>
 bif(decide (a<((qat.rows d).length:Int)))then(
 bnd (idx d a) fun⟨⟨_,_,⟨_,_,_,_,_,_⟩,_,_⟩,b⟩=>
 bnd (idx e a) fun⟨⟨_,_,⟨_,_,_,_,_,_⟩,_,_⟩,c⟩=>
 bnd (qaw (!(!(b==c))) (idx d a)) fun⟨⟨g,i,⟨j,k,l,m,o,p⟩,q,s⟩,_⟩=>
 bnd (qaw (!(!(b==c))) (idx e a)) fun⟨⟨t,u,⟨v,w,x,y,z,A⟩,B,C⟩,_⟩=>
 bnd (qaw (!(!(b==c))) (qel n (qaa.mk g i (Val.mk j k l m o p) q s) (qaa.mk t u (Val.mk v w x y z A) B C))) fun D=>
 bif(bif(!(b==c))then true else(!D))then(
 some false)
 else(
 f (kwr .i64 (a+1))))
 else(
 qam (qe8 n E F) n (0:Int))
def qe6 (n:Nat) (d e:List qbn) (i k:List qat) (j l:List qaf):LK (Int) (Bool):=fun f a=>
 bif(decide (a<((qbn.rows d).length:Int)))then(
 bnd (idx d a) fun⟨⟨_,_,⟨_,_,_,_,_,_⟩,_,_⟩,b⟩=>
 bnd (idx e a) fun⟨⟨_,_,⟨_,_,_,_,_,_⟩,_,_⟩,c⟩=>
 bnd (qaw (!(!(b==c))) (idx d a)) fun⟨⟨m,o,⟨p,q,s,t,u,v⟩,w,x⟩,_⟩=>
 bnd (qaw (!(!(b==c))) (idx e a)) fun⟨⟨y,z,⟨A,B,C,D,E,F⟩,G,H⟩,_⟩=>
 bnd (qaw (!(!(b==c))) (qel n (qaa.mk m o (Val.mk p q s t u v) w x) (qaa.mk y z (Val.mk A B C D E F) G H))) fun g=>
 bif(bif(!(b==c))then true else(!g))then(
 some false)
 else(
 f (kwr .i64 (a+1))))
 else(
 qam (qe7 n i k j l) n (0:Int))
def qgb (n:Nat) (b g:List qa9) (d i:List qbn) (e j:List qat) (f k:List qaf):LK (Int) (Bool):=fun c a=>
 bif(decide (a<((qa9.rows b).length:Int)))then(
 bnd (idx b a) fun⟨l,m⟩=>
 bnd (idx g a) fun⟨o,p⟩=>
 bnd (qov n (qa9.mk l m) (qa9.mk o p)) fun q=>
 bif(!q)then(
 some false)
 else(
 c (kwr .i64 (a+1))))
 else(
 qam (qe6 n d i e j f k) n (0:Int))
def qg4 (n:Nat) (v w:qab):Option (Bool):=
 match v,w with
 | ⟨c,a,K,⟨R,X,⟨Y,Z,a0,a1,x,y⟩,z,A⟩,k,e,l,f,B,C,q,D,E⟩,⟨d,b,F,⟨G,H,⟨I,J,L,M,N,O⟩,P,Q⟩,m,g,o,i,S,T,s,U,V⟩=>
 bnd (qaw (!(bif(c != d)then true else(((qa9.rows a).length:Int) != ((qa9.rows b).length:Int)))) (qdo n K F)) fun j=>
 bnd (qaw (!(bif(bif(c != d)then true else(((qa9.rows a).length:Int) != ((qa9.rows b).length:Int)))then true else(!j))) (qel n (qaa.mk R X (Val.mk Y Z a0 a1 x y) z A) (qaa.mk G H (Val.mk I J L M N O) P Q))) fun p=>
 bnd (qaw (!(bif(bif(bif(bif(bif(bif(bif(c != d)then true else(((qa9.rows a).length:Int) != ((qa9.rows b).length:Int)))then true else(!j))then true else(!p))then true else(!(k==m)))then true else(((qbn.rows e).length:Int) != ((qbn.rows g).length:Int)))then true else(!(l==o)))then true else(((qat.rows f).length:Int) != ((qat.rows i).length:Int)))) (qdo n B S)) fun t=>
 bnd (qaw (!(bif(bif(bif(bif(bif(bif(bif(bif(c != d)then true else(((qa9.rows a).length:Int) != ((qa9.rows b).length:Int)))then true else(!j))then true else(!p))then true else(!(k==m)))then true else(((qbn.rows e).length:Int) != ((qbn.rows g).length:Int)))then true else(!(l==o)))then true else(((qat.rows f).length:Int) != ((qat.rows i).length:Int)))then true else(!t))) (qdo n C T)) fun u=>
 bnd (qaw (!(bif(bif(bif(bif(bif(bif(bif(bif(bif(bif(c != d)then true else(((qa9.rows a).length:Int) != ((qa9.rows b).length:Int)))then true else(!j))then true else(!p))then true else(!(k==m)))then true else(((qbn.rows e).length:Int) != ((qbn.rows g).length:Int)))then true else(!(l==o)))then true else(((qat.rows f).length:Int) != ((qat.rows i).length:Int)))then true else(!t))then true else(!u))then true else(((qaf.rows q).length:Int) != ((qaf.rows s).length:Int)))) (qey n D U)) fun W=>
 bif(bif(bif(bif(bif(bif(bif(bif(bif(bif(bif(bif(bif(c != d)then true else(((qa9.rows a).length:Int) != ((qa9.rows b).length:Int)))then true else(!j))then true else(!p))then true else(!(k==m)))then true else(((qbn.rows e).length:Int) != ((qbn.rows g).length:Int)))then true else(!(l==o)))then true else(((qat.rows f).length:Int) != ((qat.rows i).length:Int)))then true else(!t))then true else(!u))then true else(((qaf.rows q).length:Int) != ((qaf.rows s).length:Int)))then true else(!W))then true else(!(E==V)))then(
 some false)
 else(
 qam (qgb n a b e g f i q s) n (0:Int))
set_option maxHeartbeats 4000000 in
theorem q19 (n:Nat):∀ (l m:qab) (r:Bool),qg4 n l m=some r->qai TP 66 [PV.agg (qcz.cells l),PV.agg (qcz.cells m)] (q3p r):=by
 intro l m r h;obtain⟨o,j,J,⟨T,Y,⟨a1,a2,a3,a4,p,s⟩,t,u⟩,v,g,x,e,y,z,c,A,C⟩:=l;obtain⟨D,k,E,⟨F,G,⟨H,I,K,L,M,N⟩,O,P⟩,Q,i,R,f,U,V,d,W,X⟩:=m;unfold qg4 at h;refine zN Tryz.call66 Tryz.func66 [1000000] ?_;conv=>whnf
 iterate 11 refine⟨id,?_⟩
 conv=>whnf
 refine bq h fun _ b8 h=>?_;refine⟨_,fun a=>(qi0 n _ _ _ (qac b8 a)),?_⟩;conv=>whnf
 iterate 6 refine⟨id,?_⟩
 conv=>whnf
 refine bq h fun _ b7 h=>?_;refine⟨_,fun a=>(qnp n _ _ _ (qac b7 a)),?_⟩;conv=>whnf
 iterate 30 refine⟨id,?_⟩
 conv=>whnf
 refine bq h fun _ b5 h=>?_;refine⟨_,fun a=>(qi0 n _ _ _ (qac b5 a)),?_⟩;conv=>whnf
 iterate 6 refine⟨id,?_⟩
 conv=>whnf
 refine bq h fun _ b4 h=>?_;refine⟨_,fun a=>(qi0 n _ _ _ (qac b4 a)),?_⟩;conv=>whnf
 iterate 13 refine⟨id,?_⟩
 conv=>whnf
 refine bq h fun _ b3 h=>?_;refine⟨_,fun a=>(qgz n _ _ _ (qac b3 a)),?_⟩;conv=>whnf
 iterate 7 refine⟨id,?_⟩
 conv=>whnf
 apply ifc h<;>intro b h
 ·obtain rfl:=sj h
  conv=>whnf
  try exact fin
 conv=>whnf
 refine qbh.fn [1000000] (S:=Int) (fun Z=>[(2,.ptr 0 0),(3,.ptr 1 0),(5,pI Z)]) (fun Z=>[.box 51 [pI o,pP j,pE J,pI T,pS Y,pI a1,pB a2,pI a3,pS a4,pV p,pT s,pT t,pE u,pS v,pA g,pB x,pO e,pE y,pE z,pU c,pT A,pB C],.box 51 [pI D,pP k,pE E,pI F,pS G,pI H,pB I,pI K,pS L,pV M,pT N,pT O,pE P,pS Q,pA i,pB R,pO f,pE U,pE V,pU d,pT W,pB X]]) (B:=qgb n j k g i e f c d) h (wk [0,1] []) ?_;intro _ Z h;unfold qgb at h;conv=>whnf
 apply ifc h<;>intro b h
 ·conv=>whnf
  refine bq h fun⟨_,_⟩ b9 h=>?_;refine⟨_,Codec.at_ qlh b9,?_⟩;conv=>whnf
  refine bq h fun⟨_,_⟩ b6 h=>?_;refine⟨_,Codec.at_ qlh b6,?_⟩;conv=>whnf
  refine bq h fun _ a5 h=>?_;refine⟨_,(q43 n _ _ _ a5),?_⟩;conv=>whnf
  apply ifc h<;>intro b h
  ·obtain rfl:=sj h
   conv=>whnf
   try exact fin
  conv=>whnf
  exact⟨(kwr .i64 (Z+1)),h,wk [0,1] []⟩
 conv=>whnf
 refine qbh.fn [1000000] (S:=Int) (fun a0=>[(2,.ptr 0 0),(3,.ptr 1 0),(6,pI a0)]) (fun a0=>[.box 51 [pI o,pP j,pE J,pI T,pS Y,pI a1,pB a2,pI a3,pS a4,pV p,pT s,pT t,pE u,pS v,pA g,pB x,pO e,pE y,pE z,pU c,pT A,pB C],.box 51 [pI D,pP k,pE E,pI F,pS G,pI H,pB I,pI K,pS L,pV M,pT N,pT O,pE P,pS Q,pA i,pB R,pO f,pE U,pE V,pU d,pT W,pB X]]) (B:=qe6 n g i e f c d) h (wk [0,1] []) ?_;intro _ a0 h;unfold qe6 at h;conv=>whnf
 apply ifc h<;>intro b h
 ·conv=>whnf
  refine bq h fun⟨⟨_,_,⟨_,_,_,_,_,_⟩,_,_⟩,_⟩ c4 h=>?_;refine⟨_,Codec.at_ qst c4,?_⟩;conv=>whnf
  refine bq h fun⟨⟨_,_,⟨_,_,_,_,_,_⟩,_,_⟩,_⟩ c3 h=>?_;refine⟨_,Codec.at_ qst c3,?_⟩;conv=>whnf
  refine⟨id,id,id,?_⟩;conv=>whnf
  refine bq h fun⟨⟨_,_,⟨_,_,_,_,_,_⟩,_,_⟩,_⟩ c2 h=>?_;refine⟨_,fun a=>Codec.at_ qst (qac c2 a),?_⟩;conv=>whnf
  refine⟨id,id,id,id,id,?_⟩;conv=>whnf
  refine bq h fun⟨⟨_,_,⟨_,_,_,_,_,_⟩,_,_⟩,_⟩ c1 h=>?_;refine⟨_,fun a=>Codec.at_ qst (qac c1 a),?_⟩;conv=>whnf
  refine⟨id,id,id,id,?_⟩;conv=>whnf
  refine bq h fun _ c0 h=>?_;refine⟨_,fun a=>(qnp n _ _ _ (qac c0 a)),?_⟩;conv=>whnf
  refine⟨id,id,?_⟩;conv=>whnf
  apply ifc h<;>intro b h
  ·obtain rfl:=sj h
   conv=>whnf
   try exact fin
  conv=>whnf
  exact⟨(kwr .i64 (a0+1)),h,wk [0,1] []⟩
 conv=>whnf
 refine qbh.fn [1000000] (S:=Int) (fun q=>[(2,.ptr 0 0),(3,.ptr 1 0),(7,pI q)]) (fun q=>[.box 51 [pI o,pP j,pE J,pI T,pS Y,pI a1,pB a2,pI a3,pS a4,pV p,pT s,pT t,pE u,pS v,pA g,pB x,pO e,pE y,pE z,pU c,pT A,pB C],.box 51 [pI D,pP k,pE E,pI F,pS G,pI H,pB I,pI K,pS L,pV M,pT N,pT O,pE P,pS Q,pA i,pB R,pO f,pE U,pE V,pU d,pT W,pB X]]) (B:=qe7 n e f c d) h (wk [0,1] []) ?_;intro _ q h;unfold qe7 at h;conv=>whnf
 apply ifc h<;>intro b h
 ·conv=>whnf
  refine bq h fun⟨⟨_,_,⟨_,_,_,_,_,_⟩,_,_⟩,_⟩ a9 h=>?_;refine⟨_,Codec.at_ qqf a9,?_⟩;conv=>whnf
  refine bq h fun⟨⟨_,_,⟨_,_,_,_,_,_⟩,_,_⟩,_⟩ a8 h=>?_;refine⟨_,Codec.at_ qqf a8,?_⟩;conv=>whnf
  refine⟨id,id,id,?_⟩;conv=>whnf
  refine bq h fun⟨⟨_,_,⟨_,_,_,_,_,_⟩,_,_⟩,_⟩ a7 h=>?_;refine⟨_,fun a=>Codec.at_ qqf (qac a7 a),?_⟩;conv=>whnf
  refine⟨id,id,id,id,id,?_⟩;conv=>whnf
  refine bq h fun⟨⟨_,_,⟨_,_,_,_,_,_⟩,_,_⟩,_⟩ a6 h=>?_;refine⟨_,fun a=>Codec.at_ qqf (qac a6 a),?_⟩;conv=>whnf
  refine⟨id,id,id,id,?_⟩;conv=>whnf
  refine bq h fun _ c5 h=>?_;refine⟨_,fun a=>(qnp n _ _ _ (qac c5 a)),?_⟩;conv=>whnf
  refine⟨id,id,?_⟩;conv=>whnf
  apply ifc h<;>intro b h
  ·obtain rfl:=sj h
   conv=>whnf
   try exact fin
  conv=>whnf
  exact⟨(kwr .i64 (q+1)),h,wk [0,1] []⟩
 conv=>whnf
 refine qbh.fn [1000000] (S:=Int) (fun w=>[(2,.ptr 0 0),(3,.ptr 1 0),(8,pI w)]) (fun w=>[.box 51 [pI o,pP j,pE J,pI T,pS Y,pI a1,pB a2,pI a3,pS a4,pV p,pT s,pT t,pE u,pS v,pA g,pB x,pO e,pE y,pE z,pU c,pT A,pB C],.box 51 [pI D,pP k,pE E,pI F,pS G,pI H,pB I,pI K,pS L,pV M,pT N,pT O,pE P,pS Q,pA i,pB R,pO f,pE U,pE V,pU d,pT W,pB X]]) (B:=qe8 n c d) h (wk [0,1] []) ?_;intro _ w h;unfold qe8 at h;conv=>whnf
 apply ifc h<;>intro b h
 ·conv=>whnf
  refine bq h fun⟨_,_,_,⟨_,_,⟨_,_,_,_,_,_⟩,_,_⟩⟩ b2 h=>?_;refine⟨_,Codec.at_ qjo b2,?_⟩;conv=>whnf
  refine bq h fun⟨_,_,_,⟨_,_,⟨_,_,_,_,_,_⟩,_,_⟩⟩ b1 h=>?_;refine⟨_,Codec.at_ qjo b1,?_⟩;conv=>whnf
  iterate 14 refine⟨id,?_⟩
  conv=>whnf
  refine bq h fun _ b0 h=>?_;refine⟨_,fun a=>(qnp n _ _ _ (qac b0 a)),?_⟩;conv=>whnf
  refine⟨id,id,?_⟩;conv=>whnf
  apply ifc h<;>intro b h
  ·obtain rfl:=sj h
   conv=>whnf
   try exact fin
  conv=>whnf
  exact⟨(kwr .i64 (w+1)),h,wk [0,1] []⟩
 obtain rfl:=sj h;conv=>whnf
 try exact fin
abbrev zge (r:Bool):PV:=PV.bool r
def qnl (n:Nat) (b:SS):LK (Int) (Bool):=fun d a=>
 bif(decide (a<((b.length:Nat):Int)))then(
 bnd (idx b a) fun e=>
 bnd (qix n ((e.toNat:Nat):Int)) fun c=>
 bnd (qaw (!c) (idx b a)) fun f=>
 bnd (qaw (!c) (qk4 n ((f.toNat:Nat):Int))) fun g=>
 bif(bif(!c)then(!g)else false)then(
 some false)
 else(
 d (kwr .i64 (a+1))))
 else(
 some true)
def qwi (n:Nat) (a:SS):Option (Bool):=
 bnd (qaw (!(bif(decide (((a.length:Nat):Int)<1))then true else(decide (((a.length:Nat):Int)>64)))) (idx a (0:Int))) fun b=>
 bnd (qaw (!(bif(decide (((a.length:Nat):Int)<1))then true else(decide (((a.length:Nat):Int)>64)))) (qix n ((b.toNat:Nat):Int))) fun c=>
 bif(bif(bif(decide (((a.length:Nat):Int)<1))then true else(decide (((a.length:Nat):Int)>64)))then true else(!c))then(
 some false)
 else(
 qam (qnl n a) n (0:Int))
theorem zdq (n:Nat):∀ (b:SS) (r:Bool),qwi n b=some r->qai TP 101 [PV.str b] (zge r):=by
 intro b r h;unfold qwi at h;refine zN Tryz.call101 Tryz.func101 [1000000] ?_;conv=>whnf
 refine⟨id,id,id,id,?_⟩;conv=>whnf
 refine bq h fun _ k h=>?_;refine⟨_,fun a=>qc8 (qac k a),?_⟩;conv=>whnf
 refine⟨id,?_⟩;conv=>whnf
 refine bq h fun _ j h=>?_;refine⟨_,fun a=>(qqm n _ _ (qac j a)),?_⟩;conv=>whnf
 refine⟨id,id,?_⟩;conv=>whnf
 apply ifc h<;>intro d h
 ·obtain rfl:=sj h
  conv=>whnf
  try exact fin
 conv=>whnf
 refine qbh.fn [1000000] (S:=Int) (fun c=>[(0,pS b),(3,pI c)]) (fun c=>[]) (B:=qnl n b) h (wk [] []) ?_;intro _ c h;unfold qnl at h;conv=>whnf
 apply ifc h<;>intro d h
 ·conv=>whnf
  refine bq h fun _ i h=>?_;refine⟨_,qc8 i,?_⟩;conv=>whnf
  refine bq h fun _ g h=>?_;refine⟨_,(qqm n _ _ g),?_⟩;conv=>whnf
  refine⟨id,id,?_⟩;conv=>whnf
  refine bq h fun _ f h=>?_;refine⟨_,fun a=>qc8 (qac f a),?_⟩;conv=>whnf
  refine⟨id,?_⟩;conv=>whnf
  refine bq h fun _ e h=>?_;refine⟨_,fun a=>(qot n _ _ (qac e a)),?_⟩;conv=>whnf
  refine⟨id,id,?_⟩;conv=>whnf
  apply ifc h<;>intro d h
  ·obtain rfl:=sj h
   conv=>whnf
   try exact fin
  conv=>whnf
  exact⟨(kwr .i64 (c+1)),h,wk [] []⟩
 obtain rfl:=sj h;conv=>whnf
 try exact fin
abbrev zej (r:Bool):PV:=PV.bool r
def qga (n:Nat) (a:SS):Option (Bool):=
 bnd (qtt n a) fun⟨_,b⟩=>
 bnd (qwi n a) fun c=>
 some (bif c then(!b)else false)
theorem qgi (n:Nat):∀ (a:SS) (r:Bool),qga n a=some r->qai TP 59 [PV.str a] (zej r):=by
 intro a r h;unfold qga at h;refine zN Tryz.call59 Tryz.func59 [1000000] ?_;conv=>whnf
 refine bq h fun⟨_,_⟩ c h=>?_;refine⟨_,(q3e n _ _ c),?_⟩;conv=>whnf
 refine bq h fun _ b h=>?_;refine⟨_,(zdq n _ _ b),?_⟩;conv=>whnf
 refine⟨id,id,?_⟩;obtain rfl:=sj h;conv=>whnf
 try exact fin
abbrev zby (r:Bool):PV:=PV.bool r
def qsb (n:Nat) (b:Val):Option (Bool):=
 match b with
 | ⟨a,c,d,e,f,g⟩=>
 bif(bif(a != 1)then c else false)then(
 some false)
 else(
 bif(bif(bif(bif(a != 2)then(a != 6)else false)then(a != 7)else false)then(d != 0)else false)then(
 some false)
 else(
 bif(bif(a != 3)then(!(e==([]:SS)))else false)then(
 some false)
 else(
 bif(bif(bif(a != 4)then(a != 5)else false)then(decide (((Val.rows f).length:Int)>0))else false)then(
 some false)
 else(
 some (bif(a==5)then true else(((qak g).length:Int)==0))))))
theorem q8o (n:Nat):∀ (a:Val) (r:Bool),qsb n a=some r->qai TP 185 [PV.agg (qvp.cells a)] (zby r):=by
 intro a r h;obtain⟨_,_,_,_,_,_⟩:=a;unfold qsb at h;refine zN Tryz.call185 Tryz.func185 [1000000] ?_;conv=>whnf
 refine⟨id,id,?_⟩;conv=>whnf
 apply ifc h<;>intro b h
 ·obtain rfl:=sj h
  conv=>whnf
  try exact fin
 conv=>whnf
 iterate 9 refine⟨id,?_⟩
 conv=>whnf
 apply ifc h<;>intro b h
 ·obtain rfl:=sj h
  conv=>whnf
  try exact fin
 conv=>whnf
 refine⟨id,id,id,?_⟩;conv=>whnf
 apply ifc h<;>intro b h
 ·obtain rfl:=sj h
  conv=>whnf
  try exact fin
 conv=>whnf
 iterate 7 refine⟨id,?_⟩
 conv=>whnf
 apply ifc h<;>intro b h
 ·obtain rfl:=sj h
  conv=>whnf
  try exact fin
 conv=>whnf
 refine⟨id,id,id,id,?_⟩;obtain rfl:=sj h;conv=>whnf
 try exact fin
abbrev qxm (r:Int×Bool):PV:=PV.tup [PV.int .i64 r.1,PV.bool r.2]
abbrev zwb:Type:=Val->Int->Int->Option (Int×Bool)
def qmu (n:Nat) (d:List Val) (g176:zwb) (o:Int):LK (Int×Int) (Int×Bool):=fun e (b,a)=>
 bif(decide (a<((Val.rows d).length:Int)))then(
 bnd (idx d a) fun⟨f,g,i,j,k,l⟩=>
 bnd (g176 (Val.mk f g i j k l) (kwr .i64 (o - 1)) b) fun⟨c,m⟩=>
 bif(!m)then(
 some (c,false))
 else(
 e (c,(kwr .i64 (a+1)))))
 else(
 some (b,true))
def qmt (n:Nat) (a:List Val) (g176:zwb) (b c:Int):Unit->Option (Int×Bool):=fun _=>
 qam (qmu n a g176 b) n ((kwr .i64 (c+1)),(0:Int))
def qmv (n:Nat) (b:List SS) (g:Int) (j:List Val) (g176:zwb) (k:Int):LK (Int) (Int×Bool):=fun i a=>
 bif(decide (a<((qak b).length:Int)))then(
 bnd (idx b a) fun c=>
 bnd (qaw (!(decide (((c.length:Nat):Int)<1))) (idx b a)) fun d=>
 bnd (qaw ((!(bif(decide (((c.length:Nat):Int)<1))then true else(decide (((d.length:Nat):Int)>64))))&&(decide (a>0))) (idx b a)) fun e=>
 bnd (qaw ((!(bif(decide (((c.length:Nat):Int)<1))then true else(decide (((d.length:Nat):Int)>64))))&&(decide (a>0))) (idx b (kwr .i64 (a - 1)))) fun f=>
 bif(bif(bif(decide (((c.length:Nat):Int)<1))then true else(decide (((d.length:Nat):Int)>64)))then true else(bif(decide (a>0))then(Op.bytesLess e f||e==f)else false))then(
 some ((kwr .i64 (g+1)),false))
 else(
 i (kwr .i64 (a+1))))
 else(
 qmt n j g176 k g ())
def qwg (n:Nat) (g176:zwb) (g:Val) (d b:Int):Option (Int×Bool):=
 match g with
 | ⟨a,i,f,j,c,e⟩=>
 bnd (qaw (!(bif(bif(bif(decide ((kwr .i64 (b+1))>4096))then true else(decide (d<1)))then true else(decide (a<0)))then true else(decide (a>7)))) (qsb n (Val.mk a i f j c e))) fun k=>
 bif(bif(bif(bif(bif(decide ((kwr .i64 (b+1))>4096))then true else(decide (d<1)))then true else(decide (a<0)))then true else(decide (a>7)))then true else(!k))then(
 some ((kwr .i64 (b+1)),false))
 else(
 bif(bif(bif(a==6)then true else(a==7))then(decide (f<1))else false)then(
 some ((kwr .i64 (b+1)),false))
 else(
 bif(a==5)then(
 bif(((qak e).length:Int) != ((Val.rows c).length:Int))then(
 some ((kwr .i64 (b+1)),false))
 else(
 qam (qmv n e b c g176 d) n (0:Int)))
 else(
 qmt n c g176 d b ())))
set_option maxHeartbeats 4000000 in
theorem zdm (n:Nat) (g176:zwb) (g176_ok:∀ (c:Val) (a b:Int) (r:Int×Bool),g176 c a b=some r->qai TP 176 [PV.agg (qvp.cells c),PV.int .i64 a,PV.int .i64 b] (qxm r)):∀ (c:Val) (a b:Int) (r:Int×Bool),qwg n g176 c a b=some r->qai TP 176 [PV.agg (qvp.cells c),PV.int .i64 a,PV.int .i64 b] (qxm r):=by
 intro c a b r h;obtain⟨k,m,o,q,f,j⟩:=c;unfold qwg at h;refine zN Tryz.call176 Tryz.func176 [1000000] ?_;conv=>whnf
 iterate 9 refine⟨id,?_⟩
 conv=>whnf
 refine bq h fun _ y h=>?_;refine⟨_,fun e=>(q8o n _ _ (qac y e)),?_⟩;conv=>whnf
 refine⟨id,id,?_⟩;conv=>whnf
 apply ifc h<;>intro d h
 ·obtain rfl:=sj h
  conv=>whnf
  try exact fin
 conv=>whnf
 iterate 6 refine⟨id,?_⟩
 conv=>whnf
 apply ifc h<;>intro d h
 ·obtain rfl:=sj h
  conv=>whnf
  try exact fin
 conv=>whnf
 refine qhd.cut (S:=Unit) (fun _=>[(1,pI a),(2,.p (.int .i64 (kwr .i64 (b+1)))),(3,.ptr 0 0)]) (fun _=>[.box 44 [pI k,pB m,pI o,pS q,pV f,pT j]]) (qmt n f g176 a b) (r:=r) ?_ ?_
 ·intro _ h
  unfold qmt at h;conv=>whnf
  refine qbh.fn [1000000] (S:=Int×Int) (fun(l,g)=>[(1,pI a),(2,pI l),(3,.ptr 0 0),(9,pI g)]) (fun(l,g)=>[.box 44 [pI k,pB m,pI o,pS q,pV f,pT j]]) (B:=qmu n f g176 a) h (wk [0] []) ?_;intro _ st h;obtain⟨l,g⟩:=st;unfold qmu at h;conv=>whnf
  apply ifc h<;>intro d h
  ·conv=>whnf
   refine bq h fun⟨_,_,_,_,_,_⟩ t h=>?_;refine⟨_,Codec.at_ qvp t,?_⟩;conv=>whnf
   refine bq h fun⟨z,_⟩ s h=>?_;refine⟨_,(g176_ok _ _ _ _ s),?_⟩;conv=>whnf
   apply ifc h<;>intro d h
   ·obtain rfl:=sj h
    conv=>whnf
    try exact fin
   conv=>whnf
   exact⟨(z,(kwr .i64 (g+1))),h,wk [0] []⟩
  obtain rfl:=sj h;conv=>whnf
  try exact fin
 conv=>whnf
 apply ifc h<;>intro d h
 ·conv=>whnf
  apply ifc h<;>intro d h
  ·obtain rfl:=sj h
   conv=>whnf
   try exact fin
  conv=>whnf
  refine qbh.fn [1000000] (S:=Int) (fun i=>[(1,pI a),(2,.p (.int .i64 (kwr .i64 (b+1)))),(3,.ptr 0 0),(8,pI i)]) (fun i=>[.box 44 [pI k,pB m,pI o,pS q,pV f,pT j]]) (B:=qmv n j b f g176 a) h (wk [0] []) ?_;intro _ i h;unfold qmv at h;conv=>whnf
  apply ifc h<;>intro d h
  ·conv=>whnf
   refine bq h fun _ x h=>?_;refine⟨_,Codec.at_ qpr x,?_⟩;conv=>whnf
   refine⟨id,id,id,?_⟩;conv=>whnf
   refine bq h fun _ w h=>?_;refine⟨_,fun e=>Codec.at_ qpr (qac w e),?_⟩;conv=>whnf
   iterate 9 refine⟨id,?_⟩
   conv=>whnf
   refine bq h fun _ v h=>?_;refine⟨_,fun e=>Codec.at_ qpr (qac v e),?_⟩;conv=>whnf
   refine⟨id,id,id,id,id,?_⟩;conv=>whnf
   refine bq h fun _ u h=>?_;refine⟨_,fun e=>Codec.at_ qpr (qac u e),?_⟩;conv=>whnf
   iterate 6 refine⟨id,?_⟩
   conv=>whnf
   apply ifc h<;>intro d h
   ·obtain rfl:=sj h
    conv=>whnf
    try exact fin
   conv=>whnf
   exact⟨(kwr .i64 (i+1)),h,wk [0] []⟩
  conv=>whnf
  exact⟨(),h,wk [0] []⟩
 conv=>whnf
 exact⟨(),h,wk [0] []⟩
def qke:Nat->Val->Int->Int->Option (Int×Bool)
 | 0=>fun _ _ _=>none
 | n+1=>qwg n (qke n)
theorem zdo (n:Nat):(∀ (a:Val) (b c:Int) (r:Int×Bool),qke n a b c=some r->qai TP 176 [PV.agg (qvp.cells a),PV.int .i64 b,PV.int .i64 c] (qxm r)):=by
 induction n with
 | zero=>exact(by intros; rename_i h; cases h)
 | succ n ih=>
  have hg176:=ih;exact zdm n (qke n) hg176
theorem zga (n:Nat):∀ (a:Val) (b c:Int) (r:Int×Bool),qke n a b c=some r->qai TP 176 [PV.agg (qvp.cells a),PV.int .i64 b,PV.int .i64 c] (qxm r):=(zdo n)
abbrev zi2 (r:Bool):PV:=PV.bool r
def qt3 (n:Nat) (a:Val):Option (Bool):=
 match a with
 | ⟨b,c,d,e,f,g⟩=>
 bnd (qke n (Val.mk b c d e f g) (32:Int) (0:Int)) fun⟨_,i⟩=>
 some i
theorem zf9 (n:Nat):∀ (a:Val) (r:Bool),qt3 n a=some r->qai TP 170 [PV.agg (qvp.cells a)] (zi2 r):=by
 intro a r h;obtain⟨_,_,_,_,_,_⟩:=a;unfold qt3 at h;refine zN Tryz.call170 Tryz.func170 [1000000] ?_;conv=>whnf
 refine bq h fun⟨_,_⟩ b h=>?_;refine⟨_,(zga n _ _ _ _ b),?_⟩;obtain rfl:=sj h;conv=>whnf
 try exact fin
abbrev zem (r:Int):PV:=PV.int .i64 r
def qlx (n:Nat):Bool->Option (Int):=fun a=>
 bif a then(
 some (7:Int))
 else(
 some (0:Int))
def qou (n:Nat) (a:SS):Bool->Option (Int):=fun b=>
 bif b then(
 some (6:Int))
 else(
 bif(a==([42]:SS))then(
 qlx n (a==([42]:SS)))
 else(
 bif(a==([47]:SS))then(
 qlx n (a==([47]:SS)))
 else(
 qlx n (a==([37]:SS)))))
def qfj (n:Nat) (a:SS):Bool->Option (Int):=fun b=>
 bif b then(
 some (5:Int))
 else(
 bif(a==([43]:SS))then(
 qou n a (a==([43]:SS)))
 else(
 qou n a (a==([45]:SS))))
def qt8 (n:Nat) (a:SS):Option (Int):=
 bif(a==([79,82]:SS))then(
 some (1:Int))
 else(
 bif(a==([88,79,82]:SS))then(
 some (2:Int))
 else(
 bif(a==([65,78,68]:SS))then(
 some (3:Int))
 else(
 bif(a==([61]:SS))then(
 qfj n a (a==([61]:SS)))
 else(
 bif(a==([60,62]:SS))then(
 qfj n a (a==([60,62]:SS)))
 else(
 bif(a==([60]:SS))then(
 qfj n a (a==([60]:SS)))
 else(
 bif(a==([60,61]:SS))then(
 qfj n a (a==([60,61]:SS)))
 else(
 bif(a==([62]:SS))then(
 qfj n a (a==([62]:SS)))
 else(
 bif(a==([62,61]:SS))then(
 qfj n a (a==([62,61]:SS)))
 else(
 qfj n a (a==([73,78]:SS)))))))))))
theorem zbc (n:Nat):∀ (a:SS) (r:Int),qt8 n a=some r->qai TP 171 [PV.str a] (zem r):=by
 intro a r h;unfold qt8 at h;refine zN Tryz.call171 Tryz.func171 [1000000] ?_;conv=>whnf
 apply ifc h<;>intro b h
 ·obtain rfl:=sj h
  conv=>whnf
  try exact fin
 conv=>whnf
 apply ifc h<;>intro b h
 ·obtain rfl:=sj h
  conv=>whnf
  try exact fin
 conv=>whnf
 apply ifc h<;>intro b h
 ·obtain rfl:=sj h
  conv=>whnf
  try exact fin
 conv=>whnf
 refine qhd.cut (S:=Bool) (fun c=>[(3,pS a),(10,pB c)]) (fun c=>[]) (qfj n a) (r:=r) ?_ ?_
 ·intro c h
  unfold qfj at h;conv=>whnf
  apply ifc h<;>intro b h
  ·obtain rfl:=sj h
   conv=>whnf
   try exact fin
  conv=>whnf
  refine qhd.cut (S:=Bool) (fun d=>[(3,pS a),(18,pB d)]) (fun d=>[]) (qou n a) (r:=r) ?_ ?_
  ·intro d h
   unfold qou at h;conv=>whnf
   apply ifc h<;>intro b h
   ·obtain rfl:=sj h
    conv=>whnf
    try exact fin
   conv=>whnf
   refine qhd.cut (S:=Bool) (fun e=>[(21,pB e)]) (fun e=>[]) (qlx n) (r:=r) ?_ ?_
   ·intro e h
    unfold qlx at h;(conv=>whnf);apply ifc h<;>intro b h
    ·obtain rfl:=sj h
     conv=>whnf
     try exact fin
    obtain rfl:=sj h;conv=>whnf
    try exact fin
   conv=>whnf
   apply ifc h<;>intro b h
   ·conv=>whnf
    exact⟨(a==([42]:SS)),h,wk [] []⟩
   conv=>whnf
   apply ifc h<;>intro b h
   ·conv=>whnf
    exact⟨(a==([47]:SS)),h,wk [] []⟩
   conv=>whnf
   exact⟨(a==([37]:SS)),h,wk [] []⟩
  conv=>whnf
  apply ifc h<;>intro b h
  ·conv=>whnf
   exact⟨(a==([43]:SS)),h,wk [] []⟩
  conv=>whnf
  exact⟨(a==([45]:SS)),h,wk [] []⟩
 conv=>whnf
 apply ifc h<;>intro b h
 ·conv=>whnf
  exact⟨(a==([61]:SS)),h,wk [] []⟩
 conv=>whnf
 apply ifc h<;>intro b h
 ·conv=>whnf
  exact⟨(a==([60,62]:SS)),h,wk [] []⟩
 conv=>whnf
 apply ifc h<;>intro b h
 ·conv=>whnf
  exact⟨(a==([60]:SS)),h,wk [] []⟩
 conv=>whnf
 apply ifc h<;>intro b h
 ·conv=>whnf
  exact⟨(a==([60,61]:SS)),h,wk [] []⟩
 conv=>whnf
 apply ifc h<;>intro b h
 ·conv=>whnf
  exact⟨(a==([62]:SS)),h,wk [] []⟩
 conv=>whnf
 apply ifc h<;>intro b h
 ·conv=>whnf
  exact⟨(a==([62,61]:SS)),h,wk [] []⟩
 conv=>whnf
 exact⟨(a==([73,78]:SS)),h,wk [] []⟩
abbrev zeo (r:Bool):PV:=PV.bool r
def qjs (n:Nat) (b:List SS) (e:SS) (d:List qaa):LK (Int) (Bool):=fun c a=>
 bif(decide (a<((qak b).length:Int)))then(
 bnd (idx b a) fun f=>
 bnd (qkg n f) fun g=>
 bif(!g)then(
 some false)
 else(
 c (kwr .i64 (a+1))))
 else(
 some (bif(e==([]:SS))then(((qaa.rows d).length:Int)==((qak b).length:Int))else false))
def qb6 (n:Nat) (b:SS) (a:List qaa) (c:Int):Bool->Option (Bool):=fun e=>
 bif e then(
 some (bif(b==([]:SS))then(((qaa.rows a).length:Int)==1)else false))
 else(
 bif(c==10)then(
 bnd (qaw (((qaa.rows a).length:Int)==2) (qt8 n b)) fun f=>
 some (bif(((qaa.rows a).length:Int)==2)then(decide (f>0))else false))
 else(
 bif(c==13)then(
 bnd (qga n b) fun d=>
 bnd (qaw d (qkf n b)) fun g=>
 some (bif d then(!g)else false))
 else(
 bif(c==14)then(
 bnd (qaw (((qaa.rows a).length:Int)==1) (qkf n b)) fun i=>
 some (bif(bif(((qaa.rows a).length:Int)==1)then i else false)then true else(bif(((qaa.rows a).length:Int)==0)then(b==([99,111,117,110,116]:SS))else false)))
 else(
 some false))))
def qcm (n:Nat) (b:List qaa) (c:SS) (a:Int) (j:List SS):Bool->Option (Bool):=fun e=>
 bif e then(
 bnd (qaw (((qaa.rows b).length:Int)==0) (qga n c)) fun f=>
 some (bif(((qaa.rows b).length:Int)==0)then f else false))
 else(
 bif(a==4)then(
 bnd (qaw (((qaa.rows b).length:Int)==1) (qkg n c)) fun g=>
 some (bif(((qaa.rows b).length:Int)==1)then g else false))
 else(
 bif(a==15)then(
 bnd (qaw (((qaa.rows b).length:Int)==1) (qkg n c)) fun d=>
 bnd (qaw (bif(((qaa.rows b).length:Int)==1)then d else false) (idx b (0:Int))) fun⟨i,_,⟨_,_,_,_,_,_⟩,_,_⟩=>
 some (bif(bif(((qaa.rows b).length:Int)==1)then d else false)then(i==2)else false))
 else(
 bif(a==5)then(
 some (c==([]:SS)))
 else(
 bif(a==6)then(
 qam (qjs n j c b) n (0:Int))
 else(
 bif(a==7)then(
 some (bif(c==([]:SS))then(((qaa.rows b).length:Int)==2)else false))
 else(
 bif(a==8)then(
 qb6 n c b a (a==8))
 else(
 bif(a==9)then(
 qb6 n c b a (a==9))
 else(
 bif(a==11)then(
 qb6 n c b a (a==11))
 else(
 qb6 n c b a (a==12))))))))))
def qdp (n:Nat) (g:qaa):Option (Bool):=
 match g with
 | ⟨a,d,⟨b,j,e,k,l,m⟩,f,c⟩=>
 bif(a==1)then(
 bnd (qaw (bif(d==([]:SS))then(((qaa.rows c).length:Int)==0)else false) (qt3 n (Val.mk b j e k l m))) fun i=>
 some (bif(bif(bif(d==([]:SS))then(((qaa.rows c).length:Int)==0)else false)then i else false)then(bif(bif(bif(b==0)then true else(b==1))then true else(bif(b==2)then(decide (e≥0))else false))then true else(b==3))else false))
 else(
 bif(a==2)then(
 qcm n c d a f (a==2))
 else(
 qcm n c d a f (a==3)))
set_option maxHeartbeats 4000000 in
theorem zbd (n:Nat):∀ (g:qaa) (r:Bool),qdp n g=some r->qai TP 154 [PV.agg (qck.cells g)] (zeo r):=by
 intro g r h;obtain⟨c,e,⟨l,m,o,q,s,t⟩,f,d⟩:=g;unfold qdp at h;refine zN Tryz.call154 Tryz.func154 [1000000] ?_;conv=>whnf
 apply ifc h<;>intro a h
 ·conv=>whnf
  refine⟨id,id,id,?_⟩;conv=>whnf
  refine bq h fun _ u h=>?_;refine⟨_,fun b=>(zf9 n _ _ (qac u b)),?_⟩;conv=>whnf
  iterate 24 refine⟨id,?_⟩
  obtain rfl:=sj h;conv=>whnf
  try exact fin
 conv=>whnf
 refine qhd.cut (S:=Bool) (fun j=>[(1,.ptr 0 0),(3,.p (.int .i64 ((qaa.rows d).length:Int))),(4,.p (.bool (e==([]:SS)))),(14,pI c),(53,pB j)]) (fun j=>[.box 46 [pI c,pS e,pI l,pB m,pI o,pS q,pV s,pT t,pT f,pE d]]) (qcm n d e c f) (r:=r) ?_ ?_
 ·intro j h
  unfold qcm at h;conv=>whnf
  apply ifc h<;>intro a h
  ·conv=>whnf
   refine⟨id,id,?_⟩;conv=>whnf
   refine bq h fun _ x h=>?_;refine⟨_,fun b=>(qgi n _ _ (qac x b)),?_⟩;conv=>whnf
   refine⟨id,?_⟩;obtain rfl:=sj h;conv=>whnf
   try exact fin
  conv=>whnf
  apply ifc h<;>intro a h
  ·conv=>whnf
   refine⟨id,id,?_⟩;conv=>whnf
   refine bq h fun _ y h=>?_;refine⟨_,fun b=>(qiy n _ _ (qac y b)),?_⟩;conv=>whnf
   refine⟨id,?_⟩;obtain rfl:=sj h;conv=>whnf
   try exact fin
  conv=>whnf
  apply ifc h<;>intro a h
  ·conv=>whnf
   refine⟨id,id,?_⟩;conv=>whnf
   refine bq h fun _ A h=>?_;refine⟨_,fun b=>(qiy n _ _ (qac A b)),?_⟩;conv=>whnf
   refine⟨id,id,id,?_⟩;conv=>whnf
   refine bq h fun⟨_,_,⟨_,_,_,_,_,_⟩,_,_⟩ z h=>?_;refine⟨_,fun b=>Codec.at_ qck (qac z b),?_⟩;conv=>whnf
   refine⟨id,id,id,id,?_⟩;obtain rfl:=sj h;conv=>whnf
   try exact fin
  conv=>whnf
  apply ifc h<;>intro a h
  ·obtain rfl:=sj h
   conv=>whnf
   try exact fin
  conv=>whnf
  apply ifc h<;>intro a h
  ·conv=>whnf
   refine qbh.fn [1000000] (S:=Int) (fun i=>[(1,.ptr 0 0),(3,.p (.int .i64 ((qaa.rows d).length:Int))),(4,.p (.bool (e==([]:SS)))),(6,pI i)]) (fun i=>[.box 46 [pI c,pS e,pI l,pB m,pI o,pS q,pV s,pT t,pT f,pE d]]) (B:=qjs n f e d) h (wk [0] []) ?_;intro _ i h;unfold qjs at h;conv=>whnf
   apply ifc h<;>intro a h
   ·conv=>whnf
    refine bq h fun _ D h=>?_;refine⟨_,Codec.at_ qpr D,?_⟩;(conv=>whnf);refine bq h fun _ C h=>?_;refine⟨_,(qiy n _ _ C),?_⟩;(conv=>whnf);apply ifc h<;>intro a h
    ·obtain rfl:=sj h
     conv=>whnf
     try exact fin
    (conv=>whnf);exact⟨(kwr .i64 (i+1)),h,wk [0] []⟩
   conv=>whnf
   refine⟨id,id,id,id,id,?_⟩;obtain rfl:=sj h;conv=>whnf
   try exact fin
  conv=>whnf
  apply ifc h<;>intro a h
  ·conv=>whnf
   refine⟨id,id,?_⟩;obtain rfl:=sj h;conv=>whnf
   try exact fin
  conv=>whnf
  refine qhd.cut (S:=Bool) (fun k=>[(1,.ptr 0 0),(3,.p (.int .i64 ((qaa.rows d).length:Int))),(4,.p (.bool (e==([]:SS)))),(14,pI c),(123,pB k)]) (fun k=>[.box 46 [pI c,pS e,pI l,pB m,pI o,pS q,pV s,pT t,pT f,pE d]]) (qb6 n e d c) (r:=r) ?_ ?_
  ·intro k h
   unfold qb6 at h;conv=>whnf
   apply ifc h<;>intro a h
   ·conv=>whnf
    refine⟨id,id,?_⟩;obtain rfl:=sj h;conv=>whnf
    try exact fin
   conv=>whnf
   apply ifc h<;>intro a h
   ·conv=>whnf
    refine⟨id,id,?_⟩;(conv=>whnf);refine bq h fun _ E h=>?_;refine⟨_,fun b=>(zbc n _ _ (qac E b)),?_⟩;(conv=>whnf);refine⟨id,id,?_⟩;obtain rfl:=sj h;conv=>whnf
    try exact fin
   conv=>whnf
   apply ifc h<;>intro a h
   ·conv=>whnf
    refine bq h fun _ v h=>?_;refine⟨_,(qgi n _ _ v),?_⟩;(conv=>whnf);refine⟨id,id,?_⟩;(conv=>whnf);refine bq h fun _ F h=>?_;refine⟨_,fun b=>(qqo n _ _ (qac F b)),?_⟩;(conv=>whnf);refine⟨id,id,?_⟩;obtain rfl:=sj h;conv=>whnf
    try exact fin
   conv=>whnf
   apply ifc h<;>intro a h
   ·conv=>whnf
    refine⟨id,id,?_⟩;(conv=>whnf);refine bq h fun _ w h=>?_;refine⟨_,fun b=>(qqo n _ _ (qac w b)),?_⟩;conv=>whnf
    iterate 8 refine⟨id,?_⟩
    obtain rfl:=sj h;conv=>whnf
    try exact fin
   obtain rfl:=sj h;conv=>whnf
   try exact fin
  conv=>whnf
  apply ifc h<;>intro a h
  ·conv=>whnf
   exact⟨(c==8),h,wk [0] []⟩
  conv=>whnf
  apply ifc h<;>intro a h
  ·conv=>whnf
   exact⟨(c==9),h,wk [0] []⟩
  conv=>whnf
  apply ifc h<;>intro a h
  ·conv=>whnf
   exact⟨(c==11),h,wk [0] []⟩
  conv=>whnf
  exact⟨(c==12),h,wk [0] []⟩
 conv=>whnf
 apply ifc h<;>intro a h
 ·conv=>whnf
  exact⟨(c==2),h,wk [0] []⟩
 conv=>whnf
 exact⟨(c==3),h,wk [0] []⟩
abbrev qvd (r:Bool):PV:=PV.bool r
def qk5 (n:Nat) (b:List qaa) (g112:qaa->Int->Option (Bool)) (d:Int):LK (Int) (Bool):=fun c a=>
 bif(decide (a<((qaa.rows b).length:Int)))then(
 bnd (idx b a) fun⟨e,f,⟨g,i,j,k,l,m⟩,o,p⟩=>
 bnd (g112 (qaa.mk e f (Val.mk g i j k l m) o p) (kwr .i64 (d - 1))) fun q=>
 bif(!q)then(
 some false)
 else(
 c (kwr .i64 (a+1))))
 else(
 some true)
def qw5 (n:Nat) (g112:qaa->Int->Option (Bool)) (m:qaa) (b:Int):Option (Bool):=
 match m with
 | ⟨a,p,⟨e,f,g,i,j,k⟩,l,c⟩=>
 bnd (qaw (!(decide (b<1))) (qdp n (qaa.mk a p (Val.mk e f g i j k) l c))) fun d=>
 bnd (qaw ((!(bif(decide (b<1))then true else(!d)))&&(a != 1)) (qkc n (Val.mk e f g i j k) (Val.mk (0:Int) false (0:Int) ([]:SS) ([]:List Val) ([]:List SS)))) fun o=>
 bif(bif(bif(bif(decide (b<1))then true else(!d))then true else(bif(a != 1)then(!o)else false))then true else(bif(a != 6)then(decide (((qak l).length:Int)>0))else false))then(
 some false)
 else(
 qam (qk5 n c g112 b) n (0:Int))
theorem za0 (n:Nat) (g112:qaa->Int->Option (Bool)) (g112_ok:∀ (b:qaa) (a:Int) (r:Bool),g112 b a=some r->qai TP 112 [PV.agg (qck.cells b),PV.int .i64 a] (qvd r)):∀ (b:qaa) (a:Int) (r:Bool),qw5 n g112 b a=some r->qai TP 112 [PV.agg (qck.cells b),PV.int .i64 a] (qvd r):=by
 intro b a r h;obtain⟨l,m,⟨o,p,q,s,t,u⟩,v,f⟩:=b;unfold qw5 at h;refine zN Tryz.call112 Tryz.func112 [1000000] ?_;conv=>whnf
 refine⟨id,?_⟩;conv=>whnf
 refine bq h fun _ k h=>?_;refine⟨_,fun d=>(zbd n _ _ (qac k d)),?_⟩;conv=>whnf
 iterate 8 refine⟨id,?_⟩
 conv=>whnf
 refine bq h fun _ j h=>?_;refine⟨_,fun d=>(qai.leArgs (qxc n _ _ _ (qac j d)) (by try exact fin)),?_⟩;conv=>whnf
 iterate 13 refine⟨id,?_⟩
 conv=>whnf
 apply ifc h<;>intro e h
 ·obtain rfl:=sj h
  conv=>whnf
  try exact fin
 conv=>whnf
 refine qbh.fn [1000000] (S:=Int) (fun c=>[(1,pI a),(2,.ptr 0 0),(5,pI c)]) (fun c=>[.box 46 [pI l,pS m,pI o,pB p,pI q,pS s,pV t,pT u,pT v,pE f]]) (B:=qk5 n f g112 a) h (wk [0] []) ?_;intro _ c h;unfold qk5 at h;conv=>whnf
 apply ifc h<;>intro e h
 ·conv=>whnf
  refine bq h fun⟨_,_,⟨_,_,_,_,_,_⟩,_,_⟩ i h=>?_;refine⟨_,Codec.at_ qck i,?_⟩;conv=>whnf
  refine bq h fun _ g h=>?_;refine⟨_,(g112_ok _ _ _ g),?_⟩;conv=>whnf
  apply ifc h<;>intro e h
  ·obtain rfl:=sj h
   conv=>whnf
   try exact fin
  conv=>whnf
  exact⟨(kwr .i64 (c+1)),h,wk [0] []⟩
 obtain rfl:=sj h;conv=>whnf
 try exact fin
def qnn:Nat->qaa->Int->Option (Bool)
 | 0=>fun _ _=>none
 | n+1=>qw5 n (qnn n)
theorem zbb (n:Nat):(∀ (a:qaa) (b:Int) (r:Bool),qnn n a b=some r->qai TP 112 [PV.agg (qck.cells a),PV.int .i64 b] (qvd r)):=by
 induction n with
 | zero=>exact(by intros; rename_i h; cases h)
 | succ n ih=>
  have hg112:=ih;exact za0 n (qnn n) hg112
theorem zdu (n:Nat):∀ (a:qaa) (b:Int) (r:Bool),qnn n a b=some r->qai TP 112 [PV.agg (qck.cells a),PV.int .i64 b] (qvd r):=(zbb n)
abbrev q9f (r:Bool):PV:=PV.bool r
def qfm (n:Nat) (a:qaa):Option (Bool):=
 match a with
 | ⟨b,e,⟨f,g,i,j,k,l⟩,m,c⟩=>
 bnd (qnn n (qaa.mk b e (Val.mk f g i j k l) m c) (32:Int)) fun d=>
 some d
theorem qir (n:Nat):∀ (a:qaa) (r:Bool),qfm n a=some r->qai TP 70 [PV.agg (qck.cells a)] (q9f r):=by
 intro a r h;obtain⟨_,_,⟨_,_,_,_,_,_⟩,_,_⟩:=a;unfold qfm at h;refine zN Tryz.call70 Tryz.func70 [1000000] ?_;conv=>whnf
 refine bq h fun _ b h=>?_;refine⟨_,(zdu n _ _ _ b),?_⟩;obtain rfl:=sj h;conv=>whnf
 try exact fin
abbrev q7h (r:Bool):PV:=PV.bool r
def qhz (n:Nat) (c:List SS) (m:List qaa):LK (Int) (Bool):=fun d a=>
 bif(decide (a<((qak c).length:Int)))then(
 bnd (idx c a) fun o=>
 bnd (qkg n o) fun b=>
 bnd (qaw (!(!b)) (idx m a)) fun⟨p,q,⟨s,t,e,f,g,i⟩,j,k⟩=>
 bnd (qaw (!(!b)) (qfm n (qaa.mk p q (Val.mk s t e f g i) j k))) fun l=>
 bif(bif(!b)then true else(!l))then(
 some false)
 else(
 d (kwr .i64 (a+1))))
 else(
 some true)
def qlz (n:Nat) (a:List SS) (b:List qaa):Option (Bool):=
 bif(((qak a).length:Int) != ((qaa.rows b).length:Int))then(
 some false)
 else(
 qam (qhz n a b) n (0:Int))
theorem qwl (n:Nat):∀ (a:List SS) (b:List qaa) (r:Bool),qlz n a b=some r->qai TP 111 [PV.sl (qak a),PV.sl (qaa.rows b)] (q7h r):=by
 intro a b r h;unfold qlz at h;refine zN Tryz.call111 Tryz.func111 [1000000] ?_;conv=>whnf
 apply ifc h<;>intro e h
 ·obtain rfl:=sj h
  conv=>whnf
  try exact fin
 conv=>whnf
 refine qbh.fn [1000000] (S:=Int) (fun c=>[(0,pT a),(1,pE b),(5,pI c)]) (fun c=>[]) (B:=qhz n a b) h (wk [] []) ?_;intro _ c h;unfold qhz at h;conv=>whnf
 apply ifc h<;>intro e h
 ·conv=>whnf
  refine bq h fun _ j h=>?_;refine⟨_,Codec.at_ qpr j,?_⟩;conv=>whnf
  refine bq h fun _ i h=>?_;refine⟨_,(qiy n _ _ i),?_⟩;conv=>whnf
  refine⟨id,id,?_⟩;conv=>whnf
  refine bq h fun⟨_,_,⟨_,_,_,_,_,_⟩,_,_⟩ g h=>?_;refine⟨_,fun d=>Codec.at_ qck (qac g d),?_⟩;conv=>whnf
  refine⟨id,id,?_⟩;conv=>whnf
  refine bq h fun _ f h=>?_;refine⟨_,fun d=>(qir n _ _ (qac f d)),?_⟩;conv=>whnf
  refine⟨id,id,?_⟩;conv=>whnf
  apply ifc h<;>intro e h
  ·obtain rfl:=sj h
   conv=>whnf
   try exact fin
  conv=>whnf
  exact⟨(kwr .i64 (c+1)),h,wk [] []⟩
 obtain rfl:=sj h;conv=>whnf
 try exact fin
abbrev q9g (r:Bool):PV:=PV.bool r
def qg2 (n:Nat) (d:List SS) (a:SS) (k:List SS) (l:List qaa) (e:Int->Option (Bool)) (j:Int):LK (Int) (Bool):=fun f b=>
 bif(decide (b<((qak d).length:Int)))then(
 bnd (idx d b) fun m=>
 bnd (qkg n m) fun g=>
 bif(!g)then(
 some false)
 else(
 f (kwr .i64 (b+1))))
 else(
 bnd (qaw (!(a==([]:SS))) (qga n a)) fun c=>
 bnd (qaw (!(bif(!(a==([]:SS)))then(!c)else false)) (qlz n k l)) fun i=>
 bif(bif(bif(!(a==([]:SS)))then(!c)else false)then true else(!i))then(
 some false)
 else(
 e (kwr .i64 (j+1))))
def qg3 (n:Nat) (f:List qag):LK (Int) (Bool):=fun i d=>
 bif(decide (d<((qag.rows f).length:Int)))then(
 bnd (idx f d) fun⟨a,b,c,j,k⟩=>
 bnd (qaw (!(a==([]:SS))) (qga n a)) fun e=>
 bnd (qaw ((!(bif(!(a==([]:SS)))then(!e)else false))&&(!(b==([]:SS)))) (qkg n b)) fun g=>
 bnd (qaw (!(bif(bif(bif(bif(!(a==([]:SS)))then(!e)else false)then true else(bif(!(b==([]:SS)))then(!g)else false))then true else(decide (c<0)))then true else(decide (c>2)))) (qlz n j k)) fun l=>
 bif(bif(bif(bif(bif(bif(!(a==([]:SS)))then(!e)else false)then true else(bif(!(b==([]:SS)))then(!g)else false))then true else(decide (c<0)))then true else(decide (c>2)))then true else(!l))then(
 some false)
 else(
 i (kwr .i64 (d+1))))
 else(
 some true)
def qis (n:Nat) (b:List qae) (d:List qag):LK (Int) (Bool):=fun c a=>
 bif(decide (a<((qae.rows b).length:Int)))then(
 bnd (idx b a) fun⟨e,f,g,i⟩=>
 qam (qg2 n f e g i c a) n (0:Int))
 else(
 qam (qg3 n d) n (0:Int))
def qno (n:Nat) (c:qa9):Option (Bool):=
 match c with
 | ⟨a,b⟩=>
 bif(((qae.rows a).length:Int) != (kwr .i64 (((qag.rows b).length:Int)+1)))then(
 some false)
 else(
 qam (qis n a b) n (0:Int))
set_option maxHeartbeats 4000000 in
theorem q6y (n:Nat):∀ (e:qa9) (r:Bool),qno n e=some r->qai TP 68 [PV.agg (qlh.cells e)] (q9g r):=by
 intro e r h;obtain⟨f,d⟩:=e;unfold qno at h;refine zN Tryz.call68 Tryz.func68 [1000000] ?_;conv=>whnf
 apply ifc h<;>intro b h
 ·obtain rfl:=sj h
  conv=>whnf
  try exact fin
 conv=>whnf
 refine qbh.fn [1000000] (S:=Int) (fun c=>[(1,.ptr 0 0),(3,pI c)]) (fun c=>[.box 59 [pN f,pG d]]) (B:=qis n f d) h (wk [0] []) ?_;intro y c h;unfold qis at h;conv=>whnf
 apply ifc h<;>intro b h
 ·conv=>whnf
  refine bq h fun⟨j,k,l,m⟩ t h=>?_;refine⟨_,Codec.at_ qd2 t,?_⟩;conv=>whnf
  refine qbh.fn [1000000] (S:=Int) (fun i=>[(1,.ptr 0 0),(3,pI c),(4,.ptr 1 0),(5,pI i)]) (fun i=>[.box 59 [pN f,pG d],.box 55 [pS j,pT k,pT l,pE m]]) (B:=qg2 n k j l m y c) h (wk [0,1] []) ?_;intro _ i h;unfold qg2 at h;conv=>whnf
  apply ifc h<;>intro b h
  ·conv=>whnf
   refine bq h fun _ p h=>?_;refine⟨_,Codec.at_ qpr p,?_⟩;conv=>whnf
   refine bq h fun _ o h=>?_;refine⟨_,(qiy n _ _ o),?_⟩;conv=>whnf
   apply ifc h<;>intro b h
   ·obtain rfl:=sj h
    conv=>whnf
    try exact fin
   conv=>whnf
   exact⟨(kwr .i64 (i+1)),h,wk [0,1] []⟩
  conv=>whnf
  refine⟨id,id,?_⟩;conv=>whnf
  refine bq h fun _ s h=>?_;refine⟨_,fun a=>(qgi n _ _ (qac s a)),?_⟩;conv=>whnf
  iterate 6 refine⟨id,?_⟩
  conv=>whnf
  refine bq h fun _ q h=>?_;refine⟨_,fun a=>(qwl n _ _ _ (qac q a)),?_⟩;conv=>whnf
  refine⟨id,id,?_⟩;conv=>whnf
  apply ifc h<;>intro b h
  ·obtain rfl:=sj h
   conv=>whnf
   try exact fin
  conv=>whnf
  exact⟨(kwr .i64 (c+1)),h,wk [0] []⟩
 conv=>whnf
 refine qbh.fn [1000000] (S:=Int) (fun g=>[(1,.ptr 0 0),(6,pI g)]) (fun g=>[.box 59 [pN f,pG d]]) (B:=qg3 n d) h (wk [0] []) ?_;intro _ g h;unfold qg3 at h;conv=>whnf
 apply ifc h<;>intro b h
 ·conv=>whnf
  refine bq h fun⟨_,_,_,_,_⟩ x h=>?_;refine⟨_,Codec.at_ qg1 x,?_⟩;conv=>whnf
  refine⟨id,id,?_⟩;conv=>whnf
  refine bq h fun _ w h=>?_;refine⟨_,fun a=>(qgi n _ _ (qac w a)),?_⟩;conv=>whnf
  iterate 7 refine⟨id,?_⟩
  conv=>whnf
  refine bq h fun _ v h=>?_;refine⟨_,fun a=>(qiy n _ _ (qac v a)),?_⟩;conv=>whnf
  iterate 14 refine⟨id,?_⟩
  conv=>whnf
  refine bq h fun _ u h=>?_;refine⟨_,fun a=>(qwl n _ _ _ (qac u a)),?_⟩;conv=>whnf
  refine⟨id,id,?_⟩;conv=>whnf
  apply ifc h<;>intro b h
  ·obtain rfl:=sj h
   conv=>whnf
   try exact fin
  conv=>whnf
  exact⟨(kwr .i64 (g+1)),h,wk [0] []⟩
 obtain rfl:=sj h;conv=>whnf
 try exact fin
abbrev zen (r:Bool):PV:=PV.bool r
def qly (n:Nat) (a:List qaa) (j:Int):LK (Int) (Bool):=fun c b=>
 bif(decide (b<((qaa.rows a).length:Int)))then(
 bnd (idx a b) fun⟨k,l,⟨m,o,p,q,d,e⟩,f,g⟩=>
 bnd (qfm n (qaa.mk k l (Val.mk m o p q d e) f g)) fun i=>
 bif(!i)then(
 some false)
 else(
 c (kwr .i64 (b+1))))
 else(
 some (decide (((qaa.rows a).length:Int)<=j)))
def qmz (n:Nat) (a:List qaa) (b:Int):Option (Bool):=
 qam (qly n a b) n (0:Int)
theorem qr1 (n:Nat):∀ (a:List qaa) (b:Int) (r:Bool),qmz n a b=some r->qai TP 69 [PV.sl (qaa.rows a),PV.int .i64 b] (zen r):=by
 intro a b r h;unfold qmz at h;refine zN Tryz.call69 Tryz.func69 [1000000] ?_;conv=>whnf
 refine qbh.fn [1000000] (S:=Int) (fun c=>[(0,pE a),(1,pI b),(5,pI c)]) (fun c=>[]) (B:=qly n a b) h (wk [] []) ?_;intro _ c h;unfold qly at h;conv=>whnf
 apply ifc h<;>intro f h
 ·conv=>whnf
  refine bq h fun⟨_,_,⟨_,_,_,_,_,_⟩,_,_⟩ e h=>?_;refine⟨_,Codec.at_ qck e,?_⟩;conv=>whnf
  refine bq h fun _ d h=>?_;refine⟨_,(qir n _ _ d),?_⟩;conv=>whnf
  apply ifc h<;>intro f h
  ·obtain rfl:=sj h
   conv=>whnf
   try exact fin
  conv=>whnf
  exact⟨(kwr .i64 (c+1)),h,wk [] []⟩
 obtain rfl:=sj h;conv=>whnf
 try exact fin
abbrev zgl (r:Bool):PV:=PV.bool r
def qnr (n:Nat) (c:List qat) (a:List qbn) (f g:List qaa):LK (Int) (Bool):=fun e b=>
 bif(decide (b<((qat.rows c).length:Int)))then(
 bnd (idx c b) fun⟨⟨i,j,⟨k,l,m,o,p,q⟩,s,t⟩,_⟩=>
 bnd (qfm n (qaa.mk i j (Val.mk k l m o p q) s t)) fun u=>
 bif(!u)then(
 some false)
 else(
 e (kwr .i64 (b+1))))
 else(
 bnd (qaw (decide (((qbn.rows a).length:Int)>0)) (qmz n f (1:Int))) fun d=>
 bnd (qaw (bif(decide (((qbn.rows a).length:Int)>0))then d else false) (qmz n g (1:Int))) fun v=>
 some (bif(bif(decide (((qbn.rows a).length:Int)>0))then d else false)then v else false))
def qnq (n:Nat) (a:List qbn) (e:List qat) (f g:List qaa):LK (Int) (Bool):=fun d b=>
 bif(decide (b<((qbn.rows a).length:Int)))then(
 bnd (idx a b) fun⟨⟨_,_,⟨_,_,_,_,_,_⟩,_,_⟩,i⟩=>
 bnd (qga n i) fun c=>
 bnd (qaw (!(!c)) (idx a b)) fun⟨⟨j,k,⟨l,m,o,p,q,s⟩,t,u⟩,_⟩=>
 bnd (qaw (!(!c)) (qfm n (qaa.mk j k (Val.mk l m o p q s) t u))) fun v=>
 bif(bif(!c)then true else(!v))then(
 some false)
 else(
 d (kwr .i64 (b+1))))
 else(
 qam (qnr n e a f g) n (0:Int))
def qwm (n:Nat) (a:qab):Option (Bool):=
 match a with
 | ⟨_,_,_,⟨_,_,⟨_,_,_,_,_,_⟩,_,_⟩,_,b,_,c,d,e,_,_,_⟩=>
 qam (qnq n b c d e) n (0:Int)
theorem zdv (n:Nat):∀ (b:qab) (r:Bool),qwm n b=some r->qai TP 71 [PV.agg (qcz.cells b)] (zgl r):=by
 intro b r h;obtain⟨k,t,x,⟨y,z,⟨A,C,D,E,l,m⟩,o,p⟩,q,c,s,d,e,f,u,v,w⟩:=b;unfold qwm at h;refine zN Tryz.call71 Tryz.func71 [1000000] ?_;conv=>whnf
 refine qbh.fn [1000000] (S:=Int) (fun g=>[(1,.ptr 0 0),(3,pI g)]) (fun g=>[.box 51 [pI k,pP t,pE x,pI y,pS z,pI A,pB C,pI D,pS E,pV l,pT m,pT o,pE p,pS q,pA c,pB s,pO d,pE e,pE f,pU u,pT v,pB w]]) (B:=qnq n c d e f) h (wk [0] []) ?_;intro _ g h;unfold qnq at h;conv=>whnf
 apply ifc h<;>intro j h
 ·conv=>whnf
  refine bq h fun⟨⟨_,_,⟨_,_,_,_,_,_⟩,_,_⟩,_⟩ I h=>?_;refine⟨_,Codec.at_ qst I,?_⟩;conv=>whnf
  refine bq h fun _ H h=>?_;refine⟨_,(qgi n _ _ H),?_⟩;conv=>whnf
  refine⟨id,id,id,?_⟩;conv=>whnf
  refine bq h fun⟨⟨_,_,⟨_,_,_,_,_,_⟩,_,_⟩,_⟩ G h=>?_;refine⟨_,fun a=>Codec.at_ qst (qac G a),?_⟩;conv=>whnf
  refine⟨id,id,id,?_⟩;conv=>whnf
  refine bq h fun _ F h=>?_;refine⟨_,fun a=>(qir n _ _ (qac F a)),?_⟩;conv=>whnf
  refine⟨id,id,?_⟩;conv=>whnf
  apply ifc h<;>intro j h
  ·obtain rfl:=sj h
   conv=>whnf
   try exact fin
  conv=>whnf
  exact⟨(kwr .i64 (g+1)),h,wk [0] []⟩
 conv=>whnf
 refine qbh.fn [1000000] (S:=Int) (fun i=>[(1,.ptr 0 0),(4,pI i)]) (fun i=>[.box 51 [pI k,pP t,pE x,pI y,pS z,pI A,pB C,pI D,pS E,pV l,pT m,pT o,pE p,pS q,pA c,pB s,pO d,pE e,pE f,pU u,pT v,pB w]]) (B:=qnr n d c e f) h (wk [0] []) ?_;intro _ i h;unfold qnr at h;conv=>whnf
 apply ifc h<;>intro j h
 ·conv=>whnf
  refine bq h fun⟨⟨_,_,⟨_,_,_,_,_,_⟩,_,_⟩,_⟩ K h=>?_;refine⟨_,Codec.at_ qqf K,?_⟩;conv=>whnf
  refine bq h fun _ J h=>?_;refine⟨_,(qir n _ _ J),?_⟩;conv=>whnf
  apply ifc h<;>intro j h
  ·obtain rfl:=sj h
   conv=>whnf
   try exact fin
  conv=>whnf
  exact⟨(kwr .i64 (i+1)),h,wk [0] []⟩
 conv=>whnf
 refine⟨id,id,?_⟩;conv=>whnf
 refine bq h fun _ M h=>?_;refine⟨_,fun a=>(qr1 n _ _ _ (qac M a)),?_⟩;conv=>whnf
 refine⟨id,id,id,?_⟩;conv=>whnf
 refine bq h fun _ L h=>?_;refine⟨_,fun a=>(qr1 n _ _ _ (qac L a)),?_⟩;conv=>whnf
 refine⟨id,?_⟩;obtain rfl:=sj h;conv=>whnf
 try exact fin
abbrev zgk (r:Bool):PV:=PV.bool r
def qtu (n:Nat) (c:qaa):Option (Bool):=
 match c with
 | ⟨a,b,⟨f,g,i,j,k,l⟩,m,d⟩=>
 bnd (qaw (bif(a==0)then(b==([]:SS))else false) (qkc n (Val.mk f g i j k l) (Val.mk (0:Int) false (0:Int) ([]:SS) ([]:List Val) ([]:List SS)))) fun e=>
 some (bif(bif(bif(bif(a==0)then(b==([]:SS))else false)then e else false)then(((qak m).length:Int)==0)else false)then(((qaa.rows d).length:Int)==0)else false)
theorem q3f (n:Nat):∀ (a:qaa) (r:Bool),qtu n a=some r->qai TP 113 [PV.agg (qck.cells a)] (zgk r):=by
 intro a r h;obtain⟨_,_,⟨_,_,_,_,_,_⟩,_,_⟩:=a;unfold qtu at h;refine zN Tryz.call113 Tryz.func113 [1000000] ?_;conv=>whnf
 iterate 6 refine⟨id,?_⟩
 conv=>whnf
 refine bq h fun _ b h=>?_;refine⟨_,fun c=>(qai.leArgs (qxc n _ _ _ (qac b c)) (by try exact fin)),?_⟩;conv=>whnf
 iterate 9 refine⟨id,?_⟩
 obtain rfl:=sj h;conv=>whnf
 try exact fin
end W
end
