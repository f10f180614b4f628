/- A part of the proof: contracts, printed by program. -/
import Derived.Test.YtgbnebnnphdenaaGreatC
import Derived.Test.YtgbnebnnphdenaaGreatD
import Derived.Test.YtgbnebnnphdenaaGreatE
set_option linter.unusedVariables false
set_option linter.unusedSimpArgs false
set_option linter.unnecessarySimpa false
set_option linter.deprecated false
set_option linter.unusedSectionVars false
set_option linter.constructorNameAsVariable false
open Go.IntKind renaming wrap->kwr,bits->kbt
section
set_option maxRecDepth 100000
set_option maxHeartbeats 4000000
open Go Go.Proofs Ax
namespace W
abbrev FR (_:List ql) (_:Int) (_:Bool) (r:qv×Int×Bool):FV:=.p ((PV.agg (fX.cells r.1)))
abbrev FG (a:List ql) (_:Int) (_:Bool) (r:qv×Int×Bool):List AObj:=[.box 137 [pK a,.p (.int .i64 r.2.1),.p (.bool r.2.2)]]
def xg (n:Nat):Int×Bool×Int×List xN×List qa×Int×SS×Int×Bool×Int×SS×List Val×List SS×List SS×List qa×SS×List xq×Bool×List zw×List qa×List qa×List qq×List SS×Bool->Option (qv×Int×Bool):=fun(v,w,x,y,z,A,a,b,c,d,e,f,g,i,j,k,l,m,o,p,q,s,t,u)=>
 some (qv.mk x y z (qa.mk A a (Val.mk b c d e f g) i j) k l m o p q s t u,v,w)
def mH (n:Nat) (d:List ql) (g:Bool):LK (Int×Bool×List SS) (qv×Int×Bool):=fun f (i,j,a)=>
 bnd (uJ n d i j) fun⟨b,k,c⟩=>
 chk (decide ((qi (a++[b])).length * 16<=140737488355328)) (
 bnd (qm n ([44]:SS) d k c) fun⟨l,e⟩=>
 bif(!l)then(
 some (qv.mk (8:Int) ([]:List xN) ([]:List qa) (qa.mk (0:Int) ([]:SS) (Val.mk (0:Int) false (0:Int) ([]:SS) ([]:List Val) ([]:List SS)) ([]:List SS) ([]:List qa)) ([]:SS) ([]:List xq) false ([]:List zw) ([]:List qa) ([]:List qa) ([]:List qq) (a++[b]) g,e,c))
 else(
 f (e,c,(a++[b]))))
def mI (n:Nat) (d:List ql) (g:Bool):LK (Int×Bool×List SS) (qv×Int×Bool):=fun f (i,j,a)=>
 bnd (uJ n d i j) fun⟨b,k,c⟩=>
 chk (decide ((qi (a++[b])).length * 16<=140737488355328)) (
 bnd (qm n ([44]:SS) d k c) fun⟨l,e⟩=>
 bif(!l)then(
 some (qv.mk (8:Int) ([]:List xN) ([]:List qa) (qa.mk (0:Int) ([]:SS) (Val.mk (0:Int) false (0:Int) ([]:SS) ([]:List Val) ([]:List SS)) ([]:List SS) ([]:List qa)) ([]:SS) ([]:List xq) false ([]:List zw) ([]:List qa) ([]:List qa) ([]:List qq) (a++[b]) g,e,c))
 else(
 f (e,c,(a++[b]))))
def tC (n:Nat) (a:List ql) (e2:Int) (b:Bool):Option (qv×Int×Bool):=
 bnd (qm n ([77,65,84,67,72]:SS) a e2 b) fun⟨e3,i⟩=>
 bif e3 then(
 bnd (pL n a i b) fun⟨e4,e5,e6⟩=>
 bnd (fL n ([87,72,69,82,69]:SS) a e5 e6) fun⟨e7,e8,e9⟩=>
 xg n (e8,e9,(1:Int),e4,e7,(0:Int),([]:SS),(0:Int),false,(0:Int),([]:SS),([]:List _),([]:List _),([]:List _),([]:List _),([]:SS),([]:List _),false,([]:List _),([]:List _),([]:List _),([]:List _),([]:List _),false))
 else(
 bnd (qm n ([85,78,87,73,78,68]:SS) a i b) fun⟨f0,j⟩=>
 bif f0 then(
 bnd (qM n a j b) fun⟨⟨f1,f2,⟨f3,f4,f5,f6,f7,f8⟩,f9,g0⟩,g1,g2⟩=>
 bnd (qU n ([65,83]:SS) a g1 g2) fun⟨g3,g4⟩=>
 bnd (uJ n a g3 g4) fun⟨g5,g6,g7⟩=>
 xg n (g6,g7,(2:Int),([]:List _),([]:List _),f1,f2,f3,f4,f5,f6,f7,f8,f9,g0,g5,([]:List _),false,([]:List _),([]:List _),([]:List _),([]:List _),([]:List _),false))
 else(
 bnd (qm n ([87,73,84,72]:SS) a j b) fun⟨g8,k⟩=>
 bif g8 then(
 bnd (sZ n (3:Int) ([]:List xN) ([]:List qa) (0:Int) ([]:SS) (0:Int) false (0:Int) ([]:SS) ([]:List Val) ([]:List SS) ([]:List SS) ([]:List qa) ([]:SS) false ([]:List qa) ([]:List qa) ([]:List qq) ([]:List SS) false a k b) fun⟨⟨g9,i0,_,⟨i1,i2,⟨i3,i4,i5,i6,i7,i8⟩,i9,j0⟩,j1,j2,j3,j4,j5,j6,j7,j8,j9⟩,k0,k1⟩=>
 bnd (fL n ([87,72,69,82,69]:SS) a k0 k1) fun⟨k2,k3,k4⟩=>
 xg n (k3,k4,g9,i0,k2,i1,i2,i3,i4,i5,i6,i7,i8,i9,j0,j1,j2,j3,j4,j5,j6,j7,j8,j9))
 else(
 bnd (qm n ([82,69,84,85,82,78]:SS) a k b) fun⟨k5,l⟩=>
 bif k5 then(
 bnd (sZ n (9:Int) ([]:List xN) ([]:List qa) (0:Int) ([]:SS) (0:Int) false (0:Int) ([]:SS) ([]:List Val) ([]:List SS) ([]:List SS) ([]:List qa) ([]:SS) false ([]:List qa) ([]:List qa) ([]:List qq) ([]:List SS) false a l b) fun⟨⟨k6,k7,k8,⟨k9,l0,⟨l1,l2,l3,l4,l5,l6⟩,l7,l8⟩,l9,m,o,p,q,s,t,u,v⟩,w,x⟩=>
 xg n (w,x,k6,k7,k8,k9,l0,l1,l2,l3,l4,l5,l6,l7,l8,l9,m,o,p,q,s,t,u,v))
 else(
 bnd (qm n ([67,82,69,65,84,69]:SS) a l b) fun⟨y,e⟩=>
 bif y then(
 bnd (pL n a e b) fun⟨z,A,B⟩=>
 xg n (A,B,(4:Int),z,([]:List _),(0:Int),([]:SS),(0:Int),false,(0:Int),([]:SS),([]:List _),([]:List _),([]:List _),([]:List _),([]:SS),([]:List _),false,([]:List _),([]:List _),([]:List _),([]:List _),([]:List _),false))
 else(
 bnd (qm n ([77,69,82,71,69]:SS) a e b) fun⟨C,f⟩=>
 bif C then(
 bnd (bg n a f b) fun⟨⟨D,E,F,G⟩,H,I⟩=>
 xg n (H,I,(5:Int),[xN.mk [qd.mk D E F G] ([]:List qf)],([]:List _),(0:Int),([]:SS),(0:Int),false,(0:Int),([]:SS),([]:List _),([]:List _),([]:List _),([]:List _),([]:SS),([]:List _),false,([]:List _),([]:List _),([]:List _),([]:List _),([]:List _),false))
 else(
 bnd (qm n ([83,69,84]:SS) a f b) fun⟨J,g⟩=>
 bif J then(
 bnd (ta n (6:Int) ([]:List xN) ([]:List qa) (0:Int) ([]:SS) (0:Int) false (0:Int) ([]:SS) ([]:List Val) ([]:List SS) ([]:List SS) ([]:List qa) ([]:SS) ([]:List xq) false ([]:List zw) ([]:List qa) ([]:List qa) ([]:List SS) false a g b) fun⟨⟨K,L,M,⟨N,O,⟨P,Q,R,S,T,U⟩,V,W⟩,X,Y,Z,a0,a1,a2,a3,a4,a5⟩,a6,a7⟩=>
 some (qv.mk K L M (qa.mk N O (Val.mk P Q R S T U) V W) X Y Z a0 a1 a2 a3 a4 a5,a6,a7))
 else(
 bnd (qm n ([82,69,77,79,86,69]:SS) a g b) fun⟨a8,c⟩=>
 bif a8 then(
 bnd (ta n (7:Int) ([]:List xN) ([]:List qa) (0:Int) ([]:SS) (0:Int) false (0:Int) ([]:SS) ([]:List Val) ([]:List SS) ([]:List SS) ([]:List qa) ([]:SS) ([]:List xq) false ([]:List zw) ([]:List qa) ([]:List qa) ([]:List SS) false a c b) fun⟨⟨a9,b0,b1,⟨b2,b3,⟨b4,b5,b6,b7,b8,b9⟩,c0,c1⟩,c2,c3,c4,c5,c6,c7,c8,c9,d0⟩,d1,d2⟩=>
 some (qv.mk a9 b0 b1 (qa.mk b2 b3 (Val.mk b4 b5 b6 b7 b8 b9) c0 c1) c2 c3 c4 c5 c6 c7 c8 c9 d0,d1,d2))
 else(
 bnd (xR n ([68,69,84,65,67,72]:SS) a c b) fun d=>
 bif(!d)then(
 bnd (xR n ([68,69,76,69,84,69]:SS) a c b) fun d3=>
 bif(bif d then true else d3)then(
 bnd (qm n ([68,69,84,65,67,72]:SS) a c b) fun⟨d4,d5⟩=>
 bnd (qU n ([68,69,76,69,84,69]:SS) a d5 b) fun⟨d6,d7⟩=>
 qA (mH n a d4) n (d6,d7,([]:List _)))
 else(
 xg n (c,true,(0:Int),([]:List _),([]:List _),(0:Int),([]:SS),(0:Int),false,(0:Int),([]:SS),([]:List _),([]:List _),([]:List _),([]:List _),([]:SS),([]:List _),false,([]:List _),([]:List _),([]:List _),([]:List _),([]:List _),false)))
 else(
 bif(bif d then true else false)then(
 bnd (qm n ([68,69,84,65,67,72]:SS) a c b) fun⟨d8,d9⟩=>
 bnd (qU n ([68,69,76,69,84,69]:SS) a d9 b) fun⟨e0,e1⟩=>
 qA (mI n a d8) n (e0,e1,([]:List _)))
 else(
 xg n (c,true,(0:Int),([]:List _),([]:List _),(0:Int),([]:SS),(0:Int),false,(0:Int),([]:SS),([]:List _),([]:List _),([]:List _),([]:List _),([]:SS),([]:List _),false,([]:List _),([]:List _),([]:List _),([]:List _),([]:List _),false)))))))))))
theorem Gj (n:Nat):∀ (a:List ql) (s:Int) (b:Bool) (r:qv×Int×Bool),tC n a s b=some r->zn TP 73 [.ptr 0 0] [.box 137 [pK a,pI s,pB b]] 1 (fun v lo=>v=FR a s b r/\lo=FG a s b r):=by
 intro a s b r h;unfold tC at h;refine zO Tryz.call73 Tryz.func73 [117,118,119,120,121,122,123,124,125,126,1000000] ?_;conv=>whnf
 refine mw.cut (S:=Int×Bool×Int×List xN×List qa×Int×SS×Int×Bool×Int×SS×List Val×List SS×List SS×List qa×SS×List xq×Bool×List zw×List qa×List qa×List qq×List SS×Bool) (fun(a6,a7,b0,c1,d1,d2,G,H,I,J,K,L,M,N,O,T,X,Y,Z,a0,a1,a2,a3,a4)=>[(2,.ptr 1 0),(3,.ptr 2 0)]) (fun(a6,a7,b0,c1,d1,d2,G,H,I,J,K,L,M,N,O,T,X,Y,Z,a0,a1,a2,a3,a4)=>[.box 137 [pK a,pI a6,pB a7],zq3,.box 63 [pI b0,pP c1,pE d1,pI d2,pS G,pI H,pB I,pI J,pS K,pV L,pT M,pT N,pE O,pS T,pA X,pB Y,pO Z,pE a0,pE a1,pU a2,pT a3,pB a4]]) (xg n) (r:=r) ?_ ?_
 ·intro st h
  obtain⟨a6,a7,b0,c1,d1,d2,G,H,I,J,K,L,M,N,O,T,X,Y,Z,a0,a1,a2,a3,a4⟩:=st;unfold xg at h;obtain rfl:=sj h;conv=>whnf
  refine⟨_,_,⟨rfl,rfl⟩,wk [0] []⟩
 conv=>whnf
 refine bq h fun⟨s3,s4⟩ i6 h=>?_;refine zU (qe n _ _ _ _ _ i6) [0] [] ?_;rintro _ _ ⟨rfl,rfl⟩;refine⟨pB s3,[.box 137 [pK a,pI s4,pB b],zq3,zq3],rfl,rfl,?_⟩;conv=>whnf
 apply ifc h<;>intro e h
 ·conv=>whnf
  refine bq h fun⟨a5,s5,s6⟩ j7 h=>?_;refine zU (ZB n _ _ _ _ j7) [0] [] ?_;rintro _ _ ⟨rfl,rfl⟩;refine⟨pP a5,[.box 137 [pK a,pI s5,pB s6],zq3,.box 63 [.p (.int .i64 (1:Int)),zq2,zq2,zq0,zq1,zq0,pB false,zq0,zq1,zq2,zq2,zq2,zq2,zq1,zq2,pB false,zq2,zq2,zq2,zq2,zq2,pB false]],rfl,rfl,?_⟩;conv=>whnf
  refine bq h fun⟨f2,f3,f4⟩ k7 h=>?_;refine zU (cW n _ _ _ _ _ k7) [0] [] ?_;rintro _ _ ⟨rfl,rfl⟩;refine⟨pE f2,[.box 137 [pK a,pI f3,pB f4],zq3,.box 63 [.p (.int .i64 (1:Int)),pP a5,zq2,zq0,zq1,zq0,pB false,zq0,zq1,zq2,zq2,zq2,zq2,zq1,zq2,pB false,zq2,zq2,zq2,zq2,zq2,pB false]],rfl,rfl,?_⟩;conv=>whnf
  exact⟨(f3,f4,(1:Int),a5,f2,(0:Int),([]:SS),(0:Int),false,(0:Int),([]:SS),([]:List _),([]:List _),([]:List _),([]:List _),([]:SS),([]:List _),false,([]:List _),([]:List _),([]:List _),([]:List _),([]:List _),false),h,wk [0,1,2] []⟩
 conv=>whnf
 refine bq h fun⟨s7,s8⟩ l0 h=>?_;refine zU (qe n _ _ _ _ _ l0) [0] [] ?_;rintro _ _ ⟨rfl,rfl⟩;refine⟨pB s7,[.box 137 [pK a,pI s8,pB b],zq3,zq3],rfl,rfl,?_⟩;conv=>whnf
 apply ifc h<;>intro e h
 ·conv=>whnf
  refine bq h fun⟨⟨t,u,⟨w,x,y,z,A,C⟩,D,E⟩,s9,t0⟩ l1 h=>?_;refine zU (cB n _ _ _ _ l1) [0] [] ?_;rintro _ _ ⟨rfl,rfl⟩;refine⟨.p (.agg [.int .i64 t,.str u,.int .i64 w,.bool x,.int .i64 y,.str z,.sl (Val.rows A),.sl (qi C),.sl (qi D),.sl (qa.rows E)]),[.box 137 [pK a,pI s9,pB t0],zq3,.box 63 [.p (.int .i64 (2:Int)),zq2,zq2,zq0,zq1,zq0,pB false,zq0,zq1,zq2,zq2,zq2,zq2,zq1,zq2,pB false,zq2,zq2,zq2,zq2,zq2,pB false]],rfl,rfl,?_⟩;conv=>whnf
  refine bq h fun⟨t1,t2⟩ l2 h=>?_;refine zU (qH n _ _ _ _ _ l2) [0] [] ?_;rintro _ _ ⟨rfl,rfl⟩;refine⟨.p (.tup []),[.box 137 [pK a,pI t1,pB t2],zq3,.box 63 [.p (.int .i64 (2:Int)),zq2,zq2,pI t,pS u,pI w,pB x,pI y,pS z,pV A,pT C,pT D,pE E,zq1,zq2,pB false,zq2,zq2,zq2,zq2,zq2,pB false]],rfl,rfl,?_⟩;conv=>whnf
  refine bq h fun⟨f5,f6,f7⟩ l3 h=>?_;refine zU (uf n _ _ _ _ l3) [0] [] ?_;rintro _ _ ⟨rfl,rfl⟩;refine⟨pS f5,[.box 137 [pK a,pI f6,pB f7],zq3,.box 63 [.p (.int .i64 (2:Int)),zq2,zq2,pI t,pS u,pI w,pB x,pI y,pS z,pV A,pT C,pT D,pE E,zq1,zq2,pB false,zq2,zq2,zq2,zq2,zq2,pB false]],rfl,rfl,?_⟩;conv=>whnf
  exact⟨(f6,f7,(2:Int),([]:List _),([]:List _),t,u,w,x,y,z,A,C,D,E,f5,([]:List _),false,([]:List _),([]:List _),([]:List _),([]:List _),([]:List _),false),h,wk [0,1,2] []⟩
 conv=>whnf
 refine bq h fun⟨t3,t4⟩ l4 h=>?_;refine zU (qe n _ _ _ _ _ l4) [0] [] ?_;rintro _ _ ⟨rfl,rfl⟩;refine⟨pB t3,[.box 137 [pK a,pI t4,pB b],zq3,zq3],rfl,rfl,?_⟩;conv=>whnf
 apply ifc h<;>intro e h
 ·conv=>whnf
  refine bq h fun⟨⟨a8,a9,f8,⟨b1,b2,⟨b3,b4,b5,b6,b7,b8⟩,b9,c0⟩,c2,c3,c4,c5,c6,c7,c8,c9,d0⟩,t5,t6⟩ l5 h=>?_;refine zU (Xk n _ _ _ _ _ _ _ _ _ _ _ _ _ _ _ _ _ _ _ _ _ _ _ _ l5) [0] [] ?_;rintro _ _ ⟨rfl,rfl⟩;refine⟨.p (.agg [.int .i64 a8,.sl (xN.rows a9),.sl (qa.rows f8),.int .i64 b1,.str b2,.int .i64 b3,.bool b4,.int .i64 b5,.str b6,.sl (Val.rows b7),.sl (qi b8),.sl (qi b9),.sl (qa.rows c0),.str c2,.sl (xq.rows c3),.bool c4,.sl (zw.rows c5),.sl (qa.rows c6),.sl (qa.rows c7),.sl (qq.rows c8),.sl (qi c9),.bool d0]),[.box 137 [pK a,pI t5,pB t6],zq3,.box 63 [.p (.int .i64 (3:Int)),zq2,zq2,zq0,zq1,zq0,pB false,zq0,zq1,zq2,zq2,zq2,zq2,zq1,zq2,pB false,zq2,zq2,zq2,zq2,zq2,pB false]],rfl,rfl,?_⟩;conv=>whnf
  refine bq h fun⟨f9,g0,g1⟩ i7 h=>?_;refine zU (cW n _ _ _ _ _ i7) [0] [] ?_;rintro _ _ ⟨rfl,rfl⟩;refine⟨pE f9,[.box 137 [pK a,pI g0,pB g1],zq3,.box 63 [pI a8,pP a9,pE f8,pI b1,pS b2,pI b3,pB b4,pI b5,pS b6,pV b7,pT b8,pT b9,pE c0,pS c2,pA c3,pB c4,pO c5,pE c6,pE c7,pU c8,pT c9,pB d0]],rfl,rfl,?_⟩;conv=>whnf
  exact⟨(g0,g1,a8,a9,f9,b1,b2,b3,b4,b5,b6,b7,b8,b9,c0,c2,c3,c4,c5,c6,c7,c8,c9,d0),h,wk [0,1,2] []⟩
 conv=>whnf
 refine bq h fun⟨t7,t8⟩ i8 h=>?_;refine zU (qe n _ _ _ _ _ i8) [0] [] ?_;rintro _ _ ⟨rfl,rfl⟩;refine⟨pB t7,[.box 137 [pK a,pI t8,pB b],zq3,zq3],rfl,rfl,?_⟩;conv=>whnf
 apply ifc h<;>intro e h
 ·conv=>whnf
  refine bq h fun⟨⟨g2,g3,g4,⟨g5,g6,⟨g7,g8,g9,i0,i1,i2⟩,i3,i4⟩,i5,d5,d6,d7,d8,d9,e0,e1,e2⟩,e3,e4⟩ i9 h=>?_;refine zU (Xk n _ _ _ _ _ _ _ _ _ _ _ _ _ _ _ _ _ _ _ _ _ _ _ _ i9) [0] [] ?_;rintro _ _ ⟨rfl,rfl⟩;refine⟨.p (.agg [.int .i64 g2,.sl (xN.rows g3),.sl (qa.rows g4),.int .i64 g5,.str g6,.int .i64 g7,.bool g8,.int .i64 g9,.str i0,.sl (Val.rows i1),.sl (qi i2),.sl (qi i3),.sl (qa.rows i4),.str i5,.sl (xq.rows d5),.bool d6,.sl (zw.rows d7),.sl (qa.rows d8),.sl (qa.rows d9),.sl (qq.rows e0),.sl (qi e1),.bool e2]),[.box 137 [pK a,pI e3,pB e4],zq3,.box 63 [.p (.int .i64 (9:Int)),zq2,zq2,zq0,zq1,zq0,pB false,zq0,zq1,zq2,zq2,zq2,zq2,zq1,zq2,pB false,zq2,zq2,zq2,zq2,zq2,pB false]],rfl,rfl,?_⟩;conv=>whnf
  exact⟨(e3,e4,g2,g3,g4,g5,g6,g7,g8,g9,i0,i1,i2,i3,i4,i5,d5,d6,d7,d8,d9,e0,e1,e2),h,wk [0,1,2] []⟩
 conv=>whnf
 refine bq h fun⟨l6,l7⟩ j0 h=>?_;refine zU (qe n _ _ _ _ _ j0) [0] [] ?_;rintro _ _ ⟨rfl,rfl⟩;refine⟨pB l6,[.box 137 [pK a,pI l7,pB b],zq3,zq3],rfl,rfl,?_⟩;conv=>whnf
 apply ifc h<;>intro e h
 ·conv=>whnf
  refine bq h fun⟨e5,e6,e7⟩ j1 h=>?_;refine zU (ZB n _ _ _ _ j1) [0] [] ?_;rintro _ _ ⟨rfl,rfl⟩;refine⟨pP e5,[.box 137 [pK a,pI e6,pB e7],zq3,.box 63 [.p (.int .i64 (4:Int)),zq2,zq2,zq0,zq1,zq0,pB false,zq0,zq1,zq2,zq2,zq2,zq2,zq1,zq2,pB false,zq2,zq2,zq2,zq2,zq2,pB false]],rfl,rfl,?_⟩;conv=>whnf
  exact⟨(e6,e7,(4:Int),e5,([]:List _),(0:Int),([]:SS),(0:Int),false,(0:Int),([]:SS),([]:List _),([]:List _),([]:List _),([]:List _),([]:SS),([]:List _),false,([]:List _),([]:List _),([]:List _),([]:List _),([]:List _),false),h,wk [0,1,2] []⟩
 conv=>whnf
 refine bq h fun⟨l8,l9⟩ j2 h=>?_;refine zU (qe n _ _ _ _ _ j2) [0] [] ?_;rintro _ _ ⟨rfl,rfl⟩;refine⟨pB l8,[.box 137 [pK a,pI l9,pB b],zq3,zq3],rfl,rfl,?_⟩;conv=>whnf
 apply ifc h<;>intro e h
 ·conv=>whnf
  refine bq h fun⟨⟨k,l,m,o⟩,e8,e9⟩ j3 h=>?_;refine zU (bR n _ _ _ _ j3) [0] [] ?_;rintro _ _ ⟨rfl,rfl⟩;refine⟨.p (.agg [.str k,.sl (qi l),.sl (qi m),.sl (qa.rows o)]),[.box 137 [pK a,pI e8,pB e9],zq3,.box 63 [.p (.int .i64 (5:Int)),zq2,zq2,zq0,zq1,zq0,pB false,zq0,zq1,zq2,zq2,zq2,zq2,zq1,zq2,pB false,zq2,zq2,zq2,zq2,zq2,pB false]],rfl,rfl,?_⟩;conv=>whnf
  refine⟨Codec.one fr [qd.mk k l m o],qd.rows [qd.mk k l m o],.inl rfl,?_⟩;conv=>whnf
  refine⟨by repeat (first|exact List.forall_mem_nil _|refine List.forall_mem_cons.2 ⟨⟨rfl,rfl⟩,?_⟩),xN.rows [xN.mk [qd.mk k l m o] ([]:List qf)],.inr (by try exact fin),?_⟩;conv=>whnf
  exact⟨(e8,e9,(5:Int),[xN.mk [qd.mk k l m o] ([]:List qf)],([]:List _),(0:Int),([]:SS),(0:Int),false,(0:Int),([]:SS),([]:List _),([]:List _),([]:List _),([]:List _),([]:SS),([]:List _),false,([]:List _),([]:List _),([]:List _),([]:List _),([]:List _),false),h,wk [0,1,2] []⟩
 conv=>whnf
 refine bq h fun⟨m0,m1⟩ j4 h=>?_;refine zU (qe n _ _ _ _ _ j4) [0] [] ?_;rintro _ _ ⟨rfl,rfl⟩;refine⟨pB m0,[.box 137 [pK a,pI m1,pB b],zq3,zq3],rfl,rfl,?_⟩;conv=>whnf
 apply ifc h<;>intro e h
 ·conv=>whnf
  refine bq h fun⟨⟨m2,m3,m4,⟨m5,m6,⟨m7,m8,m9,n0,n1,n2⟩,n3,n4⟩,n5,n6,n7,n8,n9,o0,o1,o2,o3⟩,o4,o5⟩ j5 h=>?_;refine zU (Xl n _ _ _ _ _ _ _ _ _ _ _ _ _ _ _ _ _ _ _ _ _ _ _ _ _ j5) [0] [] ?_;rintro _ _ ⟨rfl,rfl⟩;refine⟨.p (.agg [.int .i64 m2,.sl (xN.rows m3),.sl (qa.rows m4),.int .i64 m5,.str m6,.int .i64 m7,.bool m8,.int .i64 m9,.str n0,.sl (Val.rows n1),.sl (qi n2),.sl (qi n3),.sl (qa.rows n4),.str n5,.sl (xq.rows n6),.bool n7,.sl (zw.rows n8),.sl (qa.rows n9),.sl (qa.rows o0),.sl (qq.rows o1),.sl (qi o2),.bool o3]),[.box 137 [pK a,pI o4,pB o5],zq3,.box 63 [.p (.int .i64 (6:Int)),zq2,zq2,zq0,zq1,zq0,pB false,zq0,zq1,zq2,zq2,zq2,zq2,zq1,zq2,pB false,zq2,zq2,zq2,zq2,zq2,pB false]],rfl,rfl,?_⟩;obtain rfl:=sj h;conv=>whnf
  refine⟨_,_,⟨rfl,rfl⟩,wk [0] []⟩
 conv=>whnf
 refine bq h fun⟨o6,q⟩ j6 h=>?_;refine zU (qe n _ _ _ _ _ j6) [0] [] ?_;rintro _ _ ⟨rfl,rfl⟩;refine⟨pB o6,[.box 137 [pK a,pI q,pB b],zq3,zq3],rfl,rfl,?_⟩;conv=>whnf
 apply ifc h<;>intro e h
 ·conv=>whnf
  refine bq h fun⟨⟨o7,o8,o9,⟨p0,p1,⟨p2,p3,p4,p5,p6,p7⟩,p8,p9⟩,q0,q1,q2,q3,q4,q5,q6,q7,q8⟩,q9,r0⟩ j8 h=>?_;refine zU (Xl n _ _ _ _ _ _ _ _ _ _ _ _ _ _ _ _ _ _ _ _ _ _ _ _ _ j8) [0] [] ?_;rintro _ _ ⟨rfl,rfl⟩;refine⟨.p (.agg [.int .i64 o7,.sl (xN.rows o8),.sl (qa.rows o9),.int .i64 p0,.str p1,.int .i64 p2,.bool p3,.int .i64 p4,.str p5,.sl (Val.rows p6),.sl (qi p7),.sl (qi p8),.sl (qa.rows p9),.str q0,.sl (xq.rows q1),.bool q2,.sl (zw.rows q3),.sl (qa.rows q4),.sl (qa.rows q5),.sl (qq.rows q6),.sl (qi q7),.bool q8]),[.box 137 [pK a,pI q9,pB r0],zq3,.box 63 [.p (.int .i64 (7:Int)),zq2,zq2,zq0,zq1,zq0,pB false,zq0,zq1,zq2,zq2,zq2,zq2,zq1,zq2,pB false,zq2,zq2,zq2,zq2,zq2,pB false]],rfl,rfl,?_⟩;obtain rfl:=sj h;conv=>whnf
  refine⟨_,_,⟨rfl,rfl⟩,wk [0] []⟩
 conv=>whnf
 refine bq h fun r1 j9 h=>?_;refine zU (zV n _ _ _ _ _ j9) [0] [] ?_;rintro _ _ ⟨rfl,rfl⟩;refine⟨pB r1,[.box 137 [pK a,pI q,pB b],zq3,zq3],rfl,rfl,?_⟩;conv=>whnf
 refine⟨fun F=>?_,fun F=>?_⟩
 ·replace h:=mC h F
  conv=>whnf
  refine⟨id,?_⟩;conv=>whnf
  refine bq h fun r2 k0 h=>?_;refine zU (zV n _ _ _ _ _ k0) [0] [] ?_;rintro _ _ ⟨rfl,rfl⟩;refine⟨pB r2,[.box 137 [pK a,pI q,pB b],zq3,zq3],rfl,rfl,?_⟩;conv=>whnf
  refine⟨id,?_⟩;conv=>whnf
  apply ifc h<;>intro e h
  ·conv=>whnf
   refine bq h fun⟨i,r3⟩ k1 h=>?_;refine zU (qe n _ _ _ _ _ k1) [0] [] ?_;rintro _ _ ⟨rfl,rfl⟩;refine⟨pB i,[.box 137 [pK a,pI r3,pB b],zq3,qgm],rfl,rfl,?_⟩;conv=>whnf
   refine bq h fun⟨r4,r5⟩ k2 h=>?_;refine zU (qH n _ _ _ _ _ k2) [0] [] ?_;rintro _ _ ⟨rfl,rfl⟩;refine⟨.p (.tup []),[.box 137 [pK a,pI r4,pB r5],zq3,.box 63 [.p (.int .i64 (8:Int)),zq2,zq2,zq0,zq1,zq0,pB false,zq0,zq1,zq2,zq2,zq2,zq2,zq1,zq2,pB false,zq2,zq2,zq2,zq2,zq2,pB i]],rfl,rfl,?_⟩;conv=>whnf
   refine zj.fn [117,118,119,120,121,122,123,124,125,126,1000000] (S:=Int×Bool×List SS) (fun(P,Q,c)=>[(0,.ptr 0 0),(2,.ptr 1 0),(3,.ptr 2 0)]) (fun(P,Q,c)=>[.box 137 [pK a,pI P,pB Q],zq3,.box 63 [.p (.int .i64 (8:Int)),zq2,zq2,zq0,zq1,zq0,pB false,zq0,zq1,zq2,zq2,zq2,zq2,zq1,zq2,pB false,zq2,zq2,zq2,zq2,.tsl 3 (qi c),pB i],.tail 9 1 (qi c).length]) (B:=mH n a i) h (wk [0,1,2,0] [3]) ?_;intro _ st h;obtain⟨P,Q,c⟩:=st;unfold mH at h;conv=>whnf
   refine bq h fun⟨f,r6,R⟩ k3 h=>?_;refine zU (uf n _ _ _ _ k3) [0] [] ?_;rintro _ _ ⟨rfl,rfl⟩;refine⟨pS f,[.box 137 [pK a,pI r6,pB R],zq3,.box 63 [.p (.int .i64 (8:Int)),zq2,zq2,zq0,zq1,zq0,pB false,zq0,zq1,zq2,zq2,zq2,zq2,zq1,zq2,pB false,zq2,zq2,zq2,zq2,.tsl 3 (qi c),pB i],.tail 9 1 (qi c).length],rfl,rfl,?_⟩;conv=>whnf
   refine⟨Codec.one ca [f],qi [f],.inl rfl,?_⟩;conv=>whnf
   rw[show qi c++qi [f]=qi (c++[f])from Codec.append ca c [f]];conv=>whnf
   obtain⟨d3,h⟩:=qg h;refine⟨⟨Codec.wide ca (c++[f]),kod d3,zy d3 (by decide)⟩,?_⟩;conv=>whnf
   refine⟨⟨rfl,rfl,rfl⟩,?_⟩;conv=>whnf
   refine bq h fun⟨r7,f0⟩ k4 h=>?_;refine zU (qe n _ _ _ _ _ k4) [0] [] ?_;rintro _ _ ⟨rfl,rfl⟩;refine⟨pB r7,[.box 137 [pK a,pI f0,pB R],zq3,.box 63 [.p (.int .i64 (8:Int)),zq2,zq2,zq0,zq1,zq0,pB false,zq0,zq1,zq2,zq2,zq2,zq2,zq1,zq2,pB false,zq2,zq2,zq2,zq2,.tsl 4 (qi (c++[f])),pB i],.dead,.tail 9 1 (qi (c++[f])).length],rfl,rfl,?_⟩;conv=>whnf
   apply ifc h<;>intro e h
   ·obtain rfl:=sj h
    (conv=>whnf);refine⟨_,_,⟨rfl,rfl⟩,wk [0] []⟩
   conv=>whnf
   exact⟨(f0,R,(c++[f])),h,wk [0,1,2,4] []⟩
  conv=>whnf
  exact⟨(q,true,(0:Int),([]:List _),([]:List _),(0:Int),([]:SS),(0:Int),false,(0:Int),([]:SS),([]:List _),([]:List _),([]:List _),([]:List _),([]:SS),([]:List _),false,([]:List _),([]:List _),([]:List _),([]:List _),([]:List _),false),h,wk [0,1,2] []⟩
 replace h:=gf h F;refine⟨pB false,?_⟩;conv=>whnf
 refine⟨id,?_⟩;conv=>whnf
 apply ifc h<;>intro e h
 ·conv=>whnf
  refine bq h fun⟨j,r8⟩ k5 h=>?_;refine zU (qe n _ _ _ _ _ k5) [0] [] ?_;rintro _ _ ⟨rfl,rfl⟩;refine⟨pB j,[.box 137 [pK a,pI r8,pB b],zq3,qgm],rfl,rfl,?_⟩;conv=>whnf
  refine bq h fun⟨r9,s0⟩ k6 h=>?_;refine zU (qH n _ _ _ _ _ k6) [0] [] ?_;rintro _ _ ⟨rfl,rfl⟩;refine⟨.p (.tup []),[.box 137 [pK a,pI r9,pB s0],zq3,.box 63 [.p (.int .i64 (8:Int)),zq2,zq2,zq0,zq1,zq0,pB false,zq0,zq1,zq2,zq2,zq2,zq2,zq1,zq2,pB false,zq2,zq2,zq2,zq2,zq2,pB j]],rfl,rfl,?_⟩;conv=>whnf
  refine zj.fn [117,118,119,120,121,122,123,124,125,126,1000000] (S:=Int×Bool×List SS) (fun(U,V,d)=>[(0,.ptr 0 0),(2,.ptr 1 0),(3,.ptr 2 0)]) (fun(U,V,d)=>[.box 137 [pK a,pI U,pB V],zq3,.box 63 [.p (.int .i64 (8:Int)),zq2,zq2,zq0,zq1,zq0,pB false,zq0,zq1,zq2,zq2,zq2,zq2,zq1,zq2,pB false,zq2,zq2,zq2,zq2,.tsl 3 (qi d),pB j],.tail 9 1 (qi d).length]) (B:=mI n a j) h (wk [0,1,2,0] [3]) ?_;intro _ st h;obtain⟨U,V,d⟩:=st;unfold mI at h;conv=>whnf
  refine bq h fun⟨g,s1,W⟩ k8 h=>?_;refine zU (uf n _ _ _ _ k8) [0] [] ?_;rintro _ _ ⟨rfl,rfl⟩;refine⟨pS g,[.box 137 [pK a,pI s1,pB W],zq3,.box 63 [.p (.int .i64 (8:Int)),zq2,zq2,zq0,zq1,zq0,pB false,zq0,zq1,zq2,zq2,zq2,zq2,zq1,zq2,pB false,zq2,zq2,zq2,zq2,.tsl 3 (qi d),pB j],.tail 9 1 (qi d).length],rfl,rfl,?_⟩;conv=>whnf
  refine⟨Codec.one ca [g],qi [g],.inl rfl,?_⟩;conv=>whnf
  rw[show qi d++qi [g]=qi (d++[g])from Codec.append ca d [g]];conv=>whnf
  obtain⟨d4,h⟩:=qg h;refine⟨⟨Codec.wide ca (d++[g]),kod d4,zy d4 (by decide)⟩,?_⟩;conv=>whnf
  refine⟨⟨rfl,rfl,rfl⟩,?_⟩;conv=>whnf
  refine bq h fun⟨s2,f1⟩ k9 h=>?_;refine zU (qe n _ _ _ _ _ k9) [0] [] ?_;rintro _ _ ⟨rfl,rfl⟩;refine⟨pB s2,[.box 137 [pK a,pI f1,pB W],zq3,.box 63 [.p (.int .i64 (8:Int)),zq2,zq2,zq0,zq1,zq0,pB false,zq0,zq1,zq2,zq2,zq2,zq2,zq1,zq2,pB false,zq2,zq2,zq2,zq2,.tsl 4 (qi (d++[g])),pB j],.dead,.tail 9 1 (qi (d++[g])).length],rfl,rfl,?_⟩;conv=>whnf
  apply ifc h<;>intro e h
  ·obtain rfl:=sj h
   conv=>whnf
   refine⟨_,_,⟨rfl,rfl⟩,wk [0] []⟩
  conv=>whnf
  exact⟨(f1,W,(d++[g])),h,wk [0,1,2,4] []⟩
 conv=>whnf
 exact⟨(q,true,(0:Int),([]:List _),([]:List _),(0:Int),([]:SS),(0:Int),false,(0:Int),([]:SS),([]:List _),([]:List _),([]:List _),([]:List _),([]:SS),([]:List _),false,([]:List _),([]:List _),([]:List _),([]:List _),([]:List _),false),h,wk [0,1,2] []⟩
end W
end
section
set_option maxRecDepth 100000
set_option maxHeartbeats 4000000
open Go Go.Proofs Ax
namespace W
abbrev Pu (r:qv):PV:=PV.agg (fX.cells r)
def uH (n:Nat) (a:Int):List xN×List qa×Int×SS×Int×Bool×Int×SS×List Val×List SS×List SS×List qa×SS×List xq×Bool×List zw×List qa×List qa×List qq×List SS×Bool->Option (qv):=fun(b,c,d,e,f,g,i,j,k,l,m,o,p,q,s,t,u,v,w,x,y)=>
 some (qv.mk a b c (qa.mk d e (Val.mk f g i j k l) m o) p q s t u v w x y)
def sY (n:Nat) (a:Int) (b:List qq) (c:List SS) (d:Bool):Bool->Option (qv):=fun e=>
 bif e then(
 uH n a (([]:List _),([]:List _),(0:Int),([]:SS),(0:Int),false,(0:Int),([]:SS),([]:List _),([]:List _),([]:List _),([]:List _),([]:SS),([]:List _),false,([]:List _),([]:List _),([]:List _),b,([]:List _),false))
 else(
 bif(a==8)then(
 uH n a (([]:List _),([]:List _),(0:Int),([]:SS),(0:Int),false,(0:Int),([]:SS),([]:List _),([]:List _),([]:List _),([]:List _),([]:SS),([]:List _),false,([]:List _),([]:List _),([]:List _),([]:List _),c,d))
 else(
 uH n a (([]:List _),([]:List _),(0:Int),([]:SS),(0:Int),false,(0:Int),([]:SS),([]:List _),([]:List _),([]:List _),([]:List _),([]:SS),([]:List _),false,([]:List _),([]:List _),([]:List _),([]:List _),([]:List _),false)))
def sX (n:Nat) (a:Int) (e:List xN) (b:List qq) (c:List SS) (d:Bool):Bool->Option (qv):=fun f=>
 bif f then(
 uH n a (e,([]:List _),(0:Int),([]:SS),(0:Int),false,(0:Int),([]:SS),([]:List _),([]:List _),([]:List _),([]:List _),([]:SS),([]:List _),false,([]:List _),([]:List _),([]:List _),([]:List _),([]:List _),false))
 else(
 bif(a==6)then(
 sY n a b c d (a==6))
 else(
 sY n a b c d (a==7)))
def sW (n:Nat) (a:Int) (l:List qa) (b:List xq) (c:Bool) (d:List zw) (e f:List qa) (g:List xN) (i:List qq) (j:List SS) (k:Bool):Bool->Option (qv):=fun m=>
 bif m then(
 bif(a==3)then(
 uH n a (([]:List _),l,(0:Int),([]:SS),(0:Int),false,(0:Int),([]:SS),([]:List _),([]:List _),([]:List _),([]:List _),([]:SS),b,c,d,e,f,([]:List _),([]:List _),false))
 else(
 uH n a (([]:List _),([]:List _),(0:Int),([]:SS),(0:Int),false,(0:Int),([]:SS),([]:List _),([]:List _),([]:List _),([]:List _),([]:SS),b,c,d,e,f,([]:List _),([]:List _),false)))
 else(
 bif(a==4)then(
 sX n a g i j k (a==4))
 else(
 sX n a g i j k (a==5)))
def CP (n:Nat) (m:qv):Option (qv):=
 match m with
 | ⟨a,b,c,⟨u,v,⟨w,x,y,z,o,p⟩,q,s⟩,t,d,e,f,g,i,j,k,l⟩=>
 bif(a==1)then(
 uH n a (b,c,(0:Int),([]:SS),(0:Int),false,(0:Int),([]:SS),([]:List _),([]:List _),([]:List _),([]:List _),([]:SS),([]:List _),false,([]:List _),([]:List _),([]:List _),([]:List _),([]:List _),false))
 else(
 bif(a==2)then(
 uH n a (([]:List _),([]:List _),u,v,w,x,y,z,o,p,q,s,t,([]:List _),false,([]:List _),([]:List _),([]:List _),([]:List _),([]:List _),false))
 else(
 bif(a==3)then(
 sW n a c d e f g i b j k l (a==3))
 else(
 sW n a c d e f g i b j k l (a==9))))
theorem Ml (n:Nat):∀ (o r:qv),CP n o=some r->qc TP 161 [PV.agg (fX.cells o)] (Pu r):=by
 intro o r h;obtain⟨a,c,m,⟨v,w,⟨x,y,z,A,p,q⟩,s,t⟩,u,g,i,j,k,l,d,e,f⟩:=o;unfold CP at h;refine zN Tryz.call161 Tryz.func161 [1000000] ?_;conv=>whnf
 refine mw.cut (S:=List xN×List qa×Int×SS×Int×Bool×Int×SS×List Val×List SS×List SS×List qa×SS×List xq×Bool×List zw×List qa×List qa×List qq×List SS×Bool) (fun(B,C,D,E,F,G,H,I,J,K,L,M,N,O,P,Q,R,T,U,V,W)=>[(2,.ptr 0 0),(3,.ptr 1 0)]) (fun(B,C,D,E,F,G,H,I,J,K,L,M,N,O,P,Q,R,T,U,V,W)=>[zq3,.box 63 [pI a,pP B,pE C,pI D,pS E,pI F,pB G,pI H,pS I,pV J,pT K,pT L,pE M,pS N,pA O,pB P,pO Q,pE R,pE T,pU U,pT V,pB W]]) (uH n a) (r:=r) ?_ ?_
 ·intro st h
  obtain⟨B,C,D,E,F,G,H,I,J,K,L,M,N,O,P,Q,R,T,U,V,W⟩:=st;unfold uH at h;obtain rfl:=sj h;conv=>whnf
  try exact fin
 conv=>whnf
 apply ifc h<;>intro b h
 ·conv=>whnf
  exact⟨(c,m,(0:Int),([]:SS),(0:Int),false,(0:Int),([]:SS),([]:List _),([]:List _),([]:List _),([]:List _),([]:SS),([]:List _),false,([]:List _),([]:List _),([]:List _),([]:List _),([]:List _),false),h,wk [1,2] []⟩
 conv=>whnf
 apply ifc h<;>intro b h
 ·conv=>whnf
  exact⟨(([]:List _),([]:List _),v,w,x,y,z,A,p,q,s,t,u,([]:List _),false,([]:List _),([]:List _),([]:List _),([]:List _),([]:List _),false),h,wk [1,2] []⟩
 conv=>whnf
 refine mw.cut (S:=Bool) (fun X=>[(1,.ptr 0 0),(2,.ptr 1 0),(3,.ptr 2 0),(8,pI a),(25,pB X)]) (fun X=>[.box 63 [pI a,pP c,pE m,pI v,pS w,pI x,pB y,pI z,pS A,pV p,pT q,pT s,pE t,pS u,pA g,pB i,pO j,pE k,pE l,pU d,pT e,pB f],zq3,.box 63 [pI a,zq2,zq2,zq0,zq1,zq0,pB false,zq0,zq1,zq2,zq2,zq2,zq2,zq1,zq2,pB false,zq2,zq2,zq2,zq2,zq2,pB false]]) (sW n a m g i j k l c d e f) (r:=r) ?_ ?_
 ·intro X h
  unfold sW at h;conv=>whnf
  apply ifc h<;>intro b h
  ·conv=>whnf
   apply ifc h<;>intro b h
   ·conv=>whnf
    exact⟨(([]:List _),m,(0:Int),([]:SS),(0:Int),false,(0:Int),([]:SS),([]:List _),([]:List _),([]:List _),([]:List _),([]:SS),g,i,j,k,l,([]:List _),([]:List _),false),h,wk [1,2] []⟩
   conv=>whnf
   exact⟨(([]:List _),([]:List _),(0:Int),([]:SS),(0:Int),false,(0:Int),([]:SS),([]:List _),([]:List _),([]:List _),([]:List _),([]:SS),g,i,j,k,l,([]:List _),([]:List _),false),h,wk [1,2] []⟩
  conv=>whnf
  refine mw.cut (S:=Bool) (fun Y=>[(1,.ptr 0 0),(2,.ptr 1 0),(3,.ptr 2 0),(8,pI a),(49,pB Y)]) (fun Y=>[.box 63 [pI a,pP c,pE m,pI v,pS w,pI x,pB y,pI z,pS A,pV p,pT q,pT s,pE t,pS u,pA g,pB i,pO j,pE k,pE l,pU d,pT e,pB f],zq3,.box 63 [pI a,zq2,zq2,zq0,zq1,zq0,pB false,zq0,zq1,zq2,zq2,zq2,zq2,zq1,zq2,pB false,zq2,zq2,zq2,zq2,zq2,pB false]]) (sX n a c d e f) (r:=r) ?_ ?_
  ·intro Y h
   unfold sX at h;conv=>whnf
   apply ifc h<;>intro b h
   ·conv=>whnf
    exact⟨(c,([]:List _),(0:Int),([]:SS),(0:Int),false,(0:Int),([]:SS),([]:List _),([]:List _),([]:List _),([]:List _),([]:SS),([]:List _),false,([]:List _),([]:List _),([]:List _),([]:List _),([]:List _),false),h,wk [1,2] []⟩
   conv=>whnf
   refine mw.cut (S:=Bool) (fun Z=>[(1,.ptr 0 0),(2,.ptr 1 0),(3,.ptr 2 0),(8,pI a),(55,pB Z)]) (fun Z=>[.box 63 [pI a,pP c,pE m,pI v,pS w,pI x,pB y,pI z,pS A,pV p,pT q,pT s,pE t,pS u,pA g,pB i,pO j,pE k,pE l,pU d,pT e,pB f],zq3,.box 63 [pI a,zq2,zq2,zq0,zq1,zq0,pB false,zq0,zq1,zq2,zq2,zq2,zq2,zq1,zq2,pB false,zq2,zq2,zq2,zq2,zq2,pB false]]) (sY n a d e f) (r:=r) ?_ ?_
   ·intro Z h
    unfold sY at h;(conv=>whnf);apply ifc h<;>intro b h
    ·conv=>whnf
     exact⟨(([]:List _),([]:List _),(0:Int),([]:SS),(0:Int),false,(0:Int),([]:SS),([]:List _),([]:List _),([]:List _),([]:List _),([]:SS),([]:List _),false,([]:List _),([]:List _),([]:List _),d,([]:List _),false),h,wk [1,2] []⟩
    (conv=>whnf);apply ifc h<;>intro b h
    ·conv=>whnf
     exact⟨(([]:List _),([]:List _),(0:Int),([]:SS),(0:Int),false,(0:Int),([]:SS),([]:List _),([]:List _),([]:List _),([]:List _),([]:SS),([]:List _),false,([]:List _),([]:List _),([]:List _),([]:List _),e,f),h,wk [1,2] []⟩
    (conv=>whnf);exact⟨(([]:List _),([]:List _),(0:Int),([]:SS),(0:Int),false,(0:Int),([]:SS),([]:List _),([]:List _),([]:List _),([]:List _),([]:SS),([]:List _),false,([]:List _),([]:List _),([]:List _),([]:List _),([]:List _),false),h,wk [1,2] []⟩
   conv=>whnf
   apply ifc h<;>intro b h
   ·conv=>whnf
    exact⟨(a==6),h,wk [0,1,2] []⟩
   conv=>whnf
   exact⟨(a==7),h,wk [0,1,2] []⟩
  conv=>whnf
  apply ifc h<;>intro b h
  ·conv=>whnf
   exact⟨(a==4),h,wk [0,1,2] []⟩
  conv=>whnf
  exact⟨(a==5),h,wk [0,1,2] []⟩
 conv=>whnf
 apply ifc h<;>intro b h
 ·conv=>whnf
  exact⟨(a==3),h,wk [0,1,2] []⟩
 conv=>whnf
 exact⟨(a==9),h,wk [0,1,2] []⟩
abbrev ff (r:Bool):PV:=PV.bool r
abbrev qdi:Type:=qa->qa->Option (Bool)
def bM (n:Nat) (b p:List qa) (g205:qdi):LK (Int) (Bool):=fun c a=>
 bif(decide (a<((qa.rows b).length:Int)))then(
 bnd (idx b a) fun⟨w,x,⟨y,z,A,B,d,e⟩,f,g⟩=>
 bnd (idx p a) fun⟨i,j,⟨k,l,m,o,q,s⟩,t,u⟩=>
 bnd (g205 (qa.mk w x (Val.mk y z A B d e) f g) (qa.mk i j (Val.mk k l m o q s) t u)) fun v=>
 bif(!v)then(
 some false)
 else(
 c (kwr .i64 (a+1))))
 else(
 some true)
abbrev qe3:Type:=(List qa)->(List qa)->Option (Bool)
def pc (n:Nat) (g204:qe3) (g205:qdi) (a b:List qa):Option (Bool):=
 bif(((qa.rows a).length:Int) != ((qa.rows b).length:Int))then(
 some false)
 else(
 qA (bM n a b g205) n (0:Int))
abbrev fB (r:Bool):PV:=PV.bool r
def rI (n:Nat) (g204:qe3) (g205:qdi) (g i:qa):Option (Bool):=
 match g,i with
 | ⟨a,d,⟨v,w,x,y,z,A⟩,B,j⟩,⟨b,c,⟨k,l,m,o,p,q⟩,s,t⟩=>
 bnd (qE (bif(a==b)then(d==c)else false) (xp n (Val.mk v w x y z A) (Val.mk k l m o p q))) fun e=>
 bnd (qE (bif(bif(a==b)then(d==c)else false)then e else false) (xS n B s)) fun f=>
 bnd (qE (bif(bif(bif(a==b)then(d==c)else false)then e else false)then f else false) (g204 j t)) fun u=>
 some (bif(bif(bif(bif(a==b)then(d==c)else false)then e else false)then f else false)then u else false)
theorem VD (n:Nat) (g204:qe3) (g205:qdi) (g204_ok:∀ (a b:List qa) (r:Bool),g204 a b=some r->qc TP 204 [PV.sl (qa.rows a),PV.sl (qa.rows b)] (ff r)) (g205_ok:∀ (d e:qa) (r:Bool),g205 d e=some r->qc TP 205 [PV.agg (zx.cells d),PV.agg (zx.cells e)] (fB r)):∀ (a b:List qa) (r:Bool),pc n g204 g205 a b=some r->qc TP 204 [PV.sl (qa.rows a),PV.sl (qa.rows b)] (ff r):=by
 intro a b r h;unfold pc at h;refine zN Tryz.call204 Tryz.func204 [1000000] ?_;conv=>whnf
 apply ifc h<;>intro f h
 ·obtain rfl:=sj h
  conv=>whnf
  try exact fin
 conv=>whnf
 refine zj.fn [1000000] (S:=Int) (fun c=>[(0,pE a),(1,pE b),(5,pI c)]) (fun c=>[]) (B:=bM n a b g205) h (wk [] []) ?_;intro _ c h;unfold bM at h;conv=>whnf
 apply ifc h<;>intro f h
 ·conv=>whnf
  refine bq h fun⟨_,_,⟨_,_,_,_,_,_⟩,_,_⟩ j h=>⟨_,Codec.at_ zx j,?_⟩;conv=>whnf
  refine bq h fun⟨_,_,⟨_,_,_,_,_,_⟩,_,_⟩ i h=>⟨_,Codec.at_ zx i,?_⟩;conv=>whnf
  refine bq h fun _ g h=>⟨_,(g205_ok _ _ _ g),?_⟩;conv=>whnf
  apply ifc h<;>intro f h
  ·obtain rfl:=sj h
   conv=>whnf
   try exact fin
  conv=>whnf
  exact⟨(kwr .i64 (c+1)),h,wk [] []⟩
 obtain rfl:=sj h;conv=>whnf
 try exact fin
theorem Ug (n:Nat) (g204:qe3) (g205:qdi) (g204_ok:∀ (d e:List qa) (r:Bool),g204 d e=some r->qc TP 204 [PV.sl (qa.rows d),PV.sl (qa.rows e)] (ff r)) (g205_ok:∀ (a b:qa) (r:Bool),g205 a b=some r->qc TP 205 [PV.agg (zx.cells a),PV.agg (zx.cells b)] (fB r)):∀ (a b:qa) (r:Bool),rI n g204 g205 a b=some r->qc TP 205 [PV.agg (zx.cells a),PV.agg (zx.cells b)] (fB r):=by
 intro a b r h;obtain⟨d,e,⟨_,_,_,_,_,_⟩,_,_⟩:=a;obtain⟨_,_,⟨_,_,_,_,_,_⟩,_,_⟩:=b;unfold rI at h;refine zN Tryz.call205 Tryz.func205 [1000000] ?_;conv=>whnf
 iterate 9 refine⟨id,?_⟩
 conv=>whnf
 refine bq h fun _ i h=>⟨_,fun c=>(uA n _ _ _ (qb i c)),?_⟩;conv=>whnf
 refine⟨id,id,id,id,id,?_⟩;conv=>whnf
 refine bq h fun _ g h=>⟨_,fun c=>(uk n _ _ _ (qb g c)),?_⟩;conv=>whnf
 refine⟨id,id,id,id,id,?_⟩;conv=>whnf
 refine bq h fun _ f h=>⟨_,fun c=>(g204_ok _ _ _ (qb f c)),?_⟩;conv=>whnf
 refine⟨id,?_⟩;obtain rfl:=sj h;conv=>whnf
 try exact fin
mutual
def xz:Nat->(List qa)->(List qa)->Option (Bool)
 | 0=>fun _ _=>none
 | n+1=>pc n (xz n) (vp n)
def vp:Nat->qa->qa->Option (Bool)
 | 0=>fun _ _=>none
 | n+1=>rI n (xz n) (vp n)
end
theorem rP (n:Nat):(∀ (c d:List qa) (r:Bool),xz n c d=some r->qc TP 204 [PV.sl (qa.rows c),PV.sl (qa.rows d)] (ff r))/\(∀ (a b:qa) (r:Bool),vp n a b=some r->qc TP 205 [PV.agg (zx.cells a),PV.agg (zx.cells b)] (fB r)):=by
 induction n with
 | zero=>exact⟨(by intros; rename_i h; cases h),(by intros; rename_i h; cases h)⟩
 | succ n ih=>
  obtain⟨hg204,hg205⟩:=ih;exact⟨VD n (xz n) (vp n) hg204 hg205,Ug n (xz n) (vp n) hg204 hg205⟩
theorem gv (n:Nat):∀ (a b:List qa) (r:Bool),xz n a b=some r->qc TP 204 [PV.sl (qa.rows a),PV.sl (qa.rows b)] (ff r):=(rP n).1
theorem cV (n:Nat):∀ (a b:qa) (r:Bool),vp n a b=some r->qc TP 205 [PV.agg (zx.cells a),PV.agg (zx.cells b)] (fB r):=(rP n).2
abbrev FO (r:Bool):PV:=PV.bool r
def mG (n:Nat) (i s:List qf):LK (Int) (Bool):=fun k a=>
 bif(decide (a<((qf.rows i).length:Int)))then(
 bnd (idx i a) fun⟨b,c,d,l,m⟩=>
 bnd (idx s a) fun⟨e,f,g,o,p⟩=>
 bnd (qE (!(bif(bif(!(b==e))then true else(!(c==f)))then true else(d != g))) (xS n l o)) fun j=>
 bnd (qE (!(bif(bif(bif(!(b==e))then true else(!(c==f)))then true else(d != g))then true else(!j))) (xz n m p)) fun q=>
 bif(bif(bif(bif(bif(!(b==e))then true else(!(c==f)))then true else(d != g))then true else(!j))then true else(!q))then(
 some false)
 else(
 k (kwr .i64 (a+1))))
 else(
 some true)
def mF (n:Nat) (e o:List qd) (m p:List qf):LK (Int) (Bool):=fun g b=>
 bif(decide (b<((qd.rows e).length:Int)))then(
 bnd (idx e b) fun⟨c,q,s,t⟩=>
 bnd (idx o b) fun⟨a,i,j,k⟩=>
 bnd (qE (!(!(c==a))) (xS n q i)) fun d=>
 bnd (qE (!(bif(!(c==a))then true else(!d))) (xS n s j)) fun f=>
 bnd (qE (!(bif(bif(!(c==a))then true else(!d))then true else(!f))) (xz n t k)) fun l=>
 bif(bif(bif(bif(!(c==a))then true else(!d))then true else(!f))then true else(!l))then(
 some false)
 else(
 g (kwr .i64 (b+1))))
 else(
 qA (mG n m p) n (0:Int))
def tA (n:Nat) (e f:xN):Option (Bool):=
 match e,f with
 | ⟨a,b⟩,⟨c,d⟩=>
 bif(bif(((qd.rows a).length:Int) != ((qd.rows c).length:Int))then true else(((qf.rows b).length:Int) != ((qf.rows d).length:Int)))then(
 some false)
 else(
 qA (mF n a c b d) n (0:Int))
theorem Gi (n:Nat):∀ (b c:xN) (r:Bool),tA n b c=some r->qc TP 206 [PV.agg (Vt.cells b),PV.agg (Vt.cells c)] (FO r):=by
 intro b c r h;obtain⟨j,f⟩:=b;obtain⟨k,g⟩:=c;unfold tA at h;refine zN Tryz.call206 Tryz.func206 [1000000] ?_;conv=>whnf
 iterate 7 refine⟨id,?_⟩
 conv=>whnf
 apply ifc h<;>intro d h
 ·obtain rfl:=sj h
  conv=>whnf
  try exact fin
 conv=>whnf
 refine zj.fn [1000000] (S:=Int) (fun i=>[(2,.ptr 0 0),(3,.ptr 1 0),(5,pI i)]) (fun i=>[.box 84 [pN j,pG f],.box 84 [pN k,pG g]]) (B:=mF n j k f g) h (wk [0,1] []) ?_;intro _ i h;unfold mF at h;conv=>whnf
 apply ifc h<;>intro d h
 ·conv=>whnf
  refine bq h fun⟨_,_,_,_⟩ q h=>⟨_,Codec.at_ fr q,?_⟩;conv=>whnf
  refine bq h fun⟨_,_,_,_⟩ p h=>⟨_,Codec.at_ fr p,?_⟩;conv=>whnf
  refine⟨id,id,id,id,?_⟩;conv=>whnf
  refine bq h fun _ o h=>⟨_,fun a=>(uk n _ _ _ (qb o a)),?_⟩;conv=>whnf
  iterate 6 refine⟨id,?_⟩
  conv=>whnf
  refine bq h fun _ m h=>⟨_,fun a=>(uk n _ _ _ (qb m a)),?_⟩;conv=>whnf
  iterate 6 refine⟨id,?_⟩
  conv=>whnf
  refine bq h fun _ l h=>⟨_,fun a=>(gv n _ _ _ (qb l a)),?_⟩;conv=>whnf
  refine⟨id,id,?_⟩;conv=>whnf
  apply ifc h<;>intro d h
  ·obtain rfl:=sj h
   conv=>whnf
   try exact fin
  conv=>whnf
  exact⟨(kwr .i64 (i+1)),h,wk [0,1] []⟩
 conv=>whnf
 refine zj.fn [1000000] (S:=Int) (fun e=>[(2,.ptr 0 0),(3,.ptr 1 0),(8,pI e)]) (fun e=>[.box 84 [pN j,pG f],.box 84 [pN k,pG g]]) (B:=mG n f g) h (wk [0,1] []) ?_;intro _ e h;unfold mG at h;conv=>whnf
 apply ifc h<;>intro d h
 ·conv=>whnf
  refine bq h fun⟨_,_,_,_,_⟩ v h=>⟨_,Codec.at_ nB v,?_⟩;conv=>whnf
  refine bq h fun⟨_,_,_,_,_⟩ u h=>⟨_,Codec.at_ nB u,?_⟩;conv=>whnf
  iterate 14 refine⟨id,?_⟩
  conv=>whnf
  refine bq h fun _ t h=>⟨_,fun a=>(uk n _ _ _ (qb t a)),?_⟩;conv=>whnf
  iterate 6 refine⟨id,?_⟩
  conv=>whnf
  refine bq h fun _ s h=>⟨_,fun a=>(gv n _ _ _ (qb s a)),?_⟩;conv=>whnf
  refine⟨id,id,?_⟩;conv=>whnf
  apply ifc h<;>intro d h
  ·obtain rfl:=sj h
   conv=>whnf
   try exact fin
  conv=>whnf
  exact⟨(kwr .i64 (e+1)),h,wk [0,1] []⟩
 obtain rfl:=sj h;conv=>whnf
 try exact fin
end W
end
section
set_option maxRecDepth 100000
set_option maxHeartbeats 4000000
open Go Go.Proofs Ax
namespace W
abbrev Uq (r:Bool):PV:=PV.bool r
def dY (n:Nat) (i H:List qq):LK (Int) (Bool):=fun j a=>
 bif(decide (a<((qq.rows i).length:Int)))then(
 bnd (idx i a) fun⟨b,c,d,⟨k,l,⟨m,o,p,q,s,t⟩,u,v⟩⟩=>
 bnd (idx H a) fun⟨e,f,g,⟨w,x,⟨y,z,A,B,C,D⟩,E,F⟩⟩=>
 bnd (qE (!(bif(bif(!(b==e))then true else(!(c==f)))then true else(!(d==g)))) (vp n (qa.mk k l (Val.mk m o p q s t) u v) (qa.mk w x (Val.mk y z A B C D) E F))) fun G=>
 bif(bif(bif(bif(!(b==e))then true else(!(c==f)))then true else(!(d==g)))then true else(!G))then(
 some false)
 else(
 j (kwr .i64 (a+1))))
 else(
 some true)
def dX (n:Nat) (d e:List zw) (E F:List qq):LK (Int) (Bool):=fun f a=>
 bif(decide (a<((zw.rows d).length:Int)))then(
 bnd (idx d a) fun⟨⟨_,_,⟨_,_,_,_,_,_⟩,_,_⟩,b⟩=>
 bnd (idx e a) fun⟨⟨_,_,⟨_,_,_,_,_,_⟩,_,_⟩,c⟩=>
 bnd (qE (!(!(b==c))) (idx d a)) fun⟨⟨g,i,⟨j,k,l,m,o,p⟩,q,s⟩,_⟩=>
 bnd (qE (!(!(b==c))) (idx e a)) fun⟨⟨t,u,⟨v,w,x,y,z,A⟩,B,C⟩,_⟩=>
 bnd (qE (!(!(b==c))) (vp n (qa.mk g i (Val.mk j k l m o p) q s) (qa.mk t u (Val.mk v w x y z A) B C))) fun D=>
 bif(bif(!(b==c))then true else(!D))then(
 some false)
 else(
 f (kwr .i64 (a+1))))
 else(
 qA (dY n E F) n (0:Int))
def dW (n:Nat) (d e:List xq) (i k:List zw) (j l:List qq):LK (Int) (Bool):=fun f a=>
 bif(decide (a<((xq.rows d).length:Int)))then(
 bnd (idx d a) fun⟨⟨_,_,⟨_,_,_,_,_,_⟩,_,_⟩,b⟩=>
 bnd (idx e a) fun⟨⟨_,_,⟨_,_,_,_,_,_⟩,_,_⟩,c⟩=>
 bnd (qE (!(!(b==c))) (idx d a)) fun⟨⟨m,o,⟨p,q,s,t,u,v⟩,w,x⟩,_⟩=>
 bnd (qE (!(!(b==c))) (idx e a)) fun⟨⟨y,z,⟨A,B,C,D,E,F⟩,G,H⟩,_⟩=>
 bnd (qE (!(!(b==c))) (vp n (qa.mk m o (Val.mk p q s t u v) w x) (qa.mk y z (Val.mk A B C D E F) G H))) fun g=>
 bif(bif(!(b==c))then true else(!g))then(
 some false)
 else(
 f (kwr .i64 (a+1))))
 else(
 qA (dX n i k j l) n (0:Int))
def dV (n:Nat) (b g:List xN) (d i:List xq) (e j:List zw) (f k:List qq):LK (Int) (Bool):=fun c a=>
 bif(decide (a<((xN.rows b).length:Int)))then(
 bnd (idx b a) fun⟨l,m⟩=>
 bnd (idx g a) fun⟨o,p⟩=>
 bnd (tA n (xN.mk l m) (xN.mk o p)) fun q=>
 bif(!q)then(
 some false)
 else(
 c (kwr .i64 (a+1))))
 else(
 qA (dW n d i e j f k) n (0:Int))
def ph (n:Nat) (v w:qv):Option (Bool):=
 match v,w with
 | ⟨c,a,K,⟨R,X,⟨Y,Z,a0,a1,x,y⟩,z,A⟩,k,e,l,f,B,C,q,D,E⟩,⟨d,b,F,⟨G,H,⟨I,J,L,M,N,O⟩,P,Q⟩,m,g,o,i,S,T,s,U,V⟩=>
 bnd (qE (!(bif(c != d)then true else(((xN.rows a).length:Int) != ((xN.rows b).length:Int)))) (xz n K F)) fun j=>
 bnd (qE (!(bif(bif(c != d)then true else(((xN.rows a).length:Int) != ((xN.rows b).length:Int)))then true else(!j))) (vp n (qa.mk R X (Val.mk Y Z a0 a1 x y) z A) (qa.mk G H (Val.mk I J L M N O) P Q))) fun p=>
 bnd (qE (!(bif(bif(bif(bif(bif(bif(bif(c != d)then true else(((xN.rows a).length:Int) != ((xN.rows b).length:Int)))then true else(!j))then true else(!p))then true else(!(k==m)))then true else(((xq.rows e).length:Int) != ((xq.rows g).length:Int)))then true else(!(l==o)))then true else(((zw.rows f).length:Int) != ((zw.rows i).length:Int)))) (xz n B S)) fun t=>
 bnd (qE (!(bif(bif(bif(bif(bif(bif(bif(bif(c != d)then true else(((xN.rows a).length:Int) != ((xN.rows b).length:Int)))then true else(!j))then true else(!p))then true else(!(k==m)))then true else(((xq.rows e).length:Int) != ((xq.rows g).length:Int)))then true else(!(l==o)))then true else(((zw.rows f).length:Int) != ((zw.rows i).length:Int)))then true else(!t))) (xz n C T)) fun u=>
 bnd (qE (!(bif(bif(bif(bif(bif(bif(bif(bif(bif(bif(c != d)then true else(((xN.rows a).length:Int) != ((xN.rows b).length:Int)))then true else(!j))then true else(!p))then true else(!(k==m)))then true else(((xq.rows e).length:Int) != ((xq.rows g).length:Int)))then true else(!(l==o)))then true else(((zw.rows f).length:Int) != ((zw.rows i).length:Int)))then true else(!t))then true else(!u))then true else(((qq.rows q).length:Int) != ((qq.rows s).length:Int)))) (xS n D U)) fun W=>
 bif(bif(bif(bif(bif(bif(bif(bif(bif(bif(bif(bif(bif(c != d)then true else(((xN.rows a).length:Int) != ((xN.rows b).length:Int)))then true else(!j))then true else(!p))then true else(!(k==m)))then true else(((xq.rows e).length:Int) != ((xq.rows g).length:Int)))then true else(!(l==o)))then true else(((zw.rows f).length:Int) != ((zw.rows i).length:Int)))then true else(!t))then true else(!u))then true else(((qq.rows q).length:Int) != ((qq.rows s).length:Int)))then true else(!W))then true else(!(E==V)))then(
 some false)
 else(
 qA (dV n a b e g f i q s) n (0:Int))
theorem VI (n:Nat):∀ (l m:qv) (r:Bool),ph n l m=some r->qc TP 160 [PV.agg (fX.cells l),PV.agg (fX.cells m)] (Uq r):=by
 intro l m r h;obtain⟨o,j,J,⟨T,Y,⟨a1,a2,a3,a4,p,s⟩,t,u⟩,v,g,x,e,y,z,c,A,C⟩:=l;obtain⟨D,k,E,⟨F,G,⟨H,I,K,L,M,N⟩,O,P⟩,Q,i,R,f,U,V,d,W,X⟩:=m;unfold ph at h;refine zN Tryz.call160 Tryz.func160 [1000000] ?_;conv=>whnf
 iterate 11 refine⟨id,?_⟩
 conv=>whnf
 refine bq h fun _ b8 h=>⟨_,fun a=>(gv n _ _ _ (qb b8 a)),?_⟩;conv=>whnf
 iterate 6 refine⟨id,?_⟩
 conv=>whnf
 refine bq h fun _ b7 h=>⟨_,fun a=>(cV n _ _ _ (qb b7 a)),?_⟩;conv=>whnf
 iterate 30 refine⟨id,?_⟩
 conv=>whnf
 refine bq h fun _ b5 h=>⟨_,fun a=>(gv n _ _ _ (qb b5 a)),?_⟩;conv=>whnf
 iterate 6 refine⟨id,?_⟩
 conv=>whnf
 refine bq h fun _ b4 h=>⟨_,fun a=>(gv n _ _ _ (qb b4 a)),?_⟩;conv=>whnf
 iterate 13 refine⟨id,?_⟩
 conv=>whnf
 refine bq h fun _ b3 h=>⟨_,fun a=>(uk n _ _ _ (qb b3 a)),?_⟩;conv=>whnf
 iterate 7 refine⟨id,?_⟩
 conv=>whnf
 apply ifc h<;>intro b h
 ·obtain rfl:=sj h
  conv=>whnf
  try exact fin
 conv=>whnf
 refine zj.fn [1000000] (S:=Int) (fun Z=>[(2,.ptr 0 0),(3,.ptr 1 0),(5,pI Z)]) (fun Z=>[.box 63 [pI o,pP j,pE J,pI T,pS Y,pI a1,pB a2,pI a3,pS a4,pV p,pT s,pT t,pE u,pS v,pA g,pB x,pO e,pE y,pE z,pU c,pT A,pB C],.box 63 [pI D,pP k,pE E,pI F,pS G,pI H,pB I,pI K,pS L,pV M,pT N,pT O,pE P,pS Q,pA i,pB R,pO f,pE U,pE V,pU d,pT W,pB X]]) (B:=dV n j k g i e f c d) h (wk [0,1] []) ?_;intro _ Z h;unfold dV at h;conv=>whnf
 apply ifc h<;>intro b h
 ·conv=>whnf
  refine bq h fun⟨_,_⟩ b9 h=>⟨_,Codec.at_ Vt b9,?_⟩;conv=>whnf
  refine bq h fun⟨_,_⟩ b6 h=>⟨_,Codec.at_ Vt b6,?_⟩;conv=>whnf
  refine bq h fun _ a5 h=>⟨_,(Gi n _ _ _ a5),?_⟩;conv=>whnf
  apply ifc h<;>intro b h
  ·obtain rfl:=sj h
   conv=>whnf
   try exact fin
  conv=>whnf
  exact⟨(kwr .i64 (Z+1)),h,wk [0,1] []⟩
 conv=>whnf
 refine zj.fn [1000000] (S:=Int) (fun a0=>[(2,.ptr 0 0),(3,.ptr 1 0),(6,pI a0)]) (fun a0=>[.box 63 [pI o,pP j,pE J,pI T,pS Y,pI a1,pB a2,pI a3,pS a4,pV p,pT s,pT t,pE u,pS v,pA g,pB x,pO e,pE y,pE z,pU c,pT A,pB C],.box 63 [pI D,pP k,pE E,pI F,pS G,pI H,pB I,pI K,pS L,pV M,pT N,pT O,pE P,pS Q,pA i,pB R,pO f,pE U,pE V,pU d,pT W,pB X]]) (B:=dW n g i e f c d) h (wk [0,1] []) ?_;intro _ a0 h;unfold dW at h;conv=>whnf
 apply ifc h<;>intro b h
 ·conv=>whnf
  refine bq h fun⟨⟨_,_,⟨_,_,_,_,_,_⟩,_,_⟩,_⟩ c4 h=>⟨_,Codec.at_ BC c4,?_⟩;conv=>whnf
  refine bq h fun⟨⟨_,_,⟨_,_,_,_,_,_⟩,_,_⟩,_⟩ c3 h=>⟨_,Codec.at_ BC c3,?_⟩;conv=>whnf
  refine⟨id,id,id,?_⟩;conv=>whnf
  refine bq h fun⟨⟨_,_,⟨_,_,_,_,_,_⟩,_,_⟩,_⟩ c2 h=>⟨_,fun a=>Codec.at_ BC (qb c2 a),?_⟩;conv=>whnf
  refine⟨id,id,id,id,id,?_⟩;conv=>whnf
  refine bq h fun⟨⟨_,_,⟨_,_,_,_,_,_⟩,_,_⟩,_⟩ c1 h=>⟨_,fun a=>Codec.at_ BC (qb c1 a),?_⟩;conv=>whnf
  refine⟨id,id,id,id,?_⟩;conv=>whnf
  refine bq h fun _ c0 h=>⟨_,fun a=>(cV n _ _ _ (qb c0 a)),?_⟩;conv=>whnf
  refine⟨id,id,?_⟩;conv=>whnf
  apply ifc h<;>intro b h
  ·obtain rfl:=sj h
   conv=>whnf
   try exact fin
  conv=>whnf
  exact⟨(kwr .i64 (a0+1)),h,wk [0,1] []⟩
 conv=>whnf
 refine zj.fn [1000000] (S:=Int) (fun q=>[(2,.ptr 0 0),(3,.ptr 1 0),(7,pI q)]) (fun q=>[.box 63 [pI o,pP j,pE J,pI T,pS Y,pI a1,pB a2,pI a3,pS a4,pV p,pT s,pT t,pE u,pS v,pA g,pB x,pO e,pE y,pE z,pU c,pT A,pB C],.box 63 [pI D,pP k,pE E,pI F,pS G,pI H,pB I,pI K,pS L,pV M,pT N,pT O,pE P,pS Q,pA i,pB R,pO f,pE U,pE V,pU d,pT W,pB X]]) (B:=dX n e f c d) h (wk [0,1] []) ?_;intro _ q h;unfold dX at h;conv=>whnf
 apply ifc h<;>intro b h
 ·conv=>whnf
  refine bq h fun⟨⟨_,_,⟨_,_,_,_,_,_⟩,_,_⟩,_⟩ a9 h=>⟨_,Codec.at_ US a9,?_⟩;conv=>whnf
  refine bq h fun⟨⟨_,_,⟨_,_,_,_,_,_⟩,_,_⟩,_⟩ a8 h=>⟨_,Codec.at_ US a8,?_⟩;conv=>whnf
  refine⟨id,id,id,?_⟩;conv=>whnf
  refine bq h fun⟨⟨_,_,⟨_,_,_,_,_,_⟩,_,_⟩,_⟩ a7 h=>⟨_,fun a=>Codec.at_ US (qb a7 a),?_⟩;conv=>whnf
  refine⟨id,id,id,id,id,?_⟩;conv=>whnf
  refine bq h fun⟨⟨_,_,⟨_,_,_,_,_,_⟩,_,_⟩,_⟩ a6 h=>⟨_,fun a=>Codec.at_ US (qb a6 a),?_⟩;conv=>whnf
  refine⟨id,id,id,id,?_⟩;conv=>whnf
  refine bq h fun _ c5 h=>⟨_,fun a=>(cV n _ _ _ (qb c5 a)),?_⟩;conv=>whnf
  refine⟨id,id,?_⟩;conv=>whnf
  apply ifc h<;>intro b h
  ·obtain rfl:=sj h
   conv=>whnf
   try exact fin
  conv=>whnf
  exact⟨(kwr .i64 (q+1)),h,wk [0,1] []⟩
 conv=>whnf
 refine zj.fn [1000000] (S:=Int) (fun w=>[(2,.ptr 0 0),(3,.ptr 1 0),(8,pI w)]) (fun w=>[.box 63 [pI o,pP j,pE J,pI T,pS Y,pI a1,pB a2,pI a3,pS a4,pV p,pT s,pT t,pE u,pS v,pA g,pB x,pO e,pE y,pE z,pU c,pT A,pB C],.box 63 [pI D,pP k,pE E,pI F,pS G,pI H,pB I,pI K,pS L,pV M,pT N,pT O,pE P,pS Q,pA i,pB R,pO f,pE U,pE V,pU d,pT W,pB X]]) (B:=dY n c d) h (wk [0,1] []) ?_;intro _ w h;unfold dY at h;conv=>whnf
 apply ifc h<;>intro b h
 ·conv=>whnf
  refine bq h fun⟨_,_,_,⟨_,_,⟨_,_,_,_,_,_⟩,_,_⟩⟩ b2 h=>⟨_,Codec.at_ tr b2,?_⟩;conv=>whnf
  refine bq h fun⟨_,_,_,⟨_,_,⟨_,_,_,_,_,_⟩,_,_⟩⟩ b1 h=>⟨_,Codec.at_ tr b1,?_⟩;conv=>whnf
  iterate 14 refine⟨id,?_⟩
  conv=>whnf
  refine bq h fun _ b0 h=>⟨_,fun a=>(cV n _ _ _ (qb b0 a)),?_⟩;conv=>whnf
  refine⟨id,id,?_⟩;conv=>whnf
  apply ifc h<;>intro b h
  ·obtain rfl:=sj h
   conv=>whnf
   try exact fin
  conv=>whnf
  exact⟨(kwr .i64 (w+1)),h,wk [0,1] []⟩
 obtain rfl:=sj h;conv=>whnf
 try exact fin
abbrev Bd (r:Bool):PV:=PV.bool r
def xI (n:Nat) (a:qa):Option (Bool):=
 match a with
 | ⟨b,e,⟨f,g,i,j,k,l⟩,m,c⟩=>
 bnd (gk n (qa.mk b e (Val.mk f g i j k l) m c) (32:Int)) fun d=>
 some d
theorem vG (n:Nat):∀ (a:qa) (r:Bool),xI n a=some r->qc TP 16 [PV.agg (zx.cells a)] (Bd r):=by
 intro a r h;obtain⟨_,_,⟨_,_,_,_,_,_⟩,_,_⟩:=a;unfold xI at h;refine zN Tryz.call16 Tryz.func16 [1000000] ?_;conv=>whnf
 refine bq h fun _ b h=>⟨_,(bL n _ _ _ b),?_⟩;obtain rfl:=sj h;conv=>whnf
 try exact fin
abbrev FN (r:Bool):PV:=PV.bool r
def mE (n:Nat) (c:List SS) (m:List qa):LK (Int) (Bool):=fun d a=>
 bif(decide (a<((qi c).length:Int)))then(
 bnd (idx c a) fun o=>
 bnd (gu n o) fun b=>
 bnd (qE (!(!b)) (idx m a)) fun⟨p,q,⟨s,t,e,f,g,i⟩,j,k⟩=>
 bnd (qE (!(!b)) (xI n (qa.mk p q (Val.mk s t e f g i) j k))) fun l=>
 bif(bif(!b)then true else(!l))then(
 some false)
 else(
 d (kwr .i64 (a+1))))
 else(
 some true)
def nd (n:Nat) (a:List SS) (b:List qa):Option (Bool):=
 bif(((qi a).length:Int) != ((qa.rows b).length:Int))then(
 some false)
 else(
 qA (mE n a b) n (0:Int))
theorem Qe (n:Nat):∀ (a:List SS) (b:List qa) (r:Bool),nd n a b=some r->qc TP 207 [PV.sl (qi a),PV.sl (qa.rows b)] (FN r):=by
 intro a b r h;unfold nd at h;refine zN Tryz.call207 Tryz.func207 [1000000] ?_;conv=>whnf
 apply ifc h<;>intro e h
 ·obtain rfl:=sj h
  conv=>whnf
  try exact fin
 conv=>whnf
 refine zj.fn [1000000] (S:=Int) (fun c=>[(0,pT a),(1,pE b),(5,pI c)]) (fun c=>[]) (B:=mE n a b) h (wk [] []) ?_;intro _ c h;unfold mE at h;conv=>whnf
 apply ifc h<;>intro e h
 ·conv=>whnf
  refine bq h fun _ j h=>⟨_,Codec.at_ ca j,?_⟩;conv=>whnf
  refine bq h fun _ i h=>⟨_,(ue n _ _ i),?_⟩;conv=>whnf
  refine⟨id,id,?_⟩;conv=>whnf
  refine bq h fun⟨_,_,⟨_,_,_,_,_,_⟩,_,_⟩ g h=>⟨_,fun d=>Codec.at_ zx (qb g d),?_⟩;conv=>whnf
  refine⟨id,id,?_⟩;conv=>whnf
  refine bq h fun _ f h=>⟨_,fun d=>(vG n _ _ (qb f d)),?_⟩;conv=>whnf
  refine⟨id,id,?_⟩;conv=>whnf
  apply ifc h<;>intro e h
  ·obtain rfl:=sj h
   conv=>whnf
   try exact fin
  conv=>whnf
  exact⟨(kwr .i64 (c+1)),h,wk [] []⟩
 obtain rfl:=sj h;conv=>whnf
 try exact fin
abbrev Be (r:Bool):PV:=PV.bool r
def pf (n:Nat) (d:List SS) (a:SS) (k:List SS) (l:List qa) (e:Int->Option (Bool)) (j:Int):LK (Int) (Bool):=fun f b=>
 bif(decide (b<((qi d).length:Int)))then(
 bnd (idx d b) fun m=>
 bnd (gu n m) fun g=>
 bif(!g)then(
 some false)
 else(
 f (kwr .i64 (b+1))))
 else(
 bnd (qE (!(a==([]:SS))) (vR n a)) fun c=>
 bnd (qE (!(bif(!(a==([]:SS)))then(!c)else false)) (nd n k l)) fun i=>
 bif(bif(bif(!(a==([]:SS)))then(!c)else false)then true else(!i))then(
 some false)
 else(
 e (kwr .i64 (j+1))))
def pg (n:Nat) (f:List qf):LK (Int) (Bool):=fun i d=>
 bif(decide (d<((qf.rows f).length:Int)))then(
 bnd (idx f d) fun⟨a,b,c,j,k⟩=>
 bnd (qE (!(a==([]:SS))) (vR n a)) fun e=>
 bnd (qE ((!(bif(!(a==([]:SS)))then(!e)else false))&&(!(b==([]:SS)))) (gu n b)) fun g=>
 bnd (qE (!(bif(bif(bif(bif(!(a==([]:SS)))then(!e)else false)then true else(bif(!(b==([]:SS)))then(!g)else false))then true else(decide (c<0)))then true else(decide (c>2)))) (nd n j k)) fun l=>
 bif(bif(bif(bif(bif(bif(!(a==([]:SS)))then(!e)else false)then true else(bif(!(b==([]:SS)))then(!g)else false))then true else(decide (c<0)))then true else(decide (c>2)))then true else(!l))then(
 some false)
 else(
 i (kwr .i64 (d+1))))
 else(
 some true)
def pe (n:Nat) (b:List qd) (d:List qf):LK (Int) (Bool):=fun c a=>
 bif(decide (a<((qd.rows b).length:Int)))then(
 bnd (idx b a) fun⟨e,f,g,i⟩=>
 qA (pf n f e g i c a) n (0:Int))
 else(
 qA (pg n d) n (0:Int))
def QL (n:Nat) (c:xN):Option (Bool):=
 match c with
 | ⟨a,b⟩=>
 bif(((qd.rows a).length:Int) != (kwr .i64 (((qf.rows b).length:Int)+1)))then(
 some false)
 else(
 qA (pe n a b) n (0:Int))
theorem Fy (n:Nat):∀ (e:xN) (r:Bool),QL n e=some r->qc TP 162 [PV.agg (Vt.cells e)] (Be r):=by
 intro e r h;obtain⟨f,d⟩:=e;unfold QL at h;refine zN Tryz.call162 Tryz.func162 [1000000] ?_;conv=>whnf
 apply ifc h<;>intro b h
 ·obtain rfl:=sj h
  conv=>whnf
  try exact fin
 conv=>whnf
 refine zj.fn [1000000] (S:=Int) (fun c=>[(1,.ptr 0 0),(3,pI c)]) (fun c=>[.box 84 [pN f,pG d]]) (B:=pe n f d) h (wk [0] []) ?_;intro y c h;unfold pe at h;conv=>whnf
 apply ifc h<;>intro b h
 ·conv=>whnf
  refine bq h fun⟨j,k,l,m⟩ t h=>⟨_,Codec.at_ fr t,?_⟩;conv=>whnf
  refine zj.fn [1000000] (S:=Int) (fun i=>[(1,.ptr 0 0),(3,pI c),(4,.ptr 1 0),(5,pI i)]) (fun i=>[.box 84 [pN f,pG d],.box 86 [pS j,pT k,pT l,pE m]]) (B:=pf n k j l m y c) h (wk [0,1] []) ?_;intro _ i h;unfold pf at h;conv=>whnf
  apply ifc h<;>intro b h
  ·conv=>whnf
   refine bq h fun _ p h=>⟨_,Codec.at_ ca p,?_⟩;conv=>whnf
   refine bq h fun _ o h=>⟨_,(ue n _ _ o),?_⟩;conv=>whnf
   apply ifc h<;>intro b h
   ·obtain rfl:=sj h
    conv=>whnf
    try exact fin
   conv=>whnf
   exact⟨(kwr .i64 (i+1)),h,wk [0,1] []⟩
  conv=>whnf
  refine⟨id,id,?_⟩;conv=>whnf
  refine bq h fun _ s h=>⟨_,fun a=>(uC n _ _ (qb s a)),?_⟩;conv=>whnf
  iterate 6 refine⟨id,?_⟩
  conv=>whnf
  refine bq h fun _ q h=>⟨_,fun a=>(Qe n _ _ _ (qb q a)),?_⟩;conv=>whnf
  refine⟨id,id,?_⟩;conv=>whnf
  apply ifc h<;>intro b h
  ·obtain rfl:=sj h
   conv=>whnf
   try exact fin
  conv=>whnf
  exact⟨(kwr .i64 (c+1)),h,wk [0] []⟩
 conv=>whnf
 refine zj.fn [1000000] (S:=Int) (fun g=>[(1,.ptr 0 0),(6,pI g)]) (fun g=>[.box 84 [pN f,pG d]]) (B:=pg n d) h (wk [0] []) ?_;intro _ g h;unfold pg at h;conv=>whnf
 apply ifc h<;>intro b h
 ·conv=>whnf
  refine bq h fun⟨_,_,_,_,_⟩ x h=>⟨_,Codec.at_ nB x,?_⟩;conv=>whnf
  refine⟨id,id,?_⟩;conv=>whnf
  refine bq h fun _ w h=>⟨_,fun a=>(uC n _ _ (qb w a)),?_⟩;conv=>whnf
  iterate 7 refine⟨id,?_⟩
  conv=>whnf
  refine bq h fun _ v h=>⟨_,fun a=>(ue n _ _ (qb v a)),?_⟩;conv=>whnf
  iterate 14 refine⟨id,?_⟩
  conv=>whnf
  refine bq h fun _ u h=>⟨_,fun a=>(Qe n _ _ _ (qb u a)),?_⟩;conv=>whnf
  refine⟨id,id,?_⟩;conv=>whnf
  apply ifc h<;>intro b h
  ·obtain rfl:=sj h
   conv=>whnf
   try exact fin
  conv=>whnf
  exact⟨(kwr .i64 (g+1)),h,wk [0] []⟩
 obtain rfl:=sj h;conv=>whnf
 try exact fin
abbrev HN (r:Bool):PV:=PV.bool r
def tz (n:Nat) (a:List qa) (j:Int):LK (Int) (Bool):=fun c b=>
 bif(decide (b<((qa.rows a).length:Int)))then(
 bnd (idx a b) fun⟨k,l,⟨m,o,p,q,d,e⟩,f,g⟩=>
 bnd (xI n (qa.mk k l (Val.mk m o p q d e) f g)) fun i=>
 bif(!i)then(
 some false)
 else(
 c (kwr .i64 (b+1))))
 else(
 some (decide (((qa.rows a).length:Int)<=j)))
def mD (n:Nat) (a:List qa) (b:Int):Option (Bool):=
 qA (tz n a b) n (0:Int)
theorem nc (n:Nat):∀ (a:List qa) (b:Int) (r:Bool),mD n a b=some r->qc TP 163 [PV.sl (qa.rows a),PV.int .i64 b] (HN r):=by
 intro a b r h;unfold mD at h;refine zN Tryz.call163 Tryz.func163 [1000000] ?_;conv=>whnf
 refine zj.fn [1000000] (S:=Int) (fun c=>[(0,pE a),(1,pI b),(5,pI c)]) (fun c=>[]) (B:=tz n a b) h (wk [] []) ?_;intro _ c h;unfold tz at h;conv=>whnf
 apply ifc h<;>intro f h
 ·conv=>whnf
  refine bq h fun⟨_,_,⟨_,_,_,_,_,_⟩,_,_⟩ e h=>⟨_,Codec.at_ zx e,?_⟩;conv=>whnf
  refine bq h fun _ d h=>⟨_,(vG n _ _ d),?_⟩;conv=>whnf
  apply ifc h<;>intro f h
  ·obtain rfl:=sj h
   conv=>whnf
   try exact fin
  conv=>whnf
  exact⟨(kwr .i64 (c+1)),h,wk [] []⟩
 obtain rfl:=sj h;conv=>whnf
 try exact fin
abbrev MA (r:Bool):PV:=PV.bool r
def QN (n:Nat) (c:List zw) (a:List xq) (f g:List qa):LK (Int) (Bool):=fun e b=>
 bif(decide (b<((zw.rows c).length:Int)))then(
 bnd (idx c b) fun⟨⟨i,j,⟨k,l,m,o,p,q⟩,s,t⟩,_⟩=>
 bnd (xI n (qa.mk i j (Val.mk k l m o p q) s t)) fun u=>
 bif(!u)then(
 some false)
 else(
 e (kwr .i64 (b+1))))
 else(
 bnd (qE (decide (((xq.rows a).length:Int)>0)) (mD n f (1:Int))) fun d=>
 bnd (qE (bif(decide (((xq.rows a).length:Int)>0))then d else false) (mD n g (1:Int))) fun v=>
 some (bif(bif(decide (((xq.rows a).length:Int)>0))then d else false)then v else false))
def QM (n:Nat) (a:List xq) (e:List zw) (f g:List qa):LK (Int) (Bool):=fun d b=>
 bif(decide (b<((xq.rows a).length:Int)))then(
 bnd (idx a b) fun⟨⟨_,_,⟨_,_,_,_,_,_⟩,_,_⟩,i⟩=>
 bnd (vR n i) fun c=>
 bnd (qE (!(!c)) (idx a b)) fun⟨⟨j,k,⟨l,m,o,p,q,s⟩,t,u⟩,_⟩=>
 bnd (qE (!(!c)) (xI n (qa.mk j k (Val.mk l m o p q s) t u))) fun v=>
 bif(bif(!c)then true else(!v))then(
 some false)
 else(
 d (kwr .i64 (b+1))))
 else(
 qA (QN n e a f g) n (0:Int))
def Gh (n:Nat) (a:qv):Option (Bool):=
 match a with
 | ⟨_,_,_,⟨_,_,⟨_,_,_,_,_,_⟩,_,_⟩,_,b,_,c,d,e,_,_,_⟩=>
 qA (QM n b c d e) n (0:Int)
theorem Hx (n:Nat):∀ (b:qv) (r:Bool),Gh n b=some r->qc TP 164 [PV.agg (fX.cells b)] (MA r):=by
 intro b r h;obtain⟨k,t,x,⟨y,z,⟨A,C,D,E,l,m⟩,o,p⟩,q,c,s,d,e,f,u,v,w⟩:=b;unfold Gh at h;refine zN Tryz.call164 Tryz.func164 [1000000] ?_;conv=>whnf
 refine zj.fn [1000000] (S:=Int) (fun g=>[(1,.ptr 0 0),(3,pI g)]) (fun g=>[.box 63 [pI k,pP t,pE x,pI y,pS z,pI A,pB C,pI D,pS E,pV l,pT m,pT o,pE p,pS q,pA c,pB s,pO d,pE e,pE f,pU u,pT v,pB w]]) (B:=QM n c d e f) h (wk [0] []) ?_;intro _ g h;unfold QM at h;conv=>whnf
 apply ifc h<;>intro j h
 ·conv=>whnf
  refine bq h fun⟨⟨_,_,⟨_,_,_,_,_,_⟩,_,_⟩,_⟩ I h=>⟨_,Codec.at_ BC I,?_⟩;conv=>whnf
  refine bq h fun _ H h=>⟨_,(uC n _ _ H),?_⟩;conv=>whnf
  refine⟨id,id,id,?_⟩;conv=>whnf
  refine bq h fun⟨⟨_,_,⟨_,_,_,_,_,_⟩,_,_⟩,_⟩ G h=>⟨_,fun a=>Codec.at_ BC (qb G a),?_⟩;conv=>whnf
  refine⟨id,id,id,?_⟩;conv=>whnf
  refine bq h fun _ F h=>⟨_,fun a=>(vG n _ _ (qb F a)),?_⟩;conv=>whnf
  refine⟨id,id,?_⟩;conv=>whnf
  apply ifc h<;>intro j h
  ·obtain rfl:=sj h
   conv=>whnf
   try exact fin
  conv=>whnf
  exact⟨(kwr .i64 (g+1)),h,wk [0] []⟩
 conv=>whnf
 refine zj.fn [1000000] (S:=Int) (fun i=>[(1,.ptr 0 0),(4,pI i)]) (fun i=>[.box 63 [pI k,pP t,pE x,pI y,pS z,pI A,pB C,pI D,pS E,pV l,pT m,pT o,pE p,pS q,pA c,pB s,pO d,pE e,pE f,pU u,pT v,pB w]]) (B:=QN n d c e f) h (wk [0] []) ?_;intro _ i h;unfold QN at h;conv=>whnf
 apply ifc h<;>intro j h
 ·conv=>whnf
  refine bq h fun⟨⟨_,_,⟨_,_,_,_,_,_⟩,_,_⟩,_⟩ K h=>⟨_,Codec.at_ US K,?_⟩;conv=>whnf
  refine bq h fun _ J h=>⟨_,(vG n _ _ J),?_⟩;conv=>whnf
  apply ifc h<;>intro j h
  ·obtain rfl:=sj h
   conv=>whnf
   try exact fin
  conv=>whnf
  exact⟨(kwr .i64 (i+1)),h,wk [0] []⟩
 conv=>whnf
 refine⟨id,id,?_⟩;conv=>whnf
 refine bq h fun _ M h=>⟨_,fun a=>(nc n _ _ _ (qb M a)),?_⟩;conv=>whnf
 refine⟨id,id,id,?_⟩;conv=>whnf
 refine bq h fun _ L h=>⟨_,fun a=>(nc n _ _ _ (qb L a)),?_⟩;conv=>whnf
 refine⟨id,?_⟩;obtain rfl:=sj h;conv=>whnf
 try exact fin
abbrev Mz (r:Bool):PV:=PV.bool r
def XT (n:Nat) (c:qa):Option (Bool):=
 match c with
 | ⟨a,b,⟨f,g,i,j,k,l⟩,m,d⟩=>
 bnd (qE (bif(a==0)then(b==([]:SS))else false) (xp n (Val.mk f g i j k l) (Val.mk (0:Int) false (0:Int) ([]:SS) ([]:List Val) ([]:List SS)))) fun e=>
 some (bif(bif(bif(bif(a==0)then(b==([]:SS))else false)then e else false)then(((qi m).length:Int)==0)else false)then(((qa.rows d).length:Int)==0)else false)
theorem Um (n:Nat):∀ (a:qa) (r:Bool),XT n a=some r->qc TP 208 [PV.agg (zx.cells a)] (Mz r):=by
 intro a r h;obtain⟨_,_,⟨_,_,_,_,_,_⟩,_,_⟩:=a;unfold XT at h;refine zN Tryz.call208 Tryz.func208 [1000000] ?_;conv=>whnf
 iterate 6 refine⟨id,?_⟩
 conv=>whnf
 refine bq h fun _ b h=>⟨_,fun c=>(qc.leArgs (uA n _ _ _ (qb b c)) (by try exact fin)),?_⟩;conv=>whnf
 iterate 9 refine⟨id,?_⟩
 obtain rfl:=sj h;conv=>whnf
 try exact fin
abbrev DP (r:Bool):PV:=PV.bool r
def Xi (n:Nat) (p:qq) (s:Bool):Option (Bool):=
 match p with
 | ⟨q,o,e,⟨f,g,⟨i,j,k,l,a,b⟩,c,d⟩⟩=>
 bnd (vR n q) fun t=>
 bif(!t)then(
 some false)
 else(
 bif(o==([]:SS))then(
 bnd (gu n e) fun m=>
 bnd (qE m (XT n (qa.mk f g (Val.mk i j k l a b) c d))) fun u=>
 some (bif m then u else false))
 else(
 bnd (qE (!(!(e==([]:SS)))) (gu n o)) fun v=>
 bif(bif(!(e==([]:SS)))then true else(!v))then(
 some false)
 else(
 bif s then(
 bnd (xI n (qa.mk f g (Val.mk i j k l a b) c d)) fun w=>
 some w)
 else(
 bnd (XT n (qa.mk f g (Val.mk i j k l a b) c d)) fun x=>
 some x))))
theorem CO (n:Nat):∀ (a:qq) (d r:Bool),Xi n a d=some r->qc TP 165 [PV.agg (tr.cells a),PV.bool d] (DP r):=by
 intro a d r h;obtain⟨_,_,_,⟨_,_,⟨_,_,_,_,_,_⟩,_,_⟩⟩:=a;unfold Xi at h;refine zN Tryz.call165 Tryz.func165 [1000000] ?_;conv=>whnf
 refine bq h fun _ k h=>⟨_,(uC n _ _ k),?_⟩;conv=>whnf
 apply ifc h<;>intro b h
 ·obtain rfl:=sj h
  conv=>whnf
  try exact fin
 conv=>whnf
 apply ifc h<;>intro b h
 ·conv=>whnf
  refine bq h fun _ f h=>⟨_,(ue n _ _ f),?_⟩;conv=>whnf
  refine⟨id,id,?_⟩;conv=>whnf
  refine bq h fun _ e h=>⟨_,fun c=>(Um n _ _ (qb e c)),?_⟩;conv=>whnf
  refine⟨id,?_⟩;obtain rfl:=sj h;conv=>whnf
  try exact fin
 conv=>whnf
 refine⟨id,id,?_⟩;conv=>whnf
 refine bq h fun _ j h=>⟨_,fun c=>(ue n _ _ (qb j c)),?_⟩;conv=>whnf
 refine⟨id,id,?_⟩;conv=>whnf
 apply ifc h<;>intro b h
 ·obtain rfl:=sj h
  conv=>whnf
  try exact fin
 conv=>whnf
 apply ifc h<;>intro b h
 ·conv=>whnf
  refine bq h fun _ g h=>⟨_,(vG n _ _ g),?_⟩;obtain rfl:=sj h;conv=>whnf
  try exact fin
 conv=>whnf
 refine bq h fun _ i h=>⟨_,(Um n _ _ i),?_⟩;obtain rfl:=sj h;conv=>whnf
 try exact fin
end W
end
section
set_option maxRecDepth 100000
set_option maxHeartbeats 4000000
open Go Go.Proofs Ax
namespace W
abbrev Gw (r:Bool):PV:=PV.bool r
def bO (n:Nat) (a:List qq) (d:Int):LK (Int) (Bool):=fun c b=>
 bif(decide (b<((qq.rows a).length:Int)))then(
 bnd (idx a b) fun⟨e,f,g,⟨i,j,⟨k,l,m,o,p,q⟩,s,t⟩⟩=>
 bnd (Xi n (qq.mk e f g (qa.mk i j (Val.mk k l m o p q) s t)) (d==6)) fun u=>
 bif(!u)then(
 some false)
 else(
 c (kwr .i64 (b+1))))
 else(
 some (decide (((qq.rows a).length:Int)>0)))
def bP (n:Nat) (a:List SS):LK (Int) (Bool):=fun c b=>
 bif(decide (b<((qi a).length:Int)))then(
 bnd (idx a b) fun d=>
 bnd (vR n d) fun e=>
 bif(!e)then(
 some false)
 else(
 c (kwr .i64 (b+1))))
 else(
 some (decide (((qi a).length:Int)>0)))
def cg (n:Nat) (b:List qq) (a:Int) (c:List SS):Bool->Option (Bool):=fun d=>
 bif d then(
 qA (bO n b a) n (0:Int))
 else(
 bif(a==8)then(
 qA (bP n c) n (0:Int))
 else(
 some false))
def cf (n:Nat) (a:Int) (b:List xN) (e:List qa) (u:Int) (v:SS) (z:Int) (A:Bool) (B:Int) (C:SS) (g:List Val) (i j:List SS) (k:List qa) (l:SS) (m:List xq) (o:Bool) (p:List zw) (q s:List qa) (c:List qq) (d:List SS) (t:Bool):Bool->Option (Bool):=fun w=>
 bif w then(
 bnd (Gh n (qv.mk a b e (qa.mk u v (Val.mk z A B C g i) j k) l m o p q s c d t)) fun f=>
 bnd (qE f (mD n e (1:Int))) fun x=>
 some (bif f then x else false))
 else(
 bif(a==4)then(
 some (decide (((xN.rows b).length:Int)>0)))
 else(
 bif(a==5)then(
 bnd (qE (((xN.rows b).length:Int)==1) (idx b (0:Int))) fun⟨_,y⟩=>
 some (bif(((xN.rows b).length:Int)==1)then(((qf.rows y).length:Int)==0)else false))
 else(
 bif(a==6)then(
 cg n c a d (a==6))
 else(
 cg n c a d (a==7)))))
def bN (n:Nat) (b:List xN) (a:Int) (i:List qa) (j:Int) (l:SS) (m:Int) (o:Bool) (p:Int) (q:SS) (c:List Val) (d e:List SS) (f:List qa) (g:SS) (s:List xq) (t:Bool) (u:List zw) (v w:List qa) (x:List qq) (y:List SS) (z:Bool):LK (Int) (Bool):=fun B k=>
 bif(decide (k<((xN.rows b).length:Int)))then(
 bnd (idx b k) fun⟨C,D⟩=>
 bnd (QL n (xN.mk C D)) fun E=>
 bif(!E)then(
 some false)
 else(
 B (kwr .i64 (k+1))))
 else(
 bif(a==1)then(
 bnd (qE (decide (((xN.rows b).length:Int)>0)) (mD n i (1:Int))) fun F=>
 some (bif(decide (((xN.rows b).length:Int)>0))then F else false))
 else(
 bif(a==2)then(
 bnd (xI n (qa.mk j l (Val.mk m o p q c d) e f)) fun A=>
 bnd (qE A (vR n g)) fun G=>
 some (bif A then G else false))
 else(
 bif(a==3)then(
 cf n a b i j l m o p q c d e f g s t u v w x y z (a==3))
 else(
 cf n a b i j l m o p q c d e f g s t u v w x y z (a==9)))))
def rQ (n:Nat) (z:qv):Option (Bool):=
 match z with
 | ⟨a,m,s,⟨t,u,⟨v,w,x,y,b,c⟩,d,e⟩,f,g,i,j,k,l,o,p,q⟩=>
 bnd (CP n (qv.mk a m s (qa.mk t u (Val.mk v w x y b c) d e) f g i j k l o p q)) fun⟨A,B,C,⟨D,E,⟨F,G,H,I,J,K⟩,L,M⟩,N,O,P,Q,R,S,T,U,V⟩=>
 bnd (ph n (qv.mk A B C (qa.mk D E (Val.mk F G H I J K) L M) N O P Q R S T U V) (qv.mk a m s (qa.mk t u (Val.mk v w x y b c) d e) f g i j k l o p q)) fun W=>
 bif(!W)then(
 some false)
 else(
 qA (bN n m a s t u v w x y b c d e f g i j k l o p q) n (0:Int))
theorem Un (n:Nat):∀ (C:qv) (r:Bool),rQ n C=some r->qc TP 127 [PV.agg (fX.cells C)] (Gw r):=by
 intro C r h;obtain⟨b,s,u,⟨v,w,⟨x,y,z,A,f,g⟩,i,j⟩,k,l,m,o,p,q,c,d,t⟩:=C;unfold rQ at h;refine zN Tryz.call127 Tryz.func127 [1000000] ?_;conv=>whnf
 refine bq h fun⟨_,_,_,⟨_,_,⟨_,_,_,_,_,_⟩,_,_⟩,_,_,_,_,_,_,_,_,_⟩ N h=>⟨_,(Ml n _ _ N),?_⟩;conv=>whnf
 refine bq h fun _ M h=>⟨_,(VI n _ _ _ M),?_⟩;conv=>whnf
 apply ifc h<;>intro a h
 ·obtain rfl:=sj h
  conv=>whnf
  try exact fin
 conv=>whnf
 refine zj.fn [1000000] (S:=Int) (fun D=>[(1,.ptr 0 0),(3,pI D)]) (fun D=>[.box 63 [pI b,pP s,pE u,pI v,pS w,pI x,pB y,pI z,pS A,pV f,pT g,pT i,pE j,pS k,pA l,pB m,pO o,pE p,pE q,pU c,pT d,pB t]]) (B:=bN n s b u v w x y z A f g i j k l m o p q c d t) h (wk [0] []) ?_;intro _ D h;unfold bN at h;conv=>whnf
 apply ifc h<;>intro a h
 ·conv=>whnf
  refine bq h fun⟨_,_⟩ O h=>⟨_,Codec.at_ Vt O,?_⟩;conv=>whnf
  refine bq h fun _ I h=>⟨_,(Fy n _ _ I),?_⟩;conv=>whnf
  apply ifc h<;>intro a h
  ·obtain rfl:=sj h
   conv=>whnf
   try exact fin
  conv=>whnf
  exact⟨(kwr .i64 (D+1)),h,wk [0] []⟩
 conv=>whnf
 apply ifc h<;>intro a h
 ·conv=>whnf
  refine⟨id,id,?_⟩;conv=>whnf
  refine bq h fun _ P h=>⟨_,fun e=>(nc n _ _ _ (qb P e)),?_⟩;conv=>whnf
  refine⟨id,?_⟩;obtain rfl:=sj h;conv=>whnf
  try exact fin
 conv=>whnf
 apply ifc h<;>intro a h
 ·conv=>whnf
  refine bq h fun _ R h=>⟨_,(vG n _ _ R),?_⟩;conv=>whnf
  refine⟨id,id,?_⟩;conv=>whnf
  refine bq h fun _ Q h=>⟨_,fun e=>(uC n _ _ (qb Q e)),?_⟩;conv=>whnf
  refine⟨id,?_⟩;obtain rfl:=sj h;conv=>whnf
  try exact fin
 conv=>whnf
 refine mw.cut (S:=Bool) (fun G=>[(1,.ptr 0 0),(26,pI b),(48,pB G)]) (fun G=>[.box 63 [pI b,pP s,pE u,pI v,pS w,pI x,pB y,pI z,pS A,pV f,pT g,pT i,pE j,pS k,pA l,pB m,pO o,pE p,pE q,pU c,pT d,pB t]]) (cf n b s u v w x y z A f g i j k l m o p q c d t) (r:=r) ?_ ?_
 ·intro G h
  unfold cf at h;conv=>whnf
  apply ifc h<;>intro a h
  ·conv=>whnf
   refine bq h fun _ U h=>⟨_,(Hx n _ _ U),?_⟩;conv=>whnf
   refine⟨id,id,?_⟩;conv=>whnf
   refine bq h fun _ T h=>⟨_,fun e=>(nc n _ _ _ (qb T e)),?_⟩;conv=>whnf
   refine⟨id,?_⟩;obtain rfl:=sj h;conv=>whnf
   try exact fin
  conv=>whnf
  apply ifc h<;>intro a h
  ·obtain rfl:=sj h
   conv=>whnf
   try exact fin
  conv=>whnf
  apply ifc h<;>intro a h
  ·conv=>whnf
   refine⟨id,id,?_⟩;conv=>whnf
   refine bq h fun⟨_,_⟩ V h=>⟨_,fun e=>Codec.at_ Vt (qb V e),?_⟩;conv=>whnf
   refine⟨id,id,id,id,id,?_⟩;obtain rfl:=sj h;conv=>whnf
   try exact fin
  conv=>whnf
  refine mw.cut (S:=Bool) (fun H=>[(1,.ptr 0 0),(26,pI b),(79,pB H)]) (fun H=>[.box 63 [pI b,pP s,pE u,pI v,pS w,pI x,pB y,pI z,pS A,pV f,pT g,pT i,pE j,pS k,pA l,pB m,pO o,pE p,pE q,pU c,pT d,pB t]]) (cg n c b d) (r:=r) ?_ ?_
  ·intro H h
   unfold cg at h;conv=>whnf
   apply ifc h<;>intro a h
   ·conv=>whnf
    refine zj.fn [1000000] (S:=Int) (fun E=>[(1,.ptr 0 0),(4,pI E)]) (fun E=>[.box 63 [pI b,pP s,pE u,pI v,pS w,pI x,pB y,pI z,pS A,pV f,pT g,pT i,pE j,pS k,pA l,pB m,pO o,pE p,pE q,pU c,pT d,pB t]]) (B:=bO n c b) h (wk [0] []) ?_;intro _ E h;unfold bO at h;(conv=>whnf);apply ifc h<;>intro a h
    ·conv=>whnf
     refine bq h fun⟨_,_,_,⟨_,_,⟨_,_,_,_,_,_⟩,_,_⟩⟩ J h=>⟨_,Codec.at_ tr J,?_⟩;(conv=>whnf);refine bq h fun _ W h=>⟨_,(CO n _ _ _ W),?_⟩;(conv=>whnf);apply ifc h<;>intro a h
     ·obtain rfl:=sj h
      conv=>whnf
      try exact fin
     (conv=>whnf);exact⟨(kwr .i64 (E+1)),h,wk [0] []⟩
    obtain rfl:=sj h;conv=>whnf
    try exact fin
   conv=>whnf
   apply ifc h<;>intro a h
   ·conv=>whnf
    refine zj.fn [1000000] (S:=Int) (fun F=>[(1,.ptr 0 0),(5,pI F)]) (fun F=>[.box 63 [pI b,pP s,pE u,pI v,pS w,pI x,pB y,pI z,pS A,pV f,pT g,pT i,pE j,pS k,pA l,pB m,pO o,pE p,pE q,pU c,pT d,pB t]]) (B:=bP n d) h (wk [0] []) ?_;intro _ F h;unfold bP at h;(conv=>whnf);apply ifc h<;>intro a h
    ·conv=>whnf
     refine bq h fun _ L h=>⟨_,Codec.at_ ca L,?_⟩;(conv=>whnf);refine bq h fun _ K h=>⟨_,(uC n _ _ K),?_⟩;(conv=>whnf);apply ifc h<;>intro a h
     ·obtain rfl:=sj h
      conv=>whnf
      try exact fin
     (conv=>whnf);exact⟨(kwr .i64 (F+1)),h,wk [0] []⟩
    obtain rfl:=sj h;conv=>whnf
    try exact fin
   obtain rfl:=sj h;conv=>whnf
   try exact fin
  conv=>whnf
  apply ifc h<;>intro a h
  ·conv=>whnf
   exact⟨(b==6),h,wk [0] []⟩
  conv=>whnf
  exact⟨(b==7),h,wk [0] []⟩
 conv=>whnf
 apply ifc h<;>intro a h
 ·conv=>whnf
  exact⟨(b==3),h,wk [0] []⟩
 conv=>whnf
 exact⟨(b==9),h,wk [0] []⟩
abbrev Pt (r:Bool):PV:=PV.bool r
def Xg (n:Nat) (a:List qv):LK (Int) (Bool):=fun e b=>
 bif(decide (b<((qv.rows a).length:Int)))then(
 bnd (idx a b) fun⟨y,z,A,⟨B,C,⟨E,F,f,g,i,j⟩,k,l⟩,m,o,p,q,s,t,u,v,w⟩=>
 bnd (rQ n (qv.mk y z A (qa.mk B C (Val.mk E F f g i j) k l) m o p q s t u v w)) fun d=>
 bnd (qE (!(!d)) (idx a b)) fun⟨x,_,_,⟨_,_,⟨_,_,_,_,_,_⟩,_,_⟩,_,_,_,_,_,_,_,_,_⟩=>
 bif(bif(!d)then true else(bif(x==9)then(decide ((kwr .i64 (b+1))<((qv.rows a).length:Int)))else false))then(
 some false)
 else(
 e (kwr .i64 (b+1))))
 else(
 bnd (qE (bif(decide (((qv.rows a).length:Int)>0))then(decide (((qv.rows a).length:Int)<=64))else false) (idx a (kwr .i64 (((qv.rows a).length:Int) - 1)))) fun⟨c,_,_,⟨_,_,⟨_,_,_,_,_,_⟩,_,_⟩,_,_,_,_,_,_,_,_,_⟩=>
 bnd (qE ((bif(decide (((qv.rows a).length:Int)>0))then(decide (((qv.rows a).length:Int)<=64))else false)&&(!(c==9))) (idx a (kwr .i64 (((qv.rows a).length:Int) - 1)))) fun⟨D,_,_,⟨_,_,⟨_,_,_,_,_,_⟩,_,_⟩,_,_,_,_,_,_,_,_,_⟩=>
 bnd (qE ((bif(decide (((qv.rows a).length:Int)>0))then(decide (((qv.rows a).length:Int)<=64))else false)&&(!(c==9))) (sV n D)) fun G=>
 some (bif(bif(decide (((qv.rows a).length:Int)>0))then(decide (((qv.rows a).length:Int)<=64))else false)then(bif(c==9)then true else G)else false))
def CN (n:Nat) (a:Cf):Option (Bool):=
 match a with
 | ⟨b⟩=>
 qA (Xg n b) n (0:Int)
theorem Mk (n:Nat):∀ (b:Cf) (r:Bool),CN n b=some r->qc TP 74 [PV.agg (qcl.cells b)] (Pt r):=by
 intro b r h;obtain⟨d⟩:=b;unfold CN at h;refine zN Tryz.call74 Tryz.func74 [1000000] ?_;conv=>whnf
 refine zj.fn [1000000] (S:=Int) (fun c=>[(1,.ptr 0 0),(3,.p (.int .i64 ((qv.rows d).length:Int))),(4,pI c)]) (fun c=>[.box 66 [pC d]]) (B:=Xg n d) h (wk [0] []) ?_;intro _ c h;unfold Xg at h;conv=>whnf
 apply ifc h<;>intro l h
 ·conv=>whnf
  refine bq h fun⟨_,_,_,⟨_,_,⟨_,_,_,_,_,_⟩,_,_⟩,_,_,_,_,_,_,_,_,_⟩ g h=>⟨_,Codec.at_ fX g,?_⟩;conv=>whnf
  refine bq h fun _ f h=>⟨_,(Un n _ _ f),?_⟩;conv=>whnf
  refine⟨id,id,id,?_⟩;conv=>whnf
  refine bq h fun⟨_,_,_,⟨_,_,⟨_,_,_,_,_,_⟩,_,_⟩,_,_,_,_,_,_,_,_,_⟩ e h=>⟨_,fun a=>Codec.at_ fX (qb e a),?_⟩;conv=>whnf
  iterate 10 refine⟨id,?_⟩
  conv=>whnf
  apply ifc h<;>intro l h
  ·obtain rfl:=sj h
   conv=>whnf
   try exact fin
  conv=>whnf
  exact⟨(kwr .i64 (c+1)),h,wk [0] []⟩
 conv=>whnf
 iterate 6 refine⟨id,?_⟩
 conv=>whnf
 refine bq h fun⟨_,_,_,⟨_,_,⟨_,_,_,_,_,_⟩,_,_⟩,_,_,_,_,_,_,_,_,_⟩ k h=>⟨_,fun a=>Codec.at_ fX (qb k a),?_⟩;conv=>whnf
 iterate 8 refine⟨id,?_⟩
 conv=>whnf
 refine bq h fun⟨_,_,_,⟨_,_,⟨_,_,_,_,_,_⟩,_,_⟩,_,_,_,_,_,_,_,_,_⟩ j h=>⟨_,fun a=>Codec.at_ fX (qb j a),?_⟩;conv=>whnf
 refine⟨id,id,id,?_⟩;conv=>whnf
 refine bq h fun _ i h=>⟨_,fun a=>(Xh n _ _ (qb i a)),?_⟩;conv=>whnf
 refine⟨id,id,id,?_⟩;obtain rfl:=sj h;conv=>whnf
 try exact fin
abbrev HS (r:Cf×Int×Int):PV:=PV.tup [PV.agg (qcl.cells r.1),PV.int .i64 r.2.1,PV.int .i64 r.2.2]
def ng (n:Nat) (d:List ql):Int×Bool×List qv->Option (Cf×Int×Int):=fun(e,f,a)=>
 bif f then(
 bnd (idx d e) fun⟨_,_,_,b⟩=>
 some (Cf.mk ([]:List qv),b,(1:Int)))
 else(
 bnd (CN n (Cf.mk a)) fun c=>
 bif(!c)then(
 some (Cf.mk ([]:List qv),(0:Int),(8:Int)))
 else(
 some (Cf.mk a,(0:Int),(0:Int))))
def tF (n:Nat) (d:List ql):LK (Int×Int×Bool×List qv) (Cf×Int×Int):=fun F (e,b,a,c)=>
 bnd (qE (!a) (idx d b)) fun⟨g,_,_,_⟩=>
 bnd (qE ((!a)&&(!(g != 6))) (sV n e)) fun G=>
 bif(bif(!a)then(bif(g != 6)then true else(bif(!G)then(e != 9)else false))else false)then(
 bif(e==9)then(
 ng n d (b,true,c))
 else(
 bnd (tC n d b a) fun⟨⟨f,i,j,⟨k,l,⟨m,o,p,q,s,t⟩,u,v⟩,w,x,y,z,A,B,C,D,E⟩,H,I⟩=>
 chk (decide ((qv.rows (c++[qv.mk f i j (qa.mk k l (Val.mk m o p q s t) u v) w x y z A B C D E])).length * 392<=140737488355328)) (
 F (f,H,I,(c++[qv.mk f i j (qa.mk k l (Val.mk m o p q s t) u v) w x y z A B C D E])))))
 else(
 ng n d (b,a,c))
def VJ (n:Nat) (b:SS):Option (Cf×Int×Int):=
 bnd (Gf n b) fun⟨c,d,a⟩=>
 bif(a != 0)then(
 some (Cf.mk ([]:List qv),d,a))
 else(
 qA (tF n c) n ((0:Int),(0:Int),false,([]:List _)))
theorem Ds (n:Nat):∀ (I:SS) (r:Cf×Int×Int),VJ n I=some r->qc TP 45 [PV.str I] (HS r):=by
 intro I r h;unfold VJ at h;refine zN Tryz.call45 Tryz.func45 [73,40000014,50000002,60004000,1000000] ?_;conv=>whnf
 refine bq h fun⟨D,_,_⟩ V h=>⟨_,(Hu n _ _ V),?_⟩;conv=>whnf
 apply ifc h<;>intro E h
 ·obtain rfl:=sj h
  conv=>whnf
  try exact fin
 conv=>whnf
 refine mw.cut (S:=Int×Bool×List qv) (fun(K,L,G)=>[(2,.ptr 0 0),(8,.ptr 1 0),(9,.ptr 2 0)]) (fun(K,L,G)=>[.box 66 [zq2],.box 137 [pK D,pI K,pB L],.box 66 [.tsl 3 (qv.rows G)],.tail 63 22 (qv.rows G).length]) (ng n D) (r:=r) ?_ ?_
 ·intro st h
  obtain⟨K,L,G⟩:=st;unfold ng at h;conv=>whnf
  apply ifc h<;>intro E h
  ·conv=>whnf
   refine bq h fun⟨_,_,_,_⟩ P h=>⟨_,Codec.at_ nY P,?_⟩;obtain rfl:=sj h;conv=>whnf
   try exact fin
  conv=>whnf
  refine bq h fun _ Q h=>⟨_,(Mk n _ _ Q),?_⟩;conv=>whnf
  apply ifc h<;>intro E h
  ·obtain rfl:=sj h
   conv=>whnf
   try exact fin
  obtain rfl:=sj h;conv=>whnf
  try exact fin
 conv=>whnf
 refine zj.fn [73,40000014,50000002,60004000,1000000] (S:=Int×Int×Bool×List qv) (fun(J,C,F,a)=>[(2,.ptr 0 0),(8,.ptr 1 0),(9,.ptr 2 0),(10,pI J)]) (fun(J,C,F,a)=>[.box 66 [zq2],.box 137 [pK D,pI C,pB F],.box 66 [.tsl 3 (qv.rows a)],.tail 63 22 (qv.rows a).length]) (B:=tF n D) h (wk [0,1,2,0] [3]) ?_;intro _ st h;obtain⟨J,C,F,a⟩:=st;unfold tF at h;conv=>whnf
 iterate 8 refine⟨id,?_⟩
 conv=>whnf
 refine bq h fun⟨_,_,_,_⟩ U h=>⟨_,fun H=>Codec.at_ nY (qb U H),?_⟩;conv=>whnf
 refine⟨id,id,id,id,id,?_⟩;conv=>whnf
 refine bq h fun _ T h=>⟨_,fun H=>(Xh n _ _ (qb T H)),?_⟩;conv=>whnf
 iterate 8 refine⟨id,?_⟩
 conv=>whnf
 apply ifc h<;>intro E h
 ·conv=>whnf
  apply ifc h<;>intro E h
  ·conv=>whnf
   exact⟨(C,true,a),h,wk [0,1,2,3] []⟩
  conv=>whnf
  refine bq h fun⟨⟨b,c,d,⟨e,f,⟨g,i,j,k,l,m⟩,o,q⟩,s,t,u,v,w,x,y,z,A⟩,N,O⟩ R h=>?_;refine zU (Gj n _ _ _ _ R) [1] [] ?_;rintro _ _ ⟨rfl,rfl⟩;refine⟨.p (.agg [.int .i64 b,.sl (xN.rows c),.sl (qa.rows d),.int .i64 e,.str f,.int .i64 g,.bool i,.int .i64 j,.str k,.sl (Val.rows l),.sl (qi m),.sl (qi o),.sl (qa.rows q),.str s,.sl (xq.rows t),.bool u,.sl (zw.rows v),.sl (qa.rows w),.sl (qa.rows x),.sl (qq.rows y),.sl (qi z),.bool A]),[.box 66 [zq2],.box 137 [pK D,pI N,pB O],.box 66 [.tsl 3 (qv.rows a)],.tail 63 22 (qv.rows a).length],rfl,rfl,?_⟩;conv=>whnf
  refine⟨Codec.one fX [qv.mk b c d (qa.mk e f (Val.mk g i j k l m) o q) s t u v w x y z A],qv.rows [qv.mk b c d (qa.mk e f (Val.mk g i j k l m) o q) s t u v w x y z A],.inl rfl,?_⟩;conv=>whnf
  rw[show qv.rows a++qv.rows [qv.mk b c d (qa.mk e f (Val.mk g i j k l m) o q) s t u v w x y z A]=qv.rows (a++[qv.mk b c d (qa.mk e f (Val.mk g i j k l m) o q) s t u v w x y z A])from Codec.append fX a [qv.mk b c d (qa.mk e f (Val.mk g i j k l m) o q) s t u v w x y z A]];conv=>whnf
  obtain⟨M,h⟩:=qg h;refine⟨⟨Codec.wide fX (a++[qv.mk b c d (qa.mk e f (Val.mk g i j k l m) o q) s t u v w x y z A]),kod M,zy M (by decide)⟩,?_⟩;conv=>whnf
  refine⟨⟨rfl,rfl,rfl⟩,?_⟩;conv=>whnf
  exact⟨(b,N,O,(a++[qv.mk b c d (qa.mk e f (Val.mk g i j k l m) o q) s t u v w x y z A])),h,wk [0,1,2,5] []⟩
 conv=>whnf
 exact⟨(C,F,a),h,wk [0,1,2,3] []⟩
abbrev SL (r:qa):PV:=PV.agg (zx.cells r)
def XS (n:Nat) (a:SS):Option (qa):=
 chk (decide (((([82,69,84,85,82,78,32]:SS).length+a.length:Nat):Int)<=Vr)) (
 chk (decide ((((([82,69,84,85,82,78,32]:SS)++a).length+([32,65,83,32,120]:SS).length:Nat):Int)<=Vr)) (
 bnd (VJ n ((([82,69,84,85,82,78,32]:SS)++a)++([32,65,83,32,120]:SS))) fun⟨⟨b⟩,_,_⟩=>
 bif(((qv.rows b).length:Int) != 1)then(
 some (qa.mk (0:Int) ([]:SS) (Val.mk (0:Int) false (0:Int) ([]:SS) ([]:List Val) ([]:List SS)) ([]:List SS) ([]:List qa)))
 else(
 bnd (idx b (0:Int)) fun⟨_,_,_,⟨_,_,⟨_,_,_,_,_,_⟩,_,_⟩,_,c,_,_,_,_,_,_,_⟩=>
 bnd (idx c (0:Int)) fun⟨⟨d,e,⟨f,g,i,j,k,l⟩,m,o⟩,_⟩=>
 some (qa.mk d e (Val.mk f g i j k l) m o))))
theorem QF (n:Nat):∀ (a:SS) (r:qa),XS n a=some r->qc TP 28 [PV.str a] (SL r):=by
 intro a r h;unfold XS at h;refine zN Tryz.call28 Tryz.func28 [1000000] ?_;conv=>whnf
 obtain⟨f,h⟩:=qg h;refine⟨(kod f:((([82,69,84,85,82,78,32]:SS).length+a.length:Nat):Int)<=Vr),?_⟩;conv=>whnf
 obtain⟨e,h⟩:=qg h;refine⟨(kod e:(((([82,69,84,85,82,78,32]:SS)++a).length+([32,65,83,32,120]:SS).length:Nat):Int)<=Vr),?_⟩;conv=>whnf
 refine bq h fun⟨⟨_⟩,_,_⟩ d h=>⟨_,(Ds n _ _ d),?_⟩;conv=>whnf
 apply ifc h<;>intro _ h
 ·obtain rfl:=sj h
  conv=>whnf
  try exact fin
 conv=>whnf
 refine bq h fun⟨_,_,_,⟨_,_,⟨_,_,_,_,_,_⟩,_,_⟩,_,_,_,_,_,_,_,_,_⟩ c h=>⟨_,Codec.at_ fX c,?_⟩;conv=>whnf
 refine bq h fun⟨⟨_,_,⟨_,_,_,_,_,_⟩,_,_⟩,_⟩ b h=>⟨_,Codec.at_ BC b,?_⟩;obtain rfl:=sj h;conv=>whnf
 try exact fin
abbrev nR (r:Int):PV:=PV.int .i64 r
def xM (n:Nat) (b:List SS) (d:SS):LK (Int) (Int):=fun c a=>
 bif(decide (a<((qi b).length:Int)))then(
 bnd (idx b a) fun e=>
 bif(d==e)then(
 some a)
 else(
 c (kwr .i64 (a+1))))
 else(
 some (-1:Int))
def zT (n:Nat) (a:List SS) (b:SS):Option (Int):=
 qA (xM n a b) n (0:Int)
theorem fc (n:Nat):∀ (a:List SS) (b:SS) (r:Int),zT n a b=some r->qc TP 46 [PV.sl (qi a),PV.str b] (nR r):=by
 intro a b r h;unfold zT at h;refine zN Tryz.call46 Tryz.func46 [1000000] ?_;conv=>whnf
 refine zj.fn [1000000] (S:=Int) (fun c=>[(0,pT a),(1,pS b),(7,.p (.int .i64 ((qi a).length:Int))),(8,pI c)]) (fun c=>[]) (B:=xM n a b) h (wk [] []) ?_;intro _ c h;unfold xM at h;conv=>whnf
 apply ifc h<;>intro e h
 ·conv=>whnf
  refine bq h fun _ d h=>⟨_,Codec.at_ ca d,?_⟩;conv=>whnf
  apply ifc h<;>intro e h
  ·obtain rfl:=sj h
   conv=>whnf
   try exact fin
  conv=>whnf
  exact⟨(kwr .i64 (c+1)),h,wk [] []⟩
 obtain rfl:=sj h;conv=>whnf
 try exact fin
abbrev Vo (r:Bool):PV:=PV.bool r
def xl (n:Nat) (a:SS):Option (Bool):=
 some (!(a==a))
theorem gw (n:Nat):∀ (a:SS) (r:Bool),xl n a=some r->qc TP 166 [PV.str a] (Vo r):=by
 intro a r h;unfold xl at h;refine zN Tryz.call166 Tryz.func166 [1000000] ?_;obtain rfl:=sj h;conv=>whnf
 try exact fin
abbrev VP (r:Bool):PV:=PV.bool r
def vT (n:Nat) (a b:SS):Option (Bool):=
 bnd (xl n a) fun c=>
 bnd (qE c (xl n b)) fun d=>
 some (bif(bif c then(!d)else false)then true else(Op.bytesLess a b))
theorem Vi (n:Nat):∀ (a b:SS) (r:Bool),vT n a b=some r->qc TP 128 [PV.str a,PV.str b] (VP r):=by
 intro a b r h;unfold vT at h;refine zN Tryz.call128 Tryz.func128 [1000000] ?_;conv=>whnf
 refine bq h fun _ d h=>⟨_,(gw n _ _ d),?_⟩;conv=>whnf
 refine⟨id,?_⟩;conv=>whnf
 refine bq h fun _ c h=>⟨_,fun e=>(gw n _ _ (qb c e)),?_⟩;conv=>whnf
 refine⟨id,id,id,id,id,?_⟩;obtain rfl:=sj h;conv=>whnf
 try exact fin
abbrev Zi (r:Bool):PV:=PV.bool r
def uh (n:Nat) (a:SS):Option (Bool):=
 some (!(a==a))
theorem br (n:Nat):∀ (a:SS) (r:Bool),uh n a=some r->qc TP 129 [PV.str a] (Zi r):=by
 intro a r h;unfold uh at h;refine zN Tryz.call129 Tryz.func129 [1000000] ?_;obtain rfl:=sj h;conv=>whnf
 try exact fin
abbrev dn (r:Int×Bool):PV:=PV.tup [PV.int .i64 r.1,PV.bool r.2]
def qQ (n:Nat) (b:List SS) (c:SS):LK (Int×Int) (Int×Bool):=fun f (a,d)=>
 bif(decide (a<d))then(
 bnd (idx b (kwr .i64 (Int.fdiv (kwr .u64 (kwr .i64 (a+d))) (2 ^ (min (Int.toNat (1:Int)) IntKind.u64.bits))))) fun j=>
 bnd (vT n j c) fun k=>
 bif k then(
 f ((kwr .i64 ((kwr .i64 (Int.fdiv (kwr .u64 (kwr .i64 (a+d))) (2 ^ (min (Int.toNat (1:Int)) IntKind.u64.bits))))+1)),d))
 else(
 f (a,(kwr .i64 (Int.fdiv (kwr .u64 (kwr .i64 (a+d))) (2 ^ (min (Int.toNat (1:Int)) IntKind.u64.bits)))))))
 else(
 bnd (qE (decide (a<((qi b).length:Int))) (idx b a)) fun e=>
 bnd (qE ((decide (a<((qi b).length:Int)))&&(!(e==c))) (idx b a)) fun l=>
 bnd (qE ((decide (a<((qi b).length:Int)))&&(!(e==c))) (uh n l)) fun g=>
 bnd (qE (((decide (a<((qi b).length:Int)))&&(!(e==c)))&&g) (uh n c)) fun i=>
 some (a,(bif(decide (a<((qi b).length:Int)))then(bif(e==c)then true else(bif g then i else false))else false)))
def qN (n:Nat) (a:List SS) (b:SS):Option (Int×Bool):=
 qA (qQ n a b) n ((0:Int),((qi a).length:Int))
theorem uo (n:Nat):∀ (b:List SS) (e:SS) (r:Int×Bool),qN n b e=some r->qc TP 75 [PV.sl (qi b),PV.str e] (dn r):=by
 intro b e r h;unfold qN at h;refine zN Tryz.call75 Tryz.func75 [1000000] ?_;conv=>whnf
 refine zj.fn [1000000] (S:=Int×Int) (fun(c,d)=>[(0,pT b),(1,pS e),(6,.p (.int .i64 ((qi b).length:Int))),(7,pI c),(8,pI d)]) (fun(c,d)=>[]) (B:=qQ n b e) h (wk [] []) ?_;intro _ st h;obtain⟨c,d⟩:=st;unfold qQ at h;conv=>whnf
 apply ifc h<;>intro m h
 ·conv=>whnf
  refine⟨by unfold gI; decide,?_⟩;conv=>whnf
  refine bq h fun _ g h=>⟨_,Codec.at_ ca g,?_⟩;conv=>whnf
  refine bq h fun _ f h=>⟨_,(Vi n _ _ _ f),?_⟩;conv=>whnf
  apply ifc h<;>intro m h
  ·conv=>whnf
   exact⟨((kwr .i64 ((kwr .i64 (Int.fdiv (kwr .u64 (kwr .i64 (c+d))) (2 ^ (min (Int.toNat (1:Int)) IntKind.u64.bits))))+1)),d),h,wk [] []⟩
  conv=>whnf
  exact⟨(c,(kwr .i64 (Int.fdiv (kwr .u64 (kwr .i64 (c+d))) (2 ^ (min (Int.toNat (1:Int)) IntKind.u64.bits))))),h,wk [] []⟩
 conv=>whnf
 refine⟨id,id,?_⟩;conv=>whnf
 refine bq h fun _ l h=>⟨_,fun a=>Codec.at_ ca (qb l a),?_⟩;conv=>whnf
 iterate 6 refine⟨id,?_⟩
 conv=>whnf
 refine bq h fun _ k h=>⟨_,fun a=>Codec.at_ ca (qb k a),?_⟩;conv=>whnf
 refine⟨id,id,?_⟩;conv=>whnf
 refine bq h fun _ j h=>⟨_,fun a=>(br n _ _ (qb j a)),?_⟩;conv=>whnf
 refine⟨id,id,?_⟩;conv=>whnf
 refine bq h fun _ i h=>⟨_,fun a=>(br n _ _ (qb i a)),?_⟩;conv=>whnf
 refine⟨id,id,id,id,id,?_⟩;obtain rfl:=sj h;conv=>whnf
 try exact fin
abbrev nz (r:Val):PV:=PV.agg (qS.cells r)
def fe (n d:Nat) (g34:Val->Option (Val)) (f:List SS) (i:Int) (u:Bool) (y:Int) (z:SS):LK (Int×List Val) (Val):=fun g (a,b)=>
 bif(decide (a<((((Val.rows (List.replicate d (Val.mk (0:Int) false (0:Int) ([]:SS) ([]:List Val) ([]:List SS)))).length):Nat):Int)))then(
 bnd (Qq a) fun e=>
 chk (decide (e<(Val.rows (List.replicate d (Val.mk (0:Int) false (0:Int) ([]:SS) ([]:List Val) ([]:List SS)))).length)) (
 bnd (b[e]?) fun⟨j,k,l,m,o,p⟩=>
 bnd (g34 (Val.mk j k l m o p)) fun⟨q,s,t,v,w,x⟩=>
 bnd (Qq a) fun c=>
 chk (decide (c<(Val.rows (List.replicate d (Val.mk (0:Int) false (0:Int) ([]:SS) ([]:List Val) ([]:List SS)))).length)) (
 bnd (b[c]?) fun⟨_,_,_,_,_,_⟩=>
 g ((kwr .i64 (a+1)),(b.set c (Val.mk q s t v w x))))))
 else(
 chk (decide ((qi f).length * 16<=140737488355328)) (
 some (Val.mk i u y z b f)))
def pz (n:Nat) (g34:Val->Option (Val)) (c:Val):Option (Val):=
 match c with
 | ⟨d,e,f,g,a,i⟩=>
 bnd (Qq ((Val.rows a).length:Int)) fun b=>
 chk (decide (b * 88<=140737488355328)) (
 chk (decide ((Val.rows a).length=(Val.rows (List.replicate b (Val.mk (0:Int) false (0:Int) ([]:SS) ([]:List Val) ([]:List SS)))).length)) (
 qA (fe n b g34 i d e f g) n ((0:Int),a)))
theorem Fu (n:Nat) (g34:Val->Option (Val)) (g34_ok:∀ (a r:Val),g34 a=some r->qc TP 34 [PV.agg (qS.cells a)] (nz r)):∀ (a r:Val),pz n g34 a=some r->qc TP 34 [PV.agg (qS.cells a)] (nz r):=by
 intro a r h;obtain⟨g,i,k,l,w,d⟩:=a;unfold pz at h;refine zN Tryz.call34 Tryz.func34 [64,10000008,1000000] ?_;conv=>whnf
 refine bq h fun b y h=>?_;have c:=zC y;conv=>whnf
 obtain⟨m,h⟩:=qg h;refine⟨b,Val.rows (List.replicate b (Val.mk (0:Int) false (0:Int) ([]:SS) ([]:List Val) ([]:List SS))),⟨c,c,kod m,zy m (by decide),Codec.madeN qS (Val.mk (0:Int) false (0:Int) ([]:SS) ([]:List Val) ([]:List SS)) b (by try exact fin),rfl,by decide,rfl⟩,?_⟩;conv=>whnf
 obtain⟨H,h⟩:=qg h;refine⟨⟨rfl,kod H,Codec.wide qS w⟩,?_⟩;conv=>whnf
 refine zj.fn [64,10000008,1000000] (S:=Int×List Val) (fun(f,e)=>[(1,.ptr 0 0),(2,.ptr 1 0),(3,.vsl 2 ((Val.rows (List.replicate b (Val.mk (0:Int) false (0:Int) ([]:SS) ([]:List Val) ([]:List SS)))).length)),(14,.p (.int .i64 ((((Val.rows (List.replicate b (Val.mk (0:Int) false (0:Int) ([]:SS) ([]:List Val) ([]:List SS)))).length):Nat):Int))),(15,pI f)]) (fun(f,e)=>[.box 25 [pI g,pB i,pI k,pS l,pV w,pT d],zq6,.vec 25 6 (Val.rows e)]) (B:=fe n b g34 d g i k l) h (wk [0,1,2] []) ?_;intro _ st h;obtain⟨f,e⟩:=st;unfold fe at h;conv=>whnf
 apply ifc h<;>intro _ h
 ·conv=>whnf
  refine bq h fun I F h=>?_;have c:=zC F;conv=>whnf
  obtain⟨E,h⟩:=qg h;refine⟨I,⟨c,kod E⟩,?_⟩;conv=>whnf
  refine bq h fun⟨_,_,_,_,_,_⟩ D h=>⟨_,⟨rfl,Codec.getN qS D⟩,?_⟩;conv=>whnf
  refine bq h fun⟨o,q,s,t,u,v⟩ C h=>⟨_,(g34_ok _ _ C),?_⟩;conv=>whnf
  refine bq h fun j A h=>?_;have c:=zC A;conv=>whnf
  obtain⟨z,h⟩:=qg h;refine⟨j,⟨c,kod z⟩,?_⟩;conv=>whnf
  refine bq h fun⟨_,_,_,_,_,_⟩ x h=>⟨_,⟨rfl,Codec.getN qS x,rfl⟩,?_⟩;conv=>whnf
  refine⟨_,Codec.setN qS e j (Val.mk o q s t u v),?_⟩;conv=>whnf
  exact⟨((kwr .i64 (f+1)),(e.set j (Val.mk o q s t u v))),h,wk [0,1,2] []⟩
 conv=>whnf
 obtain⟨G,h⟩:=qg h;refine zU (Ho d (kod G)) [] [] ?_;rintro _ _ ⟨rfl,rfl⟩;refine⟨.tsl 3 (qi d),[.box 25 [pI g,pB i,pI k,pS l,.vsl 2 ((Val.rows (List.replicate b (Val.mk (0:Int) false (0:Int) ([]:SS) ([]:List Val) ([]:List SS)))).length),pT d],zq6,.vec 25 6 (Val.rows e),.tail 9 1 (qi d).length],rfl,rfl,?_⟩;obtain rfl:=sj h;conv=>whnf
 try exact fin
def vf:Nat->Val->Option (Val)
 | 0=>fun _=>none
 | n+1=>pz n (vf n)
theorem FB (n:Nat):(∀ (a r:Val),vf n a=some r->qc TP 34 [PV.agg (qS.cells a)] (nz r)):=by
 induction n with
 | zero=>exact(by intros; rename_i h; cases h)
 | succ n ih=>
  have hg34:=ih;exact Fu n (vf n) hg34
theorem ml (n:Nat):∀ (a r:Val),vf n a=some r->qc TP 34 [PV.agg (qS.cells a)] (nz r):=(FB n)
end W
end
section
set_option maxRecDepth 100000
set_option maxHeartbeats 4000000
open Go Go.Proofs Ax
namespace W
abbrev Lh (r:Val×Bool):PV:=PV.tup [PV.agg (qS.cells r.1),PV.bool r.2]
def ur (n:Nat) (c:Val) (u:SS):Option (Val×Bool):=
 match c with
 | ⟨d,_,_,_,a,t⟩=>
 bnd (qN n t u) fun⟨b,v⟩=>
 bif(bif(bif(!v)then true else(d != 5))then true else(decide (b≥((Val.rows a).length:Int))))then(
 some (Val.mk (0:Int) false (0:Int) ([]:SS) ([]:List Val) ([]:List SS),false))
 else(
 bnd (idx a b) fun⟨e,f,g,i,j,k⟩=>
 bnd (vf n (Val.mk e f g i j k)) fun⟨l,m,o,p,q,s⟩=>
 some (Val.mk l m o p q s,true))
theorem tG (n:Nat):∀ (a:Val) (b:SS) (r:Val×Bool),ur n a b=some r->qc TP 47 [PV.agg (qS.cells a),PV.str b] (Lh r):=by
 intro a b r h;obtain⟨_,_,_,_,_,_⟩:=a;unfold ur at h;refine zN Tryz.call47 Tryz.func47 [1000000] ?_;conv=>whnf
 refine bq h fun⟨_,_⟩ e h=>⟨_,(uo n _ _ _ e),?_⟩;conv=>whnf
 iterate 8 refine⟨id,?_⟩
 conv=>whnf
 apply ifc h<;>intro _ h
 ·obtain rfl:=sj h
  conv=>whnf
  try exact fin
 conv=>whnf
 refine bq h fun⟨_,_,_,_,_,_⟩ d h=>⟨_,Codec.at_ qS d,?_⟩;conv=>whnf
 refine bq h fun⟨_,_,_,_,_,_⟩ c h=>⟨_,(ml n _ _ c),?_⟩;obtain rfl:=sj h;conv=>whnf
 try exact fin
abbrev HW (r:Val):PV:=PV.agg (qS.cells r)
def uU (n:Nat) (a:List Val):Option (Val):=
 some (Val.mk (4:Int) false (0:Int) ([]:SS) a ([]:List SS))
theorem ni (n:Nat):∀ (a:List Val) (r:Val),uU n a=some r->qc TP 50 [PV.sl (Val.rows a)] (HW r):=by
 intro a r h;unfold uU at h;refine zN Tryz.call50 Tryz.func50 [1000000] ?_;obtain rfl:=sj h;conv=>whnf
 try exact fin
abbrev Em (r:Bool):PV:=PV.bool r
def uM (n:Nat) (b:Val):Option (Bool):=
 match b with
 | ⟨a,c,d,e,f,g⟩=>
 some (bif(bif(bif(bif(bif(a==1)then true else(!c))then(bif(bif(a==2)then true else(decide (a≥6)))then true else(d==0))else false)then(bif(a==3)then true else(e==([]:SS)))else false)then(bif(bif(a==4)then true else(a==5))then true else(((Val.rows f).length:Int)==0))else false)then(bif(a==5)then true else(((qi g).length:Int)==0))else false)
theorem CY (n:Nat):∀ (a:Val) (r:Bool),uM n a=some r->qc TP 167 [PV.agg (qS.cells a)] (Em r):=by
 intro a r h;obtain⟨_,_,_,_,_,_⟩:=a;unfold uM at h;refine zN Tryz.call167 Tryz.func167 [1000000] ?_;conv=>whnf
 iterate 47 refine⟨id,?_⟩
 obtain rfl:=sj h;conv=>whnf
 try exact fin
abbrev En (r:Bool):PV:=PV.bool r
def vx (n:Nat) (c:List SS):LK (Int) (Bool):=fun d a=>
 bif(decide (a<((qi c).length:Int)))then(
 bnd (idx c a) fun b=>
 bnd (qE ((!(bif(b==([]:SS))then true else(decide (((b.length:Nat):Int)>64))))&&(decide (a>0))) (idx c (kwr .i64 (a - 1)))) fun e=>
 bif(bif(bif(b==([]:SS))then true else(decide (((b.length:Nat):Int)>64)))then true else(bif(decide (a>0))then(!(Op.bytesLess e b))else false))then(
 some false)
 else(
 d (kwr .i64 (a+1))))
 else(
 some true)
def uj (n:Nat) (a:List SS):Option (Bool):=
 qA (vx n a) n (0:Int)
theorem CZ (n:Nat):∀ (a:List SS) (r:Bool),uj n a=some r->qc TP 168 [PV.sl (qi a)] (En r):=by
 intro a r h;unfold uj at h;refine zN Tryz.call168 Tryz.func168 [1000000] ?_;conv=>whnf
 refine zj.fn [1000000] (S:=Int) (fun b=>[(0,pT a),(5,pT a),(6,.p (.int .i64 ((qi a).length:Int))),(7,pI b)]) (fun b=>[]) (B:=vx n a) h (wk [] []) ?_;intro _ b h;unfold vx at h;conv=>whnf
 apply ifc h<;>intro e h
 ·conv=>whnf
  refine bq h fun _ d h=>⟨_,Codec.at_ ca d,?_⟩;conv=>whnf
  iterate 8 refine⟨id,?_⟩
  conv=>whnf
  refine bq h fun _ c h=>⟨_,fun f=>Codec.at_ ca (qb c f),?_⟩;conv=>whnf
  iterate 6 refine⟨id,?_⟩
  conv=>whnf
  apply ifc h<;>intro e h
  ·obtain rfl:=sj h
   conv=>whnf
   try exact fin
  conv=>whnf
  exact⟨(kwr .i64 (b+1)),h,wk [] []⟩
 obtain rfl:=sj h;conv=>whnf
 try exact fin
abbrev nA (r:Int×Bool):PV:=PV.tup [PV.int .i64 r.1,PV.bool r.2]
def vy (n:Nat) (d:List Val) (g130:Val->Int->Int->Option (Int×Bool)) (p:Int):LK (Int×Bool×Int) (Int×Bool):=fun e (b,c,a)=>
 bif(bif(decide (a<((Val.rows d).length:Int)))then c else false)then(
 bnd (idx d a) fun⟨f,g,i,j,k,l⟩=>
 bnd (g130 (Val.mk f g i j k l) (kwr .i64 (p - 1)) b) fun⟨m,o⟩=>
 e (m,o,(kwr .i64 (a+1))))
 else(
 some (b,c))
def cR (n:Nat) (g130:Val->Int->Int->Option (Int×Bool)) (i:Val) (e b:Int):Option (Int×Bool):=
 match i with
 | ⟨a,k,f,l,c,d⟩=>
 bnd (qE (!(bif(bif(bif(decide (e<1))then true else(decide ((kwr .i64 (b+1))>4096)))then true else(decide (a<0)))then true else(decide (a>7)))) (uM n (Val.mk a k f l c d))) fun g=>
 bnd (qE (((!(bif(bif(bif(bif(bif(decide (e<1))then true else(decide ((kwr .i64 (b+1))>4096)))then true else(decide (a<0)))then true else(decide (a>7)))then true else(!g))then true else(bif(decide (a≥6))then(decide (f<1))else false)))&&(a==5))&&(!(((qi d).length:Int) != ((Val.rows c).length:Int)))) (uj n d)) fun j=>
 bif(bif(bif(bif(bif(bif(bif(decide (e<1))then true else(decide ((kwr .i64 (b+1))>4096)))then true else(decide (a<0)))then true else(decide (a>7)))then true else(!g))then true else(bif(decide (a≥6))then(decide (f<1))else false))then true else(bif(a==5)then(bif(((qi d).length:Int) != ((Val.rows c).length:Int))then true else(!j))else false))then(
 some ((kwr .i64 (b+1)),false))
 else(
 qA (vy n c g130 e) n ((kwr .i64 (b+1)),true,(0:Int)))
theorem Fw (n:Nat) (g130:Val->Int->Int->Option (Int×Bool)) (g130_ok:∀ (b:Val) (a c:Int) (r:Int×Bool),g130 b a c=some r->qc TP 130 [PV.agg (qS.cells b),PV.int .i64 a,PV.int .i64 c] (nA r)):∀ (b:Val) (a c:Int) (r:Int×Bool),cR n g130 b a c=some r->qc TP 130 [PV.agg (qS.cells b),PV.int .i64 a,PV.int .i64 c] (nA r):=by
 intro b a c r h;obtain⟨p,q,u,v,i,w⟩:=b;unfold cR at h;refine zN Tryz.call130 Tryz.func130 [1000000] ?_;conv=>whnf
 iterate 9 refine⟨id,?_⟩
 conv=>whnf
 refine bq h fun _ m h=>⟨_,fun e=>(CY n _ _ (qb m e)),?_⟩;conv=>whnf
 iterate 22 refine⟨id,?_⟩
 conv=>whnf
 refine bq h fun _ l h=>⟨_,fun e=>(CZ n _ _ (qb l e)),?_⟩;conv=>whnf
 iterate 6 refine⟨id,?_⟩
 conv=>whnf
 apply ifc h<;>intro o h
 ·obtain rfl:=sj h
  conv=>whnf
  try exact fin
 conv=>whnf
 refine zj.fn [1000000] (S:=Int×Bool×Int) (fun(f,g,d)=>[(1,pI a),(2,pI f),(3,.ptr 0 0),(8,pB g),(9,pI d)]) (fun(f,g,d)=>[.box 25 [pI p,pB q,pI u,pS v,pV i,pT w]]) (B:=vy n i g130 a) h (wk [0] []) ?_;intro _ st h;obtain⟨f,g,d⟩:=st;unfold vy at h;conv=>whnf
 refine⟨id,?_⟩;conv=>whnf
 apply ifc h<;>intro o h
 ·conv=>whnf
  refine bq h fun⟨_,_,_,_,_,_⟩ k h=>⟨_,Codec.at_ qS k,?_⟩;conv=>whnf
  refine bq h fun⟨s,t⟩ j h=>⟨_,(g130_ok _ _ _ _ j),?_⟩;conv=>whnf
  exact⟨(s,t,(kwr .i64 (d+1))),h,wk [0] []⟩
 obtain rfl:=sj h;conv=>whnf
 try exact fin
def vg:Nat->Val->Int->Int->Option (Int×Bool)
 | 0=>fun _ _ _=>none
 | n+1=>cR n (vg n)
theorem FE (n:Nat):(∀ (a:Val) (b c:Int) (r:Int×Bool),vg n a b c=some r->qc TP 130 [PV.agg (qS.cells a),PV.int .i64 b,PV.int .i64 c] (nA r)):=by
 induction n with
 | zero=>exact(by intros; rename_i h; cases h)
 | succ n ih=>
  have hg130:=ih;exact Fw n (vg n) hg130
theorem Bb (n:Nat):∀ (a:Val) (b c:Int) (r:Int×Bool),vg n a b c=some r->qc TP 130 [PV.agg (qS.cells a),PV.int .i64 b,PV.int .i64 c] (nA r):=(FE n)
abbrev Bj (r:Int):PV:=PV.int .i64 r
def uB (n:Nat) (a:Val):Option (Int):=
 match a with
 | ⟨b,c,d,e,f,g⟩=>
 bnd (vg n (Val.mk b c d e f g) (32:Int) (0:Int)) fun⟨_,i⟩=>
 bif(!i)then(
 some (20:Int))
 else(
 some (0:Int))
theorem ZC (n:Nat):∀ (a:Val) (r:Int),uB n a=some r->qc TP 76 [PV.agg (qS.cells a)] (Bj r):=by
 intro a r h;obtain⟨_,_,_,_,_,_⟩:=a;unfold uB at h;refine zN Tryz.call76 Tryz.func76 [1000000] ?_;conv=>whnf
 refine bq h fun⟨_,_⟩ b h=>⟨_,(Bb n _ _ _ _ b),?_⟩;conv=>whnf
 apply ifc h<;>intro _ h
 ·obtain rfl:=sj h
  conv=>whnf
  try exact fin
 obtain rfl:=sj h;conv=>whnf
 try exact fin
abbrev HZ (r:Val×Int):PV:=PV.tup [PV.agg (qS.cells r.1),PV.int .i64 r.2]
def gH (n:Nat) (g:Val):Option (Val×Int):=
 match g with
 | ⟨b,c,d,a,e,f⟩=>
 bnd (qE (!(decide (((a.length:Nat):Int)>16384))) (uB n (Val.mk b c d a e f))) fun i=>
 bif(bif(decide (((a.length:Nat):Int)>16384))then true else(i != 0))then(
 some (Val.mk (0:Int) false (0:Int) ([]:SS) ([]:List Val) ([]:List SS),(8:Int)))
 else(
 some (Val.mk b c d a e f,(0:Int)))
theorem nj (n:Nat):∀ (a:Val) (r:Val×Int),gH n a=some r->qc TP 49 [PV.agg (qS.cells a)] (HZ r):=by
 intro a r h;obtain⟨_,_,_,_,_,_⟩:=a;unfold gH at h;refine zN Tryz.call49 Tryz.func49 [1000000] ?_;conv=>whnf
 refine⟨id,?_⟩;conv=>whnf
 refine bq h fun _ b h=>⟨_,fun c=>(ZC n _ _ (qb b c)),?_⟩;conv=>whnf
 refine⟨id,id,?_⟩;conv=>whnf
 apply ifc h<;>intro _ h
 ·obtain rfl:=sj h
  conv=>whnf
  try exact fin
 obtain rfl:=sj h;conv=>whnf
 try exact fin
abbrev Li (r:Val×Int):PV:=PV.tup [PV.agg (qS.cells r.1),PV.int .i64 r.2]
def nt (n p:Nat) (A:List Int) (s:List SS) (t:List Val):LK (Int×List Val×List SS) (Val×Int):=fun q (c,a,b)=>
 bif(decide (c<((((xO .i64 (List.replicate p (0:Int))).length):Nat):Int)))then(
 bnd (Qq c) fun d=>
 chk (decide (d<(xO .i64 (List.replicate p (0:Int))).length)) (
 bnd (A[d]?) fun e=>
 bnd (idx s e) fun f=>
 chk (decide ((qi (b++[f])).length * 16<=140737488355328)) (
 bnd (idx t e) fun⟨g,i,j,k,l,m⟩=>
 chk (decide ((Val.rows (a++[Val.mk g i j k l m])).length * 88<=140737488355328)) (
 q ((kwr .i64 (c+1)),(a++[Val.mk g i j k l m]),(b++[f]))))))
 else(
 bnd (uB n (Val.mk (5:Int) false (0:Int) ([]:SS) a b)) fun o=>
 bif(o != 0)then(
 some (Val.mk (0:Int) false (0:Int) ([]:SS) ([]:List Val) ([]:List SS),o))
 else(
 bnd (vf n (Val.mk (5:Int) false (0:Int) ([]:SS) a b)) fun⟨u,v,w,x,y,z⟩=>
 some (Val.mk u v w x y z,(0:Int))))
def ns (n b:Nat) (e:List SS) (g:List Val):LK (Int×List Int) (Val×Int):=fun f (a,c)=>
 bif(decide (a<((((xO .i64 (List.replicate b (0:Int))).length):Nat):Int)))then(
 bnd (Qq a) fun d=>
 chk (decide (d<(xO .i64 (List.replicate b (0:Int))).length)) (
 bnd (c[d]?) fun _=>
 f ((kwr .i64 (a+1)),(c.set d a))))
 else(
 bnd (Rv e c) fun i=>
 qA (nt n b i e g) n ((0:Int),([]:List _),([]:List _)))
def mM (n:Nat) (a:List SS) (c:List Val):Option (Val×Int):=
 bif(((qi a).length:Int) != ((Val.rows c).length:Int))then(
 some (Val.mk (0:Int) false (0:Int) ([]:SS) ([]:List Val) ([]:List SS),(20:Int)))
 else(
 bnd (Qq ((qi a).length:Int)) fun b=>
 chk (decide (b * 8<=140737488355328)) (
 qA (ns n b a c) n ((0:Int),(List.replicate b (0:Int)))))
theorem DC (n:Nat):∀ (d:List SS) (m:List Val) (r:Val×Int),mM n d m=some r->qc TP 51 [PV.sl (qi d),PV.sl (Val.rows m)] (Li r):=by
 intro d m r h;unfold mM at h;refine zN Tryz.call51 Tryz.func51 [77,10000020,1000000] ?_;conv=>whnf
 apply ifc h<;>intro v h
 ·obtain rfl:=sj h
  conv=>whnf
  try exact fin
 conv=>whnf
 refine bq h fun a H h=>?_;have q:=zC H;conv=>whnf
 obtain⟨y,h⟩:=qg h;refine⟨a,xO .i64 (List.replicate a (0:Int)),⟨q,q,kod y,zy y (by decide),Codec.made (qbp .i64) (0:Int) a rfl,rfl,by decide,rfl⟩,?_⟩;conv=>whnf
 refine zj.fn [77,10000020,1000000] (S:=Int×List Int) (fun(s,t)=>[(1,pV m),(2,.ptr 0 0),(4,.ptr 1 0),(6,.ptr 2 0),(22,.p (.int .i64 ((((xO .i64 (List.replicate a (0:Int))).length):Nat):Int))),(23,pI s)]) (fun(s,t)=>[.box 23 [pT d],zq6,.box 144 [.vsl 3 ((xO .i64 (List.replicate a (0:Int))).length)],.vec 3 1 (xO .i64 t)]) (B:=ns n a d m) h (wk [0,1,3,2] []) ?_;intro _ st h;obtain⟨s,t⟩:=st;unfold ns at h;conv=>whnf
 apply ifc h<;>intro v h
 ·conv=>whnf
  refine bq h fun w J h=>?_;have q:=zC J;conv=>whnf
  obtain⟨I,h⟩:=qg h;refine⟨w,⟨q,kod I⟩,?_⟩;conv=>whnf
  refine bq h fun _ C h=>⟨_,⟨rfl,Codec.getN (qbp .i64) C,rfl⟩,?_⟩;conv=>whnf
  refine⟨_,Codec.setN (qbp .i64) t w s,?_⟩;conv=>whnf
  exact⟨((kwr .i64 (s+1)),(t.set w s)),h,wk [0,1,2,3] []⟩
 conv=>whnf
 refine bq h fun x G h=>?_;refine qck (k:=3) (kn:=0) (ka:=2) rfl rfl rfl G (lo':=[.box 23 [pT d],zq6,.box 144 [.vsl 3 ((xO .i64 (List.replicate a (0:Int))).length)],.vec 3 1 (xO .i64 x)]) rfl ?_;conv=>whnf
 refine zj.fn [77,10000020,1000000] (S:=Int×List Val×List SS) (fun(u,b,c)=>[(1,pV m),(2,.ptr 0 0),(4,.ptr 1 0),(8,.ptr 2 0),(36,.vsl 3 ((xO .i64 (List.replicate a (0:Int))).length)),(37,.p (.int .i64 ((((xO .i64 (List.replicate a (0:Int))).length):Nat):Int))),(38,pI u)]) (fun(u,b,c)=>[.box 23 [pT d],zq6,.box 25 [.p (.int .i64 (5:Int)),pB false,zq0,zq1,.tsl 4 (Val.rows b),.tsl 5 (qi c)],.vec 3 1 (xO .i64 x),.tail 25 6 (Val.rows b).length,.tail 9 1 (qi c).length]) (B:=nt n a x d m) h (wk [0,1,4,3,0,0] [4,5]) ?_;intro _ st h;obtain⟨u,b,c⟩:=st;unfold nt at h;conv=>whnf
 apply ifc h<;>intro v h
 ·conv=>whnf
  refine bq h fun O D h=>?_;have q:=zC D;conv=>whnf
  obtain⟨N,h⟩:=qg h;refine⟨O,⟨q,kod N⟩,?_⟩;conv=>whnf
  refine bq h fun _ M h=>⟨_,⟨rfl,Codec.getN (qbp .i64) M⟩,?_⟩;conv=>whnf
  refine bq h fun e L h=>⟨_,Codec.at_ ca L,?_⟩;conv=>whnf
  refine⟨Codec.one ca [e],qi [e],.inl rfl,?_⟩;conv=>whnf
  rw[show qi c++qi [e]=qi (c++[e])from Codec.append ca c [e]];conv=>whnf
  obtain⟨A,h⟩:=qg h;refine⟨⟨Codec.wide ca (c++[e]),kod A,zy A (by decide)⟩,?_⟩;conv=>whnf
  refine⟨⟨rfl,rfl,rfl⟩,?_⟩;conv=>whnf
  refine bq h fun⟨f,g,i,j,l,o⟩ K h=>⟨_,Codec.at_ qS K,?_⟩;conv=>whnf
  refine⟨Codec.one qS [Val.mk f g i j l o],Val.rows [Val.mk f g i j l o],.inl rfl,?_⟩;conv=>whnf
  rw[show Val.rows b++Val.rows [Val.mk f g i j l o]=Val.rows (b++[Val.mk f g i j l o])from Codec.append qS b [Val.mk f g i j l o]];conv=>whnf
  obtain⟨z,h⟩:=qg h;refine⟨⟨Codec.wide qS (b++[Val.mk f g i j l o]),kod z,zy z (by decide)⟩,?_⟩;conv=>whnf
  refine⟨⟨rfl,rfl,rfl⟩,?_⟩;conv=>whnf
  exact⟨((kwr .i64 (u+1)),(b++[Val.mk f g i j l o]),(c++[e])),h,wk [0,1,2,3,7,6] []⟩
 conv=>whnf
 refine bq h fun _ F h=>⟨_,(ZC n _ _ F),?_⟩;conv=>whnf
 apply ifc h<;>intro v h
 ·obtain rfl:=sj h
  conv=>whnf
  try exact fin
 conv=>whnf
 refine bq h fun⟨_,_,_,_,_,_⟩ E h=>⟨_,(ml n _ _ E),?_⟩;obtain rfl:=sj h;conv=>whnf
 try exact fin
abbrev VQ (r:Bool):PV:=PV.bool r
def uO (n:Nat) (a:Int):Option (Bool):=
 some (a != a)
theorem pw (n:Nat):∀ (a:Int) (r:Bool),uO n a=some r->qc TP 212 [PV.int .i64 a] (VQ r):=by
 intro a r h;unfold uO at h;refine zN Tryz.call212 Tryz.func212 [1000000] ?_;obtain rfl:=sj h;conv=>whnf
 try exact fin
abbrev Xx (r:Int):PV:=PV.int .i64 r
def xd (n:Nat) (a b:Int):Option (Int):=
 bnd (uO n a) fun d=>
 bnd (uO n b) fun c=>
 bif d then(
 bif c then(
 some (0:Int))
 else(
 some (-1:Int)))
 else(
 bif c then(
 some (1:Int))
 else(
 bif(decide (a<b))then(
 some (-1:Int))
 else(
 bif(decide (a>b))then(
 some (1:Int))
 else(
 some (0:Int)))))
theorem fV (n:Nat):∀ (b c r:Int),xd n b c=some r->qc TP 185 [PV.int .i64 b,PV.int .i64 c] (Xx r):=by
 intro b c r h;unfold xd at h;refine zN Tryz.call185 Tryz.func185 [1000000] ?_;conv=>whnf
 refine bq h fun _ e h=>⟨_,(pw n _ _ e),?_⟩;conv=>whnf
 refine bq h fun _ d h=>⟨_,(pw n _ _ d),?_⟩;conv=>whnf
 apply ifc h<;>intro a h
 ·conv=>whnf
  apply ifc h<;>intro a h
  ·obtain rfl:=sj h
   conv=>whnf
   try exact fin
  obtain rfl:=sj h;conv=>whnf
  try exact fin
 conv=>whnf
 apply ifc h<;>intro a h
 ·obtain rfl:=sj h
  conv=>whnf
  try exact fin
 conv=>whnf
 apply ifc h<;>intro a h
 ·obtain rfl:=sj h
  conv=>whnf
  try exact fin
 conv=>whnf
 apply ifc h<;>intro a h
 ·obtain rfl:=sj h
  conv=>whnf
  try exact fin
 obtain rfl:=sj h;conv=>whnf
 try exact fin
abbrev FX (r:Int):PV:=PV.int .i64 r
def np (n:Nat) (a:Node):Option (Int):=
 match a with
 | ⟨b,_,_,_⟩=>
 some b
theorem Gm (n:Nat):∀ (a:Node) (r:Int),np n a=some r->qc TP 137 [PV.agg (Vs.cells a)] (FX r):=by
 intro a r h;obtain⟨_,_,_,_⟩:=a;unfold np at h;refine zN Tryz.call137 Tryz.func137 [1000000] ?_;obtain rfl:=sj h;conv=>whnf
 try exact fin
abbrev sy (r:Int):PV:=PV.int .i64 r
def xj (n:Nat) (a:Node) (f:Int) (_:Unit):Option (Int):=
 match a with
 | ⟨b,c,d,e⟩=>
 bnd (np n (Node.mk b c d e)) fun g=>
 bnd (xd n g f) fun i=>
 some i
theorem ck (n:Nat):∀ (a:Node) (b:Int) (c:Unit) (r:Int),xj n a b c=some r->qc TP 184 [PV.agg (Vs.cells a),PV.int .i64 b,PV.hp [PV.fn 137]] (sy r):=by
 intro a b c r h;obtain⟨_,_,_,_⟩:=a;unfold xj at h;refine zN Tryz.call184 Tryz.func184 [1000000] ?_;conv=>whnf
 refine bq h fun _ e h=>⟨_,(Gm n _ _ e),?_⟩;conv=>whnf
 refine bq h fun _ d h=>⟨_,(fV n _ _ _ d),?_⟩;obtain rfl:=sj h;conv=>whnf
 try exact fin
abbrev xu (r:Int×Bool):PV:=PV.tup [PV.int .i64 r.1,PV.bool r.2]
def qk (n:Nat) (b:List Node) (e:Int):LK (Int×Int) (Int×Bool):=fun d (a,c)=>
 bif(decide (a<c))then(
 bnd (idx b (kwr .i64 (Int.fdiv (kwr .u64 (kwr .i64 (a+c))) (2 ^ (min (Int.toNat (1:Int)) IntKind.u64.bits))))) fun⟨m,o,p,q⟩=>
 bnd (xj n (Node.mk m o p q) e ()) fun f=>
 bif(decide (f<0))then(
 d ((kwr .i64 ((kwr .i64 (Int.fdiv (kwr .u64 (kwr .i64 (a+c))) (2 ^ (min (Int.toNat (1:Int)) IntKind.u64.bits))))+1)),c))
 else(
 d (a,(kwr .i64 (Int.fdiv (kwr .u64 (kwr .i64 (a+c))) (2 ^ (min (Int.toNat (1:Int)) IntKind.u64.bits)))))))
 else(
 bnd (qE (decide (a<((Node.rows b).length:Int))) (idx b a)) fun⟨g,i,j,k⟩=>
 bnd (qE (decide (a<((Node.rows b).length:Int))) (xj n (Node.mk g i j k) e ())) fun l=>
 some (a,(bif(decide (a<((Node.rows b).length:Int)))then(l==0)else false)))
def qz (n:Nat) (a:List Node) (b:Int) (_:Unit):Option (Int×Bool):=
 qA (qk n a b) n ((0:Int),((Node.rows a).length:Int))
theorem xo (n:Nat):∀ (a:List Node) (d:Int) (f:Unit) (r:Int×Bool),qz n a d f=some r->qc TP 183 [PV.sl (Node.rows a),PV.int .i64 d,PV.clo 184 [PV.hp [PV.fn 137]]] (xu r):=by
 intro a d f r h;unfold qz at h;refine zN Tryz.call183 Tryz.func183 [1000000] ?_;conv=>whnf
 refine zj.fn [1000000] (S:=Int×Int) (fun(b,c)=>[(0,.p (.sl (Node.rows a))),(1,pI d),(2,.p (.clo 184 [PV.hp [PV.fn 137]])),(8,.p (.int .i64 ((Node.rows a).length:Int))),(9,pI b),(10,pI c)]) (fun(b,c)=>[]) (B:=qk n a d) h (wk [] []) ?_;intro _ st h;obtain⟨b,c⟩:=st;unfold qk at h;conv=>whnf
 apply ifc h<;>intro l h
 ·conv=>whnf
  refine⟨by unfold gI; decide,?_⟩;conv=>whnf
  refine bq h fun⟨_,_,_,_⟩ i h=>⟨_,Codec.at_ Vs i,?_⟩;conv=>whnf
  refine bq h fun _ g h=>⟨_,(ck n _ _ _ _ g),?_⟩;conv=>whnf
  apply ifc h<;>intro l h
  ·conv=>whnf
   exact⟨((kwr .i64 ((kwr .i64 (Int.fdiv (kwr .u64 (kwr .i64 (b+c))) (2 ^ (min (Int.toNat (1:Int)) IntKind.u64.bits))))+1)),c),h,wk [] []⟩
  conv=>whnf
  exact⟨(b,(kwr .i64 (Int.fdiv (kwr .u64 (kwr .i64 (b+c))) (2 ^ (min (Int.toNat (1:Int)) IntKind.u64.bits))))),h,wk [] []⟩
 conv=>whnf
 refine⟨id,id,?_⟩;conv=>whnf
 refine bq h fun⟨_,_,_,_⟩ k h=>⟨_,fun e=>Codec.at_ Vs (qb k e),?_⟩;conv=>whnf
 refine⟨id,id,id,id,?_⟩;conv=>whnf
 refine bq h fun _ j h=>⟨_,fun e=>(ck n _ _ _ _ (qb j e)),?_⟩;conv=>whnf
 refine⟨id,id,?_⟩;obtain rfl:=sj h;conv=>whnf
 try exact fin
abbrev dm (r:Int×Bool):PV:=PV.tup [PV.int .i64 r.1,PV.bool r.2]
def xf (n:Nat) (a:List Node) (b:Int):Option (Int×Bool):=
 bnd (qz n a b ()) fun⟨c,d⟩=>
 some (c,d)
theorem cY (n:Nat):∀ (a:List Node) (b:Int) (r:Int×Bool),xf n a b=some r->qc TP 136 [PV.sl (Node.rows a),PV.int .i64 b,PV.fn 137] (dm r):=by
 intro a b r h;unfold xf at h;refine zN Tryz.call136 Tryz.func136 [10000005,1000000] ?_;conv=>whnf
 refine bq h fun⟨_,_⟩ c h=>⟨_,(xo n _ _ _ _ c),?_⟩;obtain rfl:=sj h;conv=>whnf
 try exact fin
abbrev FU (r:List SS×List Val):PV:=PV.tup [PV.sl (qi r.1),PV.sl (Val.rows r.2)]
def vV (n:Nat) (k:List Val) (c:List SS):LK (List Val×Int) (List SS×List Val):=fun l (a,b)=>
 bif(decide (b<((Val.rows k).length:Int)))then(
 bnd (idx k b) fun⟨p,q,s,t,m,o⟩=>
 bnd (vf n (Val.mk p q s t m o)) fun⟨d,e,f,g,i,j⟩=>
 chk (decide ((Val.rows (a++[Val.mk d e f g i j])).length * 88<=140737488355328)) (
 l ((a++[Val.mk d e f g i j]),(kwr .i64 (b+1)))))
 else(
 chk (decide ((qi c).length * 16<=140737488355328)) (
 some (c,a)))
def fP (n:Nat) (b:List SS) (a:List Val):Option (List SS×List Val):=
 bnd (Qq ((Val.rows a).length:Int)) fun c=>
 chk (decide (c * 88<=140737488355328)) (
 qA (vV n a b) n (([]:List Val),(0:Int)))
theorem Qh (n:Nat):∀ (b:List SS) (j:List Val) (r:List SS×List Val),fP n b j=some r->qc TP 186 [PV.sl (qi b),PV.sl (Val.rows j)] (FU r):=by
 intro b j r h;unfold fP at h;refine zN Tryz.call186 Tryz.func186 [64,1000000] ?_;conv=>whnf
 refine bq h fun v t h=>?_;have u:=zC t;conv=>whnf
 obtain⟨m,h⟩:=qg h;refine⟨v,⟨rfl,u,kod m,zy m (by decide)⟩,?_⟩;conv=>whnf
 refine zj.fn [64,1000000] (S:=List Val×Int) (fun(a,k)=>[(0,pT b),(6,.tsl 0 (Val.rows a)),(12,pV j),(13,.p (.int .i64 ((Val.rows j).length:Int))),(14,pI k)]) (fun(a,k)=>[.tail 25 6 (Val.rows a).length]) (B:=vV n j b) h (wk [0] []) ?_;intro _ st h;obtain⟨a,k⟩:=st;unfold vV at h;conv=>whnf
 apply ifc h<;>intro _ h
 ·conv=>whnf
  refine bq h fun⟨_,_,_,_,_,_⟩ q h=>⟨_,Codec.at_ qS q,?_⟩;conv=>whnf
  refine bq h fun⟨c,d,e,f,g,i⟩ o h=>⟨_,(ml n _ _ o),?_⟩;conv=>whnf
  refine⟨Codec.one qS [Val.mk c d e f g i],Val.rows [Val.mk c d e f g i],.inl rfl,?_⟩;conv=>whnf
  rw[show Val.rows a++Val.rows [Val.mk c d e f g i]=Val.rows (a++[Val.mk c d e f g i])from Codec.append qS a [Val.mk c d e f g i]];conv=>whnf
  obtain⟨l,h⟩:=qg h;refine⟨⟨Codec.wide qS (a++[Val.mk c d e f g i]),kod l,zy l (by decide)⟩,?_⟩;conv=>whnf
  refine⟨⟨rfl,rfl,rfl⟩,?_⟩;conv=>whnf
  exact⟨((a++[Val.mk c d e f g i]),(kwr .i64 (k+1))),h,wk [2] []⟩
 conv=>whnf
 obtain⟨s,h⟩:=qg h;refine zU (Ho b (kod s)) [] [] ?_;rintro _ _ ⟨rfl,rfl⟩;refine⟨.tsl 1 (qi b),[.tail 25 6 (Val.rows a).length,.tail 9 1 (qi b).length],rfl,rfl,?_⟩;obtain rfl:=sj h;conv=>whnf
 try exact fin
abbrev Uu (r:Node):PV:=PV.agg (Vs.cells r)
def fA (n:Nat) (b:Node):Option (Node):=
 match b with
 | ⟨c,a,d,e⟩=>
 chk (decide ((qi a).length * 16<=140737488355328)) (
 bnd (fP n d e) fun⟨f,g⟩=>
 some (Node.mk c a f g))
theorem VN (n:Nat):∀ (a r:Node),fA n a=some r->qc TP 138 [PV.agg (Vs.cells a)] (Uu r):=by
 intro a r h;obtain⟨e,b,f,g⟩:=a;unfold fA at h;refine zN Tryz.call138 Tryz.func138 [64,1000000] ?_;conv=>whnf
 obtain⟨d,h⟩:=qg h;refine zU (Ho b (kod d)) [] [] ?_;rintro _ _ ⟨rfl,rfl⟩;refine⟨.tsl 2 (qi b),[.box 99 [pI e,pT b,pT f,pV g],.box 99 [zq0,zq2,zq2,zq2],.tail 9 1 (qi b).length],rfl,rfl,?_⟩;conv=>whnf
 refine bq h fun⟨_,_⟩ c h=>⟨_,(Qh n _ _ _ c),?_⟩;obtain rfl:=sj h;conv=>whnf
 try exact fin
abbrev Ei (r:Node×Bool):PV:=PV.tup [PV.agg (Vs.cells r.1),PV.bool r.2]
def fk (n:Nat) (b:Graph) (g:Int):Option (Node×Bool):=
 match b with
 | ⟨a,_⟩=>
 bnd (xf n a g) fun⟨i,j⟩=>
 bif(!j)then(
 some (Node.mk (0:Int) ([]:List SS) ([]:List SS) ([]:List Val),false))
 else(
 bnd (idx a i) fun⟨k,l,m,o⟩=>
 bnd (fA n (Node.mk k l m o)) fun⟨c,d,e,f⟩=>
 some (Node.mk c d e f,true))
theorem sn (n:Nat):∀ (a:Graph) (b:Int) (r:Node×Bool),fk n a b=some r->qc TP 80 [PV.agg (EK.cells a),PV.int .i64 b] (Ei r):=by
 intro a b r h;obtain⟨_,_⟩:=a;unfold fk at h;refine zN Tryz.call80 Tryz.func80 [1000000] ?_;conv=>whnf
 refine bq h fun⟨_,_⟩ e h=>⟨_,(cY n _ _ _ e),?_⟩;conv=>whnf
 apply ifc h<;>intro _ h
 ·obtain rfl:=sj h
  conv=>whnf
  try exact fin
 conv=>whnf
 refine bq h fun⟨_,_,_,_⟩ d h=>⟨_,Codec.at_ Vs d,?_⟩;conv=>whnf
 refine bq h fun⟨_,_,_,_⟩ c h=>⟨_,(VN n _ _ c),?_⟩;obtain rfl:=sj h;conv=>whnf
 try exact fin
abbrev FW (r:Int):PV:=PV.int .i64 r
def nn (n:Nat) (a:Edge):Option (Int):=
 match a with
 | ⟨b,_,_,_,_,_⟩=>
 some b
theorem Gl (n:Nat):∀ (a:Edge) (r:Int),nn n a=some r->qc TP 181 [PV.agg (GF.cells a)] (FW r):=by
 intro a r h;obtain⟨_,_,_,_,_,_⟩:=a;unfold nn at h;refine zN Tryz.call181 Tryz.func181 [1000000] ?_;obtain rfl:=sj h;conv=>whnf
 try exact fin
abbrev sw (r:Int):PV:=PV.int .i64 r
def xi (n:Nat) (a:Edge) (j:Int) (_:Unit):Option (Int):=
 match a with
 | ⟨b,d,e,f,g,i⟩=>
 bnd (nn n (Edge.mk b d e f g i)) fun k=>
 bnd (xd n k j) fun c=>
 some c
theorem ch (n:Nat):∀ (a:Edge) (b:Int) (c:Unit) (r:Int),xi n a b c=some r->qc TP 211 [PV.agg (GF.cells a),PV.int .i64 b,PV.hp [PV.fn 181]] (sw r):=by
 intro a b c r h;obtain⟨_,_,_,_,_,_⟩:=a;unfold xi at h;refine zN Tryz.call211 Tryz.func211 [1000000] ?_;conv=>whnf
 refine bq h fun _ e h=>⟨_,(Gl n _ _ e),?_⟩;conv=>whnf
 refine bq h fun _ d h=>⟨_,(fV n _ _ _ d),?_⟩;obtain rfl:=sj h;conv=>whnf
 try exact fin
abbrev xr (r:Int×Bool):PV:=PV.tup [PV.int .i64 r.1,PV.bool r.2]
def qj (n:Nat) (b:List Edge) (e:Int):LK (Int×Int) (Int×Bool):=fun d (a,c)=>
 bif(decide (a<c))then(
 bnd (idx b (kwr .i64 (Int.fdiv (kwr .u64 (kwr .i64 (a+c))) (2 ^ (min (Int.toNat (1:Int)) IntKind.u64.bits))))) fun⟨s,t,u,v,f,g⟩=>
 bnd (xi n (Edge.mk s t u v f g) e ()) fun i=>
 bif(decide (i<0))then(
 d ((kwr .i64 ((kwr .i64 (Int.fdiv (kwr .u64 (kwr .i64 (a+c))) (2 ^ (min (Int.toNat (1:Int)) IntKind.u64.bits))))+1)),c))
 else(
 d (a,(kwr .i64 (Int.fdiv (kwr .u64 (kwr .i64 (a+c))) (2 ^ (min (Int.toNat (1:Int)) IntKind.u64.bits)))))))
 else(
 bnd (qE (decide (a<((Edge.rows b).length:Int))) (idx b a)) fun⟨j,k,l,m,o,p⟩=>
 bnd (qE (decide (a<((Edge.rows b).length:Int))) (xi n (Edge.mk j k l m o p) e ())) fun q=>
 some (a,(bif(decide (a<((Edge.rows b).length:Int)))then(q==0)else false)))
def qy (n:Nat) (a:List Edge) (b:Int) (_:Unit):Option (Int×Bool):=
 qA (qj n a b) n ((0:Int),((Edge.rows a).length:Int))
theorem xn (n:Nat):∀ (a:List Edge) (d:Int) (f:Unit) (r:Int×Bool),qy n a d f=some r->qc TP 210 [PV.sl (Edge.rows a),PV.int .i64 d,PV.clo 211 [PV.hp [PV.fn 181]]] (xr r):=by
 intro a d f r h;unfold qy at h;refine zN Tryz.call210 Tryz.func210 [1000000] ?_;conv=>whnf
 refine zj.fn [1000000] (S:=Int×Int) (fun(b,c)=>[(0,.p (.sl (Edge.rows a))),(1,pI d),(2,.p (.clo 211 [PV.hp [PV.fn 181]])),(8,.p (.int .i64 ((Edge.rows a).length:Int))),(9,pI b),(10,pI c)]) (fun(b,c)=>[]) (B:=qj n a d) h (wk [] []) ?_;intro _ st h;obtain⟨b,c⟩:=st;unfold qj at h;conv=>whnf
 apply ifc h<;>intro l h
 ·conv=>whnf
  refine⟨by unfold gI; decide,?_⟩;conv=>whnf
  refine bq h fun⟨_,_,_,_,_,_⟩ i h=>⟨_,Codec.at_ GF i,?_⟩;conv=>whnf
  refine bq h fun _ g h=>⟨_,(ch n _ _ _ _ g),?_⟩;conv=>whnf
  apply ifc h<;>intro l h
  ·conv=>whnf
   exact⟨((kwr .i64 ((kwr .i64 (Int.fdiv (kwr .u64 (kwr .i64 (b+c))) (2 ^ (min (Int.toNat (1:Int)) IntKind.u64.bits))))+1)),c),h,wk [] []⟩
  conv=>whnf
  exact⟨(b,(kwr .i64 (Int.fdiv (kwr .u64 (kwr .i64 (b+c))) (2 ^ (min (Int.toNat (1:Int)) IntKind.u64.bits))))),h,wk [] []⟩
 conv=>whnf
 refine⟨id,id,?_⟩;conv=>whnf
 refine bq h fun⟨_,_,_,_,_,_⟩ k h=>⟨_,fun e=>Codec.at_ GF (qb k e),?_⟩;conv=>whnf
 refine⟨id,id,id,id,?_⟩;conv=>whnf
 refine bq h fun _ j h=>⟨_,fun e=>(ch n _ _ _ _ (qb j e)),?_⟩;conv=>whnf
 refine⟨id,id,?_⟩;obtain rfl:=sj h;conv=>whnf
 try exact fin
abbrev dj (r:Int×Bool):PV:=PV.tup [PV.int .i64 r.1,PV.bool r.2]
def xe (n:Nat) (a:List Edge) (b:Int):Option (Int×Bool):=
 bnd (qy n a b ()) fun⟨c,d⟩=>
 some (c,d)
theorem cX (n:Nat):∀ (a:List Edge) (b:Int) (r:Int×Bool),xe n a b=some r->qc TP 180 [PV.sl (Edge.rows a),PV.int .i64 b,PV.fn 181] (dj r):=by
 intro a b r h;unfold xe at h;refine zN Tryz.call180 Tryz.func180 [10000005,1000000] ?_;conv=>whnf
 refine bq h fun⟨_,_⟩ c h=>⟨_,(xn n _ _ _ _ c),?_⟩;obtain rfl:=sj h;conv=>whnf
 try exact fin
abbrev Ut (r:Edge):PV:=PV.agg (GF.cells r)
def fz (n:Nat) (a:Edge):Option (Edge):=
 match a with
 | ⟨b,c,d,e,f,g⟩=>
 bnd (fP n f g) fun⟨i,j⟩=>
 some (Edge.mk b c d e i j)
theorem VM (n:Nat):∀ (a r:Edge),fz n a=some r->qc TP 182 [PV.agg (GF.cells a)] (Ut r):=by
 intro a r h;obtain⟨_,_,_,_,_,_⟩:=a;unfold fz at h;refine zN Tryz.call182 Tryz.func182 [1000000] ?_;conv=>whnf
 refine bq h fun⟨_,_⟩ b h=>⟨_,(Qh n _ _ _ b),?_⟩;obtain rfl:=sj h;conv=>whnf
 try exact fin
abbrev Eh (r:Edge×Bool):PV:=PV.tup [PV.agg (GF.cells r.1),PV.bool r.2]
def cG (n:Nat) (b:Graph) (l:Int):Option (Edge×Bool):=
 match b with
 | ⟨_,a⟩=>
 bnd (xe n a l) fun⟨m,o⟩=>
 bif(!o)then(
 some (Edge.mk (0:Int) (0:Int) (0:Int) ([]:SS) ([]:List SS) ([]:List Val),false))
 else(
 bnd (idx a m) fun⟨p,q,s,t,c,d⟩=>
 bnd (fz n (Edge.mk p q s t c d)) fun⟨e,f,g,i,j,k⟩=>
 some (Edge.mk e f g i j k,true))
theorem Xq (n:Nat):∀ (a:Graph) (b:Int) (r:Edge×Bool),cG n a b=some r->qc TP 135 [PV.agg (EK.cells a),PV.int .i64 b] (Eh r):=by
 intro a b r h;obtain⟨_,_⟩:=a;unfold cG at h;refine zN Tryz.call135 Tryz.func135 [1000000] ?_;conv=>whnf
 refine bq h fun⟨_,_⟩ e h=>⟨_,(cX n _ _ _ e),?_⟩;conv=>whnf
 apply ifc h<;>intro _ h
 ·obtain rfl:=sj h
  conv=>whnf
  try exact fin
 conv=>whnf
 refine bq h fun⟨_,_,_,_,_,_⟩ d h=>⟨_,Codec.at_ GF d,?_⟩;conv=>whnf
 refine bq h fun⟨_,_,_,_,_,_⟩ c h=>⟨_,(VM n _ _ c),?_⟩;obtain rfl:=sj h;conv=>whnf
 try exact fin
end W
end
