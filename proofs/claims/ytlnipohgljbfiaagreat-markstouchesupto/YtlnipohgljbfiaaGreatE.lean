/- A part of the proof: contracts, printed by program. -/
import Derived.Test.YtlnipohgljbfiaaGreatB
import Derived.Test.YtlnipohgljbfiaaGreatC
import Derived.Test.YtlnipohgljbfiaaGreatD
set_option linter.unusedVariables false
set_option linter.unusedSimpArgs false
set_option linter.unnecessarySimpa false
set_option linter.deprecated false
set_option linter.unusedSectionVars false
set_option linter.constructorNameAsVariable false
open Go.IntKind renaming wrap->kwr,bits->kbt
section
set_option maxRecDepth 100000
set_option maxHeartbeats 4000000
open Go Go.Proofs Ax
namespace W
abbrev Lp (r:List qR×Bool):PV:=PV.tup [PV.sl (qR.rows r.1),PV.bool r.2]
def fH (n:Nat) (a:Int) (m:List zx) (s:List qe) (w:Int) (x:SS) (y:Int) (z:Bool) (A:Int) (B:SS) (g:List Val) (i j:List SS) (k:List qe) (l:SS) (b:List xM) (c:Bool) (d:List qS) (e f:List qe) (o:List qj) (p:List SS) (q:Bool):List qR×List qe->Option (List qR×Bool):=fun(t,u)=>
 bnd (xX n (qd.mk a m s (qe.mk w x (Val.mk y z A B g i) j k) l b c d e f o p q) (qd.mk a ([]:List zx) u (qe.mk (0:Int) ([]:SS) (Val.mk (0:Int) false (0:Int) ([]:SS) ([]:List Val) ([]:List SS)) ([]:List SS) ([]:List qe)) ([]:SS) b c d e f ([]:List qj) ([]:List SS) false)) fun v=>
 some (t,v)
def cU (n:Nat) (a:Int) (o:List zx) (s:List qe) (u:Int) (x:SS) (y:Int) (z:Bool) (A:Int) (B:SS) (c:List Val) (d e:List SS) (f:List qe) (g:SS) (i:List xM) (j:Bool) (k:List qS) (l m:List qe) (b:List qj) (p:List SS) (q:Bool) (t:List zr):SS->Option (List qR×Bool):=fun v=>
 bnd (xX n (qd.mk a o s (qe.mk u x (Val.mk y z A B c d) e f) g i j k l m b p q) (qd.mk a ([]:List zx) ([]:List qe) (qe.mk (0:Int) ([]:SS) (Val.mk (0:Int) false (0:Int) ([]:SS) ([]:List Val) ([]:List SS)) ([]:List SS) ([]:List qe)) ([]:SS) ([]:List xM) false ([]:List qS) ([]:List qe) ([]:List qe) b ([]:List SS) false)) fun w=>
 some ([qR.mk v t (1:Int) (1048576:Int)],w)
def cV (n:Nat) (a:Int) (p:List zx) (t:List qe) (u:Int) (w:SS) (y:Int) (z:Bool) (A:Int) (B:SS) (d:List Val) (e f:List SS) (g:List qe) (i:SS) (j:List xM) (k:Bool) (l:List qS) (m o:List qe) (q:List qj) (b:List SS) (c:Bool) (s:List zr):SS->Option (List qR×Bool):=fun v=>
 bnd (xX n (qd.mk a p t (qe.mk u w (Val.mk y z A B d e) f g) i j k l m o q b c) (qd.mk a ([]:List zx) ([]:List qe) (qe.mk (0:Int) ([]:SS) (Val.mk (0:Int) false (0:Int) ([]:SS) ([]:List Val) ([]:List SS)) ([]:List SS) ([]:List qe)) ([]:SS) ([]:List xM) false ([]:List qS) ([]:List qe) ([]:List qe) ([]:List qj) b c)) fun x=>
 some ([qR.mk v s (1:Int) (1048576:Int)],x)
def bg (n:Nat) (a:Int) (o:List zx) (s:List qe) (t:Int) (u:SS) (v:Int) (w:Bool) (x:Int) (y:SS) (c:List Val) (d e:List SS) (f:List qe) (g:SS) (i:List xM) (j:Bool) (k:List qS) (l m:List qe) (p:List qj) (q:List SS) (b:Bool) (A z:List zr):Bool->Option (List qR×Bool):=fun B=>
 bif B then(
 bif(a==7)then(
 cU n a o s t u v w x y c d e f g i j k l m p q b A ([82,69,77,79,86,69,32]:SS))
 else(
 cU n a o s t u v w x y c d e f g i j k l m p q b A ([83,69,84,32]:SS)))
 else(
 bif(a==8)then(
 bif b then(
 cV n a o s t u v w x y c d e f g i j k l m p q b z ([68,69,84,65,67,72,32,68,69,76,69,84,69,32]:SS))
 else(
 cV n a o s t u v w x y c d e f g i j k l m p q b z ([68,69,76,69,84,69,32]:SS)))
 else(
 bnd (xX n (qd.mk a o s (qe.mk t u (Val.mk v w x y c d) e f) g i j k l m p q b) (qd.mk a ([]:List zx) ([]:List qe) (qe.mk (0:Int) ([]:SS) (Val.mk (0:Int) false (0:Int) ([]:SS) ([]:List Val) ([]:List SS)) ([]:List SS) ([]:List qe)) ([]:SS) ([]:List xM) false ([]:List qS) ([]:List qe) ([]:List qe) ([]:List qj) ([]:List SS) false)) fun C=>
 some (([]:List qR),C)))
def fG (n:Nat) (c:SS) (u v:List zr) (w x:List zr) (a:Int) (F:List zr) (b:List zx) (d:List qe) (y:Int) (z:SS) (A:Int) (B:Bool) (C:Int) (D:SS) (e:List Val) (f g:List SS) (i:List qe) (j:SS) (k:List xM) (l:Bool) (m:List qS) (o p:List qe) (q:List qj) (s:List SS) (t:Bool) (E H G:List zr):Bool->Option (List qR×Bool):=fun L=>
 bif L then(
 chk (decide (((([82,69,84,85,82,78,32]:SS).length+c.length:Nat):Int)<=xr)) (
 chk (decide ((qR.rows ([qR.mk (([82,69,84,85,82,78,32]:SS)++c) u (1:Int) (1048576:Int)]++[qR.mk ([32,79,82,68,69,82,32,66,89,32]:SS) v (0:Int) (1048576:Int),qR.mk ([32,83,75,73,80,32]:SS) w (0:Int) (1:Int),qR.mk ([32,76,73,77,73,84,32]:SS) x (0:Int) (1:Int)])).length * 56<=140737488355328)) (
 bif(a==3)then(
 chk (decide (((([87,73,84,72,32]:SS).length+c.length:Nat):Int)<=xr)) (
 chk (decide (0<(qR.rows ([qR.mk (([82,69,84,85,82,78,32]:SS)++c) u (1:Int) (1048576:Int)]++[qR.mk ([32,79,82,68,69,82,32,66,89,32]:SS) v (0:Int) (1048576:Int),qR.mk ([32,83,75,73,80,32]:SS) w (0:Int) (1:Int),qR.mk ([32,76,73,77,73,84,32]:SS) x (0:Int) (1:Int)])).length)) (
 bnd (([qR.mk (([82,69,84,85,82,78,32]:SS)++c) u (1:Int) (1048576:Int)]++[qR.mk ([32,79,82,68,69,82,32,66,89,32]:SS) v (0:Int) (1048576:Int),qR.mk ([32,83,75,73,80,32]:SS) w (0:Int) (1:Int),qR.mk ([32,76,73,77,73,84,32]:SS) x (0:Int) (1:Int)])[0]?) fun⟨_,I,J,K⟩=>
 chk (decide ((qR.rows ((([qR.mk (([82,69,84,85,82,78,32]:SS)++c) u (1:Int) (1048576:Int)]++[qR.mk ([32,79,82,68,69,82,32,66,89,32]:SS) v (0:Int) (1048576:Int),qR.mk ([32,83,75,73,80,32]:SS) w (0:Int) (1:Int),qR.mk ([32,76,73,77,73,84,32]:SS) x (0:Int) (1:Int)]).set 0 (qR.mk (([87,73,84,72,32]:SS)++c) I J K))++[qR.mk ([32,87,72,69,82,69,32]:SS) F (0:Int) (1:Int)])).length * 56<=140737488355328)) (
 fH n a b d y z A B C D e f g i j k l m o p q s t (((([qR.mk (([82,69,84,85,82,78,32]:SS)++c) u (1:Int) (1048576:Int)]++[qR.mk ([32,79,82,68,69,82,32,66,89,32]:SS) v (0:Int) (1048576:Int),qR.mk ([32,83,75,73,80,32]:SS) w (0:Int) (1:Int),qR.mk ([32,76,73,77,73,84,32]:SS) x (0:Int) (1:Int)]).set 0 (qR.mk (([87,73,84,72,32]:SS)++c) I J K))++[qR.mk ([32,87,72,69,82,69,32]:SS) F (0:Int) (1:Int)]),d)))))
 else(
 fH n a b d y z A B C D e f g i j k l m o p q s t (([qR.mk (([82,69,84,85,82,78,32]:SS)++c) u (1:Int) (1048576:Int)]++[qR.mk ([32,79,82,68,69,82,32,66,89,32]:SS) v (0:Int) (1048576:Int),qR.mk ([32,83,75,73,80,32]:SS) w (0:Int) (1:Int),qR.mk ([32,76,73,77,73,84,32]:SS) x (0:Int) (1:Int)]),([]:List _))))))
 else(
 bif(a==4)then(
 bnd (xX n (qd.mk a b d (qe.mk y z (Val.mk A B C D e f) g i) j k l m o p q s t) (qd.mk a b ([]:List qe) (qe.mk (0:Int) ([]:SS) (Val.mk (0:Int) false (0:Int) ([]:SS) ([]:List Val) ([]:List SS)) ([]:List SS) ([]:List qe)) ([]:SS) ([]:List xM) false ([]:List qS) ([]:List qe) ([]:List qe) ([]:List qj) ([]:List SS) false)) fun M=>
 some ([qR.mk ([67,82,69,65,84,69,32]:SS) E (1:Int) (1048576:Int)],M))
 else(
 bif(a==5)then(
 bnd (qD (((zx.rows b).length:Int)==1) (idx b (0:Int))) fun⟨_,N⟩=>
 bif(bif(((zx.rows b).length:Int)==1)then(decide (((qy.rows N).length:Int)>0))else false)then(
 some (([]:List qR),false))
 else(
 bnd (xX n (qd.mk a b d (qe.mk y z (Val.mk A B C D e f) g i) j k l m o p q s t) (qd.mk a b ([]:List qe) (qe.mk (0:Int) ([]:SS) (Val.mk (0:Int) false (0:Int) ([]:SS) ([]:List Val) ([]:List SS)) ([]:List SS) ([]:List qe)) ([]:SS) ([]:List xM) false ([]:List qS) ([]:List qe) ([]:List qe) ([]:List qj) ([]:List SS) false)) fun O=>
 some ([qR.mk ([77,69,82,71,69,32]:SS) E (1:Int) (1:Int)],O)))
 else(
 bif(a==6)then(
 bg n a b d y z A B C D e f g i j k l m o p q s t H G (a==6))
 else(
 bg n a b d y z A B C D e f g i j k l m o p q s t H G (a==7)))))
def fF (n:Nat) (a:Int) (o:List zx) (p:List qe) (g:Int) (i:SS) (j:Int) (k:Bool) (l:Int) (m:SS) (b:List Val) (c d:List SS) (e:List qe) (f:SS) (q:List xM) (s:Bool) (t:List qS) (u v:List qe) (w:List qj) (x:List SS) (y:Bool) (z A:List zr) (B C:List zr) (D E:List zr) (G F:List zr):SS->Option (List qR×Bool):=fun H=>
 bif(a==1)then(
 bnd (xX n (qd.mk a o p (qe.mk g i (Val.mk j k l m b c) d e) f q s t u v w x y) (qd.mk a o p (qe.mk (0:Int) ([]:SS) (Val.mk (0:Int) false (0:Int) ([]:SS) ([]:List Val) ([]:List SS)) ([]:List SS) ([]:List qe)) ([]:SS) ([]:List xM) false ([]:List qS) ([]:List qe) ([]:List qe) ([]:List qj) ([]:List SS) false)) fun I=>
 some ([qR.mk ([77,65,84,67,72,32]:SS) z (1:Int) (1048576:Int),qR.mk ([32,87,72,69,82,69,32]:SS) A (0:Int) (1:Int)],I))
 else(
 bif(a==2)then(
 bnd (xX n (qd.mk a o p (qe.mk g i (Val.mk j k l m b c) d e) f q s t u v w x y) (qd.mk a ([]:List zx) ([]:List qe) (qe.mk g i (Val.mk j k l m b c) d e) f ([]:List xM) false ([]:List qS) ([]:List qe) ([]:List qe) ([]:List qj) ([]:List SS) false)) fun J=>
 some ([qR.mk ([85,78,87,73,78,68,32]:SS) [(zr.expr (qe.mk g i (Val.mk j k l m b c) d e))] (1:Int) (1:Int),qR.mk ([32,65,83,32]:SS) [(zr.name f)] (1:Int) (1:Int)],J))
 else(
 bif(a==3)then(
 fG n H B C D E a A o p g i j k l m b c d e f q s t u v w x y z G F (a==3))
 else(
 fG n H B C D E a A o p g i j k l m b c d e f q s t u v w x y z G F (a==9))))
def mW (n:Nat) (H:qd):Option (List qR×Bool):=
 match H with
 | ⟨k,f,j,⟨t,u,⟨v,w,x,y,l,m⟩,o,p⟩,q,a,b,c,d,e,g,i,s⟩=>
 bnd (xA n f) fun z=>
 bnd (xu n j) fun A=>
 bnd (xz n a) fun B=>
 bnd (xB n c) fun C=>
 bnd (xw n d) fun D=>
 bnd (xy n e) fun E=>
 bnd (xO n i) fun F=>
 bnd (xf n g (qd.mk k f j (qe.mk t u (Val.mk v w x y l m) o p) q a b c d e g i s)) fun G=>
 bif b then(
 fF n k f j t u v w x y l m o p q a b c d e g i s z A B C D E G F ([68,73,83,84,73,78,67,84,32]:SS))
 else(
 fF n k f j t u v w x y l m o p q a b c d e g i s z A B C D E G F ([]:SS))
theorem Ed (n:Nat):∀ (M:qd) (r:List qR×Bool),mW n M=some r->qb TP 102 [PV.agg (xN.cells M)] (Lp r):=by
 intro M r h;obtain⟨a,y,s,⟨i,j,⟨k,l,m,o,c,d⟩,e,f⟩,g,t,u,v,w,x,z,A,B⟩:=M;unfold mW at h;refine zN Tryz.call102 Tryz.func102 [10000001,10000092,40000015,40000017,40000024,40000025,40000043,50000064,50000083,50000120,50000121,50000122,50000123,50000179,60002001,60006005,1000000] ?_;conv=>whnf
 refine bq h fun H b2 h=>⟨_,(nV n _ _ b2),?_⟩;conv=>whnf
 refine bq h fun F b1 h=>⟨_,(nR n _ _ b1),?_⟩;conv=>whnf
 refine bq h fun G b0 h=>⟨_,(nU n _ _ b0),?_⟩;conv=>whnf
 refine bq h fun C a9 h=>⟨_,(nW n _ _ a9),?_⟩;conv=>whnf
 refine bq h fun D a7 h=>⟨_,(nS n _ _ a7),?_⟩;conv=>whnf
 refine bq h fun E a6 h=>⟨_,(nT n _ _ a6),?_⟩;conv=>whnf
 refine⟨Codec.one Zn [qR.mk ([32,79,82,68,69,82,32,66,89,32]:SS) C (0:Int) (1048576:Int),qR.mk ([32,83,75,73,80,32]:SS) D (0:Int) (1:Int),qR.mk ([32,76,73,77,73,84,32]:SS) E (0:Int) (1:Int)],qR.rows [qR.mk ([32,79,82,68,69,82,32,66,89,32]:SS) C (0:Int) (1048576:Int),qR.mk ([32,83,75,73,80,32]:SS) D (0:Int) (1:Int),qR.mk ([32,76,73,77,73,84,32]:SS) E (0:Int) (1:Int)],.inl rfl,?_⟩;conv=>whnf
 refine bq h fun I a5 h=>⟨_,(rM n _ _ a5),?_⟩;conv=>whnf
 refine bq h fun J a4 h=>⟨_,(mf n _ _ _ a4),?_⟩;conv=>whnf
 refine cY.cut (S:=SS) (fun b=>[(1,.hptr [PV.int .i64 a,PV.sl (zx.rows y),PV.sl (qe.rows s),PV.int .i64 i,PV.str j,PV.int .i64 k,PV.bool l,PV.int .i64 m,PV.str o,PV.sl (Val.rows c),PV.sl (qi d),PV.sl (qi e),PV.sl (qe.rows f),PV.str g,PV.sl (xM.rows t),PV.bool u,PV.sl (qS.rows v),PV.sl (qe.rows w),PV.sl (qe.rows x),PV.sl (qj.rows z),PV.sl (qi A),PV.bool B]),(4,.ptr 0 0),(5,.ptr 1 0),(6,.ptr 2 0),(7,.p (.sl (qR.rows [qR.mk ([32,79,82,68,69,82,32,66,89,32]:SS) C (0:Int) (1048576:Int),qR.mk ([32,83,75,73,80,32]:SS) D (0:Int) (1:Int),qR.mk ([32,76,73,77,73,84,32]:SS) E (0:Int) (1:Int)]))),(8,.ptr 3 0),(9,.ptr 4 0),(10,pS b)]) (fun b=>[.box 160 [zq1,.p (.sl (zr.rows H)),.p (.int .i64 (1:Int)),.p (.int .i64 (1048576:Int))],.box 160 [.p (.str ([32,87,72,69,82,69,32]:SS)),.p (.sl (zr.rows F)),zq0,.p (.int .i64 (1:Int))],.box 160 [zq1,.p (.sl (zr.rows G)),.p (.int .i64 (1:Int)),.p (.int .i64 (1048576:Int))],.box 160 [.p (.str ([68,69,76,69,84,69,32]:SS)),.p (.sl (zr.rows I)),.p (.int .i64 (1:Int)),.p (.int .i64 (1048576:Int))],.box 160 [zq1,.p (.sl (zr.rows J)),.p (.int .i64 (1:Int)),.p (.int .i64 (1048576:Int))]]) (fF n a y s i j k l m o c d e f g t u v w x z A B H F G C D E J I) (r:=r) ?_ ?_
 ·intro b h
  unfold fF at h;conv=>whnf
  refine cY.go ?_;conv=>whnf
  apply ifc h<;>intro q h
  ·conv=>whnf
   refine⟨Codec.one Zn [qR.mk ([77,65,84,67,72,32]:SS) H (1:Int) (1048576:Int),qR.mk ([32,87,72,69,82,69,32]:SS) F (0:Int) (1:Int)],qR.rows [qR.mk ([77,65,84,67,72,32]:SS) H (1:Int) (1048576:Int),qR.mk ([32,87,72,69,82,69,32]:SS) F (0:Int) (1:Int)],.inl rfl,?_⟩;conv=>whnf
   refine bq h fun _ X h=>⟨_,(qb.leArgs (uJ n _ _ _ X) (by try exact fin)),?_⟩;obtain rfl:=sj h;conv=>whnf
   try exact fin
  conv=>whnf
  apply ifc h<;>intro q h
  ·conv=>whnf
   refine⟨Codec.one Qm [(zr.expr (qe.mk i j (Val.mk k l m o c d) e f))],zr.rows [(zr.expr (qe.mk i j (Val.mk k l m o c d) e f))],.inl rfl,?_⟩;conv=>whnf
   refine⟨Codec.one Qm [(zr.name g)],zr.rows [(zr.name g)],.inl rfl,?_⟩;conv=>whnf
   refine⟨Codec.one Zn [qR.mk ([85,78,87,73,78,68,32]:SS) [(zr.expr (qe.mk i j (Val.mk k l m o c d) e f))] (1:Int) (1:Int),qR.mk ([32,65,83,32]:SS) [(zr.name g)] (1:Int) (1:Int)],qR.rows [qR.mk ([85,78,87,73,78,68,32]:SS) [(zr.expr (qe.mk i j (Val.mk k l m o c d) e f))] (1:Int) (1:Int),qR.mk ([32,65,83,32]:SS) [(zr.name g)] (1:Int) (1:Int)],.inl rfl,?_⟩;conv=>whnf
   refine bq h fun _ a8 h=>⟨_,(qb.leArgs (uJ n _ _ _ a8) (by try exact fin)),?_⟩;obtain rfl:=sj h;conv=>whnf
   try exact fin
  conv=>whnf
  refine cY.cut (S:=Bool) (fun O=>[(1,.hptr [PV.int .i64 a,PV.sl (zx.rows y),PV.sl (qe.rows s),PV.int .i64 i,PV.str j,PV.int .i64 k,PV.bool l,PV.int .i64 m,PV.str o,PV.sl (Val.rows c),PV.sl (qi d),PV.sl (qi e),PV.sl (qe.rows f),PV.str g,PV.sl (xM.rows t),PV.bool u,PV.sl (qS.rows v),PV.sl (qe.rows w),PV.sl (qe.rows x),PV.sl (qj.rows z),PV.sl (qi A),PV.bool B]),(4,.ptr 0 0),(5,.ptr 1 0),(6,.ptr 2 0),(7,.p (.sl (qR.rows [qR.mk ([32,79,82,68,69,82,32,66,89,32]:SS) C (0:Int) (1048576:Int),qR.mk ([32,83,75,73,80,32]:SS) D (0:Int) (1:Int),qR.mk ([32,76,73,77,73,84,32]:SS) E (0:Int) (1:Int)]))),(8,.ptr 3 0),(9,.ptr 4 0),(10,pS b),(11,zq2),(12,.ptr 5 0),(53,pI a),(85,pB O)]) (fun O=>[.box 160 [zq1,.p (.sl (zr.rows H)),.p (.int .i64 (1:Int)),.p (.int .i64 (1048576:Int))],.box 160 [.p (.str ([32,87,72,69,82,69,32]:SS)),.p (.sl (zr.rows F)),zq0,.p (.int .i64 (1:Int))],.box 160 [zq1,.p (.sl (zr.rows G)),.p (.int .i64 (1:Int)),.p (.int .i64 (1048576:Int))],.box 160 [.p (.str ([68,69,76,69,84,69,32]:SS)),.p (.sl (zr.rows I)),.p (.int .i64 (1:Int)),.p (.int .i64 (1048576:Int))],.box 160 [zq1,.p (.sl (zr.rows J)),.p (.int .i64 (1:Int)),.p (.int .i64 (1048576:Int))],.box 54 [pI a,zq2,zq2,zq0,zq1,zq0,pB false,zq0,zq1,zq2,zq2,zq2,zq2,zq1,zq2,pB false,zq2,zq2,zq2,zq2,zq2,pB false]]) (fG n b G C D E a F y s i j k l m o c d e f g t u v w x z A B H J I) (r:=r) ?_ ?_
  ·intro O h
   unfold fG at h;conv=>whnf
   apply ifc h<;>intro q h
   ·conv=>whnf
    obtain⟨b7,h⟩:=qg h;refine⟨(kod b7:((([82,69,84,85,82,78,32]:SS).length+b.length:Nat):Int)<=xr),?_⟩;(conv=>whnf);refine⟨Codec.one Zn [qR.mk (([82,69,84,85,82,78,32]:SS)++b) G (1:Int) (1048576:Int)],qR.rows [qR.mk (([82,69,84,85,82,78,32]:SS)++b) G (1:Int) (1048576:Int)],.inl rfl,?_⟩;(conv=>whnf);obtain⟨W,h⟩:=qg h;refine⟨_,⟨Codec.append Zn [qR.mk (([82,69,84,85,82,78,32]:SS)++b) G (1:Int) (1048576:Int)] [qR.mk ([32,79,82,68,69,82,32,66,89,32]:SS) C (0:Int) (1048576:Int),qR.mk ([32,83,75,73,80,32]:SS) D (0:Int) (1:Int),qR.mk ([32,76,73,77,73,84,32]:SS) E (0:Int) (1:Int)],rfl,rfl,Codec.wide Zn [qR.mk ([32,79,82,68,69,82,32,66,89,32]:SS) C (0:Int) (1048576:Int),qR.mk ([32,83,75,73,80,32]:SS) D (0:Int) (1:Int),qR.mk ([32,76,73,77,73,84,32]:SS) E (0:Int) (1:Int)],kod W,xj W (by decide)⟩,?_⟩;(conv=>whnf);refine cY.cut (S:=List qR×List qe) (fun(N,P)=>[(1,.hptr [PV.int .i64 a,PV.sl (zx.rows y),PV.sl (qe.rows s),PV.int .i64 i,PV.str j,PV.int .i64 k,PV.bool l,PV.int .i64 m,PV.str o,PV.sl (Val.rows c),PV.sl (qi d),PV.sl (qi e),PV.sl (qe.rows f),PV.str g,PV.sl (xM.rows t),PV.bool u,PV.sl (qS.rows v),PV.sl (qe.rows w),PV.sl (qe.rows x),PV.sl (qj.rows z),PV.sl (qi A),PV.bool B]),(11,.vsl 0 ((qR.rows N).length)),(12,.ptr 1 0)]) (fun(N,P)=>[.vec 160 4 (qR.rows N),.box 54 [pI a,zq2,pE P,zq0,zq1,zq0,pB false,zq0,zq1,zq2,zq2,zq2,zq2,zq1,zq2,pB false,zq2,zq2,zq2,zq2,zq2,pB false]]) (fH n a y s i j k l m o c d e f g t u v w x z A B) (r:=r) ?_ ?_
    ·intro st h
     obtain⟨N,P⟩:=st;unfold fH at h;(conv=>whnf);refine bq h fun _ b3 h=>⟨_,(qb.leArgs (uJ n _ _ _ b3) (by try exact fin)),?_⟩;obtain rfl:=sj h;conv=>whnf
     try exact fin
    (conv=>whnf);apply ifc h<;>intro q h
    ·conv=>whnf
     obtain⟨b6,h⟩:=qg h;refine⟨(kod b6:((([87,73,84,72,32]:SS).length+b.length:Nat):Int)<=xr),?_⟩;(conv=>whnf);obtain⟨b5,h⟩:=qg h;refine⟨0,⟨rfl,kod b5⟩,?_⟩;(conv=>whnf);refine bq h fun⟨_,Q,R,T⟩ b4 h=>⟨_,⟨rfl,Codec.getN Zn b4,rfl⟩,?_⟩;(conv=>whnf);refine⟨_,Codec.setN Zn ([qR.mk (([82,69,84,85,82,78,32]:SS)++b) G (1:Int) (1048576:Int)]++[qR.mk ([32,79,82,68,69,82,32,66,89,32]:SS) C (0:Int) (1048576:Int),qR.mk ([32,83,75,73,80,32]:SS) D (0:Int) (1:Int),qR.mk ([32,76,73,77,73,84,32]:SS) E (0:Int) (1:Int)]) 0 (qR.mk (([87,73,84,72,32]:SS)++b) Q R T),?_⟩;(conv=>whnf);refine⟨Codec.one Zn [qR.mk ([32,87,72,69,82,69,32]:SS) F (0:Int) (1:Int)],qR.rows [qR.mk ([32,87,72,69,82,69,32]:SS) F (0:Int) (1:Int)],.inl rfl,?_⟩;(conv=>whnf);obtain⟨V,h⟩:=qg h;refine⟨_,⟨Codec.append Zn (([qR.mk (([82,69,84,85,82,78,32]:SS)++b) G (1:Int) (1048576:Int)]++[qR.mk ([32,79,82,68,69,82,32,66,89,32]:SS) C (0:Int) (1048576:Int),qR.mk ([32,83,75,73,80,32]:SS) D (0:Int) (1:Int),qR.mk ([32,76,73,77,73,84,32]:SS) E (0:Int) (1:Int)]).set 0 (qR.mk (([87,73,84,72,32]:SS)++b) Q R T)) [qR.mk ([32,87,72,69,82,69,32]:SS) F (0:Int) (1:Int)],rfl,rfl,Codec.wide Zn [qR.mk ([32,87,72,69,82,69,32]:SS) F (0:Int) (1:Int)],kod V,xj V (by decide)⟩,?_⟩;(conv=>whnf);exact⟨(((([qR.mk (([82,69,84,85,82,78,32]:SS)++b) G (1:Int) (1048576:Int)]++[qR.mk ([32,79,82,68,69,82,32,66,89,32]:SS) C (0:Int) (1048576:Int),qR.mk ([32,83,75,73,80,32]:SS) D (0:Int) (1:Int),qR.mk ([32,76,73,77,73,84,32]:SS) E (0:Int) (1:Int)]).set 0 (qR.mk (([87,73,84,72,32]:SS)++b) Q R T))++[qR.mk ([32,87,72,69,82,69,32]:SS) F (0:Int) (1:Int)]),s),h,wk [8,5] []⟩
    (conv=>whnf);exact⟨(([qR.mk (([82,69,84,85,82,78,32]:SS)++b) G (1:Int) (1048576:Int)]++[qR.mk ([32,79,82,68,69,82,32,66,89,32]:SS) C (0:Int) (1048576:Int),qR.mk ([32,83,75,73,80,32]:SS) D (0:Int) (1:Int),qR.mk ([32,76,73,77,73,84,32]:SS) E (0:Int) (1:Int)]),([]:List _)),h,wk [7,5] []⟩
   conv=>whnf
   apply ifc h<;>intro q h
   ·conv=>whnf
    refine⟨Codec.one Zn [qR.mk ([67,82,69,65,84,69,32]:SS) H (1:Int) (1048576:Int)],qR.rows [qR.mk ([67,82,69,65,84,69,32]:SS) H (1:Int) (1048576:Int)],.inl rfl,?_⟩;(conv=>whnf);refine bq h fun _ Y h=>⟨_,(qb.leArgs (uJ n _ _ _ Y) (by try exact fin)),?_⟩;obtain rfl:=sj h;conv=>whnf
    try exact fin
   conv=>whnf
   apply ifc h<;>intro q h
   ·conv=>whnf
    refine⟨id,id,?_⟩;(conv=>whnf);refine bq h fun⟨_,_⟩ a0 h=>⟨_,fun b8=>Codec.at_ pb (qa a0 b8),?_⟩;(conv=>whnf);refine⟨id,id,id,id,id,?_⟩;(conv=>whnf);apply ifc h<;>intro q h
    ·obtain rfl:=sj h
     conv=>whnf
     try exact fin
    (conv=>whnf);refine⟨Codec.one Zn [qR.mk ([77,69,82,71,69,32]:SS) H (1:Int) (1:Int)],qR.rows [qR.mk ([77,69,82,71,69,32]:SS) H (1:Int) (1:Int)],.inl rfl,?_⟩
    (conv=>whnf);refine bq h fun _ Z h=>?_
    refine⟨_,(qb.leArgs (uJ n _ _ _ Z) (by try exact fin)),?_⟩;obtain rfl:=sj h;conv=>whnf
    try exact fin
   conv=>whnf
   refine cY.cut (S:=Bool) (fun U=>[(1,.hptr [PV.int .i64 a,PV.sl (zx.rows y),PV.sl (qe.rows s),PV.int .i64 i,PV.str j,PV.int .i64 k,PV.bool l,PV.int .i64 m,PV.str o,PV.sl (Val.rows c),PV.sl (qi d),PV.sl (qi e),PV.sl (qe.rows f),PV.str g,PV.sl (xM.rows t),PV.bool u,PV.sl (qS.rows v),PV.sl (qe.rows w),PV.sl (qe.rows x),PV.sl (qj.rows z),PV.sl (qi A),PV.bool B]),(8,.ptr 0 0),(9,.ptr 1 0),(11,zq2),(12,.ptr 2 0),(53,pI a),(155,pB U)]) (fun U=>[.box 160 [.p (.str ([68,69,76,69,84,69,32]:SS)),.p (.sl (zr.rows I)),.p (.int .i64 (1:Int)),.p (.int .i64 (1048576:Int))],.box 160 [zq1,.p (.sl (zr.rows J)),.p (.int .i64 (1:Int)),.p (.int .i64 (1048576:Int))],.box 54 [pI a,zq2,zq2,zq0,zq1,zq0,pB false,zq0,zq1,zq2,zq2,zq2,zq2,zq1,zq2,pB false,zq2,zq2,zq2,zq2,zq2,pB false]]) (bg n a y s i j k l m o c d e f g t u v w x z A B J I) (r:=r) ?_ ?_
   ·intro U h
    unfold bg at h;(conv=>whnf);apply ifc h<;>intro q h
    ·conv=>whnf
     refine cY.cut (S:=SS) (fun K=>[(1,.hptr [PV.int .i64 a,PV.sl (zx.rows y),PV.sl (qe.rows s),PV.int .i64 i,PV.str j,PV.int .i64 k,PV.bool l,PV.int .i64 m,PV.str o,PV.sl (Val.rows c),PV.sl (qi d),PV.sl (qi e),PV.sl (qe.rows f),PV.str g,PV.sl (xM.rows t),PV.bool u,PV.sl (qS.rows v),PV.sl (qe.rows w),PV.sl (qe.rows x),PV.sl (qj.rows z),PV.sl (qi A),PV.bool B]),(9,.ptr 0 0),(12,.ptr 1 0)]) (fun K=>[.box 160 [pS K,.p (.sl (zr.rows J)),.p (.int .i64 (1:Int)),.p (.int .i64 (1048576:Int))],.box 54 [pI a,zq2,zq2,zq0,zq1,zq0,pB false,zq0,zq1,zq2,zq2,zq2,zq2,zq1,zq2,pB false,zq2,zq2,zq2,zq2,zq2,pB false]]) (cU n a y s i j k l m o c d e f g t u v w x z A B J) (r:=r) ?_ ?_
     ·intro K h
      unfold cU at h;(conv=>whnf);refine⟨Codec.one Zn [qR.mk K J (1:Int) (1048576:Int)],qR.rows [qR.mk K J (1:Int) (1048576:Int)],.inl rfl,?_⟩;(conv=>whnf);refine bq h fun _ a1 h=>⟨_,(qb.leArgs (uJ n _ _ _ a1) (by try exact fin)),?_⟩;obtain rfl:=sj h;conv=>whnf
      try exact fin
     (conv=>whnf);apply ifc h<;>intro q h
     ·conv=>whnf
      exact⟨([82,69,77,79,86,69,32]:SS),h,wk [1,2] []⟩
     (conv=>whnf);exact⟨([83,69,84,32]:SS),h,wk [1,2] []⟩
    (conv=>whnf);apply ifc h<;>intro q h
    ·conv=>whnf
     refine cY.cut (S:=SS) (fun L=>[(1,.hptr [PV.int .i64 a,PV.sl (zx.rows y),PV.sl (qe.rows s),PV.int .i64 i,PV.str j,PV.int .i64 k,PV.bool l,PV.int .i64 m,PV.str o,PV.sl (Val.rows c),PV.sl (qi d),PV.sl (qi e),PV.sl (qe.rows f),PV.str g,PV.sl (xM.rows t),PV.bool u,PV.sl (qS.rows v),PV.sl (qe.rows w),PV.sl (qe.rows x),PV.sl (qj.rows z),PV.sl (qi A),PV.bool B]),(8,.ptr 0 0),(12,.ptr 1 0)]) (fun L=>[.box 160 [pS L,.p (.sl (zr.rows I)),.p (.int .i64 (1:Int)),.p (.int .i64 (1048576:Int))],.box 54 [pI a,zq2,zq2,zq0,zq1,zq0,pB false,zq0,zq1,zq2,zq2,zq2,zq2,zq1,zq2,pB false,zq2,zq2,zq2,zq2,zq2,pB false]]) (cV n a y s i j k l m o c d e f g t u v w x z A B I) (r:=r) ?_ ?_
     ·intro L h
      unfold cV at h;(conv=>whnf);refine⟨Codec.one Zn [qR.mk L I (1:Int) (1048576:Int)],qR.rows [qR.mk L I (1:Int) (1048576:Int)],.inl rfl,?_⟩;(conv=>whnf);refine bq h fun _ a2 h=>⟨_,(qb.leArgs (uJ n _ _ _ a2) (by try exact fin)),?_⟩;obtain rfl:=sj h;conv=>whnf
      try exact fin
     (conv=>whnf);apply ifc h<;>intro q h
     ·conv=>whnf
      exact⟨([68,69,84,65,67,72,32,68,69,76,69,84,69,32]:SS),h,wk [0,2] []⟩
     (conv=>whnf);exact⟨([68,69,76,69,84,69,32]:SS),h,wk [0,2] []⟩
    (conv=>whnf);refine bq h fun _ a3 h=>?_
    refine⟨_,(qb.leArgs (uJ n _ _ _ a3) (by try exact fin)),?_⟩;obtain rfl:=sj h;conv=>whnf
    try exact fin
   conv=>whnf
   apply ifc h<;>intro q h
   ·conv=>whnf
    exact⟨(a==6),h,wk [3,4,5] []⟩
   conv=>whnf
   exact⟨(a==7),h,wk [3,4,5] []⟩
  conv=>whnf
  apply ifc h<;>intro q h
  ·conv=>whnf
   exact⟨(a==3),h,wk [0,1,2,3,4,5] []⟩
  conv=>whnf
  exact⟨(a==9),h,wk [0,1,2,3,4,5] []⟩
 conv=>whnf
 apply ifc h<;>intro q h
 ·conv=>whnf
  exact⟨([68,73,83,84,73,78,67,84,32]:SS),h,wk [0,1,2,3,4] []⟩
 conv=>whnf
 exact⟨([]:SS),h,wk [0,1,2,3,4] []⟩
abbrev Tk (r:Bool):PV:=PV.bool r
def bT (n:Nat) (a:SS):Option (Bool):=
 some (bif(!(a==([]:SS)))then(decide (((a.length:Nat):Int)<=64))else false)
theorem mX (n:Nat):∀ (a:SS) (r:Bool),bT n a=some r->qb TP 294 [PV.str a] (Tk r):=by
 intro a r h;unfold bT at h;refine zN Tryz.call294 Tryz.func294 [1000000] ?_;conv=>whnf
 refine⟨id,id,id,?_⟩;obtain rfl:=sj h;conv=>whnf
 try exact fin
abbrev Th (r:SS):PV:=PV.str r
def mQ (n:Nat) (a:Int×SS->Option SS) (b:Int):SS->Option SS:=fun c=>
 a ((kwr .i64 (b+1)),c)
def mR (n:Nat) (g:SS):(Int×SS->Option SS)->Int×SS->Option SS:=fun e (b,a)=>
 bif(decide (b<((g.length:Nat):Int)))then(
 bnd (LL b) fun f=>
 chk (decide (f<a.length)) (
 bnd (a[f]?) fun c=>
 bif(bif(decide (((c.toNat:Nat):Int)≥97))then(decide (((c.toNat:Nat):Int)<=122))else false)then(
 bnd (LL b) fun d=>
 chk (decide (d<a.length)) (
 bnd (u8I (kwr .u8 (((c.toNat:Nat):Int) - 32))) fun i=>
 chk (decide (d<a.length)) (
 mQ n e b (a.set d i))))
 else(
 mQ n e b a)))
 else(
 some a)
def Qc (n:Nat) (a:SS):Option SS:=
 qo (mR n a) n ((0:Int),a)
theorem PK (n:Nat):∀ (b r:SS),Qc n b=some r->qb TP 226 [PV.str b] (Th r):=by
 intro b r h;unfold Qc at h;refine zN Tryz.call226 Tryz.func226 [10000007,1000000] ?_;conv=>whnf
 refine qX.fn [10000007,1000000] (S:=Int×SS) (fun(c,a)=>[(3,.vsl 0 a.length),(8,.vsl 0 a.length),(9,.p (.int .i64 ((b.length:Nat):Int))),(10,pI c)]) (fun(c,a)=>[.bv a]) (B:=mR n b) h (wk [0] []) ?_;intro s st h;obtain⟨c,a⟩:=st;unfold mR at h;conv=>whnf
 apply ifc h<;>intro q h
 ·conv=>whnf
  refine cY.cut (S:=SS) (fun d=>[(3,.vsl 0 d.length),(8,.vsl 0 d.length),(9,.p (.int .i64 ((b.length:Nat):Int))),(10,pI c)]) (fun d=>[.bv d]) (mQ n s c) (r:=r) ?_ ?_
  ·intro d h
   unfold mQ at h;conv=>whnf
   exact⟨((kwr .i64 (c+1)),d),h,wk [0] []⟩
  conv=>whnf
  refine bq h fun t o h=>?_;have e:=gK o;conv=>whnf
  obtain⟨m,h⟩:=qg h;refine⟨t,⟨e,kod m⟩,?_⟩;conv=>whnf
  refine bq h fun _ l h=>⟨_,⟨rfl,rfl,l⟩,?_⟩;conv=>whnf
  refine⟨id,id,?_⟩;conv=>whnf
  apply ifc h<;>intro q h
  ·conv=>whnf
   refine bq h fun f k h=>?_;have e:=gK k;conv=>whnf
   obtain⟨j,h⟩:=qg h;refine⟨f,⟨e,kod j⟩,?_⟩;conv=>whnf
   refine bq h fun u i h=>?_;have hb:=vQ i;conv=>whnf
   obtain⟨g,h⟩:=qg h;refine⟨_,_,⟨rfl,rfl,kod g,hb,rfl⟩,?_⟩;conv=>whnf
   exact⟨(a.set f u),h,wk [0] []⟩
  conv=>whnf
  exact⟨a,h,wk [0] []⟩
 conv=>whnf
 refine⟨by first|rfl|simp only[List.length_set]|(simp only[List.length_set]; assumption)|assumption,?_⟩;obtain rfl:=sj h;conv=>whnf
 try exact fin
abbrev Ti (r:Bool):PV:=PV.bool r
def mS (n:Nat) (a:SS):LK (Nat) (Bool):=fun c b=>
 bif(decide (b<a.length))then(
 bif(bif(!(bif(bif(bif(decide (((qP a b:Nat):Int)≥97))then(decide (((qP a b:Nat):Int)<=122))else false)then true else(bif(decide (((qP a b:Nat):Int)≥65))then(decide (((qP a b:Nat):Int)<=90))else false))then true else(((qP a b:Nat):Int)==95)))then(bif(bif(((b:Nat):Int)==0)then true else(decide (((qP a b:Nat):Int)<48)))then true else(decide (((qP a b:Nat):Int)>57)))else false)then(
 some false)
 else(
 c (bif(decide (b<a.length))then xG a b else b)))
 else(
 some (bif(!(a==([]:SS)))then(decide (((a.length:Nat):Int)<=64))else false))
def nP (n:Nat) (a:SS):Option (Bool):=
 qo (mS n a) n 0
theorem Vg (n:Nat):∀ (a:SS) (r:Bool),nP n a=some r->qb TP 176 [PV.str a] (Ti r):=by
 intro a r h;unfold nP at h;refine zN Tryz.call176 Tryz.func176 [1000000] ?_;conv=>whnf
 refine qX.fn [1000000] (S:=Nat) (fun b=>[(0,pS a),(7,.ptr 0 0)]) (fun b=>[.sit a b]) (B:=mS n a) h (wk [0] []) ?_;intro _ b h;unfold mS at h;conv=>whnf
 refine⟨(decide (b<a.length)),(bif(decide (b<a.length))then xG a b else b),⟨rfl,rfl⟩,?_⟩;conv=>whnf
 apply ifc h<;>intro c h
 ·conv=>whnf
  refine⟨by assumption,?_⟩;conv=>whnf
  refine⟨by assumption,?_⟩;conv=>whnf
  iterate 20 refine⟨id,?_⟩
  conv=>whnf
  apply ifc h<;>intro c h
  ·obtain rfl:=sj h
   conv=>whnf
   try exact fin
  conv=>whnf
  exact⟨(bif(decide (b<a.length))then xG a b else b),h,wk [0] []⟩
 conv=>whnf
 refine⟨id,id,id,?_⟩;obtain rfl:=sj h;conv=>whnf
 try exact fin
abbrev iY (r:SS×Bool):PV:=PV.tup [PV.str r.1,PV.bool r.2]
def Fe (n:Nat) (c:SS):Option (SS×Bool):=
 bnd (Qc n c) fun a=>
 bnd (nP n c) fun b=>
 chk (bif(!(!b))then decide (((([32]:SS).length+a.length:Nat):Int)<=xr)else true) (
 chk (bif(!(!b))then decide ((((([32]:SS)++a).length+([32]:SS).length:Nat):Int)<=xr)else true) (
 bnd (qD (!(!b)) (np n ([32,77,65,84,67,72,32,87,72,69,82,69,32,85,78,87,73,78,68,32,65,83,32,87,73,84,72,32,67,82,69,65,84,69,32,77,69,82,71,69,32,83,69,84,32,82,69,77,79,86,69,32,68,69,76,69,84,69,32,68,69,84,65,67,72,32,82,69,84,85,82,78,32,68,73,83,84,73,78,67,84,32,79,82,68,69,82,32,66,89,32,65,83,67,32,68,69,83,67,32,83,75,73,80,32,76,73,77,73,84,32,65,78,68,32,79,82,32,88,79,82,32,78,79,84,32,73,78,32,73,83,32,78,85,76,76,32,84,82,85,69,32,70,65,76,83,69,32]:SS) ((([32]:SS)++a)++([32]:SS)))) fun d=>
 bif(bif(!b)then true else(!d))then(
 some (([]:SS),false))
 else(
 some (a,true))))
theorem SF (n:Nat):∀ (b:SS) (r:SS×Bool),Fe n b=some r->qb TP 175 [PV.str b] (iY r):=by
 intro b r h;unfold Fe at h;refine zN Tryz.call175 Tryz.func175 [1000000] ?_;conv=>whnf
 refine bq h fun c i h=>⟨_,(PK n _ _ i),?_⟩;conv=>whnf
 refine bq h fun _ g h=>⟨_,(Vg n _ _ g),?_⟩;conv=>whnf
 refine⟨id,?_⟩;conv=>whnf
 obtain⟨f,h⟩:=qg h;refine⟨fun a=>(kod (gd f a):((([32]:SS).length+c.length:Nat):Int)<=xr),?_⟩;conv=>whnf
 refine⟨id,?_⟩;conv=>whnf
 obtain⟨e,h⟩:=qg h;refine⟨fun a=>(kod (gd e a):(((([32]:SS)++c).length+([32]:SS).length:Nat):Int)<=xr),?_⟩;conv=>whnf
 refine⟨id,?_⟩;conv=>whnf
 refine bq h fun _ d h=>⟨_,fun a=>(Gu n _ _ _ (qa d a)),?_⟩;conv=>whnf
 refine⟨id,id,?_⟩;conv=>whnf
 apply ifc h<;>intro _ h
 ·obtain rfl:=sj h
  conv=>whnf
  try exact fin
 obtain rfl:=sj h;conv=>whnf
 try exact fin
abbrev MS (r:Bool):PV:=PV.bool r
def vP (n:Nat) (a:SS):Option (Bool):=
 bnd (Fe n a) fun⟨_,b⟩=>
 bnd (nP n a) fun c=>
 some (bif c then(!b)else false)
theorem uK (n:Nat):∀ (a:SS) (r:Bool),vP n a=some r->qb TP 109 [PV.str a] (MS r):=by
 intro a r h;unfold vP at h;refine zN Tryz.call109 Tryz.func109 [1000000] ?_;conv=>whnf
 refine bq h fun⟨_,_⟩ c h=>⟨_,(SF n _ _ c),?_⟩;conv=>whnf
 refine bq h fun _ b h=>⟨_,(Vg n _ _ b),?_⟩;conv=>whnf
 refine⟨id,id,?_⟩;obtain rfl:=sj h;conv=>whnf
 try exact fin
abbrev Rg (r:Bool):PV:=PV.bool r
def ta (n:Nat) (b:Val):Option (Bool):=
 match b with
 | ⟨a,c,d,e,f,g⟩=>
 some (bif(bif(bif(bif(bif(a==1)then true else(!c))then(bif(bif(a==2)then true else(decide (a≥6)))then true else(d==0))else false)then(bif(a==3)then true else(e==([]:SS)))else false)then(bif(bif(a==4)then true else(a==5))then true else(((Val.rows f).length:Int)==0))else false)then(bif(a==5)then true else(((qi g).length:Int)==0))else false)
theorem My (n:Nat):∀ (a:Val) (r:Bool),ta n a=some r->qb TP 303 [PV.agg (gM.cells a)] (Rg r):=by
 intro a r h;obtain⟨_,_,_,_,_,_⟩:=a;unfold ta at h;refine zN Tryz.call303 Tryz.func303 [1000000] ?_;conv=>whnf
 iterate 47 refine⟨id,?_⟩
 obtain rfl:=sj h;conv=>whnf
 try exact fin
abbrev Rh (r:Bool):PV:=PV.bool r
def fQ (n:Nat) (c:List SS):LK (Int) (Bool):=fun d a=>
 bif(decide (a<((qi c).length:Int)))then(
 bnd (idx c a) fun b=>
 bnd (qD ((!(bif(b==([]:SS))then true else(decide (((b.length:Nat):Int)>64))))&&(decide (a>0))) (idx c (kwr .i64 (a - 1)))) fun e=>
 bif(bif(bif(b==([]:SS))then true else(decide (((b.length:Nat):Int)>64)))then true else(bif(decide (a>0))then(!(Op.bytesLess e b))else false))then(
 some false)
 else(
 d (kwr .i64 (a+1))))
 else(
 some true)
def XA (n:Nat) (a:List SS):Option (Bool):=
 qo (fQ n a) n (0:Int)
theorem Mz (n:Nat):∀ (a:List SS) (r:Bool),XA n a=some r->qb TP 304 [PV.sl (qi a)] (Rh r):=by
 intro a r h;unfold XA at h;refine zN Tryz.call304 Tryz.func304 [1000000] ?_;conv=>whnf
 refine qX.fn [1000000] (S:=Int) (fun b=>[(0,pT a),(5,pT a),(6,.p (.int .i64 ((qi a).length:Int))),(7,pI b)]) (fun b=>[]) (B:=fQ n a) h (wk [] []) ?_;intro _ b h;unfold fQ at h;conv=>whnf
 apply ifc h<;>intro e h
 ·conv=>whnf
  refine bq h fun _ d h=>⟨_,Codec.at_ cc d,?_⟩;conv=>whnf
  iterate 8 refine⟨id,?_⟩
  conv=>whnf
  refine bq h fun _ c h=>⟨_,fun f=>Codec.at_ cc (qa c f),?_⟩;conv=>whnf
  iterate 6 refine⟨id,?_⟩
  conv=>whnf
  apply ifc h<;>intro e h
  ·obtain rfl:=sj h
   conv=>whnf
   try exact fin
  conv=>whnf
  exact⟨(kwr .i64 (b+1)),h,wk [] []⟩
 obtain rfl:=sj h;conv=>whnf
 try exact fin
abbrev Qx (r:Int×Bool):PV:=PV.tup [PV.int .i64 r.1,PV.bool r.2]
def gG (n:Nat) (d:List Val) (g302:Val->Int->Int->Option (Int×Bool)) (p:Int):LK (Int×Bool×Int) (Int×Bool):=fun e (b,c,a)=>
 bif(bif(decide (a<((Val.rows d).length:Int)))then c else false)then(
 bnd (idx d a) fun⟨f,g,i,j,k,l⟩=>
 bnd (g302 (Val.mk f g i j k l) (kwr .i64 (p - 1)) b) fun⟨m,o⟩=>
 e (m,o,(kwr .i64 (a+1))))
 else(
 some (b,c))
def Zr (n:Nat) (g302:Val->Int->Int->Option (Int×Bool)) (i:Val) (e b:Int):Option (Int×Bool):=
 match i with
 | ⟨a,k,f,l,c,d⟩=>
 bnd (qD (!(bif(bif(bif(decide (e<1))then true else(decide ((kwr .i64 (b+1))>4096)))then true else(decide (a<0)))then true else(decide (a>7)))) (ta n (Val.mk a k f l c d))) fun g=>
 bnd (qD (((!(bif(bif(bif(bif(bif(decide (e<1))then true else(decide ((kwr .i64 (b+1))>4096)))then true else(decide (a<0)))then true else(decide (a>7)))then true else(!g))then true else(bif(decide (a≥6))then(decide (f<1))else false)))&&(a==5))&&(!(((qi d).length:Int) != ((Val.rows c).length:Int)))) (XA n d)) fun j=>
 bif(bif(bif(bif(bif(bif(bif(decide (e<1))then true else(decide ((kwr .i64 (b+1))>4096)))then true else(decide (a<0)))then true else(decide (a>7)))then true else(!g))then true else(bif(decide (a≥6))then(decide (f<1))else false))then true else(bif(a==5)then(bif(((qi d).length:Int) != ((Val.rows c).length:Int))then true else(!j))else false))then(
 some ((kwr .i64 (b+1)),false))
 else(
 qo (gG n c g302 e) n ((kwr .i64 (b+1)),true,(0:Int)))
theorem HK (n:Nat) (g302:Val->Int->Int->Option (Int×Bool)) (g302_ok:∀ (b:Val) (a c:Int) (r:Int×Bool),g302 b a c=some r->qb TP 302 [PV.agg (gM.cells b),PV.int .i64 a,PV.int .i64 c] (Qx r)):∀ (b:Val) (a c:Int) (r:Int×Bool),Zr n g302 b a c=some r->qb TP 302 [PV.agg (gM.cells b),PV.int .i64 a,PV.int .i64 c] (Qx r):=by
 intro b a c r h;obtain⟨p,q,u,v,i,w⟩:=b;unfold Zr at h;refine zN Tryz.call302 Tryz.func302 [1000000] ?_;conv=>whnf
 iterate 9 refine⟨id,?_⟩
 conv=>whnf
 refine bq h fun _ m h=>⟨_,fun e=>(My n _ _ (qa m e)),?_⟩;conv=>whnf
 iterate 22 refine⟨id,?_⟩
 conv=>whnf
 refine bq h fun _ l h=>⟨_,fun e=>(Mz n _ _ (qa l e)),?_⟩;conv=>whnf
 iterate 6 refine⟨id,?_⟩
 conv=>whnf
 apply ifc h<;>intro o h
 ·obtain rfl:=sj h
  conv=>whnf
  try exact fin
 conv=>whnf
 refine qX.fn [1000000] (S:=Int×Bool×Int) (fun(f,g,d)=>[(1,pI a),(2,pI f),(3,.ptr 0 0),(8,pB g),(9,pI d)]) (fun(f,g,d)=>[.box 28 [pI p,pB q,pI u,pS v,pV i,pT w]]) (B:=gG n i g302 a) h (wk [0] []) ?_;intro _ st h;obtain⟨f,g,d⟩:=st;unfold gG at h;conv=>whnf
 refine⟨id,?_⟩;conv=>whnf
 apply ifc h<;>intro o h
 ·conv=>whnf
  refine bq h fun⟨_,_,_,_,_,_⟩ k h=>⟨_,Codec.at_ gM k,?_⟩;conv=>whnf
  refine bq h fun⟨s,t⟩ j h=>⟨_,(g302_ok _ _ _ _ j),?_⟩;conv=>whnf
  exact⟨(s,t,(kwr .i64 (d+1))),h,wk [0] []⟩
 obtain rfl:=sj h;conv=>whnf
 try exact fin
def cW:Nat->Val->Int->Int->Option (Int×Bool)
 | 0=>fun _ _ _=>none
 | n+1=>Zr n (cW n)
theorem La (n:Nat):(∀ (a:Val) (b c:Int) (r:Int×Bool),cW n a b c=some r->qb TP 302 [PV.agg (gM.cells a),PV.int .i64 b,PV.int .i64 c] (Qx r)):=by
 induction n with
 | zero=>exact(by intros; rename_i h; cases h)
 | succ n ih=>
  have hg302:=ih;exact HK n (cW n) hg302
theorem MA (n:Nat):∀ (a:Val) (b c:Int) (r:Int×Bool),cW n a b c=some r->qb TP 302 [PV.agg (gM.cells a),PV.int .i64 b,PV.int .i64 c] (Qx r):=(La n)
abbrev MU (r:Int):PV:=PV.int .i64 r
def tD (n:Nat) (a:Val):Option (Int):=
 match a with
 | ⟨b,c,d,e,f,g⟩=>
 bnd (cW n (Val.mk b c d e f g) (32:Int) (0:Int)) fun⟨_,i⟩=>
 bif(!i)then(
 some (20:Int))
 else(
 some (0:Int))
theorem HY (n:Nat):∀ (a:Val) (r:Int),tD n a=some r->qb TP 301 [PV.agg (gM.cells a)] (MU r):=by
 intro a r h;obtain⟨_,_,_,_,_,_⟩:=a;unfold tD at h;refine zN Tryz.call301 Tryz.func301 [1000000] ?_;conv=>whnf
 refine bq h fun⟨_,_⟩ b h=>⟨_,(MA n _ _ _ _ b),?_⟩;conv=>whnf
 apply ifc h<;>intro _ h
 ·obtain rfl:=sj h
  conv=>whnf
  try exact fin
 obtain rfl:=sj h;conv=>whnf
 try exact fin
abbrev Er (r:Bool):PV:=PV.bool r
def nQ (n:Nat) (c:Val):Option (Bool):=
 match c with
 | ⟨a,d,b,e,f,g⟩=>
 bnd (tD n (Val.mk a d b e f g)) fun i=>
 some (bif(i==0)then(bif(bif(decide (a<=1))then true else(bif(a==2)then(decide (b≥0))else false))then true else(a==3))else false)
theorem BR (n:Nat):∀ (a:Val) (r:Bool),nQ n a=some r->qb TP 298 [PV.agg (gM.cells a)] (Er r):=by
 intro a r h;obtain⟨_,_,_,_,_,_⟩:=a;unfold nQ at h;refine zN Tryz.call298 Tryz.func298 [1000000] ?_;conv=>whnf
 refine bq h fun _ b h=>⟨_,(HY n _ _ b),?_⟩;conv=>whnf
 iterate 18 refine⟨id,?_⟩
 obtain rfl:=sj h;conv=>whnf
 try exact fin
abbrev MR (r:Int):PV:=PV.int .i64 r
def rz (n:Nat) (a:SS):Option (Int):=
 some (va (db ([37]:SS) (7:Int) zq4) a (0:Int))
theorem HW (n:Nat):∀ (a:SS) (r:Int),rz n a=some r->qb TP 299 [PV.str a] (MR r):=by
 intro a r h;unfold rz at h;refine zN Tryz.call299 Tryz.func299 [1000000] ?_;conv=>whnf
 refine⟨_,vz xD (PV.int .i64) ([79,82]:SS) (1:Int) ([]:List (SS×Int)),?_⟩;conv=>whnf
 refine⟨_,vz xD (PV.int .i64) ([88,79,82]:SS) (2:Int) (db ([79,82]:SS) (1:Int) ([]:List (SS×Int))),?_⟩;conv=>whnf
 refine⟨_,vz xD (PV.int .i64) ([65,78,68]:SS) (3:Int) (db ([88,79,82]:SS) (2:Int) (db ([79,82]:SS) (1:Int) ([]:List (SS×Int)))),?_⟩;conv=>whnf
 refine⟨_,vz xD (PV.int .i64) ([61]:SS) (5:Int) zq5,?_⟩;conv=>whnf
 refine⟨_,vz xD (PV.int .i64) ([60,62]:SS) (5:Int) (db ([61]:SS) (5:Int) zq5),?_⟩;conv=>whnf
 refine⟨_,vz xD (PV.int .i64) ([60]:SS) (5:Int) zq8,?_⟩;conv=>whnf
 refine⟨_,vz xD (PV.int .i64) ([60,61]:SS) (5:Int) (db ([60]:SS) (5:Int) zq8),?_⟩;conv=>whnf
 refine⟨_,vz xD (PV.int .i64) ([62]:SS) (5:Int) (db ([60,61]:SS) (5:Int) (db ([60]:SS) (5:Int) zq8)),?_⟩;conv=>whnf
 refine⟨_,vz xD (PV.int .i64) ([62,61]:SS) (5:Int) (db ([62]:SS) (5:Int) (db ([60,61]:SS) (5:Int) (db ([60]:SS) (5:Int) zq8))),?_⟩;conv=>whnf
 refine⟨_,vz xD (PV.int .i64) ([73,78]:SS) (5:Int) zq3,?_⟩;conv=>whnf
 refine⟨_,vz xD (PV.int .i64) ([43]:SS) (6:Int) (db ([73,78]:SS) (5:Int) zq3),?_⟩;conv=>whnf
 refine⟨_,vz xD (PV.int .i64) ([45]:SS) (6:Int) zq9,?_⟩;conv=>whnf
 refine⟨_,vz xD (PV.int .i64) ([42]:SS) (7:Int) (db ([45]:SS) (6:Int) zq9),?_⟩;conv=>whnf
 refine⟨_,vz xD (PV.int .i64) ([47]:SS) (7:Int) (db ([42]:SS) (7:Int) (db ([45]:SS) (6:Int) zq9)),?_⟩;conv=>whnf
 refine⟨_,vz xD (PV.int .i64) ([37]:SS) (7:Int) zq4,?_⟩;conv=>whnf
 refine⟨PV.int .i64 (va (db ([37]:SS) (7:Int) zq4) a (0:Int)),(LI (db ([37]:SS) (7:Int) zq4) a),⟨XO xD (PV.int .i64) (db ([37]:SS) (7:Int) zq4) a (0:Int),XQ xD (PV.int .i64) (db ([37]:SS) (7:Int) zq4) a⟩,?_⟩;obtain rfl:=sj h;conv=>whnf
 try exact fin
abbrev Bd (r:Bool):PV:=PV.bool r
def xW (n:Nat):Bool->Option (Bool):=fun a=>
 bif a then(
 some true)
 else(
 some false)
def fE (n:Nat) (a:SS):Option (Bool):=
 bif(a==([99,111,117,110,116]:SS))then(
 xW n (a==([99,111,117,110,116]:SS)))
 else(
 bif(a==([115,117,109]:SS))then(
 xW n (a==([115,117,109]:SS)))
 else(
 bif(a==([109,105,110]:SS))then(
 xW n (a==([109,105,110]:SS)))
 else(
 bif(a==([109,97,120]:SS))then(
 xW n (a==([109,97,120]:SS)))
 else(
 xW n (a==([99,111,108,108,101,99,116]:SS))))))
theorem Zl (n:Nat):∀ (a:SS) (r:Bool),fE n a=some r->qb TP 300 [PV.str a] (Bd r):=by
 intro a r h;unfold fE at h;refine zN Tryz.call300 Tryz.func300 [1000000] ?_;conv=>whnf
 refine cY.cut (S:=Bool) (fun c=>[(4,pB c)]) (fun c=>[]) (xW n) (r:=r) ?_ ?_
 ·intro c h
  unfold xW at h;conv=>whnf
  apply ifc h<;>intro b h
  ·obtain rfl:=sj h
   conv=>whnf
   try exact fin
  obtain rfl:=sj h;conv=>whnf
  try exact fin
 conv=>whnf
 apply ifc h<;>intro b h
 ·conv=>whnf
  exact⟨(a==([99,111,117,110,116]:SS)),h,wk [] []⟩
 conv=>whnf
 apply ifc h<;>intro b h
 ·conv=>whnf
  exact⟨(a==([115,117,109]:SS)),h,wk [] []⟩
 conv=>whnf
 apply ifc h<;>intro b h
 ·conv=>whnf
  exact⟨(a==([109,105,110]:SS)),h,wk [] []⟩
 conv=>whnf
 apply ifc h<;>intro b h
 ·conv=>whnf
  exact⟨(a==([109,97,120]:SS)),h,wk [] []⟩
 conv=>whnf
 exact⟨(a==([99,111,108,108,101,99,116]:SS)),h,wk [] []⟩
abbrev MT (r:Int×Bool):PV:=PV.tup [PV.int .i64 r.1,PV.bool r.2]
def qW (n:Nat) (a:SS) (b:Int) (c:List qe):Bool->Option (Int×Bool):=fun f=>
 bif f then(
 some ((1:Int),(a==([]:SS))))
 else(
 bif(b==10)then(
 bnd (rz n a) fun g=>
 some ((2:Int),(decide (g>0))))
 else(
 bif(b==13)then(
 bnd (vP n a) fun d=>
 bnd (qD d (fE n a)) fun i=>
 some ((-1:Int),(bif d then(!i)else false)))
 else(
 bif(b==14)then(
 bif(((qe.rows c).length:Int)==0)then(
 some ((0:Int),(a==([99,111,117,110,116]:SS))))
 else(
 bnd (fE n a) fun j=>
 some ((1:Int),j)))
 else(
 bif(b==15)then(
 bnd (bT n a) fun e=>
 bnd (qD (bif e then(((qe.rows c).length:Int)==1)else false) (idx c (0:Int))) fun⟨k,_,⟨_,_,_,_,_,_⟩,_,_⟩=>
 some ((1:Int),(bif(bif e then(((qe.rows c).length:Int)==1)else false)then(k==2)else false)))
 else(
 some ((0:Int),false))))))
def zf (n:Nat) (b:SS) (a:Int) (g:List SS) (c:List qe):Bool->Option (Int×Bool):=fun d=>
 bif d then(
 bnd (vP n b) fun e=>
 some ((0:Int),e))
 else(
 bif(a==4)then(
 bnd (bT n b) fun f=>
 some ((1:Int),f))
 else(
 bif(a==5)then(
 some ((-1:Int),(b==([]:SS))))
 else(
 bif(a==6)then(
 some (((qi g).length:Int),(b==([]:SS))))
 else(
 bif(a==7)then(
 some ((2:Int),(b==([]:SS))))
 else(
 bif(a==8)then(
 qW n b a c (a==8))
 else(
 bif(a==9)then(
 qW n b a c (a==9))
 else(
 bif(a==11)then(
 qW n b a c (a==11))
 else(
 qW n b a c (a==12)))))))))
def zu (n:Nat) (e:qe):Option (Int×Bool):=
 match e with
 | ⟨a,b,⟨g,i,j,k,l,m⟩,d,c⟩=>
 bif(a==1)then(
 bnd (qD (b==([]:SS)) (nQ n (Val.mk g i j k l m))) fun f=>
 some ((0:Int),(bif(b==([]:SS))then f else false)))
 else(
 bif(a==2)then(
 zf n b a d c (a==2))
 else(
 zf n b a d c (a==3)))
theorem HX (n:Nat):∀ (d:qe) (r:Int×Bool),zu n d=some r->qb TP 297 [PV.agg (zX.cells d)] (MT r):=by
 intro d r h;obtain⟨b,f,⟨k,l,m,o,p,q⟩,j,e⟩:=d;unfold zu at h;refine zN Tryz.call297 Tryz.func297 [1000000] ?_;conv=>whnf
 apply ifc h<;>intro a h
 ·conv=>whnf
  refine⟨id,id,?_⟩;conv=>whnf
  refine bq h fun _ s h=>⟨_,fun c=>(BR n _ _ (qa s c)),?_⟩;conv=>whnf
  refine⟨id,?_⟩;obtain rfl:=sj h;conv=>whnf
  try exact fin
 conv=>whnf
 refine cY.cut (S:=Bool) (fun g=>[(1,.ptr 0 0),(5,pI b),(16,pB g)]) (fun g=>[.box 49 [pI b,pS f,pI k,pB l,pI m,pS o,pV p,pT q,pT j,pE e]]) (zf n f b j e) (r:=r) ?_ ?_
 ·intro g h
  unfold zf at h;conv=>whnf
  apply ifc h<;>intro a h
  ·conv=>whnf
   refine bq h fun _ t h=>⟨_,(uK n _ _ t),?_⟩;obtain rfl:=sj h;conv=>whnf
   try exact fin
  conv=>whnf
  apply ifc h<;>intro a h
  ·conv=>whnf
   refine bq h fun _ u h=>⟨_,(mX n _ _ u),?_⟩;obtain rfl:=sj h;conv=>whnf
   try exact fin
  conv=>whnf
  apply ifc h<;>intro a h
  ·obtain rfl:=sj h
   conv=>whnf
   try exact fin
  conv=>whnf
  apply ifc h<;>intro a h
  ·obtain rfl:=sj h
   conv=>whnf
   try exact fin
  conv=>whnf
  apply ifc h<;>intro a h
  ·obtain rfl:=sj h
   conv=>whnf
   try exact fin
  conv=>whnf
  refine cY.cut (S:=Bool) (fun i=>[(1,.ptr 0 0),(5,pI b),(45,pB i)]) (fun i=>[.box 49 [pI b,pS f,pI k,pB l,pI m,pS o,pV p,pT q,pT j,pE e]]) (qW n f b e) (r:=r) ?_ ?_
  ·intro i h
   unfold qW at h;conv=>whnf
   apply ifc h<;>intro a h
   ·obtain rfl:=sj h
    conv=>whnf
    try exact fin
   conv=>whnf
   apply ifc h<;>intro a h
   ·conv=>whnf
    refine bq h fun _ v h=>⟨_,(HW n _ _ v),?_⟩;obtain rfl:=sj h;conv=>whnf
    try exact fin
   conv=>whnf
   apply ifc h<;>intro a h
   ·conv=>whnf
    refine bq h fun _ x h=>⟨_,(uK n _ _ x),?_⟩;(conv=>whnf);refine⟨id,id,?_⟩;(conv=>whnf);refine bq h fun _ w h=>⟨_,fun c=>(Zl n _ _ (qa w c)),?_⟩;(conv=>whnf);refine⟨id,id,?_⟩;obtain rfl:=sj h;conv=>whnf
    try exact fin
   conv=>whnf
   apply ifc h<;>intro a h
   ·conv=>whnf
    apply ifc h<;>intro a h
    ·obtain rfl:=sj h
     conv=>whnf
     try exact fin
    (conv=>whnf);refine bq h fun _ y h=>?_
    refine⟨_,(Zl n _ _ y),?_⟩;obtain rfl:=sj h;conv=>whnf
    try exact fin
   conv=>whnf
   apply ifc h<;>intro a h
   ·conv=>whnf
    refine bq h fun _ A h=>⟨_,(mX n _ _ A),?_⟩;conv=>whnf
    iterate 6 refine⟨id,?_⟩
    (conv=>whnf);refine bq h fun⟨_,_,⟨_,_,_,_,_,_⟩,_,_⟩ z h=>?_
    refine⟨_,fun c=>Codec.at_ zX (qa z c),?_⟩;(conv=>whnf);refine⟨id,id,id,id,?_⟩;obtain rfl:=sj h;conv=>whnf
    try exact fin
   obtain rfl:=sj h;conv=>whnf
   try exact fin
  conv=>whnf
  apply ifc h<;>intro a h
  ·conv=>whnf
   exact⟨(b==8),h,wk [0] []⟩
  conv=>whnf
  apply ifc h<;>intro a h
  ·conv=>whnf
   exact⟨(b==9),h,wk [0] []⟩
  conv=>whnf
  apply ifc h<;>intro a h
  ·conv=>whnf
   exact⟨(b==11),h,wk [0] []⟩
  conv=>whnf
  exact⟨(b==12),h,wk [0] []⟩
 conv=>whnf
 apply ifc h<;>intro a h
 ·conv=>whnf
  exact⟨(b==2),h,wk [0] []⟩
 conv=>whnf
 exact⟨(b==3),h,wk [0] []⟩
abbrev tF (r:Bool):PV:=PV.bool r
abbrev qp4:Type:=qe->Int->Option (Bool)
def fa (n:Nat) (b:List qe) (g296:qp4) (d:Int):LK (Int) (Bool):=fun c a=>
 bif(decide (a<((qe.rows b).length:Int)))then(
 bnd (idx b a) fun⟨e,f,⟨g,i,j,k,l,m⟩,o,p⟩=>
 bnd (g296 (qe.mk e f (Val.mk g i j k l m) o p) (kwr .i64 (d - 1))) fun q=>
 bif(!q)then(
 some false)
 else(
 c (kwr .i64 (a+1))))
 else(
 some true)
def gZ (n:Nat) (b:List SS) (d:List qe) (g296:qp4) (e:Int):LK (Int) (Bool):=fun c a=>
 bif(decide (a<((qi b).length:Int)))then(
 bnd (idx b a) fun f=>
 bnd (bT n f) fun g=>
 bif(!g)then(
 some false)
 else(
 c (kwr .i64 (a+1))))
 else(
 qo (fa n d g296 e) n (0:Int))
def rS (n:Nat) (g296:qp4) (o:qe) (d:Int):Option (Bool):=
 match o with
 | ⟨a,q,⟨g,i,j,k,l,m⟩,e,b⟩=>
 bnd (zu n (qe.mk a q (Val.mk g i j k l m) e b)) fun⟨c,f⟩=>
 bnd (qD ((!(bif(bif(!f)then true else(decide (d<1)))then true else(bif(decide (c≥0))then(((qe.rows b).length:Int) != c)else false)))&&(a != 1)) (fw n (Val.mk g i j k l m) (Val.mk (0:Int) false (0:Int) ([]:SS) ([]:List Val) ([]:List SS)))) fun p=>
 bif(bif(bif(bif(bif(!f)then true else(decide (d<1)))then true else(bif(decide (c≥0))then(((qe.rows b).length:Int) != c)else false))then true else(bif(a != 1)then(!p)else false))then true else(bif(a != 6)then(decide (((qi e).length:Int)>0))else false))then(
 some false)
 else(
 qo (gZ n e b g296 d) n (0:Int))
theorem DT (n:Nat) (g296:qp4) (g296_ok:∀ (b:qe) (a:Int) (r:Bool),g296 b a=some r->qb TP 296 [PV.agg (zX.cells b),PV.int .i64 a] (tF r)):∀ (b:qe) (a:Int) (r:Bool),rS n g296 b a=some r->qb TP 296 [PV.agg (zX.cells b),PV.int .i64 a] (tF r):=by
 intro b a r h;obtain⟨s,t,⟨u,v,w,x,y,z⟩,g,c⟩:=b;unfold rS at h;refine zN Tryz.call296 Tryz.func296 [1000000] ?_;conv=>whnf
 refine bq h fun⟨_,_⟩ o h=>⟨_,(HX n _ _ o),?_⟩;conv=>whnf
 iterate 17 refine⟨id,?_⟩
 conv=>whnf
 refine bq h fun _ m h=>⟨_,fun q=>(qb.leArgs (Gw n _ _ _ (qa m q)) (by try exact fin)),?_⟩;conv=>whnf
 iterate 13 refine⟨id,?_⟩
 conv=>whnf
 apply ifc h<;>intro d h
 ·obtain rfl:=sj h
  conv=>whnf
  try exact fin
 conv=>whnf
 refine qX.fn [1000000] (S:=Int) (fun e=>[(1,pI a),(2,.ptr 0 0),(57,pT g),(58,.p (.int .i64 ((qi g).length:Int))),(59,pI e)]) (fun e=>[.box 49 [pI s,pS t,pI u,pB v,pI w,pS x,pV y,pT z,pT g,pE c]]) (B:=gZ n g c g296 a) h (wk [0] []) ?_;intro _ e h;unfold gZ at h;conv=>whnf
 apply ifc h<;>intro d h
 ·conv=>whnf
  refine bq h fun _ j h=>⟨_,Codec.at_ cc j,?_⟩;conv=>whnf
  refine bq h fun _ i h=>⟨_,(mX n _ _ i),?_⟩;conv=>whnf
  apply ifc h<;>intro d h
  ·obtain rfl:=sj h
   conv=>whnf
   try exact fin
  conv=>whnf
  exact⟨(kwr .i64 (e+1)),h,wk [0] []⟩
 conv=>whnf
 refine qX.fn [1000000] (S:=Int) (fun f=>[(1,pI a),(68,pE c),(69,.p (.int .i64 ((qe.rows c).length:Int))),(70,pI f)]) (fun f=>[]) (B:=fa n c g296 a) h (wk [] []) ?_;intro _ f h;unfold fa at h;conv=>whnf
 apply ifc h<;>intro d h
 ·conv=>whnf
  refine bq h fun⟨_,_,⟨_,_,_,_,_,_⟩,_,_⟩ l h=>⟨_,Codec.at_ zX l,?_⟩;conv=>whnf
  refine bq h fun _ k h=>⟨_,(g296_ok _ _ _ k),?_⟩;conv=>whnf
  apply ifc h<;>intro d h
  ·obtain rfl:=sj h
   conv=>whnf
   try exact fin
  conv=>whnf
  exact⟨(kwr .i64 (f+1)),h,wk [] []⟩
 obtain rfl:=sj h;conv=>whnf
 try exact fin
def zT:Nat->qe->Int->Option (Bool)
 | 0=>fun _ _=>none
 | n+1=>rS n (zT n)
theorem Ee (n:Nat):(∀ (a:qe) (b:Int) (r:Bool),zT n a b=some r->qb TP 296 [PV.agg (zX.cells a),PV.int .i64 b] (tF r)):=by
 induction n with
 | zero=>exact(by intros; rename_i h; cases h)
 | succ n ih=>
  have hg296:=ih;exact DT n (zT n) hg296
theorem Ze (n:Nat):∀ (a:qe) (b:Int) (r:Bool),zT n a b=some r->qb TP 296 [PV.agg (zX.cells a),PV.int .i64 b] (tF r):=(Ee n)
abbrev Bm (r:Bool):PV:=PV.bool r
def uD (n:Nat) (c:List SS) (m:List qe):LK (Int) (Bool):=fun d a=>
 bif(decide (a<((qi c).length:Int)))then(
 bnd (idx c a) fun o=>
 bnd (bT n o) fun b=>
 bnd (qD (!(!b)) (idx m a)) fun⟨p,q,⟨s,t,e,f,g,i⟩,j,k⟩=>
 bnd (qD (!(!b)) (zT n (qe.mk p q (Val.mk s t e f g i) j k) (32:Int))) fun l=>
 bif(bif(!b)then true else(!l))then(
 some false)
 else(
 d (kwr .i64 (a+1))))
 else(
 some true)
def fI (n:Nat) (c:Eg):Option (Bool):=
 match c with
 | ⟨a,b⟩=>
 bif(((qi a).length:Int) != ((qe.rows b).length:Int))then(
 some false)
 else(
 qo (uD n a b) n (0:Int))
theorem Zm (n:Nat):∀ (a:Eg) (r:Bool),fI n a=some r->qb TP 295 [PV.agg (qpk.cells a)] (Bm r):=by
 intro a r h;obtain⟨b,f⟩:=a;unfold fI at h;refine zN Tryz.call295 Tryz.func295 [1000000] ?_;conv=>whnf
 apply ifc h<;>intro e h
 ·obtain rfl:=sj h
  conv=>whnf
  try exact fin
 conv=>whnf
 refine qX.fn [1000000] (S:=Int) (fun c=>[(1,.ptr 0 0),(13,pT b),(14,.p (.int .i64 ((qi b).length:Int))),(15,pI c)]) (fun c=>[.box 325 [pT b,pE f]]) (B:=uD n b f) h (wk [0] []) ?_;intro _ c h;unfold uD at h;conv=>whnf
 apply ifc h<;>intro e h
 ·conv=>whnf
  refine bq h fun _ k h=>⟨_,Codec.at_ cc k,?_⟩;conv=>whnf
  refine bq h fun _ j h=>⟨_,(mX n _ _ j),?_⟩;conv=>whnf
  refine⟨id,id,id,?_⟩;conv=>whnf
  refine bq h fun⟨_,_,⟨_,_,_,_,_,_⟩,_,_⟩ i h=>⟨_,fun d=>Codec.at_ zX (qa i d),?_⟩;conv=>whnf
  refine⟨id,id,?_⟩;conv=>whnf
  refine bq h fun _ g h=>⟨_,fun d=>(Ze n _ _ _ (qa g d)),?_⟩;conv=>whnf
  refine⟨id,id,?_⟩;conv=>whnf
  apply ifc h<;>intro e h
  ·obtain rfl:=sj h
   conv=>whnf
   try exact fin
  conv=>whnf
  exact⟨(kwr .i64 (c+1)),h,wk [0] []⟩
 obtain rfl:=sj h;conv=>whnf
 try exact fin
abbrev Dd (r:Bool):PV:=PV.bool r
def gh (n:Nat) (c:List SS) (a:SS) (f:List SS) (g:List qe):LK (Int) (Bool):=fun e b=>
 bif(decide (b<((qi c).length:Int)))then(
 bnd (idx c b) fun i=>
 bnd (bT n i) fun j=>
 bif(!j)then(
 some false)
 else(
 e (kwr .i64 (b+1))))
 else(
 bnd (qD (!(a==([]:SS))) (vP n a)) fun d=>
 bnd (qD (bif(a==([]:SS))then true else d) (fI n (Eg.mk f g))) fun k=>
 some (bif(bif(a==([]:SS))then true else d)then k else false))
def vO (n:Nat) (a:qt):Option (Bool):=
 match a with
 | ⟨b,c,d,e⟩=>
 qo (gh n c b d e) n (0:Int)
theorem CO (n:Nat):∀ (a:qt) (r:Bool),vO n a=some r->qb TP 292 [PV.agg (gO.cells a)] (Dd r):=by
 intro a r h;obtain⟨e,b,f,g⟩:=a;unfold vO at h;refine zN Tryz.call292 Tryz.func292 [1000000] ?_;conv=>whnf
 refine qX.fn [1000000] (S:=Int) (fun c=>[(1,.ptr 0 0),(6,pT b),(7,.p (.int .i64 ((qi b).length:Int))),(8,pI c)]) (fun c=>[.box 322 [pS e,pT b,pT f,pE g]]) (B:=gh n b e f g) h (wk [0] []) ?_;intro _ c h;unfold gh at h;conv=>whnf
 apply ifc h<;>intro m h
 ·conv=>whnf
  refine bq h fun _ j h=>⟨_,Codec.at_ cc j,?_⟩;conv=>whnf
  refine bq h fun _ i h=>⟨_,(mX n _ _ i),?_⟩;conv=>whnf
  apply ifc h<;>intro m h
  ·obtain rfl:=sj h
   conv=>whnf
   try exact fin
  conv=>whnf
  exact⟨(kwr .i64 (c+1)),h,wk [0] []⟩
 conv=>whnf
 refine⟨id,id,?_⟩;conv=>whnf
 refine bq h fun _ l h=>⟨_,fun d=>(uK n _ _ (qa l d)),?_⟩;conv=>whnf
 iterate 6 refine⟨id,?_⟩
 conv=>whnf
 refine bq h fun _ k h=>⟨_,fun d=>(Zm n _ _ (qa k d)),?_⟩;conv=>whnf
 refine⟨id,?_⟩;obtain rfl:=sj h;conv=>whnf
 try exact fin
abbrev BZ (r:Bool):PV:=PV.bool r
def vr (n:Nat) (f:qy):Option (Bool):=
 match f with
 | ⟨a,b,c,g,i⟩=>
 bnd (qD (!(a==([]:SS))) (vP n a)) fun d=>
 bnd (qD ((bif(a==([]:SS))then true else d)&&(!(b==([]:SS)))) (bT n b)) fun e=>
 bnd (qD (bif(bif(bif(bif(a==([]:SS))then true else d)then(bif(b==([]:SS))then true else e)else false)then(decide (c≥0))else false)then(decide (c<=2))else false) (fI n (Eg.mk g i))) fun j=>
 some (bif(bif(bif(bif(bif(a==([]:SS))then true else d)then(bif(b==([]:SS))then true else e)else false)then(decide (c≥0))else false)then(decide (c<=2))else false)then j else false)
theorem CL (n:Nat):∀ (b:qy) (r:Bool),vr n b=some r->qb TP 293 [PV.agg (cZ.cells b)] (BZ r):=by
 intro b r h;obtain⟨_,_,_,_,_⟩:=b;unfold vr at h;refine zN Tryz.call293 Tryz.func293 [1000000] ?_;conv=>whnf
 refine⟨id,id,?_⟩;conv=>whnf
 refine bq h fun _ e h=>⟨_,fun a=>(uK n _ _ (qa e a)),?_⟩;conv=>whnf
 iterate 6 refine⟨id,?_⟩
 conv=>whnf
 refine bq h fun _ d h=>⟨_,fun a=>(mX n _ _ (qa d a)),?_⟩;conv=>whnf
 iterate 14 refine⟨id,?_⟩
 conv=>whnf
 refine bq h fun _ c h=>⟨_,fun a=>(Zm n _ _ (qa c a)),?_⟩;conv=>whnf
 refine⟨id,?_⟩;obtain rfl:=sj h;conv=>whnf
 try exact fin
end W
end
