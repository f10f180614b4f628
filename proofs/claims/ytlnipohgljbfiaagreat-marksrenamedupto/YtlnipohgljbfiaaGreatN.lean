/- A part of the proof: contracts, printed by program. -/
import Derived.Test.YtlnipohgljbfiaaGreatB
import Derived.Test.YtlnipohgljbfiaaGreatC
import Derived.Test.YtlnipohgljbfiaaGreatD
import Derived.Test.YtlnipohgljbfiaaGreatI
import Derived.Test.YtlnipohgljbfiaaGreatJ
import Derived.Test.YtlnipohgljbfiaaGreatK
import Derived.Test.YtlnipohgljbfiaaGreatM
set_option linter.unusedVariables false
set_option linter.unusedSimpArgs false
set_option linter.unnecessarySimpa false
set_option linter.deprecated false
set_option linter.unusedSectionVars false
set_option linter.constructorNameAsVariable false
open Go.IntKind renaming wrap->kwr,bits->kbt
section
set_option maxRecDepth 100000
set_option maxHeartbeats 4000000
open Go Go.Proofs Ax
namespace W
abbrev iQ (r:SS):PV:=PV.str r
def dJ (n:Nat) (a b:SS):Option SS:=
 bif(a==([]:SS))then(
 some ([]:SS))
 else(
 chk (decide (((a.length+b.length:Nat):Int)<=xr)) (
 some (a++b)))
theorem bI (n:Nat):∀ (a b r:SS),dJ n a b=some r->qb TP 47 [PV.str a,PV.str b] (iQ r):=by
 intro a b r h;unfold dJ at h;refine zN Tryz.call47 Tryz.func47 [1000000] ?_;conv=>whnf
 apply ifc h<;>intro _ h
 ·obtain rfl:=sj h
  conv=>whnf
  try exact fin
 conv=>whnf
 obtain⟨c,h⟩:=qg h;refine⟨(kod c:((a.length+b.length:Nat):Int)<=xr),?_⟩;obtain rfl:=sj h;conv=>whnf
 try exact fin
abbrev fS (r:List qe):PV:=PV.sl (qe.rows r)
abbrev qot:Type:=qe->SS->Option (qe)
def ux (n:Nat) (c:List qe) (g46:qot) (w:SS):LK (List qe×Int) (List qe):=fun p (a,b)=>
 bif(decide (b<((qe.rows c).length:Int)))then(
 bnd (idx c b) fun⟨x,y,⟨z,A,B,q,s,t⟩,u,v⟩=>
 bnd (g46 (qe.mk x y (Val.mk z A B q s t) u v) w) fun⟨d,e,⟨f,g,i,j,k,l⟩,m,o⟩=>
 chk (decide ((qe.rows (a++[qe.mk d e (Val.mk f g i j k l) m o])).length * 160<=140737488355328)) (
 p ((a++[qe.mk d e (Val.mk f g i j k l) m o]),(kwr .i64 (b+1)))))
 else(
 some a)
abbrev qou:Type:=(List qe)->SS->Option (List qe)
def nf (n:Nat) (g45:qou) (g46:qot) (a:List qe) (b:SS):Option (List qe):=
 qo (ux n a g46 b) n (([]:List _),(0:Int))
abbrev cX (r:qe):PV:=PV.agg (zX.cells r)
def fN (n:Nat) (g45:qou) (b:List qe) (c:SS) (a f:Int) (g:Bool) (i:Int) (j:SS) (k:List Val) (l m:List SS):SS->Option (qe):=fun d=>
 bnd (g45 b c) fun e=>
 some (qe.mk a d (Val.mk f g i j k l) m e)
def pd (n:Nat) (g45:qou) (g46:qot) (m:qe) (b:SS):Option (qe):=
 match m with
 | ⟨a,d,⟨e,f,g,i,j,k⟩,l,c⟩=>
 bif(a==2)then(
 bnd (dJ n d b) fun o=>
 fN n g45 c b a e f g i j k l o)
 else(
 fN n g45 c b a e f g i j k l d)
theorem UX (n:Nat) (g45:qou) (g46:qot) (g45_ok:∀ (b:List qe) (c:SS) (r:List qe),g45 b c=some r->qb TP 45 [PV.sl (qe.rows b),PV.str c] (fS r)) (g46_ok:∀ (s:qe) (q:SS) (r:qe),g46 s q=some r->qb TP 46 [PV.agg (zX.cells s),PV.str q] (cX r)):∀ (b:List qe) (c:SS) (r:List qe),nf n g45 g46 b c=some r->qb TP 45 [PV.sl (qe.rows b),PV.str c] (fS r):=by
 intro b c r h;unfold nf at h;refine zN Tryz.call45 Tryz.func45 [1000000] ?_;conv=>whnf
 refine qX.fn [1000000] (S:=List qe×Int) (fun(a,p)=>[(0,pE b),(1,pS c),(5,.tsl 0 (qe.rows a)),(6,pI p)]) (fun(a,p)=>[.tail 49 10 (qe.rows a).length]) (B:=ux n b g46 c) h (wk [0] [0]) ?_;intro _ st h;obtain⟨a,p⟩:=st;unfold ux at h;conv=>whnf
 apply ifc h<;>intro _ h
 ·conv=>whnf
  refine bq h fun⟨_,_,⟨_,_,_,_,q,_⟩,_,_⟩ v h=>⟨_,Codec.at_ zX v,?_⟩;conv=>whnf
  refine bq h fun⟨d,e,⟨f,g,i,j,k,l⟩,m,o⟩ u h=>⟨_,(g46_ok _ _ _ u),?_⟩;conv=>whnf
  refine⟨Codec.one zX [qe.mk d e (Val.mk f g i j k l) m o],qe.rows [qe.mk d e (Val.mk f g i j k l) m o],.inl rfl,?_⟩;conv=>whnf
  rw[show qe.rows a++qe.rows [qe.mk d e (Val.mk f g i j k l) m o]=qe.rows (a++[qe.mk d e (Val.mk f g i j k l) m o])from Codec.append zX a [qe.mk d e (Val.mk f g i j k l) m o]];conv=>whnf
  obtain⟨t,h⟩:=qg h;refine⟨⟨Codec.wide zX (a++[qe.mk d e (Val.mk f g i j k l) m o]),kod t,xj t (by decide)⟩,?_⟩;conv=>whnf
  refine⟨⟨rfl,rfl,rfl⟩,?_⟩;conv=>whnf
  exact⟨((a++[qe.mk d e (Val.mk f g i j k l) m o]),(kwr .i64 (p+1))),h,wk [1] []⟩
 obtain rfl:=sj h;conv=>whnf
 try exact fin
theorem FA (n:Nat) (g45:qou) (g46:qot) (g45_ok:∀ (c:List qe) (d:SS) (r:List qe),g45 c d=some r->qb TP 45 [PV.sl (qe.rows c),PV.str d] (fS r)) (g46_ok:∀ (b:qe) (a:SS) (r:qe),g46 b a=some r->qb TP 46 [PV.agg (zX.cells b),PV.str a] (cX r)):∀ (b:qe) (a:SS) (r:qe),pd n g45 g46 b a=some r->qb TP 46 [PV.agg (zX.cells b),PV.str a] (cX r):=by
 intro b a r h;obtain⟨c,d,⟨g,i,j,k,l,m⟩,o,f⟩:=b;unfold pd at h;refine zN Tryz.call46 Tryz.func46 [1000000] ?_;conv=>whnf
 refine cY.cut (S:=SS) (fun e=>[(1,pS a),(2,.ptr 0 0),(4,.ptr 1 0)]) (fun e=>[.box 49 [pI c,pS e,pI g,pB i,pI j,pS k,pV l,pT m,pT o,pE f],.box 49 [zq0,zq1,zq0,pB false,zq0,zq1,zq2,zq2,zq2,zq2]]) (fN n g45 f a c g i j k l m o) (r:=r) ?_ ?_
 ·intro e h
  unfold fN at h;conv=>whnf
  refine bq h fun _ p h=>⟨_,(g45_ok _ _ _ p),?_⟩;obtain rfl:=sj h;conv=>whnf
  try exact fin
 conv=>whnf
 apply ifc h<;>intro _ h
 ·conv=>whnf
  refine bq h fun s q h=>⟨_,(bI n _ _ _ q),?_⟩;conv=>whnf
  exact⟨s,h,wk [0,1] []⟩
 conv=>whnf
 exact⟨d,h,wk [0,1] []⟩
mutual
def zM:Nat->(List qe)->SS->Option (List qe)
 | 0=>fun _ _=>none
 | n+1=>nf n (zM n) (zZ n)
def zZ:Nat->qe->SS->Option (qe)
 | 0=>fun _ _=>none
 | n+1=>pd n (zM n) (zZ n)
end
theorem QI (n:Nat):(∀ (b:List qe) (d:SS) (r:List qe),zM n b d=some r->qb TP 45 [PV.sl (qe.rows b),PV.str d] (fS r))/\(∀ (a:qe) (c:SS) (r:qe),zZ n a c=some r->qb TP 46 [PV.agg (zX.cells a),PV.str c] (cX r)):=by
 induction n with
 | zero=>exact⟨(by intros; rename_i h; cases h),(by intros; rename_i h; cases h)⟩
 | succ n ih=>
  obtain⟨hg45,hg46⟩:=ih;exact⟨UX n (zM n) (zZ n) hg45 hg46,FA n (zM n) (zZ n) hg45 hg46⟩
theorem fc (n:Nat):∀ (a:List qe) (b:SS) (r:List qe),zM n a b=some r->qb TP 45 [PV.sl (qe.rows a),PV.str b] (fS r):=(QI n).1
theorem bJ (n:Nat):∀ (a:qe) (b:SS) (r:qe),zZ n a b=some r->qb TP 46 [PV.agg (zX.cells a),PV.str b] (cX r):=(QI n).2
abbrev BV (r:zx):PV:=PV.agg (pb.cells r)
def uX (n:Nat) (g:List qy) (j:SS) (o:List qt):LK (Int×List qy) (zx):=fun k (a,b)=>
 bif(decide (a<((qy.rows g).length:Int)))then(
 bnd (idx g a) fun⟨l,c,d,e,m⟩=>
 bnd (dJ n l j) fun f=>
 bnd (zM n m j) fun i=>
 chk (decide ((qy.rows (b++[qy.mk f c d e i])).length * 88<=140737488355328)) (
 k ((kwr .i64 (a+1)),(b++[qy.mk f c d e i]))))
 else(
 some (zx.mk o b))
def uW (n:Nat) (d:List qt) (a:SS) (k:List qy):LK (Int×List qt) (zx):=fun j (b,c)=>
 bif(decide (b<((qt.rows d).length:Int)))then(
 bnd (idx d b) fun⟨l,g,i,m⟩=>
 bnd (dJ n l a) fun e=>
 bnd (zM n m a) fun f=>
 chk (decide ((qt.rows (c++[qt.mk e g i f])).length * 88<=140737488355328)) (
 j ((kwr .i64 (b+1)),(c++[qt.mk e g i f]))))
 else(
 qo (uX n k a c) n ((0:Int),([]:List _)))
def ma (n:Nat) (a:zx) (d:SS):Option (zx):=
 match a with
 | ⟨b,c⟩=>
 qo (uW n b d c) n ((0:Int),([]:List _))
theorem CI (n:Nat):∀ (o:zx) (k:SS) (r:zx),ma n o k=some r->qb TP 44 [PV.agg (pb.cells o),PV.str k] (BV r):=by
 intro o k r h;obtain⟨t,q⟩:=o;unfold ma at h;refine zN Tryz.call44 Tryz.func44 [1000000] ?_;conv=>whnf
 refine qX.fn [1000000] (S:=Int×List qt) (fun(s,a)=>[(1,pS k),(2,.ptr 0 0),(4,.ptr 1 0),(5,.ptr 2 0),(6,pI s)]) (fun(s,a)=>[.box 60 [pN t,pG q],.box 60 [zq2,zq2],.box 60 [.tsl 3 (qt.rows a),zq2],.tail 62 4 (qt.rows a).length]) (B:=uW n t k q) h (wk [0,1,2,0] [3]) ?_;intro _ st h;obtain⟨s,a⟩:=st;unfold uW at h;conv=>whnf
 apply ifc h<;>intro D h
 ·conv=>whnf
  refine bq h fun⟨_,l,m,_⟩ y h=>⟨_,Codec.at_ gO y,?_⟩;conv=>whnf
  refine bq h fun c x h=>⟨_,(bI n _ _ _ x),?_⟩;conv=>whnf
  refine bq h fun d w h=>⟨_,(fc n _ _ _ w),?_⟩;conv=>whnf
  refine⟨Codec.one gO [qt.mk c l m d],qt.rows [qt.mk c l m d],.inl rfl,?_⟩;conv=>whnf
  rw[show qt.rows a++qt.rows [qt.mk c l m d]=qt.rows (a++[qt.mk c l m d])from Codec.append gO a [qt.mk c l m d]];conv=>whnf
  obtain⟨u,h⟩:=qg h;refine⟨⟨Codec.wide gO (a++[qt.mk c l m d]),kod u,xj u (by decide)⟩,?_⟩;conv=>whnf
  refine⟨⟨rfl,rfl,rfl⟩,?_⟩;conv=>whnf
  exact⟨((kwr .i64 (s+1)),(a++[qt.mk c l m d])),h,wk [0,1,2,5] []⟩
 conv=>whnf
 refine qX.fn [1000000] (S:=Int×List qy) (fun(p,b)=>[(1,pS k),(2,.ptr 0 0),(4,.ptr 1 0),(5,.ptr 2 0),(8,pI p)]) (fun(p,b)=>[.box 60 [pN t,pG q],.box 60 [zq2,zq2],.box 60 [.tsl 3 (qt.rows a),.tsl 4 (qy.rows b)],.tail 62 4 (qt.rows a).length,.tail 64 5 (qy.rows b).length]) (B:=uX n q k a) h (wk [0,1,2,3,0] [4]) ?_;intro _ st h;obtain⟨p,b⟩:=st;unfold uX at h;conv=>whnf
 apply ifc h<;>intro D h
 ·conv=>whnf
  refine bq h fun⟨_,e,f,g,_⟩ C h=>⟨_,Codec.at_ cZ C,?_⟩;conv=>whnf
  refine bq h fun i A h=>⟨_,(bI n _ _ _ A),?_⟩;conv=>whnf
  refine bq h fun j z h=>⟨_,(fc n _ _ _ z),?_⟩;conv=>whnf
  refine⟨Codec.one cZ [qy.mk i e f g j],qy.rows [qy.mk i e f g j],.inl rfl,?_⟩;conv=>whnf
  rw[show qy.rows b++qy.rows [qy.mk i e f g j]=qy.rows (b++[qy.mk i e f g j])from Codec.append cZ b [qy.mk i e f g j]];conv=>whnf
  obtain⟨v,h⟩:=qg h;refine⟨⟨Codec.wide cZ (b++[qy.mk i e f g j]),kod v,xj v (by decide)⟩,?_⟩;conv=>whnf
  refine⟨⟨rfl,rfl,rfl⟩,?_⟩;conv=>whnf
  exact⟨((kwr .i64 (p+1)),(b++[qy.mk i e f g j])),h,wk [0,1,2,3,6] []⟩
 obtain rfl:=sj h;conv=>whnf
 try exact fin
abbrev PU (r:bu):PV:=PV.agg (Cn.cells r)
def dP (n:Nat) (i:List SS) (G:SS) (u:List qd) (B:Int) (k:List zx) (l:List qe) (m:Int) (o:SS) (p:Int) (q:Bool) (s:Int) (t:SS) (v:List Val) (w x:List SS) (y:List qe) (z:SS) (A:List xM) (g:Bool) (C:List qS) (c d:List qe) (e:List qj) (j:Bool) (D:Int×List qd->Option (bu)) (H:Int):LK (Int×List SS) (bu):=fun E (b,a)=>
 bif(decide (b<((qi i).length:Int)))then(
 bnd (idx i b) fun F=>
 bnd (dJ n F G) fun f=>
 chk (decide ((qi (a++[f])).length * 16<=140737488355328)) (
 E ((kwr .i64 (b+1)),(a++[f]))))
 else(
 chk (decide ((qd.rows (u++[qd.mk B k l (qe.mk m o (Val.mk p q s t v w) x y) z A g C c d e a j])).length * 392<=140737488355328)) (
 D ((kwr .i64 (H+1)),(u++[qd.mk B k l (qe.mk m o (Val.mk p q s t v w) x y) z A g C c d e a j]))))
def dO (n:Nat) (t:List qj) (c:SS) (K:List SS) (V:List qd) (a2:Int) (M:List zx) (O:List qe) (P:Int) (Q:SS) (R:Int) (S:Bool) (T:Int) (U:SS) (W:List Val) (X Y:List SS) (Z:List qe) (a0:SS) (a1:List xM) (J:Bool) (a3:List qS) (w x:List qe) (L:Bool) (u:Int×List qd->Option (bu)) (N:Int):LK (Int×List qj) (bu):=fun v (a,b)=>
 bif(decide (a<((qj.rows t).length:Int)))then(
 bnd (idx t a) fun⟨y,d,e,⟨z,A,⟨B,C,D,E,F,G⟩,H,I⟩⟩=>
 bnd (dJ n y c) fun f=>
 bnd (zZ n (qe.mk z A (Val.mk B C D E F G) H I) c) fun⟨g,i,⟨j,k,l,m,o,p⟩,q,s⟩=>
 chk (decide ((qj.rows (b++[qj.mk f d e (qe.mk g i (Val.mk j k l m o p) q s)])).length * 208<=140737488355328)) (
 v ((kwr .i64 (a+1)),(b++[qj.mk f d e (qe.mk g i (Val.mk j k l m o p) q s)]))))
 else(
 qo (dP n K c V a2 M O P Q R S T U W X Y Z a0 a1 J a3 w x b L u N) n ((0:Int),([]:List _)))
def dN (n:Nat) (c:List qS) (a:SS) (x y:List qe) (z:List qj) (A:List SS) (L:List qd) (S:Int) (C:List zx) (E:List qe) (F:Int) (G:SS) (H:Int) (I:Bool) (J:Int) (K:SS) (M:List Val) (N O:List SS) (P:List qe) (Q:SS) (R:List xM) (w B:Bool) (s:Int×List qd->Option (bu)) (D:Int):LK (Int×List qS) (bu):=fun t (b,d)=>
 bif(decide (b<((qS.rows c).length:Int)))then(
 bnd (idx c b) fun⟨⟨T,U,⟨V,W,X,Y,Z,a0⟩,a1,a2⟩,_⟩=>
 bnd (zZ n (qe.mk T U (Val.mk V W X Y Z a0) a1 a2) a) fun⟨j,k,⟨l,m,o,p,q,e⟩,f,g⟩=>
 bnd (idx c b) fun⟨⟨_,_,⟨_,_,_,_,_,_⟩,_,_⟩,i⟩=>
 chk (decide ((qS.rows (d++[qS.mk (qe.mk j k (Val.mk l m o p q e) f g) i])).length * 168<=140737488355328)) (
 t ((kwr .i64 (b+1)),(d++[qS.mk (qe.mk j k (Val.mk l m o p q e) f g) i]))))
 else(
 bnd (zM n x a) fun u=>
 bnd (zM n y a) fun v=>
 qo (dO n z a A L S C E F G H I J K M N O P Q R w d u v B s D) n ((0:Int),([]:List _)))
def dM (n:Nat) (b:List xM) (c:SS) (v:List qS) (w x:List qe) (y:List qj) (z:List SS) (K:List qd) (T:Int) (B:List zx) (D:List qe) (E:Int) (F:SS) (G:Int) (H:Bool) (I:Int) (J:SS) (L:List Val) (M N:List SS) (O:List qe) (P:SS) (u A:Bool) (s:Int×List qd->Option (bu)) (C:Int):LK (Int×List xM) (bu):=fun t (a,d)=>
 bif(decide (a<((xM.rows b).length:Int)))then(
 bnd (idx b a) fun⟨⟨Q,R,⟨S,U,V,W,X,Y⟩,Z,a0⟩,_⟩=>
 bnd (zZ n (qe.mk Q R (Val.mk S U V W X Y) Z a0) c) fun⟨e,f,⟨g,i,j,k,l,m⟩,o,p⟩=>
 bnd (idx b a) fun⟨⟨_,_,⟨_,_,_,_,_,_⟩,_,_⟩,a1⟩=>
 bnd (dJ n a1 c) fun q=>
 chk (decide ((xM.rows (d++[xM.mk (qe.mk e f (Val.mk g i j k l m) o p) q])).length * 176<=140737488355328)) (
 t ((kwr .i64 (a+1)),(d++[xM.mk (qe.mk e f (Val.mk g i j k l m) o p) q]))))
 else(
 qo (dN n v c w x y z K T B D E F G H I J L M N O P d u A s C) n ((0:Int),([]:List _)))
def dL (n:Nat) (f:List zx) (a:SS) (T:List qe) (U:Int) (V:SS) (j:Int) (k:Bool) (l:Int) (m:SS) (o:List Val) (p q:List SS) (s:List qe) (t:SS) (u:List xM) (w:List qS) (x y:List qe) (z:List qj) (A:List SS) (M:List qd) (S:Int) (v B:Bool) (g:Int×List qd->Option (bu)) (D:Int):LK (Int×List zx) (bu):=fun i (b,c)=>
 bif(decide (b<((zx.rows f).length:Int)))then(
 bnd (idx f b) fun⟨C,E⟩=>
 bnd (ma n (zx.mk C E) a) fun⟨d,e⟩=>
 chk (decide ((zx.rows (c++[zx.mk d e])).length * 48<=140737488355328)) (
 i ((kwr .i64 (b+1)),(c++[zx.mk d e]))))
 else(
 bnd (zM n T a) fun F=>
 bnd (zZ n (qe.mk U V (Val.mk j k l m o p) q s) a) fun⟨G,H,⟨I,J,K,L,N,O⟩,P,Q⟩=>
 bnd (dJ n t a) fun R=>
 qo (dM n u a w x y z A M S c F G H I J K L N O P Q R v B g D) n ((0:Int),([]:List _)))
def dK (n:Nat) (b:List qd) (q:SS):LK (Int×List qd) (bu):=fun d (a,c)=>
 bif(decide (a<((qd.rows b).length:Int)))then(
 bnd (idx b a) fun⟨z,A,B,⟨C,D,⟨e,f,g,i,j,k⟩,l,m⟩,o,p,s,t,u,v,w,x,y⟩=>
 qo (dL n A q B C D e f g i j k l m o p t u v w x c z s y d a) n ((0:Int),([]:List _)))
 else(
 some (bu.mk c))
def sX (n:Nat) (a:bu) (c:SS):Option (bu):=
 match a with
 | ⟨b⟩=>
 qo (dK n b c) n ((0:Int),([]:List _))
theorem Mk (n:Nat):∀ (d8:bu) (k:SS) (r:bu),sX n d8 k=some r->qb TP 18 [PV.agg (Cn.cells d8),PV.str k] (PU r):=by
 intro d8 k r h;obtain⟨J⟩:=d8;unfold sX at h;refine zN Tryz.call18 Tryz.func18 [1000000] ?_;conv=>whnf
 refine qX.fn [1000000] (S:=Int×List qd) (fun(A,c)=>[(1,pS k),(2,.ptr 0 0),(4,.ptr 1 0),(5,.ptr 2 0),(6,pI A)]) (fun(A,c)=>[.box 24 [pC J],.box 24 [zq2],.box 24 [.tsl 3 (qd.rows c)],.tail 54 22 (qd.rows c).length]) (B:=dK n J k) h (wk [0,1,2,0] [3]) ?_;intro d7 st h;obtain⟨A,c⟩:=st;unfold dK at h;conv=>whnf
 apply ifc h<;>intro d6 h
 ·conv=>whnf
  refine bq h fun⟨f,d5,c4,⟨c6,c7,⟨K,O,R,U,a4,a8⟩,a9,b0⟩,b1,I,d,H,F,G,C,z,e⟩ g4 h=>⟨_,Codec.at_ xN g4,?_⟩;conv=>whnf
  refine qX.fn [1000000] (S:=Int×List zx) (fun(e1,a)=>[(1,pS k),(2,.ptr 0 0),(4,.ptr 1 0),(5,.ptr 2 0),(6,pI A),(7,.ptr 3 0),(8,.ptr 4 0),(9,pI e1)]) (fun(e1,a)=>[.box 24 [pC J],.box 24 [zq2],.box 24 [.tsl 5 (qd.rows c)],.box 54 [pI f,pP d5,pE c4,pI c6,pS c7,pI K,pB O,pI R,pS U,pV a4,pT a8,pT a9,pE b0,pS b1,pA I,pB d,pO H,pE F,pE G,pU C,pT z,pB e],.box 54 [pI f,.tsl 6 (zx.rows a),pE c4,pI c6,pS c7,pI K,pB O,pI R,pS U,pV a4,pT a8,pT a9,pE b0,pS b1,pA I,pB d,pO H,pE F,pE G,pU C,pT z,pB e],.tail 54 22 (qd.rows c).length,.tail 60 2 (zx.rows a).length]) (B:=dL n d5 k c4 c6 c7 K O R U a4 a8 a9 b0 b1 I H F G C z c f d e d7 A) h (wk [0,1,2,4,5,3,0] [6]) ?_;intro _ st h;obtain⟨e1,a⟩:=st;unfold dL at h;conv=>whnf
  apply ifc h<;>intro d6 h
  ·conv=>whnf
   refine bq h fun⟨_,_⟩ g5 h=>⟨_,Codec.at_ pb g5,?_⟩;conv=>whnf
   refine bq h fun⟨b2,b3⟩ f8 h=>⟨_,(CI n _ _ _ f8),?_⟩;conv=>whnf
   refine⟨Codec.one pb [zx.mk b2 b3],zx.rows [zx.mk b2 b3],.inl rfl,?_⟩;conv=>whnf
   rw[show zx.rows a++zx.rows [zx.mk b2 b3]=zx.rows (a++[zx.mk b2 b3])from Codec.append pb a [zx.mk b2 b3]];conv=>whnf
   obtain⟨e4,h⟩:=qg h;refine⟨⟨Codec.wide pb (a++[zx.mk b2 b3]),kod e4,xj e4 (by decide)⟩,?_⟩;conv=>whnf
   refine⟨⟨rfl,rfl,rfl⟩,?_⟩;conv=>whnf
   exact⟨((kwr .i64 (e1+1)),(a++[zx.mk b2 b3])),h,wk [0,1,2,3,4,5,7] []⟩
  conv=>whnf
  refine bq h fun l g3 h=>⟨_,(fc n _ _ _ g3),?_⟩;conv=>whnf
  refine bq h fun⟨m,o,⟨p,q,s,t,u,v⟩,w,x⟩ g2 h=>⟨_,(bJ n _ _ _ g2),?_⟩;conv=>whnf
  refine bq h fun y g1 h=>⟨_,(bI n _ _ _ g1),?_⟩;conv=>whnf
  refine qX.fn [1000000] (S:=Int×List xM) (fun(e2,b)=>[(1,pS k),(2,.ptr 0 0),(4,.ptr 1 0),(5,.ptr 2 0),(6,pI A),(7,.ptr 3 0),(8,.ptr 4 0),(10,pI e2)]) (fun(e2,b)=>[.box 24 [pC J],.box 24 [zq2],.box 24 [.tsl 5 (qd.rows c)],.box 54 [pI f,pP d5,pE c4,pI c6,pS c7,pI K,pB O,pI R,pS U,pV a4,pT a8,pT a9,pE b0,pS b1,pA I,pB d,pO H,pE F,pE G,pU C,pT z,pB e],.box 54 [pI f,.tsl 6 (zx.rows a),pE l,pI m,pS o,pI p,pB q,pI s,pS t,pV u,pT v,pT w,pE x,pS y,.tsl 7 (xM.rows b),pB d,pO H,pE F,pE G,pU C,pT z,pB e],.tail 54 22 (qd.rows c).length,.tail 60 2 (zx.rows a).length,.tail 66 11 (xM.rows b).length]) (B:=dM n I k H F G C z c f a l m o p q s t u v w x y d e d7 A) h (wk [0,1,2,3,4,5,6,0] [7]) ?_;intro _ st h;obtain⟨e2,b⟩:=st;unfold dM at h;conv=>whnf
  apply ifc h<;>intro d6 h
  ·conv=>whnf
   refine bq h fun⟨⟨_,_,⟨_,_,_,_,_,_⟩,_,_⟩,_⟩ g9 h=>⟨_,Codec.at_ VE g9,?_⟩;conv=>whnf
   refine bq h fun⟨b4,b5,⟨b6,b7,b8,b9,c0,c1⟩,c2,c3⟩ g8 h=>⟨_,(bJ n _ _ _ g8),?_⟩;conv=>whnf
   refine bq h fun⟨⟨_,_,⟨_,_,_,_,_,_⟩,_,_⟩,_⟩ g7 h=>⟨_,Codec.at_ VE g7,?_⟩;conv=>whnf
   refine bq h fun c5 g6 h=>⟨_,(bI n _ _ _ g6),?_⟩;conv=>whnf
   refine⟨Codec.one VE [xM.mk (qe.mk b4 b5 (Val.mk b6 b7 b8 b9 c0 c1) c2 c3) c5],xM.rows [xM.mk (qe.mk b4 b5 (Val.mk b6 b7 b8 b9 c0 c1) c2 c3) c5],.inl rfl,?_⟩;conv=>whnf
   rw[show xM.rows b++xM.rows [xM.mk (qe.mk b4 b5 (Val.mk b6 b7 b8 b9 c0 c1) c2 c3) c5]=xM.rows (b++[xM.mk (qe.mk b4 b5 (Val.mk b6 b7 b8 b9 c0 c1) c2 c3) c5])from Codec.append VE b [xM.mk (qe.mk b4 b5 (Val.mk b6 b7 b8 b9 c0 c1) c2 c3) c5]];conv=>whnf
   obtain⟨e8,h⟩:=qg h;refine⟨⟨Codec.wide VE (b++[xM.mk (qe.mk b4 b5 (Val.mk b6 b7 b8 b9 c0 c1) c2 c3) c5]),kod e8,xj e8 (by decide)⟩,?_⟩;conv=>whnf
   refine⟨⟨rfl,rfl,rfl⟩,?_⟩;conv=>whnf
   exact⟨((kwr .i64 (e2+1)),(b++[xM.mk (qe.mk b4 b5 (Val.mk b6 b7 b8 b9 c0 c1) c2 c3) c5])),h,wk [0,1,2,3,4,5,6,8] []⟩
  conv=>whnf
  refine qX.fn [1000000] (S:=Int×List qS) (fun(e3,g)=>[(1,pS k),(2,.ptr 0 0),(4,.ptr 1 0),(5,.ptr 2 0),(6,pI A),(7,.ptr 3 0),(8,.ptr 4 0),(11,pI e3)]) (fun(e3,g)=>[.box 24 [pC J],.box 24 [zq2],.box 24 [.tsl 5 (qd.rows c)],.box 54 [pI f,pP d5,pE c4,pI c6,pS c7,pI K,pB O,pI R,pS U,pV a4,pT a8,pT a9,pE b0,pS b1,pA I,pB d,pO H,pE F,pE G,pU C,pT z,pB e],.box 54 [pI f,.tsl 6 (zx.rows a),pE l,pI m,pS o,pI p,pB q,pI s,pS t,pV u,pT v,pT w,pE x,pS y,.tsl 7 (xM.rows b),pB d,.tsl 8 (qS.rows g),pE F,pE G,pU C,pT z,pB e],.tail 54 22 (qd.rows c).length,.tail 60 2 (zx.rows a).length,.tail 66 11 (xM.rows b).length,.tail 68 11 (qS.rows g).length]) (B:=dN n H k F G C z c f a l m o p q s t u v w x y b d e d7 A) h (wk [0,1,2,3,4,5,6,7,0] [8]) ?_;intro _ st h;obtain⟨e3,g⟩:=st;unfold dN at h;conv=>whnf
  apply ifc h<;>intro d6 h
  ·conv=>whnf
   refine bq h fun⟨⟨_,_,⟨_,_,_,_,_,_⟩,_,_⟩,_⟩ f2 h=>⟨_,Codec.at_ Za f2,?_⟩;conv=>whnf
   refine bq h fun⟨c8,c9,⟨d0,d1,d2,d3,d4,L⟩,M,N⟩ f1 h=>⟨_,(bJ n _ _ _ f1),?_⟩;conv=>whnf
   refine bq h fun⟨⟨_,_,⟨_,_,_,_,_,_⟩,_,_⟩,P⟩ f0 h=>⟨_,Codec.at_ Za f0,?_⟩;conv=>whnf
   refine⟨Codec.one Za [qS.mk (qe.mk c8 c9 (Val.mk d0 d1 d2 d3 d4 L) M N) P],qS.rows [qS.mk (qe.mk c8 c9 (Val.mk d0 d1 d2 d3 d4 L) M N) P],.inl rfl,?_⟩;conv=>whnf
   rw[show qS.rows g++qS.rows [qS.mk (qe.mk c8 c9 (Val.mk d0 d1 d2 d3 d4 L) M N) P]=qS.rows (g++[qS.mk (qe.mk c8 c9 (Val.mk d0 d1 d2 d3 d4 L) M N) P])from Codec.append Za g [qS.mk (qe.mk c8 c9 (Val.mk d0 d1 d2 d3 d4 L) M N) P]];conv=>whnf
   obtain⟨e9,h⟩:=qg h;refine⟨⟨Codec.wide Za (g++[qS.mk (qe.mk c8 c9 (Val.mk d0 d1 d2 d3 d4 L) M N) P]),kod e9,xj e9 (by decide)⟩,?_⟩;conv=>whnf
   refine⟨⟨rfl,rfl,rfl⟩,?_⟩;conv=>whnf
   exact⟨((kwr .i64 (e3+1)),(g++[qS.mk (qe.mk c8 c9 (Val.mk d0 d1 d2 d3 d4 L) M N) P])),h,wk [0,1,2,3,4,5,6,7,9] []⟩
  conv=>whnf
  refine bq h fun D g0 h=>⟨_,(fc n _ _ _ g0),?_⟩;conv=>whnf
  refine bq h fun E f9 h=>⟨_,(fc n _ _ _ f9),?_⟩;conv=>whnf
  refine qX.fn [1000000] (S:=Int×List qj) (fun(d9,i)=>[(1,pS k),(2,.ptr 0 0),(4,.ptr 1 0),(5,.ptr 2 0),(6,pI A),(7,.ptr 3 0),(8,.ptr 4 0),(12,pI d9)]) (fun(d9,i)=>[.box 24 [pC J],.box 24 [zq2],.box 24 [.tsl 5 (qd.rows c)],.box 54 [pI f,pP d5,pE c4,pI c6,pS c7,pI K,pB O,pI R,pS U,pV a4,pT a8,pT a9,pE b0,pS b1,pA I,pB d,pO H,pE F,pE G,pU C,pT z,pB e],.box 54 [pI f,.tsl 6 (zx.rows a),pE l,pI m,pS o,pI p,pB q,pI s,pS t,pV u,pT v,pT w,pE x,pS y,.tsl 7 (xM.rows b),pB d,.tsl 8 (qS.rows g),pE D,pE E,.tsl 9 (qj.rows i),pT z,pB e],.tail 54 22 (qd.rows c).length,.tail 60 2 (zx.rows a).length,.tail 66 11 (xM.rows b).length,.tail 68 11 (qS.rows g).length,.tail 70 13 (qj.rows i).length]) (B:=dO n C k z c f a l m o p q s t u v w x y b d g D E e d7 A) h (wk [0,1,2,3,4,5,6,7,8,0] [9]) ?_;intro _ st h;obtain⟨d9,i⟩:=st;unfold dO at h;conv=>whnf
  apply ifc h<;>intro d6 h
  ·conv=>whnf
   refine bq h fun⟨_,Q,T,⟨_,_,⟨_,_,_,_,_,_⟩,_,_⟩⟩ f5 h=>⟨_,Codec.at_ nr f5,?_⟩;conv=>whnf
   refine bq h fun V f4 h=>⟨_,(bI n _ _ _ f4),?_⟩;conv=>whnf
   refine bq h fun⟨W,X,⟨Y,Z,a0,a1,a2,a3⟩,a5,a6⟩ f3 h=>⟨_,(bJ n _ _ _ f3),?_⟩;conv=>whnf
   refine⟨Codec.one nr [qj.mk V Q T (qe.mk W X (Val.mk Y Z a0 a1 a2 a3) a5 a6)],qj.rows [qj.mk V Q T (qe.mk W X (Val.mk Y Z a0 a1 a2 a3) a5 a6)],.inl rfl,?_⟩;conv=>whnf
   rw[show qj.rows i++qj.rows [qj.mk V Q T (qe.mk W X (Val.mk Y Z a0 a1 a2 a3) a5 a6)]=qj.rows (i++[qj.mk V Q T (qe.mk W X (Val.mk Y Z a0 a1 a2 a3) a5 a6)])from Codec.append nr i [qj.mk V Q T (qe.mk W X (Val.mk Y Z a0 a1 a2 a3) a5 a6)]];conv=>whnf
   obtain⟨e5,h⟩:=qg h;refine⟨⟨Codec.wide nr (i++[qj.mk V Q T (qe.mk W X (Val.mk Y Z a0 a1 a2 a3) a5 a6)]),kod e5,xj e5 (by decide)⟩,?_⟩;conv=>whnf
   refine⟨⟨rfl,rfl,rfl⟩,?_⟩;conv=>whnf
   exact⟨((kwr .i64 (d9+1)),(i++[qj.mk V Q T (qe.mk W X (Val.mk Y Z a0 a1 a2 a3) a5 a6)])),h,wk [0,1,2,3,4,5,6,7,8,11] []⟩
  conv=>whnf
  refine qX.fn [1000000] (S:=Int×List SS) (fun(e0,j)=>[(1,pS k),(2,.ptr 0 0),(4,.ptr 1 0),(5,.ptr 2 0),(6,pI A),(7,.ptr 3 0),(8,.ptr 4 0),(14,pI e0)]) (fun(e0,j)=>[.box 24 [pC J],.box 24 [zq2],.box 24 [.tsl 5 (qd.rows c)],.box 54 [pI f,pP d5,pE c4,pI c6,pS c7,pI K,pB O,pI R,pS U,pV a4,pT a8,pT a9,pE b0,pS b1,pA I,pB d,pO H,pE F,pE G,pU C,pT z,pB e],.box 54 [pI f,.tsl 6 (zx.rows a),pE l,pI m,pS o,pI p,pB q,pI s,pS t,pV u,pT v,pT w,pE x,pS y,.tsl 7 (xM.rows b),pB d,.tsl 8 (qS.rows g),pE D,pE E,.tsl 9 (qj.rows i),.tsl 10 (qi j),pB e],.tail 54 22 (qd.rows c).length,.tail 60 2 (zx.rows a).length,.tail 66 11 (xM.rows b).length,.tail 68 11 (qS.rows g).length,.tail 70 13 (qj.rows i).length,.tail 9 1 (qi j).length]) (B:=dP n z k c f a l m o p q s t u v w x y b d g D E i e d7 A) h (wk [0,1,2,3,4,5,6,7,8,9,0] [10]) ?_;intro _ st h;obtain⟨e0,j⟩:=st;unfold dP at h;conv=>whnf
  apply ifc h<;>intro d6 h
  ·conv=>whnf
   refine bq h fun _ f7 h=>⟨_,Codec.at_ cc f7,?_⟩;conv=>whnf
   refine bq h fun a7 f6 h=>⟨_,(bI n _ _ _ f6),?_⟩;conv=>whnf
   refine⟨Codec.one cc [a7],qi [a7],.inl rfl,?_⟩;conv=>whnf
   rw[show qi j++qi [a7]=qi (j++[a7])from Codec.append cc j [a7]];conv=>whnf
   obtain⟨e6,h⟩:=qg h;refine⟨⟨Codec.wide cc (j++[a7]),kod e6,xj e6 (by decide)⟩,?_⟩;conv=>whnf
   refine⟨⟨rfl,rfl,rfl⟩,?_⟩;conv=>whnf
   exact⟨((kwr .i64 (e0+1)),(j++[a7])),h,wk [0,1,2,3,4,5,6,7,8,9,11] []⟩
  conv=>whnf
  refine⟨Codec.one xN [qd.mk f a l (qe.mk m o (Val.mk p q s t u v) w x) y b d g D E i j e],qd.rows [qd.mk f a l (qe.mk m o (Val.mk p q s t u v) w x) y b d g D E i j e],.inl rfl,?_⟩;conv=>whnf
  rw[show qd.rows c++qd.rows [qd.mk f a l (qe.mk m o (Val.mk p q s t u v) w x) y b d g D E i j e]=qd.rows (c++[qd.mk f a l (qe.mk m o (Val.mk p q s t u v) w x) y b d g D E i j e])from Codec.append xN c [qd.mk f a l (qe.mk m o (Val.mk p q s t u v) w x) y b d g D E i j e]];conv=>whnf
  obtain⟨e7,h⟩:=qg h;refine⟨⟨Codec.wide xN (c++[qd.mk f a l (qe.mk m o (Val.mk p q s t u v) w x) y b d g D E i j e]),kod e7,xj e7 (by decide)⟩,?_⟩;conv=>whnf
  refine⟨⟨rfl,rfl,rfl⟩,?_⟩;conv=>whnf
  exact⟨((kwr .i64 (A+1)),(c++[qd.mk f a l (qe.mk m o (Val.mk p q s t u v) w x) y b d g D E i j e])),h,wk [0,1,2,11] []⟩
 obtain rfl:=sj h;conv=>whnf
 try exact fin
abbrev FX (r:Bool):PV:=PV.bool r
def nh (n:Nat) (g:bu):Option (Bool):=
 match g with
 | ⟨a⟩=>
 bnd (sH n (bu.mk a)) fun d=>
 bnd (qD (!d) (QF n (bu.mk a))) fun k=>
 bif(bif d then true else(!k))then(
 bnd (gP n) fun l=>
 some l)
 else(
 bnd (sX n (bu.mk a) ([95,55]:SS)) fun⟨e⟩=>
 bnd (QF n (bu.mk e)) fun m=>
 bif(!m)then(
 bnd (gP n) fun o=>
 some o)
 else(
 bnd (fh n (bu.mk a) (Val.mk (5:Int) false (0:Int) ([]:SS) ([]:List Val) ([]:List SS))) fun⟨p,f⟩=>
 bnd (fh n (bu.mk e) (Val.mk (5:Int) false (0:Int) ([]:SS) ([]:List Val) ([]:List SS))) fun⟨i,b⟩=>
 bnd (qY n p i) fun c=>
 bnd (qD (bif c then(f==b)else false) (gP n)) fun j=>
 some (bif(bif c then(f==b)else false)then j else false)))
theorem UZ (n:Nat):∀ (a:bu) (r:Bool),nh n a=some r->qb TP 5 [PV.agg (Cn.cells a)] (FX r):=by
 intro a r h;obtain⟨_⟩:=a;unfold nh at h;refine zN Tryz.call5 Tryz.func5 [1000000] ?_;conv=>whnf
 refine bq h fun _ d h=>⟨_,(Vc n _ _ d),?_⟩;conv=>whnf
 refine⟨id,?_⟩;conv=>whnf
 refine bq h fun _ m h=>⟨_,fun b=>(Ge n _ _ (qa m b)),?_⟩;conv=>whnf
 refine⟨id,id,?_⟩;conv=>whnf
 apply ifc h<;>intro o h
 ·conv=>whnf
  refine bq h fun _ c h=>⟨_,(dj n _ c),?_⟩;obtain rfl:=sj h;conv=>whnf
  try exact fin
 conv=>whnf
 refine bq h fun⟨_⟩ l h=>⟨_,(Mk n _ _ _ l),?_⟩;conv=>whnf
 refine bq h fun _ k h=>⟨_,(Ge n _ _ k),?_⟩;conv=>whnf
 apply ifc h<;>intro o h
 ·conv=>whnf
  refine bq h fun _ e h=>⟨_,(dj n _ e),?_⟩;obtain rfl:=sj h;conv=>whnf
  try exact fin
 conv=>whnf
 refine bq h fun⟨_,_⟩ j h=>⟨_,(qb.leArgs (sw n _ _ _ j) (by try exact fin)),?_⟩;conv=>whnf
 refine bq h fun⟨_,_⟩ i h=>⟨_,(qb.leArgs (sw n _ _ _ i) (by try exact fin)),?_⟩;conv=>whnf
 refine bq h fun _ g h=>⟨_,(zs n _ _ _ g),?_⟩;conv=>whnf
 refine⟨id,id,id,?_⟩;conv=>whnf
 refine bq h fun _ f h=>⟨_,fun b=>(dj n _ (qa f b)),?_⟩;conv=>whnf
 refine⟨id,?_⟩;obtain rfl:=sj h;conv=>whnf
 try exact fin
end W
end
