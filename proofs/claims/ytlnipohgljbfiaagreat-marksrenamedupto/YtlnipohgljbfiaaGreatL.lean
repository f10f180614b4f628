/- A part of the proof: contracts, printed by program. -/
import Derived.Test.YtlnipohgljbfiaaGreatB
import Derived.Test.YtlnipohgljbfiaaGreatC
import Derived.Test.YtlnipohgljbfiaaGreatK
set_option linter.unusedVariables false
set_option linter.unusedSimpArgs false
set_option linter.unnecessarySimpa false
set_option linter.deprecated false
set_option linter.unusedSectionVars false
set_option linter.constructorNameAsVariable false
open Go.IntKind renaming wrap->kwr,bits->kbt
section
set_option maxRecDepth 100000
set_option maxHeartbeats 4000000
open Go Go.Proofs Ax
namespace W
abbrev qoe:Type:=qQ->qe->Option (Int×Int)
def sY (n:Nat) (c:List qe) (g197:qoe) (f:List SS) (p:List Int) (d:Int):LK (Int) (Int):=fun e a=>
 bif(decide (a<((qe.rows c).length:Int)))then(
 bnd (idx c a) fun⟨q,s,⟨t,u,g,i,j,k⟩,l,m⟩=>
 bnd (g197 (qQ.mk f p) (qe.mk q s (Val.mk t u g i j k) l m)) fun⟨o,b⟩=>
 bif(b != 0)then(
 some b)
 else(
 bif(bif(decide (d>0))then(o != d)else false)then(
 some (3:Int))
 else(
 e (kwr .i64 (a+1)))))
 else(
 some (0:Int))
abbrev qos:Type:=qQ->(List qe)->Int->Option (Int)
def Fb (n:Nat) (g116:qos) (g197:qoe) (a:qQ) (d:List qe) (e:Int):Option (Int):=
 match a with
 | ⟨b,c⟩=>
 qo (sY n d g197 b c e) n (0:Int)
def vN (n:Nat):Int->Option (Int×Int):=fun a=>
 some ((3:Int),a)
def pt (n:Nat) (g116:qos) (a:List SS) (c:List Int) (b:List qe) (f:Int) (g:SS) (g197:qoe) (i:List SS):Bool->Option (Int×Int):=fun j=>
 bif j then(
 bnd (g116 (qQ.mk a c) b (0:Int)) fun k=>
 vN n k)
 else(
 bif(f==15)then(
 bnd (g116 (qQ.mk a c) b (1:Int)) fun l=>
 vN n l)
 else(
 bif(f==10)then(
 bif(bif(g==([61]:SS))then true else(g==([60,62]:SS)))then(
 bnd (g116 (qQ.mk a c) b (0:Int)) fun d=>
 bif(d==0)then(
 bnd (idx b (0:Int)) fun⟨m,o,⟨p,q,s,t,u,v⟩,w,x⟩=>
 bnd (g197 (qQ.mk a c) (qe.mk m o (Val.mk p q s t u v) w x)) fun⟨y,_⟩=>
 bnd (idx b (1:Int)) fun⟨z,A,⟨B,C,D,E,F,G⟩,H,I⟩=>
 bnd (g197 (qQ.mk a c) (qe.mk z A (Val.mk B C D E F G) H I)) fun⟨J,_⟩=>
 bif(y != J)then(
 vN n (3:Int))
 else(
 vN n d))
 else(
 vN n d))
 else(
 bnd (g116 (qQ.mk a c) b (3:Int)) fun K=>
 vN n K))
 else(
 bnd (g116 (qQ.mk a c) b (3:Int)) fun e=>
 bnd (qD (e==0) (tX n i)) fun L=>
 bif(bif(e==0)then L else false)then(
 vN n (2:Int))
 else(
 vN n e))))
def VY (n:Nat) (g116:qos) (g197:qoe) (i:qQ) (j:qe):Option (Int×Int):=
 match i,j with
 | ⟨c,d⟩,⟨a,e,⟨_,_,_,_,_,_⟩,f,b⟩=>
 bif(a==2)then(
 bnd (xP n (qQ.mk c d) e) fun g=>
 bif(g==0)then(
 some ((0:Int),(2:Int)))
 else(
 some (g,(0:Int))))
 else(
 bif(a==14)then(
 some ((0:Int),(2:Int)))
 else(
 bif(a==13)then(
 bnd (Vp n e) fun⟨k,l,m⟩=>
 bif(bif(decide (((qe.rows b).length:Int)<k))then true else(decide (((qe.rows b).length:Int)>l)))then(
 some ((0:Int),(2:Int)))
 else(
 bnd (g116 (qQ.mk c d) b m) fun o=>
 vN n o))
 else(
 bif(a==4)then(
 pt n g116 c d b a e g197 f (a==4))
 else(
 bif(a==11)then(
 pt n g116 c d b a e g197 f (a==11))
 else(
 pt n g116 c d b a e g197 f (a==12))))))
mutual
def gz:Nat->qQ->(List qe)->Int->Option (Int)
 | 0=>fun _ _ _=>none
 | n+1=>Fb n (gz n) (mF n)
def mF:Nat->qQ->qe->Option (Int×Int)
 | 0=>fun _ _=>none
 | n+1=>VY n (gz n) (mF n)
end
def rW (n:Nat):Int->Option (Int):=fun a=>
 some a
def tY (n:Nat) (b:qQ) (e:List SS) (f:List qe):Option (Int):=
 match b with
 | ⟨c,d⟩=>
 bnd (gz n (qQ.mk c d) f (3:Int)) fun a=>
 bnd (qD (a==0) (tX n e)) fun g=>
 bif(bif(a==0)then g else false)then(
 rW n (2:Int))
 else(
 rW n a)
def fr (n:Nat) (e:qQ) (c:SS) (d:Int):Option (qQ):=
 match e with
 | ⟨a,b⟩=>
 bnd (qD (!(c==([]:SS))) (xP n (qQ.mk a b) c)) fun f=>
 bif(bif(c==([]:SS))then true else(decide (f>0)))then(
 some (qQ.mk a b))
 else(
 chk (decide ((qi a).length * 16<=140737488355328)) (
 chk (decide ((zF .i64 b).length * 8<=140737488355328)) (
 chk (decide ((qi (a++[c])).length * 16<=140737488355328)) (
 chk (decide ((zF .i64 (b++[d])).length * 8<=140737488355328)) (
 some (qQ.mk (a++[c]) (b++[d])))))))
def dR (n:Nat) (a:List SS) (b:List Int) (p:Bool) (j c g:List SS) (k:List Int) (l:List qe) (i:SS) (f:Int×List SS×List Int->Option (qQ×Int)) (q:Int):Int->Option (qQ×Int):=fun d=>
 bif(decide (d>1))then(
 some (qQ.mk a b,(3:Int)))
 else(
 bif(bif(bif(d==1)then p else false)then(decide ((kwr .i64 (((qi j).length:Int)+((qi c).length:Int)))>0))else false)then(
 some (qQ.mk a b,(2:Int)))
 else(
 bnd (tY n (qQ.mk g k) c l) fun e=>
 bif(e != 0)then(
 some (qQ.mk a b,e))
 else(
 bnd (fr n (qQ.mk a b) i (1:Int)) fun⟨m,o⟩=>
 f ((kwr .i64 (q+1)),m,o))))
def dQ (n:Nat) (p:List zx) (q d:Int) (l:Bool) (f:List SS) (j:List Int) (e:Int×List SS×List Int->Option (qQ×Int)):List SS×List Int->Option (qQ×Int):=fun(b,c)=>
 bnd (idx p q) fun⟨m,_⟩=>
 bnd (idx m d) fun⟨a,g,i,k⟩=>
 bif(!(a==([]:SS)))then(
 bnd (xP n (qQ.mk b c) a) fun o=>
 dR n b c l g i f j k a e d o)
 else(
 dR n b c l g i f j k a e d (0:Int))
def ds (n:Nat) (f:List zx) (c:Int) (j:Bool) (g:List SS) (i:List Int) (m:Int×List SS×List Int->Option (qQ×Int)):LK (Int×List SS×List Int) (qQ×Int):=fun k (d,b,a)=>
 bnd (idx f c) fun⟨o,_⟩=>
 bif(decide (d<((qt.rows o).length:Int)))then(
 bif(decide (d>0))then(
 bnd (idx f c) fun⟨_,p⟩=>
 bnd (idx p (kwr .i64 (d - 1))) fun⟨e,q,s,t,u⟩=>
 bnd (qD (!(e==([]:SS))) (xP n (qQ.mk b a) e)) fun v=>
 bif(bif(bif(!(e==([]:SS)))then(decide (v>0))else false)then true else(bif j then(bif(q==([]:SS))then true else(s==2))else false))then(
 some (qQ.mk b a,(2:Int)))
 else(
 bnd (tY n (qQ.mk g i) t u) fun l=>
 bif(l != 0)then(
 some (qQ.mk b a,l))
 else(
 bnd (fr n (qQ.mk b a) e (2:Int)) fun⟨w,x⟩=>
 dQ n f c d j g i k (w,x))))
 else(
 dQ n f c d j g i k (b,a)))
 else(
 m ((kwr .i64 (c+1)),b,a))
def mG (n:Nat) (a:List zx) (i:Bool) (f:List SS) (g:List Int):LK (Int×List SS×List Int) (qQ×Int):=fun e (b,c,d)=>
 bif(decide (b<((zx.rows a).length:Int)))then(
 qo (ds n a b i f g e) n ((0:Int),c,d))
 else(
 some (qQ.mk c d,(0:Int)))
def sJ (n:Nat) (c:qQ) (d:List zx) (e:Bool):Option (qQ×Int):=
 match c with
 | ⟨a,b⟩=>
 qo (mG n d e a b) n ((0:Int),a,b)
def pw (n:Nat) (a:List SS) (b:List Int) (i:Int) (d:List xM) (c:Int) (g:Int×List SS×List Int->Option (qQ×Int)):Int×Int->Option (qQ×Int):=fun(e,f)=>
 bif(f != 0)then(
 some (qQ.mk a b,f))
 else(
 bif(bif(i==9)then(e != 3)else false)then(
 some (qQ.mk a b,(3:Int)))
 else(
 bnd (idx d c) fun⟨⟨_,_,⟨_,_,_,_,_,_⟩,_,_⟩,j⟩=>
 bnd (xP n (qQ.mk a b) j) fun k=>
 bif(decide (k>0))then(
 some (qQ.mk a b,(2:Int)))
 else(
 bnd (idx d c) fun⟨⟨_,_,⟨_,_,_,_,_,_⟩,_,_⟩,l⟩=>
 bnd (fr n (qQ.mk a b) l e) fun⟨m,o⟩=>
 g ((kwr .i64 (c+1)),m,o))))
def tv (n:Nat) (b:List SS) (d:List Int) (j:List qe) (f:List SS) (g:List Int) (i:Int) (c:List xM) (e:Int) (a:Int×List SS×List Int->Option (qQ×Int)):Int->Option (qQ×Int):=fun k=>
 bnd (gz n (qQ.mk b d) j k) fun l=>
 pw n f g i c e a ((3:Int),l)
def rY (n:Nat) (a:List SS) (b:List Int):Int->Option (qQ×Int):=fun c=>
 some (qQ.mk a b,c)
def rX (n:Nat) (a:List SS) (b:List Int) (d:List qe):Int->Option (qQ×Int):=fun c=>
 bif(c==0)then(
 bnd (gz n (qQ.mk a b) d (3:Int)) fun e=>
 rY n a b e)
 else(
 rY n a b c)
def cF (n:Nat) (d:List qS) (a:List SS) (b:List Int) (j k e:List qe):LK (Int) (qQ×Int):=fun i c=>
 bif(decide (c<((qS.rows d).length:Int)))then(
 bnd (idx d c) fun⟨⟨l,m,⟨o,p,q,s,t,u⟩,v,w⟩,_⟩=>
 bnd (gz n (qQ.mk a b) [qe.mk l m (Val.mk o p q s t u) v w] (3:Int)) fun f=>
 bif(f != 0)then(
 some (qQ.mk a b,f))
 else(
 i (kwr .i64 (c+1))))
 else(
 bnd (gz n (qQ.mk ([]:List SS) ([]:List Int)) j (3:Int)) fun g=>
 bif(g==0)then(
 bnd (gz n (qQ.mk ([]:List SS) ([]:List Int)) k (3:Int)) fun x=>
 rX n a b e x)
 else(
 rX n a b e g))
def bK (n:Nat) (a:List xM) (f:List SS) (g:List Int) (i:Int) (m:List qS) (o p y:List qe):LK (Int×List SS×List Int) (qQ×Int):=fun e (b,c,d)=>
 bif(decide (b<((xM.rows a).length:Int)))then(
 bnd (idx a b) fun⟨⟨k,l,⟨q,s,t,u,v,w⟩,x,j⟩,_⟩=>
 bif(k==14)then(
 bif(l==([99,111,117,110,116]:SS))then(
 tv n f g j c d i a b e (0:Int))
 else(
 tv n f g j c d i a b e (3:Int)))
 else(
 bnd (mF n (qQ.mk f g) (qe.mk k l (Val.mk q s t u v w) x j)) fun⟨z,A⟩=>
 pw n c d i a b e (z,A)))
 else(
 qo (cF n m c d o p y) n (0:Int))
def Vq (n:Nat) (a:qQ) (b:qd):Option (qQ×Int):=
 match a,b with
 | ⟨c,f⟩,⟨j,_,k,⟨_,_,⟨_,_,_,_,_,_⟩,_,_⟩,_,d,_,e,g,i,_,_,_⟩=>
 qo (bK n d c f j e g i k) n ((0:Int),([]:List _),([]:List _))
def nD (n:Nat) (a:List SS) (b:List Int):Int->Option (qQ×Int):=fun c=>
 some (qQ.mk a b,c)
def nE (n:Nat) (a:List SS) (c:List Int) (b:SS):Int->Option (qQ×Int):=fun d=>
 bnd (fr n (qQ.mk a c) b (3:Int)) fun⟨e,f⟩=>
 some (qQ.mk e f,d)
def tu (n:Nat) (a:List SS) (b:List Int) (c:List zx):Unit->Option (qQ×Int):=fun _=>
 bnd (sJ n (qQ.mk a b) c true) fun⟨⟨d,e⟩,f⟩=>
 some (qQ.mk d e,f)
def bZ (n:Nat) (a:Int->Option (qQ×Int)) (b:Int):Unit->Option (qQ×Int):=fun _=>
 a (kwr .i64 (b+1))
def so (n:Nat) (f:Int) (g:SS) (b:List SS) (c:List Int) (i:Int) (j:SS) (k:Int) (l:Bool) (m:Int) (o:SS) (p:List Val) (q s:List SS) (t:List qe) (a:Int->Option (qQ×Int)) (d:Int):Unit->Option (qQ×Int):=fun _=>
 bif(bif(f==6)then(!(g==([]:SS)))else false)then(
 bnd (gz n (qQ.mk b c) [qe.mk i j (Val.mk k l m o p q) s t] (3:Int)) fun e=>
 bif(e != 0)then(
 some (qQ.mk b c,e))
 else(
 bZ n a d ()))
 else(
 bZ n a d ())
def sn (n:Nat) (c:Int) (i:SS) (a:List SS) (b:List Int) (e:Int) (g:SS) (j:Int) (k:SS) (l:Int) (m:Bool) (o:Int) (p:SS) (q:List Val) (s t:List SS) (u:List qe) (d:Int->Option (qQ×Int)) (f:Int):Unit->Option (qQ×Int):=fun _=>
 bif(bif(c==3)then true else(bif(c==2)then(!(i==([]:SS)))else false))then(
 some (qQ.mk a b,(3:Int)))
 else(
 so n e g a b j k l m o p q s t u d f ())
def sm (n:Nat) (f:List qj) (c:Int) (a:List SS) (b:List Int) (g:Int) (e:Int->Option (qQ×Int)):Unit->Option (qQ×Int):=fun _=>
 bnd (idx f c) fun⟨i,j,k,⟨l,m,⟨o,p,q,s,t,u⟩,v,w⟩⟩=>
 bnd (xP n (qQ.mk a b) i) fun d=>
 bif(d==0)then(
 some (qQ.mk a b,(2:Int)))
 else(
 sn n d k a b g j l m o p q s t u v w e c ())
def fL (n:Nat) (c:List qj) (a:List SS) (b:List Int) (f:Int):LK (Int) (qQ×Int):=fun e d=>
 bif(decide (d<((qj.rows c).length:Int)))then(
 sm n c d a b f e ())
 else(
 some (qQ.mk a b,(0:Int)))
def sv (n:Nat) (e:Int) (b:List SS) (c:List Int) (a:Int->Option (qQ×Int)) (d:Int):Unit->Option (qQ×Int):=fun _=>
 bif(e==3)then(
 some (qQ.mk b c,(3:Int)))
 else(
 a (kwr .i64 (d+1)))
def su (n:Nat) (f:List SS) (c:Int) (a:List SS) (b:List Int) (e:Int->Option (qQ×Int)):Unit->Option (qQ×Int):=fun _=>
 bnd (idx f c) fun g=>
 bnd (xP n (qQ.mk a b) g) fun d=>
 bif(d==0)then(
 some (qQ.mk a b,(2:Int)))
 else(
 sv n d a b e c ())
def fM (n:Nat) (c a:List SS) (b:List Int):LK (Int) (qQ×Int):=fun e d=>
 bif(decide (d<((qi c).length:Int)))then(
 su n c d a b e ())
 else(
 some (qQ.mk a b,(0:Int)))
def nF (n:Nat) (d:List qj) (a:List SS) (b:List Int) (c:Int) (e:List SS) (v:List zx) (x:List qe) (y:Int) (B:SS) (D:Int) (E:Bool) (f:Int) (g:SS) (i:List Val) (j k:List SS) (l:List qe) (m:SS) (o:List xM) (p:Bool) (q:List qS) (s t:List qe) (u:Bool):Bool->Option (qQ×Int):=fun w=>
 bif w then(
 qo (fL n d a b c) n (0:Int))
 else(
 bif(c==8)then(
 qo (fM n e a b) n (0:Int))
 else(
 bnd (Vq n (qQ.mk a b) (qd.mk c v x (qe.mk y B (Val.mk D E f g i j) k l) m o p q s t d e u)) fun⟨⟨z,A⟩,C⟩=>
 some (qQ.mk z A,C)))
def QH (n:Nat) (G:qQ) (H:qd):Option (qQ×Int):=
 match G,H with
 | ⟨a,b⟩,⟨c,d,s,⟨t,u,⟨v,w,f,g,i,j⟩,k,l⟩,e,x,y,z,A,B,C,D,E⟩=>
 bif(c==1)then(
 bnd (sJ n (qQ.mk a b) d false) fun⟨⟨m,o⟩,F⟩=>
 bif(F==0)then(
 bnd (gz n (qQ.mk m o) s (3:Int)) fun I=>
 nD n m o I)
 else(
 nD n m o F))
 else(
 bif(c==2)then(
 bnd (gz n (qQ.mk a b) [qe.mk t u (Val.mk v w f g i j) k l] (3:Int)) fun p=>
 bnd (qD (p==0) (xP n (qQ.mk a b) e)) fun J=>
 bif(bif(p==0)then(decide (J>0))else false)then(
 nE n a b e (2:Int))
 else(
 nE n a b e p))
 else(
 bif(c==4)then(
 bnd (sJ n (qQ.mk a b) d true) fun⟨⟨K,L⟩,M⟩=>
 some (qQ.mk K L,M))
 else(
 bif(c==5)then(
 bnd (idx d (0:Int)) fun⟨N,_⟩=>
 bnd (idx N (0:Int)) fun⟨q,_,_,_⟩=>
 bnd (qD (!(q==([]:SS))) (xP n (qQ.mk a b) q)) fun O=>
 bif(bif(!(q==([]:SS)))then(decide (O>0))else false)then(
 some (qQ.mk a b,(2:Int)))
 else(
 tu n a b d ()))
 else(
 bif(c==6)then(
 nF n C a b c D d s t u v w f g i j k l e x y z A B E (c==6))
 else(
 nF n C a b c D d s t u v w f g i j k l e x y z A B E (c==7))))))
def dq (n:Nat) (t:Int) (f:List qd):LK (Int×List SS×List Int) (List SS×List Int×Int):=fun e (a,c,d)=>
 bif(decide (a<t))then(
 bnd (idx f a) fun⟨F,G,H,⟨g,i,⟨j,k,l,m,o,p⟩,q,s⟩,u,v,w,x,y,z,A,B,C⟩=>
 bnd (QH n (qQ.mk c d) (qd.mk F G H (qe.mk g i (Val.mk j k l m o p) q s) u v w x y z A B C)) fun⟨⟨D,E⟩,b⟩=>
 bif(b != 0)then(
 some (([]:List SS),([]:List Int),b))
 else(
 e ((kwr .i64 (a+1)),D,E)))
 else(
 some (c,d,(0:Int)))
def sI (n:Nat) (c:bu) (b:Int):Option (List SS×List Int×Int):=
 match c with
 | ⟨a⟩=>
 bnd (QF n (bu.mk a)) fun d=>
 bif(bif(bif(!d)then true else(decide (b<0)))then true else(decide (b>((qd.rows a).length:Int))))then(
 some (([]:List SS),([]:List Int),(20:Int)))
 else(
 qo (dq n b a) n ((0:Int),([]:List _),([]:List _)))
def ZV (n:Nat) (c:bu):Option (List SS×Int):=
 match c with
 | ⟨a⟩=>
 bnd (sI n (bu.mk a) ((qd.rows a).length:Int)) fun⟨d,_,b⟩=>
 bnd (qD (!(b != 0)) (idx a (kwr .i64 (((qd.rows a).length:Int) - 1)))) fun⟨e,_,_,⟨_,_,⟨_,_,_,_,_,_⟩,_,_⟩,_,_,_,_,_,_,_,_,_⟩=>
 bif(bif(b != 0)then true else(e != 9))then(
 some (([]:List SS),b))
 else(
 some (d,(0:Int)))
def tW (n:Nat) (a:SS) (b:Int):Option (Bool):=
 bnd (qD (decide (b<((a.length:Nat):Int))) (idx a b)) fun c=>
 bnd (qD (bif(decide (b<((a.length:Nat):Int)))then(decide (((c.toNat:Nat):Int)≥128))else false) (idx a b)) fun d=>
 some (bif(bif(decide (b<((a.length:Nat):Int)))then(decide (((c.toNat:Nat):Int)≥128))else false)then(decide (((d.toNat:Nat):Int)<192))else false)
def Vk (n:Nat) (b:SS) (c:Int):Option (Int):=
 bif(decide (c≥((b.length:Nat):Int)))then(
 some (0:Int))
 else(
 bnd (idx b c) fun a=>
 bif(decide (((a.toNat:Nat):Int)<128))then(
 some (1:Int))
 else(
 bnd (qD (!(bif(decide (((a.toNat:Nat):Int)<194))then true else(decide (((a.toNat:Nat):Int)>244)))) (tW n b (kwr .i64 (c+1)))) fun e=>
 bif(bif(bif(decide (((a.toNat:Nat):Int)<194))then true else(decide (((a.toNat:Nat):Int)>244)))then true else(!e))then(
 some (0:Int))
 else(
 bif(decide (((a.toNat:Nat):Int)<224))then(
 some (2:Int))
 else(
 bnd (idx b (kwr .i64 (c+1))) fun d=>
 bnd (tW n b (kwr .i64 (c+2))) fun f=>
 bif(bif(bif(!f)then true else(bif(((a.toNat:Nat):Int)==224)then(decide (((d.toNat:Nat):Int)<160))else false))then true else(bif(((a.toNat:Nat):Int)==237)then(decide (((d.toNat:Nat):Int)≥160))else false))then(
 some (0:Int))
 else(
 bif(decide (((a.toNat:Nat):Int)<240))then(
 some (3:Int))
 else(
 bnd (tW n b (kwr .i64 (c+3))) fun g=>
 bif(bif(bif(!g)then true else(bif(((a.toNat:Nat):Int)==240)then(decide (((d.toNat:Nat):Int)<144))else false))then true else(bif(((a.toNat:Nat):Int)==244)then(decide (((d.toNat:Nat):Int)≥144))else false))then(
 some (0:Int))
 else(
 some (4:Int))))))))
def Vl (n:Nat) (a:Int):Option SS:=
 bnd (idx ([48,49,50,51,52,53,54,55,56,57,97,98,99,100,101,102]:SS) (kwr .u8 (Int.tdiv a (16:Int)))) fun b=>
 bnd (idx ([48,49,50,51,52,53,54,55,56,57,97,98,99,100,101,102]:SS) (Int.tmod a (16:Int))) fun c=>
 some [b,c]
end W
end
