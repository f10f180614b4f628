/- A part of the proof: contracts, printed by program. -/
import Derived.Test.YtlnipohgljbfiaaGreatB
import Derived.Test.YtlnipohgljbfiaaGreatC
import Derived.Test.YtlnipohgljbfiaaGreatD
import Derived.Test.YtlnipohgljbfiaaGreatI
import Derived.Test.YtlnipohgljbfiaaGreatJ
import Derived.Test.YtlnipohgljbfiaaGreatL
set_option linter.unusedVariables false
set_option linter.unusedSimpArgs false
set_option linter.unnecessarySimpa false
set_option linter.deprecated false
set_option linter.unusedSectionVars false
set_option linter.constructorNameAsVariable false
open Go.IntKind renaming wrap->kwr,bits->kbt
section
set_option maxRecDepth 100000
set_option maxHeartbeats 4000000
open Go Go.Proofs Ax
namespace W
def uh (n:Nat) (a:SS×Int->Option SS) (b:Int):SS×Int->Option SS:=fun(c,d)=>
 a (c,(kwr .i64 (b+d)))
def vL (n:Nat) (c:SS):(SS×Int->Option SS)->SS×Int->Option SS:=fun f (a,b)=>
 bif(decide (b<((c.length:Nat):Int)))then(
 bnd (Vk n c b) fun e=>
 bnd (idx c b) fun d=>
 bif(bif(e==0)then true else(((d.toNat:Nat):Int)==127))then(
 chk (decide (((a.length+([92,120]:SS).length:Nat):Int)<=xr)) (
 bnd (Vl n ((d.toNat:Nat):Int)) fun m=>
 chk (decide ((((a++([92,120]:SS)).length+m.length:Nat):Int)<=xr)) (
 uh n f b (((a++([92,120]:SS))++m),(1:Int)))))
 else(
 bif(bif(((d.toNat:Nat):Int)==39)then true else(((d.toNat:Nat):Int)==92))then(
 chk (decide (((a.length+([92]:SS).length:Nat):Int)<=xr)) (
 bnd (LL (kwr .i64 (b+1))) fun i=>
 bnd (LL b) fun j=>
 chk (decide (j<=i/\i<=c.length)) (
 chk (decide ((((a++([92]:SS)).length+((c.take i).drop j).length:Nat):Int)<=xr)) (
 uh n f b (((a++([92]:SS))++((c.take i).drop j)),e)))))
 else(
 bif(((d.toNat:Nat):Int)==10)then(
 chk (decide (((a.length+([92,110]:SS).length:Nat):Int)<=xr)) (
 uh n f b ((a++([92,110]:SS)),e)))
 else(
 bif(((d.toNat:Nat):Int)==9)then(
 chk (decide (((a.length+([92,116]:SS).length:Nat):Int)<=xr)) (
 uh n f b ((a++([92,116]:SS)),e)))
 else(
 bif(((d.toNat:Nat):Int)==13)then(
 chk (decide (((a.length+([92,114]:SS).length:Nat):Int)<=xr)) (
 uh n f b ((a++([92,114]:SS)),e)))
 else(
 bif(decide (((d.toNat:Nat):Int)<32))then(
 chk (decide (((a.length+([92,120]:SS).length:Nat):Int)<=xr)) (
 bnd (Vl n ((d.toNat:Nat):Int)) fun l=>
 chk (decide ((((a++([92,120]:SS)).length+l.length:Nat):Int)<=xr)) (
 uh n f b (((a++([92,120]:SS))++l),e))))
 else(
 bnd (LL (kwr .i64 (b+e))) fun g=>
 bnd (LL b) fun k=>
 chk (decide (k<=g/\g<=c.length)) (
 chk (decide (((a.length+((c.take g).drop k).length:Nat):Int)<=xr)) (
 uh n f b ((a++((c.take g).drop k)),e))))))))))
 else(
 chk (decide (((a.length+([39]:SS).length:Nat):Int)<=xr)) (
 some (a++([39]:SS))))
def nz (n:Nat) (a:SS):Option SS:=
 qo (vL n a) n (([39]:SS),(0:Int))
def QE (n:Nat) (a:SS):Option SS:=
 bnd (uU n a) fun b=>
 bif b then(
 some a)
 else(
 bnd (nz n a) fun c=>
 some c)
def Qb (n:Nat) (b:SS):Option SS:=
 bnd (QE n b) fun a=>
 chk (decide (((([84,58]:SS).length+a.length:Nat):Int)<=xr)) (
 some (([84,58]:SS)++a))
def sa (n:Nat) (a:List SS×Bool×Int->Option (List SS)) (b:Int):List SS×Bool->Option (List SS):=fun(c,d)=>
 a (c,d,(kwr .i64 (b+1)))
def mH (n:Nat) (d:List SS) (a:Int) (i:SS) (c:List SS×Bool×Int->Option (List SS)):List SS×Bool->Option (List SS):=fun(b,e)=>
 bnd (idx d a) fun g=>
 bif(!(g==i))then(
 bnd (idx d a) fun f=>
 chk (decide ((qi (b++[f])).length * 16<=140737488355328)) (
 sa n c a ((b++[f]),e)))
 else(
 sa n c a (b,e))
def dT (n:Nat):List SS->Option (List SS):=fun a=>
 some a
def uj (n:Nat) (c:List SS) (a:SS):LK (List SS×Bool×Int) (List SS):=fun f (b,d,e)=>
 bif(decide (e<((qi c).length:Int)))then(
 bnd (qD (!d) (idx c e)) fun g=>
 bif(bif(!d)then(!(Op.bytesLess g a))else false)then(
 chk (decide ((qi (b++[a])).length * 16<=140737488355328)) (
 mH n c e a f ((b++[a]),true)))
 else(
 mH n c e a f (b,d)))
 else(
 bif(!d)then(
 chk (decide ((qi (b++[a])).length * 16<=140737488355328)) (
 dT n (b++[a])))
 else(
 dT n b))
def ZW (n:Nat) (a:List SS) (b:SS) (c:Bool):Option (List SS):=
 qo (uj n a b) n (([]:List _),(!c),(0:Int))
def uY (n:Nat) (a:List SS) (b:SS):Option (List SS):=
 bnd (ZW n a b true) fun c=>
 some c
def fC (n:Nat) (b:List SS) (d:SS):LK (Int) (Bool):=fun c a=>
 bif(decide (a<((qi b).length:Int)))then(
 bnd (idx b a) fun e=>
 bif(e==d)then(
 some true)
 else(
 c (kwr .i64 (a+1))))
 else(
 some false)
def rZ (n:Nat) (a:List SS) (b:SS):Option (Bool):=
 qo (fC n a b) n (0:Int)
def tV (n:Nat) (g208:Int->Option SS) (a:Int):Option SS:=
 bif(a==(-9223372036854775808:Int))then(
 some ([45,57,50,50,51,51,55,50,48,51,54,56,53,52,55,55,53,56,48,56]:SS))
 else(
 bif(decide (a<0))then(
 bnd (g208 (kwr .i64 ((0:Int) - a))) fun c=>
 chk (decide (((([45]:SS).length+c.length:Nat):Int)<=xr)) (
 some (([45]:SS)++c)))
 else(
 bnd (u8I (kwr .u8 (kwr .i64 ((48:Int)+(Int.tmod a (10:Int)))))) fun b=>
 bif(decide (a<10))then(
 some [b])
 else(
 bnd (g208 (kwr .i64 (Int.tdiv a (10:Int)))) fun d=>
 chk (decide (((d.length+[b].length:Nat):Int)<=xr)) (
 some (d++[b])))))
def cd:Nat->Int->Option SS
 | 0=>fun _=>none
 | n+1=>tV n (cd n)
def Gc (n:Nat) (a:SS):Option SS:=
 bnd (ZE n a) fun b=>
 bif b then(
 some a)
 else(
 bnd (nz n a) fun c=>
 some c)
abbrev qof:Type:=Val->Option SS
def tq (n:Nat) (l:List Val) (a:Int) (g135:qof) (d:SS×Int->Option SS):SS->Option SS:=fun b=>
 bnd (idx l a) fun⟨e,f,g,i,j,k⟩=>
 bnd (g135 (Val.mk e f g i j k)) fun c=>
 chk (decide (((b.length+c.length:Nat):Int)<=xr)) (
 d ((b++c),(kwr .i64 (a+1))))
def bF (n:Nat) (c:List Val) (g135:qof):(SS×Int->Option SS)->SS×Int->Option SS:=fun d (a,b)=>
 bif(decide (b<((Val.rows c).length:Int)))then(
 bif(decide (b>0))then(
 chk (decide (((a.length+([44,32]:SS).length:Nat):Int)<=xr)) (
 tq n c b g135 d (a++([44,32]:SS))))
 else(
 tq n c b g135 d a))
 else(
 chk (decide (((([91]:SS).length+a.length:Nat):Int)<=xr)) (
 chk (decide ((((([91]:SS)++a).length+([93]:SS).length:Nat):Int)<=xr)) (
 some ((([91]:SS)++a)++([93]:SS)))))
def tt (n:Nat) (p:List SS) (c:Int) (o:List Val) (g135:qof) (e:SS×Int->Option SS):SS->Option SS:=fun a=>
 bnd (idx p c) fun f=>
 bnd (Gc n f) fun b=>
 chk (decide (((a.length+b.length:Nat):Int)<=xr)) (
 chk (decide ((((a++b).length+([58,32]:SS).length:Nat):Int)<=xr)) (
 bnd (idx o c) fun⟨g,i,j,k,l,m⟩=>
 bnd (g135 (Val.mk g i j k l m)) fun d=>
 chk (decide (((((a++b)++([58,32]:SS)).length+d.length:Nat):Int)<=xr)) (
 e ((((a++b)++([58,32]:SS))++d),(kwr .i64 (c+1))))))
def bG (n:Nat) (c:List Val) (e:List SS) (g135:qof):(SS×Int->Option SS)->SS×Int->Option SS:=fun d (a,b)=>
 bif(decide (b<((Val.rows c).length:Int)))then(
 bif(decide (b>0))then(
 chk (decide (((a.length+([44,32]:SS).length:Nat):Int)<=xr)) (
 tt n e b c g135 d (a++([44,32]:SS))))
 else(
 tt n e b c g135 d a))
 else(
 chk (decide (((([123]:SS).length+a.length:Nat):Int)<=xr)) (
 chk (decide ((((([123]:SS)++a).length+([125]:SS).length:Nat):Int)<=xr)) (
 some ((([123]:SS)++a)++([125]:SS)))))
def VW (n:Nat) (g135:qof) (f:Val):Option SS:=
 match f with
 | ⟨a,g,b,i,d,j⟩=>
 bif(a==1)then(
 bif g then(
 some ([116,114,117,101]:SS))
 else(
 some ([102,97,108,115,101]:SS)))
 else(
 bif(a==2)then(
 bnd (cd n b) fun k=>
 some k)
 else(
 bif(a==3)then(
 bnd (nz n i) fun l=>
 some l)
 else(
 bif(a==6)then(
 bnd (cd n b) fun e=>
 chk (decide (((([35,110]:SS).length+e.length:Nat):Int)<=xr)) (
 some (([35,110]:SS)++e)))
 else(
 bif(a==7)then(
 bnd (cd n b) fun c=>
 chk (decide (((([35,101]:SS).length+c.length:Nat):Int)<=xr)) (
 some (([35,101]:SS)++c)))
 else(
 bif(a==4)then(
 qo (bF n d g135) n (([]:SS),(0:Int)))
 else(
 bif(a==5)then(
 qo (bG n d j g135) n (([]:SS),(0:Int)))
 else(
 some ([110,117,108,108]:SS))))))))
def pg:Nat->Val->Option SS
 | 0=>fun _=>none
 | n+1=>VW n (pg n)
def nK (n:Nat) (e f:SS) (d:Val):Option SS:=
 match d with
 | ⟨g,i,j,k,l,m⟩=>
 bnd (QE n e) fun a=>
 chk (decide (((([73,58]:SS).length+a.length:Nat):Int)<=xr)) (
 chk (decide ((((([73,58]:SS)++a).length+([46]:SS).length:Nat):Int)<=xr)) (
 bnd (QE n f) fun b=>
 chk (decide (((((([73,58]:SS)++a)++([46]:SS)).length+b.length:Nat):Int)<=xr)) (
 chk (decide ((((((([73,58]:SS)++a)++([46]:SS))++b).length+([61]:SS).length:Nat):Int)<=xr)) (
 bnd (pg n (Val.mk g i j k l m)) fun c=>
 chk (decide (((((((([73,58]:SS)++a)++([46]:SS))++b)++([61]:SS)).length+c.length:Nat):Int)<=xr)) (
 some (((((([73,58]:SS)++a)++([46]:SS))++b)++([61]:SS))++c))))))
def bD (n:Nat) (j:List Val) (g199:Val->Option (Val)) (k:List SS) (m:Int) (u:Bool) (v:Int) (w:SS):LK (List Val×Int) (Val):=fun l (a,b)=>
 bif(decide (b<((Val.rows j).length:Int)))then(
 bnd (idx j b) fun⟨x,o,p,q,s,t⟩=>
 bnd (g199 (Val.mk x o p q s t)) fun⟨c,d,e,f,g,i⟩=>
 chk (decide ((Val.rows (a++[Val.mk c d e f g i])).length * 88<=140737488355328)) (
 l ((a++[Val.mk c d e f g i]),(kwr .i64 (b+1)))))
 else(
 chk (decide ((qi k).length * 16<=140737488355328)) (
 some (Val.mk m u v w a k)))
def VT (n:Nat) (g199:Val->Option (Val)) (a:Val):Option (Val):=
 match a with
 | ⟨b,c,d,e,f,g⟩=>
 qo (bD n f g199 g b c d e) n (([]:List _),(0:Int))
def pe:Nat->Val->Option (Val)
 | 0=>fun _=>none
 | n+1=>VT n (pe n)
def bw (n:Nat) (b:List SS) (d:Int) (u:SS) (t:List Val):LK (Int) (Val×Bool):=fun c a=>
 bif(bif(decide (a<((qi b).length:Int)))then(d==5)else false)then(
 bnd (idx b a) fun v=>
 bif(v==u)then(
 bnd (idx t a) fun⟨e,f,g,i,j,k⟩=>
 bnd (pe n (Val.mk e f g i j k)) fun⟨l,m,o,p,q,s⟩=>
 some (Val.mk l m o p q s,true))
 else(
 c (kwr .i64 (a+1))))
 else(
 some (Val.mk (0:Int) false (0:Int) ([]:SS) ([]:List Val) ([]:List SS),false))
def ZO (n:Nat) (a:Val) (e:SS):Option (Val×Bool):=
 match a with
 | ⟨b,_,_,_,c,d⟩=>
 qo (bw n d b e c) n (0:Int)
def tZ (n:Nat) (b:SS):Option SS:=
 bnd (QE n b) fun a=>
 chk (decide (((([76,58]:SS).length+a.length:Nat):Int)<=xr)) (
 some (([76,58]:SS)++a))
def tz (n:Nat) (a:Int->Option SS) (b:Int):Unit->Option SS:=fun _=>
 a (kwr .i64 (b+1))
def pz (n:Nat) (b:List qe) (c e:List SS) (v:Int) (B:Bool) (J:Int) (K:SS) (L:List Val) (f:List SS):(Int->Option SS)->Int->Option SS:=fun d a=>
 bif(decide (a<((qe.rows b).length:Int)))then(
 bnd (idx b a) fun⟨g,_,⟨_,_,_,_,_,_⟩,_,_⟩=>
 bif(g==1)then(
 bnd (idx c (0:Int)) fun i=>
 bnd (idx e a) fun j=>
 bnd (idx b a) fun⟨_,_,⟨k,l,m,o,p,q⟩,_,_⟩=>
 bnd (nK n i j (Val.mk k l m o p q)) fun s=>
 some s)
 else(
 bnd (idx b a) fun⟨t,_,⟨_,_,_,_,_,_⟩,_,_⟩=>
 bif(t==3)then(
 bnd (idx b a) fun⟨_,u,⟨_,_,_,_,_,_⟩,_,_⟩=>
 bnd (ZO n (Val.mk v B J K L f) u) fun⟨⟨w,x,y,z,A,C⟩,D⟩=>
 bif D then(
 bnd (idx c (0:Int)) fun E=>
 bnd (idx e a) fun F=>
 bnd (nK n E F (Val.mk w x y z A C)) fun G=>
 some G)
 else(
 tz n d a ()))
 else(
 tz n d a ())))
 else(
 bnd (idx c (0:Int)) fun H=>
 bnd (tZ n H) fun I=>
 some I)
def Vt (n:Nat) (b:qt) (c:Val):Option SS:=
 match b,c with
 | ⟨_,a,e,f⟩,⟨g,i,j,k,l,d⟩=>
 bif(((qi a).length:Int)==0)then(
 some ([65]:SS))
 else(
 qo (pz n f a e g i j k l d) n (0:Int))
def dW (n:Nat) (a:List SS) (b:SS) (c:List SS×List SS×Int->Option (List SS)) (d:Int):List SS->Option (List SS):=fun e=>
 chk (decide ((qi (a++[b])).length * 16<=140737488355328)) (
 c (e,(a++[b]),(kwr .i64 (d+1))))
def dV (n:Nat) (i:List zx) (f c:Int) (b:List SS) (q:Int) (s:Bool) (t:Int) (u:SS) (v:List Val) (w:List SS) (d:List SS×List SS×Int->Option (List SS)):List SS->Option (List SS):=fun e=>
 bnd (idx i f) fun⟨g,_⟩=>
 bnd (idx g c) fun⟨a,j,k,l⟩=>
 bnd (qD (!(a==([]:SS))) (rZ n b a)) fun m=>
 bif(bif(a==([]:SS))then true else(!m))then(
 bnd (Vt n (qt.mk a j k l) (Val.mk q s t u v w)) fun o=>
 bnd (uY n e o) fun p=>
 dW n b a d c p)
 else(
 dW n b a d c e)
def dX (n:Nat) (c:List SS) (f:List zx) (b e:Int) (d:List SS) (j:Int) (k:Bool) (l:Int) (m:SS) (o:List Val) (p:List SS) (a:List SS×List SS×Int->Option (List SS)):SS->Option (List SS):=fun g=>
 bnd (uY n c g) fun i=>
 dV n f b e d j k l m o p a i
def ft (n:Nat) (c:List zx) (a g:Int) (i:Bool) (j:Int) (k:SS) (l:List Val) (m:List SS) (o:List SS×List SS×Int->Option (List SS)):LK (List SS×List SS×Int) (List SS):=fun f (d,e,b)=>
 bnd (idx c a) fun⟨p,_⟩=>
 bif(decide (b<((qt.rows p).length:Int)))then(
 bif(decide (b>0))then(
 bnd (idx c a) fun⟨_,q⟩=>
 bnd (idx q (kwr .i64 (b - 1))) fun⟨_,s,_,_,_⟩=>
 bif(!(s==([]:SS)))then(
 bnd (idx c a) fun⟨_,t⟩=>
 bnd (idx t (kwr .i64 (b - 1))) fun⟨_,u,_,_,_⟩=>
 bnd (Qb n u) fun v=>
 dX n d c a b e g i j k l m f v)
 else(
 dX n d c a b e g i j k l m f ([88]:SS)))
 else(
 dV n c a b e g i j k l m f d))
 else(
 o (d,e,(kwr .i64 (a+1))))
def mO (n:Nat) (c:List zx) (f:Int) (g:Bool) (i:Int) (j:SS) (k:List Val) (l:List SS):LK (List SS×List SS×Int) (List SS):=fun d (a,e,b)=>
 bif(decide (b<((zx.rows c).length:Int)))then(
 qo (ft n c b f g i j k l d) n (a,e,(0:Int)))
 else(
 some a)
def ZZ (n:Nat) (c:List SS) (d:List zx) (a:List SS) (b:Val):Option (List SS):=
 match b with
 | ⟨e,f,g,i,j,k⟩=>
 chk (decide ((qi a).length * 16<=140737488355328)) (
 qo (mO n d e f g i j k) n (c,a,(0:Int)))
def mL (n:Nat) (a:List SS×Int->Option (List SS×Int)) (b:Int):List SS->Option (List SS×Int):=fun c=>
 a (c,(kwr .i64 (b+1)))
def mM (n:Nat) (d:Int) (a:List SS×Int->Option (List SS×Int)) (b:Int):List SS->Option (List SS×Int):=fun c=>
 bif(d==8)then(
 bnd (uY n c ([88]:SS)) fun e=>
 mL n a b e)
 else(
 mL n a b c)
def mN (n:Nat) (c:List qd) (g:Int) (i:Bool) (k:Int) (m:SS) (o:List Val) (p:List SS):LK (List SS×Int) (List SS×Int):=fun e (d,a)=>
 bif(decide (a<((qd.rows c).length:Int)))then(
 bnd (idx c a) fun⟨b,f,_,⟨_,_,⟨_,_,_,_,_,_⟩,_,_⟩,_,_,_,_,_,_,_,_,_⟩=>
 bnd (sI n (bu.mk c) a) fun⟨j,_,_⟩=>
 bif(bif(b==1)then true else(b==5))then(
 bnd (ZZ n d f j (Val.mk g i k m o p)) fun l=>
 mM n b e a l)
 else(
 mM n b e a d))
 else(
 some (d,(0:Int)))
def Qa (n:Nat) (c:bu) (d:Val):Option (List SS×Int):=
 match c,d with
 | ⟨a⟩,⟨e,f,g,i,j,k⟩=>
 bnd (ZV n (bu.mk a)) fun⟨_,b⟩=>
 bif(b != 0)then(
 some (([]:List SS),b))
 else(
 qo (mN n a e f g i j k) n (([]:List _),(0:Int)))
end W
end
