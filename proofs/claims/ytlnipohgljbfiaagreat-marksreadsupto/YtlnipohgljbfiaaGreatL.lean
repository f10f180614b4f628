/- A part of the proof: contracts, printed by program. -/
import Derived.Test.YtlnipohgljbfiaaGreatB
import Derived.Test.YtlnipohgljbfiaaGreatC
import Derived.Test.YtlnipohgljbfiaaGreatK
set_option linter.unusedVariables false
set_option linter.unusedSimpArgs false
set_option linter.unnecessarySimpa false
set_option linter.deprecated false
set_option linter.unusedSectionVars false
set_option linter.constructorNameAsVariable false
open Go.IntKind renaming wrap->kwr,bits->kbt
section
set_option maxRecDepth 100000
set_option maxHeartbeats 4000000
open Go Go.Proofs Ax
namespace W
abbrev Xd (r:Int):PV:=PV.int .i64 r
abbrev qoe:Type:=qQ->qe->Option (Int×Int)
def sY (n:Nat) (c:List qe) (g197:qoe) (f:List SS) (p:List Int) (d:Int):LK (Int) (Int):=fun e a=>
 bif(decide (a<((qe.rows c).length:Int)))then(
 bnd (idx c a) fun⟨q,s,⟨t,u,g,i,j,k⟩,l,m⟩=>
 bnd (g197 (qQ.mk f p) (qe.mk q s (Val.mk t u g i j k) l m)) fun⟨o,b⟩=>
 bif(b != 0)then(
 some b)
 else(
 bif(bif(decide (d>0))then(o != d)else false)then(
 some (3:Int))
 else(
 e (kwr .i64 (a+1)))))
 else(
 some (0:Int))
abbrev qos:Type:=qQ->(List qe)->Int->Option (Int)
def Fb (n:Nat) (g116:qos) (g197:qoe) (a:qQ) (d:List qe) (e:Int):Option (Int):=
 match a with
 | ⟨b,c⟩=>
 qo (sY n d g197 b c e) n (0:Int)
abbrev QR (r:Int×Int):PV:=PV.tup [PV.int .i64 r.1,PV.int .i64 r.2]
def vN (n:Nat):Int->Option (Int×Int):=fun a=>
 some ((3:Int),a)
def pt (n:Nat) (g116:qos) (a:List SS) (c:List Int) (b:List qe) (f:Int) (g:SS) (g197:qoe) (i:List SS):Bool->Option (Int×Int):=fun j=>
 bif j then(
 bnd (g116 (qQ.mk a c) b (0:Int)) fun k=>
 vN n k)
 else(
 bif(f==15)then(
 bnd (g116 (qQ.mk a c) b (1:Int)) fun l=>
 vN n l)
 else(
 bif(f==10)then(
 bif(bif(g==([61]:SS))then true else(g==([60,62]:SS)))then(
 bnd (g116 (qQ.mk a c) b (0:Int)) fun d=>
 bif(d==0)then(
 bnd (idx b (0:Int)) fun⟨m,o,⟨p,q,s,t,u,v⟩,w,x⟩=>
 bnd (g197 (qQ.mk a c) (qe.mk m o (Val.mk p q s t u v) w x)) fun⟨y,_⟩=>
 bnd (idx b (1:Int)) fun⟨z,A,⟨B,C,D,E,F,G⟩,H,I⟩=>
 bnd (g197 (qQ.mk a c) (qe.mk z A (Val.mk B C D E F G) H I)) fun⟨J,_⟩=>
 bif(y != J)then(
 vN n (3:Int))
 else(
 vN n d))
 else(
 vN n d))
 else(
 bnd (g116 (qQ.mk a c) b (3:Int)) fun K=>
 vN n K))
 else(
 bnd (g116 (qQ.mk a c) b (3:Int)) fun e=>
 bnd (qD (e==0) (tX n i)) fun L=>
 bif(bif(e==0)then L else false)then(
 vN n (2:Int))
 else(
 vN n e))))
def VY (n:Nat) (g116:qos) (g197:qoe) (i:qQ) (j:qe):Option (Int×Int):=
 match i,j with
 | ⟨c,d⟩,⟨a,e,⟨_,_,_,_,_,_⟩,f,b⟩=>
 bif(a==2)then(
 bnd (xP n (qQ.mk c d) e) fun g=>
 bif(g==0)then(
 some ((0:Int),(2:Int)))
 else(
 some (g,(0:Int))))
 else(
 bif(a==14)then(
 some ((0:Int),(2:Int)))
 else(
 bif(a==13)then(
 bnd (Vp n e) fun⟨k,l,m⟩=>
 bif(bif(decide (((qe.rows b).length:Int)<k))then true else(decide (((qe.rows b).length:Int)>l)))then(
 some ((0:Int),(2:Int)))
 else(
 bnd (g116 (qQ.mk c d) b m) fun o=>
 vN n o))
 else(
 bif(a==4)then(
 pt n g116 c d b a e g197 f (a==4))
 else(
 bif(a==11)then(
 pt n g116 c d b a e g197 f (a==11))
 else(
 pt n g116 c d b a e g197 f (a==12))))))
theorem Sj (n:Nat) (g116:qos) (g197:qoe) (g116_ok:∀ (a:qQ) (b:List qe) (c r:Int),g116 a b c=some r->qb TP 116 [PV.agg (te.cells a),PV.sl (qe.rows b),PV.int .i64 c] (Xd r)) (g197_ok:∀ (a:qQ) (e:qe) (r:Int×Int),g197 a e=some r->qb TP 197 [PV.agg (te.cells a),PV.agg (zX.cells e)] (QR r)):∀ (a:qQ) (b:List qe) (c r:Int),Fb n g116 g197 a b c=some r->qb TP 116 [PV.agg (te.cells a),PV.sl (qe.rows b),PV.int .i64 c] (Xd r):=by
 intro a b c r h;obtain⟨g,i⟩:=a;unfold Fb at h;refine zN Tryz.call116 Tryz.func116 [1000000] ?_;conv=>whnf
 refine qX.fn [1000000] (S:=Int) (fun d=>[(1,pE b),(2,pI c),(3,.ptr 0 0),(7,pI d)]) (fun d=>[.box 125 [pT g,.p (.sl (zF .i64 i))]]) (B:=sY n b g197 g i c) h (wk [0] []) ?_;intro _ d h;unfold sY at h;conv=>whnf
 apply ifc h<;>intro f h
 ·conv=>whnf
  refine bq h fun⟨_,_,⟨_,_,_,_,_,_⟩,_,_⟩ k h=>⟨_,Codec.at_ zX k,?_⟩;conv=>whnf
  refine bq h fun⟨_,_⟩ j h=>⟨_,(g197_ok _ _ _ j),?_⟩;conv=>whnf
  apply ifc h<;>intro f h
  ·obtain rfl:=sj h
   conv=>whnf
   try exact fin
  conv=>whnf
  refine⟨id,id,id,?_⟩;conv=>whnf
  apply ifc h<;>intro f h
  ·obtain rfl:=sj h
   conv=>whnf
   try exact fin
  conv=>whnf
  exact⟨(kwr .i64 (d+1)),h,wk [0] []⟩
 obtain rfl:=sj h;conv=>whnf
 try exact fin
theorem Pn (n:Nat) (g116:qos) (g197:qoe) (g116_ok:∀ (b:qQ) (c:List qe) (e r:Int),g116 b c e=some r->qb TP 116 [PV.agg (te.cells b),PV.sl (qe.rows c),PV.int .i64 e] (Xd r)) (g197_ok:∀ (b:qQ) (d:qe) (r:Int×Int),g197 b d=some r->qb TP 197 [PV.agg (te.cells b),PV.agg (zX.cells d)] (QR r)):∀ (b:qQ) (d:qe) (r:Int×Int),VY n g116 g197 b d=some r->qb TP 197 [PV.agg (te.cells b),PV.agg (zX.cells d)] (QR r):=by
 intro b d r h;obtain⟨i,l⟩:=b;obtain⟨c,e,⟨K,L,M,N,O,E⟩,j,k⟩:=d;unfold VY at h;refine zN Tryz.call197 Tryz.func197 [1000000] ?_;conv=>whnf
 refine cY.cut (S:=Int) (fun f=>[(6,pI f)]) (fun f=>[]) (vN n) (r:=r) ?_ ?_
 ·intro f h
  unfold vN at h;obtain rfl:=sj h;conv=>whnf
  try exact fin
 conv=>whnf
 apply ifc h<;>intro a h
 ·conv=>whnf
  refine bq h fun _ o h=>⟨_,(vw n _ _ _ o),?_⟩;conv=>whnf
  apply ifc h<;>intro a h
  ·obtain rfl:=sj h
   conv=>whnf
   try exact fin
  obtain rfl:=sj h;conv=>whnf
  try exact fin
 conv=>whnf
 apply ifc h<;>intro a h
 ·obtain rfl:=sj h
  conv=>whnf
  try exact fin
 conv=>whnf
 apply ifc h<;>intro a h
 ·conv=>whnf
  refine bq h fun⟨_,_,_⟩ w h=>⟨_,(Su n _ _ w),?_⟩;conv=>whnf
  refine⟨id,id,id,id,id,?_⟩;conv=>whnf
  apply ifc h<;>intro a h
  ·obtain rfl:=sj h
   conv=>whnf
   try exact fin
  conv=>whnf
  refine bq h fun F v h=>⟨_,(g116_ok _ _ _ _ v),?_⟩;conv=>whnf
  exact⟨F,h,wk [] []⟩
 conv=>whnf
 refine cY.cut (S:=Bool) (fun g=>[(2,.ptr 0 0),(3,.ptr 1 0),(16,pI c),(65,pB g)]) (fun g=>[.box 125 [pT i,.p (.sl (zF .i64 l))],.box 49 [pI c,pS e,pI K,pB L,pI M,pS N,pV O,pT E,pT j,pE k]]) (pt n g116 i l k c e g197 j) (r:=r) ?_ ?_
 ·intro g h
  unfold pt at h;conv=>whnf
  apply ifc h<;>intro a h
  ·conv=>whnf
   refine bq h fun G x h=>⟨_,(g116_ok _ _ _ _ x),?_⟩;conv=>whnf
   exact⟨G,h,wk [] []⟩
  conv=>whnf
  apply ifc h<;>intro a h
  ·conv=>whnf
   refine bq h fun H y h=>⟨_,(g116_ok _ _ _ _ y),?_⟩;conv=>whnf
   exact⟨H,h,wk [] []⟩
  conv=>whnf
  apply ifc h<;>intro a h
  ·conv=>whnf
   refine⟨id,id,id,?_⟩;conv=>whnf
   apply ifc h<;>intro a h
   ·conv=>whnf
    refine bq h fun m q h=>⟨_,(g116_ok _ _ _ _ q),?_⟩;(conv=>whnf);apply ifc h<;>intro a h
    ·conv=>whnf
     refine bq h fun⟨_,_,⟨_,_,_,_,_,_⟩,_,_⟩ C h=>⟨_,Codec.at_ zX C,?_⟩;(conv=>whnf);refine bq h fun⟨_,_⟩ B h=>⟨_,(g197_ok _ _ _ B),?_⟩;(conv=>whnf);refine bq h fun⟨_,_,⟨_,_,_,_,_,_⟩,_,_⟩ A h=>⟨_,Codec.at_ zX A,?_⟩;(conv=>whnf);refine bq h fun⟨_,_⟩ z h=>⟨_,(g197_ok _ _ _ z),?_⟩;(conv=>whnf);apply ifc h<;>intro a h
     ·conv=>whnf
      exact⟨(3:Int),h,wk [] []⟩
     (conv=>whnf);exact⟨m,h,wk [] []⟩
    (conv=>whnf);exact⟨m,h,wk [] []⟩
   conv=>whnf
   refine bq h fun I s h=>⟨_,(g116_ok _ _ _ _ s),?_⟩;conv=>whnf
   exact⟨I,h,wk [] []⟩
  conv=>whnf
  refine bq h fun J u h=>⟨_,(g116_ok _ _ _ _ u),?_⟩;conv=>whnf
  refine⟨id,id,?_⟩;conv=>whnf
  refine bq h fun _ t h=>⟨_,fun D=>(Ct n _ _ (qa t D)),?_⟩;conv=>whnf
  refine⟨id,?_⟩;conv=>whnf
  apply ifc h<;>intro a h
  ·conv=>whnf
   exact⟨(2:Int),h,wk [] []⟩
  conv=>whnf
  exact⟨J,h,wk [] []⟩
 conv=>whnf
 apply ifc h<;>intro a h
 ·conv=>whnf
  exact⟨(c==4),h,wk [0,1] []⟩
 conv=>whnf
 apply ifc h<;>intro a h
 ·conv=>whnf
  exact⟨(c==11),h,wk [0,1] []⟩
 conv=>whnf
 exact⟨(c==12),h,wk [0,1] []⟩
mutual
def gz:Nat->qQ->(List qe)->Int->Option (Int)
 | 0=>fun _ _ _=>none
 | n+1=>Fb n (gz n) (mF n)
def mF:Nat->qQ->qe->Option (Int×Int)
 | 0=>fun _ _=>none
 | n+1=>VY n (gz n) (mF n)
end
theorem BJ (n:Nat):(∀ (a:qQ) (c:List qe) (d r:Int),gz n a c d=some r->qb TP 116 [PV.agg (te.cells a),PV.sl (qe.rows c),PV.int .i64 d] (Xd r))/\(∀ (a:qQ) (b:qe) (r:Int×Int),mF n a b=some r->qb TP 197 [PV.agg (te.cells a),PV.agg (zX.cells b)] (QR r)):=by
 induction n with
 | zero=>exact⟨(by intros; rename_i h; cases h),(by intros; rename_i h; cases h)⟩
 | succ n ih=>
  obtain⟨hg116,hg197⟩:=ih;exact⟨Sj n (gz n) (mF n) hg116 hg197,Pn n (gz n) (mF n) hg116 hg197⟩
theorem cD (n:Nat):∀ (a:qQ) (b:List qe) (c r:Int),gz n a b c=some r->qb TP 116 [PV.agg (te.cells a),PV.sl (qe.rows b),PV.int .i64 c] (Xd r):=(BJ n).1
theorem Sw (n:Nat):∀ (a:qQ) (b:qe) (r:Int×Int),mF n a b=some r->qb TP 197 [PV.agg (te.cells a),PV.agg (zX.cells b)] (QR r):=(BJ n).2
abbrev Ta (r:Int):PV:=PV.int .i64 r
def rW (n:Nat):Int->Option (Int):=fun a=>
 some a
def tY (n:Nat) (b:qQ) (e:List SS) (f:List qe):Option (Int):=
 match b with
 | ⟨c,d⟩=>
 bnd (gz n (qQ.mk c d) f (3:Int)) fun a=>
 bnd (qD (a==0) (tX n e)) fun g=>
 bif(bif(a==0)then g else false)then(
 rW n (2:Int))
 else(
 rW n a)
theorem Cv (n:Nat):∀ (a:qQ) (b:List SS) (c:List qe) (r:Int),tY n a b c=some r->qb TP 196 [PV.agg (te.cells a),PV.sl (qi b),PV.sl (qe.rows c)] (Ta r):=by
 intro a b c r h;obtain⟨_,_⟩:=a;unfold tY at h;refine zN Tryz.call196 Tryz.func196 [1000000] ?_;conv=>whnf
 refine bq h fun i f h=>⟨_,(cD n _ _ _ _ f),?_⟩;conv=>whnf
 refine cY.cut (S:=Int) (fun d=>[(7,pI d)]) (fun d=>[]) (rW n) (r:=r) ?_ ?_
 ·intro d h
  unfold rW at h;obtain rfl:=sj h;conv=>whnf
  try exact fin
 conv=>whnf
 refine⟨id,?_⟩;conv=>whnf
 refine bq h fun _ e h=>⟨_,fun g=>(Ct n _ _ (qa e g)),?_⟩;conv=>whnf
 refine⟨id,?_⟩;conv=>whnf
 apply ifc h<;>intro _ h
 ·conv=>whnf
  exact⟨(2:Int),h,wk [] []⟩
 conv=>whnf
 exact⟨i,h,wk [] []⟩
abbrev Lf (r:qQ):PV:=PV.agg (te.cells r)
def fr (n:Nat) (e:qQ) (c:SS) (d:Int):Option (qQ):=
 match e with
 | ⟨a,b⟩=>
 bnd (qD (!(c==([]:SS))) (xP n (qQ.mk a b) c)) fun f=>
 bif(bif(c==([]:SS))then true else(decide (f>0)))then(
 some (qQ.mk a b))
 else(
 chk (decide ((qi a).length * 16<=140737488355328)) (
 chk (decide ((zF .i64 b).length * 8<=140737488355328)) (
 chk (decide ((qi (a++[c])).length * 16<=140737488355328)) (
 chk (decide ((zF .i64 (b++[d])).length * 8<=140737488355328)) (
 some (qQ.mk (a++[c]) (b++[d])))))))
theorem pr (n:Nat):∀ (e:qQ) (a:SS) (b:Int) (r:qQ),fr n e a b=some r->qb TP 118 [PV.agg (te.cells e),PV.str a,PV.int .i64 b] (Lf r):=by
 intro e a b r h;obtain⟨c,d⟩:=e;unfold fr at h;refine zN Tryz.call118 Tryz.func118 [1000000] ?_;conv=>whnf
 refine⟨id,id,?_⟩;conv=>whnf
 refine bq h fun _ k h=>⟨_,fun l=>(vw n _ _ _ (qa k l)),?_⟩;conv=>whnf
 refine⟨id,id,?_⟩;conv=>whnf
 apply ifc h<;>intro _ h
 ·obtain rfl:=sj h
  conv=>whnf
  try exact fin
 conv=>whnf
 obtain⟨j,h⟩:=qg h;refine⟨⟨Codec.wide cc c,kod j,xj j (by decide)⟩,?_⟩;conv=>whnf
 obtain⟨i,h⟩:=qg h;refine⟨⟨Codec.wide (qlw .i64) d,kod i,xj i (by decide)⟩,?_⟩;conv=>whnf
 refine⟨Codec.one cc [a],qi [a],.inl rfl,?_⟩;conv=>whnf
 rw[show qi c++qi [a]=qi (c++[a])from Codec.append cc c [a]];conv=>whnf
 obtain⟨g,h⟩:=qg h;refine⟨⟨Codec.wide cc (c++[a]),kod g,xj g (by decide)⟩,?_⟩;conv=>whnf
 refine⟨⟨rfl,rfl,rfl⟩,?_⟩;conv=>whnf
 refine⟨Codec.one (qlw .i64) [b],zF .i64 [b],.inl rfl,?_⟩;conv=>whnf
 rw[show zF .i64 d++zF .i64 [b]=zF .i64 (d++[b])from Codec.append (qlw .i64) d [b]];conv=>whnf
 obtain⟨f,h⟩:=qg h;refine⟨⟨Codec.wide (qlw .i64) (d++[b]),kod f,xj f (by decide)⟩,?_⟩;conv=>whnf
 refine⟨⟨rfl,rfl,rfl⟩,?_⟩;obtain rfl:=sj h;conv=>whnf
 try exact fin
abbrev SZ (r:qQ×Int):PV:=PV.tup [PV.agg (te.cells r.1),PV.int .i64 r.2]
def dR (n:Nat) (a:List SS) (b:List Int) (p:Bool) (j c g:List SS) (k:List Int) (l:List qe) (i:SS) (f:Int×List SS×List Int->Option (qQ×Int)) (q:Int):Int->Option (qQ×Int):=fun d=>
 bif(decide (d>1))then(
 some (qQ.mk a b,(3:Int)))
 else(
 bif(bif(bif(d==1)then p else false)then(decide ((kwr .i64 (((qi j).length:Int)+((qi c).length:Int)))>0))else false)then(
 some (qQ.mk a b,(2:Int)))
 else(
 bnd (tY n (qQ.mk g k) c l) fun e=>
 bif(e != 0)then(
 some (qQ.mk a b,e))
 else(
 bnd (fr n (qQ.mk a b) i (1:Int)) fun⟨m,o⟩=>
 f ((kwr .i64 (q+1)),m,o))))
def dQ (n:Nat) (p:List zx) (q d:Int) (l:Bool) (f:List SS) (j:List Int) (e:Int×List SS×List Int->Option (qQ×Int)):List SS×List Int->Option (qQ×Int):=fun(b,c)=>
 bnd (idx p q) fun⟨m,_⟩=>
 bnd (idx m d) fun⟨a,g,i,k⟩=>
 bif(!(a==([]:SS)))then(
 bnd (xP n (qQ.mk b c) a) fun o=>
 dR n b c l g i f j k a e d o)
 else(
 dR n b c l g i f j k a e d (0:Int))
def ds (n:Nat) (f:List zx) (c:Int) (j:Bool) (g:List SS) (i:List Int) (m:Int×List SS×List Int->Option (qQ×Int)):LK (Int×List SS×List Int) (qQ×Int):=fun k (d,b,a)=>
 bnd (idx f c) fun⟨o,_⟩=>
 bif(decide (d<((qt.rows o).length:Int)))then(
 bif(decide (d>0))then(
 bnd (idx f c) fun⟨_,p⟩=>
 bnd (idx p (kwr .i64 (d - 1))) fun⟨e,q,s,t,u⟩=>
 bnd (qD (!(e==([]:SS))) (xP n (qQ.mk b a) e)) fun v=>
 bif(bif(bif(!(e==([]:SS)))then(decide (v>0))else false)then true else(bif j then(bif(q==([]:SS))then true else(s==2))else false))then(
 some (qQ.mk b a,(2:Int)))
 else(
 bnd (tY n (qQ.mk g i) t u) fun l=>
 bif(l != 0)then(
 some (qQ.mk b a,l))
 else(
 bnd (fr n (qQ.mk b a) e (2:Int)) fun⟨w,x⟩=>
 dQ n f c d j g i k (w,x))))
 else(
 dQ n f c d j g i k (b,a)))
 else(
 m ((kwr .i64 (c+1)),b,a))
def mG (n:Nat) (a:List zx) (i:Bool) (f:List SS) (g:List Int):LK (Int×List SS×List Int) (qQ×Int):=fun e (b,c,d)=>
 bif(decide (b<((zx.rows a).length:Int)))then(
 qo (ds n a b i f g e) n ((0:Int),c,d))
 else(
 some (qQ.mk c d,(0:Int)))
def sJ (n:Nat) (c:qQ) (d:List zx) (e:Bool):Option (qQ×Int):=
 match c with
 | ⟨a,b⟩=>
 qo (mG n d e a b) n ((0:Int),a,b)
theorem Vd (n:Nat):∀ (m:qQ) (b:List zx) (a:Bool) (r:qQ×Int),sJ n m b a=some r->qb TP 115 [PV.agg (te.cells m),PV.sl (zx.rows b),PV.bool a] (SZ r):=by
 intro m b a r h;obtain⟨e,f⟩:=m;unfold sJ at h;refine zN Tryz.call115 Tryz.func115 [1000000] ?_;conv=>whnf
 refine qX.fn [1000000] (S:=Int×List SS×List Int) (fun(c,q,s)=>[(1,pP b),(2,pB a),(3,.ptr 0 0),(6,.ptr 1 0),(8,.ptr 2 0),(9,pI c)]) (fun(c,q,s)=>[.box 125 [pT e,.p (.sl (zF .i64 f))],zq7,.box 125 [pT q,.p (.sl (zF .i64 s))]]) (B:=mG n b a e f) h (wk [0,1,2] []) ?_;intro L st h;obtain⟨c,q,s⟩:=st;unfold mG at h;conv=>whnf
 apply ifc h<;>intro d h
 ·conv=>whnf
  refine qX.fn [1000000] (S:=Int×List SS×List Int) (fun(g,l,i)=>[(1,pP b),(2,pB a),(3,.ptr 0 0),(6,.ptr 1 0),(8,.ptr 2 0),(9,pI c),(10,pI g)]) (fun(g,l,i)=>[.box 125 [pT e,.p (.sl (zF .i64 f))],zq7,.box 125 [pT l,.p (.sl (zF .i64 i))]]) (B:=ds n b c a e f L) h (wk [0,1,2] []) ?_;intro t st h;obtain⟨g,l,i⟩:=st;unfold ds at h;conv=>whnf
  refine bq h fun⟨_,_⟩ A h=>⟨_,Codec.at_ pb A,?_⟩;conv=>whnf
  apply ifc h<;>intro d h
  ·conv=>whnf
   refine cY.cut (S:=List SS×List Int) (fun(j,k)=>[(1,pP b),(2,pB a),(3,.ptr 0 0),(6,.ptr 1 0),(8,.ptr 2 0),(9,pI c),(10,pI g)]) (fun(j,k)=>[.box 125 [pT e,.p (.sl (zF .i64 f))],zq7,.box 125 [pT j,.p (.sl (zF .i64 k))]]) (dQ n b c g a e f t) (r:=r) ?_ ?_
   ·intro st h
    obtain⟨j,k⟩:=st;unfold dQ at h;(conv=>whnf);refine bq h fun⟨_,_⟩ F h=>⟨_,Codec.at_ pb F,?_⟩;(conv=>whnf);refine bq h fun⟨u,v,w,x⟩ E h=>⟨_,Codec.at_ gO E,?_⟩;(conv=>whnf);refine cY.cut (S:=Int) (fun o=>[(1,pP b),(2,pB a),(3,.ptr 0 0),(6,.ptr 1 0),(8,.ptr 2 0),(9,pI c),(10,pI g),(13,.ptr 3 0),(14,pI o)]) (fun o=>[.box 125 [pT e,.p (.sl (zF .i64 f))],zq7,.box 125 [pT j,.p (.sl (zF .i64 k))],.box 62 [pS u,pT v,pT w,pE x]]) (dR n j k a v w e f x u t g) (r:=r) ?_ ?_
    ·intro o h
     unfold dR at h;(conv=>whnf);apply ifc h<;>intro d h
     ·obtain rfl:=sj h
      conv=>whnf
      try exact fin
     conv=>whnf
     iterate 9 refine⟨id,?_⟩
     (conv=>whnf);apply ifc h<;>intro d h
     ·obtain rfl:=sj h
      conv=>whnf
      try exact fin
     (conv=>whnf);refine bq h fun _ C h=>?_
     refine⟨_,(Cv n _ _ _ _ C),?_⟩;(conv=>whnf);apply ifc h<;>intro d h
     ·obtain rfl:=sj h
      conv=>whnf
      try exact fin
     (conv=>whnf);refine bq h fun⟨M,N⟩ y h=>?_
     refine⟨_,(pr n _ _ _ _ y),?_⟩;(conv=>whnf);exact⟨((kwr .i64 (g+1)),M,N),h,wk [0,1,2] []⟩
    (conv=>whnf);apply ifc h<;>intro d h
    ·conv=>whnf
     refine bq h fun O D h=>⟨_,(vw n _ _ _ D),?_⟩;(conv=>whnf);exact⟨O,h,wk [0,1,2,3] []⟩
    (conv=>whnf);exact⟨(0:Int),h,wk [0,1,2,3] []⟩
   conv=>whnf
   apply ifc h<;>intro d h
   ·conv=>whnf
    refine bq h fun⟨_,_⟩ z h=>⟨_,Codec.at_ pb z,?_⟩;(conv=>whnf);refine bq h fun⟨_,_,_,_,_⟩ J h=>⟨_,Codec.at_ cZ J,?_⟩;(conv=>whnf);refine⟨id,id,id,?_⟩;(conv=>whnf);refine bq h fun _ I h=>⟨_,fun K=>(vw n _ _ _ (qa I K)),?_⟩;conv=>whnf
    iterate 13 refine⟨id,?_⟩
    (conv=>whnf);apply ifc h<;>intro d h
    ·obtain rfl:=sj h
     conv=>whnf
     try exact fin
    (conv=>whnf);refine bq h fun _ H h=>?_
    refine⟨_,(Cv n _ _ _ _ H),?_⟩;(conv=>whnf);apply ifc h<;>intro d h
    ·obtain rfl:=sj h
     conv=>whnf
     try exact fin
    (conv=>whnf);refine bq h fun⟨P,Q⟩ G h=>?_
    refine⟨_,(pr n _ _ _ _ G),?_⟩;(conv=>whnf);exact⟨(P,Q),h,wk [0,1,2] []⟩
   conv=>whnf
   exact⟨(l,i),h,wk [0,1,2] []⟩
  conv=>whnf
  exact⟨((kwr .i64 (c+1)),l,i),h,wk [0,1,2] []⟩
 obtain rfl:=sj h;conv=>whnf
 try exact fin
abbrev iS (r:qQ×Int):PV:=PV.tup [PV.agg (te.cells r.1),PV.int .i64 r.2]
def pw (n:Nat) (a:List SS) (b:List Int) (i:Int) (d:List xM) (c:Int) (g:Int×List SS×List Int->Option (qQ×Int)):Int×Int->Option (qQ×Int):=fun(e,f)=>
 bif(f != 0)then(
 some (qQ.mk a b,f))
 else(
 bif(bif(i==9)then(e != 3)else false)then(
 some (qQ.mk a b,(3:Int)))
 else(
 bnd (idx d c) fun⟨⟨_,_,⟨_,_,_,_,_,_⟩,_,_⟩,j⟩=>
 bnd (xP n (qQ.mk a b) j) fun k=>
 bif(decide (k>0))then(
 some (qQ.mk a b,(2:Int)))
 else(
 bnd (idx d c) fun⟨⟨_,_,⟨_,_,_,_,_,_⟩,_,_⟩,l⟩=>
 bnd (fr n (qQ.mk a b) l e) fun⟨m,o⟩=>
 g ((kwr .i64 (c+1)),m,o))))
def tv (n:Nat) (b:List SS) (d:List Int) (j:List qe) (f:List SS) (g:List Int) (i:Int) (c:List xM) (e:Int) (a:Int×List SS×List Int->Option (qQ×Int)):Int->Option (qQ×Int):=fun k=>
 bnd (gz n (qQ.mk b d) j k) fun l=>
 pw n f g i c e a ((3:Int),l)
def rY (n:Nat) (a:List SS) (b:List Int):Int->Option (qQ×Int):=fun c=>
 some (qQ.mk a b,c)
def rX (n:Nat) (a:List SS) (b:List Int) (d:List qe):Int->Option (qQ×Int):=fun c=>
 bif(c==0)then(
 bnd (gz n (qQ.mk a b) d (3:Int)) fun e=>
 rY n a b e)
 else(
 rY n a b c)
def cF (n:Nat) (d:List qS) (a:List SS) (b:List Int) (j k e:List qe):LK (Int) (qQ×Int):=fun i c=>
 bif(decide (c<((qS.rows d).length:Int)))then(
 bnd (idx d c) fun⟨⟨l,m,⟨o,p,q,s,t,u⟩,v,w⟩,_⟩=>
 bnd (gz n (qQ.mk a b) [qe.mk l m (Val.mk o p q s t u) v w] (3:Int)) fun f=>
 bif(f != 0)then(
 some (qQ.mk a b,f))
 else(
 i (kwr .i64 (c+1))))
 else(
 bnd (gz n (qQ.mk ([]:List SS) ([]:List Int)) j (3:Int)) fun g=>
 bif(g==0)then(
 bnd (gz n (qQ.mk ([]:List SS) ([]:List Int)) k (3:Int)) fun x=>
 rX n a b e x)
 else(
 rX n a b e g))
def bK (n:Nat) (a:List xM) (f:List SS) (g:List Int) (i:Int) (m:List qS) (o p y:List qe):LK (Int×List SS×List Int) (qQ×Int):=fun e (b,c,d)=>
 bif(decide (b<((xM.rows a).length:Int)))then(
 bnd (idx a b) fun⟨⟨k,l,⟨q,s,t,u,v,w⟩,x,j⟩,_⟩=>
 bif(k==14)then(
 bif(l==([99,111,117,110,116]:SS))then(
 tv n f g j c d i a b e (0:Int))
 else(
 tv n f g j c d i a b e (3:Int)))
 else(
 bnd (mF n (qQ.mk f g) (qe.mk k l (Val.mk q s t u v w) x j)) fun⟨z,A⟩=>
 pw n c d i a b e (z,A)))
 else(
 qo (cF n m c d o p y) n (0:Int))
def Vq (n:Nat) (a:qQ) (b:qd):Option (qQ×Int):=
 match a,b with
 | ⟨c,f⟩,⟨j,_,k,⟨_,_,⟨_,_,_,_,_,_⟩,_,_⟩,_,d,_,e,g,i,_,_,_⟩=>
 qo (bK n d c f j e g i k) n ((0:Int),([]:List _),([]:List _))
theorem Sz (n:Nat):∀ (H:qQ) (I:qd) (r:qQ×Int),Vq n H I=some r->qb TP 119 [PV.agg (te.cells H),PV.agg (xN.cells I)] (iS r):=by
 intro H I r h;obtain⟨l,x⟩:=H;obtain⟨f,C,g,⟨D,E,⟨F,G,m,o,q,s⟩,t,u⟩,v,d,w,i,j,k,y,z,A⟩:=I;unfold Vq at h;refine zN Tryz.call119 Tryz.func119 [1000000] ?_;conv=>whnf
 refine qX.fn [1000000] (S:=Int×List SS×List Int) (fun(e,a,b)=>[(2,.ptr 0 0),(3,.ptr 1 0),(4,.ptr 2 0),(6,.ptr 3 0),(7,pI e)]) (fun(e,a,b)=>[.box 125 [pT l,.p (.sl (zF .i64 x))],.box 54 [pI f,pP C,pE g,pI D,pS E,pI F,pB G,pI m,pS o,pV q,pT s,pT t,pE u,pS v,pA d,pB w,pO i,pE j,pE k,pU y,pT z,pB A],zq7,.box 125 [pT a,.p (.sl (zF .i64 b))]]) (B:=bK n d l x f i j k g) h (wk [0,1,2,3] []) ?_;intro P st h;obtain⟨e,a,b⟩:=st;unfold bK at h;conv=>whnf
 apply ifc h<;>intro c h
 ·conv=>whnf
  refine bq h fun⟨⟨b4,b5,⟨b6,b7,b8,b9,c0,c1⟩,c2,Q⟩,_⟩ b1 h=>⟨_,Codec.at_ VE b1,?_⟩;conv=>whnf
  refine cY.cut (S:=Int×Int) (fun(L,M)=>[(2,.ptr 0 0),(3,.ptr 1 0),(4,.ptr 2 0),(6,.ptr 3 0),(7,pI e),(8,pI L),(9,pI M)]) (fun(L,M)=>[.box 125 [pT l,.p (.sl (zF .i64 x))],.box 54 [pI f,pP C,pE g,pI D,pS E,pI F,pB G,pI m,pS o,pV q,pT s,pT t,pE u,pS v,pA d,pB w,pO i,pE j,pE k,pU y,pT z,pB A],zq7,.box 125 [pT a,.p (.sl (zF .i64 b))]]) (pw n a b f d e P) (r:=r) ?_ ?_
  ·intro st h
   obtain⟨L,M⟩:=st;unfold pw at h;conv=>whnf
   apply ifc h<;>intro c h
   ·obtain rfl:=sj h
    conv=>whnf
    try exact fin
   conv=>whnf
   refine⟨id,id,?_⟩;conv=>whnf
   apply ifc h<;>intro c h
   ·obtain rfl:=sj h
    conv=>whnf
    try exact fin
   conv=>whnf
   refine bq h fun⟨⟨_,_,⟨_,_,_,_,_,_⟩,_,_⟩,_⟩ a8 h=>⟨_,Codec.at_ VE a8,?_⟩;conv=>whnf
   refine bq h fun _ a7 h=>⟨_,(vw n _ _ _ a7),?_⟩;conv=>whnf
   apply ifc h<;>intro c h
   ·obtain rfl:=sj h
    conv=>whnf
    try exact fin
   conv=>whnf
   refine bq h fun⟨⟨_,_,⟨_,_,_,_,_,_⟩,_,_⟩,_⟩ a6 h=>⟨_,Codec.at_ VE a6,?_⟩;conv=>whnf
   refine bq h fun⟨c3,c4⟩ a2 h=>⟨_,(pr n _ _ _ _ a2),?_⟩;conv=>whnf
   exact⟨((kwr .i64 (e+1)),c3,c4),h,wk [0,1,2,3] []⟩
  conv=>whnf
  apply ifc h<;>intro c h
  ·conv=>whnf
   refine cY.cut (S:=Int) (fun N=>[(2,.ptr 0 0),(3,.ptr 1 0),(4,.ptr 2 0),(6,.ptr 3 0),(7,pI e),(8,pI N),(10,.ptr 4 0)]) (fun N=>[.box 125 [pT l,.p (.sl (zF .i64 x))],.box 54 [pI f,pP C,pE g,pI D,pS E,pI F,pB G,pI m,pS o,pV q,pT s,pT t,pE u,pS v,pA d,pB w,pO i,pE j,pE k,pU y,pT z,pB A],zq7,.box 125 [pT a,.p (.sl (zF .i64 b))],.box 49 [pI b4,pS b5,pI b6,pB b7,pI b8,pS b9,pV c0,pT c1,pT c2,pE Q]]) (tv n l x Q a b f d e P) (r:=r) ?_ ?_
   ·intro N h
    unfold tv at h;(conv=>whnf);refine bq h fun c5 a9 h=>⟨_,(cD n _ _ _ _ a9),?_⟩;(conv=>whnf);exact⟨((3:Int),c5),h,wk [0,1,2,3] []⟩
   conv=>whnf
   apply ifc h<;>intro c h
   ·conv=>whnf
    exact⟨(0:Int),h,wk [0,1,2,3,4] []⟩
   conv=>whnf
   exact⟨(3:Int),h,wk [0,1,2,3,4] []⟩
  conv=>whnf
  refine bq h fun⟨c6,c7⟩ b0 h=>⟨_,(Sw n _ _ _ b0),?_⟩;conv=>whnf
  exact⟨(c6,c7),h,wk [0,1,2,3] []⟩
 conv=>whnf
 refine qX.fn [1000000] (S:=Int) (fun J=>[(3,.ptr 0 0),(4,.ptr 1 0),(6,.ptr 2 0),(11,pI J)]) (fun J=>[.box 54 [pI f,pP C,pE g,pI D,pS E,pI F,pB G,pI m,pS o,pV q,pT s,pT t,pE u,pS v,pA d,pB w,pO i,pE j,pE k,pU y,pT z,pB A],zq7,.box 125 [pT a,.p (.sl (zF .i64 b))]]) (B:=cF n i a b j k g) h (wk [1,2,3] []) ?_;intro _ J h;unfold cF at h;conv=>whnf
 apply ifc h<;>intro c h
 ·conv=>whnf
  refine bq h fun⟨⟨R,T,⟨U,V,W,X,Y,Z⟩,a0,a1⟩,_⟩ b3 h=>⟨_,Codec.at_ Za b3,?_⟩;conv=>whnf
  refine⟨Codec.one zX [qe.mk R T (Val.mk U V W X Y Z) a0 a1],qe.rows [qe.mk R T (Val.mk U V W X Y Z) a0 a1],.inl rfl,?_⟩;conv=>whnf
  refine bq h fun _ b2 h=>⟨_,(cD n _ _ _ _ b2),?_⟩;conv=>whnf
  apply ifc h<;>intro c h
  ·obtain rfl:=sj h
   conv=>whnf
   try exact fin
  conv=>whnf
  exact⟨(kwr .i64 (J+1)),h,wk [0,1,2] []⟩
 conv=>whnf
 refine bq h fun c8 a5 h=>⟨_,(qb.leArgs (cD n _ _ _ _ a5) (by try exact fin)),?_⟩;conv=>whnf
 refine cY.cut (S:=Int) (fun K=>[(3,.ptr 0 0),(4,.ptr 1 0),(6,.ptr 2 0),(13,pI K)]) (fun K=>[.box 54 [pI f,pP C,pE g,pI D,pS E,pI F,pB G,pI m,pS o,pV q,pT s,pT t,pE u,pS v,pA d,pB w,pO i,pE j,pE k,pU y,pT z,pB A],zq7,.box 125 [pT a,.p (.sl (zF .i64 b))]]) (rX n a b g) (r:=r) ?_ ?_
 ·intro K h
  unfold rX at h;conv=>whnf
  refine cY.cut (S:=Int) (fun O=>[(4,.ptr 0 0),(6,.ptr 1 0),(13,pI O)]) (fun O=>[zq7,.box 125 [pT a,.p (.sl (zF .i64 b))]]) (rY n a b) (r:=r) ?_ ?_
  ·intro O h
   unfold rY at h;obtain rfl:=sj h;conv=>whnf
   try exact fin
  conv=>whnf
  apply ifc h<;>intro c h
  ·conv=>whnf
   refine bq h fun c9 a3 h=>⟨_,(cD n _ _ _ _ a3),?_⟩;conv=>whnf
   exact⟨c9,h,wk [1,2] []⟩
  conv=>whnf
  exact⟨K,h,wk [1,2] []⟩
 conv=>whnf
 apply ifc h<;>intro c h
 ·conv=>whnf
  refine bq h fun d0 a4 h=>⟨_,(qb.leArgs (cD n _ _ _ _ a4) (by try exact fin)),?_⟩;conv=>whnf
  exact⟨d0,h,wk [0,1,2] []⟩
 conv=>whnf
 exact⟨c8,h,wk [0,1,2] []⟩
abbrev PT (r:qQ×Int):PV:=PV.tup [PV.agg (te.cells r.1),PV.int .i64 r.2]
def nD (n:Nat) (a:List SS) (b:List Int):Int->Option (qQ×Int):=fun c=>
 some (qQ.mk a b,c)
def nE (n:Nat) (a:List SS) (c:List Int) (b:SS):Int->Option (qQ×Int):=fun d=>
 bnd (fr n (qQ.mk a c) b (3:Int)) fun⟨e,f⟩=>
 some (qQ.mk e f,d)
def tu (n:Nat) (a:List SS) (b:List Int) (c:List zx):Unit->Option (qQ×Int):=fun _=>
 bnd (sJ n (qQ.mk a b) c true) fun⟨⟨d,e⟩,f⟩=>
 some (qQ.mk d e,f)
def bZ (n:Nat) (a:Int->Option (qQ×Int)) (b:Int):Unit->Option (qQ×Int):=fun _=>
 a (kwr .i64 (b+1))
def so (n:Nat) (f:Int) (g:SS) (b:List SS) (c:List Int) (i:Int) (j:SS) (k:Int) (l:Bool) (m:Int) (o:SS) (p:List Val) (q s:List SS) (t:List qe) (a:Int->Option (qQ×Int)) (d:Int):Unit->Option (qQ×Int):=fun _=>
 bif(bif(f==6)then(!(g==([]:SS)))else false)then(
 bnd (gz n (qQ.mk b c) [qe.mk i j (Val.mk k l m o p q) s t] (3:Int)) fun e=>
 bif(e != 0)then(
 some (qQ.mk b c,e))
 else(
 bZ n a d ()))
 else(
 bZ n a d ())
def sn (n:Nat) (c:Int) (i:SS) (a:List SS) (b:List Int) (e:Int) (g:SS) (j:Int) (k:SS) (l:Int) (m:Bool) (o:Int) (p:SS) (q:List Val) (s t:List SS) (u:List qe) (d:Int->Option (qQ×Int)) (f:Int):Unit->Option (qQ×Int):=fun _=>
 bif(bif(c==3)then true else(bif(c==2)then(!(i==([]:SS)))else false))then(
 some (qQ.mk a b,(3:Int)))
 else(
 so n e g a b j k l m o p q s t u d f ())
def sm (n:Nat) (f:List qj) (c:Int) (a:List SS) (b:List Int) (g:Int) (e:Int->Option (qQ×Int)):Unit->Option (qQ×Int):=fun _=>
 bnd (idx f c) fun⟨i,j,k,⟨l,m,⟨o,p,q,s,t,u⟩,v,w⟩⟩=>
 bnd (xP n (qQ.mk a b) i) fun d=>
 bif(d==0)then(
 some (qQ.mk a b,(2:Int)))
 else(
 sn n d k a b g j l m o p q s t u v w e c ())
def fL (n:Nat) (c:List qj) (a:List SS) (b:List Int) (f:Int):LK (Int) (qQ×Int):=fun e d=>
 bif(decide (d<((qj.rows c).length:Int)))then(
 sm n c d a b f e ())
 else(
 some (qQ.mk a b,(0:Int)))
def sv (n:Nat) (e:Int) (b:List SS) (c:List Int) (a:Int->Option (qQ×Int)) (d:Int):Unit->Option (qQ×Int):=fun _=>
 bif(e==3)then(
 some (qQ.mk b c,(3:Int)))
 else(
 a (kwr .i64 (d+1)))
def su (n:Nat) (f:List SS) (c:Int) (a:List SS) (b:List Int) (e:Int->Option (qQ×Int)):Unit->Option (qQ×Int):=fun _=>
 bnd (idx f c) fun g=>
 bnd (xP n (qQ.mk a b) g) fun d=>
 bif(d==0)then(
 some (qQ.mk a b,(2:Int)))
 else(
 sv n d a b e c ())
def fM (n:Nat) (c a:List SS) (b:List Int):LK (Int) (qQ×Int):=fun e d=>
 bif(decide (d<((qi c).length:Int)))then(
 su n c d a b e ())
 else(
 some (qQ.mk a b,(0:Int)))
def nF (n:Nat) (d:List qj) (a:List SS) (b:List Int) (c:Int) (e:List SS) (v:List zx) (x:List qe) (y:Int) (B:SS) (D:Int) (E:Bool) (f:Int) (g:SS) (i:List Val) (j k:List SS) (l:List qe) (m:SS) (o:List xM) (p:Bool) (q:List qS) (s t:List qe) (u:Bool):Bool->Option (qQ×Int):=fun w=>
 bif w then(
 qo (fL n d a b c) n (0:Int))
 else(
 bif(c==8)then(
 qo (fM n e a b) n (0:Int))
 else(
 bnd (Vq n (qQ.mk a b) (qd.mk c v x (qe.mk y B (Val.mk D E f g i j) k l) m o p q s t d e u)) fun⟨⟨z,A⟩,C⟩=>
 some (qQ.mk z A,C)))
def QH (n:Nat) (G:qQ) (H:qd):Option (qQ×Int):=
 match G,H with
 | ⟨a,b⟩,⟨c,d,s,⟨t,u,⟨v,w,f,g,i,j⟩,k,l⟩,e,x,y,z,A,B,C,D,E⟩=>
 bif(c==1)then(
 bnd (sJ n (qQ.mk a b) d false) fun⟨⟨m,o⟩,F⟩=>
 bif(F==0)then(
 bnd (gz n (qQ.mk m o) s (3:Int)) fun I=>
 nD n m o I)
 else(
 nD n m o F))
 else(
 bif(c==2)then(
 bnd (gz n (qQ.mk a b) [qe.mk t u (Val.mk v w f g i j) k l] (3:Int)) fun p=>
 bnd (qD (p==0) (xP n (qQ.mk a b) e)) fun J=>
 bif(bif(p==0)then(decide (J>0))else false)then(
 nE n a b e (2:Int))
 else(
 nE n a b e p))
 else(
 bif(c==4)then(
 bnd (sJ n (qQ.mk a b) d true) fun⟨⟨K,L⟩,M⟩=>
 some (qQ.mk K L,M))
 else(
 bif(c==5)then(
 bnd (idx d (0:Int)) fun⟨N,_⟩=>
 bnd (idx N (0:Int)) fun⟨q,_,_,_⟩=>
 bnd (qD (!(q==([]:SS))) (xP n (qQ.mk a b) q)) fun O=>
 bif(bif(!(q==([]:SS)))then(decide (O>0))else false)then(
 some (qQ.mk a b,(2:Int)))
 else(
 tu n a b d ()))
 else(
 bif(c==6)then(
 nF n C a b c D d s t u v w f g i j k l e x y z A B E (c==6))
 else(
 nF n C a b c D d s t u v w f g i j k l e x y z A B E (c==7))))))
theorem Mj (n:Nat):∀ (Q:qQ) (R:qd) (r:qQ×Int),QH n Q R=some r->qb TP 60 [PV.agg (te.cells Q),PV.agg (xN.cells R)] (PT r):=by
 intro Q R r h;obtain⟨a,b⟩:=Q;obtain⟨c,v,E,⟨o,q,⟨s,t,e,f,g,i⟩,j,k⟩,u,w,x,y,z,A,l,m,C⟩:=R;unfold QH at h;refine zN Tryz.call60 Tryz.func60 [1000001,1000000] ?_;conv=>whnf
 apply ifc h<;>intro d h
 ·conv=>whnf
  refine bq h fun⟨⟨a1,a2⟩,c2⟩ b4 h=>⟨_,(Vd n _ _ _ _ b4),?_⟩;conv=>whnf
  refine cY.cut (S:=Int) (fun W=>[(4,.ptr 0 0),(6,.ptr 1 0),(7,pI W)]) (fun W=>[zq7,.box 125 [pT a1,.p (.sl (zF .i64 a2))]]) (nD n a1 a2) (r:=r) ?_ ?_
  ·intro W h
   unfold nD at h;obtain rfl:=sj h;conv=>whnf
   try exact fin
  conv=>whnf
  apply ifc h<;>intro d h
  ·conv=>whnf
   refine bq h fun c3 a6 h=>⟨_,(cD n _ _ _ _ a6),?_⟩;conv=>whnf
   exact⟨c3,h,wk [2,3] []⟩
  conv=>whnf
  exact⟨c2,h,wk [2,3] []⟩
 conv=>whnf
 apply ifc h<;>intro d h
 ·conv=>whnf
  refine⟨Codec.one zX [qe.mk o q (Val.mk s t e f g i) j k],qe.rows [qe.mk o q (Val.mk s t e f g i) j k],.inl rfl,?_⟩;conv=>whnf
  refine bq h fun c4 b7 h=>⟨_,(cD n _ _ _ _ b7),?_⟩;conv=>whnf
  refine cY.cut (S:=Int) (fun X=>[(2,.ptr 0 0),(3,.ptr 1 0),(4,.ptr 2 0),(8,pI X)]) (fun X=>[.box 125 [pT a,.p (.sl (zF .i64 b))],.box 54 [pI c,pP v,pE E,pI o,pS q,pI s,pB t,pI e,pS f,pV g,pT i,pT j,pE k,pS u,pA w,pB x,pO y,pE z,pE A,pU l,pT m,pB C],zq7]) (nE n a b u) (r:=r) ?_ ?_
  ·intro X h
   unfold nE at h;conv=>whnf
   refine bq h fun⟨_,_⟩ b5 h=>⟨_,(pr n _ _ _ _ b5),?_⟩;obtain rfl:=sj h;conv=>whnf
   try exact fin
  conv=>whnf
  refine⟨id,?_⟩;conv=>whnf
  refine⟨id,id,?_⟩;conv=>whnf
  refine bq h fun _ b6 h=>⟨_,fun V=>(vw n _ _ _ (qa b6 V)),?_⟩;conv=>whnf
  refine⟨id,id,?_⟩;conv=>whnf
  apply ifc h<;>intro d h
  ·conv=>whnf
   exact⟨(2:Int),h,wk [0,1,2] []⟩
  conv=>whnf
  exact⟨c4,h,wk [0,1,2] []⟩
 conv=>whnf
 apply ifc h<;>intro d h
 ·conv=>whnf
  refine bq h fun⟨⟨_,_⟩,_⟩ b8 h=>⟨_,(Vd n _ _ _ _ b8),?_⟩;obtain rfl:=sj h;conv=>whnf
  try exact fin
 conv=>whnf
 apply ifc h<;>intro d h
 ·conv=>whnf
  refine bq h fun⟨_,_⟩ a7 h=>⟨_,Codec.at_ pb a7,?_⟩;conv=>whnf
  refine bq h fun⟨_,_,_,_⟩ c1 h=>⟨_,Codec.at_ gO c1,?_⟩;conv=>whnf
  refine cY.cut (S:=Unit) (fun _=>[(2,.ptr 0 0),(3,.ptr 1 0),(4,.ptr 2 0)]) (fun _=>[.box 125 [pT a,.p (.sl (zF .i64 b))],.box 54 [pI c,pP v,pE E,pI o,pS q,pI s,pB t,pI e,pS f,pV g,pT i,pT j,pE k,pS u,pA w,pB x,pO y,pE z,pE A,pU l,pT m,pB C],zq7]) (tu n a b v) (r:=r) ?_ ?_
  ·intro _ h
   unfold tu at h;conv=>whnf
   refine bq h fun⟨⟨_,_⟩,_⟩ b9 h=>⟨_,(Vd n _ _ _ _ b9),?_⟩;obtain rfl:=sj h;conv=>whnf
   try exact fin
  conv=>whnf
  refine⟨id,?_⟩;conv=>whnf
  refine⟨id,?_⟩;conv=>whnf
  refine bq h fun _ c0 h=>⟨_,fun V=>(vw n _ _ _ (qa c0 V)),?_⟩;conv=>whnf
  refine⟨id,id,?_⟩;conv=>whnf
  apply ifc h<;>intro d h
  ·obtain rfl:=sj h
   conv=>whnf
   try exact fin
  conv=>whnf
  exact⟨(),h,wk [0,1,2] []⟩
 conv=>whnf
 refine cY.cut (S:=Bool) (fun Y=>[(2,.ptr 0 0),(3,.ptr 1 0),(4,.ptr 2 0),(17,pI c),(89,pB Y)]) (fun Y=>[.box 125 [pT a,.p (.sl (zF .i64 b))],.box 54 [pI c,pP v,pE E,pI o,pS q,pI s,pB t,pI e,pS f,pV g,pT i,pT j,pE k,pS u,pA w,pB x,pO y,pE z,pE A,pU l,pT m,pB C],zq7]) (nF n l a b c m v E o q s t e f g i j k u w x y z A C) (r:=r) ?_ ?_
 ·intro Y h
  unfold nF at h;conv=>whnf
  apply ifc h<;>intro d h
  ·conv=>whnf
   refine qX.fn [1000001,1000000] (S:=Int) (fun D=>[(2,.ptr 0 0),(3,.ptr 1 0),(4,.ptr 2 0),(10,pI D)]) (fun D=>[.box 125 [pT a,.p (.sl (zF .i64 b))],.box 54 [pI c,pP v,pE E,pI o,pS q,pI s,pB t,pI e,pS f,pV g,pT i,pT j,pE k,pS u,pA w,pB x,pO y,pE z,pE A,pU l,pT m,pB C],zq7]) (B:=fL n l a b c) h (wk [0,1,2] []) ?_;intro T D h;unfold fL at h;conv=>whnf
   refine cY.cut (S:=Unit) (fun _=>[(2,.ptr 0 0),(3,.ptr 1 0),(4,.ptr 2 0),(10,pI D)]) (fun _=>[.box 125 [pT a,.p (.sl (zF .i64 b))],.box 54 [pI c,pP v,pE E,pI o,pS q,pI s,pB t,pI e,pS f,pV g,pT i,pT j,pE k,pS u,pA w,pB x,pO y,pE z,pE A,pU l,pT m,pB C],zq7]) (sm n l D a b c T) (r:=r) ?_ ?_
   ·intro _ h
    unfold sm at h;(conv=>whnf);refine cY.cut (S:=Unit) (fun _=>[(2,.ptr 0 0),(3,.ptr 1 0),(4,.ptr 2 0),(10,pI D)]) (fun _=>[.box 125 [pT a,.p (.sl (zF .i64 b))],.box 54 [pI c,pP v,pE E,pI o,pS q,pI s,pB t,pI e,pS f,pV g,pT i,pT j,pE k,pS u,pA w,pB x,pO y,pE z,pE A,pU l,pT m,pB C],zq7]) (bZ n T D) (r:=r) ?_ ?_
    ·intro _ h
     unfold bZ at h;(conv=>whnf);exact⟨(kwr .i64 (D+1)),h,wk [0,1,2] []⟩
    (conv=>whnf);refine bq h fun⟨a3,U,Z,⟨G,H,⟨I,J,K,L,M,N⟩,O,P⟩⟩ b0 h=>?_
    refine⟨_,Codec.at_ nr b0,?_⟩;(conv=>whnf);refine bq h fun a4 a9 h=>⟨_,(vw n _ _ _ a9),?_⟩;(conv=>whnf);refine cY.cut (S:=Unit) (fun _=>[(2,.ptr 0 0),(3,.ptr 1 0),(4,.ptr 2 0),(10,pI D),(11,.ptr 3 0),(12,pI a4)]) (fun _=>[.box 125 [pT a,.p (.sl (zF .i64 b))],.box 54 [pI c,pP v,pE E,pI o,pS q,pI s,pB t,pI e,pS f,pV g,pT i,pT j,pE k,pS u,pA w,pB x,pO y,pE z,pE A,pU l,pT m,pB C],zq7,.box 70 [pS a3,pS U,pS Z,pI G,pS H,pI I,pB J,pI K,pS L,pV M,pT N,pT O,pE P]]) (sn n a4 Z a b c U G H I J K L M N O P T D) (r:=r) ?_ ?_
    ·intro _ h
     unfold sn at h;(conv=>whnf);refine cY.cut (S:=Unit) (fun _=>[(2,.ptr 0 0),(3,.ptr 1 0),(4,.ptr 2 0),(10,pI D),(11,.ptr 3 0)]) (fun _=>[.box 125 [pT a,.p (.sl (zF .i64 b))],.box 54 [pI c,pP v,pE E,pI o,pS q,pI s,pB t,pI e,pS f,pV g,pT i,pT j,pE k,pS u,pA w,pB x,pO y,pE z,pE A,pU l,pT m,pB C],zq7,.box 70 [pS a3,pS U,pS Z,pI G,pS H,pI I,pB J,pI K,pS L,pV M,pT N,pT O,pE P]]) (so n c U a b G H I J K L M N O P T D) (r:=r) ?_ ?_
     ·intro _ h
      unfold so at h;(conv=>whnf);refine⟨id,id,id,?_⟩;(conv=>whnf);apply ifc h<;>intro d h
      ·conv=>whnf
       refine⟨Codec.one zX [qe.mk G H (Val.mk I J K L M N) O P],qe.rows [qe.mk G H (Val.mk I J K L M N) O P],.inl rfl,?_⟩;(conv=>whnf);refine bq h fun _ a8 h=>⟨_,(cD n _ _ _ _ a8),?_⟩;(conv=>whnf);apply ifc h<;>intro d h
       ·obtain rfl:=sj h
        conv=>whnf
        try exact fin
       (conv=>whnf);exact⟨(),h,wk [0,1,2] []⟩
      (conv=>whnf);exact⟨(),h,wk [0,1,2] []⟩
     (conv=>whnf);refine⟨id,?_⟩
     conv=>whnf
     iterate 6 refine⟨id,?_⟩
     (conv=>whnf);apply ifc h<;>intro d h
     ·obtain rfl:=sj h
      conv=>whnf
      try exact fin
     (conv=>whnf);exact⟨(),h,wk [0,1,2,3] []⟩
    (conv=>whnf);apply ifc h<;>intro d h
    ·obtain rfl:=sj h
     conv=>whnf
     try exact fin
    (conv=>whnf);exact⟨(),h,wk [0,1,2,3] []⟩
   conv=>whnf
   apply ifc h<;>intro d h
   ·conv=>whnf
    exact⟨(),h,wk [0,1,2] []⟩
   obtain rfl:=sj h;conv=>whnf
   try exact fin
  conv=>whnf
  apply ifc h<;>intro d h
  ·conv=>whnf
   refine qX.fn [1000001,1000000] (S:=Int) (fun F=>[(2,.ptr 0 0),(3,.ptr 1 0),(4,.ptr 2 0),(14,pI F)]) (fun F=>[.box 125 [pT a,.p (.sl (zF .i64 b))],.box 54 [pI c,pP v,pE E,pI o,pS q,pI s,pB t,pI e,pS f,pV g,pT i,pT j,pE k,pS u,pA w,pB x,pO y,pE z,pE A,pU l,pT m,pB C],zq7]) (B:=fM n m a b) h (wk [0,1,2] []) ?_;intro a0 F h;unfold fM at h;conv=>whnf
   refine cY.cut (S:=Unit) (fun _=>[(2,.ptr 0 0),(3,.ptr 1 0),(4,.ptr 2 0),(14,pI F)]) (fun _=>[.box 125 [pT a,.p (.sl (zF .i64 b))],.box 54 [pI c,pP v,pE E,pI o,pS q,pI s,pB t,pI e,pS f,pV g,pT i,pT j,pE k,pS u,pA w,pB x,pO y,pE z,pE A,pU l,pT m,pB C],zq7]) (su n m F a b a0) (r:=r) ?_ ?_
   ·intro _ h
    unfold su at h;(conv=>whnf);refine bq h fun _ b2 h=>⟨_,Codec.at_ cc b2,?_⟩;(conv=>whnf);refine bq h fun a5 b1 h=>⟨_,(vw n _ _ _ b1),?_⟩;(conv=>whnf);refine cY.cut (S:=Unit) (fun _=>[(2,.ptr 0 0),(3,.ptr 1 0),(4,.ptr 2 0),(14,pI F),(15,pI a5)]) (fun _=>[.box 125 [pT a,.p (.sl (zF .i64 b))],.box 54 [pI c,pP v,pE E,pI o,pS q,pI s,pB t,pI e,pS f,pV g,pT i,pT j,pE k,pS u,pA w,pB x,pO y,pE z,pE A,pU l,pT m,pB C],zq7]) (sv n a5 a b a0 F) (r:=r) ?_ ?_
    ·intro _ h
     unfold sv at h;(conv=>whnf);apply ifc h<;>intro d h
     ·obtain rfl:=sj h
      conv=>whnf
      try exact fin
     (conv=>whnf);exact⟨(kwr .i64 (F+1)),h,wk [0,1,2] []⟩
    (conv=>whnf);apply ifc h<;>intro d h
    ·obtain rfl:=sj h
     conv=>whnf
     try exact fin
    (conv=>whnf);exact⟨(),h,wk [0,1,2] []⟩
   conv=>whnf
   apply ifc h<;>intro d h
   ·conv=>whnf
    exact⟨(),h,wk [0,1,2] []⟩
   obtain rfl:=sj h;conv=>whnf
   try exact fin
  conv=>whnf
  refine bq h fun⟨⟨_,_⟩,_⟩ b3 h=>⟨_,(Sz n _ _ _ b3),?_⟩;obtain rfl:=sj h;conv=>whnf
  try exact fin
 conv=>whnf
 apply ifc h<;>intro d h
 ·conv=>whnf
  exact⟨(c==6),h,wk [0,1,2] []⟩
 conv=>whnf
 exact⟨(c==7),h,wk [0,1,2] []⟩
abbrev SX (r:List SS×List Int×Int):PV:=PV.tup [PV.sl (qi r.1),PV.sl (zF .i64 r.2.1),PV.int .i64 r.2.2]
def dq (n:Nat) (t:Int) (f:List qd):LK (Int×List SS×List Int) (List SS×List Int×Int):=fun e (a,c,d)=>
 bif(decide (a<t))then(
 bnd (idx f a) fun⟨F,G,H,⟨g,i,⟨j,k,l,m,o,p⟩,q,s⟩,u,v,w,x,y,z,A,B,C⟩=>
 bnd (QH n (qQ.mk c d) (qd.mk F G H (qe.mk g i (Val.mk j k l m o p) q s) u v w x y z A B C)) fun⟨⟨D,E⟩,b⟩=>
 bif(b != 0)then(
 some (([]:List SS),([]:List Int),b))
 else(
 e ((kwr .i64 (a+1)),D,E)))
 else(
 some (c,d,(0:Int)))
def sI (n:Nat) (c:bu) (b:Int):Option (List SS×List Int×Int):=
 match c with
 | ⟨a⟩=>
 bnd (QF n (bu.mk a)) fun d=>
 bif(bif(bif(!d)then true else(decide (b<0)))then true else(decide (b>((qd.rows a).length:Int))))then(
 some (([]:List SS),([]:List Int),(20:Int)))
 else(
 qo (dq n b a) n ((0:Int),([]:List _),([]:List _)))
theorem Cr (n:Nat):∀ (b:bu) (a:Int) (r:List SS×List Int×Int),sI n b a=some r->qb TP 31 [PV.agg (Cn.cells b),PV.int .i64 a] (SX r):=by
 intro b a r h;obtain⟨g⟩:=b;unfold sI at h;refine zN Tryz.call31 Tryz.func31 [40000007,1000000] ?_;conv=>whnf
 refine bq h fun _ k h=>⟨_,(Ge n _ _ k),?_⟩;conv=>whnf
 iterate 7 refine⟨id,?_⟩
 conv=>whnf
 apply ifc h<;>intro f h
 ·obtain rfl:=sj h
  conv=>whnf
  try exact fin
 conv=>whnf
 refine qX.fn [40000007,1000000] (S:=Int×List SS×List Int) (fun(c,d,e)=>[(1,pI a),(2,.ptr 0 0),(7,.ptr 1 0),(8,pI c)]) (fun(c,d,e)=>[.box 24 [pC g],.box 125 [pT d,.p (.sl (zF .i64 e))]]) (B:=dq n a g) h (wk [0,1] []) ?_;intro _ st h;obtain⟨c,d,e⟩:=st;unfold dq at h;conv=>whnf
 apply ifc h<;>intro f h
 ·conv=>whnf
  refine bq h fun⟨_,_,_,⟨_,_,⟨_,_,_,_,_,_⟩,_,_⟩,_,_,_,_,_,_,_,_,_⟩ j h=>⟨_,Codec.at_ xN j,?_⟩;conv=>whnf
  refine bq h fun⟨⟨l,m⟩,_⟩ i h=>⟨_,(Mj n _ _ _ i),?_⟩;conv=>whnf
  apply ifc h<;>intro f h
  ·obtain rfl:=sj h
   conv=>whnf
   try exact fin
  conv=>whnf
  exact⟨((kwr .i64 (c+1)),l,m),h,wk [0,1] []⟩
 obtain rfl:=sj h;conv=>whnf
 try exact fin
abbrev SW (r:List SS×Int):PV:=PV.tup [PV.sl (qi r.1),PV.int .i64 r.2]
def ZV (n:Nat) (c:bu):Option (List SS×Int):=
 match c with
 | ⟨a⟩=>
 bnd (sI n (bu.mk a) ((qd.rows a).length:Int)) fun⟨d,_,b⟩=>
 bnd (qD (!(b != 0)) (idx a (kwr .i64 (((qd.rows a).length:Int) - 1)))) fun⟨e,_,_,⟨_,_,⟨_,_,_,_,_,_⟩,_,_⟩,_,_,_,_,_,_,_,_,_⟩=>
 bif(bif(b != 0)then true else(e != 9))then(
 some (([]:List SS),b))
 else(
 some (d,(0:Int)))
theorem PB (n:Nat):∀ (a:bu) (r:List SS×Int),ZV n a=some r->qb TP 30 [PV.agg (Cn.cells a)] (SW r):=by
 intro a r h;obtain⟨_⟩:=a;unfold ZV at h;refine zN Tryz.call30 Tryz.func30 [1000000] ?_;conv=>whnf
 refine bq h fun⟨_,_,_⟩ c h=>⟨_,(Cr n _ _ _ c),?_⟩;conv=>whnf
 iterate 6 refine⟨id,?_⟩
 conv=>whnf
 refine bq h fun⟨_,_,_,⟨_,_,⟨_,_,_,_,_,_⟩,_,_⟩,_,_,_,_,_,_,_,_,_⟩ b h=>⟨_,fun d=>Codec.at_ xN (qa b d),?_⟩;conv=>whnf
 refine⟨id,id,id,id,?_⟩;conv=>whnf
 apply ifc h<;>intro _ h
 ·obtain rfl:=sj h
  conv=>whnf
  try exact fin
 obtain rfl:=sj h;conv=>whnf
 try exact fin
abbrev iM (r:Bool):PV:=PV.bool r
def tW (n:Nat) (a:SS) (b:Int):Option (Bool):=
 bnd (qD (decide (b<((a.length:Nat):Int))) (idx a b)) fun c=>
 bnd (qD (bif(decide (b<((a.length:Nat):Int)))then(decide (((c.toNat:Nat):Int)≥128))else false) (idx a b)) fun d=>
 some (bif(bif(decide (b<((a.length:Nat):Int)))then(decide (((c.toNat:Nat):Int)≥128))else false)then(decide (((d.toNat:Nat):Int)<192))else false)
theorem Ub (n:Nat):∀ (b:SS) (c:Int) (r:Bool),tW n b c=some r->qb TP 248 [PV.str b,PV.int .i64 c] (iM r):=by
 intro b c r h;unfold tW at h;refine zN Tryz.call248 Tryz.func248 [1000000] ?_;conv=>whnf
 refine⟨id,id,?_⟩;conv=>whnf
 refine bq h fun _ e h=>⟨_,fun a=>bX (qa e a),?_⟩;conv=>whnf
 refine⟨id,id,id,id,?_⟩;conv=>whnf
 refine bq h fun _ d h=>⟨_,fun a=>bX (qa d a),?_⟩;conv=>whnf
 refine⟨id,id,?_⟩;obtain rfl:=sj h;conv=>whnf
 try exact fin
abbrev iL (r:Int):PV:=PV.int .i64 r
def Vk (n:Nat) (b:SS) (c:Int):Option (Int):=
 bif(decide (c≥((b.length:Nat):Int)))then(
 some (0:Int))
 else(
 bnd (idx b c) fun a=>
 bif(decide (((a.toNat:Nat):Int)<128))then(
 some (1:Int))
 else(
 bnd (qD (!(bif(decide (((a.toNat:Nat):Int)<194))then true else(decide (((a.toNat:Nat):Int)>244)))) (tW n b (kwr .i64 (c+1)))) fun e=>
 bif(bif(bif(decide (((a.toNat:Nat):Int)<194))then true else(decide (((a.toNat:Nat):Int)>244)))then true else(!e))then(
 some (0:Int))
 else(
 bif(decide (((a.toNat:Nat):Int)<224))then(
 some (2:Int))
 else(
 bnd (idx b (kwr .i64 (c+1))) fun d=>
 bnd (tW n b (kwr .i64 (c+2))) fun f=>
 bif(bif(bif(!f)then true else(bif(((a.toNat:Nat):Int)==224)then(decide (((d.toNat:Nat):Int)<160))else false))then true else(bif(((a.toNat:Nat):Int)==237)then(decide (((d.toNat:Nat):Int)≥160))else false))then(
 some (0:Int))
 else(
 bif(decide (((a.toNat:Nat):Int)<240))then(
 some (3:Int))
 else(
 bnd (tW n b (kwr .i64 (c+3))) fun g=>
 bif(bif(bif(!g)then true else(bif(((a.toNat:Nat):Int)==240)then(decide (((d.toNat:Nat):Int)<144))else false))then true else(bif(((a.toNat:Nat):Int)==244)then(decide (((d.toNat:Nat):Int)≥144))else false))then(
 some (0:Int))
 else(
 some (4:Int))))))))
theorem Sn (n:Nat):∀ (b:SS) (c r:Int),Vk n b c=some r->qb TP 216 [PV.str b,PV.int .i64 c] (iL r):=by
 intro b c r h;unfold Vk at h;refine zN Tryz.call216 Tryz.func216 [1000000] ?_;conv=>whnf
 apply ifc h<;>intro a h
 ·obtain rfl:=sj h
  conv=>whnf
  try exact fin
 conv=>whnf
 refine bq h fun _ i h=>⟨_,bX i,?_⟩;conv=>whnf
 apply ifc h<;>intro a h
 ·obtain rfl:=sj h
  conv=>whnf
  try exact fin
 conv=>whnf
 refine⟨id,id,id,id,id,?_⟩;conv=>whnf
 refine bq h fun _ g h=>⟨_,fun j=>(Ub n _ _ _ (qa g j)),?_⟩;conv=>whnf
 refine⟨id,id,?_⟩;conv=>whnf
 apply ifc h<;>intro a h
 ·obtain rfl:=sj h
  conv=>whnf
  try exact fin
 conv=>whnf
 apply ifc h<;>intro a h
 ·obtain rfl:=sj h
  conv=>whnf
  try exact fin
 conv=>whnf
 refine bq h fun _ f h=>⟨_,bX f,?_⟩;conv=>whnf
 refine bq h fun _ e h=>⟨_,(Ub n _ _ _ e),?_⟩;conv=>whnf
 iterate 12 refine⟨id,?_⟩
 conv=>whnf
 apply ifc h<;>intro a h
 ·obtain rfl:=sj h
  conv=>whnf
  try exact fin
 conv=>whnf
 apply ifc h<;>intro a h
 ·obtain rfl:=sj h
  conv=>whnf
  try exact fin
 conv=>whnf
 refine bq h fun _ d h=>⟨_,(Ub n _ _ _ d),?_⟩;conv=>whnf
 iterate 12 refine⟨id,?_⟩
 conv=>whnf
 apply ifc h<;>intro a h
 ·obtain rfl:=sj h
  conv=>whnf
  try exact fin
 obtain rfl:=sj h;conv=>whnf
 try exact fin
abbrev eC (r:SS):PV:=PV.str r
def Vl (n:Nat) (a:Int):Option SS:=
 bnd (idx ([48,49,50,51,52,53,54,55,56,57,97,98,99,100,101,102]:SS) (kwr .u8 (Int.tdiv a (16:Int)))) fun b=>
 bnd (idx ([48,49,50,51,52,53,54,55,56,57,97,98,99,100,101,102]:SS) (Int.tmod a (16:Int))) fun c=>
 some [b,c]
theorem Hg (n:Nat):∀ (a:Int) (r:SS),Vl n a=some r->qb TP 244 [PV.int .u8 a] (eC r):=by
 intro a r h;unfold Vl at h;refine zN Tryz.call244 Tryz.func244 [1000000] ?_;conv=>whnf
 refine⟨by unfold gI; decide,?_⟩;conv=>whnf
 refine bq h fun b e h=>⟨_,bX e,?_⟩;conv=>whnf
 refine⟨by unfold gI; decide,?_⟩;conv=>whnf
 refine bq h fun c d h=>⟨_,bX d,?_⟩;conv=>whnf
 refine⟨Codec.one uN [b,c],qT [b,c],.inl rfl,?_⟩;conv=>whnf
 refine⟨_,rfl,?_⟩;obtain rfl:=sj h;conv=>whnf
 try exact fin
end W
end
