/- A part of the proof: contracts, printed by program. -/
import Derived.Test.YtlbjambmfdlniaaGreatC
import Derived.Test.YtlbjambmfdlniaaGreatD
import Derived.Test.YtlbjambmfdlniaaGreatE
set_option linter.unusedVariables false
set_option linter.unusedSimpArgs false
set_option linter.unnecessarySimpa false
set_option linter.deprecated false
set_option linter.unusedSectionVars false
set_option linter.constructorNameAsVariable false
open Go.IntKind renaming wrap->kwr,bits->kbt
section
set_option maxRecDepth 100000
set_option maxHeartbeats 20000000
open Go Go.Proofs Ax
namespace W
abbrev GG (r:Bool):PV:=PV.bool r
def mQ (n:Nat) (b:List SS) (e:SS) (d:List qb):LK (Int) (Bool):=fun c a=>
 bif(decide (a<((qy b).length:Int)))then(
 bnd (idx b a) fun f=>
 bnd (vh n f) fun g=>
 bif(!g)then(
 some false)
 else(
 c (kwr .i64 (a+1))))
 else(
 some (bif(e==([]:SS))then(((qb.rows d).length:Int)==((qy b).length:Int))else false))
def vU (n:Nat) (b:SS) (a:List qb) (c:Int):Bool->Option (Bool):=fun e=>
 bif e then(
 some (bif(b==([]:SS))then(((qb.rows a).length:Int)==1)else false))
 else(
 bif(c==10)then(
 bnd (qG (((qb.rows a).length:Int)==2) (tm n b)) fun f=>
 some (bif(((qb.rows a).length:Int)==2)then(decide (f>0))else false))
 else(
 bif(c==13)then(
 bnd (xW n b) fun d=>
 bnd (qG d (uw n b)) fun g=>
 some (bif d then(!g)else false))
 else(
 bif(c==14)then(
 bnd (qG (((qb.rows a).length:Int)==1) (uw n b)) fun i=>
 some (bif(bif(((qb.rows a).length:Int)==1)then i else false)then true else(bif(((qb.rows a).length:Int)==0)then(b==([99,111,117,110,116]:SS))else false)))
 else(
 some false))))
def cN (n:Nat) (b:List qb) (c:SS) (a:Int) (j:List SS):Bool->Option (Bool):=fun e=>
 bif e then(
 bnd (qG (((qb.rows b).length:Int)==0) (xW n c)) fun f=>
 some (bif(((qb.rows b).length:Int)==0)then f else false))
 else(
 bif(a==4)then(
 bnd (qG (((qb.rows b).length:Int)==1) (vh n c)) fun g=>
 some (bif(((qb.rows b).length:Int)==1)then g else false))
 else(
 bif(a==15)then(
 bnd (qG (((qb.rows b).length:Int)==1) (vh n c)) fun d=>
 bnd (qG (bif(((qb.rows b).length:Int)==1)then d else false) (idx b (0:Int))) fun⟨i,_,⟨_,_,_,_,_,_⟩,_,_⟩=>
 some (bif(bif(((qb.rows b).length:Int)==1)then d else false)then(i==2)else false))
 else(
 bif(a==5)then(
 some (c==([]:SS)))
 else(
 bif(a==6)then(
 qU (mQ n j c b) n (0:Int))
 else(
 bif(a==7)then(
 some (bif(c==([]:SS))then(((qb.rows b).length:Int)==2)else false))
 else(
 bif(a==8)then(
 vU n c b a (a==8))
 else(
 bif(a==9)then(
 vU n c b a (a==9))
 else(
 bif(a==11)then(
 vU n c b a (a==11))
 else(
 vU n c b a (a==12))))))))))
def tt (n:Nat) (g:qb):Option (Bool):=
 match g with
 | ⟨a,d,⟨b,j,e,k,l,m⟩,f,c⟩=>
 bif(a==1)then(
 bnd (qG (bif(d==([]:SS))then(((qb.rows c).length:Int)==0)else false) (cY n (Val.mk b j e k l m))) fun i=>
 some (bif(bif(bif(d==([]:SS))then(((qb.rows c).length:Int)==0)else false)then i else false)then(bif(bif(bif(b==0)then true else(b==1))then true else(bif(b==2)then(decide (e≥0))else false))then true else(b==3))else false))
 else(
 bif(a==2)then(
 cN n c d a f (a==2))
 else(
 cN n c d a f (a==3)))
theorem VR (n:Nat):∀ (g:qb) (r:Bool),tt n g=some r->qi TP 131 [PV.agg (zU.cells g)] (GG r):=by
 intro g r h;obtain⟨c,e,⟨l,m,o,q,s,t⟩,f,d⟩:=g;unfold tt at h;refine zN Tryz.call131 Tryz.func131 [1000000] ?_;conv=>whnf
 apply ifc h<;>intro a h
 ·conv=>whnf
  refine⟨id,id,id,?_⟩;conv=>whnf
  refine bq h fun _ u h=>⟨_,fun b=>(bV n _ _ (qa u b)),?_⟩;conv=>whnf
  iterate 24 refine⟨id,?_⟩
  obtain rfl:=sj h;conv=>whnf
  try exact Sk
 conv=>whnf
 refine nu.cut (S:=Bool) (fun j=>[(1,.ptr 0 0),(3,.p (.int .i64 ((qb.rows d).length:Int))),(4,.p (.bool (e==([]:SS)))),(14,pI c),(53,pB j)]) (fun j=>[.box 60 [pI c,pS e,pI l,pB m,pI o,pS q,pV s,pT t,pT f,pE d]]) (cN n d e c f) (r:=r) ?_ ?_
 ·intro j h
  unfold cN at h;conv=>whnf
  apply ifc h<;>intro a h
  ·conv=>whnf
   refine⟨id,id,?_⟩;conv=>whnf
   refine bq h fun _ x h=>⟨_,fun b=>(xq n _ _ (qa x b)),?_⟩;conv=>whnf
   refine⟨id,?_⟩;obtain rfl:=sj h;conv=>whnf
   try exact Sk
  conv=>whnf
  apply ifc h<;>intro a h
  ·conv=>whnf
   refine⟨id,id,?_⟩;conv=>whnf
   refine bq h fun _ y h=>⟨_,fun b=>(xg n _ _ (qa y b)),?_⟩;conv=>whnf
   refine⟨id,?_⟩;obtain rfl:=sj h;conv=>whnf
   try exact Sk
  conv=>whnf
  apply ifc h<;>intro a h
  ·conv=>whnf
   refine⟨id,id,?_⟩;conv=>whnf
   refine bq h fun _ A h=>⟨_,fun b=>(xg n _ _ (qa A b)),?_⟩;conv=>whnf
   refine⟨id,id,id,?_⟩;conv=>whnf
   refine bq h fun⟨_,_,⟨_,_,_,_,_,_⟩,_,_⟩ z h=>⟨_,fun b=>Codec.at_ zU (qa z b),?_⟩;conv=>whnf
   refine⟨id,id,id,id,?_⟩;obtain rfl:=sj h;conv=>whnf
   try exact Sk
  conv=>whnf
  apply ifc h<;>intro a h
  ·obtain rfl:=sj h
   conv=>whnf
   try exact Sk
  conv=>whnf
  apply ifc h<;>intro a h
  ·conv=>whnf
   refine zd.fn [1000000] (S:=Int) (fun i=>[(1,.ptr 0 0),(3,.p (.int .i64 ((qb.rows d).length:Int))),(4,.p (.bool (e==([]:SS)))),(6,pI i)]) (fun i=>[.box 60 [pI c,pS e,pI l,pB m,pI o,pS q,pV s,pT t,pT f,pE d]]) (B:=mQ n f e d) h (wk [0] []) ?_;intro _ i h;unfold mQ at h;conv=>whnf
   apply ifc h<;>intro a h
   ·conv=>whnf
    refine bq h fun _ D h=>⟨_,Codec.at_ rE D,?_⟩;(conv=>whnf);refine bq h fun _ C h=>⟨_,(xg n _ _ C),?_⟩;(conv=>whnf);apply ifc h<;>intro a h
    ·obtain rfl:=sj h
     conv=>whnf
     try exact Sk
    (conv=>whnf);exact⟨(kwr .i64 (i+1)),h,wk [0] []⟩
   conv=>whnf
   refine⟨id,id,id,id,id,?_⟩;obtain rfl:=sj h;conv=>whnf
   try exact Sk
  conv=>whnf
  apply ifc h<;>intro a h
  ·conv=>whnf
   refine⟨id,id,?_⟩;obtain rfl:=sj h;conv=>whnf
   try exact Sk
  conv=>whnf
  refine nu.cut (S:=Bool) (fun k=>[(1,.ptr 0 0),(3,.p (.int .i64 ((qb.rows d).length:Int))),(4,.p (.bool (e==([]:SS)))),(14,pI c),(123,pB k)]) (fun k=>[.box 60 [pI c,pS e,pI l,pB m,pI o,pS q,pV s,pT t,pT f,pE d]]) (vU n e d c) (r:=r) ?_ ?_
  ·intro k h
   unfold vU at h;conv=>whnf
   apply ifc h<;>intro a h
   ·conv=>whnf
    refine⟨id,id,?_⟩;obtain rfl:=sj h;conv=>whnf
    try exact Sk
   conv=>whnf
   apply ifc h<;>intro a h
   ·conv=>whnf
    refine⟨id,id,?_⟩;(conv=>whnf);refine bq h fun _ E h=>⟨_,fun b=>(VQ n _ _ (qa E b)),?_⟩;(conv=>whnf);refine⟨id,id,?_⟩;obtain rfl:=sj h;conv=>whnf
    try exact Sk
   conv=>whnf
   apply ifc h<;>intro a h
   ·conv=>whnf
    refine bq h fun _ v h=>⟨_,(xq n _ _ v),?_⟩;(conv=>whnf);refine⟨id,id,?_⟩;(conv=>whnf);refine bq h fun _ F h=>⟨_,fun b=>(fq n _ _ (qa F b)),?_⟩;(conv=>whnf);refine⟨id,id,?_⟩;obtain rfl:=sj h;conv=>whnf
    try exact Sk
   conv=>whnf
   apply ifc h<;>intro a h
   ·conv=>whnf
    refine⟨id,id,?_⟩;(conv=>whnf);refine bq h fun _ w h=>⟨_,fun b=>(fq n _ _ (qa w b)),?_⟩;conv=>whnf
    iterate 8 refine⟨id,?_⟩
    obtain rfl:=sj h;conv=>whnf
    try exact Sk
   obtain rfl:=sj h;conv=>whnf
   try exact Sk
  conv=>whnf
  apply ifc h<;>intro a h
  ·conv=>whnf
   exact⟨(c==8),h,wk [0] []⟩
  conv=>whnf
  apply ifc h<;>intro a h
  ·conv=>whnf
   exact⟨(c==9),h,wk [0] []⟩
  conv=>whnf
  apply ifc h<;>intro a h
  ·conv=>whnf
   exact⟨(c==11),h,wk [0] []⟩
  conv=>whnf
  exact⟨(c==12),h,wk [0] []⟩
 conv=>whnf
 apply ifc h<;>intro a h
 ·conv=>whnf
  exact⟨(c==2),h,wk [0] []⟩
 conv=>whnf
 exact⟨(c==3),h,wk [0] []⟩
abbrev mm (r:Bool):PV:=PV.bool r
def pz (n:Nat) (b:List qb) (g93:qb->Int->Option (Bool)) (d:Int):LK (Int) (Bool):=fun c a=>
 bif(decide (a<((qb.rows b).length:Int)))then(
 bnd (idx b a) fun⟨e,f,⟨g,i,j,k,l,m⟩,o,p⟩=>
 bnd (g93 (qb.mk e f (Val.mk g i j k l m) o p) (kwr .i64 (d - 1))) fun q=>
 bif(!q)then(
 some false)
 else(
 c (kwr .i64 (a+1))))
 else(
 some true)
def te (n:Nat) (g93:qb->Int->Option (Bool)) (m:qb) (b:Int):Option (Bool):=
 match m with
 | ⟨a,p,⟨e,f,g,i,j,k⟩,l,c⟩=>
 bnd (qG (!(decide (b<1))) (tt n (qb.mk a p (Val.mk e f g i j k) l c))) fun d=>
 bnd (qG ((!(bif(decide (b<1))then true else(!d)))&&(a != 1)) (uK n (Val.mk e f g i j k) (Val.mk (0:Int) false (0:Int) ([]:SS) ([]:List Val) ([]:List SS)))) fun o=>
 bif(bif(bif(bif(decide (b<1))then true else(!d))then true else(bif(a != 1)then(!o)else false))then true else(bif(a != 6)then(decide (((qy l).length:Int)>0))else false))then(
 some false)
 else(
 qU (pz n c g93 b) n (0:Int))
theorem VI (n:Nat) (g93:qb->Int->Option (Bool)) (g93_ok:∀ (b:qb) (a:Int) (r:Bool),g93 b a=some r->qi TP 93 [PV.agg (zU.cells b),PV.int .i64 a] (mm r)):∀ (b:qb) (a:Int) (r:Bool),te n g93 b a=some r->qi TP 93 [PV.agg (zU.cells b),PV.int .i64 a] (mm r):=by
 intro b a r h;obtain⟨l,m,⟨o,p,q,s,t,u⟩,v,f⟩:=b;unfold te at h;refine zN Tryz.call93 Tryz.func93 [1000000] ?_;conv=>whnf
 refine⟨id,?_⟩;conv=>whnf
 refine bq h fun _ k h=>⟨_,fun d=>(VR n _ _ (qa k d)),?_⟩;conv=>whnf
 iterate 8 refine⟨id,?_⟩
 conv=>whnf
 refine bq h fun _ j h=>⟨_,fun d=>(qi.leArgs (po n _ _ _ (qa j d)) (by try exact Sk)),?_⟩;conv=>whnf
 iterate 13 refine⟨id,?_⟩
 conv=>whnf
 apply ifc h<;>intro e h
 ·obtain rfl:=sj h
  conv=>whnf
  try exact Sk
 conv=>whnf
 refine zd.fn [1000000] (S:=Int) (fun c=>[(1,pI a),(2,.ptr 0 0),(5,pI c)]) (fun c=>[.box 60 [pI l,pS m,pI o,pB p,pI q,pS s,pV t,pT u,pT v,pE f]]) (B:=pz n f g93 a) h (wk [0] []) ?_;intro _ c h;unfold pz at h;conv=>whnf
 apply ifc h<;>intro e h
 ·conv=>whnf
  refine bq h fun⟨_,_,⟨_,_,_,_,_,_⟩,_,_⟩ i h=>⟨_,Codec.at_ zU i,?_⟩;conv=>whnf
  refine bq h fun _ g h=>⟨_,(g93_ok _ _ _ g),?_⟩;conv=>whnf
  apply ifc h<;>intro e h
  ·obtain rfl:=sj h
   conv=>whnf
   try exact Sk
  conv=>whnf
  exact⟨(kwr .i64 (c+1)),h,wk [0] []⟩
 obtain rfl:=sj h;conv=>whnf
 try exact Sk
def nI:Nat->qb->Int->Option (Bool)
 | 0=>fun _ _=>none
 | n+1=>te n (nI n)
theorem VO (n:Nat):(∀ (a:qb) (b:Int) (r:Bool),nI n a b=some r->qi TP 93 [PV.agg (zU.cells a),PV.int .i64 b] (mm r)):=by
 induction n with
 | zero=>exact(by intros; rename_i h; cases h)
 | succ n ih=>
  have hg93:=ih;exact VI n (nI n) hg93
theorem Gm (n:Nat):∀ (a:qb) (b:Int) (r:Bool),nI n a b=some r->qi TP 93 [PV.agg (zU.cells a),PV.int .i64 b] (mm r):=(VO n)
abbrev XJ (r:Bool):PV:=PV.bool r
def xP (n:Nat) (a:qb):Option (Bool):=
 match a with
 | ⟨b,e,⟨f,g,i,j,k,l⟩,m,c⟩=>
 bnd (nI n (qb.mk b e (Val.mk f g i j k l) m c) (32:Int)) fun d=>
 some d
theorem xN (n:Nat):∀ (a:qb) (r:Bool),xP n a=some r->qi TP 64 [PV.agg (zU.cells a)] (XJ r):=by
 intro a r h;obtain⟨_,_,⟨_,_,_,_,_,_⟩,_,_⟩:=a;unfold xP at h;refine zN Tryz.call64 Tryz.func64 [1000000] ?_;conv=>whnf
 refine bq h fun _ b h=>⟨_,(Gm n _ _ _ b),?_⟩;obtain rfl:=sj h;conv=>whnf
 try exact Sk
abbrev ZM (r:Bool):PV:=PV.bool r
def cd (n:Nat) (c:List SS) (m:List qb):LK (Int) (Bool):=fun d a=>
 bif(decide (a<((qy c).length:Int)))then(
 bnd (idx c a) fun o=>
 bnd (vh n o) fun b=>
 bnd (qG (!(!b)) (idx m a)) fun⟨p,q,⟨s,t,e,f,g,i⟩,j,k⟩=>
 bnd (qG (!(!b)) (xP n (qb.mk p q (Val.mk s t e f g i) j k))) fun l=>
 bif(bif(!b)then true else(!l))then(
 some false)
 else(
 d (kwr .i64 (a+1))))
 else(
 some true)
def cM (n:Nat) (a:List SS) (b:List qb):Option (Bool):=
 bif(((qy a).length:Int) != ((qb.rows b).length:Int))then(
 some false)
 else(
 qU (cd n a b) n (0:Int))
theorem nJ (n:Nat):∀ (a:List SS) (b:List qb) (r:Bool),cM n a b=some r->qi TP 42 [PV.sl (qy a),PV.sl (qb.rows b)] (ZM r):=by
 intro a b r h;unfold cM at h;refine zN Tryz.call42 Tryz.func42 [1000000] ?_;conv=>whnf
 apply ifc h<;>intro e h
 ·obtain rfl:=sj h
  conv=>whnf
  try exact Sk
 conv=>whnf
 refine zd.fn [1000000] (S:=Int) (fun c=>[(0,pT a),(1,pE b),(5,pI c)]) (fun c=>[]) (B:=cd n a b) h (wk [] []) ?_;intro _ c h;unfold cd at h;conv=>whnf
 apply ifc h<;>intro e h
 ·conv=>whnf
  refine bq h fun _ j h=>⟨_,Codec.at_ rE j,?_⟩;conv=>whnf
  refine bq h fun _ i h=>⟨_,(xg n _ _ i),?_⟩;conv=>whnf
  refine⟨id,id,?_⟩;conv=>whnf
  refine bq h fun⟨_,_,⟨_,_,_,_,_,_⟩,_,_⟩ g h=>⟨_,fun d=>Codec.at_ zU (qa g d),?_⟩;conv=>whnf
  refine⟨id,id,?_⟩;conv=>whnf
  refine bq h fun _ f h=>⟨_,fun d=>(xN n _ _ (qa f d)),?_⟩;conv=>whnf
  refine⟨id,id,?_⟩;conv=>whnf
  apply ifc h<;>intro e h
  ·obtain rfl:=sj h
   conv=>whnf
   try exact Sk
  conv=>whnf
  exact⟨(kwr .i64 (c+1)),h,wk [] []⟩
 obtain rfl:=sj h;conv=>whnf
 try exact Sk
abbrev XK (r:Bool):PV:=PV.bool r
def dq (n:Nat) (d:List SS) (a:SS) (k:List SS) (l:List qb) (e:Int->Option (Bool)) (j:Int):LK (Int) (Bool):=fun f b=>
 bif(decide (b<((qy d).length:Int)))then(
 bnd (idx d b) fun m=>
 bnd (vh n m) fun g=>
 bif(!g)then(
 some false)
 else(
 f (kwr .i64 (b+1))))
 else(
 bnd (qG (!(a==([]:SS))) (xW n a)) fun c=>
 bnd (qG (!(bif(!(a==([]:SS)))then(!c)else false)) (cM n k l)) fun i=>
 bif(bif(bif(!(a==([]:SS)))then(!c)else false)then true else(!i))then(
 some false)
 else(
 e (kwr .i64 (j+1))))
def ds (n:Nat) (f:List qh):LK (Int) (Bool):=fun i d=>
 bif(decide (d<((qh.rows f).length:Int)))then(
 bnd (idx f d) fun⟨a,b,c,j,k⟩=>
 bnd (qG (!(a==([]:SS))) (xW n a)) fun e=>
 bnd (qG ((!(bif(!(a==([]:SS)))then(!e)else false))&&(!(b==([]:SS)))) (vh n b)) fun g=>
 bnd (qG (!(bif(bif(bif(bif(!(a==([]:SS)))then(!e)else false)then true else(bif(!(b==([]:SS)))then(!g)else false))then true else(decide (c<0)))then true else(decide (c>2)))) (cM n j k)) fun l=>
 bif(bif(bif(bif(bif(bif(!(a==([]:SS)))then(!e)else false)then true else(bif(!(b==([]:SS)))then(!g)else false))then true else(decide (c<0)))then true else(decide (c>2)))then true else(!l))then(
 some false)
 else(
 i (kwr .i64 (d+1))))
 else(
 some true)
def dp (n:Nat) (b:List qd) (d:List qh):LK (Int) (Bool):=fun c a=>
 bif(decide (a<((qd.rows b).length:Int)))then(
 bnd (idx b a) fun⟨e,f,g,i⟩=>
 qU (dq n f e g i c a) n (0:Int))
 else(
 qU (ds n d) n (0:Int))
def uL (n:Nat) (c:zj):Option (Bool):=
 match c with
 | ⟨a,b⟩=>
 bif(((qd.rows a).length:Int) != (kwr .i64 (((qh.rows b).length:Int)+1)))then(
 some false)
 else(
 qU (dp n a b) n (0:Int))
theorem rH (n:Nat):∀ (e:zj) (r:Bool),uL n e=some r->qi TP 22 [PV.agg (rC.cells e)] (XK r):=by
 intro e r h;obtain⟨f,d⟩:=e;unfold uL at h;refine zN Tryz.call22 Tryz.func22 [1000000] ?_;conv=>whnf
 apply ifc h<;>intro b h
 ·obtain rfl:=sj h
  conv=>whnf
  try exact Sk
 conv=>whnf
 refine zd.fn [1000000] (S:=Int) (fun c=>[(1,.ptr 0 0),(3,pI c)]) (fun c=>[.box 49 [pN f,pG d]]) (B:=dp n f d) h (wk [0] []) ?_;intro y c h;unfold dp at h;conv=>whnf
 apply ifc h<;>intro b h
 ·conv=>whnf
  refine bq h fun⟨j,k,l,m⟩ t h=>⟨_,Codec.at_ vd t,?_⟩;conv=>whnf
  refine zd.fn [1000000] (S:=Int) (fun i=>[(1,.ptr 0 0),(3,pI c),(4,.ptr 1 0),(5,pI i)]) (fun i=>[.box 49 [pN f,pG d],.box 85 [pS j,pT k,pT l,pE m]]) (B:=dq n k j l m y c) h (wk [0,1] []) ?_;intro _ i h;unfold dq at h;conv=>whnf
  apply ifc h<;>intro b h
  ·conv=>whnf
   refine bq h fun _ p h=>⟨_,Codec.at_ rE p,?_⟩;conv=>whnf
   refine bq h fun _ o h=>⟨_,(xg n _ _ o),?_⟩;conv=>whnf
   apply ifc h<;>intro b h
   ·obtain rfl:=sj h
    conv=>whnf
    try exact Sk
   conv=>whnf
   exact⟨(kwr .i64 (i+1)),h,wk [0,1] []⟩
  conv=>whnf
  refine⟨id,id,?_⟩;conv=>whnf
  refine bq h fun _ s h=>⟨_,fun a=>(xq n _ _ (qa s a)),?_⟩;conv=>whnf
  iterate 6 refine⟨id,?_⟩
  conv=>whnf
  refine bq h fun _ q h=>⟨_,fun a=>(nJ n _ _ _ (qa q a)),?_⟩;conv=>whnf
  refine⟨id,id,?_⟩;conv=>whnf
  apply ifc h<;>intro b h
  ·obtain rfl:=sj h
   conv=>whnf
   try exact Sk
  conv=>whnf
  exact⟨(kwr .i64 (c+1)),h,wk [0] []⟩
 conv=>whnf
 refine zd.fn [1000000] (S:=Int) (fun g=>[(1,.ptr 0 0),(6,pI g)]) (fun g=>[.box 49 [pN f,pG d]]) (B:=ds n d) h (wk [0] []) ?_;intro _ g h;unfold ds at h;conv=>whnf
 apply ifc h<;>intro b h
 ·conv=>whnf
  refine bq h fun⟨_,_,_,_,_⟩ x h=>⟨_,Codec.at_ fP x,?_⟩;conv=>whnf
  refine⟨id,id,?_⟩;conv=>whnf
  refine bq h fun _ w h=>⟨_,fun a=>(xq n _ _ (qa w a)),?_⟩;conv=>whnf
  iterate 7 refine⟨id,?_⟩
  conv=>whnf
  refine bq h fun _ v h=>⟨_,fun a=>(xg n _ _ (qa v a)),?_⟩;conv=>whnf
  iterate 14 refine⟨id,?_⟩
  conv=>whnf
  refine bq h fun _ u h=>⟨_,fun a=>(nJ n _ _ _ (qa u a)),?_⟩;conv=>whnf
  refine⟨id,id,?_⟩;conv=>whnf
  apply ifc h<;>intro b h
  ·obtain rfl:=sj h
   conv=>whnf
   try exact Sk
  conv=>whnf
  exact⟨(kwr .i64 (g+1)),h,wk [0] []⟩
 obtain rfl:=sj h;conv=>whnf
 try exact Sk
abbrev GF (r:Bool):PV:=PV.bool r
def mP (n:Nat) (a:List qb) (j:Int):LK (Int) (Bool):=fun c b=>
 bif(decide (b<((qb.rows a).length:Int)))then(
 bnd (idx a b) fun⟨k,l,⟨m,o,p,q,d,e⟩,f,g⟩=>
 bnd (xP n (qb.mk k l (Val.mk m o p q d e) f g)) fun i=>
 bif(!i)then(
 some false)
 else(
 c (kwr .i64 (b+1))))
 else(
 some (decide (((qb.rows a).length:Int)<=j)))
def cb (n:Nat) (a:List qb) (b:Int):Option (Bool):=
 qU (mP n a b) n (0:Int)
theorem cL (n:Nat):∀ (a:List qb) (b:Int) (r:Bool),cb n a b=some r->qi TP 128 [PV.sl (qb.rows a),PV.int .i64 b] (GF r):=by
 intro a b r h;unfold cb at h;refine zN Tryz.call128 Tryz.func128 [1000000] ?_;conv=>whnf
 refine zd.fn [1000000] (S:=Int) (fun c=>[(0,pE a),(1,pI b),(5,pI c)]) (fun c=>[]) (B:=mP n a b) h (wk [] []) ?_;intro _ c h;unfold mP at h;conv=>whnf
 apply ifc h<;>intro f h
 ·conv=>whnf
  refine bq h fun⟨_,_,⟨_,_,_,_,_,_⟩,_,_⟩ e h=>⟨_,Codec.at_ zU e,?_⟩;conv=>whnf
  refine bq h fun _ d h=>⟨_,(xN n _ _ d),?_⟩;conv=>whnf
  apply ifc h<;>intro f h
  ·obtain rfl:=sj h
   conv=>whnf
   try exact Sk
  conv=>whnf
  exact⟨(kwr .i64 (c+1)),h,wk [] []⟩
 obtain rfl:=sj h;conv=>whnf
 try exact Sk
abbrev FU (r:Bool):PV:=PV.bool r
def pF (n:Nat) (c:List za) (a:List zx) (f g:List qb):LK (Int) (Bool):=fun e b=>
 bif(decide (b<((za.rows c).length:Int)))then(
 bnd (idx c b) fun⟨⟨i,j,⟨k,l,m,o,p,q⟩,s,t⟩,_⟩=>
 bnd (xP n (qb.mk i j (Val.mk k l m o p q) s t)) fun u=>
 bif(!u)then(
 some false)
 else(
 e (kwr .i64 (b+1))))
 else(
 bnd (qG (decide (((zx.rows a).length:Int)>0)) (cb n f (1:Int))) fun d=>
 bnd (qG (bif(decide (((zx.rows a).length:Int)>0))then d else false) (cb n g (1:Int))) fun v=>
 some (bif(bif(decide (((zx.rows a).length:Int)>0))then d else false)then v else false))
def pD (n:Nat) (a:List zx) (e:List za) (f g:List qb):LK (Int) (Bool):=fun d b=>
 bif(decide (b<((zx.rows a).length:Int)))then(
 bnd (idx a b) fun⟨⟨_,_,⟨_,_,_,_,_,_⟩,_,_⟩,i⟩=>
 bnd (xW n i) fun c=>
 bnd (qG (!(!c)) (idx a b)) fun⟨⟨j,k,⟨l,m,o,p,q,s⟩,t,u⟩,_⟩=>
 bnd (qG (!(!c)) (xP n (qb.mk j k (Val.mk l m o p q s) t u))) fun v=>
 bif(bif(!c)then true else(!v))then(
 some false)
 else(
 d (kwr .i64 (b+1))))
 else(
 qU (pF n e a f g) n (0:Int))
def Qy (n:Nat) (a:qt):Option (Bool):=
 match a with
 | ⟨_,_,_,⟨_,_,⟨_,_,_,_,_,_⟩,_,_⟩,_,b,_,c,d,e,_,_,_⟩=>
 qU (pD n b c d e) n (0:Int)
theorem Gn (n:Nat):∀ (b:qt) (r:Bool),Qy n b=some r->qi TP 129 [PV.agg (ub.cells b)] (FU r):=by
 intro b r h;obtain⟨k,t,x,⟨y,z,⟨A,C,D,E,l,m⟩,o,p⟩,q,c,s,d,e,f,u,v,w⟩:=b;unfold Qy at h;refine zN Tryz.call129 Tryz.func129 [1000000] ?_;conv=>whnf
 refine zd.fn [1000000] (S:=Int) (fun g=>[(1,.ptr 0 0),(3,pI g)]) (fun g=>[.box 65 [pI k,pP t,pE x,pI y,pS z,pI A,pB C,pI D,pS E,pV l,pT m,pT o,pE p,pS q,pA c,pB s,pO d,pE e,pE f,pU u,pT v,pB w]]) (B:=pD n c d e f) h (wk [0] []) ?_;intro _ g h;unfold pD at h;conv=>whnf
 apply ifc h<;>intro j h
 ·conv=>whnf
  refine bq h fun⟨⟨_,_,⟨_,_,_,_,_,_⟩,_,_⟩,_⟩ I h=>⟨_,Codec.at_ Uu I,?_⟩;conv=>whnf
  refine bq h fun _ H h=>⟨_,(xq n _ _ H),?_⟩;conv=>whnf
  refine⟨id,id,id,?_⟩;conv=>whnf
  refine bq h fun⟨⟨_,_,⟨_,_,_,_,_,_⟩,_,_⟩,_⟩ G h=>⟨_,fun a=>Codec.at_ Uu (qa G a),?_⟩;conv=>whnf
  refine⟨id,id,id,?_⟩;conv=>whnf
  refine bq h fun _ F h=>⟨_,fun a=>(xN n _ _ (qa F a)),?_⟩;conv=>whnf
  refine⟨id,id,?_⟩;conv=>whnf
  apply ifc h<;>intro j h
  ·obtain rfl:=sj h
   conv=>whnf
   try exact Sk
  conv=>whnf
  exact⟨(kwr .i64 (g+1)),h,wk [0] []⟩
 conv=>whnf
 refine zd.fn [1000000] (S:=Int) (fun i=>[(1,.ptr 0 0),(4,pI i)]) (fun i=>[.box 65 [pI k,pP t,pE x,pI y,pS z,pI A,pB C,pI D,pS E,pV l,pT m,pT o,pE p,pS q,pA c,pB s,pO d,pE e,pE f,pU u,pT v,pB w]]) (B:=pF n d c e f) h (wk [0] []) ?_;intro _ i h;unfold pF at h;conv=>whnf
 apply ifc h<;>intro j h
 ·conv=>whnf
  refine bq h fun⟨⟨_,_,⟨_,_,_,_,_,_⟩,_,_⟩,_⟩ K h=>⟨_,Codec.at_ Qg K,?_⟩;conv=>whnf
  refine bq h fun _ J h=>⟨_,(xN n _ _ J),?_⟩;conv=>whnf
  apply ifc h<;>intro j h
  ·obtain rfl:=sj h
   conv=>whnf
   try exact Sk
  conv=>whnf
  exact⟨(kwr .i64 (i+1)),h,wk [0] []⟩
 conv=>whnf
 refine⟨id,id,?_⟩;conv=>whnf
 refine bq h fun _ M h=>⟨_,fun a=>(cL n _ _ _ (qa M a)),?_⟩;conv=>whnf
 refine⟨id,id,id,?_⟩;conv=>whnf
 refine bq h fun _ L h=>⟨_,fun a=>(cL n _ _ _ (qa L a)),?_⟩;conv=>whnf
 refine⟨id,?_⟩;obtain rfl:=sj h;conv=>whnf
 try exact Sk
abbrev FT (r:Bool):PV:=PV.bool r
def sJ (n:Nat) (c:qb):Option (Bool):=
 match c with
 | ⟨a,b,⟨f,g,i,j,k,l⟩,m,d⟩=>
 bnd (qG (bif(a==0)then(b==([]:SS))else false) (uK n (Val.mk f g i j k l) (Val.mk (0:Int) false (0:Int) ([]:SS) ([]:List Val) ([]:List SS)))) fun e=>
 some (bif(bif(bif(bif(a==0)then(b==([]:SS))else false)then e else false)then(((qy m).length:Int)==0)else false)then(((qb.rows d).length:Int)==0)else false)
theorem tN (n:Nat):∀ (a:qb) (r:Bool),sJ n a=some r->qi TP 165 [PV.agg (zU.cells a)] (FT r):=by
 intro a r h;obtain⟨_,_,⟨_,_,_,_,_,_⟩,_,_⟩:=a;unfold sJ at h;refine zN Tryz.call165 Tryz.func165 [1000000] ?_;conv=>whnf
 iterate 6 refine⟨id,?_⟩
 conv=>whnf
 refine bq h fun _ b h=>⟨_,fun c=>(qi.leArgs (po n _ _ _ (qa b c)) (by try exact Sk)),?_⟩;conv=>whnf
 iterate 9 refine⟨id,?_⟩
 obtain rfl:=sj h;conv=>whnf
 try exact Sk
abbrev Uh (r:Bool):PV:=PV.bool r
def se (n:Nat) (p:qm) (s:Bool):Option (Bool):=
 match p with
 | ⟨q,o,e,⟨f,g,⟨i,j,k,l,a,b⟩,c,d⟩⟩=>
 bnd (xW n q) fun t=>
 bif(!t)then(
 some false)
 else(
 bif(o==([]:SS))then(
 bnd (vh n e) fun m=>
 bnd (qG m (sJ n (qb.mk f g (Val.mk i j k l a b) c d))) fun u=>
 some (bif m then u else false))
 else(
 bnd (qG (!(!(e==([]:SS)))) (vh n o)) fun v=>
 bif(bif(!(e==([]:SS)))then true else(!v))then(
 some false)
 else(
 bif s then(
 bnd (xP n (qb.mk f g (Val.mk i j k l a b) c d)) fun w=>
 some w)
 else(
 bnd (sJ n (qb.mk f g (Val.mk i j k l a b) c d)) fun x=>
 some x))))
theorem Xz (n:Nat):∀ (a:qm) (d r:Bool),se n a d=some r->qi TP 130 [PV.agg (mz.cells a),PV.bool d] (Uh r):=by
 intro a d r h;obtain⟨_,_,_,⟨_,_,⟨_,_,_,_,_,_⟩,_,_⟩⟩:=a;unfold se at h;refine zN Tryz.call130 Tryz.func130 [1000000] ?_;conv=>whnf
 refine bq h fun _ k h=>⟨_,(xq n _ _ k),?_⟩;conv=>whnf
 apply ifc h<;>intro b h
 ·obtain rfl:=sj h
  conv=>whnf
  try exact Sk
 conv=>whnf
 apply ifc h<;>intro b h
 ·conv=>whnf
  refine bq h fun _ f h=>⟨_,(xg n _ _ f),?_⟩;conv=>whnf
  refine⟨id,id,?_⟩;conv=>whnf
  refine bq h fun _ e h=>⟨_,fun c=>(tN n _ _ (qa e c)),?_⟩;conv=>whnf
  refine⟨id,?_⟩;obtain rfl:=sj h;conv=>whnf
  try exact Sk
 conv=>whnf
 refine⟨id,id,?_⟩;conv=>whnf
 refine bq h fun _ j h=>⟨_,fun c=>(xg n _ _ (qa j c)),?_⟩;conv=>whnf
 refine⟨id,id,?_⟩;conv=>whnf
 apply ifc h<;>intro b h
 ·obtain rfl:=sj h
  conv=>whnf
  try exact Sk
 conv=>whnf
 apply ifc h<;>intro b h
 ·conv=>whnf
  refine bq h fun _ g h=>⟨_,(xN n _ _ g),?_⟩;obtain rfl:=sj h;conv=>whnf
  try exact Sk
 conv=>whnf
 refine bq h fun _ i h=>⟨_,(tN n _ _ i),?_⟩;obtain rfl:=sj h;conv=>whnf
 try exact Sk
end W
end
section
set_option maxRecDepth 100000
set_option maxHeartbeats 20000000
open Go Go.Proofs Ax
namespace W
abbrev QK (r:Bool):PV:=PV.bool r
def fw (n:Nat) (a:List qm) (d:Int):LK (Int) (Bool):=fun c b=>
 bif(decide (b<((qm.rows a).length:Int)))then(
 bnd (idx a b) fun⟨e,f,g,⟨i,j,⟨k,l,m,o,p,q⟩,s,t⟩⟩=>
 bnd (se n (qm.mk e f g (qb.mk i j (Val.mk k l m o p q) s t)) (d==6)) fun u=>
 bif(!u)then(
 some false)
 else(
 c (kwr .i64 (b+1))))
 else(
 some (decide (((qm.rows a).length:Int)>0)))
def fx (n:Nat) (a:List SS):LK (Int) (Bool):=fun c b=>
 bif(decide (b<((qy a).length:Int)))then(
 bnd (idx a b) fun d=>
 bnd (xW n d) fun e=>
 bif(!e)then(
 some false)
 else(
 c (kwr .i64 (b+1))))
 else(
 some (decide (((qy a).length:Int)>0)))
def ug (n:Nat) (b:List qm) (a:Int) (c:List SS):Bool->Option (Bool):=fun d=>
 bif d then(
 qU (fw n b a) n (0:Int))
 else(
 bif(a==8)then(
 qU (fx n c) n (0:Int))
 else(
 some false))
def ue (n:Nat) (a:Int) (b:List zj) (e:List qb) (u:Int) (v:SS) (z:Int) (A:Bool) (B:Int) (C:SS) (g:List Val) (i j:List SS) (k:List qb) (l:SS) (m:List zx) (o:Bool) (p:List za) (q s:List qb) (c:List qm) (d:List SS) (t:Bool):Bool->Option (Bool):=fun w=>
 bif w then(
 bnd (Qy n (qt.mk a b e (qb.mk u v (Val.mk z A B C g i) j k) l m o p q s c d t)) fun f=>
 bnd (qG f (cb n e (1:Int))) fun x=>
 some (bif f then x else false))
 else(
 bif(a==4)then(
 some (decide (((zj.rows b).length:Int)>0)))
 else(
 bif(a==5)then(
 bnd (qG (((zj.rows b).length:Int)==1) (idx b (0:Int))) fun⟨_,y⟩=>
 some (bif(((zj.rows b).length:Int)==1)then(((qh.rows y).length:Int)==0)else false))
 else(
 bif(a==6)then(
 ug n c a d (a==6))
 else(
 ug n c a d (a==7)))))
def fu (n:Nat) (b:List zj) (a:Int) (i:List qb) (j:Int) (l:SS) (m:Int) (o:Bool) (p:Int) (q:SS) (c:List Val) (d e:List SS) (f:List qb) (g:SS) (s:List zx) (t:Bool) (u:List za) (v w:List qb) (x:List qm) (y:List SS) (z:Bool):LK (Int) (Bool):=fun B k=>
 bif(decide (k<((zj.rows b).length:Int)))then(
 bnd (idx b k) fun⟨C,D⟩=>
 bnd (uL n (zj.mk C D)) fun E=>
 bif(!E)then(
 some false)
 else(
 B (kwr .i64 (k+1))))
 else(
 bif(a==1)then(
 bnd (qG (decide (((zj.rows b).length:Int)>0)) (cb n i (1:Int))) fun F=>
 some (bif(decide (((zj.rows b).length:Int)>0))then F else false))
 else(
 bif(a==2)then(
 bnd (xP n (qb.mk j l (Val.mk m o p q c d) e f)) fun A=>
 bnd (qG A (xW n g)) fun G=>
 some (bif A then G else false))
 else(
 bif(a==3)then(
 ue n a b i j l m o p q c d e f g s t u v w x y z (a==3))
 else(
 ue n a b i j l m o p q c d e f g s t u v w x y z (a==9)))))
def bu (n:Nat) (z:qt):Option (Bool):=
 match z with
 | ⟨a,m,s,⟨t,u,⟨v,w,x,y,b,c⟩,d,e⟩,f,g,i,j,k,l,o,p,q⟩=>
 bnd (XA n (qt.mk a m s (qb.mk t u (Val.mk v w x y b c) d e) f g i j k l o p q)) fun⟨A,B,C,⟨D,E,⟨F,G,H,I,J,K⟩,L,M⟩,N,O,P,Q,R,S,T,U,V⟩=>
 bnd (dt n (qt.mk A B C (qb.mk D E (Val.mk F G H I J K) L M) N O P Q R S T U V) (qt.mk a m s (qb.mk t u (Val.mk v w x y b c) d e) f g i j k l o p q)) fun W=>
 bif(!W)then(
 some false)
 else(
 qU (fu n m a s t u v w x y b c d e f g i j k l o p q) n (0:Int))
theorem tO (n:Nat):∀ (C:qt) (r:Bool),bu n C=some r->qi TP 87 [PV.agg (ub.cells C)] (QK r):=by
 intro C r h;obtain⟨b,s,u,⟨v,w,⟨x,y,z,A,f,g⟩,i,j⟩,k,l,m,o,p,q,c,d,t⟩:=C;unfold bu at h;refine zN Tryz.call87 Tryz.func87 [1000000] ?_;conv=>whnf
 refine bq h fun⟨_,_,_,⟨_,_,⟨_,_,_,_,_,_⟩,_,_⟩,_,_,_,_,_,_,_,_,_⟩ N h=>⟨_,(FG n _ _ N),?_⟩;conv=>whnf
 refine bq h fun _ M h=>⟨_,(tr n _ _ _ M),?_⟩;conv=>whnf
 apply ifc h<;>intro a h
 ·obtain rfl:=sj h
  conv=>whnf
  try exact Sk
 conv=>whnf
 refine zd.fn [1000000] (S:=Int) (fun D=>[(1,.ptr 0 0),(3,pI D)]) (fun D=>[.box 65 [pI b,pP s,pE u,pI v,pS w,pI x,pB y,pI z,pS A,pV f,pT g,pT i,pE j,pS k,pA l,pB m,pO o,pE p,pE q,pU c,pT d,pB t]]) (B:=fu n s b u v w x y z A f g i j k l m o p q c d t) h (wk [0] []) ?_;intro _ D h;unfold fu at h;conv=>whnf
 apply ifc h<;>intro a h
 ·conv=>whnf
  refine bq h fun⟨_,_⟩ O h=>⟨_,Codec.at_ rC O,?_⟩;conv=>whnf
  refine bq h fun _ I h=>⟨_,(rH n _ _ I),?_⟩;conv=>whnf
  apply ifc h<;>intro a h
  ·obtain rfl:=sj h
   conv=>whnf
   try exact Sk
  conv=>whnf
  exact⟨(kwr .i64 (D+1)),h,wk [0] []⟩
 conv=>whnf
 apply ifc h<;>intro a h
 ·conv=>whnf
  refine⟨id,id,?_⟩;conv=>whnf
  refine bq h fun _ P h=>⟨_,fun e=>(cL n _ _ _ (qa P e)),?_⟩;conv=>whnf
  refine⟨id,?_⟩;obtain rfl:=sj h;conv=>whnf
  try exact Sk
 conv=>whnf
 apply ifc h<;>intro a h
 ·conv=>whnf
  refine bq h fun _ R h=>⟨_,(xN n _ _ R),?_⟩;conv=>whnf
  refine⟨id,id,?_⟩;conv=>whnf
  refine bq h fun _ Q h=>⟨_,fun e=>(xq n _ _ (qa Q e)),?_⟩;conv=>whnf
  refine⟨id,?_⟩;obtain rfl:=sj h;conv=>whnf
  try exact Sk
 conv=>whnf
 refine nu.cut (S:=Bool) (fun G=>[(1,.ptr 0 0),(26,pI b),(48,pB G)]) (fun G=>[.box 65 [pI b,pP s,pE u,pI v,pS w,pI x,pB y,pI z,pS A,pV f,pT g,pT i,pE j,pS k,pA l,pB m,pO o,pE p,pE q,pU c,pT d,pB t]]) (ue n b s u v w x y z A f g i j k l m o p q c d t) (r:=r) ?_ ?_
 ·intro G h
  unfold ue at h;conv=>whnf
  apply ifc h<;>intro a h
  ·conv=>whnf
   refine bq h fun _ U h=>⟨_,(Gn n _ _ U),?_⟩;conv=>whnf
   refine⟨id,id,?_⟩;conv=>whnf
   refine bq h fun _ T h=>⟨_,fun e=>(cL n _ _ _ (qa T e)),?_⟩;conv=>whnf
   refine⟨id,?_⟩;obtain rfl:=sj h;conv=>whnf
   try exact Sk
  conv=>whnf
  apply ifc h<;>intro a h
  ·obtain rfl:=sj h
   conv=>whnf
   try exact Sk
  conv=>whnf
  apply ifc h<;>intro a h
  ·conv=>whnf
   refine⟨id,id,?_⟩;conv=>whnf
   refine bq h fun⟨_,_⟩ V h=>⟨_,fun e=>Codec.at_ rC (qa V e),?_⟩;conv=>whnf
   refine⟨id,id,id,id,id,?_⟩;obtain rfl:=sj h;conv=>whnf
   try exact Sk
  conv=>whnf
  refine nu.cut (S:=Bool) (fun H=>[(1,.ptr 0 0),(26,pI b),(79,pB H)]) (fun H=>[.box 65 [pI b,pP s,pE u,pI v,pS w,pI x,pB y,pI z,pS A,pV f,pT g,pT i,pE j,pS k,pA l,pB m,pO o,pE p,pE q,pU c,pT d,pB t]]) (ug n c b d) (r:=r) ?_ ?_
  ·intro H h
   unfold ug at h;conv=>whnf
   apply ifc h<;>intro a h
   ·conv=>whnf
    refine zd.fn [1000000] (S:=Int) (fun E=>[(1,.ptr 0 0),(4,pI E)]) (fun E=>[.box 65 [pI b,pP s,pE u,pI v,pS w,pI x,pB y,pI z,pS A,pV f,pT g,pT i,pE j,pS k,pA l,pB m,pO o,pE p,pE q,pU c,pT d,pB t]]) (B:=fw n c b) h (wk [0] []) ?_;intro _ E h;unfold fw at h;(conv=>whnf);apply ifc h<;>intro a h
    ·conv=>whnf
     refine bq h fun⟨_,_,_,⟨_,_,⟨_,_,_,_,_,_⟩,_,_⟩⟩ J h=>⟨_,Codec.at_ mz J,?_⟩;(conv=>whnf);refine bq h fun _ W h=>⟨_,(Xz n _ _ _ W),?_⟩;(conv=>whnf);apply ifc h<;>intro a h
     ·obtain rfl:=sj h
      conv=>whnf
      try exact Sk
     (conv=>whnf);exact⟨(kwr .i64 (E+1)),h,wk [0] []⟩
    obtain rfl:=sj h;conv=>whnf
    try exact Sk
   conv=>whnf
   apply ifc h<;>intro a h
   ·conv=>whnf
    refine zd.fn [1000000] (S:=Int) (fun F=>[(1,.ptr 0 0),(5,pI F)]) (fun F=>[.box 65 [pI b,pP s,pE u,pI v,pS w,pI x,pB y,pI z,pS A,pV f,pT g,pT i,pE j,pS k,pA l,pB m,pO o,pE p,pE q,pU c,pT d,pB t]]) (B:=fx n d) h (wk [0] []) ?_;intro _ F h;unfold fx at h;(conv=>whnf);apply ifc h<;>intro a h
    ·conv=>whnf
     refine bq h fun _ L h=>⟨_,Codec.at_ rE L,?_⟩;(conv=>whnf);refine bq h fun _ K h=>⟨_,(xq n _ _ K),?_⟩;(conv=>whnf);apply ifc h<;>intro a h
     ·obtain rfl:=sj h
      conv=>whnf
      try exact Sk
     (conv=>whnf);exact⟨(kwr .i64 (F+1)),h,wk [0] []⟩
    obtain rfl:=sj h;conv=>whnf
    try exact Sk
   obtain rfl:=sj h;conv=>whnf
   try exact Sk
  conv=>whnf
  apply ifc h<;>intro a h
  ·conv=>whnf
   exact⟨(b==6),h,wk [0] []⟩
  conv=>whnf
  exact⟨(b==7),h,wk [0] []⟩
 conv=>whnf
 apply ifc h<;>intro a h
 ·conv=>whnf
  exact⟨(b==3),h,wk [0] []⟩
 conv=>whnf
 exact⟨(b==9),h,wk [0] []⟩
abbrev Bo (r:Bool):PV:=PV.bool r
def sc (n:Nat) (a:List qt):LK (Int) (Bool):=fun e b=>
 bif(decide (b<((qt.rows a).length:Int)))then(
 bnd (idx a b) fun⟨y,z,A,⟨B,C,⟨E,F,f,g,i,j⟩,k,l⟩,m,o,p,q,s,t,u,v,w⟩=>
 bnd (bu n (qt.mk y z A (qb.mk B C (Val.mk E F f g i j) k l) m o p q s t u v w)) fun d=>
 bnd (qG (!(!d)) (idx a b)) fun⟨x,_,_,⟨_,_,⟨_,_,_,_,_,_⟩,_,_⟩,_,_,_,_,_,_,_,_,_⟩=>
 bif(bif(!d)then true else(bif(x==9)then(decide ((kwr .i64 (b+1))<((qt.rows a).length:Int)))else false))then(
 some false)
 else(
 e (kwr .i64 (b+1))))
 else(
 bnd (qG (bif(decide (((qt.rows a).length:Int)>0))then(decide (((qt.rows a).length:Int)<=64))else false) (idx a (kwr .i64 (((qt.rows a).length:Int) - 1)))) fun⟨c,_,_,⟨_,_,⟨_,_,_,_,_,_⟩,_,_⟩,_,_,_,_,_,_,_,_,_⟩=>
 bnd (qG ((bif(decide (((qt.rows a).length:Int)>0))then(decide (((qt.rows a).length:Int)<=64))else false)&&(!(c==9))) (idx a (kwr .i64 (((qt.rows a).length:Int) - 1)))) fun⟨D,_,_,⟨_,_,⟨_,_,_,_,_,_⟩,_,_⟩,_,_,_,_,_,_,_,_,_⟩=>
 bnd (qG ((bif(decide (((qt.rows a).length:Int)>0))then(decide (((qt.rows a).length:Int)<=64))else false)&&(!(c==9))) (ma n D)) fun G=>
 some (bif(bif(decide (((qt.rows a).length:Int)>0))then(decide (((qt.rows a).length:Int)<=64))else false)then(bif(c==9)then true else G)else false))
def Xy (n:Nat) (a:ZV):Option (Bool):=
 match a with
 | ⟨b⟩=>
 qU (sc n b) n (0:Int)
theorem FF (n:Nat):∀ (b:ZV) (r:Bool),Xy n b=some r->qi TP 58 [PV.agg (NM.cells b)] (Bo r):=by
 intro b r h;obtain⟨d⟩:=b;unfold Xy at h;refine zN Tryz.call58 Tryz.func58 [1000000] ?_;conv=>whnf
 refine zd.fn [1000000] (S:=Int) (fun c=>[(1,.ptr 0 0),(3,.p (.int .i64 ((qt.rows d).length:Int))),(4,pI c)]) (fun c=>[.box 68 [pC d]]) (B:=sc n d) h (wk [0] []) ?_;intro _ c h;unfold sc at h;conv=>whnf
 apply ifc h<;>intro l h
 ·conv=>whnf
  refine bq h fun⟨_,_,_,⟨_,_,⟨_,_,_,_,_,_⟩,_,_⟩,_,_,_,_,_,_,_,_,_⟩ g h=>⟨_,Codec.at_ ub g,?_⟩;conv=>whnf
  refine bq h fun _ f h=>⟨_,(tO n _ _ f),?_⟩;conv=>whnf
  refine⟨id,id,id,?_⟩;conv=>whnf
  refine bq h fun⟨_,_,_,⟨_,_,⟨_,_,_,_,_,_⟩,_,_⟩,_,_,_,_,_,_,_,_,_⟩ e h=>⟨_,fun a=>Codec.at_ ub (qa e a),?_⟩;conv=>whnf
  iterate 10 refine⟨id,?_⟩
  conv=>whnf
  apply ifc h<;>intro l h
  ·obtain rfl:=sj h
   conv=>whnf
   try exact Sk
  conv=>whnf
  exact⟨(kwr .i64 (c+1)),h,wk [0] []⟩
 conv=>whnf
 iterate 6 refine⟨id,?_⟩
 conv=>whnf
 refine bq h fun⟨_,_,_,⟨_,_,⟨_,_,_,_,_,_⟩,_,_⟩,_,_,_,_,_,_,_,_,_⟩ k h=>⟨_,fun a=>Codec.at_ ub (qa k a),?_⟩;conv=>whnf
 iterate 8 refine⟨id,?_⟩
 conv=>whnf
 refine bq h fun⟨_,_,_,⟨_,_,⟨_,_,_,_,_,_⟩,_,_⟩,_,_,_,_,_,_,_,_,_⟩ j h=>⟨_,fun a=>Codec.at_ ub (qa j a),?_⟩;conv=>whnf
 refine⟨id,id,id,?_⟩;conv=>whnf
 refine bq h fun _ i h=>⟨_,fun a=>(sd n _ _ (qa i a)),?_⟩;conv=>whnf
 refine⟨id,id,id,?_⟩;obtain rfl:=sj h;conv=>whnf
 try exact Sk
abbrev GJ (r:ZV×Int×Int):PV:=PV.tup [PV.agg (NM.cells r.1),PV.int .i64 r.2.1,PV.int .i64 r.2.2]
def cO (n:Nat) (d:List qk):Int×Bool×List qt->Option (ZV×Int×Int):=fun(e,f,a)=>
 bif f then(
 bnd (idx d e) fun⟨_,_,_,b⟩=>
 some (ZV.mk ([]:List qt),b,(1:Int)))
 else(
 bnd (Xy n (ZV.mk a)) fun c=>
 bif(!c)then(
 some (ZV.mk ([]:List qt),(0:Int),(8:Int)))
 else(
 some (ZV.mk a,(0:Int),(0:Int))))
def mX (n:Nat) (d:List qk):LK (Int×Int×Bool×List qt) (ZV×Int×Int):=fun F (e,b,a,c)=>
 bnd (qG (!a) (idx d b)) fun⟨g,_,_,_⟩=>
 bnd (qG ((!a)&&(!(g != 6))) (ma n e)) fun G=>
 bif(bif(!a)then(bif(g != 6)then true else(bif(!G)then(e != 9)else false))else false)then(
 bif(e==9)then(
 cO n d (b,true,c))
 else(
 bnd (mU n d b a) fun⟨⟨f,i,j,⟨k,l,⟨m,o,p,q,s,t⟩,u,v⟩,w,x,y,z,A,B,C,D,E⟩,H,I⟩=>
 chk (decide ((qt.rows (c++[qt.mk f i j (qb.mk k l (Val.mk m o p q s t) u v) w x y z A B C D E])).length * 392<=140737488355328)) (
 F (f,H,I,(c++[qt.mk f i j (qb.mk k l (Val.mk m o p q s t) u v) w x y z A B C D E])))))
 else(
 cO n d (b,a,c))
def tu (n:Nat) (b:SS):Option (ZV×Int×Int):=
 bnd (Qw n b) fun⟨c,d,a⟩=>
 bif(a != 0)then(
 some (ZV.mk ([]:List qt),d,a))
 else(
 qU (mX n c) n ((0:Int),(0:Int),false,([]:List _)))
theorem VS (n:Nat):∀ (I:SS) (r:ZV×Int×Int),tu n I=some r->qi TP 35 [PV.str I] (GJ r):=by
 intro I r h;unfold tu at h;refine zN Tryz.call35 Tryz.func35 [57,40000014,50000002,60004000,1000000] ?_;conv=>whnf
 refine bq h fun⟨D,_,_⟩ V h=>⟨_,(Gk n _ _ V),?_⟩;conv=>whnf
 apply ifc h<;>intro E h
 ·obtain rfl:=sj h
  conv=>whnf
  try exact Sk
 conv=>whnf
 refine nu.cut (S:=Int×Bool×List qt) (fun(K,L,G)=>[(2,.ptr 0 0),(8,.ptr 1 0),(9,.ptr 2 0)]) (fun(K,L,G)=>[.box 68 [SV],.box 135 [pK D,pI K,pB L],.box 68 [.tsl 3 (qt.rows G)],.tail 65 22 (qt.rows G).length]) (cO n D) (r:=r) ?_ ?_
 ·intro st h
  obtain⟨K,L,G⟩:=st;unfold cO at h;conv=>whnf
  apply ifc h<;>intro E h
  ·conv=>whnf
   refine bq h fun⟨_,_,_,_⟩ P h=>⟨_,Codec.at_ dj P,?_⟩;obtain rfl:=sj h;conv=>whnf
   try exact Sk
  conv=>whnf
  refine bq h fun _ Q h=>⟨_,(FF n _ _ Q),?_⟩;conv=>whnf
  apply ifc h<;>intro E h
  ·obtain rfl:=sj h
   conv=>whnf
   try exact Sk
  obtain rfl:=sj h;conv=>whnf
  try exact Sk
 conv=>whnf
 refine zd.fn [57,40000014,50000002,60004000,1000000] (S:=Int×Int×Bool×List qt) (fun(J,C,F,a)=>[(2,.ptr 0 0),(8,.ptr 1 0),(9,.ptr 2 0),(10,pI J)]) (fun(J,C,F,a)=>[.box 68 [SV],.box 135 [pK D,pI C,pB F],.box 68 [.tsl 3 (qt.rows a)],.tail 65 22 (qt.rows a).length]) (B:=mX n D) h (wk [0,1,2,0] [3]) ?_;intro _ st h;obtain⟨J,C,F,a⟩:=st;unfold mX at h;conv=>whnf
 iterate 8 refine⟨id,?_⟩
 conv=>whnf
 refine bq h fun⟨_,_,_,_⟩ U h=>⟨_,fun H=>Codec.at_ dj (qa U H),?_⟩;conv=>whnf
 refine⟨id,id,id,id,id,?_⟩;conv=>whnf
 refine bq h fun _ T h=>⟨_,fun H=>(sd n _ _ (qa T H)),?_⟩;conv=>whnf
 iterate 8 refine⟨id,?_⟩
 conv=>whnf
 apply ifc h<;>intro E h
 ·conv=>whnf
  apply ifc h<;>intro E h
  ·conv=>whnf
   exact⟨(C,true,a),h,wk [0,1,2,3] []⟩
  conv=>whnf
  refine bq h fun⟨⟨b,c,d,⟨e,f,⟨g,i,j,k,l,m⟩,o,q⟩,s,t,u,v,w,x,y,z,A⟩,N,O⟩ R h=>?_;refine zg (QA n _ _ _ _ R) [1] [] ?_;rintro _ _ ⟨rfl,rfl⟩;refine⟨.p (.agg [.int .i64 b,.sl (zj.rows c),.sl (qb.rows d),.int .i64 e,.str f,.int .i64 g,.bool i,.int .i64 j,.str k,.sl (Val.rows l),.sl (qy m),.sl (qy o),.sl (qb.rows q),.str s,.sl (zx.rows t),.bool u,.sl (za.rows v),.sl (qb.rows w),.sl (qb.rows x),.sl (qm.rows y),.sl (qy z),.bool A]),[.box 68 [SV],.box 135 [pK D,pI N,pB O],.box 68 [.tsl 3 (qt.rows a)],.tail 65 22 (qt.rows a).length],rfl,rfl,?_⟩;conv=>whnf
  refine⟨Codec.one ub [qt.mk b c d (qb.mk e f (Val.mk g i j k l m) o q) s t u v w x y z A],qt.rows [qt.mk b c d (qb.mk e f (Val.mk g i j k l m) o q) s t u v w x y z A],.inl rfl,?_⟩;conv=>whnf
  rw[show qt.rows a++qt.rows [qt.mk b c d (qb.mk e f (Val.mk g i j k l m) o q) s t u v w x y z A]=qt.rows (a++[qt.mk b c d (qb.mk e f (Val.mk g i j k l m) o q) s t u v w x y z A])from Codec.append ub a [qt.mk b c d (qb.mk e f (Val.mk g i j k l m) o q) s t u v w x y z A]];conv=>whnf
  obtain⟨M,h⟩:=qL h;refine⟨⟨Codec.wide ub (a++[qt.mk b c d (qb.mk e f (Val.mk g i j k l m) o q) s t u v w x y z A]),kod M,xK M (by decide)⟩,?_⟩;conv=>whnf
  refine⟨⟨rfl,rfl,rfl⟩,?_⟩;conv=>whnf
  exact⟨(b,N,O,(a++[qt.mk b c d (qb.mk e f (Val.mk g i j k l m) o q) s t u v w x y z A])),h,wk [0,1,2,5] []⟩
 conv=>whnf
 exact⟨(C,F,a),h,wk [0,1,2,3] []⟩
abbrev Gu (r:List zj):PV:=PV.sl (zj.rows r)
def zQ (n:Nat) (a:SS):Option (List zj):=
 chk (decide (((([77,65,84,67,72,32]:SS).length+a.length:Nat):Int)<=Pa)) (
 chk (decide ((((([77,65,84,67,72,32]:SS)++a).length+([32,82,69,84,85,82,78,32,49,32,65,83,32,120]:SS).length:Nat):Int)<=Pa)) (
 bnd (tu n ((([77,65,84,67,72,32]:SS)++a)++([32,82,69,84,85,82,78,32,49,32,65,83,32,120]:SS))) fun⟨⟨b⟩,_,_⟩=>
 bif(((qt.rows b).length:Int) != 2)then(
 some ([]:List zj))
 else(
 bnd (idx b (0:Int)) fun⟨_,c,_,⟨_,_,⟨_,_,_,_,_,_⟩,_,_⟩,_,_,_,_,_,_,_,_,_⟩=>
 some c)))
theorem vT (n:Nat):∀ (a:SS) (r:List zj),zQ n a=some r->qi TP 17 [PV.str a] (Gu r):=by
 intro a r h;unfold zQ at h;refine zN Tryz.call17 Tryz.func17 [1000000] ?_;conv=>whnf
 obtain⟨e,h⟩:=qL h;refine⟨(kod e:((([77,65,84,67,72,32]:SS).length+a.length:Nat):Int)<=Pa),?_⟩;conv=>whnf
 obtain⟨d,h⟩:=qL h;refine⟨(kod d:(((([77,65,84,67,72,32]:SS)++a).length+([32,82,69,84,85,82,78,32,49,32,65,83,32,120]:SS).length:Nat):Int)<=Pa),?_⟩;conv=>whnf
 refine bq h fun⟨⟨_⟩,_,_⟩ c h=>⟨_,(VS n _ _ c),?_⟩;conv=>whnf
 apply ifc h<;>intro _ h
 ·obtain rfl:=sj h
  conv=>whnf
  try exact Sk
 conv=>whnf
 refine bq h fun⟨_,_,_,⟨_,_,⟨_,_,_,_,_,_⟩,_,_⟩,_,_,_,_,_,_,_,_,_⟩ b h=>⟨_,Codec.at_ ub b,?_⟩;obtain rfl:=sj h;conv=>whnf
 try exact Sk
abbrev dN (r:Int):PV:=PV.int .i64 r
def mG (n:Nat) (b:List Val) (g59:Val->Option (Int)):LK (Int×Int) (Int):=fun d (c,a)=>
 bif(decide (a<((Val.rows b).length:Int)))then(
 bnd (idx b a) fun⟨l,e,f,g,i,j⟩=>
 bnd (g59 (Val.mk l e f g i j)) fun k=>
 d ((kwr .i64 (c+k)),(kwr .i64 (a+1))))
 else(
 some c)
def rR (n:Nat) (g59:Val->Option (Int)) (a:Val):Option (Int):=
 match a with
 | ⟨_,_,_,_,b,_⟩=>
 qU (mG n b g59) n ((1:Int),(0:Int))
theorem Xi (n:Nat) (g59:Val->Option (Int)) (g59_ok:∀ (a:Val) (r:Int),g59 a=some r->qi TP 59 [PV.agg (xV.cells a)] (dN r)):∀ (a:Val) (r:Int),rR n g59 a=some r->qi TP 59 [PV.agg (xV.cells a)] (dN r):=by
 intro a r h;obtain⟨g,j,k,l,d,m⟩:=a;unfold rR at h;refine zN Tryz.call59 Tryz.func59 [1000000] ?_;conv=>whnf
 refine zd.fn [1000000] (S:=Int×Int) (fun(b,c)=>[(1,.ptr 0 0),(3,pI b),(4,pI c)]) (fun(b,c)=>[.box 32 [pI g,pB j,pI k,pS l,pV d,pT m]]) (B:=mG n d g59) h (wk [0] []) ?_;intro _ st h;obtain⟨b,c⟩:=st;unfold mG at h;conv=>whnf
 apply ifc h<;>intro _ h
 ·conv=>whnf
  refine bq h fun⟨_,_,_,_,_,_⟩ f h=>⟨_,Codec.at_ xV f,?_⟩;conv=>whnf
  refine bq h fun i e h=>⟨_,(g59_ok _ _ e),?_⟩;conv=>whnf
  exact⟨((kwr .i64 (b+i)),(kwr .i64 (c+1))),h,wk [0] []⟩
 obtain rfl:=sj h;conv=>whnf
 try exact Sk
def bk:Nat->Val->Option (Int)
 | 0=>fun _=>none
 | n+1=>rR n (bk n)
theorem Xt (n:Nat):(∀ (a:Val) (r:Int),bk n a=some r->qi TP 59 [PV.agg (xV.cells a)] (dN r)):=by
 induction n with
 | zero=>exact(by intros; rename_i h; cases h)
 | succ n ih=>
  have hg59:=ih;exact Xi n (bk n) hg59
theorem VK (n:Nat):∀ (a:Val) (r:Int),bk n a=some r->qi TP 59 [PV.agg (xV.cells a)] (dN r):=(Xt n)
abbrev dP (r:Int):PV:=PV.int .i64 r
def mS (n:Nat) (c:List qb) (d:Int) (g36:qb->Int->Option (Int)):LK (Int×Int) (Int):=fun e (a,b)=>
 bif(bif(decide (b<((qb.rows c).length:Int)))then(decide (a<d))else false)then(
 bnd (idx c b) fun⟨f,g,⟨i,j,k,l,m,o⟩,p,q⟩=>
 bnd (g36 (qb.mk f g (Val.mk i j k l m o) p q) (kwr .i64 (d - a))) fun s=>
 e ((kwr .i64 (a+s)),(kwr .i64 (b+1))))
 else(
 some a)
def rS (n:Nat) (g36:qb->Int->Option (Int)) (b:qb) (d:Int):Option (Int):=
 match b with
 | ⟨_,f,⟨g,i,j,a,k,l⟩,_,c⟩=>
 bnd (bk n (Val.mk g i j a k l)) fun e=>
 qU (mS n c d g36) n ((kwr .i64 ((kwr .i64 ((kwr .i64 ((1:Int)+(kwr .i64 (Int.tdiv ((f.length:Nat):Int) (16:Int)))))+(kwr .i64 (Int.tdiv ((a.length:Nat):Int) (16:Int)))))+e)),(0:Int))
theorem Xk (n:Nat) (g36:qb->Int->Option (Int)) (g36_ok:∀ (b:qb) (a r:Int),g36 b a=some r->qi TP 36 [PV.agg (zU.cells b),PV.int .i64 a] (dP r)):∀ (b:qb) (a r:Int),rS n g36 b a=some r->qi TP 36 [PV.agg (zU.cells b),PV.int .i64 a] (dP r):=by
 intro b a r h;obtain⟨j,k,⟨m,o,p,q,s,t⟩,u,e⟩:=b;unfold rS at h;refine zN Tryz.call36 Tryz.func36 [1000000] ?_;conv=>whnf
 refine⟨by unfold gI; decide,?_⟩;conv=>whnf
 refine⟨by unfold gI; decide,?_⟩;conv=>whnf
 refine bq h fun _ i h=>⟨_,(VK n _ _ i),?_⟩;conv=>whnf
 refine zd.fn [1000000] (S:=Int×Int) (fun(c,d)=>[(1,pI a),(2,.ptr 0 0),(5,pI c),(6,pI d)]) (fun(c,d)=>[.box 60 [pI j,pS k,pI m,pB o,pI p,pS q,pV s,pT t,pT u,pE e]]) (B:=mS n e a g36) h (wk [0] []) ?_;intro _ st h;obtain⟨c,d⟩:=st;unfold mS at h;conv=>whnf
 refine⟨id,id,id,?_⟩;conv=>whnf
 apply ifc h<;>intro _ h
 ·conv=>whnf
  refine bq h fun⟨_,_,⟨_,_,_,_,_,_⟩,_,_⟩ g h=>⟨_,Codec.at_ zU g,?_⟩;conv=>whnf
  refine bq h fun l f h=>⟨_,(g36_ok _ _ _ f),?_⟩;conv=>whnf
  exact⟨((kwr .i64 (c+l)),(kwr .i64 (d+1))),h,wk [0] []⟩
 obtain rfl:=sj h;conv=>whnf
 try exact Sk
def vH:Nat->qb->Int->Option (Int)
 | 0=>fun _ _=>none
 | n+1=>rS n (vH n)
theorem XB (n:Nat):(∀ (a:qb) (b r:Int),vH n a b=some r->qi TP 36 [PV.agg (zU.cells a),PV.int .i64 b] (dP r)):=by
 induction n with
 | zero=>exact(by intros; rename_i h; cases h)
 | succ n ih=>
  have hg36:=ih;exact Xk n (vH n) hg36
theorem gk (n:Nat):∀ (a:qb) (b r:Int),vH n a b=some r->qi TP 36 [PV.agg (zU.cells a),PV.int .i64 b] (dP r):=(XB n)
abbrev ZO (r:Int):PV:=PV.int .i64 r
def ch (n:Nat) (c:List qb) (d:Int):LK (Int×Int) (Int):=fun e (a,b)=>
 bif(bif(decide (b<((qb.rows c).length:Int)))then(decide (a<d))else false)then(
 bnd (idx c b) fun⟨m,o,⟨p,q,s,f,g,i⟩,j,k⟩=>
 bnd (vH n (qb.mk m o (Val.mk p q s f g i) j k) (kwr .i64 (d - a))) fun l=>
 e ((kwr .i64 (a+l)),(kwr .i64 (b+1))))
 else(
 some a)
def xX (n:Nat) (a:List qb) (b:Int):Option (Int):=
 qU (ch n a b) n ((0:Int),(0:Int))
theorem vm (n:Nat):∀ (a:List qb) (b r:Int),xX n a b=some r->qi TP 37 [PV.sl (qb.rows a),PV.int .i64 b] (ZO r):=by
 intro a b r h;unfold xX at h;refine zN Tryz.call37 Tryz.func37 [1000000] ?_;conv=>whnf
 refine zd.fn [1000000] (S:=Int×Int) (fun(c,d)=>[(0,pE a),(1,pI b),(5,pI c),(6,pI d)]) (fun(c,d)=>[]) (B:=ch n a b) h (wk [] []) ?_;intro _ st h;obtain⟨c,d⟩:=st;unfold ch at h;conv=>whnf
 refine⟨id,id,id,?_⟩;conv=>whnf
 apply ifc h<;>intro _ h
 ·conv=>whnf
  refine bq h fun⟨_,_,⟨_,_,_,_,_,_⟩,_,_⟩ f h=>⟨_,Codec.at_ zU f,?_⟩;conv=>whnf
  refine bq h fun g e h=>⟨_,(gk n _ _ _ e),?_⟩;conv=>whnf
  exact⟨((kwr .i64 (c+g)),(kwr .i64 (d+1))),h,wk [] []⟩
 obtain rfl:=sj h;conv=>whnf
 try exact Sk
end W
end
section
set_option maxRecDepth 100000
set_option maxHeartbeats 20000000
open Go Go.Proofs Ax
namespace W
abbrev GC (r:Bool):PV:=PV.bool r
def mL (n:Nat) (d:List zj) (a:Int) (e:Int×Int->Option (Bool)):LK (Int×Int) (Bool):=fun f (b,c)=>
 bnd (idx d a) fun⟨_,g⟩=>
 bif(bif(decide (c<((qh.rows g).length:Int)))then(decide (b<3000))else false)then(
 bnd (idx d a) fun⟨_,i⟩=>
 bnd (idx i c) fun⟨_,_,_,_,j⟩=>
 bnd (xX n j (3000:Int)) fun k=>
 f ((kwr .i64 ((kwr .i64 (b+1))+k)),(kwr .i64 (c+1))))
 else(
 e (b,(kwr .i64 (a+1))))
def mK (n:Nat) (c:List zj) (a:Int) (e:Int×Int->Option (Bool)):LK (Int×Int) (Bool):=fun f (d,b)=>
 bnd (idx c a) fun⟨g,_⟩=>
 bif(bif(decide (b<((qd.rows g).length:Int)))then(decide (d<3000))else false)then(
 bnd (idx c a) fun⟨i,_⟩=>
 bnd (idx i b) fun⟨_,j,_,_⟩=>
 bnd (idx c a) fun⟨k,_⟩=>
 bnd (idx k b) fun⟨_,_,_,l⟩=>
 bnd (xX n l (3000:Int)) fun m=>
 f ((kwr .i64 ((kwr .i64 ((kwr .i64 (d+1))+((qy j).length:Int)))+m)),(kwr .i64 (b+1))))
 else(
 qU (mL n c a e) n (d,(0:Int)))
def mO (n:Nat) (c:List qm) (d:Int×Int->Option (Bool)) (l:Int):LK (Int×Int) (Bool):=fun e (a,b)=>
 bif(bif(decide (b<((qm.rows c).length:Int)))then(decide (a<3000))else false)then(
 bnd (idx c b) fun⟨_,_,_,⟨m,o,⟨p,q,s,t,f,g⟩,i,j⟩⟩=>
 bnd (vH n (qb.mk m o (Val.mk p q s t f g) i j) (3000:Int)) fun k=>
 e ((kwr .i64 ((kwr .i64 (a+1))+k)),(kwr .i64 (b+1))))
 else(
 d (a,(kwr .i64 (l+1))))
def mN (n:Nat) (c:List za) (f:List qm) (d:Int×Int->Option (Bool)) (g:Int):LK (Int×Int) (Bool):=fun e (a,b)=>
 bif(bif(decide (b<((za.rows c).length:Int)))then(decide (a<3000))else false)then(
 bnd (idx c b) fun⟨⟨i,j,⟨k,l,m,o,p,q⟩,s,t⟩,_⟩=>
 bnd (vH n (qb.mk i j (Val.mk k l m o p q) s t) (3000:Int)) fun u=>
 e ((kwr .i64 (a+u)),(kwr .i64 (b+1))))
 else(
 qU (mO n f d g) n (a,(0:Int)))
def mM (n:Nat) (c:List zx) (f:List za) (g:List qm) (d:Int×Int->Option (Bool)) (i:Int):LK (Int×Int) (Bool):=fun e (a,b)=>
 bif(bif(decide (b<((zx.rows c).length:Int)))then(decide (a<3000))else false)then(
 bnd (idx c b) fun⟨⟨j,k,⟨l,m,o,p,q,s⟩,t,u⟩,_⟩=>
 bnd (vH n (qb.mk j k (Val.mk l m o p q s) t u) (3000:Int)) fun v=>
 e ((kwr .i64 (a+v)),(kwr .i64 (b+1))))
 else(
 qU (mN n f g d i) n (a,(0:Int)))
def mJ (n:Nat) (c:List zj) (f:List zx) (g:List za) (i:List qm) (d:Int×Int->Option (Bool)) (j:Int):LK (Int×Int) (Bool):=fun e (a,b)=>
 bif(bif(decide (b<((zj.rows c).length:Int)))then(decide (a<3000))else false)then(
 qU (mK n c b e) n (a,(0:Int)))
 else(
 qU (mM n f g i d j) n (a,(0:Int)))
def mI (n:Nat) (c:List qt):LK (Int×Int) (Bool):=fun d (a,b)=>
 bif(bif(decide (b<((qt.rows c).length:Int)))then(decide (a<3000))else false)then(
 bnd (idx c b) fun⟨_,y,z,⟨A,B,⟨C,e,f,g,i,j⟩,k,l⟩,_,m,_,o,p,q,s,t,_⟩=>
 bnd (vH n (qb.mk A B (Val.mk C e f g i j) k l) (3000:Int)) fun u=>
 bnd (xX n z (3000:Int)) fun v=>
 bnd (xX n p (3000:Int)) fun w=>
 bnd (xX n q (3000:Int)) fun x=>
 qU (mJ n y m o s d b) n ((kwr .i64 ((kwr .i64 ((kwr .i64 ((kwr .i64 ((kwr .i64 ((kwr .i64 (a+1))+u))+v))+w))+x))+((qy t).length:Int))),(0:Int)))
 else(
 some (decide (a≥3000)))
def bp (n:Nat) (a:ZV):Option (Bool):=
 match a with
 | ⟨b⟩=>
 qU (mI n b) n ((0:Int),(0:Int))
theorem VP (n:Nat):∀ (G:ZV) (r:Bool),bp n G=some r->qi TP 18 [PV.agg (NM.cells G)] (GC r):=by
 intro G r h;obtain⟨e⟩:=G;unfold bp at h;refine zN Tryz.call18 Tryz.func18 [1000000] ?_;conv=>whnf
 refine zd.fn [1000000] (S:=Int×Int) (fun(Q,a)=>[(1,.ptr 0 0),(3,pI Q),(4,pI a)]) (fun(Q,a)=>[.box 68 [pC e]]) (B:=mI n e) h (wk [0] []) ?_;intro H st h;obtain⟨Q,a⟩:=st;unfold mI at h;conv=>whnf
 refine⟨id,id,?_⟩;conv=>whnf
 apply ifc h<;>intro i h
 ·conv=>whnf
  refine bq h fun⟨y,d,z,⟨A,C,⟨D,j,k,l,m,o⟩,p,q⟩,s,f,t,c,u,v,b,w,x⟩ a7 h=>⟨_,Codec.at_ ub a7,?_⟩;conv=>whnf
  refine bq h fun _ a6 h=>⟨_,(gk n _ _ _ a6),?_⟩;conv=>whnf
  refine bq h fun _ a4 h=>⟨_,(vm n _ _ _ a4),?_⟩;conv=>whnf
  refine bq h fun _ a3 h=>⟨_,(vm n _ _ _ a3),?_⟩;conv=>whnf
  refine bq h fun _ a2 h=>⟨_,(vm n _ _ _ a2),?_⟩;conv=>whnf
  refine zd.fn [1000000] (S:=Int×Int) (fun(R,g)=>[(1,.ptr 0 0),(3,pI R),(4,pI a),(5,.ptr 1 0),(6,pI g)]) (fun(R,g)=>[.box 68 [pC e],.box 65 [pI y,pP d,pE z,pI A,pS C,pI D,pB j,pI k,pS l,pV m,pT o,pT p,pE q,pS s,pA f,pB t,pO c,pE u,pE v,pU b,pT w,pB x]]) (B:=mJ n d f c b H a) h (wk [0,1] []) ?_;intro T st h;obtain⟨R,g⟩:=st;unfold mJ at h;conv=>whnf
  refine⟨id,id,?_⟩;conv=>whnf
  apply ifc h<;>intro i h
  ·conv=>whnf
   refine zd.fn [1000000] (S:=Int×Int) (fun(I,J)=>[(1,.ptr 0 0),(3,pI I),(4,pI a),(5,.ptr 1 0),(6,pI g),(7,pI J)]) (fun(I,J)=>[.box 68 [pC e],.box 65 [pI y,pP d,pE z,pI A,pS C,pI D,pB j,pI k,pS l,pV m,pT o,pT p,pE q,pS s,pA f,pB t,pO c,pE u,pE v,pU b,pT w,pB x]]) (B:=mK n d g T) h (wk [0,1] []) ?_;intro _ st h;obtain⟨I,J⟩:=st;unfold mK at h;conv=>whnf
   refine bq h fun⟨_,_⟩ V h=>⟨_,Codec.at_ rC V,?_⟩;conv=>whnf
   refine⟨id,id,?_⟩;conv=>whnf
   apply ifc h<;>intro i h
   ·conv=>whnf
    refine bq h fun⟨_,_⟩ b0 h=>⟨_,Codec.at_ rC b0,?_⟩;(conv=>whnf);refine bq h fun⟨_,b6,_,_⟩ a9 h=>⟨_,Codec.at_ vd a9,?_⟩;(conv=>whnf);refine bq h fun⟨_,_⟩ a8 h=>⟨_,Codec.at_ rC a8,?_⟩;(conv=>whnf);refine bq h fun⟨_,_,_,_⟩ a5 h=>⟨_,Codec.at_ vd a5,?_⟩;(conv=>whnf);refine bq h fun b7 U h=>⟨_,(vm n _ _ _ U),?_⟩;(conv=>whnf);exact⟨((kwr .i64 ((kwr .i64 ((kwr .i64 (I+1))+((qy b6).length:Int)))+b7)),(kwr .i64 (J+1))),h,wk [0,1] []⟩
   conv=>whnf
   refine zd.fn [1000000] (S:=Int×Int) (fun(E,K)=>[(1,.ptr 0 0),(3,pI E),(4,pI a),(5,.ptr 1 0),(6,pI g),(8,pI K)]) (fun(E,K)=>[.box 68 [pC e],.box 65 [pI y,pP d,pE z,pI A,pS C,pI D,pB j,pI k,pS l,pV m,pT o,pT p,pE q,pS s,pA f,pB t,pO c,pE u,pE v,pU b,pT w,pB x]]) (B:=mL n d g T) h (wk [0,1] []) ?_;intro _ st h;obtain⟨E,K⟩:=st;unfold mL at h;conv=>whnf
   refine bq h fun⟨_,_⟩ b4 h=>⟨_,Codec.at_ rC b4,?_⟩;conv=>whnf
   refine⟨id,id,?_⟩;conv=>whnf
   apply ifc h<;>intro i h
   ·conv=>whnf
    refine bq h fun⟨_,_⟩ b3 h=>⟨_,Codec.at_ rC b3,?_⟩;(conv=>whnf);refine bq h fun⟨_,_,_,_,_⟩ b2 h=>⟨_,Codec.at_ fP b2,?_⟩;(conv=>whnf);refine bq h fun b8 b1 h=>⟨_,(vm n _ _ _ b1),?_⟩;(conv=>whnf);exact⟨((kwr .i64 ((kwr .i64 (E+1))+b8)),(kwr .i64 (K+1))),h,wk [0,1] []⟩
   conv=>whnf
   exact⟨(E,(kwr .i64 (g+1))),h,wk [0,1] []⟩
  conv=>whnf
  refine zd.fn [1000000] (S:=Int×Int) (fun(L,M)=>[(1,.ptr 0 0),(3,pI L),(4,pI a),(5,.ptr 1 0),(9,pI M)]) (fun(L,M)=>[.box 68 [pC e],.box 65 [pI y,pP d,pE z,pI A,pS C,pI D,pB j,pI k,pS l,pV m,pT o,pT p,pE q,pS s,pA f,pB t,pO c,pE u,pE v,pU b,pT w,pB x]]) (B:=mM n f c b H a) h (wk [0,1] []) ?_;intro _ st h;obtain⟨L,M⟩:=st;unfold mM at h;conv=>whnf
  refine⟨id,id,?_⟩;conv=>whnf
  apply ifc h<;>intro i h
  ·conv=>whnf
   refine bq h fun⟨⟨_,_,⟨_,_,_,_,_,_⟩,_,_⟩,_⟩ X h=>⟨_,Codec.at_ Uu X,?_⟩;conv=>whnf
   refine bq h fun b9 W h=>⟨_,(gk n _ _ _ W),?_⟩;conv=>whnf
   exact⟨((kwr .i64 (L+b9)),(kwr .i64 (M+1))),h,wk [0,1] []⟩
  conv=>whnf
  refine zd.fn [1000000] (S:=Int×Int) (fun(N,O)=>[(1,.ptr 0 0),(3,pI N),(4,pI a),(5,.ptr 1 0),(10,pI O)]) (fun(N,O)=>[.box 68 [pC e],.box 65 [pI y,pP d,pE z,pI A,pS C,pI D,pB j,pI k,pS l,pV m,pT o,pT p,pE q,pS s,pA f,pB t,pO c,pE u,pE v,pU b,pT w,pB x]]) (B:=mN n c b H a) h (wk [0,1] []) ?_;intro _ st h;obtain⟨N,O⟩:=st;unfold mN at h;conv=>whnf
  refine⟨id,id,?_⟩;conv=>whnf
  apply ifc h<;>intro i h
  ·conv=>whnf
   refine bq h fun⟨⟨_,_,⟨_,_,_,_,_,_⟩,_,_⟩,_⟩ Z h=>⟨_,Codec.at_ Qg Z,?_⟩;conv=>whnf
   refine bq h fun c0 Y h=>⟨_,(gk n _ _ _ Y),?_⟩;conv=>whnf
   exact⟨((kwr .i64 (N+c0)),(kwr .i64 (O+1))),h,wk [0,1] []⟩
  conv=>whnf
  refine zd.fn [1000000] (S:=Int×Int) (fun(F,P)=>[(1,.ptr 0 0),(3,pI F),(4,pI a),(5,.ptr 1 0),(11,pI P)]) (fun(F,P)=>[.box 68 [pC e],.box 65 [pI y,pP d,pE z,pI A,pS C,pI D,pB j,pI k,pS l,pV m,pT o,pT p,pE q,pS s,pA f,pB t,pO c,pE u,pE v,pU b,pT w,pB x]]) (B:=mO n b H a) h (wk [0,1] []) ?_;intro _ st h;obtain⟨F,P⟩:=st;unfold mO at h;conv=>whnf
  refine⟨id,id,?_⟩;conv=>whnf
  apply ifc h<;>intro i h
  ·conv=>whnf
   refine bq h fun⟨_,_,_,⟨_,_,⟨_,_,_,_,_,_⟩,_,_⟩⟩ a1 h=>⟨_,Codec.at_ mz a1,?_⟩;conv=>whnf
   refine bq h fun b5 a0 h=>⟨_,(gk n _ _ _ a0),?_⟩;conv=>whnf
   exact⟨((kwr .i64 ((kwr .i64 (F+1))+b5)),(kwr .i64 (P+1))),h,wk [0,1] []⟩
  conv=>whnf
  exact⟨(F,(kwr .i64 (a+1))),h,wk [0] []⟩
 obtain rfl:=sj h;conv=>whnf
 try exact Sk
abbrev Up (r:Bool):PV:=PV.bool r
def fF (n:Nat) (b:List SS):LK (Int) (Bool):=fun f a=>
 bif(decide (a<((qy b).length:Int)))then(
 bnd (idx b a) fun g=>
 bnd (vh n g) fun c=>
 bnd (qG ((!(!c))&&(decide (a>0))) (idx b a)) fun d=>
 bnd (qG ((!(!c))&&(decide (a>0))) (idx b (kwr .i64 (a - 1)))) fun e=>
 bif(bif(!c)then true else(bif(decide (a>0))then(Op.bytesLess d e||d==e)else false))then(
 some false)
 else(
 f (kwr .i64 (a+1))))
 else(
 some true)
def gY (n:Nat) (a:List SS):Option (Bool):=
 qU (fF n a) n (0:Int)
theorem sm (n:Nat):∀ (a:List SS) (r:Bool),gY n a=some r->qi TP 60 [PV.sl (qy a)] (Up r):=by
 intro a r h;unfold gY at h;refine zN Tryz.call60 Tryz.func60 [1000000] ?_;conv=>whnf
 refine zd.fn [1000000] (S:=Int) (fun b=>[(0,pT a),(3,pI b)]) (fun b=>[]) (B:=fF n a) h (wk [] []) ?_;intro _ b h;unfold fF at h;conv=>whnf
 apply ifc h<;>intro i h
 ·conv=>whnf
  refine bq h fun _ g h=>⟨_,Codec.at_ rE g,?_⟩;conv=>whnf
  refine bq h fun _ f h=>⟨_,(xg n _ _ f),?_⟩;conv=>whnf
  refine⟨id,id,id,id,?_⟩;conv=>whnf
  refine bq h fun _ e h=>⟨_,fun c=>Codec.at_ rE (qa e c),?_⟩;conv=>whnf
  refine⟨id,id,id,id,?_⟩;conv=>whnf
  refine bq h fun _ d h=>⟨_,fun c=>Codec.at_ rE (qa d c),?_⟩;conv=>whnf
  iterate 6 refine⟨id,?_⟩
  conv=>whnf
  apply ifc h<;>intro i h
  ·obtain rfl:=sj h
   conv=>whnf
   try exact Sk
  conv=>whnf
  exact⟨(kwr .i64 (b+1)),h,wk [] []⟩
 obtain rfl:=sj h;conv=>whnf
 try exact Sk
abbrev dO (r:Bool):PV:=PV.bool r
def cI (n:Nat) (b:List Val) (g44:Val->Option (Bool)):LK (Int) (Bool):=fun c a=>
 bif(decide (a<((Val.rows b).length:Int)))then(
 bnd (idx b a) fun⟨j,k,d,e,f,g⟩=>
 bnd (g44 (Val.mk j k d e f g)) fun i=>
 bif(!i)then(
 some false)
 else(
 c (kwr .i64 (a+1))))
 else(
 some true)
def cW (n:Nat) (g44:Val->Option (Bool)) (b:Val):Option (Bool):=
 match b with
 | ⟨a,_,_,_,c,_⟩=>
 bif(bif(a==6)then true else(a==7))then(
 some false)
 else(
 qU (cI n c g44) n (0:Int))
theorem Xj (n:Nat) (g44:Val->Option (Bool)) (g44_ok:∀ (a:Val) (r:Bool),g44 a=some r->qi TP 44 [PV.agg (xV.cells a)] (dO r)):∀ (a:Val) (r:Bool),cW n g44 a=some r->qi TP 44 [PV.agg (xV.cells a)] (dO r):=by
 intro a r h;obtain⟨g,i,j,k,d,l⟩:=a;unfold cW at h;refine zN Tryz.call44 Tryz.func44 [1000000] ?_;conv=>whnf
 refine⟨id,id,id,?_⟩;conv=>whnf
 apply ifc h<;>intro c h
 ·obtain rfl:=sj h
  conv=>whnf
  try exact Sk
 conv=>whnf
 refine zd.fn [1000000] (S:=Int) (fun b=>[(1,.ptr 0 0),(3,pI b)]) (fun b=>[.box 32 [pI g,pB i,pI j,pS k,pV d,pT l]]) (B:=cI n d g44) h (wk [0] []) ?_;intro _ b h;unfold cI at h;conv=>whnf
 apply ifc h<;>intro c h
 ·conv=>whnf
  refine bq h fun⟨_,_,_,_,_,_⟩ f h=>⟨_,Codec.at_ xV f,?_⟩;conv=>whnf
  refine bq h fun _ e h=>⟨_,(g44_ok _ _ e),?_⟩;conv=>whnf
  apply ifc h<;>intro c h
  ·obtain rfl:=sj h
   conv=>whnf
   try exact Sk
  conv=>whnf
  exact⟨(kwr .i64 (b+1)),h,wk [0] []⟩
 obtain rfl:=sj h;conv=>whnf
 try exact Sk
def vG:Nat->Val->Option (Bool)
 | 0=>fun _=>none
 | n+1=>cW n (vG n)
theorem Xu (n:Nat):(∀ (a:Val) (r:Bool),vG n a=some r->qi TP 44 [PV.agg (xV.cells a)] (dO r)):=by
 induction n with
 | zero=>exact(by intros; rename_i h; cases h)
 | succ n ih=>
  have hg44:=ih;exact Xj n (vG n) hg44
theorem sW (n:Nat):∀ (a:Val) (r:Bool),vG n a=some r->qi TP 44 [PV.agg (xV.cells a)] (dO r):=(Xu n)
abbrev ZR (r:Bool):PV:=PV.bool r
def gl (n:Nat) (i:Val):Option (Bool):=
 match i with
 | ⟨a,b,c,d,e,f⟩=>
 bnd (qG (a != 0) (cY n (Val.mk a b c d e f))) fun g=>
 bnd (qG (bif(a != 0)then g else false) (vG n (Val.mk a b c d e f))) fun j=>
 some (bif(bif(a != 0)then g else false)then j else false)
theorem QB (n:Nat):∀ (a:Val) (r:Bool),gl n a=some r->qi TP 88 [PV.agg (xV.cells a)] (ZR r):=by
 intro a r h;obtain⟨_,_,_,_,_,_⟩:=a;unfold gl at h;refine zN Tryz.call88 Tryz.func88 [1000000] ?_;conv=>whnf
 refine⟨id,?_⟩;conv=>whnf
 refine bq h fun _ d h=>⟨_,fun b=>(bV n _ _ (qa d b)),?_⟩;conv=>whnf
 refine⟨id,id,?_⟩;conv=>whnf
 refine bq h fun _ c h=>⟨_,fun b=>(sW n _ _ (qa c b)),?_⟩;conv=>whnf
 refine⟨id,?_⟩;obtain rfl:=sj h;conv=>whnf
 try exact Sk
abbrev GK (r:Bool):PV:=PV.bool r
def cP (n:Nat) (a:List Val) (b:List SS):LK (Int) (Bool):=fun d c=>
 bif(decide (c<((Val.rows a).length:Int)))then(
 bnd (idx a c) fun⟨g,i,j,k,l,m⟩=>
 bnd (gl n (Val.mk g i j k l m)) fun e=>
 bif(!e)then(
 some false)
 else(
 d (kwr .i64 (c+1))))
 else(
 bnd (qG (((qy b).length:Int)==((Val.rows a).length:Int)) (gY n b)) fun f=>
 some (bif(((qy b).length:Int)==((Val.rows a).length:Int))then f else false))
def cn (n:Nat) (a:List SS) (b:List Val):Option (Bool):=
 qU (cP n b a) n (0:Int)
theorem sX (n:Nat):∀ (a:List SS) (b:List Val) (r:Bool),cn n a b=some r->qi TP 61 [PV.sl (qy a),PV.sl (Val.rows b)] (GK r):=by
 intro a b r h;unfold cn at h;refine zN Tryz.call61 Tryz.func61 [1000000] ?_;conv=>whnf
 refine zd.fn [1000000] (S:=Int) (fun c=>[(0,pT a),(1,pV b),(5,pI c)]) (fun c=>[]) (B:=cP n b a) h (wk [] []) ?_;intro _ c h;unfold cP at h;conv=>whnf
 apply ifc h<;>intro g h
 ·conv=>whnf
  refine bq h fun⟨_,_,_,_,_,_⟩ e h=>⟨_,Codec.at_ xV e,?_⟩;conv=>whnf
  refine bq h fun _ d h=>⟨_,(QB n _ _ d),?_⟩;conv=>whnf
  apply ifc h<;>intro g h
  ·obtain rfl:=sj h
   conv=>whnf
   try exact Sk
  conv=>whnf
  exact⟨(kwr .i64 (c+1)),h,wk [] []⟩
 conv=>whnf
 refine⟨id,?_⟩;conv=>whnf
 refine bq h fun _ f h=>⟨_,fun i=>(sm n _ _ (qa f i)),?_⟩;conv=>whnf
 refine⟨id,?_⟩;obtain rfl:=sj h;conv=>whnf
 try exact Sk
abbrev XN (r:Bool):PV:=PV.bool r
def fD (n:Nat) (c:Node):Option (Bool):=
 match c with
 | ⟨a,d,e,f⟩=>
 bnd (qG (decide (a≥1)) (gY n d)) fun b=>
 bnd (qG (bif(decide (a≥1))then b else false) (cn n e f)) fun g=>
 some (bif(bif(decide (a≥1))then b else false)then g else false)
theorem ZB (n:Nat):∀ (a:Node) (r:Bool),fD n a=some r->qi TP 38 [PV.agg (bU.cells a)] (XN r):=by
 intro a r h;obtain⟨_,_,_,_⟩:=a;unfold fD at h;refine zN Tryz.call38 Tryz.func38 [1000000] ?_;conv=>whnf
 refine⟨id,id,?_⟩;conv=>whnf
 refine bq h fun _ d h=>⟨_,fun b=>(sm n _ _ (qa d b)),?_⟩;conv=>whnf
 refine⟨id,id,id,id,id,?_⟩;conv=>whnf
 refine bq h fun _ c h=>⟨_,fun b=>(sX n _ _ _ (qa c b)),?_⟩;conv=>whnf
 refine⟨id,?_⟩;obtain rfl:=sj h;conv=>whnf
 try exact Sk
abbrev XM (r:Bool):PV:=PV.bool r
def fC (n:Nat) (c:Edge):Option (Bool):=
 match c with
 | ⟨a,_,_,d,e,f⟩=>
 bnd (qG (decide (a≥1)) (vh n d)) fun b=>
 bnd (qG (bif(decide (a≥1))then b else false) (cn n e f)) fun g=>
 some (bif(bif(decide (a≥1))then b else false)then g else false)
theorem ZA (n:Nat):∀ (a:Edge) (r:Bool),fC n a=some r->qi TP 39 [PV.agg (nQ.cells a)] (XM r):=by
 intro a r h;obtain⟨_,_,_,_,_,_⟩:=a;unfold fC at h;refine zN Tryz.call39 Tryz.func39 [1000000] ?_;conv=>whnf
 refine⟨id,id,?_⟩;conv=>whnf
 refine bq h fun _ d h=>⟨_,fun b=>(xg n _ _ (qa d b)),?_⟩;conv=>whnf
 refine⟨id,id,id,id,id,?_⟩;conv=>whnf
 refine bq h fun _ c h=>⟨_,fun b=>(sX n _ _ _ (qa c b)),?_⟩;conv=>whnf
 refine⟨id,?_⟩;obtain rfl:=sj h;conv=>whnf
 try exact Sk
abbrev Uo (r:Int):PV:=PV.int .i64 r
def fE (n:Nat) (b:List Node) (d:Int):LK (Int) (Int):=fun c a=>
 bif(decide (a<((Node.rows b).length:Int)))then(
 bnd (idx b a) fun⟨e,_,_,_⟩=>
 bif(e==d)then(
 some a)
 else(
 c (kwr .i64 (a+1))))
 else(
 some (-1:Int))
def gX (n:Nat) (a:Graph) (c:Int):Option (Int):=
 match a with
 | ⟨b,_⟩=>
 qU (fE n b c) n (0:Int)
theorem si (n:Nat):∀ (b:Graph) (a r:Int),gX n b a=some r->qi TP 32 [PV.agg (df.cells b),PV.int .i64 a] (Uo r):=by
 intro b a r h;obtain⟨d,g⟩:=b;unfold gX at h;refine zN Tryz.call32 Tryz.func32 [1000000] ?_;conv=>whnf
 refine zd.fn [1000000] (S:=Int) (fun c=>[(1,pI a),(2,.ptr 0 0),(5,pI c)]) (fun c=>[.box 30 [.p (.sl (Node.rows d)),.p (.sl (Edge.rows g))]]) (B:=fE n d a) h (wk [0] []) ?_;intro _ c h;unfold fE at h;conv=>whnf
 apply ifc h<;>intro f h
 ·conv=>whnf
  refine bq h fun⟨_,_,_,_⟩ e h=>⟨_,Codec.at_ bU e,?_⟩;conv=>whnf
  apply ifc h<;>intro f h
  ·obtain rfl:=sj h
   conv=>whnf
   try exact Sk
  conv=>whnf
  exact⟨(kwr .i64 (c+1)),h,wk [0] []⟩
 obtain rfl:=sj h;conv=>whnf
 try exact Sk
abbrev Bt (r:Bool):PV:=PV.bool r
def mj (n:Nat) (b:List Edge) (e:List Node):LK (Int) (Bool):=fun k a=>
 bif(decide (a<((Edge.rows b).length:Int)))then(
 bnd (idx b a) fun⟨c,g,i,l,m,o⟩=>
 bnd (fC n (Edge.mk c g i l m o)) fun d=>
 bnd (qG ((!(!d))&&(decide (a>0))) (idx b (kwr .i64 (a - 1)))) fun⟨f,_,_,_,_,_⟩=>
 bnd (qG (!(bif(!d)then true else(bif(decide (a>0))then(decide (c<=f))else false))) (gX n (Graph.mk e b) g)) fun j=>
 bnd (qG (!(bif(bif(!d)then true else(bif(decide (a>0))then(decide (c<=f))else false))then true else(decide (j<0)))) (gX n (Graph.mk e b) i)) fun p=>
 bif(bif(bif(bif(!d)then true else(bif(decide (a>0))then(decide (c<=f))else false))then true else(decide (j<0)))then true else(decide (p<0)))then(
 some false)
 else(
 k (kwr .i64 (a+1))))
 else(
 some (bif(decide (((Node.rows e).length:Int)<=4096))then(decide (((Edge.rows b).length:Int)<=4096))else false))
def mi (n:Nat) (b:List Node) (f:List Edge):LK (Int) (Bool):=fun d a=>
 bif(decide (a<((Node.rows b).length:Int)))then(
 bnd (idx b a) fun⟨g,i,j,k⟩=>
 bnd (fD n (Node.mk g i j k)) fun c=>
 bnd (qG ((!(!c))&&(decide (a>0))) (idx b a)) fun⟨l,_,_,_⟩=>
 bnd (qG ((!(!c))&&(decide (a>0))) (idx b (kwr .i64 (a - 1)))) fun⟨e,_,_,_⟩=>
 bif(bif(!c)then true else(bif(decide (a>0))then(decide (l<=e))else false))then(
 some false)
 else(
 d (kwr .i64 (a+1))))
 else(
 qU (mj n f b) n (0:Int))
def bG (n:Nat) (a:Graph):Option (Bool):=
 match a with
 | ⟨b,c⟩=>
 qU (mi n b c) n (0:Int)
theorem FH (n:Nat):∀ (b:Graph) (r:Bool),bG n b=some r->qi TP 19 [PV.agg (df.cells b)] (Bt r):=by
 intro b r h;obtain⟨c,e⟩:=b;unfold bG at h;refine zN Tryz.call19 Tryz.func19 [1000000] ?_;conv=>whnf
 refine zd.fn [1000000] (S:=Int) (fun f=>[(1,.ptr 0 0),(3,pI f)]) (fun f=>[.box 30 [.p (.sl (Node.rows c)),.p (.sl (Edge.rows e))]]) (B:=mi n c e) h (wk [0] []) ?_;intro _ f h;unfold mi at h;conv=>whnf
 apply ifc h<;>intro g h
 ·conv=>whnf
  refine bq h fun⟨_,_,_,_⟩ l h=>⟨_,Codec.at_ bU l,?_⟩;conv=>whnf
  refine bq h fun _ k h=>⟨_,(ZB n _ _ k),?_⟩;conv=>whnf
  refine⟨id,id,id,id,id,?_⟩;conv=>whnf
  refine bq h fun⟨_,_,_,_⟩ j h=>⟨_,fun a=>Codec.at_ bU (qa j a),?_⟩;conv=>whnf
  iterate 6 refine⟨id,?_⟩
  conv=>whnf
  refine bq h fun⟨_,_,_,_⟩ i h=>⟨_,fun a=>Codec.at_ bU (qa i a),?_⟩;conv=>whnf
  iterate 7 refine⟨id,?_⟩
  conv=>whnf
  apply ifc h<;>intro g h
  ·obtain rfl:=sj h
   conv=>whnf
   try exact Sk
  conv=>whnf
  exact⟨(kwr .i64 (f+1)),h,wk [0] []⟩
 conv=>whnf
 refine zd.fn [1000000] (S:=Int) (fun d=>[(1,.ptr 0 0),(4,pI d)]) (fun d=>[.box 30 [.p (.sl (Node.rows c)),.p (.sl (Edge.rows e))]]) (B:=mj n e c) h (wk [0] []) ?_;intro _ d h;unfold mj at h;conv=>whnf
 apply ifc h<;>intro g h
 ·conv=>whnf
  refine bq h fun⟨_,_,_,_,_,_⟩ t h=>⟨_,Codec.at_ nQ t,?_⟩;conv=>whnf
  refine bq h fun _ s h=>⟨_,(ZA n _ _ s),?_⟩;conv=>whnf
  iterate 7 refine⟨id,?_⟩
  conv=>whnf
  refine bq h fun⟨_,_,_,_,_,_⟩ q h=>⟨_,fun a=>Codec.at_ nQ (qa q a),?_⟩;conv=>whnf
  iterate 10 refine⟨id,?_⟩
  conv=>whnf
  refine bq h fun _ o h=>⟨_,fun a=>(si n _ _ _ (qa o a)),?_⟩;conv=>whnf
  refine⟨id,id,id,id,id,?_⟩;conv=>whnf
  refine bq h fun _ m h=>⟨_,fun a=>(si n _ _ _ (qa m a)),?_⟩;conv=>whnf
  refine⟨id,id,?_⟩;conv=>whnf
  apply ifc h<;>intro g h
  ·obtain rfl:=sj h
   conv=>whnf
   try exact Sk
  conv=>whnf
  exact⟨(kwr .i64 (d+1)),h,wk [0] []⟩
 conv=>whnf
 refine⟨id,id,id,id,?_⟩;obtain rfl:=sj h;conv=>whnf
 try exact Sk
abbrev FX (r:Bool):PV:=PV.bool r
def dK (n:Nat) (b:List Edge):LK (Int) (Bool):=fun c a=>
 bif(decide (a<((Edge.rows b).length:Int)))then(
 bnd (idx b a) fun⟨_,_,_,_,d,_⟩=>
 bif(decide (((qy d).length:Int)>1000))then(
 some false)
 else(
 c (kwr .i64 (a+1))))
 else(
 some true)
def dJ (n:Nat) (b:List Node) (f:List Edge):LK (Int) (Bool):=fun d a=>
 bif(decide (a<((Node.rows b).length:Int)))then(
 bnd (idx b a) fun⟨_,c,_,_⟩=>
 bnd (qG (!(decide (((qy c).length:Int)>1000))) (idx b a)) fun⟨_,_,e,_⟩=>
 bif(bif(decide (((qy c).length:Int)>1000))then true else(decide (((qy e).length:Int)>1000)))then(
 some false)
 else(
 d (kwr .i64 (a+1))))
 else(
 qU (dK n f) n (0:Int))
def cm (n:Nat) (a:Graph):Option (Bool):=
 match a with
 | ⟨b,c⟩=>
 qU (dJ n b c) n (0:Int)
theorem Gp (n:Nat):∀ (a:Graph) (r:Bool),cm n a=some r->qi TP 20 [PV.agg (df.cells a)] (FX r):=by
 intro a r h;obtain⟨f,c⟩:=a;unfold cm at h;refine zN Tryz.call20 Tryz.func20 [1000000] ?_;conv=>whnf
 refine zd.fn [1000000] (S:=Int) (fun d=>[(1,.ptr 0 0),(3,pI d)]) (fun d=>[.box 30 [.p (.sl (Node.rows f)),.p (.sl (Edge.rows c))]]) (B:=dJ n f c) h (wk [0] []) ?_;intro _ d h;unfold dJ at h;conv=>whnf
 apply ifc h<;>intro e h
 ·conv=>whnf
  refine bq h fun⟨_,_,_,_⟩ i h=>⟨_,Codec.at_ bU i,?_⟩;conv=>whnf
  refine⟨id,id,id,?_⟩;conv=>whnf
  refine bq h fun⟨_,_,_,_⟩ g h=>⟨_,fun k=>Codec.at_ bU (qa g k),?_⟩;conv=>whnf
  refine⟨id,id,id,id,id,?_⟩;conv=>whnf
  apply ifc h<;>intro e h
  ·obtain rfl:=sj h
   conv=>whnf
   try exact Sk
  conv=>whnf
  exact⟨(kwr .i64 (d+1)),h,wk [0] []⟩
 conv=>whnf
 refine zd.fn [1000000] (S:=Int) (fun b=>[(1,.ptr 0 0),(4,pI b)]) (fun b=>[.box 30 [.p (.sl (Node.rows f)),.p (.sl (Edge.rows c))]]) (B:=dK n c) h (wk [0] []) ?_;intro _ b h;unfold dK at h;conv=>whnf
 apply ifc h<;>intro e h
 ·conv=>whnf
  refine bq h fun⟨_,_,_,_,_,_⟩ j h=>⟨_,Codec.at_ nQ j,?_⟩;conv=>whnf
  apply ifc h<;>intro e h
  ·obtain rfl:=sj h
   conv=>whnf
   try exact Sk
  conv=>whnf
  exact⟨(kwr .i64 (b+1)),h,wk [0] []⟩
 obtain rfl:=sj h;conv=>whnf
 try exact Sk
abbrev GL (r:Bool):PV:=PV.bool r
def gm (n:Nat) (g:List zj) (c:Int) (b:List Edge) (e:Int×Int->Option (Bool)):LK (Int×Int) (Bool):=fun f (a,d)=>
 bnd (idx g c) fun⟨_,i⟩=>
 bif(decide (d<((qh.rows i).length:Int)))then(
 bif(decide ((kwr .i64 (a * (kwr .i64 (((Edge.rows b).length:Int)+1))))>20000))then(
 some true)
 else(
 f ((kwr .i64 (a * (kwr .i64 (((Edge.rows b).length:Int)+1)))),(kwr .i64 (d+1)))))
 else(
 e (a,(kwr .i64 (c+1))))
def cQ (n:Nat) (a:List zj) (b:List Node) (f:List Edge):LK (Int×Int) (Bool):=fun e (c,d)=>
 bif(decide (d<((zj.rows a).length:Int)))then(
 bif(decide ((kwr .i64 (c * (kwr .i64 (((Node.rows b).length:Int)+1))))>20000))then(
 some true)
 else(
 qU (gm n a d f e) n ((kwr .i64 (c * (kwr .i64 (((Node.rows b).length:Int)+1)))),(0:Int))))
 else(
 some false)
def cq (n:Nat) (b:List zj) (a:Graph):Option (Bool):=
 match a with
 | ⟨c,d⟩=>
 qU (cQ n b c d) n ((1:Int),(0:Int))
theorem VT (n:Nat):∀ (a:List zj) (e:Graph) (r:Bool),cq n a e=some r->qi TP 21 [PV.sl (zj.rows a),PV.agg (df.cells e)] (GL r):=by
 intro a e r h;obtain⟨i,c⟩:=e;unfold cq at h;refine zN Tryz.call21 Tryz.func21 [1000000] ?_;conv=>whnf
 refine zd.fn [1000000] (S:=Int×Int) (fun(j,b)=>[(0,pP a),(3,.ptr 0 0),(5,pI j),(6,pI b)]) (fun(j,b)=>[.box 30 [.p (.sl (Node.rows i)),.p (.sl (Edge.rows c))]]) (B:=cQ n a i c) h (wk [0] []) ?_;intro l st h;obtain⟨j,b⟩:=st;unfold cQ at h;conv=>whnf
 apply ifc h<;>intro g h
 ·conv=>whnf
  apply ifc h<;>intro g h
  ·obtain rfl:=sj h
   conv=>whnf
   try exact Sk
  conv=>whnf
  refine zd.fn [1000000] (S:=Int×Int) (fun(d,f)=>[(0,pP a),(3,.ptr 0 0),(5,pI d),(6,pI b),(7,pI f)]) (fun(d,f)=>[.box 30 [.p (.sl (Node.rows i)),.p (.sl (Edge.rows c))]]) (B:=gm n a b c l) h (wk [0] []) ?_;intro _ st h;obtain⟨d,f⟩:=st;unfold gm at h;conv=>whnf
  refine bq h fun⟨_,_⟩ k h=>⟨_,Codec.at_ rC k,?_⟩;conv=>whnf
  apply ifc h<;>intro g h
  ·conv=>whnf
   apply ifc h<;>intro g h
   ·obtain rfl:=sj h
    conv=>whnf
    try exact Sk
   conv=>whnf
   exact⟨((kwr .i64 (d * (kwr .i64 (((Edge.rows c).length:Int)+1)))),(kwr .i64 (f+1))),h,wk [0] []⟩
  conv=>whnf
  exact⟨(d,(kwr .i64 (b+1))),h,wk [0] []⟩
 obtain rfl:=sj h;conv=>whnf
 try exact Sk
end W
end
section
set_option maxRecDepth 100000
set_option maxHeartbeats 20000000
open Go Go.Proofs Ax
namespace W
abbrev Uq (r:Bool):PV:=PV.bool r
def bH (n:Nat) (a:List Val) (d:List SS):LK (Int) (Bool):=fun c b=>
 bif(decide (b<((Val.rows a).length:Int)))then(
 bnd (idx a b) fun⟨f,g,i,j,k,l⟩=>
 bnd (cY n (Val.mk f g i j k l)) fun e=>
 bif(!e)then(
 some false)
 else(
 c (kwr .i64 (b+1))))
 else(
 some (((qy d).length:Int)==((Val.rows a).length:Int)))
def db (n:Nat) (a:Env):Option (Bool):=
 match a with
 | ⟨b,c⟩=>
 qU (bH n c b) n (0:Int)
theorem XD (n:Nat):∀ (a:Env) (r:Bool),db n a=some r->qi TP 23 [PV.agg (MJ.cells a)] (Uq r):=by
 intro a r h;obtain⟨c,d⟩:=a;unfold db at h;refine zN Tryz.call23 Tryz.func23 [1000000] ?_;conv=>whnf
 refine zd.fn [1000000] (S:=Int) (fun b=>[(1,.ptr 0 0),(3,pI b)]) (fun b=>[.box 26 [pT c,pV d]]) (B:=bH n d c) h (wk [0] []) ?_;intro _ b h;unfold bH at h;conv=>whnf
 apply ifc h<;>intro g h
 ·conv=>whnf
  refine bq h fun⟨_,_,_,_,_,_⟩ f h=>⟨_,Codec.at_ xV f,?_⟩;conv=>whnf
  refine bq h fun _ e h=>⟨_,(bV n _ _ e),?_⟩;conv=>whnf
  apply ifc h<;>intro g h
  ·obtain rfl:=sj h
   conv=>whnf
   try exact Sk
  conv=>whnf
  exact⟨(kwr .i64 (b+1)),h,wk [0] []⟩
 obtain rfl:=sj h;conv=>whnf
 try exact Sk
abbrev QL (r:Bool):PV:=PV.bool r
def vu (n:Nat) (i:Val):Option (Bool):=
 match i with
 | ⟨a,b,c,d,e,f⟩=>
 bnd (qG (a==5) (cY n (Val.mk a b c d e f))) fun g=>
 bnd (qG (bif(a==5)then g else false) (vG n (Val.mk a b c d e f))) fun j=>
 some (bif(bif(a==5)then g else false)then j else false)
theorem tP (n:Nat):∀ (a:Val) (r:Bool),vu n a=some r->qi TP 24 [PV.agg (xV.cells a)] (QL r):=by
 intro a r h;obtain⟨_,_,_,_,_,_⟩:=a;unfold vu at h;refine zN Tryz.call24 Tryz.func24 [1000000] ?_;conv=>whnf
 refine⟨id,?_⟩;conv=>whnf
 refine bq h fun _ d h=>⟨_,fun b=>(bV n _ _ (qa d b)),?_⟩;conv=>whnf
 refine⟨id,id,?_⟩;conv=>whnf
 refine bq h fun _ c h=>⟨_,fun b=>(sW n _ _ (qa c b)),?_⟩;conv=>whnf
 refine⟨id,?_⟩;obtain rfl:=sj h;conv=>whnf
 try exact Sk
abbrev FL (r:Graph):PV:=PV.agg (df.cells r)
def Qt (n:Nat):Option (Graph):=
 some (Graph.mk [Node.mk (1:Int) [([65]:SS)] ([]:List SS) ([]:List Val),Node.mk (2:Int) ([]:List SS) ([]:List SS) ([]:List Val)] [Edge.mk (5:Int) (1:Int) (2:Int) ([84]:SS) ([]:List SS) ([]:List Val),Edge.mk (6:Int) (2:Int) (2:Int) ([85]:SS) ([]:List SS) ([]:List Val)])
theorem Gg (n:Nat):∀ (r:Graph),Qt n=some r->qi TP 25 [] (FL r):=by
 intro r h;unfold Qt at h;refine zN Tryz.call25 Tryz.func25 [1000000] ?_;conv=>whnf
 refine⟨Codec.one rE [([65]:SS)],qy [([65]:SS)],.inl rfl,?_⟩;conv=>whnf
 refine⟨by repeat (first|exact List.forall_mem_nil _|refine List.forall_mem_cons.2 ⟨⟨rfl,rfl⟩,?_⟩),Node.rows [Node.mk (1:Int) [([65]:SS)] ([]:List SS) ([]:List Val),Node.mk (2:Int) ([]:List SS) ([]:List SS) ([]:List Val)],.inr (by try exact Sk),?_⟩;conv=>whnf
 refine⟨by repeat (first|exact List.forall_mem_nil _|refine List.forall_mem_cons.2 ⟨⟨rfl,rfl⟩,?_⟩),Edge.rows [Edge.mk (5:Int) (1:Int) (2:Int) ([84]:SS) ([]:List SS) ([]:List Val),Edge.mk (6:Int) (2:Int) (2:Int) ([85]:SS) ([]:List SS) ([]:List Val)],.inr (by try exact Sk),?_⟩;obtain rfl:=sj h;conv=>whnf
 try exact Sk
def XE (n:Nat) (_x:qb) (_e:Env) (_g:Graph) (_p:Val):Option (Val×Int):=none
theorem VU (n:Nat):∀ (x:qb) (e:Env) (g:Graph) (p:Val) (r:Val×Int),XE n x e g p=some r->qi TP 95 [PV.agg (zU.cells x),PV.agg (MJ.cells e),PV.agg (df.cells g),PV.agg (xV.cells p)] (PV.tup [PV.agg (xV.cells r.1),PV.int .i64 r.2]):=by
 intro x e g p r h;cases h
abbrev XP (r:fV×Int):PV:=PV.tup [PV.agg (Xa.cells r.1),PV.int .i64 r.2]
def dy (n:Nat) (k:List qb) (G:List SS) (H:List Val) (I:List Node) (J:List Edge) (K:Int) (o:Bool) (p:Int) (q:SS) (s:List Val) (t:List SS) (m:SS) (x F:List SS):LK (Int×List Val) (fV×Int):=fun l (a,b)=>
 bif(decide (a<((qb.rows k).length:Int)))then(
 bnd (idx k a) fun⟨u,v,⟨w,y,z,A,B,C⟩,D,E⟩=>
 bnd (XE n (qb.mk u v (Val.mk w y z A B C) D E) (Env.mk G H) (Graph.mk I J) (Val.mk K o p q s t)) fun⟨⟨c,d,e,f,g,i⟩,j⟩=>
 bif(j != 0)then(
 some (fV.mk ([]:SS) ([]:List SS) ([]:List SS) ([]:List Val),j))
 else(
 chk (decide ((Val.rows (b++[Val.mk c d e f g i])).length * 88<=140737488355328)) (
 l ((kwr .i64 (a+1)),(b++[Val.mk c d e f g i])))))
 else(
 some (fV.mk m x F b,(0:Int)))
def dM (n:Nat) (d:SS) (k l:List SS) (m:List qb) (a:Env) (b:Graph) (c:Val):Option (fV×Int):=
 match a,b,c with
 | ⟨o,p⟩,⟨q,s⟩,⟨t,e,f,g,i,j⟩=>
 qU (dy n m o p q s t e f g i j d k l) n ((0:Int),([]:List _))
theorem rK (n:Nat):∀ (j:SS) (k l:List SS) (i:List qb) (m:Env) (o:Graph) (q:Val) (r:fV×Int),dM n j k l i m o q=some r->qi TP 66 [PV.str j,PV.sl (qy k),PV.sl (qy l),PV.sl (qb.rows i),PV.agg (MJ.cells m),PV.agg (df.cells o),PV.agg (xV.cells q)] (XP r):=by
 intro j k l i m o q r h;obtain⟨z,A⟩:=m;obtain⟨C,D⟩:=o;obtain⟨E,u,v,w,x,y⟩:=q;unfold dM at h;refine zN Tryz.call66 Tryz.func66 [1000000] ?_;conv=>whnf
 refine zd.fn [1000000] (S:=Int×List Val) (fun(s,a)=>[(11,.ptr 0 0),(12,.ptr 1 0),(13,.ptr 2 0),(14,.ptr 3 0),(16,.ptr 4 0),(25,pE i),(26,.p (.int .i64 ((qb.rows i).length:Int))),(27,pI s)]) (fun(s,a)=>[.box 26 [pT z,pV A],.box 30 [.p (.sl (Node.rows C)),.p (.sl (Edge.rows D))],.box 32 [pI E,pB u,pI v,pS w,pV x,pT y],.box 149 [SU,SV,SV,SV],.box 149 [pS j,pT k,pT l,.tsl 5 (Val.rows a)],.tail 32 6 (Val.rows a).length]) (B:=dy n i z A C D E u v w x y j k l) h (wk [0,1,2,3,4,0] [5]) ?_;intro _ st h;obtain⟨s,a⟩:=st;unfold dy at h;conv=>whnf
 apply ifc h<;>intro H h
 ·conv=>whnf
  refine bq h fun⟨_,_,⟨_,_,_,_,_,_⟩,_,_⟩ G h=>⟨_,Codec.at_ zU G,?_⟩;conv=>whnf
  refine bq h fun⟨⟨b,c,d,e,f,g⟩,_⟩ F h=>⟨_,(VU n _ _ _ _ _ F),?_⟩;conv=>whnf
  apply ifc h<;>intro H h
  ·obtain rfl:=sj h
   conv=>whnf
   try exact Sk
  conv=>whnf
  refine⟨Codec.one xV [Val.mk b c d e f g],Val.rows [Val.mk b c d e f g],.inl rfl,?_⟩;conv=>whnf
  rw[show Val.rows a++Val.rows [Val.mk b c d e f g]=Val.rows (a++[Val.mk b c d e f g])from Codec.append xV a [Val.mk b c d e f g]];conv=>whnf
  obtain⟨t,h⟩:=qL h;refine⟨⟨Codec.wide xV (a++[Val.mk b c d e f g]),kod t,xK t (by decide)⟩,?_⟩;conv=>whnf
  refine⟨⟨rfl,rfl,rfl⟩,?_⟩;conv=>whnf
  exact⟨((kwr .i64 (s+1)),(a++[Val.mk b c d e f g])),h,wk [0,1,2,3,4,8] []⟩
 obtain rfl:=sj h;conv=>whnf
 try exact Sk
abbrev dB (r:List qK×Int):PV:=PV.tup [PV.sl (qK.rows r.1),PV.int .i64 r.2]
def uj (n:Nat) (a:Int×SS×List SS×List SS×List Val×List RX->Option (List qK×Int)) (b:Int):SS×List SS×List SS×List Val×List RX->Option (List qK×Int):=fun(c,d,e,f,g)=>
 a ((kwr .i64 (b+1)),c,d,e,f,g)
def uk (n:Nat) (y:SS) (z A:List SS) (C:List qb) (w:List SS) (B:List Val) (D:List Node) (E:List Edge) (F:Int) (G:Bool) (H:Int) (I:SS) (q:List Val) (s:List SS) (a:Int) (g:Int×SS×List SS×List SS×List Val×List RX->Option (List qK×Int)) (b:List RX) (t:SS) (u v:List SS) (x:List Val):SS×List SS×List SS×List Val×SS×Int->Option (List qK×Int):=fun(i,j,k,l,m,o)=>
 bnd (dM n y z A C (Env.mk w B) (Graph.mk D E) (Val.mk F G H I q s)) fun⟨⟨c,d,e,f⟩,p⟩=>
 bif(p != 0)then(
 some (([]:List qK),p))
 else(
 bif(a==0)then(
 uj n g a (c,d,e,f,b))
 else(
 chk (decide ((RX.rows (b++[RX.mk (fV.mk i j k l) m o (fV.mk c d e f)])).length * 200<=140737488355328)) (
 uj n g a (t,u,v,x,(b++[RX.mk (fV.mk i j k l) m o (fV.mk c d e f)])))))
def cu (n:Nat) (v:List qd) (D:List qh) (j:List SS) (k:List Val) (l:List Node) (m:List Edge) (o:Int) (p:Bool) (q:Int) (s:SS) (g:List Val) (i:List SS) (u:List qK) (B:List qK×Int->Option (List qK×Int)) (C:Int):LK (Int×SS×List SS×List SS×List Val×List RX) (List qK×Int):=fun t (a,b,c,d,e,f)=>
 bif(decide (a<((qd.rows v).length:Int)))then(
 bnd (idx v a) fun⟨w,x,y,z⟩=>
 bif(decide (a>0))then(
 bnd (idx D (kwr .i64 (a - 1))) fun⟨E,F,G,H,I⟩=>
 bnd (dM n E ([]:List SS) H I (Env.mk j k) (Graph.mk l m) (Val.mk o p q s g i)) fun⟨⟨J,K,L,M⟩,A⟩=>
 bif(A != 0)then(
 some (([]:List qK),A))
 else(
 uk n w x y z j k l m o p q s g i a t f b c d e (J,K,L,M,F,G)))
 else(
 uk n w x y z j k l m o p q s g i a t f b c d e (([]:SS),([]:List _),([]:List _),([]:List _),([]:SS),(0:Int))))
 else(
 chk (decide ((qK.rows (u++[qK.mk (fV.mk b c d e) f])).length * 112<=140737488355328)) (
 B ((u++[qK.mk (fV.mk b c d e) f]),(kwr .i64 (C+1)))))
def ct (n:Nat) (b:List zj) (j:List SS) (k:List Val) (l:List Node) (m:List Edge) (o:Int) (p:Bool) (q:Int) (s:SS) (e:List Val) (f:List SS):LK (List qK×Int) (List qK×Int):=fun d (c,a)=>
 bif(decide (a<((zj.rows b).length:Int)))then(
 bnd (idx b a) fun⟨g,i⟩=>
 qU (cu n g i j k l m o p q s e f c d a) n ((0:Int),([]:SS),([]:List _),([]:List _),([]:List _),([]:List _)))
 else(
 some (c,(0:Int)))
def xz (n:Nat) (d:List zj) (a:Env) (b:Graph) (c:Val):Option (List qK×Int):=
 match a,b,c with
 | ⟨g,i⟩,⟨j,k⟩,⟨l,m,o,p,e,f⟩=>
 qU (ct n d g i j k l m o p e f) n (([]:List _),(0:Int))
theorem QG (n:Nat):∀ (g:List zj) (L:Env) (M:Graph) (N:Val) (r:List qK×Int),xz n g L M N=some r->qi TP 45 [PV.sl (zj.rows g),PV.agg (MJ.cells L),PV.agg (df.cells M),PV.agg (xV.cells N)] (dB r):=by
 intro g L M N r h;obtain⟨A,C⟩:=L;obtain⟨D,E⟩:=M;obtain⟨F,G,H,I,y,z⟩:=N;unfold xz at h;refine zN Tryz.call45 Tryz.func45 [1000000] ?_;conv=>whnf
 refine zd.fn [1000000] (S:=List qK×Int) (fun(b,t)=>[(5,.ptr 0 0),(6,.ptr 1 0),(7,.ptr 2 0),(10,.tsl 3 (qK.rows b)),(22,pP g),(23,.p (.int .i64 ((zj.rows g).length:Int))),(24,pI t)]) (fun(b,t)=>[.box 26 [pT A,pV C],.box 30 [.p (.sl (Node.rows D)),.p (.sl (Edge.rows E))],.box 32 [pI F,pB G,pI H,pS I,pV y,pT z],.tail 152 5 (qK.rows b).length]) (B:=ct n g A C D E F G H I y z) h (wk [0,1,2,0] [3]) ?_;intro a6 st h;obtain⟨b,t⟩:=st;unfold ct at h;conv=>whnf
 apply ifc h<;>intro J h
 ·conv=>whnf
  refine bq h fun⟨i,O⟩ a5 h=>⟨_,Codec.at_ rC a5,?_⟩;conv=>whnf
  refine zd.fn [1000000] (S:=Int×SS×List SS×List SS×List Val×List RX) (fun(s,c,d,e,f,a)=>[(5,.ptr 0 0),(6,.ptr 1 0),(7,.ptr 2 0),(10,.tsl 3 (qK.rows b)),(12,.ptr 4 0),(13,.ptr 5 0),(22,pP g),(23,.p (.int .i64 ((zj.rows g).length:Int))),(24,pI t),(29,pN i),(30,.p (.int .i64 ((qd.rows i).length:Int))),(31,pI s)]) (fun(s,c,d,e,f,a)=>[.box 26 [pT A,pV C],.box 30 [.p (.sl (Node.rows D)),.p (.sl (Edge.rows E))],.box 32 [pI F,pB G,pI H,pS I,pV y,pT z],.tail 152 5 (qK.rows b).length,.box 49 [pN i,pG O],.box 152 [pS c,pT d,pT e,pV f,.tsl 6 (RX.rows a)],.tail 154 10 (RX.rows a).length]) (B:=cu n i O A C D E F G H I y z b a6 t) h (wk [0,1,2,3,4,5,0] [6]) ?_;intro W st h;obtain⟨s,c,d,e,f,a⟩:=st;unfold cu at h;conv=>whnf
  apply ifc h<;>intro J h
  ·conv=>whnf
   refine nu.cut (S:=SS×List SS×List SS×List Val×List RX) (fun(P,Q,R,T,K)=>[(5,.ptr 0 0),(6,.ptr 1 0),(7,.ptr 2 0),(10,.tsl 3 (qK.rows b)),(12,.ptr 4 0),(13,.ptr 5 0),(22,pP g),(23,.p (.int .i64 ((zj.rows g).length:Int))),(24,pI t),(29,pN i),(30,.p (.int .i64 ((qd.rows i).length:Int))),(31,pI s)]) (fun(P,Q,R,T,K)=>[.box 26 [pT A,pV C],.box 30 [.p (.sl (Node.rows D)),.p (.sl (Edge.rows E))],.box 32 [pI F,pB G,pI H,pS I,pV y,pT z],.tail 152 5 (qK.rows b).length,.box 49 [pN i,pG O],.box 152 [pS P,pT Q,pT R,pV T,.tsl 6 (RX.rows K)],.tail 154 10 (RX.rows K).length]) (uj n W s) (r:=r) ?_ ?_
   ·intro st h
    obtain⟨P,Q,R,T,K⟩:=st;unfold uj at h;(conv=>whnf);exact⟨((kwr .i64 (s+1)),P,Q,R,T,K),h,wk [0,1,2,3,4,5,6] []⟩
   conv=>whnf
   refine bq h fun⟨X,Y,Z,a0⟩ a4 h=>⟨_,Codec.at_ vd a4,?_⟩;conv=>whnf
   refine nu.cut (S:=SS×List SS×List SS×List Val×SS×Int) (fun(j,k,l,m,o,q)=>[(5,.ptr 0 0),(6,.ptr 1 0),(7,.ptr 2 0),(10,.tsl 3 (qK.rows b)),(12,.ptr 4 0),(13,.ptr 5 0),(14,pI s),(15,.ptr 6 0),(16,.ptr 7 0),(22,pP g),(23,.p (.int .i64 ((zj.rows g).length:Int))),(24,pI t),(29,pN i),(30,.p (.int .i64 ((qd.rows i).length:Int))),(31,pI s)]) (fun(j,k,l,m,o,q)=>[.box 26 [pT A,pV C],.box 30 [.p (.sl (Node.rows D)),.p (.sl (Edge.rows E))],.box 32 [pI F,pB G,pI H,pS I,pV y,pT z],.tail 152 5 (qK.rows b).length,.box 49 [pN i,pG O],.box 152 [pS c,pT d,pT e,pV f,.tsl 8 (RX.rows a)],.box 85 [pS X,pT Y,pT Z,pE a0],.box 154 [pS j,pT k,pT l,pV m,pS o,pI q,SU,SV,SV,SV],.tail 154 10 (RX.rows a).length]) (uk n X Y Z a0 A C D E F G H I y z s W a c d e f) (r:=r) ?_ ?_
   ·intro st h
    obtain⟨j,k,l,m,o,q⟩:=st;unfold uk at h;(conv=>whnf);refine bq h fun⟨⟨u,v,w,x⟩,_⟩ a1 h=>⟨_,(rK n _ _ _ _ _ _ _ _ a1),?_⟩;(conv=>whnf);apply ifc h<;>intro J h
    ·obtain rfl:=sj h
     conv=>whnf
     try exact Sk
    (conv=>whnf);apply ifc h<;>intro J h
    ·conv=>whnf
     exact⟨(u,v,w,x,a),h,wk [0,1,2,3,4,5,8] []⟩
    (conv=>whnf);refine⟨Codec.one Ld [RX.mk (fV.mk j k l m) o q (fV.mk u v w x)],RX.rows [RX.mk (fV.mk j k l m) o q (fV.mk u v w x)],.inl rfl,?_⟩
    (conv=>whnf);rw[show RX.rows a++RX.rows [RX.mk (fV.mk j k l m) o q (fV.mk u v w x)]=RX.rows (a++[RX.mk (fV.mk j k l m) o q (fV.mk u v w x)])from Codec.append Ld a [RX.mk (fV.mk j k l m) o q (fV.mk u v w x)]]
    (conv=>whnf);obtain⟨U,h⟩:=qL h
    refine⟨⟨Codec.wide Ld (a++[RX.mk (fV.mk j k l m) o q (fV.mk u v w x)]),kod U,xK U (by decide)⟩,?_⟩;(conv=>whnf);refine⟨⟨rfl,rfl,rfl⟩,?_⟩;(conv=>whnf);exact⟨(c,d,e,f,(a++[RX.mk (fV.mk j k l m) o q (fV.mk u v w x)])),h,wk [0,1,2,3,4,5,10] []⟩
   conv=>whnf
   apply ifc h<;>intro J h
   ·conv=>whnf
    refine bq h fun⟨_,a7,a8,_,_⟩ a3 h=>⟨_,Codec.at_ fP a3,?_⟩;(conv=>whnf);refine bq h fun⟨⟨a9,b0,b1,b2⟩,_⟩ a2 h=>⟨_,(qi.leArgs (rK n _ _ _ _ _ _ _ _ a2) (by try exact Sk)),?_⟩;conv=>whnf
    apply ifc h<;>intro J h
    ·obtain rfl:=sj h
     conv=>whnf
     try exact Sk
    (conv=>whnf);exact⟨(a9,b0,b1,b2,a7,a8),h,wk [0,1,2,3,4,5,7,8,6] []⟩
   conv=>whnf
   exact⟨(([]:SS),([]:List _),([]:List _),([]:List _),([]:SS),(0:Int)),h,wk [0,1,2,3,4,5,7,8,6] []⟩
  conv=>whnf
  refine⟨Codec.one mB [qK.mk (fV.mk c d e f) a],qK.rows [qK.mk (fV.mk c d e f) a],.inl rfl,?_⟩;conv=>whnf
  rw[show qK.rows b++qK.rows [qK.mk (fV.mk c d e f) a]=qK.rows (b++[qK.mk (fV.mk c d e f) a])from Codec.append mB b [qK.mk (fV.mk c d e f) a]];conv=>whnf
  obtain⟨V,h⟩:=qL h;refine⟨⟨Codec.wide mB (b++[qK.mk (fV.mk c d e f) a]),kod V,xK V (by decide)⟩,?_⟩;conv=>whnf
  refine⟨⟨rfl,rfl,rfl⟩,?_⟩;conv=>whnf
  exact⟨((b++[qK.mk (fV.mk c d e f) a]),(kwr .i64 (t+1))),h,wk [0,1,2,7] []⟩
 obtain rfl:=sj h;conv=>whnf
 try exact Sk
abbrev vF (r:Int):PV:=PV.int .i64 r
def xb (n:Nat) (b:List SS) (d:SS):LK (Int) (Int):=fun c a=>
 bif(decide (a<((qy b).length:Int)))then(
 bnd (idx b a) fun e=>
 bif(d==e)then(
 some a)
 else(
 c (kwr .i64 (a+1))))
 else(
 some (-1:Int))
def zp (n:Nat) (a:List SS) (b:SS):Option (Int):=
 qU (xb n a b) n (0:Int)
theorem vz (n:Nat):∀ (a:List SS) (b:SS) (r:Int),zp n a b=some r->qi TP 133 [PV.sl (qy a),PV.str b] (vF r):=by
 intro a b r h;unfold zp at h;refine zN Tryz.call133 Tryz.func133 [1000000] ?_;conv=>whnf
 refine zd.fn [1000000] (S:=Int) (fun c=>[(0,pT a),(1,pS b),(7,.p (.int .i64 ((qy a).length:Int))),(8,pI c)]) (fun c=>[]) (B:=xb n a b) h (wk [] []) ?_;intro _ c h;unfold xb at h;conv=>whnf
 apply ifc h<;>intro e h
 ·conv=>whnf
  refine bq h fun _ d h=>⟨_,Codec.at_ rE d,?_⟩;conv=>whnf
  apply ifc h<;>intro e h
  ·obtain rfl:=sj h
   conv=>whnf
   try exact Sk
  conv=>whnf
  exact⟨(kwr .i64 (c+1)),h,wk [] []⟩
 obtain rfl:=sj h;conv=>whnf
 try exact Sk
abbrev fL (r:Bool):PV:=PV.bool r
def zZ (n:Nat) (a:List SS) (b:SS):Option (Bool):=
 bnd (zp n a b) fun c=>
 some (decide (c≥0))
theorem ff (n:Nat):∀ (a:List SS) (b:SS) (r:Bool),zZ n a b=some r->qi TP 137 [PV.sl (qy a),PV.str b] (fL r):=by
 intro a b r h;unfold zZ at h;refine zN Tryz.call137 Tryz.func137 [1000000] ?_;conv=>whnf
 refine bq h fun _ c h=>⟨_,(vz n _ _ _ c),?_⟩;obtain rfl:=sj h;conv=>whnf
 try exact Sk
abbrev sT (r:Bool):PV:=PV.bool r
def uh (n:Nat) (a:SS):Option (Bool):=
 some (!(a==a))
theorem dc (n:Nat):∀ (a:SS) (r:Bool),uh n a=some r->qi TP 254 [PV.str a] (sT r):=by
 intro a r h;unfold uh at h;refine zN Tryz.call254 Tryz.func254 [1000000] ?_;obtain rfl:=sj h;conv=>whnf
 try exact Sk
abbrev tA (r:Bool):PV:=PV.bool r
def cr (n:Nat) (a b:SS):Option (Bool):=
 bnd (uh n a) fun c=>
 bnd (qG c (uh n b)) fun d=>
 some (bif(bif c then(!d)else false)then true else(Op.bytesLess a b))
theorem sS (n:Nat):∀ (a b:SS) (r:Bool),cr n a b=some r->qi TP 231 [PV.str a,PV.str b] (tA r):=by
 intro a b r h;unfold cr at h;refine zN Tryz.call231 Tryz.func231 [1000000] ?_;conv=>whnf
 refine bq h fun _ d h=>⟨_,(dc n _ _ d),?_⟩;conv=>whnf
 refine⟨id,?_⟩;conv=>whnf
 refine bq h fun _ c h=>⟨_,fun e=>(dc n _ _ (qa c e)),?_⟩;conv=>whnf
 refine⟨id,id,id,id,id,?_⟩;obtain rfl:=sj h;conv=>whnf
 try exact Sk
abbrev re (r:Bool):PV:=PV.bool r
def xR (n:Nat) (a:SS):Option (Bool):=
 some (!(a==a))
theorem gZ (n:Nat):∀ (a:SS) (r:Bool),xR n a=some r->qi TP 232 [PV.str a] (re r):=by
 intro a r h;unfold xR at h;refine zN Tryz.call232 Tryz.func232 [1000000] ?_;obtain rfl:=sj h;conv=>whnf
 try exact Sk
abbrev uZ (r:Int×Bool):PV:=PV.tup [PV.int .i64 r.1,PV.bool r.2]
def zC (n:Nat) (b:List SS) (c:SS):LK (Int×Int) (Int×Bool):=fun f (a,d)=>
 bif(decide (a<d))then(
 bnd (idx b (kwr .i64 (Int.fdiv (kwr .u64 (kwr .i64 (a+d))) (2 ^ (min (Int.toNat (1:Int)) IntKind.u64.bits))))) fun j=>
 bnd (cr n j c) fun k=>
 bif k then(
 f ((kwr .i64 ((kwr .i64 (Int.fdiv (kwr .u64 (kwr .i64 (a+d))) (2 ^ (min (Int.toNat (1:Int)) IntKind.u64.bits))))+1)),d))
 else(
 f (a,(kwr .i64 (Int.fdiv (kwr .u64 (kwr .i64 (a+d))) (2 ^ (min (Int.toNat (1:Int)) IntKind.u64.bits)))))))
 else(
 bnd (qG (decide (a<((qy b).length:Int))) (idx b a)) fun e=>
 bnd (qG ((decide (a<((qy b).length:Int)))&&(!(e==c))) (idx b a)) fun l=>
 bnd (qG ((decide (a<((qy b).length:Int)))&&(!(e==c))) (xR n l)) fun g=>
 bnd (qG (((decide (a<((qy b).length:Int)))&&(!(e==c)))&&g) (xR n c)) fun i=>
 some (a,(bif(decide (a<((qy b).length:Int)))then(bif(e==c)then true else(bif g then i else false))else false)))
def zJ (n:Nat) (a:List SS) (b:SS):Option (Int×Bool):=
 qU (zC n a b) n ((0:Int),((qy a).length:Int))
theorem uQ (n:Nat):∀ (b:List SS) (e:SS) (r:Int×Bool),zJ n b e=some r->qi TP 189 [PV.sl (qy b),PV.str e] (uZ r):=by
 intro b e r h;unfold zJ at h;refine zN Tryz.call189 Tryz.func189 [1000000] ?_;conv=>whnf
 refine zd.fn [1000000] (S:=Int×Int) (fun(c,d)=>[(0,pT b),(1,pS e),(6,.p (.int .i64 ((qy b).length:Int))),(7,pI c),(8,pI d)]) (fun(c,d)=>[]) (B:=zC n b e) h (wk [] []) ?_;intro _ st h;obtain⟨c,d⟩:=st;unfold zC at h;conv=>whnf
 apply ifc h<;>intro m h
 ·conv=>whnf
  refine⟨by unfold gI; decide,?_⟩;conv=>whnf
  refine bq h fun _ g h=>⟨_,Codec.at_ rE g,?_⟩;conv=>whnf
  refine bq h fun _ f h=>⟨_,(sS n _ _ _ f),?_⟩;conv=>whnf
  apply ifc h<;>intro m h
  ·conv=>whnf
   exact⟨((kwr .i64 ((kwr .i64 (Int.fdiv (kwr .u64 (kwr .i64 (c+d))) (2 ^ (min (Int.toNat (1:Int)) IntKind.u64.bits))))+1)),d),h,wk [] []⟩
  conv=>whnf
  exact⟨(c,(kwr .i64 (Int.fdiv (kwr .u64 (kwr .i64 (c+d))) (2 ^ (min (Int.toNat (1:Int)) IntKind.u64.bits))))),h,wk [] []⟩
 conv=>whnf
 refine⟨id,id,?_⟩;conv=>whnf
 refine bq h fun _ l h=>⟨_,fun a=>Codec.at_ rE (qa l a),?_⟩;conv=>whnf
 iterate 6 refine⟨id,?_⟩
 conv=>whnf
 refine bq h fun _ k h=>⟨_,fun a=>Codec.at_ rE (qa k a),?_⟩;conv=>whnf
 refine⟨id,id,?_⟩;conv=>whnf
 refine bq h fun _ j h=>⟨_,fun a=>(gZ n _ _ (qa j a)),?_⟩;conv=>whnf
 refine⟨id,id,?_⟩;conv=>whnf
 refine bq h fun _ i h=>⟨_,fun a=>(gZ n _ _ (qa i a)),?_⟩;conv=>whnf
 refine⟨id,id,id,id,id,?_⟩;obtain rfl:=sj h;conv=>whnf
 try exact Sk
abbrev de (r:Bool):PV:=PV.bool r
def xa (n:Nat) (b d:List SS):LK (Int) (Bool):=fun c a=>
 bif(decide (a<((qy b).length:Int)))then(
 bnd (idx b a) fun e=>
 bnd (idx d a) fun f=>
 bif(!(e==f))then(
 some false)
 else(
 c (kwr .i64 (a+1))))
 else(
 some true)
def zK (n:Nat) (a b:List SS):Option (Bool):=
 bif(((qy a).length:Int) != ((qy b).length:Int))then(
 some false)
 else(
 qU (xa n a b) n (0:Int))
theorem vy (n:Nat):∀ (a b:List SS) (r:Bool),zK n a b=some r->qi TP 139 [PV.sl (qy a),PV.sl (qy b)] (de r):=by
 intro a b r h;unfold zK at h;refine zN Tryz.call139 Tryz.func139 [1000000] ?_;conv=>whnf
 apply ifc h<;>intro d h
 ·obtain rfl:=sj h
  conv=>whnf
  try exact Sk
 conv=>whnf
 refine zd.fn [1000000] (S:=Int) (fun c=>[(0,pT a),(1,pT b),(12,.p (.int .i64 ((qy a).length:Int))),(13,pI c)]) (fun c=>[]) (B:=xa n a b) h (wk [] []) ?_;intro _ c h;unfold xa at h;conv=>whnf
 apply ifc h<;>intro d h
 ·conv=>whnf
  refine bq h fun _ f h=>⟨_,Codec.at_ rE f,?_⟩;conv=>whnf
  refine bq h fun _ e h=>⟨_,Codec.at_ rE e,?_⟩;conv=>whnf
  apply ifc h<;>intro d h
  ·obtain rfl:=sj h
   conv=>whnf
   try exact Sk
  conv=>whnf
  exact⟨(kwr .i64 (c+1)),h,wk [] []⟩
 obtain rfl:=sj h;conv=>whnf
 try exact Sk
abbrev XO (r:Int):PV:=PV.int .i64 r
def dL (n:Nat) (a:Int):Option (Int):=
 bif(bif(a==0)then true else(a==1))then(
 some a)
 else(
 some (2:Int))
theorem rJ (n:Nat):∀ (a r:Int),dL n a=some r->qi TP 203 [PV.int .i64 a] (XO r):=by
 intro a r h;unfold dL at h;refine zN Tryz.call203 Tryz.func203 [1000000] ?_;conv=>whnf
 refine⟨id,id,?_⟩;conv=>whnf
 apply ifc h<;>intro _ h
 ·obtain rfl:=sj h
  conv=>whnf
  try exact Sk
 obtain rfl:=sj h;conv=>whnf
 try exact Sk
abbrev GM (r:Int):PV:=PV.int .i64 r
def tz (n:Nat) (c d:Int):Option (Int):=
 bnd (dL n c) fun b=>
 bnd (dL n d) fun a=>
 bif(b==0)then(
 bif(a==0)then(
 some (0:Int))
 else(
 bif(a==1)then(
 some (0:Int))
 else(
 bif(a==2)then(
 some (0:Int))
 else(
 none))))
 else(
 bif(b==1)then(
 bif(a==0)then(
 some (0:Int))
 else(
 bif(a==1)then(
 some (1:Int))
 else(
 bif(a==2)then(
 some (2:Int))
 else(
 none))))
 else(
 bif(b==2)then(
 bif(a==0)then(
 some (0:Int))
 else(
 bif(a==1)then(
 some (2:Int))
 else(
 bif(a==2)then(
 some (2:Int))
 else(
 none))))
 else(
 none)))
theorem VV (n:Nat):∀ (d e r:Int),tz n d e=some r->qi TP 205 [PV.int .i64 d,PV.int .i64 e] (GM r):=by
 intro d e r h;unfold tz at h;refine zN Tryz.call205 Tryz.func205 [1000000] ?_;conv=>whnf
 refine⟨rfl,Bu rfl,?_⟩;conv=>whnf
 refine⟨rfl,Bu rfl,?_⟩;conv=>whnf
 refine⟨rfl,Bu rfl,?_⟩;conv=>whnf
 refine⟨by repeat (first|exact List.forall_mem_nil _|refine List.forall_mem_cons.2 ⟨rfl,?_⟩),rfl,?_⟩;conv=>whnf
 replace h:=GP h;obtain⟨c,g,h⟩:=h;refine⟨_,(rJ n _ _ g),?_⟩;conv=>whnf
 replace h:=GP h;obtain⟨b,f,h⟩:=h;refine⟨_,(rJ n _ _ f),?_⟩;by_cases a:(c==0)=true
 ·replace h:=uU h a
  obtain rfl:c=(0:Int):=by simpa using a
  conv=>whnf
  refine⟨by first|exact⟨by decide,by decide⟩|decide|(intro _; decide),?_⟩;by_cases a:(b==0)=true
  ·replace h:=uU h a
   obtain rfl:b=(0:Int):=by simpa using a
   conv=>whnf
   refine⟨by first|exact⟨by decide,by decide⟩|decide|(intro _; decide),?_⟩;obtain rfl:=sj h;conv=>whnf
   try exact Sk
  replace h:=uT h (by simpa using a);by_cases a:(b==1)=true
  ·replace h:=uU h a
   obtain rfl:b=(1:Int):=by simpa using a
   conv=>whnf
   refine⟨by first|exact⟨by decide,by decide⟩|decide|(intro _; decide),?_⟩;obtain rfl:=sj h;conv=>whnf
   try exact Sk
  replace h:=uT h (by simpa using a);by_cases a:(b==2)=true
  ·replace h:=uU h a
   obtain rfl:b=(2:Int):=by simpa using a
   conv=>whnf
   refine⟨by first|exact⟨by decide,by decide⟩|decide|(intro _; decide),?_⟩;obtain rfl:=sj h;conv=>whnf
   try exact Sk
  replace h:=uT h (by simpa using a);cases h
 ·replace h:=uT h (by simpa using a)
  by_cases a:(c==1)=true
  ·replace h:=uU h a
   obtain rfl:c=(1:Int):=by simpa using a
   conv=>whnf
   refine⟨by first|exact⟨by decide,by decide⟩|decide|(intro _; decide),?_⟩;by_cases a:(b==0)=true
   ·replace h:=uU h a
    obtain rfl:b=(0:Int):=by simpa using a
    (conv=>whnf);refine⟨by first|exact⟨by decide,by decide⟩|decide|(intro _; decide),?_⟩
    obtain rfl:=sj h;conv=>whnf
    try exact Sk
   replace h:=uT h (by simpa using a);by_cases a:(b==1)=true
   ·replace h:=uU h a
    obtain rfl:b=(1:Int):=by simpa using a
    (conv=>whnf);refine⟨by first|exact⟨by decide,by decide⟩|decide|(intro _; decide),?_⟩
    obtain rfl:=sj h;conv=>whnf
    try exact Sk
   replace h:=uT h (by simpa using a);by_cases a:(b==2)=true
   ·replace h:=uU h a
    obtain rfl:b=(2:Int):=by simpa using a
    (conv=>whnf);refine⟨by first|exact⟨by decide,by decide⟩|decide|(intro _; decide),?_⟩
    obtain rfl:=sj h;conv=>whnf
    try exact Sk
   replace h:=uT h (by simpa using a);cases h
  ·replace h:=uT h (by simpa using a)
   by_cases a:(c==2)=true
   ·replace h:=uU h a
    obtain rfl:c=(2:Int):=by simpa using a
    (conv=>whnf);refine⟨by first|exact⟨by decide,by decide⟩|decide|(intro _; decide),?_⟩
    by_cases a:(b==0)=true
    ·replace h:=uU h a
     obtain rfl:b=(0:Int):=by simpa using a
     (conv=>whnf);refine⟨by first|exact⟨by decide,by decide⟩|decide|(intro _; decide),?_⟩
     obtain rfl:=sj h;conv=>whnf
     try exact Sk
    replace h:=uT h (by simpa using a);by_cases a:(b==1)=true
    ·replace h:=uU h a
     obtain rfl:b=(1:Int):=by simpa using a
     (conv=>whnf);refine⟨by first|exact⟨by decide,by decide⟩|decide|(intro _; decide),?_⟩
     obtain rfl:=sj h;conv=>whnf
     try exact Sk
    replace h:=uT h (by simpa using a);by_cases a:(b==2)=true
    ·replace h:=uU h a
     obtain rfl:b=(2:Int):=by simpa using a
     (conv=>whnf);refine⟨by first|exact⟨by decide,by decide⟩|decide|(intro _; decide),?_⟩
     obtain rfl:=sj h;conv=>whnf
     try exact Sk
    replace h:=uT h (by simpa using a);cases h
   ·replace h:=uT h (by simpa using a)
    cases h
end W
end
section
set_option maxRecDepth 100000
set_option maxHeartbeats 20000000
open Go Go.Proofs Ax
namespace W
abbrev gq (r:Bool):PV:=PV.bool r
abbrev Pj:Type:=Val->Val->Option (Bool)
def pn (n:Nat) (g100:Pj) (g140z100:(List Val)->(List Val)->Option (Bool)) (k l:Val):Option (Bool):=
 match k,l with
 | ⟨a,c,d,e,q,s⟩,⟨f,g,i,b,m,o⟩=>
 bnd (qG (bif(bif(bif(a==f)then(c==g)else false)then(d==i)else false)then(e==b)else false) (zK n s o)) fun j=>
 bnd (qG (bif(bif(bif(bif(a==f)then(c==g)else false)then(d==i)else false)then(e==b)else false)then j else false) (g140z100 q m)) fun p=>
 some (bif(bif(bif(bif(bif(a==f)then(c==g)else false)then(d==i)else false)then(e==b)else false)then j else false)then p else false)
abbrev qq (r:Bool):PV:=PV.bool r
def qE (n:Nat) (b l:List Val) (g100:Pj):LK (Int) (Bool):=fun c a=>
 bif(decide (a<((Val.rows b).length:Int)))then(
 bnd (idx b a) fun⟨m,o,p,q,s,t⟩=>
 bnd (idx l a) fun⟨d,e,f,g,i,j⟩=>
 bnd (g100 (Val.mk m o p q s t) (Val.mk d e f g i j)) fun k=>
 bif(!k)then(
 some false)
 else(
 c (kwr .i64 (a+1))))
 else(
 some true)
def qF (n:Nat) (g100:Pj) (g140z100:(List Val)->(List Val)->Option (Bool)) (a b:List Val):Option (Bool):=
 bif(((Val.rows a).length:Int) != ((Val.rows b).length:Int))then(
 some false)
 else(
 qU (qE n a b g100) n (0:Int))
theorem Zz (n:Nat) (g100:Pj) (g140z100:(List Val)->(List Val)->Option (Bool)) (g100_ok:∀ (a b:Val) (r:Bool),g100 a b=some r->qi TP 100 [PV.agg (xV.cells a),PV.agg (xV.cells b)] (gq r)) (g140_100_ok:∀ (d e:List Val) (r:Bool),g140z100 d e=some r->qi TP 140 [PV.sl (Val.rows d),PV.sl (Val.rows e),PV.fn 100] (qq r)):∀ (a b:Val) (r:Bool),pn n g100 g140z100 a b=some r->qi TP 100 [PV.agg (xV.cells a),PV.agg (xV.cells b)] (gq r):=by
 intro a b r h;obtain⟨d,e,_,_,_,_⟩:=a;obtain⟨_,_,_,_,_,_⟩:=b;unfold pn at h;refine zN Tryz.call100 Tryz.func100 [1000000] ?_;conv=>whnf
 iterate 19 refine⟨id,?_⟩
 conv=>whnf
 refine bq h fun _ g h=>⟨_,fun c=>(vy n _ _ _ (qa g c)),?_⟩;conv=>whnf
 refine⟨id,id,id,id,id,?_⟩;conv=>whnf
 refine bq h fun _ f h=>⟨_,fun c=>(g140_100_ok _ _ _ (qa f c)),?_⟩;conv=>whnf
 refine⟨id,?_⟩;obtain rfl:=sj h;conv=>whnf
 try exact Sk
theorem zA (n:Nat) (g100:Pj) (g140z100:(List Val)->(List Val)->Option (Bool)) (g100_ok:∀ (d e:Val) (r:Bool),g100 d e=some r->qi TP 100 [PV.agg (xV.cells d),PV.agg (xV.cells e)] (gq r)) (g140_100_ok:∀ (a b:List Val) (r:Bool),g140z100 a b=some r->qi TP 140 [PV.sl (Val.rows a),PV.sl (Val.rows b),PV.fn 100] (qq r)):∀ (a b:List Val) (r:Bool),qF n g100 g140z100 a b=some r->qi TP 140 [PV.sl (Val.rows a),PV.sl (Val.rows b),PV.fn 100] (qq r):=by
 intro a b r h;unfold qF at h;refine zN Tryz.call140 Tryz.func140 [1000000] ?_;conv=>whnf
 apply ifc h<;>intro f h
 ·obtain rfl:=sj h
  conv=>whnf
  try exact Sk
 conv=>whnf
 refine zd.fn [1000000] (S:=Int) (fun c=>[(1,pV b),(2,.p (.fn 100)),(15,pV a),(16,.p (.int .i64 ((Val.rows a).length:Int))),(17,pI c)]) (fun c=>[]) (B:=qE n a b g100) h (wk [] []) ?_;intro _ c h;unfold qE at h;conv=>whnf
 apply ifc h<;>intro f h
 ·conv=>whnf
  refine bq h fun⟨_,_,_,_,_,_⟩ j h=>⟨_,Codec.at_ xV j,?_⟩;conv=>whnf
  refine bq h fun⟨_,_,_,_,_,_⟩ i h=>⟨_,Codec.at_ xV i,?_⟩;conv=>whnf
  refine bq h fun _ g h=>⟨_,(g100_ok _ _ _ g),?_⟩;conv=>whnf
  apply ifc h<;>intro f h
  ·obtain rfl:=sj h
   conv=>whnf
   try exact Sk
  conv=>whnf
  exact⟨(kwr .i64 (c+1)),h,wk [] []⟩
 obtain rfl:=sj h;conv=>whnf
 try exact Sk
mutual
def uC:Nat->Val->Val->Option (Bool)
 | 0=>fun _ _=>none
 | n+1=>pn n (uC n) (qn n)
def qn:Nat->(List Val)->(List Val)->Option (Bool)
 | 0=>fun _ _=>none
 | n+1=>qF n (uC n) (qn n)
end
theorem ZE (n:Nat):(∀ (a b:Val) (r:Bool),uC n a b=some r->qi TP 100 [PV.agg (xV.cells a),PV.agg (xV.cells b)] (gq r))/\(∀ (c d:List Val) (r:Bool),qn n c d=some r->qi TP 140 [PV.sl (Val.rows c),PV.sl (Val.rows d),PV.fn 100] (qq r)):=by
 induction n with
 | zero=>exact⟨(by intros; rename_i h; cases h),(by intros; rename_i h; cases h)⟩
 | succ n ih=>
  obtain⟨hg100,hg140_100⟩:=ih;exact⟨Zz n (uC n) (qn n) hg100 hg140_100,zA n (uC n) (qn n) hg100 hg140_100⟩
theorem XH (n:Nat):∀ (a b:Val) (r:Bool),uC n a b=some r->qi TP 100 [PV.agg (xV.cells a),PV.agg (xV.cells b)] (gq r):=(ZE n).1
abbrev FZ (r:Int):PV:=PV.int .i64 r
def QF (n:Nat) (a:Bool):Option (Int):=
 bif a then(
 some (1:Int))
 else(
 some (0:Int))
theorem Gr (n:Nat):∀ (a:Bool) (r:Int),QF n a=some r->qi TP 182 [PV.bool a] (FZ r):=by
 intro a r h;unfold QF at h;refine zN Tryz.call182 Tryz.func182 [1000000] ?_;conv=>whnf
 apply ifc h<;>intro _ h
 ·obtain rfl:=sj h
  conv=>whnf
  try exact Sk
 obtain rfl:=sj h;conv=>whnf
 try exact Sk
abbrev fM (r:Int):PV:=PV.int .i64 r
def dz (n:Nat) (c e:List Val) (g191:Val->Val->Option (Int)):LK (Int×Int) (Int):=fun d (b,a)=>
 bif(decide (a<((Val.rows c).length:Int)))then(
 bnd (idx c a) fun⟨f,g,i,j,k,l⟩=>
 bnd (idx e a) fun⟨m,o,p,q,s,t⟩=>
 bnd (g191 (Val.mk f g i j k l) (Val.mk m o p q s t)) fun u=>
 bnd (tz n b u) fun v=>
 d (v,(kwr .i64 (a+1))))
 else(
 some b)
def mE (n:Nat) (g191:Val->Val->Option (Int)) (g i:Val):Option (Int):=
 match g,i with
 | ⟨a,l,m,q,c,f⟩,⟨d,s,t,j,b,e⟩=>
 bif(bif(a==0)then true else(d==0))then(
 some (2:Int))
 else(
 bnd (qG (!(bif(a != d)then true else(((Val.rows c).length:Int) != ((Val.rows b).length:Int)))) (zK n f e)) fun k=>
 bif(bif(bif(a != d)then true else(((Val.rows c).length:Int) != ((Val.rows b).length:Int)))then true else(!k))then(
 some (0:Int))
 else(
 bif(bif(a==4)then true else(a==5))then(
 qU (dz n c b g191) n ((1:Int),(0:Int)))
 else(
 bnd (uC n (Val.mk a l m q c f) (Val.mk d s t j b e)) fun o=>
 bnd (QF n o) fun p=>
 some p)))
theorem Qs (n:Nat) (g191:Val->Val->Option (Int)) (g191_ok:∀ (a b:Val) (r:Int),g191 a b=some r->qi TP 191 [PV.agg (xV.cells a),PV.agg (xV.cells b)] (fM r)):∀ (a b:Val) (r:Int),mE n g191 a b=some r->qi TP 191 [PV.agg (xV.cells a),PV.agg (xV.cells b)] (fM r):=by
 intro a b r h;obtain⟨_,_,_,_,f,_⟩:=a;obtain⟨w,x,y,t,g,u⟩:=b;unfold mE at h;refine zN Tryz.call191 Tryz.func191 [1000000] ?_;conv=>whnf
 refine⟨id,id,id,?_⟩;conv=>whnf
 apply ifc h<;>intro d h
 ·obtain rfl:=sj h
  conv=>whnf
  try exact Sk
 conv=>whnf
 iterate 11 refine⟨id,?_⟩
 conv=>whnf
 refine bq h fun _ q h=>⟨_,fun s=>(vy n _ _ _ (qa q s)),?_⟩;conv=>whnf
 refine⟨id,id,?_⟩;conv=>whnf
 apply ifc h<;>intro d h
 ·obtain rfl:=sj h
  conv=>whnf
  try exact Sk
 conv=>whnf
 refine⟨id,id,id,?_⟩;conv=>whnf
 apply ifc h<;>intro d h
 ·conv=>whnf
  refine zd.fn [1000000] (S:=Int×Int) (fun(e,c)=>[(3,.ptr 0 0),(5,pI e),(50,pV f),(51,.p (.int .i64 ((Val.rows f).length:Int))),(52,pI c)]) (fun(e,c)=>[.box 32 [pI w,pB x,pI y,pS t,pV g,pT u]]) (B:=dz n f g g191) h (wk [1] []) ?_;intro _ st h;obtain⟨e,c⟩:=st;unfold dz at h;conv=>whnf
  apply ifc h<;>intro d h
  ·conv=>whnf
   refine bq h fun⟨_,_,_,_,_,_⟩ l h=>⟨_,Codec.at_ xV l,?_⟩;conv=>whnf
   refine bq h fun⟨_,_,_,_,_,_⟩ k h=>⟨_,Codec.at_ xV k,?_⟩;conv=>whnf
   refine bq h fun _ j h=>⟨_,(g191_ok _ _ _ j),?_⟩;conv=>whnf
   refine bq h fun v i h=>⟨_,(VV n _ _ _ i),?_⟩;conv=>whnf
   exact⟨(v,(kwr .i64 (c+1))),h,wk [0] []⟩
  obtain rfl:=sj h;conv=>whnf
  try exact Sk
 conv=>whnf
 refine bq h fun _ o h=>⟨_,(XH n _ _ _ o),?_⟩;conv=>whnf
 refine bq h fun _ m h=>⟨_,(Gr n _ _ m),?_⟩;obtain rfl:=sj h;conv=>whnf
 try exact Sk
def fG:Nat->Val->Val->Option (Int)
 | 0=>fun _ _=>none
 | n+1=>mE n (fG n)
theorem QH (n:Nat):(∀ (a b:Val) (r:Int),fG n a b=some r->qi TP 191 [PV.agg (xV.cells a),PV.agg (xV.cells b)] (fM r)):=by
 induction n with
 | zero=>exact(by intros; rename_i h; cases h)
 | succ n ih=>
  have hg191:=ih;exact Qs n (fG n) hg191
theorem ZD (n:Nat):∀ (a b:Val) (r:Int),fG n a b=some r->qi TP 191 [PV.agg (xV.cells a),PV.agg (xV.cells b)] (fM r):=(QH n)
abbrev FY (r:Bool):PV:=PV.bool r
def QE (n:Nat) (a:Int):Option (Bool):=
 some (a==1)
theorem Gq (n:Nat):∀ (a:Int) (r:Bool),QE n a=some r->qi TP 190 [PV.int .i64 a] (FY r):=by
 intro a r h;unfold QE at h;refine zN Tryz.call190 Tryz.func190 [1000000] ?_;obtain rfl:=sj h;conv=>whnf
 try exact Sk
abbrev uY (r:Bool):PV:=PV.bool r
def uA (n:Nat) (c w:List SS) (x v:List Val):LK (Int) (Bool):=fun d b=>
 bif(decide (b<((qy c).length:Int)))then(
 bnd (idx c b) fun y=>
 bnd (zJ n w y) fun⟨z,a⟩=>
 bnd (qG (!(!a)) (idx x z)) fun⟨e,f,g,i,j,k⟩=>
 bnd (qG (!(!a)) (idx v b)) fun⟨l,m,o,p,q,s⟩=>
 bnd (qG (!(!a)) (fG n (Val.mk e f g i j k) (Val.mk l m o p q s))) fun t=>
 bnd (qG (!(!a)) (QE n t)) fun u=>
 bif(bif(!a)then true else(!u))then(
 some false)
 else(
 d (kwr .i64 (b+1))))
 else(
 some true)
def zD (n:Nat) (a:fV) (d:List SS) (e:List Val):Option (Bool):=
 match a with
 | ⟨_,_,b,c⟩=>
 qU (uA n b d e c) n (0:Int)
theorem uB (n:Nat):∀ (d:fV) (b:List SS) (c:List Val) (r:Bool),zD n d b c=some r->qi TP 138 [PV.agg (Xa.cells d),PV.sl (qy b),PV.sl (Val.rows c)] (uY r):=by
 intro d b c r h;obtain⟨s,t,e,g⟩:=d;unfold zD at h;refine zN Tryz.call138 Tryz.func138 [1000000] ?_;conv=>whnf
 refine zd.fn [1000000] (S:=Int) (fun f=>[(1,pT b),(2,pV c),(3,.ptr 0 0),(12,pT e),(13,.p (.int .i64 ((qy e).length:Int))),(14,pI f)]) (fun f=>[.box 149 [pS s,pT t,pT e,pV g]]) (B:=uA n e b c g) h (wk [0] []) ?_;intro _ f h;unfold uA at h;conv=>whnf
 apply ifc h<;>intro q h
 ·conv=>whnf
  refine bq h fun _ o h=>⟨_,Codec.at_ rE o,?_⟩;conv=>whnf
  refine bq h fun⟨_,_⟩ m h=>⟨_,(uQ n _ _ _ m),?_⟩;conv=>whnf
  refine⟨id,id,?_⟩;conv=>whnf
  refine bq h fun⟨_,_,_,_,_,_⟩ l h=>⟨_,fun a=>Codec.at_ xV (qa l a),?_⟩;conv=>whnf
  refine⟨id,id,id,id,?_⟩;conv=>whnf
  refine bq h fun⟨_,_,_,_,_,_⟩ k h=>⟨_,fun a=>Codec.at_ xV (qa k a),?_⟩;conv=>whnf
  refine⟨id,id,id,?_⟩;conv=>whnf
  refine bq h fun _ j h=>⟨_,fun a=>(ZD n _ _ _ (qa j a)),?_⟩;conv=>whnf
  refine⟨id,?_⟩;conv=>whnf
  refine bq h fun _ i h=>⟨_,fun a=>(Gq n _ _ (qa i a)),?_⟩;conv=>whnf
  refine⟨id,id,?_⟩;conv=>whnf
  apply ifc h<;>intro q h
  ·obtain rfl:=sj h
   conv=>whnf
   try exact Sk
  conv=>whnf
  exact⟨(kwr .i64 (f+1)),h,wk [0] []⟩
 obtain rfl:=sj h;conv=>whnf
 try exact Sk
abbrev xI (r:Bool):PV:=PV.bool r
def uV (n:Nat) (a k:List SS) (d:SS) (i:List SS) (j:List Val) (l:List SS) (m:List Val):LK (Int) (Bool):=fun c b=>
 bif(decide (b<((qy a).length:Int)))then(
 bnd (idx a b) fun e=>
 bnd (zZ n k e) fun f=>
 bif(!f)then(
 some false)
 else(
 c (kwr .i64 (b+1))))
 else(
 bnd (zD n (fV.mk d a i j) l m) fun g=>
 some g)
def zB (n:Nat) (a:fV) (b:Node):Option (Bool):=
 match a,b with
 | ⟨c,d,e,f⟩,⟨_,g,i,j⟩=>
 qU (uV n d g c e f i j) n (0:Int)
theorem uW (n:Nat):∀ (a:fV) (b:Node) (r:Bool),zB n a b=some r->qi TP 99 [PV.agg (Xa.cells a),PV.agg (bU.cells b)] (xI r):=by
 intro a b r h;obtain⟨e,c,f,g⟩:=a;obtain⟨s,i,j,k⟩:=b;unfold zB at h;refine zN Tryz.call99 Tryz.func99 [1000000] ?_;conv=>whnf
 refine zd.fn [1000000] (S:=Int) (fun d=>[(2,.ptr 0 0),(3,.ptr 1 0),(8,pT c),(9,.p (.int .i64 ((qy c).length:Int))),(10,pI d)]) (fun d=>[.box 149 [pS e,pT c,pT f,pV g],.box 96 [pI s,pT i,pT j,pV k]]) (B:=uV n c i e f g j k) h (wk [0,1] []) ?_;intro _ d h;unfold uV at h;conv=>whnf
 apply ifc h<;>intro q h
 ·conv=>whnf
  refine bq h fun _ m h=>⟨_,Codec.at_ rE m,?_⟩;conv=>whnf
  refine bq h fun _ l h=>⟨_,(ff n _ _ _ l),?_⟩;conv=>whnf
  apply ifc h<;>intro q h
  ·obtain rfl:=sj h
   conv=>whnf
   try exact Sk
  conv=>whnf
  exact⟨(kwr .i64 (d+1)),h,wk [0,1] []⟩
 conv=>whnf
 refine bq h fun _ o h=>⟨_,(uB n _ _ _ _ o),?_⟩;obtain rfl:=sj h;conv=>whnf
 try exact Sk
abbrev tB (r:Bool):PV:=PV.bool r
def vw (n:Nat) (a:Int):Option (Bool):=
 some (a != a)
theorem dD (n:Nat):∀ (a:Int) (r:Bool),vw n a=some r->qi TP 230 [PV.int .i64 a] (tB r):=by
 intro a r h;unfold vw at h;refine zN Tryz.call230 Tryz.func230 [1000000] ?_;obtain rfl:=sj h;conv=>whnf
 try exact Sk
abbrev so (r:Int):PV:=PV.int .i64 r
def xH (n:Nat) (a b:Int):Option (Int):=
 bnd (vw n a) fun d=>
 bnd (vw n b) fun c=>
 bif d then(
 bif c then(
 some (0:Int))
 else(
 some (-1:Int)))
 else(
 bif c then(
 some (1:Int))
 else(
 bif(decide (a<b))then(
 some (-1:Int))
 else(
 bif(decide (a>b))then(
 some (1:Int))
 else(
 some (0:Int)))))
theorem rO (n:Nat):∀ (b c r:Int),xH n b c=some r->qi TP 187 [PV.int .i64 b,PV.int .i64 c] (so r):=by
 intro b c r h;unfold xH at h;refine zN Tryz.call187 Tryz.func187 [1000000] ?_;conv=>whnf
 refine bq h fun _ e h=>⟨_,(dD n _ _ e),?_⟩;conv=>whnf
 refine bq h fun _ d h=>⟨_,(dD n _ _ d),?_⟩;conv=>whnf
 apply ifc h<;>intro a h
 ·conv=>whnf
  apply ifc h<;>intro a h
  ·obtain rfl:=sj h
   conv=>whnf
   try exact Sk
  obtain rfl:=sj h;conv=>whnf
  try exact Sk
 conv=>whnf
 apply ifc h<;>intro a h
 ·obtain rfl:=sj h
  conv=>whnf
  try exact Sk
 conv=>whnf
 apply ifc h<;>intro a h
 ·obtain rfl:=sj h
  conv=>whnf
  try exact Sk
 conv=>whnf
 apply ifc h<;>intro a h
 ·obtain rfl:=sj h
  conv=>whnf
  try exact Sk
 obtain rfl:=sj h;conv=>whnf
 try exact Sk
abbrev ZU (r:Int):PV:=PV.int .i64 r
def cS (n:Nat) (a:Node):Option (Int):=
 match a with
 | ⟨b,_,_,_⟩=>
 some b
theorem QD (n:Nat):∀ (a:Node) (r:Int),cS n a=some r->qi TP 135 [PV.agg (bU.cells a)] (ZU r):=by
 intro a r h;obtain⟨_,_,_,_⟩:=a;unfold cS at h;refine zN Tryz.call135 Tryz.func135 [1000000] ?_;obtain rfl:=sj h;conv=>whnf
 try exact Sk
abbrev bL (r:Int):PV:=PV.int .i64 r
def zo (n:Nat) (a:Node) (f:Int) (_:Unit):Option (Int):=
 match a with
 | ⟨b,c,d,e⟩=>
 bnd (cS n (Node.mk b c d e)) fun g=>
 bnd (xH n g f) fun i=>
 some i
theorem ui (n:Nat):∀ (a:Node) (b:Int) (c:Unit) (r:Int),zo n a b c=some r->qi TP 186 [PV.agg (bU.cells a),PV.int .i64 b,PV.hp [PV.fn 135]] (bL r):=by
 intro a b c r h;obtain⟨_,_,_,_⟩:=a;unfold zo at h;refine zN Tryz.call186 Tryz.func186 [1000000] ?_;conv=>whnf
 refine bq h fun _ e h=>⟨_,(QD n _ _ e),?_⟩;conv=>whnf
 refine bq h fun _ d h=>⟨_,(rO n _ _ _ d),?_⟩;obtain rfl:=sj h;conv=>whnf
 try exact Sk
abbrev zt (r:Int×Bool):PV:=PV.tup [PV.int .i64 r.1,PV.bool r.2]
def qj (n:Nat) (b:List Node) (e:Int):LK (Int×Int) (Int×Bool):=fun d (a,c)=>
 bif(decide (a<c))then(
 bnd (idx b (kwr .i64 (Int.fdiv (kwr .u64 (kwr .i64 (a+c))) (2 ^ (min (Int.toNat (1:Int)) IntKind.u64.bits))))) fun⟨m,o,p,q⟩=>
 bnd (zo n (Node.mk m o p q) e ()) fun f=>
 bif(decide (f<0))then(
 d ((kwr .i64 ((kwr .i64 (Int.fdiv (kwr .u64 (kwr .i64 (a+c))) (2 ^ (min (Int.toNat (1:Int)) IntKind.u64.bits))))+1)),c))
 else(
 d (a,(kwr .i64 (Int.fdiv (kwr .u64 (kwr .i64 (a+c))) (2 ^ (min (Int.toNat (1:Int)) IntKind.u64.bits)))))))
 else(
 bnd (qG (decide (a<((Node.rows b).length:Int))) (idx b a)) fun⟨g,i,j,k⟩=>
 bnd (qG (decide (a<((Node.rows b).length:Int))) (zo n (Node.mk g i j k) e ())) fun l=>
 some (a,(bif(decide (a<((Node.rows b).length:Int)))then(l==0)else false)))
def qo (n:Nat) (a:List Node) (b:Int) (_:Unit):Option (Int×Bool):=
 qU (qj n a b) n ((0:Int),((Node.rows a).length:Int))
theorem zr (n:Nat):∀ (a:List Node) (d:Int) (f:Unit) (r:Int×Bool),qo n a d f=some r->qi TP 185 [PV.sl (Node.rows a),PV.int .i64 d,PV.clo 186 [PV.hp [PV.fn 135]]] (zt r):=by
 intro a d f r h;unfold qo at h;refine zN Tryz.call185 Tryz.func185 [1000000] ?_;conv=>whnf
 refine zd.fn [1000000] (S:=Int×Int) (fun(b,c)=>[(0,.p (.sl (Node.rows a))),(1,pI d),(2,.p (.clo 186 [PV.hp [PV.fn 135]])),(8,.p (.int .i64 ((Node.rows a).length:Int))),(9,pI b),(10,pI c)]) (fun(b,c)=>[]) (B:=qj n a d) h (wk [] []) ?_;intro _ st h;obtain⟨b,c⟩:=st;unfold qj at h;conv=>whnf
 apply ifc h<;>intro l h
 ·conv=>whnf
  refine⟨by unfold gI; decide,?_⟩;conv=>whnf
  refine bq h fun⟨_,_,_,_⟩ i h=>⟨_,Codec.at_ bU i,?_⟩;conv=>whnf
  refine bq h fun _ g h=>⟨_,(ui n _ _ _ _ g),?_⟩;conv=>whnf
  apply ifc h<;>intro l h
  ·conv=>whnf
   exact⟨((kwr .i64 ((kwr .i64 (Int.fdiv (kwr .u64 (kwr .i64 (b+c))) (2 ^ (min (Int.toNat (1:Int)) IntKind.u64.bits))))+1)),c),h,wk [] []⟩
  conv=>whnf
  exact⟨(b,(kwr .i64 (Int.fdiv (kwr .u64 (kwr .i64 (b+c))) (2 ^ (min (Int.toNat (1:Int)) IntKind.u64.bits))))),h,wk [] []⟩
 conv=>whnf
 refine⟨id,id,?_⟩;conv=>whnf
 refine bq h fun⟨_,_,_,_⟩ k h=>⟨_,fun e=>Codec.at_ bU (qa k e),?_⟩;conv=>whnf
 refine⟨id,id,id,id,?_⟩;conv=>whnf
 refine bq h fun _ j h=>⟨_,fun e=>(ui n _ _ _ _ (qa j e)),?_⟩;conv=>whnf
 refine⟨id,id,?_⟩;obtain rfl:=sj h;conv=>whnf
 try exact Sk
abbrev uX (r:Int×Bool):PV:=PV.tup [PV.int .i64 r.1,PV.bool r.2]
def zc (n:Nat) (a:List Node) (b:Int):Option (Int×Bool):=
 bnd (qo n a b ()) fun⟨c,d⟩=>
 some (c,d)
theorem uP (n:Nat):∀ (a:List Node) (b:Int) (r:Int×Bool),zc n a b=some r->qi TP 134 [PV.sl (Node.rows a),PV.int .i64 b,PV.fn 135] (uX r):=by
 intro a b r h;unfold zc at h;refine zN Tryz.call134 Tryz.func134 [10000005,1000000] ?_;conv=>whnf
 refine bq h fun⟨_,_⟩ c h=>⟨_,(zr n _ _ _ _ c),?_⟩;obtain rfl:=sj h;conv=>whnf
 try exact Sk
abbrev gn (r:Val):PV:=PV.agg (xV.cells r)
def vA (n d:Nat) (g67:Val->Option (Val)) (f:List SS) (i:Int) (u:Bool) (y:Int) (z:SS):LK (Int×List Val) (Val):=fun g (a,b)=>
 bif(decide (a<((((Val.rows (List.replicate d (Val.mk (0:Int) false (0:Int) ([]:SS) ([]:List Val) ([]:List SS)))).length):Nat):Int)))then(
 bnd (Xe a) fun e=>
 chk (decide (e<(Val.rows (List.replicate d (Val.mk (0:Int) false (0:Int) ([]:SS) ([]:List Val) ([]:List SS)))).length)) (
 bnd (b[e]?) fun⟨j,k,l,m,o,p⟩=>
 bnd (g67 (Val.mk j k l m o p)) fun⟨q,s,t,v,w,x⟩=>
 bnd (Xe a) fun c=>
 chk (decide (c<(Val.rows (List.replicate d (Val.mk (0:Int) false (0:Int) ([]:SS) ([]:List Val) ([]:List SS)))).length)) (
 bnd (b[c]?) fun⟨_,_,_,_,_,_⟩=>
 g ((kwr .i64 (a+1)),(b.set c (Val.mk q s t v w x))))))
 else(
 chk (decide ((qy f).length * 16<=140737488355328)) (
 some (Val.mk i u y z b f)))
def dF (n:Nat) (g67:Val->Option (Val)) (c:Val):Option (Val):=
 match c with
 | ⟨d,e,f,g,a,i⟩=>
 bnd (Xe ((Val.rows a).length:Int)) fun b=>
 chk (decide (b * 88<=140737488355328)) (
 chk (decide ((Val.rows a).length=(Val.rows (List.replicate b (Val.mk (0:Int) false (0:Int) ([]:SS) ([]:List Val) ([]:List SS)))).length)) (
 qU (vA n b g67 i d e f g) n ((0:Int),a)))
theorem Zy (n:Nat) (g67:Val->Option (Val)) (g67_ok:∀ (a r:Val),g67 a=some r->qi TP 67 [PV.agg (xV.cells a)] (gn r)):∀ (a r:Val),dF n g67 a=some r->qi TP 67 [PV.agg (xV.cells a)] (gn r):=by
 intro a r h;obtain⟨g,i,k,l,w,d⟩:=a;unfold dF at h;refine zN Tryz.call67 Tryz.func67 [46,10000008,1000000] ?_;conv=>whnf
 refine bq h fun b y h=>?_;have c:=zX y;conv=>whnf
 obtain⟨m,h⟩:=qL h;refine⟨b,Val.rows (List.replicate b (Val.mk (0:Int) false (0:Int) ([]:SS) ([]:List Val) ([]:List SS))),⟨c,c,kod m,xK m (by decide),Codec.madeN xV (Val.mk (0:Int) false (0:Int) ([]:SS) ([]:List Val) ([]:List SS)) b (by try exact Sk),rfl,by decide,rfl⟩,?_⟩;conv=>whnf
 obtain⟨H,h⟩:=qL h;refine⟨⟨rfl,kod H,Codec.wide xV w⟩,?_⟩;conv=>whnf
 refine zd.fn [46,10000008,1000000] (S:=Int×List Val) (fun(f,e)=>[(1,.ptr 0 0),(2,.ptr 1 0),(3,.vsl 2 ((Val.rows (List.replicate b (Val.mk (0:Int) false (0:Int) ([]:SS) ([]:List Val) ([]:List SS)))).length)),(14,.p (.int .i64 ((((Val.rows (List.replicate b (Val.mk (0:Int) false (0:Int) ([]:SS) ([]:List Val) ([]:List SS)))).length):Nat):Int))),(15,pI f)]) (fun(f,e)=>[.box 32 [pI g,pB i,pI k,pS l,pV w,pT d],.box 32 [SR,pB false,SR,SU,SV,SV],.vec 32 6 (Val.rows e)]) (B:=vA n b g67 d g i k l) h (wk [0,1,2] []) ?_;intro _ st h;obtain⟨f,e⟩:=st;unfold vA at h;conv=>whnf
 apply ifc h<;>intro _ h
 ·conv=>whnf
  refine bq h fun I F h=>?_;have c:=zX F;conv=>whnf
  obtain⟨E,h⟩:=qL h;refine⟨I,⟨c,kod E⟩,?_⟩;conv=>whnf
  refine bq h fun⟨_,_,_,_,_,_⟩ D h=>⟨_,⟨rfl,Codec.getN xV D⟩,?_⟩;conv=>whnf
  refine bq h fun⟨o,q,s,t,u,v⟩ C h=>⟨_,(g67_ok _ _ C),?_⟩;conv=>whnf
  refine bq h fun j A h=>?_;have c:=zX A;conv=>whnf
  obtain⟨z,h⟩:=qL h;refine⟨j,⟨c,kod z⟩,?_⟩;conv=>whnf
  refine bq h fun⟨_,_,_,_,_,_⟩ x h=>⟨_,⟨rfl,Codec.getN xV x,rfl⟩,?_⟩;conv=>whnf
  refine⟨_,Codec.setN xV e j (Val.mk o q s t u v),?_⟩;conv=>whnf
  exact⟨((kwr .i64 (f+1)),(e.set j (Val.mk o q s t u v))),h,wk [0,1,2] []⟩
 conv=>whnf
 obtain⟨G,h⟩:=qL h;refine zg (Gf d (kod G)) [] [] ?_;rintro _ _ ⟨rfl,rfl⟩;refine⟨.tsl 3 (qy d),[.box 32 [pI g,pB i,pI k,pS l,.vsl 2 ((Val.rows (List.replicate b (Val.mk (0:Int) false (0:Int) ([]:SS) ([]:List Val) ([]:List SS)))).length),pT d],.box 32 [SR,pB false,SR,SU,SV,SV],.vec 32 6 (Val.rows e),.tail 9 1 (qy d).length],rfl,rfl,?_⟩;obtain rfl:=sj h;conv=>whnf
 try exact Sk
def xi:Nat->Val->Option (Val)
 | 0=>fun _=>none
 | n+1=>dF n (xi n)
theorem rL (n:Nat):(∀ (a r:Val),xi n a=some r->qi TP 67 [PV.agg (xV.cells a)] (gn r)):=by
 induction n with
 | zero=>exact(by intros; rename_i h; cases h)
 | succ n ih=>
  have hg67:=ih;exact Zy n (xi n) hg67
theorem XG (n:Nat):∀ (a r:Val),xi n a=some r->qi TP 67 [PV.agg (xV.cells a)] (gn r):=(rL n)
abbrev ZT (r:List SS×List Val):PV:=PV.tup [PV.sl (qy r.1),PV.sl (Val.rows r.2)]
def zY (n:Nat) (k:List Val) (c:List SS):LK (List Val×Int) (List SS×List Val):=fun l (a,b)=>
 bif(decide (b<((Val.rows k).length:Int)))then(
 bnd (idx k b) fun⟨p,q,s,t,m,o⟩=>
 bnd (xi n (Val.mk p q s t m o)) fun⟨d,e,f,g,i,j⟩=>
 chk (decide ((Val.rows (a++[Val.mk d e f g i j])).length * 88<=140737488355328)) (
 l ((a++[Val.mk d e f g i j]),(kwr .i64 (b+1)))))
 else(
 chk (decide ((qy c).length * 16<=140737488355328)) (
 some (c,a)))
def vW (n:Nat) (b:List SS) (a:List Val):Option (List SS×List Val):=
 bnd (Xe ((Val.rows a).length:Int)) fun c=>
 chk (decide (c * 88<=140737488355328)) (
 qU (zY n a b) n (([]:List Val),(0:Int)))
theorem nL (n:Nat):∀ (b:List SS) (j:List Val) (r:List SS×List Val),vW n b j=some r->qi TP 188 [PV.sl (qy b),PV.sl (Val.rows j)] (ZT r):=by
 intro b j r h;unfold vW at h;refine zN Tryz.call188 Tryz.func188 [46,1000000] ?_;conv=>whnf
 refine bq h fun v t h=>?_;have u:=zX t;conv=>whnf
 obtain⟨m,h⟩:=qL h;refine⟨v,⟨rfl,u,kod m,xK m (by decide)⟩,?_⟩;conv=>whnf
 refine zd.fn [46,1000000] (S:=List Val×Int) (fun(a,k)=>[(0,pT b),(6,.tsl 0 (Val.rows a)),(12,pV j),(13,.p (.int .i64 ((Val.rows j).length:Int))),(14,pI k)]) (fun(a,k)=>[.tail 32 6 (Val.rows a).length]) (B:=zY n j b) h (wk [0] []) ?_;intro _ st h;obtain⟨a,k⟩:=st;unfold zY at h;conv=>whnf
 apply ifc h<;>intro _ h
 ·conv=>whnf
  refine bq h fun⟨_,_,_,_,_,_⟩ q h=>⟨_,Codec.at_ xV q,?_⟩;conv=>whnf
  refine bq h fun⟨c,d,e,f,g,i⟩ o h=>⟨_,(XG n _ _ o),?_⟩;conv=>whnf
  refine⟨Codec.one xV [Val.mk c d e f g i],Val.rows [Val.mk c d e f g i],.inl rfl,?_⟩;conv=>whnf
  rw[show Val.rows a++Val.rows [Val.mk c d e f g i]=Val.rows (a++[Val.mk c d e f g i])from Codec.append xV a [Val.mk c d e f g i]];conv=>whnf
  obtain⟨l,h⟩:=qL h;refine⟨⟨Codec.wide xV (a++[Val.mk c d e f g i]),kod l,xK l (by decide)⟩,?_⟩;conv=>whnf
  refine⟨⟨rfl,rfl,rfl⟩,?_⟩;conv=>whnf
  exact⟨((a++[Val.mk c d e f g i]),(kwr .i64 (k+1))),h,wk [2] []⟩
 conv=>whnf
 obtain⟨s,h⟩:=qL h;refine zg (Gf b (kod s)) [] [] ?_;rintro _ _ ⟨rfl,rfl⟩;refine⟨.tsl 1 (qy b),[.tail 32 6 (Val.rows a).length,.tail 9 1 (qy b).length],rfl,rfl,?_⟩;obtain rfl:=sj h;conv=>whnf
 try exact Sk
abbrev tV (r:Node):PV:=PV.agg (bU.cells r)
def vO (n:Nat) (b:Node):Option (Node):=
 match b with
 | ⟨c,a,d,e⟩=>
 chk (decide ((qy a).length * 16<=140737488355328)) (
 bnd (vW n d e) fun⟨f,g⟩=>
 some (Node.mk c a f g))
theorem tx (n:Nat):∀ (a r:Node),vO n a=some r->qi TP 136 [PV.agg (bU.cells a)] (tV r):=by
 intro a r h;obtain⟨e,b,f,g⟩:=a;unfold vO at h;refine zN Tryz.call136 Tryz.func136 [46,1000000] ?_;conv=>whnf
 obtain⟨d,h⟩:=qL h;refine zg (Gf b (kod d)) [] [] ?_;rintro _ _ ⟨rfl,rfl⟩;refine⟨.tsl 2 (qy b),[.box 96 [pI e,pT b,pT f,pV g],.box 96 [SR,SV,SV,SV],.tail 9 1 (qy b).length],rfl,rfl,?_⟩;conv=>whnf
 refine bq h fun⟨_,_⟩ c h=>⟨_,(nL n _ _ _ c),?_⟩;obtain rfl:=sj h;conv=>whnf
 try exact Sk
abbrev nt (r:Node×Bool):PV:=PV.tup [PV.agg (bU.cells r.1),PV.bool r.2]
def uz (n:Nat) (b:Graph) (g:Int):Option (Node×Bool):=
 match b with
 | ⟨a,_⟩=>
 bnd (zc n a g) fun⟨i,j⟩=>
 bif(!j)then(
 some (Node.mk (0:Int) ([]:List SS) ([]:List SS) ([]:List Val),false))
 else(
 bnd (idx a i) fun⟨k,l,m,o⟩=>
 bnd (vO n (Node.mk k l m o)) fun⟨c,d,e,f⟩=>
 some (Node.mk c d e f,true))
theorem XF (n:Nat):∀ (a:Graph) (b:Int) (r:Node×Bool),uz n a b=some r->qi TP 98 [PV.agg (df.cells a),PV.int .i64 b] (nt r):=by
 intro a b r h;obtain⟨_,_⟩:=a;unfold uz at h;refine zN Tryz.call98 Tryz.func98 [1000000] ?_;conv=>whnf
 refine bq h fun⟨_,_⟩ e h=>⟨_,(uP n _ _ _ e),?_⟩;conv=>whnf
 apply ifc h<;>intro _ h
 ·obtain rfl:=sj h
  conv=>whnf
  try exact Sk
 conv=>whnf
 refine bq h fun⟨_,_,_,_⟩ d h=>⟨_,Codec.at_ bU d,?_⟩;conv=>whnf
 refine bq h fun⟨_,_,_,_⟩ c h=>⟨_,(tx n _ _ c),?_⟩;obtain rfl:=sj h;conv=>whnf
 try exact Sk
abbrev tU (r:Edge):PV:=PV.agg (nQ.cells r)
def xO (n:Nat) (a:Edge):Option (Edge):=
 match a with
 | ⟨b,c,d,e,f,g⟩=>
 bnd (vW n f g) fun⟨i,j⟩=>
 some (Edge.mk b c d e i j)
theorem tw (n:Nat):∀ (a r:Edge),xO n a=some r->qi TP 192 [PV.agg (nQ.cells a)] (tU r):=by
 intro a r h;obtain⟨_,_,_,_,_,_⟩:=a;unfold xO at h;refine zN Tryz.call192 Tryz.func192 [1000000] ?_;conv=>whnf
 refine bq h fun⟨_,_⟩ b h=>⟨_,(nL n _ _ _ b),?_⟩;obtain rfl:=sj h;conv=>whnf
 try exact Sk
end W
end
section
set_option maxRecDepth 100000
set_option maxHeartbeats 20000000
open Go Go.Proofs Ax
namespace W
abbrev ZS (r:List Edge):PV:=PV.sl (Edge.rows r)
def xB (n:Nat) (a:List Edge×Int->Option (List Edge)) (b:Int):List Edge->Option (List Edge):=fun c=>
 a (c,(kwr .i64 (b+1)))
def uO (n:Nat) (m:List Edge) (q p:Int) (s:SS):LK (List Edge×Int) (List Edge):=fun c (a,b)=>
 bif(decide (b<((Edge.rows m).length:Int)))then(
 bnd (idx m b) fun⟨v,d,e,f,t,u⟩=>
 bif(bif(bif(bif(q != 1)then(d==p)else false)then true else(bif(q != 0)then(e==p)else false))then(bif(s==([]:SS))then true else(f==s))else false)then(
 bnd (xO n (Edge.mk v d e f t u)) fun⟨g,i,j,k,l,o⟩=>
 chk (decide ((Edge.rows (a++[Edge.mk g i j k l o])).length * 88<=140737488355328)) (
 xB n c b (a++[Edge.mk g i j k l o])))
 else(
 xB n c b a))
 else(
 some a)
def zF (n:Nat) (a:Graph) (c d:Int) (e:SS):Option (List Edge):=
 match a with
 | ⟨_,b⟩=>
 qU (uO n b d c e) n (([]:List _),(0:Int))
theorem QC (n:Nat):∀ (q:Graph) (i j:Int) (k:SS) (r:List Edge),zF n q i j k=some r->qi TP 142 [PV.agg (df.cells q),PV.int .i64 i,PV.int .i64 j,PV.str k] (ZS r):=by
 intro q i j k r h;obtain⟨_,m⟩:=q;unfold zF at h;refine zN Tryz.call142 Tryz.func142 [1000000] ?_;conv=>whnf
 refine zd.fn [1000000] (S:=List Edge×Int) (fun(a,l)=>[(1,pI i),(2,pI j),(3,pS k),(9,.tsl 0 (Edge.rows a)),(13,.p (.sl (Edge.rows m))),(14,.p (.int .i64 ((Edge.rows m).length:Int))),(15,pI l)]) (fun(a,l)=>[.tail 56 6 (Edge.rows a).length]) (B:=uO n m j i k) h (wk [0] [0]) ?_;intro w st h;obtain⟨a,l⟩:=st;unfold uO at h;conv=>whnf
 apply ifc h<;>intro v h
 ·conv=>whnf
  refine nu.cut (S:=List Edge) (fun o=>[(1,pI i),(2,pI j),(3,pS k),(9,.tsl 0 (Edge.rows o)),(13,.p (.sl (Edge.rows m))),(14,.p (.int .i64 ((Edge.rows m).length:Int))),(15,pI l)]) (fun o=>[.tail 56 6 (Edge.rows o).length]) (xB n w l) (r:=r) ?_ ?_
  ·intro o h
   unfold xB at h;conv=>whnf
   exact⟨(o,(kwr .i64 (l+1))),h,wk [0] []⟩
  conv=>whnf
  refine bq h fun⟨_,_,_,_,_,_⟩ u h=>⟨_,Codec.at_ nQ u,?_⟩;conv=>whnf
  iterate 20 refine⟨id,?_⟩
  conv=>whnf
  apply ifc h<;>intro v h
  ·conv=>whnf
   refine bq h fun⟨b,c,d,e,f,g⟩ t h=>⟨_,(tw n _ _ t),?_⟩;conv=>whnf
   refine⟨Codec.one nQ [Edge.mk b c d e f g],Edge.rows [Edge.mk b c d e f g],.inl rfl,?_⟩;conv=>whnf
   rw[show Edge.rows a++Edge.rows [Edge.mk b c d e f g]=Edge.rows (a++[Edge.mk b c d e f g])from Codec.append nQ a [Edge.mk b c d e f g]];conv=>whnf
   obtain⟨s,h⟩:=qL h;refine⟨⟨Codec.wide nQ (a++[Edge.mk b c d e f g]),kod s,xK s (by decide)⟩,?_⟩;conv=>whnf
   refine⟨⟨rfl,rfl,rfl⟩,?_⟩;conv=>whnf
   exact⟨(a++[Edge.mk b c d e f g]),h,wk [2] []⟩
  conv=>whnf
  exact⟨a,h,wk [0] []⟩
 obtain rfl:=sj h;conv=>whnf
 try exact Sk
end W
end
section
set_option maxRecDepth 100000
set_option maxHeartbeats 20000000
open Go Go.Proofs Ax
namespace W
abbrev Bh (r:Bool):PV:=PV.bool r
def cX (n:Nat) (b:List zj) (k:List SS) (m:List Val) (o:Int) (p:Bool) (q:Int) (s:SS) (e:List Val) (f:List SS):LK (Int) (Bool):=fun d a=>
 bif(decide (a<((zj.rows b).length:Int)))then(
 bnd (idx b a) fun⟨g,i⟩=>
 bnd (uL n (zj.mk g i)) fun j=>
 bif(!j)then(
 some false)
 else(
 d (kwr .i64 (a+1))))
 else(
 bnd (db n (Env.mk k m)) fun c=>
 bnd (qG c (vu n (Val.mk o p q s e f))) fun l=>
 some (bif c then l else false))
def bh (n:Nat) (b:List zj) (g:pd):Option (Bool):=
 match g with
 | ⟨⟨l,m⟩,⟨d,e⟩,⟨o,p,q,s,i,j⟩⟩=>
 bnd (bp n (ZV.mk [qt.mk (1:Int) b ([]:List qb) (qb.mk (0:Int) ([]:SS) (Val.mk (0:Int) false (0:Int) ([]:SS) ([]:List Val) ([]:List SS)) ([]:List SS) ([]:List qb)) ([]:SS) ([]:List zx) false ([]:List za) ([]:List qb) ([]:List qb) ([]:List qm) ([]:List SS) false])) fun a=>
 bnd (qG (!a) (bG n (Graph.mk d e))) fun c=>
 bnd (qG (!(bif a then true else(!c))) (cm n (Graph.mk d e))) fun f=>
 bnd (qG (!(bif(bif a then true else(!c))then true else(!f))) (cq n b (Graph.mk d e))) fun k=>
 bif(bif(bif(bif a then true else(!c))then true else(!f))then true else k)then(
 some false)
 else(
 qU (cX n b l m o p q s i j) n (0:Int))
theorem FA (n:Nat):∀ (b:List zj) (c:pd) (r:Bool),bh n b c=some r->qi TP 7 [PV.sl (zj.rows b),PV.agg (MH.cells c)] (Bh r):=by
 intro b c r h;obtain⟨⟨i,j⟩,⟨z,A⟩,⟨k,l,m,o,f,g⟩⟩:=c;unfold bh at h;refine zN Tryz.call7 Tryz.func7 [1000000] ?_;conv=>whnf
 refine⟨by repeat (first|exact List.forall_mem_nil _|refine List.forall_mem_cons.2 ⟨⟨rfl,rfl⟩,?_⟩),qt.rows [qt.mk (1:Int) b ([]:List qb) (qb.mk (0:Int) ([]:SS) (Val.mk (0:Int) false (0:Int) ([]:SS) ([]:List Val) ([]:List SS)) ([]:List SS) ([]:List qb)) ([]:SS) ([]:List zx) false ([]:List za) ([]:List qb) ([]:List qb) ([]:List qm) ([]:List SS) false],.inr (by try exact Sk),?_⟩;conv=>whnf
 refine bq h fun _ y h=>⟨_,(VP n _ _ y),?_⟩;conv=>whnf
 refine⟨id,id,?_⟩;conv=>whnf
 refine bq h fun _ x h=>⟨_,fun a=>(FH n _ _ (qa x a)),?_⟩;conv=>whnf
 refine⟨id,id,id,id,?_⟩;conv=>whnf
 refine bq h fun _ w h=>⟨_,fun a=>(Gp n _ _ (qa w a)),?_⟩;conv=>whnf
 refine⟨id,id,id,id,id,?_⟩;conv=>whnf
 refine bq h fun _ v h=>⟨_,fun a=>(VT n _ _ _ (qa v a)),?_⟩;conv=>whnf
 refine⟨id,?_⟩;conv=>whnf
 apply ifc h<;>intro e h
 ·obtain rfl:=sj h
  conv=>whnf
  try exact Sk
 conv=>whnf
 refine zd.fn [1000000] (S:=Int) (fun d=>[(0,pP b),(3,.ptr 0 0),(6,pI d)]) (fun d=>[.box 34 [pT i,pV j,.p (.sl (Node.rows z)),.p (.sl (Edge.rows A)),pI k,pB l,pI m,pS o,pV f,pT g]]) (B:=cX n b i j k l m o f g) h (wk [0] []) ?_;intro _ d h;unfold cX at h;conv=>whnf
 apply ifc h<;>intro e h
 ·conv=>whnf
  refine bq h fun⟨_,_⟩ s h=>⟨_,Codec.at_ rC s,?_⟩;conv=>whnf
  refine bq h fun _ q h=>⟨_,(rH n _ _ q),?_⟩;conv=>whnf
  apply ifc h<;>intro e h
  ·obtain rfl:=sj h
   conv=>whnf
   try exact Sk
  conv=>whnf
  exact⟨(kwr .i64 (d+1)),h,wk [0] []⟩
 conv=>whnf
 refine bq h fun _ u h=>⟨_,(XD n _ _ u),?_⟩;conv=>whnf
 refine⟨id,id,?_⟩;conv=>whnf
 refine bq h fun _ t h=>⟨_,fun a=>(tP n _ _ (qa t a)),?_⟩;conv=>whnf
 refine⟨id,?_⟩;obtain rfl:=sj h;conv=>whnf
 try exact Sk
end W
end
