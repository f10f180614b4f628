/- A part of the proof: contracts, printed by program. -/
import Derived.Test.YtlnipohgljbfiaaGreatB
import Derived.Test.YtlnipohgljbfiaaGreatC
import Derived.Test.YtlnipohgljbfiaaGreatD
import Derived.Test.YtlnipohgljbfiaaGreatJ
set_option linter.unusedVariables false
set_option linter.unusedSimpArgs false
set_option linter.unnecessarySimpa false
set_option linter.deprecated false
set_option linter.unusedSectionVars false
set_option linter.constructorNameAsVariable false
open Go.IntKind renaming wrap->kwr,bits->kbt
section
set_option maxRecDepth 100000
set_option maxHeartbeats 4000000
open Go Go.Proofs Ax
namespace W
abbrev SU (r:Bool):PV:=PV.bool r
def dp (n:Nat) (b:List SS) (e:SS) (d:List qe):LK (Int) (Bool):=fun c a=>
 bif(decide (a<((qi b).length:Int)))then(
 bnd (idx b a) fun f=>
 bnd (gx n f) fun g=>
 bif(!g)then(
 some false)
 else(
 c (kwr .i64 (a+1))))
 else(
 some (bif(e==([]:SS))then(((qe.rows d).length:Int)==((qi b).length:Int))else false))
def zq (n:Nat) (b:SS) (a:List qe) (c:Int):Bool->Option (Bool):=fun e=>
 bif e then(
 some (bif(b==([]:SS))then(((qe.rows a).length:Int)==1)else false))
 else(
 bif(c==10)then(
 bnd (qD (((qe.rows a).length:Int)==2) (ZS n b)) fun f=>
 some (bif(((qe.rows a).length:Int)==2)then(decide (f>0))else false))
 else(
 bif(c==13)then(
 bnd (uU n b) fun d=>
 bnd (qD d (nA n b)) fun g=>
 some (bif d then(!g)else false))
 else(
 bif(c==14)then(
 bnd (qD (((qe.rows a).length:Int)==1) (nA n b)) fun i=>
 some (bif(bif(((qe.rows a).length:Int)==1)then i else false)then true else(bif(((qe.rows a).length:Int)==0)then(b==([99,111,117,110,116]:SS))else false)))
 else(
 some false))))
def zC (n:Nat) (b:List qe) (c:SS) (a:Int) (j:List SS):Bool->Option (Bool):=fun e=>
 bif e then(
 bnd (qD (((qe.rows b).length:Int)==0) (uU n c)) fun f=>
 some (bif(((qe.rows b).length:Int)==0)then f else false))
 else(
 bif(a==4)then(
 bnd (qD (((qe.rows b).length:Int)==1) (gx n c)) fun g=>
 some (bif(((qe.rows b).length:Int)==1)then g else false))
 else(
 bif(a==15)then(
 bnd (qD (((qe.rows b).length:Int)==1) (gx n c)) fun d=>
 bnd (qD (bif(((qe.rows b).length:Int)==1)then d else false) (idx b (0:Int))) fun⟨i,_,⟨_,_,_,_,_,_⟩,_,_⟩=>
 some (bif(bif(((qe.rows b).length:Int)==1)then d else false)then(i==2)else false))
 else(
 bif(a==5)then(
 some (c==([]:SS)))
 else(
 bif(a==6)then(
 qo (dp n j c b) n (0:Int))
 else(
 bif(a==7)then(
 some (bif(c==([]:SS))then(((qe.rows b).length:Int)==2)else false))
 else(
 bif(a==8)then(
 zq n c b a (a==8))
 else(
 bif(a==9)then(
 zq n c b a (a==9))
 else(
 bif(a==11)then(
 zq n c b a (a==11))
 else(
 zq n c b a (a==12))))))))))
def xn (n:Nat) (g:qe):Option (Bool):=
 match g with
 | ⟨a,d,⟨b,j,e,k,l,m⟩,f,c⟩=>
 bif(a==1)then(
 bnd (qD (bif(d==([]:SS))then(((qe.rows c).length:Int)==0)else false) (nv n (Val.mk b j e k l m))) fun i=>
 some (bif(bif(bif(d==([]:SS))then(((qe.rows c).length:Int)==0)else false)then i else false)then(bif(bif(bif(b==0)then true else(b==1))then true else(bif(b==2)then(decide (e≥0))else false))then true else(b==3))else false))
 else(
 bif(a==2)then(
 zC n c d a f (a==2))
 else(
 zC n c d a f (a==3)))
theorem Pz (n:Nat):∀ (g:qe) (r:Bool),xn n g=some r->qb TP 210 [PV.agg (zX.cells g)] (SU r):=by
 intro g r h;obtain⟨c,e,⟨l,m,o,q,s,t⟩,f,d⟩:=g;unfold xn at h;refine zN Tryz.call210 Tryz.func210 [1000000] ?_;conv=>whnf
 apply ifc h<;>intro a h
 ·conv=>whnf
  refine⟨id,id,id,?_⟩;conv=>whnf
  refine bq h fun _ u h=>⟨_,fun b=>(Gb n _ _ (qa u b)),?_⟩;conv=>whnf
  iterate 24 refine⟨id,?_⟩
  obtain rfl:=sj h;conv=>whnf
  try exact fin
 conv=>whnf
 refine cY.cut (S:=Bool) (fun j=>[(1,.ptr 0 0),(3,.p (.int .i64 ((qe.rows d).length:Int))),(4,.p (.bool (e==([]:SS)))),(14,pI c),(53,pB j)]) (fun j=>[.box 49 [pI c,pS e,pI l,pB m,pI o,pS q,pV s,pT t,pT f,pE d]]) (zC n d e c f) (r:=r) ?_ ?_
 ·intro j h
  unfold zC at h;conv=>whnf
  apply ifc h<;>intro a h
  ·conv=>whnf
   refine⟨id,id,?_⟩;conv=>whnf
   refine bq h fun _ x h=>⟨_,fun b=>(gr n _ _ (qa x b)),?_⟩;conv=>whnf
   refine⟨id,?_⟩;obtain rfl:=sj h;conv=>whnf
   try exact fin
  conv=>whnf
  apply ifc h<;>intro a h
  ·conv=>whnf
   refine⟨id,id,?_⟩;conv=>whnf
   refine bq h fun _ y h=>⟨_,fun b=>(fm n _ _ (qa y b)),?_⟩;conv=>whnf
   refine⟨id,?_⟩;obtain rfl:=sj h;conv=>whnf
   try exact fin
  conv=>whnf
  apply ifc h<;>intro a h
  ·conv=>whnf
   refine⟨id,id,?_⟩;conv=>whnf
   refine bq h fun _ A h=>⟨_,fun b=>(fm n _ _ (qa A b)),?_⟩;conv=>whnf
   refine⟨id,id,id,?_⟩;conv=>whnf
   refine bq h fun⟨_,_,⟨_,_,_,_,_,_⟩,_,_⟩ z h=>⟨_,fun b=>Codec.at_ zX (qa z b),?_⟩;conv=>whnf
   refine⟨id,id,id,id,?_⟩;obtain rfl:=sj h;conv=>whnf
   try exact fin
  conv=>whnf
  apply ifc h<;>intro a h
  ·obtain rfl:=sj h
   conv=>whnf
   try exact fin
  conv=>whnf
  apply ifc h<;>intro a h
  ·conv=>whnf
   refine qX.fn [1000000] (S:=Int) (fun i=>[(1,.ptr 0 0),(3,.p (.int .i64 ((qe.rows d).length:Int))),(4,.p (.bool (e==([]:SS)))),(6,pI i)]) (fun i=>[.box 49 [pI c,pS e,pI l,pB m,pI o,pS q,pV s,pT t,pT f,pE d]]) (B:=dp n f e d) h (wk [0] []) ?_;intro _ i h;unfold dp at h;conv=>whnf
   apply ifc h<;>intro a h
   ·conv=>whnf
    refine bq h fun _ D h=>⟨_,Codec.at_ cc D,?_⟩;(conv=>whnf);refine bq h fun _ C h=>⟨_,(fm n _ _ C),?_⟩;(conv=>whnf);apply ifc h<;>intro a h
    ·obtain rfl:=sj h
     conv=>whnf
     try exact fin
    (conv=>whnf);exact⟨(kwr .i64 (i+1)),h,wk [0] []⟩
   conv=>whnf
   refine⟨id,id,id,id,id,?_⟩;obtain rfl:=sj h;conv=>whnf
   try exact fin
  conv=>whnf
  apply ifc h<;>intro a h
  ·conv=>whnf
   refine⟨id,id,?_⟩;obtain rfl:=sj h;conv=>whnf
   try exact fin
  conv=>whnf
  refine cY.cut (S:=Bool) (fun k=>[(1,.ptr 0 0),(3,.p (.int .i64 ((qe.rows d).length:Int))),(4,.p (.bool (e==([]:SS)))),(14,pI c),(123,pB k)]) (fun k=>[.box 49 [pI c,pS e,pI l,pB m,pI o,pS q,pV s,pT t,pT f,pE d]]) (zq n e d c) (r:=r) ?_ ?_
  ·intro k h
   unfold zq at h;conv=>whnf
   apply ifc h<;>intro a h
   ·conv=>whnf
    refine⟨id,id,?_⟩;obtain rfl:=sj h;conv=>whnf
    try exact fin
   conv=>whnf
   apply ifc h<;>intro a h
   ·conv=>whnf
    refine⟨id,id,?_⟩;(conv=>whnf);refine bq h fun _ E h=>⟨_,fun b=>(Py n _ _ (qa E b)),?_⟩;(conv=>whnf);refine⟨id,id,?_⟩;obtain rfl:=sj h;conv=>whnf
    try exact fin
   conv=>whnf
   apply ifc h<;>intro a h
   ·conv=>whnf
    refine bq h fun _ v h=>⟨_,(gr n _ _ v),?_⟩;(conv=>whnf);refine⟨id,id,?_⟩;(conv=>whnf);refine bq h fun _ F h=>⟨_,fun b=>(Xy n _ _ (qa F b)),?_⟩;(conv=>whnf);refine⟨id,id,?_⟩;obtain rfl:=sj h;conv=>whnf
    try exact fin
   conv=>whnf
   apply ifc h<;>intro a h
   ·conv=>whnf
    refine⟨id,id,?_⟩;(conv=>whnf);refine bq h fun _ w h=>⟨_,fun b=>(Xy n _ _ (qa w b)),?_⟩;conv=>whnf
    iterate 8 refine⟨id,?_⟩
    obtain rfl:=sj h;conv=>whnf
    try exact fin
   obtain rfl:=sj h;conv=>whnf
   try exact fin
  conv=>whnf
  apply ifc h<;>intro a h
  ·conv=>whnf
   exact⟨(c==8),h,wk [0] []⟩
  conv=>whnf
  apply ifc h<;>intro a h
  ·conv=>whnf
   exact⟨(c==9),h,wk [0] []⟩
  conv=>whnf
  apply ifc h<;>intro a h
  ·conv=>whnf
   exact⟨(c==11),h,wk [0] []⟩
  conv=>whnf
  exact⟨(c==12),h,wk [0] []⟩
 conv=>whnf
 apply ifc h<;>intro a h
 ·conv=>whnf
  exact⟨(c==2),h,wk [0] []⟩
 conv=>whnf
 exact⟨(c==3),h,wk [0] []⟩
abbrev XE (r:Bool):PV:=PV.bool r
def bH (n:Nat) (b:List qe) (g141:qe->Int->Option (Bool)) (d:Int):LK (Int) (Bool):=fun c a=>
 bif(decide (a<((qe.rows b).length:Int)))then(
 bnd (idx b a) fun⟨e,f,⟨g,i,j,k,l,m⟩,o,p⟩=>
 bnd (g141 (qe.mk e f (Val.mk g i j k l m) o p) (kwr .i64 (d - 1))) fun q=>
 bif(!q)then(
 some false)
 else(
 c (kwr .i64 (a+1))))
 else(
 some true)
def VX (n:Nat) (g141:qe->Int->Option (Bool)) (m:qe) (b:Int):Option (Bool):=
 match m with
 | ⟨a,p,⟨e,f,g,i,j,k⟩,l,c⟩=>
 bnd (qD (!(decide (b<1))) (xn n (qe.mk a p (Val.mk e f g i j k) l c))) fun d=>
 bnd (qD ((!(bif(decide (b<1))then true else(!d)))&&(a != 1)) (dF n (Val.mk e f g i j k) (Val.mk (0:Int) false (0:Int) ([]:SS) ([]:List Val) ([]:List SS)))) fun o=>
 bif(bif(bif(bif(decide (b<1))then true else(!d))then true else(bif(a != 1)then(!o)else false))then true else(bif(a != 6)then(decide (((qi l).length:Int)>0))else false))then(
 some false)
 else(
 qo (bH n c g141 b) n (0:Int))
theorem Pm (n:Nat) (g141:qe->Int->Option (Bool)) (g141_ok:∀ (b:qe) (a:Int) (r:Bool),g141 b a=some r->qb TP 141 [PV.agg (zX.cells b),PV.int .i64 a] (XE r)):∀ (b:qe) (a:Int) (r:Bool),VX n g141 b a=some r->qb TP 141 [PV.agg (zX.cells b),PV.int .i64 a] (XE r):=by
 intro b a r h;obtain⟨l,m,⟨o,p,q,s,t,u⟩,v,f⟩:=b;unfold VX at h;refine zN Tryz.call141 Tryz.func141 [1000000] ?_;conv=>whnf
 refine⟨id,?_⟩;conv=>whnf
 refine bq h fun _ k h=>⟨_,fun d=>(Pz n _ _ (qa k d)),?_⟩;conv=>whnf
 iterate 8 refine⟨id,?_⟩
 conv=>whnf
 refine bq h fun _ j h=>⟨_,fun d=>(qb.leArgs (Ua n _ _ _ (qa j d)) (by try exact fin)),?_⟩;conv=>whnf
 iterate 13 refine⟨id,?_⟩
 conv=>whnf
 apply ifc h<;>intro e h
 ·obtain rfl:=sj h
  conv=>whnf
  try exact fin
 conv=>whnf
 refine qX.fn [1000000] (S:=Int) (fun c=>[(1,pI a),(2,.ptr 0 0),(5,pI c)]) (fun c=>[.box 49 [pI l,pS m,pI o,pB p,pI q,pS s,pV t,pT u,pT v,pE f]]) (B:=bH n f g141 a) h (wk [0] []) ?_;intro _ c h;unfold bH at h;conv=>whnf
 apply ifc h<;>intro e h
 ·conv=>whnf
  refine bq h fun⟨_,_,⟨_,_,_,_,_,_⟩,_,_⟩ i h=>⟨_,Codec.at_ zX i,?_⟩;conv=>whnf
  refine bq h fun _ g h=>⟨_,(g141_ok _ _ _ g),?_⟩;conv=>whnf
  apply ifc h<;>intro e h
  ·obtain rfl:=sj h
   conv=>whnf
   try exact fin
  conv=>whnf
  exact⟨(kwr .i64 (c+1)),h,wk [0] []⟩
 obtain rfl:=sj h;conv=>whnf
 try exact fin
def pj:Nat->qe->Int->Option (Bool)
 | 0=>fun _ _=>none
 | n+1=>VX n (pj n)
theorem Px (n:Nat):(∀ (a:qe) (b:Int) (r:Bool),pj n a b=some r->qb TP 141 [PV.agg (zX.cells a),PV.int .i64 b] (XE r)):=by
 induction n with
 | zero=>exact(by intros; rename_i h; cases h)
 | succ n ih=>
  have hg141:=ih;exact Pm n (pj n) hg141
theorem Sr (n:Nat):∀ (a:qe) (b:Int) (r:Bool),pj n a b=some r->qb TP 141 [PV.agg (zX.cells a),PV.int .i64 b] (XE r):=(Px n)
abbrev MC (r:Bool):PV:=PV.bool r
def uk (n:Nat) (a:qe):Option (Bool):=
 match a with
 | ⟨b,e,⟨f,g,i,j,k,l⟩,m,c⟩=>
 bnd (pj n (qe.mk b e (Val.mk f g i j k l) m c) (32:Int)) fun d=>
 some d
theorem cf (n:Nat):∀ (a:qe) (r:Bool),uk n a=some r->qb TP 83 [PV.agg (zX.cells a)] (MC r):=by
 intro a r h;obtain⟨_,_,⟨_,_,_,_,_,_⟩,_,_⟩:=a;unfold uk at h;refine zN Tryz.call83 Tryz.func83 [1000000] ?_;conv=>whnf
 refine bq h fun _ b h=>⟨_,(Sr n _ _ _ b),?_⟩;obtain rfl:=sj h;conv=>whnf
 try exact fin
abbrev Lb (r:Bool):PV:=PV.bool r
def fy (n:Nat) (c:List SS) (m:List qe):LK (Int) (Bool):=fun d a=>
 bif(decide (a<((qi c).length:Int)))then(
 bnd (idx c a) fun o=>
 bnd (gx n o) fun b=>
 bnd (qD (!(!b)) (idx m a)) fun⟨p,q,⟨s,t,e,f,g,i⟩,j,k⟩=>
 bnd (qD (!(!b)) (uk n (qe.mk p q (Val.mk s t e f g i) j k))) fun l=>
 bif(bif(!b)then true else(!l))then(
 some false)
 else(
 d (kwr .i64 (a+1))))
 else(
 some true)
def mC (n:Nat) (a:List SS) (b:List qe):Option (Bool):=
 bif(((qi a).length:Int) != ((qe.rows b).length:Int))then(
 some false)
 else(
 qo (fy n a b) n (0:Int))
theorem Vn (n:Nat):∀ (a:List SS) (b:List qe) (r:Bool),mC n a b=some r->qb TP 140 [PV.sl (qi a),PV.sl (qe.rows b)] (Lb r):=by
 intro a b r h;unfold mC at h;refine zN Tryz.call140 Tryz.func140 [1000000] ?_;conv=>whnf
 apply ifc h<;>intro e h
 ·obtain rfl:=sj h
  conv=>whnf
  try exact fin
 conv=>whnf
 refine qX.fn [1000000] (S:=Int) (fun c=>[(0,pT a),(1,pE b),(5,pI c)]) (fun c=>[]) (B:=fy n a b) h (wk [] []) ?_;intro _ c h;unfold fy at h;conv=>whnf
 apply ifc h<;>intro e h
 ·conv=>whnf
  refine bq h fun _ j h=>⟨_,Codec.at_ cc j,?_⟩;conv=>whnf
  refine bq h fun _ i h=>⟨_,(fm n _ _ i),?_⟩;conv=>whnf
  refine⟨id,id,?_⟩;conv=>whnf
  refine bq h fun⟨_,_,⟨_,_,_,_,_,_⟩,_,_⟩ g h=>⟨_,fun d=>Codec.at_ zX (qa g d),?_⟩;conv=>whnf
  refine⟨id,id,?_⟩;conv=>whnf
  refine bq h fun _ f h=>⟨_,fun d=>(cf n _ _ (qa f d)),?_⟩;conv=>whnf
  refine⟨id,id,?_⟩;conv=>whnf
  apply ifc h<;>intro e h
  ·obtain rfl:=sj h
   conv=>whnf
   try exact fin
  conv=>whnf
  exact⟨(kwr .i64 (c+1)),h,wk [] []⟩
 obtain rfl:=sj h;conv=>whnf
 try exact fin
abbrev MD (r:Bool):PV:=PV.bool r
def gQ (n:Nat) (d:List SS) (a:SS) (k:List SS) (l:List qe) (e:Int->Option (Bool)) (j:Int):LK (Int) (Bool):=fun f b=>
 bif(decide (b<((qi d).length:Int)))then(
 bnd (idx d b) fun m=>
 bnd (gx n m) fun g=>
 bif(!g)then(
 some false)
 else(
 f (kwr .i64 (b+1))))
 else(
 bnd (qD (!(a==([]:SS))) (uU n a)) fun c=>
 bnd (qD (!(bif(!(a==([]:SS)))then(!c)else false)) (mC n k l)) fun i=>
 bif(bif(bif(!(a==([]:SS)))then(!c)else false)then true else(!i))then(
 some false)
 else(
 e (kwr .i64 (j+1))))
def gR (n:Nat) (f:List qy):LK (Int) (Bool):=fun i d=>
 bif(decide (d<((qy.rows f).length:Int)))then(
 bnd (idx f d) fun⟨a,b,c,j,k⟩=>
 bnd (qD (!(a==([]:SS))) (uU n a)) fun e=>
 bnd (qD ((!(bif(!(a==([]:SS)))then(!e)else false))&&(!(b==([]:SS)))) (gx n b)) fun g=>
 bnd (qD (!(bif(bif(bif(bif(!(a==([]:SS)))then(!e)else false)then true else(bif(!(b==([]:SS)))then(!g)else false))then true else(decide (c<0)))then true else(decide (c>2)))) (mC n j k)) fun l=>
 bif(bif(bif(bif(bif(bif(!(a==([]:SS)))then(!e)else false)then true else(bif(!(b==([]:SS)))then(!g)else false))then true else(decide (c<0)))then true else(decide (c>2)))then true else(!l))then(
 some false)
 else(
 i (kwr .i64 (d+1))))
 else(
 some true)
def cg (n:Nat) (b:List qt) (d:List qy):LK (Int) (Bool):=fun c a=>
 bif(decide (a<((qt.rows b).length:Int)))then(
 bnd (idx b a) fun⟨e,f,g,i⟩=>
 qo (gQ n f e g i c a) n (0:Int))
 else(
 qo (gR n d) n (0:Int))
def pk (n:Nat) (c:zx):Option (Bool):=
 match c with
 | ⟨a,b⟩=>
 bif(((qt.rows a).length:Int) != (kwr .i64 (((qy.rows b).length:Int)+1)))then(
 some false)
 else(
 qo (cg n a b) n (0:Int))
theorem HL (n:Nat):∀ (e:zx) (r:Bool),pk n e=some r->qb TP 81 [PV.agg (pb.cells e)] (MD r):=by
 intro e r h;obtain⟨f,d⟩:=e;unfold pk at h;refine zN Tryz.call81 Tryz.func81 [1000000] ?_;conv=>whnf
 apply ifc h<;>intro b h
 ·obtain rfl:=sj h
  conv=>whnf
  try exact fin
 conv=>whnf
 refine qX.fn [1000000] (S:=Int) (fun c=>[(1,.ptr 0 0),(3,pI c)]) (fun c=>[.box 60 [pN f,pG d]]) (B:=cg n f d) h (wk [0] []) ?_;intro y c h;unfold cg at h;conv=>whnf
 apply ifc h<;>intro b h
 ·conv=>whnf
  refine bq h fun⟨j,k,l,m⟩ t h=>⟨_,Codec.at_ gO t,?_⟩;conv=>whnf
  refine qX.fn [1000000] (S:=Int) (fun i=>[(1,.ptr 0 0),(3,pI c),(4,.ptr 1 0),(5,pI i)]) (fun i=>[.box 60 [pN f,pG d],.box 62 [pS j,pT k,pT l,pE m]]) (B:=gQ n k j l m y c) h (wk [0,1] []) ?_;intro _ i h;unfold gQ at h;conv=>whnf
  apply ifc h<;>intro b h
  ·conv=>whnf
   refine bq h fun _ p h=>⟨_,Codec.at_ cc p,?_⟩;conv=>whnf
   refine bq h fun _ o h=>⟨_,(fm n _ _ o),?_⟩;conv=>whnf
   apply ifc h<;>intro b h
   ·obtain rfl:=sj h
    conv=>whnf
    try exact fin
   conv=>whnf
   exact⟨(kwr .i64 (i+1)),h,wk [0,1] []⟩
  conv=>whnf
  refine⟨id,id,?_⟩;conv=>whnf
  refine bq h fun _ s h=>⟨_,fun a=>(gr n _ _ (qa s a)),?_⟩;conv=>whnf
  iterate 6 refine⟨id,?_⟩
  conv=>whnf
  refine bq h fun _ q h=>⟨_,fun a=>(Vn n _ _ _ (qa q a)),?_⟩;conv=>whnf
  refine⟨id,id,?_⟩;conv=>whnf
  apply ifc h<;>intro b h
  ·obtain rfl:=sj h
   conv=>whnf
   try exact fin
  conv=>whnf
  exact⟨(kwr .i64 (c+1)),h,wk [0] []⟩
 conv=>whnf
 refine qX.fn [1000000] (S:=Int) (fun g=>[(1,.ptr 0 0),(6,pI g)]) (fun g=>[.box 60 [pN f,pG d]]) (B:=gR n d) h (wk [0] []) ?_;intro _ g h;unfold gR at h;conv=>whnf
 apply ifc h<;>intro b h
 ·conv=>whnf
  refine bq h fun⟨_,_,_,_,_⟩ x h=>⟨_,Codec.at_ cZ x,?_⟩;conv=>whnf
  refine⟨id,id,?_⟩;conv=>whnf
  refine bq h fun _ w h=>⟨_,fun a=>(gr n _ _ (qa w a)),?_⟩;conv=>whnf
  iterate 7 refine⟨id,?_⟩
  conv=>whnf
  refine bq h fun _ v h=>⟨_,fun a=>(fm n _ _ (qa v a)),?_⟩;conv=>whnf
  iterate 14 refine⟨id,?_⟩
  conv=>whnf
  refine bq h fun _ u h=>⟨_,fun a=>(Vn n _ _ _ (qa u a)),?_⟩;conv=>whnf
  refine⟨id,id,?_⟩;conv=>whnf
  apply ifc h<;>intro b h
  ·obtain rfl:=sj h
   conv=>whnf
   try exact fin
  conv=>whnf
  exact⟨(kwr .i64 (g+1)),h,wk [0] []⟩
 obtain rfl:=sj h;conv=>whnf
 try exact fin
abbrev SR (r:Bool):PV:=PV.bool r
def mB (n:Nat) (a:List qe) (j:Int):LK (Int) (Bool):=fun c b=>
 bif(decide (b<((qe.rows a).length:Int)))then(
 bnd (idx a b) fun⟨k,l,⟨m,o,p,q,d,e⟩,f,g⟩=>
 bnd (uk n (qe.mk k l (Val.mk m o p q d e) f g)) fun i=>
 bif(!i)then(
 some false)
 else(
 c (kwr .i64 (b+1))))
 else(
 some (decide (((qe.rows a).length:Int)<=j)))
def nC (n:Nat) (a:List qe) (b:Int):Option (Bool):=
 qo (mB n a b) n (0:Int)
theorem Qq (n:Nat):∀ (a:List qe) (b:Int) (r:Bool),nC n a b=some r->qb TP 82 [PV.sl (qe.rows a),PV.int .i64 b] (SR r):=by
 intro a b r h;unfold nC at h;refine zN Tryz.call82 Tryz.func82 [1000000] ?_;conv=>whnf
 refine qX.fn [1000000] (S:=Int) (fun c=>[(0,pE a),(1,pI b),(5,pI c)]) (fun c=>[]) (B:=mB n a b) h (wk [] []) ?_;intro _ c h;unfold mB at h;conv=>whnf
 apply ifc h<;>intro f h
 ·conv=>whnf
  refine bq h fun⟨_,_,⟨_,_,_,_,_,_⟩,_,_⟩ e h=>⟨_,Codec.at_ zX e,?_⟩;conv=>whnf
  refine bq h fun _ d h=>⟨_,(cf n _ _ d),?_⟩;conv=>whnf
  apply ifc h<;>intro f h
  ·obtain rfl:=sj h
   conv=>whnf
   try exact fin
  conv=>whnf
  exact⟨(kwr .i64 (c+1)),h,wk [] []⟩
 obtain rfl:=sj h;conv=>whnf
 try exact fin
abbrev iP (r:Bool):PV:=PV.bool r
def pq (n:Nat) (c:List qS) (a:List xM) (f g:List qe):LK (Int) (Bool):=fun e b=>
 bif(decide (b<((qS.rows c).length:Int)))then(
 bnd (idx c b) fun⟨⟨i,j,⟨k,l,m,o,p,q⟩,s,t⟩,_⟩=>
 bnd (uk n (qe.mk i j (Val.mk k l m o p q) s t)) fun u=>
 bif(!u)then(
 some false)
 else(
 e (kwr .i64 (b+1))))
 else(
 bnd (qD (decide (((xM.rows a).length:Int)>0)) (nC n f (1:Int))) fun d=>
 bnd (qD (bif(decide (((xM.rows a).length:Int)>0))then d else false) (nC n g (1:Int))) fun v=>
 some (bif(bif(decide (((xM.rows a).length:Int)>0))then d else false)then v else false))
def po (n:Nat) (a:List xM) (e:List qS) (f g:List qe):LK (Int) (Bool):=fun d b=>
 bif(decide (b<((xM.rows a).length:Int)))then(
 bnd (idx a b) fun⟨⟨_,_,⟨_,_,_,_,_,_⟩,_,_⟩,i⟩=>
 bnd (uU n i) fun c=>
 bnd (qD (!(!c)) (idx a b)) fun⟨⟨j,k,⟨l,m,o,p,q,s⟩,t,u⟩,_⟩=>
 bnd (qD (!(!c)) (uk n (qe.mk j k (Val.mk l m o p q s) t u))) fun v=>
 bif(bif(!c)then true else(!v))then(
 some false)
 else(
 d (kwr .i64 (b+1))))
 else(
 qo (pq n e a f g) n (0:Int))
def Vo (n:Nat) (a:qd):Option (Bool):=
 match a with
 | ⟨_,_,_,⟨_,_,⟨_,_,_,_,_,_⟩,_,_⟩,_,b,_,c,d,e,_,_,_⟩=>
 qo (po n b c d e) n (0:Int)
theorem Ss (n:Nat):∀ (b:qd) (r:Bool),Vo n b=some r->qb TP 85 [PV.agg (xN.cells b)] (iP r):=by
 intro b r h;obtain⟨k,t,x,⟨y,z,⟨A,C,D,E,l,m⟩,o,p⟩,q,c,s,d,e,f,u,v,w⟩:=b;unfold Vo at h;refine zN Tryz.call85 Tryz.func85 [1000000] ?_;conv=>whnf
 refine qX.fn [1000000] (S:=Int) (fun g=>[(1,.ptr 0 0),(3,pI g)]) (fun g=>[.box 54 [pI k,pP t,pE x,pI y,pS z,pI A,pB C,pI D,pS E,pV l,pT m,pT o,pE p,pS q,pA c,pB s,pO d,pE e,pE f,pU u,pT v,pB w]]) (B:=po n c d e f) h (wk [0] []) ?_;intro _ g h;unfold po at h;conv=>whnf
 apply ifc h<;>intro j h
 ·conv=>whnf
  refine bq h fun⟨⟨_,_,⟨_,_,_,_,_,_⟩,_,_⟩,_⟩ I h=>⟨_,Codec.at_ VE I,?_⟩;conv=>whnf
  refine bq h fun _ H h=>⟨_,(gr n _ _ H),?_⟩;conv=>whnf
  refine⟨id,id,id,?_⟩;conv=>whnf
  refine bq h fun⟨⟨_,_,⟨_,_,_,_,_,_⟩,_,_⟩,_⟩ G h=>⟨_,fun a=>Codec.at_ VE (qa G a),?_⟩;conv=>whnf
  refine⟨id,id,id,?_⟩;conv=>whnf
  refine bq h fun _ F h=>⟨_,fun a=>(cf n _ _ (qa F a)),?_⟩;conv=>whnf
  refine⟨id,id,?_⟩;conv=>whnf
  apply ifc h<;>intro j h
  ·obtain rfl:=sj h
   conv=>whnf
   try exact fin
  conv=>whnf
  exact⟨(kwr .i64 (g+1)),h,wk [0] []⟩
 conv=>whnf
 refine qX.fn [1000000] (S:=Int) (fun i=>[(1,.ptr 0 0),(4,pI i)]) (fun i=>[.box 54 [pI k,pP t,pE x,pI y,pS z,pI A,pB C,pI D,pS E,pV l,pT m,pT o,pE p,pS q,pA c,pB s,pO d,pE e,pE f,pU u,pT v,pB w]]) (B:=pq n d c e f) h (wk [0] []) ?_;intro _ i h;unfold pq at h;conv=>whnf
 apply ifc h<;>intro j h
 ·conv=>whnf
  refine bq h fun⟨⟨_,_,⟨_,_,_,_,_,_⟩,_,_⟩,_⟩ K h=>⟨_,Codec.at_ Za K,?_⟩;conv=>whnf
  refine bq h fun _ J h=>⟨_,(cf n _ _ J),?_⟩;conv=>whnf
  apply ifc h<;>intro j h
  ·obtain rfl:=sj h
   conv=>whnf
   try exact fin
  conv=>whnf
  exact⟨(kwr .i64 (i+1)),h,wk [0] []⟩
 conv=>whnf
 refine⟨id,id,?_⟩;conv=>whnf
 refine bq h fun _ M h=>⟨_,fun a=>(Qq n _ _ _ (qa M a)),?_⟩;conv=>whnf
 refine⟨id,id,id,?_⟩;conv=>whnf
 refine bq h fun _ L h=>⟨_,fun a=>(Qq n _ _ _ (qa L a)),?_⟩;conv=>whnf
 refine⟨id,?_⟩;obtain rfl:=sj h;conv=>whnf
 try exact fin
abbrev iO (r:Bool):PV:=PV.bool r
def ZF (n:Nat) (c:qe):Option (Bool):=
 match c with
 | ⟨a,b,⟨f,g,i,j,k,l⟩,m,d⟩=>
 bnd (qD (bif(a==0)then(b==([]:SS))else false) (dF n (Val.mk f g i j k l) (Val.mk (0:Int) false (0:Int) ([]:SS) ([]:List Val) ([]:List SS)))) fun e=>
 some (bif(bif(bif(bif(a==0)then(b==([]:SS))else false)then e else false)then(((qi m).length:Int)==0)else false)then(((qe.rows d).length:Int)==0)else false)
theorem BH (n:Nat):∀ (a:qe) (r:Bool),ZF n a=some r->qb TP 144 [PV.agg (zX.cells a)] (iO r):=by
 intro a r h;obtain⟨_,_,⟨_,_,_,_,_,_⟩,_,_⟩:=a;unfold ZF at h;refine zN Tryz.call144 Tryz.func144 [1000000] ?_;conv=>whnf
 iterate 6 refine⟨id,?_⟩
 conv=>whnf
 refine bq h fun _ b h=>⟨_,fun c=>(qb.leArgs (Ua n _ _ _ (qa b c)) (by try exact fin)),?_⟩;conv=>whnf
 iterate 9 refine⟨id,?_⟩
 obtain rfl:=sj h;conv=>whnf
 try exact fin
abbrev PS (r:Bool):PV:=PV.bool r
def sT (n:Nat) (p:qj) (s:Bool):Option (Bool):=
 match p with
 | ⟨q,o,e,⟨f,g,⟨i,j,k,l,a,b⟩,c,d⟩⟩=>
 bnd (uU n q) fun t=>
 bif(!t)then(
 some false)
 else(
 bif(o==([]:SS))then(
 bnd (gx n e) fun m=>
 bnd (qD m (ZF n (qe.mk f g (Val.mk i j k l a b) c d))) fun u=>
 some (bif m then u else false))
 else(
 bnd (qD (!(!(e==([]:SS)))) (gx n o)) fun v=>
 bif(bif(!(e==([]:SS)))then true else(!v))then(
 some false)
 else(
 bif s then(
 bnd (uk n (qe.mk f g (Val.mk i j k l a b) c d)) fun w=>
 some w)
 else(
 bnd (ZF n (qe.mk f g (Val.mk i j k l a b) c d)) fun x=>
 some x))))
theorem Mg (n:Nat):∀ (a:qj) (d r:Bool),sT n a d=some r->qb TP 86 [PV.agg (nr.cells a),PV.bool d] (PS r):=by
 intro a d r h;obtain⟨_,_,_,⟨_,_,⟨_,_,_,_,_,_⟩,_,_⟩⟩:=a;unfold sT at h;refine zN Tryz.call86 Tryz.func86 [1000000] ?_;conv=>whnf
 refine bq h fun _ k h=>⟨_,(gr n _ _ k),?_⟩;conv=>whnf
 apply ifc h<;>intro b h
 ·obtain rfl:=sj h
  conv=>whnf
  try exact fin
 conv=>whnf
 apply ifc h<;>intro b h
 ·conv=>whnf
  refine bq h fun _ f h=>⟨_,(fm n _ _ f),?_⟩;conv=>whnf
  refine⟨id,id,?_⟩;conv=>whnf
  refine bq h fun _ e h=>⟨_,fun c=>(BH n _ _ (qa e c)),?_⟩;conv=>whnf
  refine⟨id,?_⟩;obtain rfl:=sj h;conv=>whnf
  try exact fin
 conv=>whnf
 refine⟨id,id,?_⟩;conv=>whnf
 refine bq h fun _ j h=>⟨_,fun c=>(fm n _ _ (qa j c)),?_⟩;conv=>whnf
 refine⟨id,id,?_⟩;conv=>whnf
 apply ifc h<;>intro b h
 ·obtain rfl:=sj h
  conv=>whnf
  try exact fin
 conv=>whnf
 apply ifc h<;>intro b h
 ·conv=>whnf
  refine bq h fun _ g h=>⟨_,(cf n _ _ g),?_⟩;obtain rfl:=sj h;conv=>whnf
  try exact fin
 conv=>whnf
 refine bq h fun _ i h=>⟨_,(BH n _ _ i),?_⟩;obtain rfl:=sj h;conv=>whnf
 try exact fin
abbrev Ej (r:Bool):PV:=PV.bool r
def uo (n:Nat) (a:List qj) (d:Int):LK (Int) (Bool):=fun c b=>
 bif(decide (b<((qj.rows a).length:Int)))then(
 bnd (idx a b) fun⟨e,f,g,⟨i,j,⟨k,l,m,o,p,q⟩,s,t⟩⟩=>
 bnd (sT n (qj.mk e f g (qe.mk i j (Val.mk k l m o p q) s t)) (d==6)) fun u=>
 bif(!u)then(
 some false)
 else(
 c (kwr .i64 (b+1))))
 else(
 some (decide (((qj.rows a).length:Int)>0)))
def uq (n:Nat) (a:List SS):LK (Int) (Bool):=fun c b=>
 bif(decide (b<((qi a).length:Int)))then(
 bnd (idx a b) fun d=>
 bnd (uU n d) fun e=>
 bif(!e)then(
 some false)
 else(
 c (kwr .i64 (b+1))))
 else(
 some (decide (((qi a).length:Int)>0)))
def cC (n:Nat) (b:List qj) (a:Int) (c:List SS):Bool->Option (Bool):=fun d=>
 bif d then(
 qo (uo n b a) n (0:Int))
 else(
 bif(a==8)then(
 qo (uq n c) n (0:Int))
 else(
 some false))
def cB (n:Nat) (a:Int) (b:List zx) (e:List qe) (u:Int) (v:SS) (z:Int) (A:Bool) (B:Int) (C:SS) (g:List Val) (i j:List SS) (k:List qe) (l:SS) (m:List xM) (o:Bool) (p:List qS) (q s:List qe) (c:List qj) (d:List SS) (t:Bool):Bool->Option (Bool):=fun w=>
 bif w then(
 bnd (Vo n (qd.mk a b e (qe.mk u v (Val.mk z A B C g i) j k) l m o p q s c d t)) fun f=>
 bnd (qD f (nC n e (1:Int))) fun x=>
 some (bif f then x else false))
 else(
 bif(a==4)then(
 some (decide (((zx.rows b).length:Int)>0)))
 else(
 bif(a==5)then(
 bnd (qD (((zx.rows b).length:Int)==1) (idx b (0:Int))) fun⟨_,y⟩=>
 some (bif(((zx.rows b).length:Int)==1)then(((qy.rows y).length:Int)==0)else false))
 else(
 bif(a==6)then(
 cC n c a d (a==6))
 else(
 cC n c a d (a==7)))))
def um (n:Nat) (b:List zx) (a:Int) (i:List qe) (j:Int) (l:SS) (m:Int) (o:Bool) (p:Int) (q:SS) (c:List Val) (d e:List SS) (f:List qe) (g:SS) (s:List xM) (t:Bool) (u:List qS) (v w:List qe) (x:List qj) (y:List SS) (z:Bool):LK (Int) (Bool):=fun B k=>
 bif(decide (k<((zx.rows b).length:Int)))then(
 bnd (idx b k) fun⟨C,D⟩=>
 bnd (pk n (zx.mk C D)) fun E=>
 bif(!E)then(
 some false)
 else(
 B (kwr .i64 (k+1))))
 else(
 bif(a==1)then(
 bnd (qD (decide (((zx.rows b).length:Int)>0)) (nC n i (1:Int))) fun F=>
 some (bif(decide (((zx.rows b).length:Int)>0))then F else false))
 else(
 bif(a==2)then(
 bnd (uk n (qe.mk j l (Val.mk m o p q c d) e f)) fun A=>
 bnd (qD A (uU n g)) fun G=>
 some (bif A then G else false))
 else(
 bif(a==3)then(
 cB n a b i j l m o p q c d e f g s t u v w x y z (a==3))
 else(
 cB n a b i j l m o p q c d e f g s t u v w x y z (a==9)))))
def gy (n:Nat) (z:qd):Option (Bool):=
 match z with
 | ⟨a,m,s,⟨t,u,⟨v,w,x,y,b,c⟩,d,e⟩,f,g,i,j,k,l,o,p,q⟩=>
 bnd (ZU n (qd.mk a m s (qe.mk t u (Val.mk v w x y b c) d e) f g i j k l o p q)) fun⟨A,B,C,⟨D,E,⟨F,G,H,I,J,K⟩,L,M⟩,N,O,P,Q,R,S,T,U,V⟩=>
 bnd (gS n (qd.mk A B C (qe.mk D E (Val.mk F G H I J K) L M) N O P Q R S T U V) (qd.mk a m s (qe.mk t u (Val.mk v w x y b c) d e) f g i j k l o p q)) fun W=>
 bif(!W)then(
 some false)
 else(
 qo (um n m a s t u v w x y b c d e f g i j k l o p q) n (0:Int))
theorem BI (n:Nat):∀ (C:qd) (r:Bool),gy n C=some r->qb TP 42 [PV.agg (xN.cells C)] (Ej r):=by
 intro C r h;obtain⟨b,s,u,⟨v,w,⟨x,y,z,A,f,g⟩,i,j⟩,k,l,m,o,p,q,c,d,t⟩:=C;unfold gy at h;refine zN Tryz.call42 Tryz.func42 [1000000] ?_;conv=>whnf
 refine bq h fun⟨_,_,_,⟨_,_,⟨_,_,_,_,_,_⟩,_,_⟩,_,_,_,_,_,_,_,_,_⟩ N h=>⟨_,(iI n _ _ N),?_⟩;conv=>whnf
 refine bq h fun _ M h=>⟨_,(CG n _ _ _ M),?_⟩;conv=>whnf
 apply ifc h<;>intro a h
 ·obtain rfl:=sj h
  conv=>whnf
  try exact fin
 conv=>whnf
 refine qX.fn [1000000] (S:=Int) (fun D=>[(1,.ptr 0 0),(3,pI D)]) (fun D=>[.box 54 [pI b,pP s,pE u,pI v,pS w,pI x,pB y,pI z,pS A,pV f,pT g,pT i,pE j,pS k,pA l,pB m,pO o,pE p,pE q,pU c,pT d,pB t]]) (B:=um n s b u v w x y z A f g i j k l m o p q c d t) h (wk [0] []) ?_;intro _ D h;unfold um at h;conv=>whnf
 apply ifc h<;>intro a h
 ·conv=>whnf
  refine bq h fun⟨_,_⟩ O h=>⟨_,Codec.at_ pb O,?_⟩;conv=>whnf
  refine bq h fun _ I h=>⟨_,(HL n _ _ I),?_⟩;conv=>whnf
  apply ifc h<;>intro a h
  ·obtain rfl:=sj h
   conv=>whnf
   try exact fin
  conv=>whnf
  exact⟨(kwr .i64 (D+1)),h,wk [0] []⟩
 conv=>whnf
 apply ifc h<;>intro a h
 ·conv=>whnf
  refine⟨id,id,?_⟩;conv=>whnf
  refine bq h fun _ P h=>⟨_,fun e=>(Qq n _ _ _ (qa P e)),?_⟩;conv=>whnf
  refine⟨id,?_⟩;obtain rfl:=sj h;conv=>whnf
  try exact fin
 conv=>whnf
 apply ifc h<;>intro a h
 ·conv=>whnf
  refine bq h fun _ R h=>⟨_,(cf n _ _ R),?_⟩;conv=>whnf
  refine⟨id,id,?_⟩;conv=>whnf
  refine bq h fun _ Q h=>⟨_,fun e=>(gr n _ _ (qa Q e)),?_⟩;conv=>whnf
  refine⟨id,?_⟩;obtain rfl:=sj h;conv=>whnf
  try exact fin
 conv=>whnf
 refine cY.cut (S:=Bool) (fun G=>[(1,.ptr 0 0),(26,pI b),(48,pB G)]) (fun G=>[.box 54 [pI b,pP s,pE u,pI v,pS w,pI x,pB y,pI z,pS A,pV f,pT g,pT i,pE j,pS k,pA l,pB m,pO o,pE p,pE q,pU c,pT d,pB t]]) (cB n b s u v w x y z A f g i j k l m o p q c d t) (r:=r) ?_ ?_
 ·intro G h
  unfold cB at h;conv=>whnf
  apply ifc h<;>intro a h
  ·conv=>whnf
   refine bq h fun _ U h=>⟨_,(Ss n _ _ U),?_⟩;conv=>whnf
   refine⟨id,id,?_⟩;conv=>whnf
   refine bq h fun _ T h=>⟨_,fun e=>(Qq n _ _ _ (qa T e)),?_⟩;conv=>whnf
   refine⟨id,?_⟩;obtain rfl:=sj h;conv=>whnf
   try exact fin
  conv=>whnf
  apply ifc h<;>intro a h
  ·obtain rfl:=sj h
   conv=>whnf
   try exact fin
  conv=>whnf
  apply ifc h<;>intro a h
  ·conv=>whnf
   refine⟨id,id,?_⟩;conv=>whnf
   refine bq h fun⟨_,_⟩ V h=>⟨_,fun e=>Codec.at_ pb (qa V e),?_⟩;conv=>whnf
   refine⟨id,id,id,id,id,?_⟩;obtain rfl:=sj h;conv=>whnf
   try exact fin
  conv=>whnf
  refine cY.cut (S:=Bool) (fun H=>[(1,.ptr 0 0),(26,pI b),(79,pB H)]) (fun H=>[.box 54 [pI b,pP s,pE u,pI v,pS w,pI x,pB y,pI z,pS A,pV f,pT g,pT i,pE j,pS k,pA l,pB m,pO o,pE p,pE q,pU c,pT d,pB t]]) (cC n c b d) (r:=r) ?_ ?_
  ·intro H h
   unfold cC at h;conv=>whnf
   apply ifc h<;>intro a h
   ·conv=>whnf
    refine qX.fn [1000000] (S:=Int) (fun E=>[(1,.ptr 0 0),(4,pI E)]) (fun E=>[.box 54 [pI b,pP s,pE u,pI v,pS w,pI x,pB y,pI z,pS A,pV f,pT g,pT i,pE j,pS k,pA l,pB m,pO o,pE p,pE q,pU c,pT d,pB t]]) (B:=uo n c b) h (wk [0] []) ?_;intro _ E h;unfold uo at h;(conv=>whnf);apply ifc h<;>intro a h
    ·conv=>whnf
     refine bq h fun⟨_,_,_,⟨_,_,⟨_,_,_,_,_,_⟩,_,_⟩⟩ J h=>⟨_,Codec.at_ nr J,?_⟩;(conv=>whnf);refine bq h fun _ W h=>⟨_,(Mg n _ _ _ W),?_⟩;(conv=>whnf);apply ifc h<;>intro a h
     ·obtain rfl:=sj h
      conv=>whnf
      try exact fin
     (conv=>whnf);exact⟨(kwr .i64 (E+1)),h,wk [0] []⟩
    obtain rfl:=sj h;conv=>whnf
    try exact fin
   conv=>whnf
   apply ifc h<;>intro a h
   ·conv=>whnf
    refine qX.fn [1000000] (S:=Int) (fun F=>[(1,.ptr 0 0),(5,pI F)]) (fun F=>[.box 54 [pI b,pP s,pE u,pI v,pS w,pI x,pB y,pI z,pS A,pV f,pT g,pT i,pE j,pS k,pA l,pB m,pO o,pE p,pE q,pU c,pT d,pB t]]) (B:=uq n d) h (wk [0] []) ?_;intro _ F h;unfold uq at h;(conv=>whnf);apply ifc h<;>intro a h
    ·conv=>whnf
     refine bq h fun _ L h=>⟨_,Codec.at_ cc L,?_⟩;(conv=>whnf);refine bq h fun _ K h=>⟨_,(gr n _ _ K),?_⟩;(conv=>whnf);apply ifc h<;>intro a h
     ·obtain rfl:=sj h
      conv=>whnf
      try exact fin
     (conv=>whnf);exact⟨(kwr .i64 (F+1)),h,wk [0] []⟩
    obtain rfl:=sj h;conv=>whnf
    try exact fin
   obtain rfl:=sj h;conv=>whnf
   try exact fin
  conv=>whnf
  apply ifc h<;>intro a h
  ·conv=>whnf
   exact⟨(b==6),h,wk [0] []⟩
  conv=>whnf
  exact⟨(b==7),h,wk [0] []⟩
 conv=>whnf
 apply ifc h<;>intro a h
 ·conv=>whnf
  exact⟨(b==3),h,wk [0] []⟩
 conv=>whnf
 exact⟨(b==9),h,wk [0] []⟩
abbrev PR (r:Bool):PV:=PV.bool r
def QG (n:Nat) (a:Int):Option (Bool):=
 some (bif(bif(bif(bif(a==4)then true else(a==5))then true else(a==6))then true else(a==7))then true else(a==8))
theorem Mf (n:Nat):∀ (a:Int) (r:Bool),QG n a=some r->qb TP 43 [PV.int .i64 a] (PR r):=by
 intro a r h;unfold QG at h;refine zN Tryz.call43 Tryz.func43 [1000000] ?_;conv=>whnf
 iterate 8 refine⟨id,?_⟩
 obtain rfl:=sj h;conv=>whnf
 try exact fin
abbrev eG (r:Bool):PV:=PV.bool r
def nB (n:Nat) (a:List qd):LK (Int) (Bool):=fun e b=>
 bif(decide (b<((qd.rows a).length:Int)))then(
 bnd (idx a b) fun⟨y,z,A,⟨B,C,⟨E,F,f,g,i,j⟩,k,l⟩,m,o,p,q,s,t,u,v,w⟩=>
 bnd (gy n (qd.mk y z A (qe.mk B C (Val.mk E F f g i j) k l) m o p q s t u v w)) fun d=>
 bnd (qD (!(!d)) (idx a b)) fun⟨x,_,_,⟨_,_,⟨_,_,_,_,_,_⟩,_,_⟩,_,_,_,_,_,_,_,_,_⟩=>
 bif(bif(!d)then true else(bif(x==9)then(decide ((kwr .i64 (b+1))<((qd.rows a).length:Int)))else false))then(
 some false)
 else(
 e (kwr .i64 (b+1))))
 else(
 bnd (qD (bif(decide (((qd.rows a).length:Int)>0))then(decide (((qd.rows a).length:Int)<=64))else false) (idx a (kwr .i64 (((qd.rows a).length:Int) - 1)))) fun⟨c,_,_,⟨_,_,⟨_,_,_,_,_,_⟩,_,_⟩,_,_,_,_,_,_,_,_,_⟩=>
 bnd (qD ((bif(decide (((qd.rows a).length:Int)>0))then(decide (((qd.rows a).length:Int)<=64))else false)&&(!(c==9))) (idx a (kwr .i64 (((qd.rows a).length:Int) - 1)))) fun⟨D,_,_,⟨_,_,⟨_,_,_,_,_,_⟩,_,_⟩,_,_,_,_,_,_,_,_,_⟩=>
 bnd (qD ((bif(decide (((qd.rows a).length:Int)>0))then(decide (((qd.rows a).length:Int)<=64))else false)&&(!(c==9))) (QG n D)) fun G=>
 some (bif(bif(decide (((qd.rows a).length:Int)>0))then(decide (((qd.rows a).length:Int)<=64))else false)then(bif(c==9)then true else G)else false))
def QF (n:Nat) (a:bu):Option (Bool):=
 match a with
 | ⟨b⟩=>
 qo (nB n b) n (0:Int)
theorem Ge (n:Nat):∀ (b:bu) (r:Bool),QF n b=some r->qb TP 17 [PV.agg (Cn.cells b)] (eG r):=by
 intro b r h;obtain⟨d⟩:=b;unfold QF at h;refine zN Tryz.call17 Tryz.func17 [1000000] ?_;conv=>whnf
 refine qX.fn [1000000] (S:=Int) (fun c=>[(1,.ptr 0 0),(3,.p (.int .i64 ((qd.rows d).length:Int))),(4,pI c)]) (fun c=>[.box 24 [pC d]]) (B:=nB n d) h (wk [0] []) ?_;intro _ c h;unfold nB at h;conv=>whnf
 apply ifc h<;>intro l h
 ·conv=>whnf
  refine bq h fun⟨_,_,_,⟨_,_,⟨_,_,_,_,_,_⟩,_,_⟩,_,_,_,_,_,_,_,_,_⟩ g h=>⟨_,Codec.at_ xN g,?_⟩;conv=>whnf
  refine bq h fun _ f h=>⟨_,(BI n _ _ f),?_⟩;conv=>whnf
  refine⟨id,id,id,?_⟩;conv=>whnf
  refine bq h fun⟨_,_,_,⟨_,_,⟨_,_,_,_,_,_⟩,_,_⟩,_,_,_,_,_,_,_,_,_⟩ e h=>⟨_,fun a=>Codec.at_ xN (qa e a),?_⟩;conv=>whnf
  iterate 10 refine⟨id,?_⟩
  conv=>whnf
  apply ifc h<;>intro l h
  ·obtain rfl:=sj h
   conv=>whnf
   try exact fin
  conv=>whnf
  exact⟨(kwr .i64 (c+1)),h,wk [0] []⟩
 conv=>whnf
 iterate 6 refine⟨id,?_⟩
 conv=>whnf
 refine bq h fun⟨_,_,_,⟨_,_,⟨_,_,_,_,_,_⟩,_,_⟩,_,_,_,_,_,_,_,_,_⟩ k h=>⟨_,fun a=>Codec.at_ xN (qa k a),?_⟩;conv=>whnf
 iterate 8 refine⟨id,?_⟩
 conv=>whnf
 refine bq h fun⟨_,_,_,⟨_,_,⟨_,_,_,_,_,_⟩,_,_⟩,_,_,_,_,_,_,_,_,_⟩ j h=>⟨_,fun a=>Codec.at_ xN (qa j a),?_⟩;conv=>whnf
 refine⟨id,id,id,?_⟩;conv=>whnf
 refine bq h fun _ i h=>⟨_,fun a=>(Mf n _ _ (qa i a)),?_⟩;conv=>whnf
 refine⟨id,id,id,?_⟩;obtain rfl:=sj h;conv=>whnf
 try exact fin
def fB (n:Nat) (b:List SS) (e:SS) (d:List Int):LK (Int) (Int):=fun c a=>
 bif(decide (a<((qi b).length:Int)))then(
 bnd (idx b a) fun f=>
 bif(f==e)then(
 bnd (idx d a) fun g=>
 some g)
 else(
 c (kwr .i64 (a+1))))
 else(
 some (0:Int))
def xP (n:Nat) (a:qQ) (d:SS):Option (Int):=
 match a with
 | ⟨b,c⟩=>
 qo (fB n b d c) n (0:Int)
def cE (n:Nat) (a:SS):Bool->Option (Int×Int×Int):=fun b=>
 bif b then(
 some ((1:Int),(1:Int),(3:Int)))
 else(
 bif(a==([99,111,97,108,101,115,99,101]:SS))then(
 some ((1:Int),(1048576:Int),(3:Int)))
 else(
 bif(a==([107,101,121,115]:SS))then(
 some ((1:Int),(1:Int),(0:Int)))
 else(
 bif(a==([108,97,98,101,108,115]:SS))then(
 some ((1:Int),(1:Int),(1:Int)))
 else(
 bif(a==([116,121,112,101]:SS))then(
 some ((1:Int),(1:Int),(2:Int)))
 else(
 bif(a==([114,97,110,103,101]:SS))then(
 some ((2:Int),(2:Int),(3:Int)))
 else(
 some ((1:Int),(0:Int),(0:Int))))))))
def Vp (n:Nat) (a:SS):Option (Int×Int×Int):=
 bif(a==([115,105,122,101]:SS))then(
 cE n a (a==([115,105,122,101]:SS)))
 else(
 bif(a==([97,98,115]:SS))then(
 cE n a (a==([97,98,115]:SS)))
 else(
 bif(a==([104,101,97,100]:SS))then(
 cE n a (a==([104,101,97,100]:SS)))
 else(
 bif(a==([108,97,115,116]:SS))then(
 cE n a (a==([108,97,115,116]:SS)))
 else(
 cE n a (a==([116,101,120,116]:SS))))))
def mE (n:Nat) (a:Int) (c:List SS) (d:Int->Option (Bool)):LK (Int) (Bool):=fun e b=>
 bif(decide (b<a))then(
 bnd (idx c a) fun f=>
 bnd (idx c b) fun g=>
 bif(f==g)then(
 some true)
 else(
 e (kwr .i64 (b+1))))
 else(
 d (kwr .i64 (a+1)))
def dr (n:Nat) (a:List SS):LK (Int) (Bool):=fun c b=>
 bif(decide (b<((qi a).length:Int)))then(
 qo (mE n b a c) n (0:Int))
 else(
 some false)
def tX (n:Nat) (a:List SS):Option (Bool):=
 qo (dr n a) n (0:Int)
end W
end
