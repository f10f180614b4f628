/- A part of the proof: contracts, printed by program. -/
import Derived.Test.YtlnipohgljbfiaaGreatB
import Derived.Test.YtlnipohgljbfiaaGreatC
import Derived.Test.YtlnipohgljbfiaaGreatD
import Derived.Test.YtlnipohgljbfiaaGreatI
import Derived.Test.YtlnipohgljbfiaaGreatJ
import Derived.Test.YtlnipohgljbfiaaGreatK
import Derived.Test.YtlnipohgljbfiaaGreatM
set_option linter.unusedVariables false
set_option linter.unusedSimpArgs false
set_option linter.unnecessarySimpa false
set_option linter.deprecated false
set_option linter.unusedSectionVars false
set_option linter.constructorNameAsVariable false
open Go.IntKind renaming wrap->kwr,bits->kbt
section
set_option maxRecDepth 100000
set_option maxHeartbeats 4000000
open Go Go.Proofs Ax
namespace W
abbrev eI (r:Bool):PV:=PV.bool r
def cG (n:Nat) (b:List Edge) (e:List Node):LK (Int) (Bool):=fun k a=>
 bif(decide (a<((Edge.rows b).length:Int)))then(
 bnd (idx b a) fun⟨c,g,i,l,m,o⟩=>
 bnd (tw n (Edge.mk c g i l m o)) fun d=>
 bnd (qD ((!(!d))&&(decide (a>0))) (idx b (kwr .i64 (a - 1)))) fun⟨f,_,_,_,_,_⟩=>
 bnd (qD (!(bif(!d)then true else(bif(decide (a>0))then(decide (c<=f))else false))) (nH n (Graph.mk e b) g)) fun j=>
 bnd (qD (!(bif(bif(!d)then true else(bif(decide (a>0))then(decide (c<=f))else false))then true else(decide (j<0)))) (nH n (Graph.mk e b) i)) fun p=>
 bif(bif(bif(bif(!d)then true else(bif(decide (a>0))then(decide (c<=f))else false))then true else(decide (j<0)))then true else(decide (p<0)))then(
 some false)
 else(
 k (kwr .i64 (a+1))))
 else(
 some (bif(decide (((Node.rows e).length:Int)<=4096))then(decide (((Edge.rows b).length:Int)<=4096))else false))
def nG (n:Nat) (b:List Node) (f:List Edge):LK (Int) (Bool):=fun d a=>
 bif(decide (a<((Node.rows b).length:Int)))then(
 bnd (idx b a) fun⟨g,i,j,k⟩=>
 bnd (tx n (Node.mk g i j k)) fun c=>
 bnd (qD ((!(!c))&&(decide (a>0))) (idx b a)) fun⟨l,_,_,_⟩=>
 bnd (qD ((!(!c))&&(decide (a>0))) (idx b (kwr .i64 (a - 1)))) fun⟨e,_,_,_⟩=>
 bif(bif(!c)then true else(bif(decide (a>0))then(decide (l<=e))else false))then(
 some false)
 else(
 d (kwr .i64 (a+1))))
 else(
 qo (cG n f b) n (0:Int))
def Gf (n:Nat) (a:Graph):Option (Bool):=
 match a with
 | ⟨b,c⟩=>
 qo (nG n b c) n (0:Int)
theorem Hh (n:Nat):∀ (b:Graph) (r:Bool),Gf n b=some r->qb TP 13 [PV.agg (nZ.cells b)] (eI r):=by
 intro b r h;obtain⟨c,e⟩:=b;unfold Gf at h;refine zN Tryz.call13 Tryz.func13 [1000000] ?_;conv=>whnf
 refine qX.fn [1000000] (S:=Int) (fun f=>[(1,.ptr 0 0),(3,pI f)]) (fun f=>[.box 40 [.p (.sl (Node.rows c)),.p (.sl (Edge.rows e))]]) (B:=nG n c e) h (wk [0] []) ?_;intro _ f h;unfold nG at h;conv=>whnf
 apply ifc h<;>intro g h
 ·conv=>whnf
  refine bq h fun⟨_,_,_,_⟩ l h=>⟨_,Codec.at_ tk l,?_⟩;conv=>whnf
  refine bq h fun _ k h=>⟨_,(HN n _ _ k),?_⟩;conv=>whnf
  refine⟨id,id,id,id,id,?_⟩;conv=>whnf
  refine bq h fun⟨_,_,_,_⟩ j h=>⟨_,fun a=>Codec.at_ tk (qa j a),?_⟩;conv=>whnf
  iterate 6 refine⟨id,?_⟩
  conv=>whnf
  refine bq h fun⟨_,_,_,_⟩ i h=>⟨_,fun a=>Codec.at_ tk (qa i a),?_⟩;conv=>whnf
  iterate 7 refine⟨id,?_⟩
  conv=>whnf
  apply ifc h<;>intro g h
  ·obtain rfl:=sj h
   conv=>whnf
   try exact fin
  conv=>whnf
  exact⟨(kwr .i64 (f+1)),h,wk [0] []⟩
 conv=>whnf
 refine qX.fn [1000000] (S:=Int) (fun d=>[(1,.ptr 0 0),(4,pI d)]) (fun d=>[.box 40 [.p (.sl (Node.rows c)),.p (.sl (Edge.rows e))]]) (B:=cG n e c) h (wk [0] []) ?_;intro _ d h;unfold cG at h;conv=>whnf
 apply ifc h<;>intro g h
 ·conv=>whnf
  refine bq h fun⟨_,_,_,_,_,_⟩ t h=>⟨_,Codec.at_ tP t,?_⟩;conv=>whnf
  refine bq h fun _ s h=>⟨_,(HM n _ _ s),?_⟩;conv=>whnf
  iterate 7 refine⟨id,?_⟩
  conv=>whnf
  refine bq h fun⟨_,_,_,_,_,_⟩ q h=>⟨_,fun a=>Codec.at_ tP (qa q a),?_⟩;conv=>whnf
  iterate 10 refine⟨id,?_⟩
  conv=>whnf
  refine bq h fun _ o h=>⟨_,fun a=>(ZX n _ _ _ (qa o a)),?_⟩;conv=>whnf
  refine⟨id,id,id,id,id,?_⟩;conv=>whnf
  refine bq h fun _ m h=>⟨_,fun a=>(ZX n _ _ _ (qa m a)),?_⟩;conv=>whnf
  refine⟨id,id,?_⟩;conv=>whnf
  apply ifc h<;>intro g h
  ·obtain rfl:=sj h
   conv=>whnf
   try exact fin
  conv=>whnf
  exact⟨(kwr .i64 (d+1)),h,wk [0] []⟩
 conv=>whnf
 refine⟨id,id,id,id,?_⟩;obtain rfl:=sj h;conv=>whnf
 try exact fin
abbrev Ll (r:Bool):PV:=PV.bool r
def mK (n:Nat) (e f:Node):Option (Bool):=
 match e,f with
 | ⟨a,i,j,k⟩,⟨b,l,m,o⟩=>
 bnd (qD (a==b) (qY n i l)) fun c=>
 bnd (qD (bif(a==b)then c else false) (qY n j m)) fun d=>
 bnd (qD (bif(bif(a==b)then c else false)then d else false) (ug n k o)) fun g=>
 some (bif(bif(bif(a==b)then c else false)then d else false)then g else false)
theorem Vs (n:Nat):∀ (b c:Node) (r:Bool),mK n b c=some r->qb TP 40 [PV.agg (tk.cells b),PV.agg (tk.cells c)] (Ll r):=by
 intro b c r h;obtain⟨_,_,_,_⟩:=b;obtain⟨_,_,_,_⟩:=c;unfold mK at h;refine zN Tryz.call40 Tryz.func40 [1000000] ?_;conv=>whnf
 refine⟨id,id,id,id,?_⟩;conv=>whnf
 refine bq h fun _ f h=>⟨_,fun a=>(zs n _ _ _ (qa f a)),?_⟩;conv=>whnf
 refine⟨id,id,id,id,id,?_⟩;conv=>whnf
 refine bq h fun _ e h=>⟨_,fun a=>(zs n _ _ _ (qa e a)),?_⟩;conv=>whnf
 refine⟨id,id,id,id,id,?_⟩;conv=>whnf
 refine bq h fun _ d h=>⟨_,fun a=>(Vj n _ _ _ (qa d a)),?_⟩;conv=>whnf
 refine⟨id,?_⟩;obtain rfl:=sj h;conv=>whnf
 try exact fin
abbrev Lj (r:Bool):PV:=PV.bool r
def se (n:Nat) (a b:Node):Option (Bool):=
 match a,b with
 | ⟨c,d,e,f⟩,⟨g,i,j,k⟩=>
 bnd (mK n (Node.mk c d e f) (Node.mk g i j k)) fun l=>
 some l
theorem DZ (n:Nat):∀ (a b:Node) (r:Bool),se n a b=some r->qb TP 72 [PV.agg (tk.cells a),PV.agg (tk.cells b)] (Lj r):=by
 intro a b r h;obtain⟨_,_,_,_⟩:=a;obtain⟨_,_,_,_⟩:=b;unfold se at h;refine zN Tryz.call72 Tryz.func72 [1000000] ?_;conv=>whnf
 refine bq h fun _ c h=>⟨_,(Vs n _ _ _ c),?_⟩;obtain rfl:=sj h;conv=>whnf
 try exact fin
abbrev PW (r:Int):PV:=PV.int .i64 r
def dS (n:Nat) (b:List Edge) (d:Int):LK (Int) (Int):=fun c a=>
 bif(decide (a<((Edge.rows b).length:Int)))then(
 bnd (idx b a) fun⟨e,_,_,_,_,_⟩=>
 bif(e==d)then(
 some a)
 else(
 c (kwr .i64 (a+1))))
 else(
 some (-1:Int))
def QJ (n:Nat) (a:Graph) (c:Int):Option (Int):=
 match a with
 | ⟨_,b⟩=>
 qo (dS n b c) n (0:Int)
theorem Ml (n:Nat):∀ (b:Graph) (a r:Int),QJ n b a=some r->qb TP 75 [PV.agg (nZ.cells b),PV.int .i64 a] (PW r):=by
 intro b a r h;obtain⟨g,d⟩:=b;unfold QJ at h;refine zN Tryz.call75 Tryz.func75 [1000000] ?_;conv=>whnf
 refine qX.fn [1000000] (S:=Int) (fun c=>[(1,pI a),(2,.ptr 0 0),(5,pI c)]) (fun c=>[.box 40 [.p (.sl (Node.rows g)),.p (.sl (Edge.rows d))]]) (B:=dS n d a) h (wk [0] []) ?_;intro _ c h;unfold dS at h;conv=>whnf
 apply ifc h<;>intro f h
 ·conv=>whnf
  refine bq h fun⟨_,_,_,_,_,_⟩ e h=>⟨_,Codec.at_ tP e,?_⟩;conv=>whnf
  apply ifc h<;>intro f h
  ·obtain rfl:=sj h
   conv=>whnf
   try exact fin
  conv=>whnf
  exact⟨(kwr .i64 (c+1)),h,wk [0] []⟩
 obtain rfl:=sj h;conv=>whnf
 try exact fin
abbrev Lk (r:Bool):PV:=PV.bool r
def mJ (n:Nat) (k l:Edge):Option (Bool):=
 match k,l with
 | ⟨a,c,d,e,q,s⟩,⟨f,g,i,b,m,o⟩=>
 bnd (qD (bif(bif(bif(a==f)then(c==g)else false)then(d==i)else false)then(e==b)else false) (qY n q m)) fun j=>
 bnd (qD (bif(bif(bif(bif(a==f)then(c==g)else false)then(d==i)else false)then(e==b)else false)then j else false) (ug n s o)) fun p=>
 some (bif(bif(bif(bif(bif(a==f)then(c==g)else false)then(d==i)else false)then(e==b)else false)then j else false)then p else false)
theorem Vr (n:Nat):∀ (a b:Edge) (r:Bool),mJ n a b=some r->qb TP 78 [PV.agg (tP.cells a),PV.agg (tP.cells b)] (Lk r):=by
 intro a b r h;obtain⟨_,_,_,_,_,_⟩:=a;obtain⟨_,_,_,_,_,_⟩:=b;unfold mJ at h;refine zN Tryz.call78 Tryz.func78 [1000000] ?_;conv=>whnf
 iterate 19 refine⟨id,?_⟩
 conv=>whnf
 refine bq h fun _ e h=>⟨_,fun c=>(zs n _ _ _ (qa e c)),?_⟩;conv=>whnf
 refine⟨id,id,id,id,id,?_⟩;conv=>whnf
 refine bq h fun _ d h=>⟨_,fun c=>(Vj n _ _ _ (qa d c)),?_⟩;conv=>whnf
 refine⟨id,?_⟩;obtain rfl:=sj h;conv=>whnf
 try exact fin
abbrev Li (r:Bool):PV:=PV.bool r
def sd (n:Nat) (a b:Edge):Option (Bool):=
 match a,b with
 | ⟨c,i,j,k,l,m⟩,⟨o,p,q,d,e,f⟩=>
 bnd (mJ n (Edge.mk c i j k l m) (Edge.mk o p q d e f)) fun g=>
 some g
theorem DY (n:Nat):∀ (a b:Edge) (r:Bool),sd n a b=some r->qb TP 76 [PV.agg (tP.cells a),PV.agg (tP.cells b)] (Li r):=by
 intro a b r h;obtain⟨_,_,_,_,_,_⟩:=a;obtain⟨_,_,_,_,_,_⟩:=b;unfold sd at h;refine zN Tryz.call76 Tryz.func76 [1000000] ?_;conv=>whnf
 refine bq h fun _ c h=>⟨_,(Vr n _ _ _ c),?_⟩;obtain rfl:=sj h;conv=>whnf
 try exact fin
abbrev iX (r:List SS):PV:=PV.sl (qi r)
def bL (n:Nat) (a:List SS×Int->Option (List SS)) (b:Int):List SS->Option (List SS):=fun c=>
 a (c,(kwr .i64 (b+1)))
def bO (n:Nat) (b g:List SS) (c:Int) (i:List Val) (e:List SS×Int->Option (List SS)):LK (List SS×Int) (List SS):=fun f (d,a)=>
 bif(decide (a<((qi b).length:Int)))then(
 bnd (idx g c) fun j=>
 bnd (idx b a) fun k=>
 bnd (idx i a) fun⟨l,m,o,p,q,s⟩=>
 bnd (nK n j k (Val.mk l m o p q s)) fun t=>
 bnd (uY n d t) fun u=>
 f (u,(kwr .i64 (a+1))))
 else(
 e (d,(kwr .i64 (c+1))))
def bN (n:Nat) (a f:List SS) (g:List Val) (d:List SS×Int->Option (List SS)) (l:Int):LK (List SS×Int) (List SS):=fun e (c,b)=>
 bif(decide (b<((qi a).length:Int)))then(
 bnd (idx a b) fun i=>
 bnd (tZ n i) fun j=>
 bnd (uY n c j) fun k=>
 qo (bO n f a b g e) n (k,(0:Int)))
 else(
 bL n d l c)
def pD (n:Nat) (a:List SS×Int->Option (List SS)) (b:Int):List SS->Option (List SS):=fun c=>
 a (c,(kwr .i64 (b+1)))
def cJ (n:Nat) (e:List Edge) (j:List Node) (i:List Edge):LK (List SS×Int) (List SS):=fun d (c,a)=>
 bif(decide (a<((Edge.rows e).length:Int)))then(
 bnd (idx e a) fun⟨f,k,l,g,m,o⟩=>
 bnd (QJ n (Graph.mk j i) f) fun b=>
 bnd (qD (decide (b≥0)) (idx i b)) fun⟨p,q,s,t,u,v⟩=>
 bnd (qD (decide (b≥0)) (sd n (Edge.mk p q s t u v) (Edge.mk f k l g m o))) fun w=>
 bif(bif(decide (b≥0))then w else false)then(
 pD n d a c)
 else(
 bnd (uY n c ([88]:SS)) fun x=>
 bnd (Qb n g) fun y=>
 bnd (uY n x y) fun z=>
 pD n d a z))
 else(
 some c)
def bM (n:Nat) (j c:List Node) (k u:List Edge):LK (List SS×Int) (List SS):=fun e (d,b)=>
 bif(decide (b<((Node.rows j).length:Int)))then(
 bnd (idx j b) fun⟨l,f,g,i⟩=>
 bnd (nH n (Graph.mk c k) l) fun a=>
 bnd (qD (decide (a≥0)) (idx c a)) fun⟨m,o,p,q⟩=>
 bnd (qD (decide (a≥0)) (se n (Node.mk m o p q) (Node.mk l f g i))) fun s=>
 bif(bif(decide (a≥0))then s else false)then(
 bL n e b d)
 else(
 bnd (uY n d ([65]:SS)) fun t=>
 qo (bN n f g i e b) n (t,(0:Int))))
 else(
 qo (cJ n u c k) n (d,(0:Int)))
def Vu (n:Nat) (c:List SS) (a b:Graph):Option (List SS):=
 match a,b with
 | ⟨d,e⟩,⟨f,g⟩=>
 qo (bM n d f g e) n (c,(0:Int))
theorem BN (n:Nat):∀ (z:List SS) (k l:Graph) (r:List SS),Vu n z k l=some r->qb TP 39 [PV.sl (qi z),PV.agg (nZ.cells k),PV.agg (nZ.cells l)] (iX r):=by
 intro z k l r h;obtain⟨f,b⟩:=k;obtain⟨c,d⟩:=l;unfold Vu at h;refine zN Tryz.call39 Tryz.func39 [1000000] ?_;conv=>whnf
 refine qX.fn [1000000] (S:=List SS×Int) (fun(x,a)=>[(0,pT x),(4,.ptr 0 0),(5,.ptr 1 0),(7,pI a)]) (fun(x,a)=>[.box 40 [.p (.sl (Node.rows f)),.p (.sl (Edge.rows b))],.box 40 [.p (.sl (Node.rows c)),.p (.sl (Edge.rows d))]]) (B:=bM n f c d b) h (wk [0,1] []) ?_;intro A st h;obtain⟨x,a⟩:=st;unfold bM at h;conv=>whnf
 apply ifc h<;>intro j h
 ·conv=>whnf
  refine cY.cut (S:=List SS) (fun y=>[(0,pT y),(4,.ptr 0 0),(5,.ptr 1 0),(7,pI a)]) (fun y=>[.box 40 [.p (.sl (Node.rows f)),.p (.sl (Edge.rows b))],.box 40 [.p (.sl (Node.rows c)),.p (.sl (Edge.rows d))]]) (bL n A a) (r:=r) ?_ ?_
  ·intro y h
   unfold bL at h;conv=>whnf
   exact⟨(y,(kwr .i64 (a+1))),h,wk [0,1] []⟩
  conv=>whnf
  refine bq h fun⟨C,m,o,q⟩ H h=>⟨_,Codec.at_ tk H,?_⟩;conv=>whnf
  refine bq h fun _ G h=>⟨_,(ZX n _ _ _ G),?_⟩;conv=>whnf
  refine⟨id,id,id,?_⟩;conv=>whnf
  refine bq h fun⟨_,_,_,_⟩ F h=>⟨_,fun e=>Codec.at_ tk (qa F e),?_⟩;conv=>whnf
  refine⟨id,id,id,?_⟩;conv=>whnf
  refine bq h fun _ E h=>⟨_,fun e=>(DZ n _ _ _ (qa E e)),?_⟩;conv=>whnf
  refine⟨id,?_⟩;conv=>whnf
  apply ifc h<;>intro j h
  ·conv=>whnf
   exact⟨x,h,wk [0,1] []⟩
  conv=>whnf
  refine bq h fun _ X h=>⟨_,(cI n _ _ _ X),?_⟩;conv=>whnf
  refine qX.fn [1000000] (S:=List SS×Int) (fun(s,g)=>[(0,pT s),(4,.ptr 0 0),(5,.ptr 1 0),(7,pI a),(8,.ptr 2 0),(10,pI g)]) (fun(s,g)=>[.box 40 [.p (.sl (Node.rows f)),.p (.sl (Edge.rows b))],.box 40 [.p (.sl (Node.rows c)),.p (.sl (Edge.rows d))],.box 74 [pI C,pT m,pT o,pV q]]) (B:=bN n m o q A a) h (wk [0,1,2] []) ?_;intro Y st h;obtain⟨s,g⟩:=st;unfold bN at h;conv=>whnf
  apply ifc h<;>intro j h
  ·conv=>whnf
   refine bq h fun _ W h=>⟨_,Codec.at_ cc W,?_⟩;conv=>whnf
   refine bq h fun _ V h=>⟨_,(Cx n _ _ V),?_⟩;conv=>whnf
   refine bq h fun _ U h=>⟨_,(cI n _ _ _ U),?_⟩;conv=>whnf
   refine qX.fn [1000000] (S:=List SS×Int) (fun(t,u)=>[(0,pT t),(4,.ptr 0 0),(5,.ptr 1 0),(7,pI a),(8,.ptr 2 0),(10,pI g),(11,pI u)]) (fun(t,u)=>[.box 40 [.p (.sl (Node.rows f)),.p (.sl (Edge.rows b))],.box 40 [.p (.sl (Node.rows c)),.p (.sl (Edge.rows d))],.box 74 [pI C,pT m,pT o,pV q]]) (B:=bO n o m g q Y) h (wk [0,1,2] []) ?_;intro _ st h;obtain⟨t,u⟩:=st;unfold bO at h;conv=>whnf
   apply ifc h<;>intro j h
   ·conv=>whnf
    refine bq h fun _ T h=>⟨_,Codec.at_ cc T,?_⟩;(conv=>whnf);refine bq h fun _ R h=>⟨_,Codec.at_ cc R,?_⟩;(conv=>whnf);refine bq h fun⟨_,_,_,_,_,_⟩ Q h=>⟨_,Codec.at_ gM Q,?_⟩;(conv=>whnf);refine bq h fun _ O h=>⟨_,(Ve n _ _ _ _ O),?_⟩;(conv=>whnf);refine bq h fun a0 D h=>⟨_,(cI n _ _ _ D),?_⟩;(conv=>whnf);exact⟨(a0,(kwr .i64 (u+1))),h,wk [0,1,2] []⟩
   conv=>whnf
   exact⟨(t,(kwr .i64 (g+1))),h,wk [0,1,2] []⟩
  conv=>whnf
  exact⟨s,h,wk [0,1] []⟩
 conv=>whnf
 refine qX.fn [1000000] (S:=List SS×Int) (fun(v,i)=>[(0,pT v),(4,.ptr 0 0),(5,.ptr 1 0),(12,pI i)]) (fun(v,i)=>[.box 40 [.p (.sl (Node.rows f)),.p (.sl (Edge.rows b))],.box 40 [.p (.sl (Node.rows c)),.p (.sl (Edge.rows d))]]) (B:=cJ n b c d) h (wk [0,1] []) ?_;intro Z st h;obtain⟨v,i⟩:=st;unfold cJ at h;conv=>whnf
 apply ifc h<;>intro j h
 ·conv=>whnf
  refine cY.cut (S:=List SS) (fun w=>[(0,pT w),(4,.ptr 0 0),(5,.ptr 1 0),(12,pI i)]) (fun w=>[.box 40 [.p (.sl (Node.rows f)),.p (.sl (Edge.rows b))],.box 40 [.p (.sl (Node.rows c)),.p (.sl (Edge.rows d))]]) (pD n Z i) (r:=r) ?_ ?_
  ·intro w h
   unfold pD at h;conv=>whnf
   exact⟨(w,(kwr .i64 (i+1))),h,wk [0,1] []⟩
  conv=>whnf
  refine bq h fun⟨_,_,_,_,_,_⟩ P h=>⟨_,Codec.at_ tP P,?_⟩;conv=>whnf
  refine bq h fun _ N h=>⟨_,(Ml n _ _ _ N),?_⟩;conv=>whnf
  refine⟨id,id,id,?_⟩;conv=>whnf
  refine bq h fun⟨_,_,_,_,_,_⟩ M h=>⟨_,fun e=>Codec.at_ tP (qa M e),?_⟩;conv=>whnf
  refine⟨id,id,id,?_⟩;conv=>whnf
  refine bq h fun _ L h=>⟨_,fun e=>(DY n _ _ _ (qa L e)),?_⟩;conv=>whnf
  refine⟨id,?_⟩;conv=>whnf
  apply ifc h<;>intro j h
  ·conv=>whnf
   exact⟨v,h,wk [0,1] []⟩
  conv=>whnf
  refine bq h fun _ K h=>⟨_,(cI n _ _ _ K),?_⟩;conv=>whnf
  refine bq h fun _ J h=>⟨_,(BM n _ _ J),?_⟩;conv=>whnf
  refine bq h fun a1 I h=>⟨_,(cI n _ _ _ I),?_⟩;conv=>whnf
  exact⟨a1,h,wk [0,1] []⟩
 obtain rfl:=sj h;conv=>whnf
 try exact fin
abbrev MG (r:List SS):PV:=PV.sl (qi r)
def py (n:Nat) (e f:Graph):Option (List SS):=
 match e,f with
 | ⟨a,b⟩,⟨c,d⟩=>
 bnd (Vu n ([]:List SS) (Graph.mk a b) (Graph.mk c d)) fun g=>
 bnd (Vu n g (Graph.mk c d) (Graph.mk a b)) fun i=>
 some i
theorem HO (n:Nat):∀ (a b:Graph) (r:List SS),py n a b=some r->qb TP 15 [PV.agg (nZ.cells a),PV.agg (nZ.cells b)] (MG r):=by
 intro a b r h;obtain⟨_,_⟩:=a;obtain⟨_,_⟩:=b;unfold py at h;refine zN Tryz.call15 Tryz.func15 [1000000] ?_;conv=>whnf
 refine bq h fun _ d h=>⟨_,(qb.leArgs (BN n _ _ _ _ d) (by try exact fin)),?_⟩;conv=>whnf
 refine bq h fun _ c h=>⟨_,(BN n _ _ _ _ c),?_⟩;obtain rfl:=sj h;conv=>whnf
 try exact fin
abbrev Ek (r:Bool):PV:=PV.bool r
def cH (n:Nat) (b l:List Edge):LK (Int) (Bool):=fun c a=>
 bif(decide (a<((Edge.rows b).length:Int)))then(
 bnd (idx b a) fun⟨m,o,p,q,s,t⟩=>
 bnd (idx l a) fun⟨d,e,f,g,i,j⟩=>
 bnd (mJ n (Edge.mk m o p q s t) (Edge.mk d e f g i j)) fun k=>
 bif(!k)then(
 some false)
 else(
 c (kwr .i64 (a+1))))
 else(
 some true)
def nI (n:Nat) (a b:List Edge):Option (Bool):=
 bif(((Edge.rows a).length:Int) != ((Edge.rows b).length:Int))then(
 some false)
 else(
 qo (cH n a b) n (0:Int))
theorem BK (n:Nat):∀ (a b:List Edge) (r:Bool),nI n a b=some r->qb TP 41 [PV.sl (Edge.rows a),PV.sl (Edge.rows b)] (Ek r):=by
 intro a b r h;unfold nI at h;refine zN Tryz.call41 Tryz.func41 [1000000] ?_;conv=>whnf
 apply ifc h<;>intro d h
 ·obtain rfl:=sj h
  conv=>whnf
  try exact fin
 conv=>whnf
 refine qX.fn [1000000] (S:=Int) (fun c=>[(0,.p (.sl (Edge.rows a))),(1,.p (.sl (Edge.rows b))),(5,pI c)]) (fun c=>[]) (B:=cH n a b) h (wk [] []) ?_;intro _ c h;unfold cH at h;conv=>whnf
 apply ifc h<;>intro d h
 ·conv=>whnf
  refine bq h fun⟨_,_,_,_,_,_⟩ g h=>⟨_,Codec.at_ tP g,?_⟩;conv=>whnf
  refine bq h fun⟨_,_,_,_,_,_⟩ f h=>⟨_,Codec.at_ tP f,?_⟩;conv=>whnf
  refine bq h fun _ e h=>⟨_,(Vr n _ _ _ e),?_⟩;conv=>whnf
  apply ifc h<;>intro d h
  ·obtain rfl:=sj h
   conv=>whnf
   try exact fin
  conv=>whnf
  exact⟨(kwr .i64 (c+1)),h,wk [] []⟩
 obtain rfl:=sj h;conv=>whnf
 try exact fin
abbrev iT (r:Bool):PV:=PV.bool r
def px (n:Nat) (b l:List Node) (k m:List Edge):LK (Int) (Bool):=fun c a=>
 bif(decide (a<((Node.rows b).length:Int)))then(
 bnd (idx b a) fun⟨o,p,q,s⟩=>
 bnd (idx l a) fun⟨d,e,f,g⟩=>
 bnd (mK n (Node.mk o p q s) (Node.mk d e f g)) fun i=>
 bif(!i)then(
 some false)
 else(
 c (kwr .i64 (a+1))))
 else(
 bnd (nI n k m) fun j=>
 some j)
def ZG (n:Nat) (c d:Graph):Option (Bool):=
 match c,d with
 | ⟨a,e⟩,⟨b,f⟩=>
 bif(((Node.rows a).length:Int) != ((Node.rows b).length:Int))then(
 some false)
 else(
 qo (px n a b e f) n (0:Int))
theorem SC (n:Nat):∀ (a b:Graph) (r:Bool),ZG n a b=some r->qb TP 16 [PV.agg (nZ.cells a),PV.agg (nZ.cells b)] (iT r):=by
 intro a b r h;obtain⟨e,f⟩:=a;obtain⟨g,i⟩:=b;unfold ZG at h;refine zN Tryz.call16 Tryz.func16 [1000000] ?_;conv=>whnf
 apply ifc h<;>intro d h
 ·obtain rfl:=sj h
  conv=>whnf
  try exact fin
 conv=>whnf
 refine qX.fn [1000000] (S:=Int) (fun c=>[(2,.ptr 0 0),(3,.ptr 1 0),(5,pI c)]) (fun c=>[.box 40 [.p (.sl (Node.rows e)),.p (.sl (Edge.rows f))],.box 40 [.p (.sl (Node.rows g)),.p (.sl (Edge.rows i))]]) (B:=px n e g f i) h (wk [0,1] []) ?_;intro _ c h;unfold px at h;conv=>whnf
 apply ifc h<;>intro d h
 ·conv=>whnf
  refine bq h fun⟨_,_,_,_⟩ l h=>⟨_,Codec.at_ tk l,?_⟩;conv=>whnf
  refine bq h fun⟨_,_,_,_⟩ k h=>⟨_,Codec.at_ tk k,?_⟩;conv=>whnf
  refine bq h fun _ j h=>⟨_,(Vs n _ _ _ j),?_⟩;conv=>whnf
  apply ifc h<;>intro d h
  ·obtain rfl:=sj h
   conv=>whnf
   try exact fin
  conv=>whnf
  exact⟨(kwr .i64 (c+1)),h,wk [0,1] []⟩
 conv=>whnf
 refine bq h fun _ m h=>⟨_,(BK n _ _ _ m),?_⟩;obtain rfl:=sj h;conv=>whnf
 try exact fin
abbrev FY (r:Bool):PV:=PV.bool r
def ni (n:Nat) (m o:Graph):Option (Bool):=
 match m,o with
 | ⟨a,b⟩,⟨c,d⟩=>
 bnd (Vi n (bu.mk ([]:List qd)) (Graph.mk a b)) fun g=>
 bnd (qD (!(!g)) (Vi n (bu.mk ([]:List qd)) (Graph.mk c d))) fun j=>
 bnd (qD (!(bif(!g)then true else(!j))) (Gf n (Graph.mk a b))) fun l=>
 bnd (qD (!(bif(bif(!g)then true else(!j))then true else(!l))) (Gf n (Graph.mk c d))) fun t=>
 bif(bif(bif(bif(!g)then true else(!j))then true else(!l))then true else(!t))then(
 bnd (gP n) fun u=>
 some u)
 else(
 bnd (ur n (Graph.mk a b) (Graph.mk c d)) fun f=>
 bnd (py n (Graph.mk a b) (Graph.mk c d)) fun p=>
 bnd (qY n f p) fun e=>
 bnd (qD e (ur n (Graph.mk c d) (Graph.mk a b))) fun q=>
 bnd (qD e (qY n q f)) fun i=>
 bnd (qD (bif e then i else false) (ZG n (Graph.mk a b) (Graph.mk c d))) fun k=>
 bnd (qD (bif(bif e then i else false)then((((qi f).length:Int)==0)==k)else false) (gP n)) fun s=>
 some (bif(bif(bif e then i else false)then((((qi f).length:Int)==0)==k)else false)then s else false))
theorem Ga (n:Nat):∀ (b c:Graph) (r:Bool),ni n b c=some r->qb TP 4 [PV.agg (nZ.cells b),PV.agg (nZ.cells c)] (FY r):=by
 intro b c r h;obtain⟨_,_⟩:=b;obtain⟨_,_⟩:=c;unfold ni at h;refine zN Tryz.call4 Tryz.func4 [1000000] ?_;conv=>whnf
 refine bq h fun _ g h=>⟨_,(qb.leArgs (Hf n _ _ _ g) (by try exact fin)),?_⟩;conv=>whnf
 refine⟨id,id,?_⟩;conv=>whnf
 refine bq h fun _ f h=>⟨_,fun a=>(qb.leArgs (Hf n _ _ _ (qa f a)) (by try exact fin)),?_⟩;conv=>whnf
 refine⟨id,id,id,?_⟩;conv=>whnf
 refine bq h fun _ e h=>⟨_,fun a=>(Hh n _ _ (qa e a)),?_⟩;conv=>whnf
 refine⟨id,id,id,?_⟩;conv=>whnf
 refine bq h fun _ q h=>⟨_,fun a=>(Hh n _ _ (qa q a)),?_⟩;conv=>whnf
 refine⟨id,id,?_⟩;conv=>whnf
 apply ifc h<;>intro _ h
 ·conv=>whnf
  refine bq h fun _ d h=>⟨_,(dj n _ d),?_⟩;obtain rfl:=sj h;conv=>whnf
  try exact fin
 conv=>whnf
 refine bq h fun _ p h=>⟨_,(tA n _ _ _ p),?_⟩;conv=>whnf
 refine bq h fun _ o h=>⟨_,(HO n _ _ _ o),?_⟩;conv=>whnf
 refine bq h fun _ m h=>⟨_,(zs n _ _ _ m),?_⟩;conv=>whnf
 refine⟨id,id,?_⟩;conv=>whnf
 refine bq h fun _ l h=>⟨_,fun a=>(tA n _ _ _ (qa l a)),?_⟩;conv=>whnf
 refine⟨id,id,?_⟩;conv=>whnf
 refine bq h fun _ k h=>⟨_,fun a=>(zs n _ _ _ (qa k a)),?_⟩;conv=>whnf
 refine⟨id,id,id,id,id,?_⟩;conv=>whnf
 refine bq h fun _ j h=>⟨_,fun a=>(SC n _ _ _ (qa j a)),?_⟩;conv=>whnf
 refine⟨id,id,id,?_⟩;conv=>whnf
 refine bq h fun _ i h=>⟨_,fun a=>(dj n _ (qa i a)),?_⟩;conv=>whnf
 refine⟨id,?_⟩;obtain rfl:=sj h;conv=>whnf
 try exact fin
end W
end
