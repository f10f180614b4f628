/- A part of the proof: contracts, printed by program. -/
import Derived.Test.YtgbnebnnphdenaaGreatC
set_option linter.unusedVariables false
set_option linter.unusedSimpArgs false
set_option linter.unnecessarySimpa false
set_option linter.deprecated false
set_option linter.unusedSectionVars false
set_option linter.constructorNameAsVariable false
open Go.IntKind renaming wrap->kwr,bits->kbt
section
set_option maxRecDepth 100000
set_option maxHeartbeats 4000000
open Go Go.Proofs Ax
namespace W
abbrev pX (r:Int):PV:=PV.int .i64 r
def fD (n:Nat) (b:List Val) (g66:Val->Option (Int)):LK (Int×Int) (Int):=fun d (c,a)=>
 bif(decide (a<((Val.rows b).length:Int)))then(
 bnd (idx b a) fun⟨l,e,f,g,i,j⟩=>
 bnd (g66 (Val.mk l e f g i j)) fun k=>
 d ((kwr .i64 (c+k)),(kwr .i64 (a+1))))
 else(
 some c)
def sQ (n:Nat) (g66:Val->Option (Int)) (a:Val):Option (Int):=
 match a with
 | ⟨_,_,_,_,b,_⟩=>
 qA (fD n b g66) n ((1:Int),(0:Int))
theorem Cv (n:Nat) (g66:Val->Option (Int)) (g66_ok:∀ (a:Val) (r:Int),g66 a=some r->qc TP 66 [PV.agg (qS.cells a)] (pX r)):∀ (a:Val) (r:Int),sQ n g66 a=some r->qc TP 66 [PV.agg (qS.cells a)] (pX r):=by
 intro a r h;obtain⟨g,j,k,l,d,m⟩:=a;unfold sQ at h;refine zN Tryz.call66 Tryz.func66 [1000000] ?_;conv=>whnf
 refine zj.fn [1000000] (S:=Int×Int) (fun(b,c)=>[(1,.ptr 0 0),(3,pI b),(4,pI c)]) (fun(b,c)=>[.box 25 [pI g,pB j,pI k,pS l,pV d,pT m]]) (B:=fD n d g66) h (wk [0] []) ?_;intro _ st h;obtain⟨b,c⟩:=st;unfold fD at h;conv=>whnf
 apply ifc h<;>intro _ h
 ·conv=>whnf
  refine bq h fun⟨_,_,_,_,_,_⟩ f h=>⟨_,Codec.at_ qS f,?_⟩;conv=>whnf
  refine bq h fun i e h=>⟨_,(g66_ok _ _ e),?_⟩;conv=>whnf
  exact⟨((kwr .i64 (b+i)),(kwr .i64 (c+1))),h,wk [0] []⟩
 obtain rfl:=sj h;conv=>whnf
 try exact fin
def cu:Nat->Val->Option (Int)
 | 0=>fun _=>none
 | n+1=>sQ n (cu n)
theorem CI (n:Nat):(∀ (a:Val) (r:Int),cu n a=some r->qc TP 66 [PV.agg (qS.cells a)] (pX r)):=by
 induction n with
 | zero=>exact(by intros; rename_i h; cases h)
 | succ n ih=>
  have hg66:=ih;exact Cv n (cu n) hg66
theorem Dh (n:Nat):∀ (a:Val) (r:Int),cu n a=some r->qc TP 66 [PV.agg (qS.cells a)] (pX r):=(CI n)
abbrev pZ (r:Int):PV:=PV.int .i64 r
def fK (n:Nat) (c:List qa) (d:Int) (g36:qa->Int->Option (Int)):LK (Int×Int) (Int):=fun e (a,b)=>
 bif(bif(decide (b<((qa.rows c).length:Int)))then(decide (a<d))else false)then(
 bnd (idx c b) fun⟨f,g,⟨i,j,k,l,m,o⟩,p,q⟩=>
 bnd (g36 (qa.mk f g (Val.mk i j k l m o) p q) (kwr .i64 (d - a))) fun s=>
 e ((kwr .i64 (a+s)),(kwr .i64 (b+1))))
 else(
 some a)
def sR (n:Nat) (g36:qa->Int->Option (Int)) (b:qa) (d:Int):Option (Int):=
 match b with
 | ⟨_,f,⟨g,i,j,a,k,l⟩,_,c⟩=>
 bnd (cu n (Val.mk g i j a k l)) fun e=>
 qA (fK n c d g36) n ((kwr .i64 ((kwr .i64 ((kwr .i64 ((1:Int)+(kwr .i64 (Int.tdiv ((f.length:Nat):Int) (16:Int)))))+(kwr .i64 (Int.tdiv ((a.length:Nat):Int) (16:Int)))))+e)),(0:Int))
theorem Cx (n:Nat) (g36:qa->Int->Option (Int)) (g36_ok:∀ (b:qa) (a r:Int),g36 b a=some r->qc TP 36 [PV.agg (zx.cells b),PV.int .i64 a] (pZ r)):∀ (b:qa) (a r:Int),sR n g36 b a=some r->qc TP 36 [PV.agg (zx.cells b),PV.int .i64 a] (pZ r):=by
 intro b a r h;obtain⟨j,k,⟨m,o,p,q,s,t⟩,u,e⟩:=b;unfold sR at h;refine zN Tryz.call36 Tryz.func36 [1000000] ?_;conv=>whnf
 refine⟨by unfold gI; decide,?_⟩;conv=>whnf
 refine⟨by unfold gI; decide,?_⟩;conv=>whnf
 refine bq h fun _ i h=>⟨_,(Dh n _ _ i),?_⟩;conv=>whnf
 refine zj.fn [1000000] (S:=Int×Int) (fun(c,d)=>[(1,pI a),(2,.ptr 0 0),(5,pI c),(6,pI d)]) (fun(c,d)=>[.box 28 [pI j,pS k,pI m,pB o,pI p,pS q,pV s,pT t,pT u,pE e]]) (B:=fK n e a g36) h (wk [0] []) ?_;intro _ st h;obtain⟨c,d⟩:=st;unfold fK at h;conv=>whnf
 refine⟨id,id,id,?_⟩;conv=>whnf
 apply ifc h<;>intro _ h
 ·conv=>whnf
  refine bq h fun⟨_,_,⟨_,_,_,_,_,_⟩,_,_⟩ g h=>⟨_,Codec.at_ zx g,?_⟩;conv=>whnf
  refine bq h fun l f h=>⟨_,(g36_ok _ _ _ f),?_⟩;conv=>whnf
  exact⟨((kwr .i64 (c+l)),(kwr .i64 (d+1))),h,wk [0] []⟩
 obtain rfl:=sj h;conv=>whnf
 try exact fin
def uq:Nat->qa->Int->Option (Int)
 | 0=>fun _ _=>none
 | n+1=>sR n (uq n)
theorem CQ (n:Nat):(∀ (a:qa) (b r:Int),uq n a b=some r->qc TP 36 [PV.agg (zx.cells a),PV.int .i64 b] (pZ r)):=by
 induction n with
 | zero=>exact(by intros; rename_i h; cases h)
 | succ n ih=>
  have hg36:=ih;exact Cx n (uq n) hg36
theorem dv (n:Nat):∀ (a:qa) (b r:Int),uq n a b=some r->qc TP 36 [PV.agg (zx.cells a),PV.int .i64 b] (pZ r):=(CQ n)
abbrev FP (r:Int):PV:=PV.int .i64 r
def uN (n:Nat) (c:List qa) (d:Int):LK (Int×Int) (Int):=fun e (a,b)=>
 bif(bif(decide (b<((qa.rows c).length:Int)))then(decide (a<d))else false)then(
 bnd (idx c b) fun⟨m,o,⟨p,q,s,f,g,i⟩,j,k⟩=>
 bnd (uq n (qa.mk m o (Val.mk p q s f g i) j k) (kwr .i64 (d - a))) fun l=>
 e ((kwr .i64 (a+l)),(kwr .i64 (b+1))))
 else(
 some a)
def ua (n:Nat) (a:List qa) (b:Int):Option (Int):=
 qA (uN n a b) n ((0:Int),(0:Int))
theorem gX (n:Nat):∀ (a:List qa) (b r:Int),ua n a b=some r->qc TP 37 [PV.sl (qa.rows a),PV.int .i64 b] (FP r):=by
 intro a b r h;unfold ua at h;refine zN Tryz.call37 Tryz.func37 [1000000] ?_;conv=>whnf
 refine zj.fn [1000000] (S:=Int×Int) (fun(c,d)=>[(0,pE a),(1,pI b),(5,pI c),(6,pI d)]) (fun(c,d)=>[]) (B:=uN n a b) h (wk [] []) ?_;intro _ st h;obtain⟨c,d⟩:=st;unfold uN at h;conv=>whnf
 refine⟨id,id,id,?_⟩;conv=>whnf
 apply ifc h<;>intro _ h
 ·conv=>whnf
  refine bq h fun⟨_,_,⟨_,_,_,_,_,_⟩,_,_⟩ f h=>⟨_,Codec.at_ zx f,?_⟩;conv=>whnf
  refine bq h fun g e h=>⟨_,(dv n _ _ _ e),?_⟩;conv=>whnf
  exact⟨((kwr .i64 (c+g)),(kwr .i64 (d+1))),h,wk [] []⟩
 obtain rfl:=sj h;conv=>whnf
 try exact fin
abbrev HK (r:Bool):PV:=PV.bool r
def gF (n:Nat) (d:List xN) (a:Int) (e:Int×Int->Option (Bool)):LK (Int×Int) (Bool):=fun f (b,c)=>
 bnd (idx d a) fun⟨_,g⟩=>
 bif(bif(decide (c<((qf.rows g).length:Int)))then(decide (b<3000))else false)then(
 bnd (idx d a) fun⟨_,i⟩=>
 bnd (idx i c) fun⟨_,_,_,_,j⟩=>
 bnd (ua n j (3000:Int)) fun k=>
 f ((kwr .i64 ((kwr .i64 (b+1))+k)),(kwr .i64 (c+1))))
 else(
 e (b,(kwr .i64 (a+1))))
def fH (n:Nat) (c:List xN) (a:Int) (e:Int×Int->Option (Bool)):LK (Int×Int) (Bool):=fun f (d,b)=>
 bnd (idx c a) fun⟨g,_⟩=>
 bif(bif(decide (b<((qd.rows g).length:Int)))then(decide (d<3000))else false)then(
 bnd (idx c a) fun⟨i,_⟩=>
 bnd (idx i b) fun⟨_,j,_,_⟩=>
 bnd (idx c a) fun⟨k,_⟩=>
 bnd (idx k b) fun⟨_,_,_,l⟩=>
 bnd (ua n l (3000:Int)) fun m=>
 f ((kwr .i64 ((kwr .i64 ((kwr .i64 (d+1))+((qi j).length:Int)))+m)),(kwr .i64 (b+1))))
 else(
 qA (gF n c a e) n (d,(0:Int)))
def uF (n:Nat) (c:List qq) (d:Int×Int->Option (Bool)) (l:Int):LK (Int×Int) (Bool):=fun e (a,b)=>
 bif(bif(decide (b<((qq.rows c).length:Int)))then(decide (a<3000))else false)then(
 bnd (idx c b) fun⟨_,_,_,⟨m,o,⟨p,q,s,t,f,g⟩,i,j⟩⟩=>
 bnd (uq n (qa.mk m o (Val.mk p q s t f g) i j) (3000:Int)) fun k=>
 e ((kwr .i64 ((kwr .i64 (a+1))+k)),(kwr .i64 (b+1))))
 else(
 d (a,(kwr .i64 (l+1))))
def uE (n:Nat) (c:List zw) (f:List qq) (d:Int×Int->Option (Bool)) (g:Int):LK (Int×Int) (Bool):=fun e (a,b)=>
 bif(bif(decide (b<((zw.rows c).length:Int)))then(decide (a<3000))else false)then(
 bnd (idx c b) fun⟨⟨i,j,⟨k,l,m,o,p,q⟩,s,t⟩,_⟩=>
 bnd (uq n (qa.mk i j (Val.mk k l m o p q) s t) (3000:Int)) fun u=>
 e ((kwr .i64 (a+u)),(kwr .i64 (b+1))))
 else(
 qA (uF n f d g) n (a,(0:Int)))
def uD (n:Nat) (c:List xq) (f:List zw) (g:List qq) (d:Int×Int->Option (Bool)) (i:Int):LK (Int×Int) (Bool):=fun e (a,b)=>
 bif(bif(decide (b<((xq.rows c).length:Int)))then(decide (a<3000))else false)then(
 bnd (idx c b) fun⟨⟨j,k,⟨l,m,o,p,q,s⟩,t,u⟩,_⟩=>
 bnd (uq n (qa.mk j k (Val.mk l m o p q s) t u) (3000:Int)) fun v=>
 e ((kwr .i64 (a+v)),(kwr .i64 (b+1))))
 else(
 qA (uE n f g d i) n (a,(0:Int)))
def gE (n:Nat) (c:List xN) (f:List xq) (g:List zw) (i:List qq) (d:Int×Int->Option (Bool)) (j:Int):LK (Int×Int) (Bool):=fun e (a,b)=>
 bif(bif(decide (b<((xN.rows c).length:Int)))then(decide (a<3000))else false)then(
 qA (fH n c b e) n (a,(0:Int)))
 else(
 qA (uD n f g i d j) n (a,(0:Int)))
def fG (n:Nat) (c:List qv):LK (Int×Int) (Bool):=fun d (a,b)=>
 bif(bif(decide (b<((qv.rows c).length:Int)))then(decide (a<3000))else false)then(
 bnd (idx c b) fun⟨_,y,z,⟨A,B,⟨C,e,f,g,i,j⟩,k,l⟩,_,m,_,o,p,q,s,t,_⟩=>
 bnd (uq n (qa.mk A B (Val.mk C e f g i j) k l) (3000:Int)) fun u=>
 bnd (ua n z (3000:Int)) fun v=>
 bnd (ua n p (3000:Int)) fun w=>
 bnd (ua n q (3000:Int)) fun x=>
 qA (gE n y m o s d b) n ((kwr .i64 ((kwr .i64 ((kwr .i64 ((kwr .i64 ((kwr .i64 ((kwr .i64 (a+1))+u))+v))+w))+x))+((qi t).length:Int))),(0:Int)))
 else(
 some (decide (a≥3000)))
def rN (n:Nat) (a:Cf):Option (Bool):=
 match a with
 | ⟨b⟩=>
 qA (fG n b) n ((0:Int),(0:Int))
theorem Dp (n:Nat):∀ (G:Cf) (r:Bool),rN n G=some r->qc TP 23 [PV.agg (qcl.cells G)] (HK r):=by
 intro G r h;obtain⟨e⟩:=G;unfold rN at h;refine zN Tryz.call23 Tryz.func23 [1000000] ?_;conv=>whnf
 refine zj.fn [1000000] (S:=Int×Int) (fun(Q,a)=>[(1,.ptr 0 0),(3,pI Q),(4,pI a)]) (fun(Q,a)=>[.box 66 [pC e]]) (B:=fG n e) h (wk [0] []) ?_;intro H st h;obtain⟨Q,a⟩:=st;unfold fG at h;conv=>whnf
 refine⟨id,id,?_⟩;conv=>whnf
 apply ifc h<;>intro i h
 ·conv=>whnf
  refine bq h fun⟨y,d,z,⟨A,C,⟨D,j,k,l,m,o⟩,p,q⟩,s,f,t,c,u,v,b,w,x⟩ a7 h=>⟨_,Codec.at_ fX a7,?_⟩;conv=>whnf
  refine bq h fun _ a6 h=>⟨_,(dv n _ _ _ a6),?_⟩;conv=>whnf
  refine bq h fun _ a4 h=>⟨_,(gX n _ _ _ a4),?_⟩;conv=>whnf
  refine bq h fun _ a3 h=>⟨_,(gX n _ _ _ a3),?_⟩;conv=>whnf
  refine bq h fun _ a2 h=>⟨_,(gX n _ _ _ a2),?_⟩;conv=>whnf
  refine zj.fn [1000000] (S:=Int×Int) (fun(R,g)=>[(1,.ptr 0 0),(3,pI R),(4,pI a),(5,.ptr 1 0),(6,pI g)]) (fun(R,g)=>[.box 66 [pC e],.box 63 [pI y,pP d,pE z,pI A,pS C,pI D,pB j,pI k,pS l,pV m,pT o,pT p,pE q,pS s,pA f,pB t,pO c,pE u,pE v,pU b,pT w,pB x]]) (B:=gE n d f c b H a) h (wk [0,1] []) ?_;intro T st h;obtain⟨R,g⟩:=st;unfold gE at h;conv=>whnf
  refine⟨id,id,?_⟩;conv=>whnf
  apply ifc h<;>intro i h
  ·conv=>whnf
   refine zj.fn [1000000] (S:=Int×Int) (fun(I,J)=>[(1,.ptr 0 0),(3,pI I),(4,pI a),(5,.ptr 1 0),(6,pI g),(7,pI J)]) (fun(I,J)=>[.box 66 [pC e],.box 63 [pI y,pP d,pE z,pI A,pS C,pI D,pB j,pI k,pS l,pV m,pT o,pT p,pE q,pS s,pA f,pB t,pO c,pE u,pE v,pU b,pT w,pB x]]) (B:=fH n d g T) h (wk [0,1] []) ?_;intro _ st h;obtain⟨I,J⟩:=st;unfold fH at h;conv=>whnf
   refine bq h fun⟨_,_⟩ V h=>⟨_,Codec.at_ Vt V,?_⟩;conv=>whnf
   refine⟨id,id,?_⟩;conv=>whnf
   apply ifc h<;>intro i h
   ·conv=>whnf
    refine bq h fun⟨_,_⟩ b0 h=>⟨_,Codec.at_ Vt b0,?_⟩;(conv=>whnf);refine bq h fun⟨_,b6,_,_⟩ a9 h=>⟨_,Codec.at_ fr a9,?_⟩;(conv=>whnf);refine bq h fun⟨_,_⟩ a8 h=>⟨_,Codec.at_ Vt a8,?_⟩;(conv=>whnf);refine bq h fun⟨_,_,_,_⟩ a5 h=>⟨_,Codec.at_ fr a5,?_⟩;(conv=>whnf);refine bq h fun b7 U h=>⟨_,(gX n _ _ _ U),?_⟩;(conv=>whnf);exact⟨((kwr .i64 ((kwr .i64 ((kwr .i64 (I+1))+((qi b6).length:Int)))+b7)),(kwr .i64 (J+1))),h,wk [0,1] []⟩
   conv=>whnf
   refine zj.fn [1000000] (S:=Int×Int) (fun(E,K)=>[(1,.ptr 0 0),(3,pI E),(4,pI a),(5,.ptr 1 0),(6,pI g),(8,pI K)]) (fun(E,K)=>[.box 66 [pC e],.box 63 [pI y,pP d,pE z,pI A,pS C,pI D,pB j,pI k,pS l,pV m,pT o,pT p,pE q,pS s,pA f,pB t,pO c,pE u,pE v,pU b,pT w,pB x]]) (B:=gF n d g T) h (wk [0,1] []) ?_;intro _ st h;obtain⟨E,K⟩:=st;unfold gF at h;conv=>whnf
   refine bq h fun⟨_,_⟩ b4 h=>⟨_,Codec.at_ Vt b4,?_⟩;conv=>whnf
   refine⟨id,id,?_⟩;conv=>whnf
   apply ifc h<;>intro i h
   ·conv=>whnf
    refine bq h fun⟨_,_⟩ b3 h=>⟨_,Codec.at_ Vt b3,?_⟩;(conv=>whnf);refine bq h fun⟨_,_,_,_,_⟩ b2 h=>⟨_,Codec.at_ nB b2,?_⟩;(conv=>whnf);refine bq h fun b8 b1 h=>⟨_,(gX n _ _ _ b1),?_⟩;(conv=>whnf);exact⟨((kwr .i64 ((kwr .i64 (E+1))+b8)),(kwr .i64 (K+1))),h,wk [0,1] []⟩
   conv=>whnf
   exact⟨(E,(kwr .i64 (g+1))),h,wk [0,1] []⟩
  conv=>whnf
  refine zj.fn [1000000] (S:=Int×Int) (fun(L,M)=>[(1,.ptr 0 0),(3,pI L),(4,pI a),(5,.ptr 1 0),(9,pI M)]) (fun(L,M)=>[.box 66 [pC e],.box 63 [pI y,pP d,pE z,pI A,pS C,pI D,pB j,pI k,pS l,pV m,pT o,pT p,pE q,pS s,pA f,pB t,pO c,pE u,pE v,pU b,pT w,pB x]]) (B:=uD n f c b H a) h (wk [0,1] []) ?_;intro _ st h;obtain⟨L,M⟩:=st;unfold uD at h;conv=>whnf
  refine⟨id,id,?_⟩;conv=>whnf
  apply ifc h<;>intro i h
  ·conv=>whnf
   refine bq h fun⟨⟨_,_,⟨_,_,_,_,_,_⟩,_,_⟩,_⟩ X h=>⟨_,Codec.at_ BC X,?_⟩;conv=>whnf
   refine bq h fun b9 W h=>⟨_,(dv n _ _ _ W),?_⟩;conv=>whnf
   exact⟨((kwr .i64 (L+b9)),(kwr .i64 (M+1))),h,wk [0,1] []⟩
  conv=>whnf
  refine zj.fn [1000000] (S:=Int×Int) (fun(N,O)=>[(1,.ptr 0 0),(3,pI N),(4,pI a),(5,.ptr 1 0),(10,pI O)]) (fun(N,O)=>[.box 66 [pC e],.box 63 [pI y,pP d,pE z,pI A,pS C,pI D,pB j,pI k,pS l,pV m,pT o,pT p,pE q,pS s,pA f,pB t,pO c,pE u,pE v,pU b,pT w,pB x]]) (B:=uE n c b H a) h (wk [0,1] []) ?_;intro _ st h;obtain⟨N,O⟩:=st;unfold uE at h;conv=>whnf
  refine⟨id,id,?_⟩;conv=>whnf
  apply ifc h<;>intro i h
  ·conv=>whnf
   refine bq h fun⟨⟨_,_,⟨_,_,_,_,_,_⟩,_,_⟩,_⟩ Z h=>⟨_,Codec.at_ US Z,?_⟩;conv=>whnf
   refine bq h fun c0 Y h=>⟨_,(dv n _ _ _ Y),?_⟩;conv=>whnf
   exact⟨((kwr .i64 (N+c0)),(kwr .i64 (O+1))),h,wk [0,1] []⟩
  conv=>whnf
  refine zj.fn [1000000] (S:=Int×Int) (fun(F,P)=>[(1,.ptr 0 0),(3,pI F),(4,pI a),(5,.ptr 1 0),(11,pI P)]) (fun(F,P)=>[.box 66 [pC e],.box 63 [pI y,pP d,pE z,pI A,pS C,pI D,pB j,pI k,pS l,pV m,pT o,pT p,pE q,pS s,pA f,pB t,pO c,pE u,pE v,pU b,pT w,pB x]]) (B:=uF n b H a) h (wk [0,1] []) ?_;intro _ st h;obtain⟨F,P⟩:=st;unfold uF at h;conv=>whnf
  refine⟨id,id,?_⟩;conv=>whnf
  apply ifc h<;>intro i h
  ·conv=>whnf
   refine bq h fun⟨_,_,_,⟨_,_,⟨_,_,_,_,_,_⟩,_,_⟩⟩ a1 h=>⟨_,Codec.at_ tr a1,?_⟩;conv=>whnf
   refine bq h fun b5 a0 h=>⟨_,(dv n _ _ _ a0),?_⟩;conv=>whnf
   exact⟨((kwr .i64 ((kwr .i64 (F+1))+b5)),(kwr .i64 (P+1))),h,wk [0,1] []⟩
  conv=>whnf
  exact⟨(F,(kwr .i64 (a+1))),h,wk [0] []⟩
 obtain rfl:=sj h;conv=>whnf
 try exact fin
abbrev HC (r:Bool):PV:=PV.bool r
def ct (n:Nat) (a:List qa):Option (Bool):=
 bnd (rN n (Cf.mk [qv.mk (0:Int) ([]:List xN) a (qa.mk (0:Int) ([]:SS) (Val.mk (0:Int) false (0:Int) ([]:SS) ([]:List Val) ([]:List SS)) ([]:List SS) ([]:List qa)) ([]:SS) ([]:List xq) false ([]:List zw) ([]:List qa) ([]:List qa) ([]:List qq) ([]:List SS) false])) fun b=>
 some b
theorem mW (n:Nat):∀ (a:List qa) (r:Bool),ct n a=some r->qc TP 7 [PV.sl (qa.rows a)] (HC r):=by
 intro a r h;unfold ct at h;refine zN Tryz.call7 Tryz.func7 [1000000] ?_;conv=>whnf
 refine⟨by repeat (first|exact List.forall_mem_nil _|refine List.forall_mem_cons.2 ⟨⟨rfl,rfl⟩,?_⟩),qv.rows [qv.mk (0:Int) ([]:List xN) a (qa.mk (0:Int) ([]:SS) (Val.mk (0:Int) false (0:Int) ([]:SS) ([]:List Val) ([]:List SS)) ([]:List SS) ([]:List qa)) ([]:SS) ([]:List xq) false ([]:List zw) ([]:List qa) ([]:List qa) ([]:List qq) ([]:List SS) false],.inr (by try exact fin),?_⟩;conv=>whnf
 refine bq h fun _ b h=>⟨_,(Dp n _ _ b),?_⟩;obtain rfl:=sj h;conv=>whnf
 try exact fin
abbrev DL (r:Bool):PV:=PV.bool r
def nI (n:Nat) (b:Val):Option (Bool):=
 match b with
 | ⟨a,c,d,e,f,g⟩=>
 bif(bif(a != 1)then c else false)then(
 some false)
 else(
 bif(bif(bif(bif(a != 2)then(a != 6)else false)then(a != 7)else false)then(d != 0)else false)then(
 some false)
 else(
 bif(bif(a != 3)then(!(e==([]:SS)))else false)then(
 some false)
 else(
 bif(bif(bif(a != 4)then(a != 5)else false)then(decide (((Val.rows f).length:Int)>0))else false)then(
 some false)
 else(
 some (bif(a==5)then true else(((qi g).length:Int)==0))))))
theorem CK (n:Nat):∀ (a:Val) (r:Bool),nI n a=some r->qc TP 65 [PV.agg (qS.cells a)] (DL r):=by
 intro a r h;obtain⟨_,_,_,_,_,_⟩:=a;unfold nI at h;refine zN Tryz.call65 Tryz.func65 [1000000] ?_;conv=>whnf
 refine⟨id,id,?_⟩;conv=>whnf
 apply ifc h<;>intro b h
 ·obtain rfl:=sj h
  conv=>whnf
  try exact fin
 conv=>whnf
 iterate 9 refine⟨id,?_⟩
 conv=>whnf
 apply ifc h<;>intro b h
 ·obtain rfl:=sj h
  conv=>whnf
  try exact fin
 conv=>whnf
 refine⟨id,id,id,?_⟩;conv=>whnf
 apply ifc h<;>intro b h
 ·obtain rfl:=sj h
  conv=>whnf
  try exact fin
 conv=>whnf
 iterate 7 refine⟨id,?_⟩
 conv=>whnf
 apply ifc h<;>intro b h
 ·obtain rfl:=sj h
  conv=>whnf
  try exact fin
 conv=>whnf
 refine⟨id,id,id,id,?_⟩;obtain rfl:=sj h;conv=>whnf
 try exact fin
abbrev Zd (r:Int×Bool):PV:=PV.tup [PV.int .i64 r.1,PV.bool r.2]
abbrev qdg:Type:=Val->Int->Int->Option (Int×Bool)
def cx (n:Nat) (d:List Val) (g35:qdg) (o:Int):LK (Int×Int) (Int×Bool):=fun e (b,a)=>
 bif(decide (a<((Val.rows d).length:Int)))then(
 bnd (idx d a) fun⟨f,g,i,j,k,l⟩=>
 bnd (g35 (Val.mk f g i j k l) (kwr .i64 (o - 1)) b) fun⟨c,m⟩=>
 bif(!m)then(
 some (c,false))
 else(
 e (c,(kwr .i64 (a+1)))))
 else(
 some (b,true))
def cw (n:Nat) (a:List Val) (g35:qdg) (b c:Int):Unit->Option (Int×Bool):=fun _=>
 qA (cx n a g35 b) n ((kwr .i64 (c+1)),(0:Int))
def cy (n:Nat) (b:List SS) (g:Int) (j:List Val) (g35:qdg) (k:Int):LK (Int) (Int×Bool):=fun i a=>
 bif(decide (a<((qi b).length:Int)))then(
 bnd (idx b a) fun c=>
 bnd (qE (!(decide (((c.length:Nat):Int)<1))) (idx b a)) fun d=>
 bnd (qE ((!(bif(decide (((c.length:Nat):Int)<1))then true else(decide (((d.length:Nat):Int)>64))))&&(decide (a>0))) (idx b a)) fun e=>
 bnd (qE ((!(bif(decide (((c.length:Nat):Int)<1))then true else(decide (((d.length:Nat):Int)>64))))&&(decide (a>0))) (idx b (kwr .i64 (a - 1)))) fun f=>
 bif(bif(bif(decide (((c.length:Nat):Int)<1))then true else(decide (((d.length:Nat):Int)>64)))then true else(bif(decide (a>0))then(Op.bytesLess e f||e==f)else false))then(
 some ((kwr .i64 (g+1)),false))
 else(
 i (kwr .i64 (a+1))))
 else(
 cw n j g35 k g ())
def XQ (n:Nat) (g35:qdg) (g:Val) (d b:Int):Option (Int×Bool):=
 match g with
 | ⟨a,i,f,j,c,e⟩=>
 bnd (qE (!(bif(bif(bif(decide ((kwr .i64 (b+1))>4096))then true else(decide (d<1)))then true else(decide (a<0)))then true else(decide (a>7)))) (nI n (Val.mk a i f j c e))) fun k=>
 bif(bif(bif(bif(bif(decide ((kwr .i64 (b+1))>4096))then true else(decide (d<1)))then true else(decide (a<0)))then true else(decide (a>7)))then true else(!k))then(
 some ((kwr .i64 (b+1)),false))
 else(
 bif(bif(bif(a==6)then true else(a==7))then(decide (f<1))else false)then(
 some ((kwr .i64 (b+1)),false))
 else(
 bif(a==5)then(
 bif(((qi e).length:Int) != ((Val.rows c).length:Int))then(
 some ((kwr .i64 (b+1)),false))
 else(
 qA (cy n e b c g35 d) n (0:Int)))
 else(
 cw n c g35 d b ())))
theorem Hn (n:Nat) (g35:qdg) (g35_ok:∀ (c:Val) (a b:Int) (r:Int×Bool),g35 c a b=some r->qc TP 35 [PV.agg (qS.cells c),PV.int .i64 a,PV.int .i64 b] (Zd r)):∀ (c:Val) (a b:Int) (r:Int×Bool),XQ n g35 c a b=some r->qc TP 35 [PV.agg (qS.cells c),PV.int .i64 a,PV.int .i64 b] (Zd r):=by
 intro c a b r h;obtain⟨k,m,o,q,f,j⟩:=c;unfold XQ at h;refine zN Tryz.call35 Tryz.func35 [1000000] ?_;conv=>whnf
 iterate 9 refine⟨id,?_⟩
 conv=>whnf
 refine bq h fun _ y h=>⟨_,fun e=>(CK n _ _ (qb y e)),?_⟩;conv=>whnf
 refine⟨id,id,?_⟩;conv=>whnf
 apply ifc h<;>intro d h
 ·obtain rfl:=sj h
  conv=>whnf
  try exact fin
 conv=>whnf
 iterate 6 refine⟨id,?_⟩
 conv=>whnf
 apply ifc h<;>intro d h
 ·obtain rfl:=sj h
  conv=>whnf
  try exact fin
 conv=>whnf
 refine mw.cut (S:=Unit) (fun _=>[(1,pI a),(2,.p (.int .i64 (kwr .i64 (b+1)))),(3,.ptr 0 0)]) (fun _=>[.box 25 [pI k,pB m,pI o,pS q,pV f,pT j]]) (cw n f g35 a b) (r:=r) ?_ ?_
 ·intro _ h
  unfold cw at h;conv=>whnf
  refine zj.fn [1000000] (S:=Int×Int) (fun(l,g)=>[(1,pI a),(2,pI l),(3,.ptr 0 0),(9,pI g)]) (fun(l,g)=>[.box 25 [pI k,pB m,pI o,pS q,pV f,pT j]]) (B:=cx n f g35 a) h (wk [0] []) ?_;intro _ st h;obtain⟨l,g⟩:=st;unfold cx at h;conv=>whnf
  apply ifc h<;>intro d h
  ·conv=>whnf
   refine bq h fun⟨_,_,_,_,_,_⟩ t h=>⟨_,Codec.at_ qS t,?_⟩;conv=>whnf
   refine bq h fun⟨z,_⟩ s h=>⟨_,(g35_ok _ _ _ _ s),?_⟩;conv=>whnf
   apply ifc h<;>intro d h
   ·obtain rfl:=sj h
    conv=>whnf
    try exact fin
   conv=>whnf
   exact⟨(z,(kwr .i64 (g+1))),h,wk [0] []⟩
  obtain rfl:=sj h;conv=>whnf
  try exact fin
 conv=>whnf
 apply ifc h<;>intro d h
 ·conv=>whnf
  apply ifc h<;>intro d h
  ·obtain rfl:=sj h
   conv=>whnf
   try exact fin
  conv=>whnf
  refine zj.fn [1000000] (S:=Int) (fun i=>[(1,pI a),(2,.p (.int .i64 (kwr .i64 (b+1)))),(3,.ptr 0 0),(8,pI i)]) (fun i=>[.box 25 [pI k,pB m,pI o,pS q,pV f,pT j]]) (B:=cy n j b f g35 a) h (wk [0] []) ?_;intro _ i h;unfold cy at h;conv=>whnf
  apply ifc h<;>intro d h
  ·conv=>whnf
   refine bq h fun _ x h=>⟨_,Codec.at_ ca x,?_⟩;conv=>whnf
   refine⟨id,id,id,?_⟩;conv=>whnf
   refine bq h fun _ w h=>⟨_,fun e=>Codec.at_ ca (qb w e),?_⟩;conv=>whnf
   iterate 9 refine⟨id,?_⟩
   conv=>whnf
   refine bq h fun _ v h=>⟨_,fun e=>Codec.at_ ca (qb v e),?_⟩;conv=>whnf
   refine⟨id,id,id,id,id,?_⟩;conv=>whnf
   refine bq h fun _ u h=>⟨_,fun e=>Codec.at_ ca (qb u e),?_⟩;conv=>whnf
   iterate 6 refine⟨id,?_⟩
   conv=>whnf
   apply ifc h<;>intro d h
   ·obtain rfl:=sj h
    conv=>whnf
    try exact fin
   conv=>whnf
   exact⟨(kwr .i64 (i+1)),h,wk [0] []⟩
  conv=>whnf
  exact⟨(),h,wk [0] []⟩
 conv=>whnf
 exact⟨(),h,wk [0] []⟩
def cv:Nat->Val->Int->Int->Option (Int×Bool)
 | 0=>fun _ _ _=>none
 | n+1=>XQ n (cv n)
theorem Hq (n:Nat):(∀ (a:Val) (b c:Int) (r:Int×Bool),cv n a b c=some r->qc TP 35 [PV.agg (qS.cells a),PV.int .i64 b,PV.int .i64 c] (Zd r)):=by
 induction n with
 | zero=>exact(by intros; rename_i h; cases h)
 | succ n ih=>
  have hg35:=ih;exact Hn n (cv n) hg35
theorem Mi (n:Nat):∀ (a:Val) (b c:Int) (r:Int×Bool),cv n a b c=some r->qc TP 35 [PV.agg (qS.cells a),PV.int .i64 b,PV.int .i64 c] (Zd r):=(Hq n)
abbrev Pp (r:Bool):PV:=PV.bool r
def gm (n:Nat) (a:Val):Option (Bool):=
 match a with
 | ⟨b,c,d,e,f,g⟩=>
 bnd (cv n (Val.mk b c d e f g) (32:Int) (0:Int)) fun⟨_,i⟩=>
 some i
theorem bf (n:Nat):∀ (a:Val) (r:Bool),gm n a=some r->qc TP 22 [PV.agg (qS.cells a)] (Pp r):=by
 intro a r h;obtain⟨_,_,_,_,_,_⟩:=a;unfold gm at h;refine zN Tryz.call22 Tryz.func22 [1000000] ?_;conv=>whnf
 refine bq h fun⟨_,_⟩ b h=>⟨_,(Mi n _ _ _ _ b),?_⟩;obtain rfl:=sj h;conv=>whnf
 try exact fin
abbrev HJ (r:List SS):PV:=PV.sl (qi r)
def QK (n:Nat):Option (List SS):=
 some [([77,65,84,67,72]:SS),([87,72,69,82,69]:SS),([85,78,87,73,78,68]:SS),([65,83]:SS),([87,73,84,72]:SS),([67,82,69,65,84,69]:SS),([77,69,82,71,69]:SS),([83,69,84]:SS),([82,69,77,79,86,69]:SS),([68,69,76,69,84,69]:SS),([68,69,84,65,67,72]:SS),([82,69,84,85,82,78]:SS),([68,73,83,84,73,78,67,84]:SS),([79,82,68,69,82]:SS),([66,89]:SS),([65,83,67]:SS),([68,69,83,67]:SS),([83,75,73,80]:SS),([76,73,77,73,84]:SS),([65,78,68]:SS),([79,82]:SS),([88,79,82]:SS),([78,79,84]:SS),([73,78]:SS),([73,83]:SS),([78,85,76,76]:SS),([84,82,85,69]:SS),([70,65,76,83,69]:SS)]
theorem Dm (n:Nat):∀ (r:List SS),QK n=some r->qc TP 111 [] (HJ r):=by
 intro r h;unfold QK at h;refine zN Tryz.call111 Tryz.func111 [1000000] ?_;conv=>whnf
 refine⟨Codec.one ca [([77,65,84,67,72]:SS),([87,72,69,82,69]:SS),([85,78,87,73,78,68]:SS),([65,83]:SS),([87,73,84,72]:SS),([67,82,69,65,84,69]:SS),([77,69,82,71,69]:SS),([83,69,84]:SS),([82,69,77,79,86,69]:SS),([68,69,76,69,84,69]:SS),([68,69,84,65,67,72]:SS),([82,69,84,85,82,78]:SS),([68,73,83,84,73,78,67,84]:SS),([79,82,68,69,82]:SS),([66,89]:SS),([65,83,67]:SS),([68,69,83,67]:SS),([83,75,73,80]:SS),([76,73,77,73,84]:SS),([65,78,68]:SS),([79,82]:SS),([88,79,82]:SS),([78,79,84]:SS),([73,78]:SS),([73,83]:SS),([78,85,76,76]:SS),([84,82,85,69]:SS),([70,65,76,83,69]:SS)],qi [([77,65,84,67,72]:SS),([87,72,69,82,69]:SS),([85,78,87,73,78,68]:SS),([65,83]:SS),([87,73,84,72]:SS),([67,82,69,65,84,69]:SS),([77,69,82,71,69]:SS),([83,69,84]:SS),([82,69,77,79,86,69]:SS),([68,69,76,69,84,69]:SS),([68,69,84,65,67,72]:SS),([82,69,84,85,82,78]:SS),([68,73,83,84,73,78,67,84]:SS),([79,82,68,69,82]:SS),([66,89]:SS),([65,83,67]:SS),([68,69,83,67]:SS),([83,75,73,80]:SS),([76,73,77,73,84]:SS),([65,78,68]:SS),([79,82]:SS),([88,79,82]:SS),([78,79,84]:SS),([73,78]:SS),([73,83]:SS),([78,85,76,76]:SS),([84,82,85,69]:SS),([70,65,76,83,69]:SS)],.inl rfl,?_⟩;obtain rfl:=sj h;conv=>whnf
 try exact fin
end W
end
section
set_option maxRecDepth 100000
set_option maxHeartbeats 4000000
open Go Go.Proofs Ax
namespace W
abbrev HG (r:SS):PV:=PV.str r
def fE (n:Nat) (a:SS) (c:SS×Int->Option SS) (d:Int):Int->Option SS:=fun e=>
 bnd (u8I e) fun b=>
 chk (decide ((qx (a++[b])).length * 1<=140737488355328)) (
 c ((a++[b]),(kwr .i64 (d+1))))
def fF (n:Nat) (e:SS):(SS×Int->Option SS)->SS×Int->Option SS:=fun d (c,a)=>
 bif(decide (a<((e.length:Nat):Int)))then(
 bnd (idx e a) fun b=>
 bif(bif(decide (((b.toNat:Nat):Int)≥97))then(decide (((b.toNat:Nat):Int)<=122))else false)then(
 fE n c d a (kwr .u8 (((b.toNat:Nat):Int) - 32)))
 else(
 fE n c d a ((b.toNat:Nat):Int)))
 else(
 some c)
def rM (n:Nat) (a:SS):Option SS:=
 qA (fF n a) n (([]:List _),(0:Int))
theorem Dl (n:Nat):∀ (c r:SS),rM n c=some r->qc TP 112 [PV.str c] (HG r):=by
 intro c r h;unfold rM at h;refine zN Tryz.call112 Tryz.func112 [1000000] ?_;conv=>whnf
 refine zj.fn [1000000] (S:=SS×Int) (fun(a,d)=>[(0,pS c),(3,.tsl 0 (qx a)),(4,pI d)]) (fun(a,d)=>[.tail 5 1 (qx a).length]) (B:=fF n c) h (wk [0] [0]) ?_;intro l st h;obtain⟨a,d⟩:=st;unfold fF at h;conv=>whnf
 apply ifc h<;>intro k h
 ·conv=>whnf
  refine bq h fun g j h=>⟨_,zW j,?_⟩;conv=>whnf
  refine mw.cut (S:=Int) (fun e=>[(0,pS c),(3,.tsl 0 (qx a)),(4,pI d),(5,.p (.int .u8 e))]) (fun e=>[.tail 5 1 (qx a).length]) (fE n a l d) (r:=r) ?_ ?_
  ·intro e h
   unfold fE at h;conv=>whnf
   refine bq h fun b i h=>?_;rw[show([[PV.int .u8 e]]:List (List PV))=qx [b]from by rw[vh i]; rfl];refine⟨Codec.one xw [b],_,.inl rfl,?_⟩;conv=>whnf
   rw[show qx a++qx [b]=qx (a++[b])from Codec.append xw a [b]];conv=>whnf
   obtain⟨f,h⟩:=qg h;refine⟨⟨Codec.wide xw (a++[b]),kod f,zy f (by decide)⟩,?_⟩;conv=>whnf
   refine⟨⟨rfl,rfl,rfl⟩,?_⟩;conv=>whnf
   exact⟨((a++[b]),(kwr .i64 (d+1))),h,wk [1] []⟩
  conv=>whnf
  refine⟨id,?_⟩;conv=>whnf
  refine⟨id,?_⟩;conv=>whnf
  apply ifc h<;>intro k h
  ·conv=>whnf
   exact⟨(kwr .u8 (((g.toNat:Nat):Int) - 32)),h,wk [0] []⟩
  conv=>whnf
  exact⟨((g.toNat:Nat):Int),h,wk [0] []⟩
 conv=>whnf
 refine⟨_,rfl,?_⟩;obtain rfl:=sj h;conv=>whnf
 try exact fin
abbrev Mx (r:SS×Bool):PV:=PV.tup [PV.str r.1,PV.bool r.2]
def cU (n:Nat) (b:List SS) (c:SS):LK (Int) (SS×Bool):=fun d a=>
 bif(decide (a<((qi b).length:Int)))then(
 bnd (idx b a) fun e=>
 bif(e==c)then(
 some (c,true))
 else(
 d (kwr .i64 (a+1))))
 else(
 some (([]:SS),false))
def rq (n:Nat) (a:SS):Option (SS×Bool):=
 bnd (QK n) fun b=>
 bnd (rM n a) fun c=>
 qA (cU n b c) n (0:Int)
theorem Ul (n:Nat):∀ (b:SS) (r:SS×Bool),rq n b=some r->qc TP 67 [PV.str b] (Mx r):=by
 intro b r h;unfold rq at h;refine zN Tryz.call67 Tryz.func67 [1000000] ?_;conv=>whnf
 refine bq h fun c g h=>⟨_,(Dm n _ g),?_⟩;conv=>whnf
 refine bq h fun d f h=>⟨_,(Dl n _ _ f),?_⟩;conv=>whnf
 refine zj.fn [1000000] (S:=Int) (fun a=>[(4,pT c),(5,pS d),(6,pI a)]) (fun a=>[]) (B:=cU n c d) h (wk [] []) ?_;intro _ a h;unfold cU at h;conv=>whnf
 apply ifc h<;>intro i h
 ·conv=>whnf
  refine bq h fun _ e h=>⟨_,Codec.at_ ca e,?_⟩;conv=>whnf
  apply ifc h<;>intro i h
  ·obtain rfl:=sj h
   conv=>whnf
   try exact fin
  conv=>whnf
  exact⟨(kwr .i64 (a+1)),h,wk [] []⟩
 obtain rfl:=sj h;conv=>whnf
 try exact fin
abbrev DM (r:Bool):PV:=PV.bool r
def gq (n:Nat) (a:Int):Option (Bool):=
 some (bif(bif(bif(decide (a≥97))then(decide (a<=122))else false)then true else(bif(decide (a≥65))then(decide (a<=90))else false))then true else(a==95))
theorem bI (n:Nat):∀ (a:Int) (r:Bool),gq n a=some r->qc TP 113 [PV.int .u8 a] (DM r):=by
 intro a r h;unfold gq at h;refine zN Tryz.call113 Tryz.func113 [1000000] ?_;conv=>whnf
 iterate 10 refine⟨id,?_⟩
 obtain rfl:=sj h;conv=>whnf
 try exact fin
abbrev HF (r:Bool):PV:=PV.bool r
def fp (n:Nat) (a:Int):Option (Bool):=
 some (bif(decide (a≥48))then(decide (a<=57))else false)
theorem dt (n:Nat):∀ (a:Int) (r:Bool),fp n a=some r->qc TP 114 [PV.int .u8 a] (HF r):=by
 intro a r h;unfold fp at h;refine zN Tryz.call114 Tryz.func114 [1000000] ?_;conv=>whnf
 refine⟨id,id,?_⟩;obtain rfl:=sj h;conv=>whnf
 try exact fin
abbrev Mt (r:Bool):PV:=PV.bool r
def cT (n:Nat) (b:SS):LK (Int) (Bool):=fun d a=>
 bif(decide (a<((b.length:Nat):Int)))then(
 bnd (idx b a) fun e=>
 bnd (gq n ((e.toNat:Nat):Int)) fun c=>
 bnd (qE (!c) (idx b a)) fun f=>
 bnd (qE (!c) (fp n ((f.toNat:Nat):Int))) fun g=>
 bif(bif(!c)then(!g)else false)then(
 some false)
 else(
 d (kwr .i64 (a+1))))
 else(
 some true)
def Qc (n:Nat) (a:SS):Option (Bool):=
 bnd (qE (!(bif(decide (((a.length:Nat):Int)<1))then true else(decide (((a.length:Nat):Int)>64)))) (idx a (0:Int))) fun b=>
 bnd (qE (!(bif(decide (((a.length:Nat):Int)<1))then true else(decide (((a.length:Nat):Int)>64)))) (gq n ((b.toNat:Nat):Int))) fun c=>
 bif(bif(bif(decide (((a.length:Nat):Int)<1))then true else(decide (((a.length:Nat):Int)>64)))then true else(!c))then(
 some false)
 else(
 qA (cT n a) n (0:Int))
theorem Hs (n:Nat):∀ (b:SS) (r:Bool),Qc n b=some r->qc TP 68 [PV.str b] (Mt r):=by
 intro b r h;unfold Qc at h;refine zN Tryz.call68 Tryz.func68 [1000000] ?_;conv=>whnf
 refine⟨id,id,id,id,?_⟩;conv=>whnf
 refine bq h fun _ k h=>⟨_,fun a=>zW (qb k a),?_⟩;conv=>whnf
 refine⟨id,?_⟩;conv=>whnf
 refine bq h fun _ j h=>⟨_,fun a=>(bI n _ _ (qb j a)),?_⟩;conv=>whnf
 refine⟨id,id,?_⟩;conv=>whnf
 apply ifc h<;>intro d h
 ·obtain rfl:=sj h
  conv=>whnf
  try exact fin
 conv=>whnf
 refine zj.fn [1000000] (S:=Int) (fun c=>[(0,pS b),(3,pI c)]) (fun c=>[]) (B:=cT n b) h (wk [] []) ?_;intro _ c h;unfold cT at h;conv=>whnf
 apply ifc h<;>intro d h
 ·conv=>whnf
  refine bq h fun _ i h=>⟨_,zW i,?_⟩;conv=>whnf
  refine bq h fun _ g h=>⟨_,(bI n _ _ g),?_⟩;conv=>whnf
  refine⟨id,id,?_⟩;conv=>whnf
  refine bq h fun _ f h=>⟨_,fun a=>zW (qb f a),?_⟩;conv=>whnf
  refine⟨id,?_⟩;conv=>whnf
  refine bq h fun _ e h=>⟨_,fun a=>(dt n _ _ (qb e a)),?_⟩;conv=>whnf
  refine⟨id,id,?_⟩;conv=>whnf
  apply ifc h<;>intro d h
  ·obtain rfl:=sj h
   conv=>whnf
   try exact fin
  conv=>whnf
  exact⟨(kwr .i64 (c+1)),h,wk [] []⟩
 obtain rfl:=sj h;conv=>whnf
 try exact fin
abbrev HH (r:Bool):PV:=PV.bool r
def vR (n:Nat) (a:SS):Option (Bool):=
 bnd (rq n a) fun⟨_,b⟩=>
 bnd (Qc n a) fun c=>
 some (bif c then(!b)else false)
theorem uC (n:Nat):∀ (a:SS) (r:Bool),vR n a=some r->qc TP 38 [PV.str a] (HH r):=by
 intro a r h;unfold vR at h;refine zN Tryz.call38 Tryz.func38 [1000000] ?_;conv=>whnf
 refine bq h fun⟨_,_⟩ c h=>⟨_,(Ul n _ _ c),?_⟩;conv=>whnf
 refine bq h fun _ b h=>⟨_,(Hs n _ _ b),?_⟩;conv=>whnf
 refine⟨id,id,?_⟩;obtain rfl:=sj h;conv=>whnf
 try exact fin
abbrev Ps (r:Bool):PV:=PV.bool r
def gu (n:Nat) (a:SS):Option (Bool):=
 some (bif(decide (((a.length:Nat):Int)≥1))then(decide (((a.length:Nat):Int)<=64))else false)
theorem ue (n:Nat):∀ (a:SS) (r:Bool),gu n a=some r->qc TP 39 [PV.str a] (Ps r):=by
 intro a r h;unfold gu at h;refine zN Tryz.call39 Tryz.func39 [1000000] ?_;conv=>whnf
 refine⟨id,id,id,?_⟩;obtain rfl:=sj h;conv=>whnf
 try exact fin
abbrev HL (r:Int):PV:=PV.int .i64 r
def fI (n:Nat):Bool->Option (Int):=fun a=>
 bif a then(
 some (7:Int))
 else(
 some (0:Int))
def du (n:Nat) (a:SS):Bool->Option (Int):=fun b=>
 bif b then(
 some (6:Int))
 else(
 bif(a==([42]:SS))then(
 fI n (a==([42]:SS)))
 else(
 bif(a==([47]:SS))then(
 fI n (a==([47]:SS)))
 else(
 fI n (a==([37]:SS)))))
def vo (n:Nat) (a:SS):Bool->Option (Int):=fun b=>
 bif b then(
 some (5:Int))
 else(
 bif(a==([43]:SS))then(
 du n a (a==([43]:SS)))
 else(
 du n a (a==([45]:SS))))
def rO (n:Nat) (a:SS):Option (Int):=
 bif(a==([79,82]:SS))then(
 some (1:Int))
 else(
 bif(a==([88,79,82]:SS))then(
 some (2:Int))
 else(
 bif(a==([65,78,68]:SS))then(
 some (3:Int))
 else(
 bif(a==([61]:SS))then(
 vo n a (a==([61]:SS)))
 else(
 bif(a==([60,62]:SS))then(
 vo n a (a==([60,62]:SS)))
 else(
 bif(a==([60]:SS))then(
 vo n a (a==([60]:SS)))
 else(
 bif(a==([60,61]:SS))then(
 vo n a (a==([60,61]:SS)))
 else(
 bif(a==([62]:SS))then(
 vo n a (a==([62]:SS)))
 else(
 bif(a==([62,61]:SS))then(
 vo n a (a==([62,61]:SS)))
 else(
 vo n a (a==([73,78]:SS)))))))))))
theorem Dq (n:Nat):∀ (a:SS) (r:Int),rO n a=some r->qc TP 40 [PV.str a] (HL r):=by
 intro a r h;unfold rO at h;refine zN Tryz.call40 Tryz.func40 [1000000] ?_;conv=>whnf
 apply ifc h<;>intro b h
 ·obtain rfl:=sj h
  conv=>whnf
  try exact fin
 conv=>whnf
 apply ifc h<;>intro b h
 ·obtain rfl:=sj h
  conv=>whnf
  try exact fin
 conv=>whnf
 apply ifc h<;>intro b h
 ·obtain rfl:=sj h
  conv=>whnf
  try exact fin
 conv=>whnf
 refine mw.cut (S:=Bool) (fun c=>[(3,pS a),(10,pB c)]) (fun c=>[]) (vo n a) (r:=r) ?_ ?_
 ·intro c h
  unfold vo at h;conv=>whnf
  apply ifc h<;>intro b h
  ·obtain rfl:=sj h
   conv=>whnf
   try exact fin
  conv=>whnf
  refine mw.cut (S:=Bool) (fun d=>[(3,pS a),(18,pB d)]) (fun d=>[]) (du n a) (r:=r) ?_ ?_
  ·intro d h
   unfold du at h;conv=>whnf
   apply ifc h<;>intro b h
   ·obtain rfl:=sj h
    conv=>whnf
    try exact fin
   conv=>whnf
   refine mw.cut (S:=Bool) (fun e=>[(21,pB e)]) (fun e=>[]) (fI n) (r:=r) ?_ ?_
   ·intro e h
    unfold fI at h;(conv=>whnf);apply ifc h<;>intro b h
    ·obtain rfl:=sj h
     conv=>whnf
     try exact fin
    obtain rfl:=sj h;conv=>whnf
    try exact fin
   conv=>whnf
   apply ifc h<;>intro b h
   ·conv=>whnf
    exact⟨(a==([42]:SS)),h,wk [] []⟩
   conv=>whnf
   apply ifc h<;>intro b h
   ·conv=>whnf
    exact⟨(a==([47]:SS)),h,wk [] []⟩
   conv=>whnf
   exact⟨(a==([37]:SS)),h,wk [] []⟩
  conv=>whnf
  apply ifc h<;>intro b h
  ·conv=>whnf
   exact⟨(a==([43]:SS)),h,wk [] []⟩
  conv=>whnf
  exact⟨(a==([45]:SS)),h,wk [] []⟩
 conv=>whnf
 apply ifc h<;>intro b h
 ·conv=>whnf
  exact⟨(a==([61]:SS)),h,wk [] []⟩
 conv=>whnf
 apply ifc h<;>intro b h
 ·conv=>whnf
  exact⟨(a==([60,62]:SS)),h,wk [] []⟩
 conv=>whnf
 apply ifc h<;>intro b h
 ·conv=>whnf
  exact⟨(a==([60]:SS)),h,wk [] []⟩
 conv=>whnf
 apply ifc h<;>intro b h
 ·conv=>whnf
  exact⟨(a==([60,61]:SS)),h,wk [] []⟩
 conv=>whnf
 apply ifc h<;>intro b h
 ·conv=>whnf
  exact⟨(a==([62]:SS)),h,wk [] []⟩
 conv=>whnf
 apply ifc h<;>intro b h
 ·conv=>whnf
  exact⟨(a==([62,61]:SS)),h,wk [] []⟩
 conv=>whnf
 exact⟨(a==([73,78]:SS)),h,wk [] []⟩
abbrev Gv (r:Bool):PV:=PV.bool r
def cA (n:Nat) (a:SS):Option (Bool):=
 some (bif(bif(bif(bif(a==([99,111,117,110,116]:SS))then true else(a==([115,117,109]:SS)))then true else(a==([109,105,110]:SS)))then true else(a==([109,97,120]:SS)))then true else(a==([99,111,108,108,101,99,116]:SS)))
theorem bK (n:Nat):∀ (a:SS) (r:Bool),cA n a=some r->qc TP 41 [PV.str a] (Gv r):=by
 intro a r h;unfold cA at h;refine zN Tryz.call41 Tryz.func41 [1000000] ?_;conv=>whnf
 iterate 8 refine⟨id,?_⟩
 obtain rfl:=sj h;conv=>whnf
 try exact fin
abbrev HP (r:Bool):PV:=PV.bool r
def nf (n:Nat) (b:List SS) (e:SS) (d:List qa):LK (Int) (Bool):=fun c a=>
 bif(decide (a<((qi b).length:Int)))then(
 bnd (idx b a) fun f=>
 bnd (gu n f) fun g=>
 bif(!g)then(
 some false)
 else(
 c (kwr .i64 (a+1))))
 else(
 some (bif(e==([]:SS))then(((qa.rows d).length:Int)==((qi b).length:Int))else false))
def uG (n:Nat) (b:SS) (a:List qa) (c:Int):Bool->Option (Bool):=fun e=>
 bif e then(
 some (bif(b==([]:SS))then(((qa.rows a).length:Int)==1)else false))
 else(
 bif(c==10)then(
 bnd (qE (((qa.rows a).length:Int)==2) (rO n b)) fun f=>
 some (bif(((qa.rows a).length:Int)==2)then(decide (f>0))else false))
 else(
 bif(c==13)then(
 bnd (vR n b) fun d=>
 bnd (qE d (cA n b)) fun g=>
 some (bif d then(!g)else false))
 else(
 bif(c==14)then(
 bnd (qE (((qa.rows a).length:Int)==1) (cA n b)) fun i=>
 some (bif(bif(((qa.rows a).length:Int)==1)then i else false)then true else(bif(((qa.rows a).length:Int)==0)then(b==([99,111,117,110,116]:SS))else false)))
 else(
 some false))))
def fJ (n:Nat) (b:List qa) (c:SS) (a:Int) (j:List SS):Bool->Option (Bool):=fun e=>
 bif e then(
 bnd (qE (((qa.rows b).length:Int)==0) (vR n c)) fun f=>
 some (bif(((qa.rows b).length:Int)==0)then f else false))
 else(
 bif(a==4)then(
 bnd (qE (((qa.rows b).length:Int)==1) (gu n c)) fun g=>
 some (bif(((qa.rows b).length:Int)==1)then g else false))
 else(
 bif(a==15)then(
 bnd (qE (((qa.rows b).length:Int)==1) (gu n c)) fun d=>
 bnd (qE (bif(((qa.rows b).length:Int)==1)then d else false) (idx b (0:Int))) fun⟨i,_,⟨_,_,_,_,_,_⟩,_,_⟩=>
 some (bif(bif(((qa.rows b).length:Int)==1)then d else false)then(i==2)else false))
 else(
 bif(a==5)then(
 some (c==([]:SS)))
 else(
 bif(a==6)then(
 qA (nf n j c b) n (0:Int))
 else(
 bif(a==7)then(
 some (bif(c==([]:SS))then(((qa.rows b).length:Int)==2)else false))
 else(
 bif(a==8)then(
 uG n c b a (a==8))
 else(
 bif(a==9)then(
 uG n c b a (a==9))
 else(
 bif(a==11)then(
 uG n c b a (a==11))
 else(
 uG n c b a (a==12))))))))))
def rR (n:Nat) (g:qa):Option (Bool):=
 match g with
 | ⟨a,d,⟨b,j,e,k,l,m⟩,f,c⟩=>
 bif(a==1)then(
 bnd (qE (bif(d==([]:SS))then(((qa.rows c).length:Int)==0)else false) (gm n (Val.mk b j e k l m))) fun i=>
 some (bif(bif(bif(d==([]:SS))then(((qa.rows c).length:Int)==0)else false)then i else false)then(bif(bif(bif(b==0)then true else(b==1))then true else(bif(b==2)then(decide (e≥0))else false))then true else(b==3))else false))
 else(
 bif(a==2)then(
 fJ n c d a f (a==2))
 else(
 fJ n c d a f (a==3)))
theorem Dr (n:Nat):∀ (g:qa) (r:Bool),rR n g=some r->qc TP 24 [PV.agg (zx.cells g)] (HP r):=by
 intro g r h;obtain⟨c,e,⟨l,m,o,q,s,t⟩,f,d⟩:=g;unfold rR at h;refine zN Tryz.call24 Tryz.func24 [1000000] ?_;conv=>whnf
 apply ifc h<;>intro a h
 ·conv=>whnf
  refine⟨id,id,id,?_⟩;conv=>whnf
  refine bq h fun _ u h=>⟨_,fun b=>(bf n _ _ (qb u b)),?_⟩;conv=>whnf
  iterate 24 refine⟨id,?_⟩
  obtain rfl:=sj h;conv=>whnf
  try exact fin
 conv=>whnf
 refine mw.cut (S:=Bool) (fun j=>[(1,.ptr 0 0),(3,.p (.int .i64 ((qa.rows d).length:Int))),(4,.p (.bool (e==([]:SS)))),(14,pI c),(53,pB j)]) (fun j=>[.box 28 [pI c,pS e,pI l,pB m,pI o,pS q,pV s,pT t,pT f,pE d]]) (fJ n d e c f) (r:=r) ?_ ?_
 ·intro j h
  unfold fJ at h;conv=>whnf
  apply ifc h<;>intro a h
  ·conv=>whnf
   refine⟨id,id,?_⟩;conv=>whnf
   refine bq h fun _ x h=>⟨_,fun b=>(uC n _ _ (qb x b)),?_⟩;conv=>whnf
   refine⟨id,?_⟩;obtain rfl:=sj h;conv=>whnf
   try exact fin
  conv=>whnf
  apply ifc h<;>intro a h
  ·conv=>whnf
   refine⟨id,id,?_⟩;conv=>whnf
   refine bq h fun _ y h=>⟨_,fun b=>(ue n _ _ (qb y b)),?_⟩;conv=>whnf
   refine⟨id,?_⟩;obtain rfl:=sj h;conv=>whnf
   try exact fin
  conv=>whnf
  apply ifc h<;>intro a h
  ·conv=>whnf
   refine⟨id,id,?_⟩;conv=>whnf
   refine bq h fun _ A h=>⟨_,fun b=>(ue n _ _ (qb A b)),?_⟩;conv=>whnf
   refine⟨id,id,id,?_⟩;conv=>whnf
   refine bq h fun⟨_,_,⟨_,_,_,_,_,_⟩,_,_⟩ z h=>⟨_,fun b=>Codec.at_ zx (qb z b),?_⟩;conv=>whnf
   refine⟨id,id,id,id,?_⟩;obtain rfl:=sj h;conv=>whnf
   try exact fin
  conv=>whnf
  apply ifc h<;>intro a h
  ·obtain rfl:=sj h
   conv=>whnf
   try exact fin
  conv=>whnf
  apply ifc h<;>intro a h
  ·conv=>whnf
   refine zj.fn [1000000] (S:=Int) (fun i=>[(1,.ptr 0 0),(3,.p (.int .i64 ((qa.rows d).length:Int))),(4,.p (.bool (e==([]:SS)))),(6,pI i)]) (fun i=>[.box 28 [pI c,pS e,pI l,pB m,pI o,pS q,pV s,pT t,pT f,pE d]]) (B:=nf n f e d) h (wk [0] []) ?_;intro _ i h;unfold nf at h;conv=>whnf
   apply ifc h<;>intro a h
   ·conv=>whnf
    refine bq h fun _ D h=>⟨_,Codec.at_ ca D,?_⟩;(conv=>whnf);refine bq h fun _ C h=>⟨_,(ue n _ _ C),?_⟩;(conv=>whnf);apply ifc h<;>intro a h
    ·obtain rfl:=sj h
     conv=>whnf
     try exact fin
    (conv=>whnf);exact⟨(kwr .i64 (i+1)),h,wk [0] []⟩
   conv=>whnf
   refine⟨id,id,id,id,id,?_⟩;obtain rfl:=sj h;conv=>whnf
   try exact fin
  conv=>whnf
  apply ifc h<;>intro a h
  ·conv=>whnf
   refine⟨id,id,?_⟩;obtain rfl:=sj h;conv=>whnf
   try exact fin
  conv=>whnf
  refine mw.cut (S:=Bool) (fun k=>[(1,.ptr 0 0),(3,.p (.int .i64 ((qa.rows d).length:Int))),(4,.p (.bool (e==([]:SS)))),(14,pI c),(123,pB k)]) (fun k=>[.box 28 [pI c,pS e,pI l,pB m,pI o,pS q,pV s,pT t,pT f,pE d]]) (uG n e d c) (r:=r) ?_ ?_
  ·intro k h
   unfold uG at h;conv=>whnf
   apply ifc h<;>intro a h
   ·conv=>whnf
    refine⟨id,id,?_⟩;obtain rfl:=sj h;conv=>whnf
    try exact fin
   conv=>whnf
   apply ifc h<;>intro a h
   ·conv=>whnf
    refine⟨id,id,?_⟩;(conv=>whnf);refine bq h fun _ E h=>⟨_,fun b=>(Dq n _ _ (qb E b)),?_⟩;(conv=>whnf);refine⟨id,id,?_⟩;obtain rfl:=sj h;conv=>whnf
    try exact fin
   conv=>whnf
   apply ifc h<;>intro a h
   ·conv=>whnf
    refine bq h fun _ v h=>⟨_,(uC n _ _ v),?_⟩;(conv=>whnf);refine⟨id,id,?_⟩;(conv=>whnf);refine bq h fun _ F h=>⟨_,fun b=>(bK n _ _ (qb F b)),?_⟩;(conv=>whnf);refine⟨id,id,?_⟩;obtain rfl:=sj h;conv=>whnf
    try exact fin
   conv=>whnf
   apply ifc h<;>intro a h
   ·conv=>whnf
    refine⟨id,id,?_⟩;(conv=>whnf);refine bq h fun _ w h=>⟨_,fun b=>(bK n _ _ (qb w b)),?_⟩;conv=>whnf
    iterate 8 refine⟨id,?_⟩
    obtain rfl:=sj h;conv=>whnf
    try exact fin
   obtain rfl:=sj h;conv=>whnf
   try exact fin
  conv=>whnf
  apply ifc h<;>intro a h
  ·conv=>whnf
   exact⟨(c==8),h,wk [0] []⟩
  conv=>whnf
  apply ifc h<;>intro a h
  ·conv=>whnf
   exact⟨(c==9),h,wk [0] []⟩
  conv=>whnf
  apply ifc h<;>intro a h
  ·conv=>whnf
   exact⟨(c==11),h,wk [0] []⟩
  conv=>whnf
  exact⟨(c==12),h,wk [0] []⟩
 conv=>whnf
 apply ifc h<;>intro a h
 ·conv=>whnf
  exact⟨(c==2),h,wk [0] []⟩
 conv=>whnf
 exact⟨(c==3),h,wk [0] []⟩
abbrev Gu (r:Bool):PV:=PV.bool r
def gp (n:Nat) (b d:List SS):LK (Int) (Bool):=fun c a=>
 bif(decide (a<((qi b).length:Int)))then(
 bnd (idx b a) fun e=>
 bnd (idx d a) fun f=>
 bif(!(e==f))then(
 some false)
 else(
 c (kwr .i64 (a+1))))
 else(
 some true)
def xS (n:Nat) (a b:List SS):Option (Bool):=
 bif(((qi a).length:Int) != ((qi b).length:Int))then(
 some false)
 else(
 qA (gp n a b) n (0:Int))
theorem uk (n:Nat):∀ (a b:List SS) (r:Bool),xS n a b=some r->qc TP 29 [PV.sl (qi a),PV.sl (qi b)] (Gu r):=by
 intro a b r h;unfold xS at h;refine zN Tryz.call29 Tryz.func29 [1000000] ?_;conv=>whnf
 apply ifc h<;>intro d h
 ·obtain rfl:=sj h
  conv=>whnf
  try exact fin
 conv=>whnf
 refine zj.fn [1000000] (S:=Int) (fun c=>[(0,pT a),(1,pT b),(5,pI c)]) (fun c=>[]) (B:=gp n a b) h (wk [] []) ?_;intro _ c h;unfold gp at h;conv=>whnf
 apply ifc h<;>intro d h
 ·conv=>whnf
  refine bq h fun _ f h=>⟨_,Codec.at_ ca f,?_⟩;conv=>whnf
  refine bq h fun _ e h=>⟨_,Codec.at_ ca e,?_⟩;conv=>whnf
  apply ifc h<;>intro d h
  ·obtain rfl:=sj h
   conv=>whnf
   try exact fin
  conv=>whnf
  exact⟨(kwr .i64 (c+1)),h,wk [] []⟩
 obtain rfl:=sj h;conv=>whnf
 try exact fin
abbrev nP (r:Bool):PV:=PV.bool r
abbrev qdh:Type:=Val->Val->Option (Bool)
abbrev qe2:Type:=(List Val)->(List Val)->Option (Bool)
def Qz (n:Nat) (g14:qdh) (g30:qe2) (k l:Val):Option (Bool):=
 match k,l with
 | ⟨a,c,d,e,q,s⟩,⟨f,g,i,b,m,o⟩=>
 bnd (qE (bif(bif(bif(a==f)then(c==g)else false)then(d==i)else false)then(e==b)else false) (xS n s o)) fun j=>
 bnd (qE (bif(bif(bif(bif(a==f)then(c==g)else false)then(d==i)else false)then(e==b)else false)then j else false) (g30 q m)) fun p=>
 some (bif(bif(bif(bif(bif(a==f)then(c==g)else false)then(d==i)else false)then(e==b)else false)then j else false)then p else false)
abbrev dO (r:Bool):PV:=PV.bool r
def gW (n:Nat) (b l:List Val) (g14:qdh):LK (Int) (Bool):=fun c a=>
 bif(decide (a<((Val.rows b).length:Int)))then(
 bnd (idx b a) fun⟨m,o,p,q,s,t⟩=>
 bnd (idx l a) fun⟨d,e,f,g,i,j⟩=>
 bnd (g14 (Val.mk m o p q s t) (Val.mk d e f g i j)) fun k=>
 bif(!k)then(
 some false)
 else(
 c (kwr .i64 (a+1))))
 else(
 some true)
def bD (n:Nat) (g14:qdh) (g30:qe2) (a b:List Val):Option (Bool):=
 bif(((Val.rows a).length:Int) != ((Val.rows b).length:Int))then(
 some false)
 else(
 qA (gW n a b g14) n (0:Int))
theorem Dc (n:Nat) (g14:qdh) (g30:qe2) (g14_ok:∀ (a b:Val) (r:Bool),g14 a b=some r->qc TP 14 [PV.agg (qS.cells a),PV.agg (qS.cells b)] (nP r)) (g30_ok:∀ (d e:List Val) (r:Bool),g30 d e=some r->qc TP 30 [PV.sl (Val.rows d),PV.sl (Val.rows e)] (dO r)):∀ (a b:Val) (r:Bool),Qz n g14 g30 a b=some r->qc TP 14 [PV.agg (qS.cells a),PV.agg (qS.cells b)] (nP r):=by
 intro a b r h;obtain⟨d,e,_,_,_,_⟩:=a;obtain⟨_,_,_,_,_,_⟩:=b;unfold Qz at h;refine zN Tryz.call14 Tryz.func14 [1000000] ?_;conv=>whnf
 iterate 19 refine⟨id,?_⟩
 conv=>whnf
 refine bq h fun _ g h=>⟨_,fun c=>(uk n _ _ _ (qb g c)),?_⟩;conv=>whnf
 refine⟨id,id,id,id,id,?_⟩;conv=>whnf
 refine bq h fun _ f h=>⟨_,fun c=>(g30_ok _ _ _ (qb f c)),?_⟩;conv=>whnf
 refine⟨id,?_⟩;obtain rfl:=sj h;conv=>whnf
 try exact fin
theorem Uf (n:Nat) (g14:qdh) (g30:qe2) (g14_ok:∀ (d e:Val) (r:Bool),g14 d e=some r->qc TP 14 [PV.agg (qS.cells d),PV.agg (qS.cells e)] (nP r)) (g30_ok:∀ (a b:List Val) (r:Bool),g30 a b=some r->qc TP 30 [PV.sl (Val.rows a),PV.sl (Val.rows b)] (dO r)):∀ (a b:List Val) (r:Bool),bD n g14 g30 a b=some r->qc TP 30 [PV.sl (Val.rows a),PV.sl (Val.rows b)] (dO r):=by
 intro a b r h;unfold bD at h;refine zN Tryz.call30 Tryz.func30 [1000000] ?_;conv=>whnf
 apply ifc h<;>intro f h
 ·obtain rfl:=sj h
  conv=>whnf
  try exact fin
 conv=>whnf
 refine zj.fn [1000000] (S:=Int) (fun c=>[(0,pV a),(1,pV b),(5,pI c)]) (fun c=>[]) (B:=gW n a b g14) h (wk [] []) ?_;intro _ c h;unfold gW at h;conv=>whnf
 apply ifc h<;>intro f h
 ·conv=>whnf
  refine bq h fun⟨_,_,_,_,_,_⟩ j h=>⟨_,Codec.at_ qS j,?_⟩;conv=>whnf
  refine bq h fun⟨_,_,_,_,_,_⟩ i h=>⟨_,Codec.at_ qS i,?_⟩;conv=>whnf
  refine bq h fun _ g h=>⟨_,(g14_ok _ _ _ g),?_⟩;conv=>whnf
  apply ifc h<;>intro f h
  ·obtain rfl:=sj h
   conv=>whnf
   try exact fin
  conv=>whnf
  exact⟨(kwr .i64 (c+1)),h,wk [] []⟩
 obtain rfl:=sj h;conv=>whnf
 try exact fin
mutual
def xp:Nat->Val->Val->Option (Bool)
 | 0=>fun _ _=>none
 | n+1=>Qz n (xp n) (gD n)
def gD:Nat->(List Val)->(List Val)->Option (Bool)
 | 0=>fun _ _=>none
 | n+1=>bD n (xp n) (gD n)
end
theorem Di (n:Nat):(∀ (a b:Val) (r:Bool),xp n a b=some r->qc TP 14 [PV.agg (qS.cells a),PV.agg (qS.cells b)] (nP r))/\(∀ (c d:List Val) (r:Bool),gD n c d=some r->qc TP 30 [PV.sl (Val.rows c),PV.sl (Val.rows d)] (dO r)):=by
 induction n with
 | zero=>exact⟨(by intros; rename_i h; cases h),(by intros; rename_i h; cases h)⟩
 | succ n ih=>
  obtain⟨hg14,hg30⟩:=ih;exact⟨Dc n (xp n) (gD n) hg14 hg30,Uf n (xp n) (gD n) hg14 hg30⟩
theorem uA (n:Nat):∀ (a b:Val) (r:Bool),xp n a b=some r->qc TP 14 [PV.agg (qS.cells a),PV.agg (qS.cells b)] (nP r):=(Di n).1
end W
end
section
set_option maxRecDepth 100000
set_option maxHeartbeats 4000000
open Go Go.Proofs Ax
namespace W
abbrev th (r:Bool):PV:=PV.bool r
def pJ (n:Nat) (b:List qa) (g8:qa->Int->Option (Bool)) (d:Int):LK (Int) (Bool):=fun c a=>
 bif(decide (a<((qa.rows b).length:Int)))then(
 bnd (idx b a) fun⟨e,f,⟨g,i,j,k,l,m⟩,o,p⟩=>
 bnd (g8 (qa.mk e f (Val.mk g i j k l m) o p) (kwr .i64 (d - 1))) fun q=>
 bif(!q)then(
 some false)
 else(
 c (kwr .i64 (a+1))))
 else(
 some true)
def rH (n:Nat) (g8:qa->Int->Option (Bool)) (m:qa) (b:Int):Option (Bool):=
 match m with
 | ⟨a,p,⟨e,f,g,i,j,k⟩,l,c⟩=>
 bnd (qE (!(decide (b<1))) (rR n (qa.mk a p (Val.mk e f g i j k) l c))) fun d=>
 bnd (qE ((!(bif(decide (b<1))then true else(!d)))&&(a != 1)) (xp n (Val.mk e f g i j k) (Val.mk (0:Int) false (0:Int) ([]:SS) ([]:List Val) ([]:List SS)))) fun o=>
 bif(bif(bif(bif(decide (b<1))then true else(!d))then true else(bif(a != 1)then(!o)else false))then true else(bif(a != 6)then(decide (((qi l).length:Int)>0))else false))then(
 some false)
 else(
 qA (pJ n c g8 b) n (0:Int))
theorem Dd (n:Nat) (g8:qa->Int->Option (Bool)) (g8_ok:∀ (b:qa) (a:Int) (r:Bool),g8 b a=some r->qc TP 8 [PV.agg (zx.cells b),PV.int .i64 a] (th r)):∀ (b:qa) (a:Int) (r:Bool),rH n g8 b a=some r->qc TP 8 [PV.agg (zx.cells b),PV.int .i64 a] (th r):=by
 intro b a r h;obtain⟨l,m,⟨o,p,q,s,t,u⟩,v,f⟩:=b;unfold rH at h;refine zN Tryz.call8 Tryz.func8 [1000000] ?_;conv=>whnf
 refine⟨id,?_⟩;conv=>whnf
 refine bq h fun _ k h=>⟨_,fun d=>(Dr n _ _ (qb k d)),?_⟩;conv=>whnf
 iterate 8 refine⟨id,?_⟩
 conv=>whnf
 refine bq h fun _ j h=>⟨_,fun d=>(qc.leArgs (uA n _ _ _ (qb j d)) (by try exact fin)),?_⟩;conv=>whnf
 iterate 13 refine⟨id,?_⟩
 conv=>whnf
 apply ifc h<;>intro e h
 ·obtain rfl:=sj h
  conv=>whnf
  try exact fin
 conv=>whnf
 refine zj.fn [1000000] (S:=Int) (fun c=>[(1,pI a),(2,.ptr 0 0),(5,pI c)]) (fun c=>[.box 28 [pI l,pS m,pI o,pB p,pI q,pS s,pV t,pT u,pT v,pE f]]) (B:=pJ n f g8 a) h (wk [0] []) ?_;intro _ c h;unfold pJ at h;conv=>whnf
 apply ifc h<;>intro e h
 ·conv=>whnf
  refine bq h fun⟨_,_,⟨_,_,_,_,_,_⟩,_,_⟩ i h=>⟨_,Codec.at_ zx i,?_⟩;conv=>whnf
  refine bq h fun _ g h=>⟨_,(g8_ok _ _ _ g),?_⟩;conv=>whnf
  apply ifc h<;>intro e h
  ·obtain rfl:=sj h
   conv=>whnf
   try exact fin
  conv=>whnf
  exact⟨(kwr .i64 (c+1)),h,wk [0] []⟩
 obtain rfl:=sj h;conv=>whnf
 try exact fin
def gk:Nat->qa->Int->Option (Bool)
 | 0=>fun _ _=>none
 | n+1=>rH n (gk n)
theorem Dn (n:Nat):(∀ (a:qa) (b:Int) (r:Bool),gk n a b=some r->qc TP 8 [PV.agg (zx.cells a),PV.int .i64 b] (th r)):=by
 induction n with
 | zero=>exact(by intros; rename_i h; cases h)
 | succ n ih=>
  have hg8:=ih;exact Dd n (gk n) hg8
theorem bL (n:Nat):∀ (a:qa) (b:Int) (r:Bool),gk n a b=some r->qc TP 8 [PV.agg (zx.cells a),PV.int .i64 b] (th r):=(Dn n)
abbrev DZ (r:Bool):PV:=PV.bool r
def bY (n:Nat) (a:List Val) (d:List SS):LK (Int) (Bool):=fun c b=>
 bif(decide (b<((Val.rows a).length:Int)))then(
 bnd (idx a b) fun⟨f,g,i,j,k,l⟩=>
 bnd (gm n (Val.mk f g i j k l)) fun e=>
 bif(!e)then(
 some false)
 else(
 c (kwr .i64 (b+1))))
 else(
 some (((qi d).length:Int)==((Val.rows a).length:Int)))
def nK (n:Nat) (a:Env):Option (Bool):=
 match a with
 | ⟨b,c⟩=>
 qA (bY n c b) n (0:Int)
theorem CS (n:Nat):∀ (a:Env) (r:Bool),nK n a=some r->qc TP 25 [PV.agg (qgb.cells a)] (DZ r):=by
 intro a r h;obtain⟨c,d⟩:=a;unfold nK at h;refine zN Tryz.call25 Tryz.func25 [1000000] ?_;conv=>whnf
 refine zj.fn [1000000] (S:=Int) (fun b=>[(1,.ptr 0 0),(3,pI b)]) (fun b=>[.box 30 [pT c,pV d]]) (B:=bY n d c) h (wk [0] []) ?_;intro _ b h;unfold bY at h;conv=>whnf
 apply ifc h<;>intro g h
 ·conv=>whnf
  refine bq h fun⟨_,_,_,_,_,_⟩ f h=>⟨_,Codec.at_ qS f,?_⟩;conv=>whnf
  refine bq h fun _ e h=>⟨_,(bf n _ _ e),?_⟩;conv=>whnf
  apply ifc h<;>intro g h
  ·obtain rfl:=sj h
   conv=>whnf
   try exact fin
  conv=>whnf
  exact⟨(kwr .i64 (b+1)),h,wk [0] []⟩
 obtain rfl:=sj h;conv=>whnf
 try exact fin
abbrev DY (r:Bool):PV:=PV.bool r
def bX (n:Nat) (b:List SS):LK (Int) (Bool):=fun f a=>
 bif(decide (a<((qi b).length:Int)))then(
 bnd (idx b a) fun g=>
 bnd (gu n g) fun c=>
 bnd (qE ((!(!c))&&(decide (a>0))) (idx b a)) fun d=>
 bnd (qE ((!(!c))&&(decide (a>0))) (idx b (kwr .i64 (a - 1)))) fun e=>
 bif(bif(!c)then true else(bif(decide (a>0))then(Op.bytesLess d e||d==e)else false))then(
 some false)
 else(
 f (kwr .i64 (a+1))))
 else(
 some true)
def bk (n:Nat) (a:List SS):Option (Bool):=
 qA (bX n a) n (0:Int)
theorem Xo (n:Nat):∀ (a:List SS) (r:Bool),bk n a=some r->qc TP 69 [PV.sl (qi a)] (DY r):=by
 intro a r h;unfold bk at h;refine zN Tryz.call69 Tryz.func69 [1000000] ?_;conv=>whnf
 refine zj.fn [1000000] (S:=Int) (fun b=>[(0,pT a),(3,pI b)]) (fun b=>[]) (B:=bX n a) h (wk [] []) ?_;intro _ b h;unfold bX at h;conv=>whnf
 apply ifc h<;>intro i h
 ·conv=>whnf
  refine bq h fun _ g h=>⟨_,Codec.at_ ca g,?_⟩;conv=>whnf
  refine bq h fun _ f h=>⟨_,(ue n _ _ f),?_⟩;conv=>whnf
  refine⟨id,id,id,id,?_⟩;conv=>whnf
  refine bq h fun _ e h=>⟨_,fun c=>Codec.at_ ca (qb e c),?_⟩;conv=>whnf
  refine⟨id,id,id,id,?_⟩;conv=>whnf
  refine bq h fun _ d h=>⟨_,fun c=>Codec.at_ ca (qb d c),?_⟩;conv=>whnf
  iterate 6 refine⟨id,?_⟩
  conv=>whnf
  apply ifc h<;>intro i h
  ·obtain rfl:=sj h
   conv=>whnf
   try exact fin
  conv=>whnf
  exact⟨(kwr .i64 (b+1)),h,wk [] []⟩
 obtain rfl:=sj h;conv=>whnf
 try exact fin
abbrev pY (r:Bool):PV:=PV.bool r
def na (n:Nat) (b:List Val) (g32:Val->Option (Bool)):LK (Int) (Bool):=fun c a=>
 bif(decide (a<((Val.rows b).length:Int)))then(
 bnd (idx b a) fun⟨j,k,d,e,f,g⟩=>
 bnd (g32 (Val.mk j k d e f g)) fun i=>
 bif(!i)then(
 some false)
 else(
 c (kwr .i64 (a+1))))
 else(
 some true)
def nE (n:Nat) (g32:Val->Option (Bool)) (b:Val):Option (Bool):=
 match b with
 | ⟨a,_,_,_,c,_⟩=>
 bif(bif(a==6)then true else(a==7))then(
 some false)
 else(
 qA (na n c g32) n (0:Int))
theorem Cw (n:Nat) (g32:Val->Option (Bool)) (g32_ok:∀ (a:Val) (r:Bool),g32 a=some r->qc TP 32 [PV.agg (qS.cells a)] (pY r)):∀ (a:Val) (r:Bool),nE n g32 a=some r->qc TP 32 [PV.agg (qS.cells a)] (pY r):=by
 intro a r h;obtain⟨g,i,j,k,d,l⟩:=a;unfold nE at h;refine zN Tryz.call32 Tryz.func32 [1000000] ?_;conv=>whnf
 refine⟨id,id,id,?_⟩;conv=>whnf
 apply ifc h<;>intro c h
 ·obtain rfl:=sj h
  conv=>whnf
  try exact fin
 conv=>whnf
 refine zj.fn [1000000] (S:=Int) (fun b=>[(1,.ptr 0 0),(3,pI b)]) (fun b=>[.box 25 [pI g,pB i,pI j,pS k,pV d,pT l]]) (B:=na n d g32) h (wk [0] []) ?_;intro _ b h;unfold na at h;conv=>whnf
 apply ifc h<;>intro c h
 ·conv=>whnf
  refine bq h fun⟨_,_,_,_,_,_⟩ f h=>⟨_,Codec.at_ qS f,?_⟩;conv=>whnf
  refine bq h fun _ e h=>⟨_,(g32_ok _ _ e),?_⟩;conv=>whnf
  apply ifc h<;>intro c h
  ·obtain rfl:=sj h
   conv=>whnf
   try exact fin
  conv=>whnf
  exact⟨(kwr .i64 (b+1)),h,wk [0] []⟩
 obtain rfl:=sj h;conv=>whnf
 try exact fin
def fo:Nat->Val->Option (Bool)
 | 0=>fun _=>none
 | n+1=>nE n (fo n)
theorem CJ (n:Nat):(∀ (a:Val) (r:Bool),fo n a=some r->qc TP 32 [PV.agg (qS.cells a)] (pY r)):=by
 induction n with
 | zero=>exact(by intros; rename_i h; cases h)
 | succ n ih=>
  have hg32:=ih;exact Cw n (fo n) hg32
theorem Vu (n:Nat):∀ (a:Val) (r:Bool),fo n a=some r->qc TP 32 [PV.agg (qS.cells a)] (pY r):=(CJ n)
abbrev FT (r:Bool):PV:=PV.bool r
def dw (n:Nat) (i:Val):Option (Bool):=
 match i with
 | ⟨a,b,c,d,e,f⟩=>
 bnd (qE (a != 0) (gm n (Val.mk a b c d e f))) fun g=>
 bnd (qE (bif(a != 0)then g else false) (fo n (Val.mk a b c d e f))) fun j=>
 some (bif(bif(a != 0)then g else false)then j else false)
theorem Gk (n:Nat):∀ (a:Val) (r:Bool),dw n a=some r->qc TP 115 [PV.agg (qS.cells a)] (FT r):=by
 intro a r h;obtain⟨_,_,_,_,_,_⟩:=a;unfold dw at h;refine zN Tryz.call115 Tryz.func115 [1000000] ?_;conv=>whnf
 refine⟨id,?_⟩;conv=>whnf
 refine bq h fun _ d h=>⟨_,fun b=>(bf n _ _ (qb d b)),?_⟩;conv=>whnf
 refine⟨id,id,?_⟩;conv=>whnf
 refine bq h fun _ c h=>⟨_,fun b=>(Vu n _ _ (qb c b)),?_⟩;conv=>whnf
 refine⟨id,?_⟩;obtain rfl:=sj h;conv=>whnf
 try exact fin
abbrev HT (r:Bool):PV:=PV.bool r
def nh (n:Nat) (a:List Val) (b:List SS):LK (Int) (Bool):=fun d c=>
 bif(decide (c<((Val.rows a).length:Int)))then(
 bnd (idx a c) fun⟨g,i,j,k,l,m⟩=>
 bnd (dw n (Val.mk g i j k l m)) fun e=>
 bif(!e)then(
 some false)
 else(
 d (kwr .i64 (c+1))))
 else(
 bnd (qE (((qi b).length:Int)==((Val.rows a).length:Int)) (bk n b)) fun f=>
 some (bif(((qi b).length:Int)==((Val.rows a).length:Int))then f else false))
def mJ (n:Nat) (a:List SS) (b:List Val):Option (Bool):=
 qA (nh n b a) n (0:Int)
theorem Vw (n:Nat):∀ (a:List SS) (b:List Val) (r:Bool),mJ n a b=some r->qc TP 70 [PV.sl (qi a),PV.sl (Val.rows b)] (HT r):=by
 intro a b r h;unfold mJ at h;refine zN Tryz.call70 Tryz.func70 [1000000] ?_;conv=>whnf
 refine zj.fn [1000000] (S:=Int) (fun c=>[(0,pT a),(1,pV b),(5,pI c)]) (fun c=>[]) (B:=nh n b a) h (wk [] []) ?_;intro _ c h;unfold nh at h;conv=>whnf
 apply ifc h<;>intro g h
 ·conv=>whnf
  refine bq h fun⟨_,_,_,_,_,_⟩ e h=>⟨_,Codec.at_ qS e,?_⟩;conv=>whnf
  refine bq h fun _ d h=>⟨_,(Gk n _ _ d),?_⟩;conv=>whnf
  apply ifc h<;>intro g h
  ·obtain rfl:=sj h
   conv=>whnf
   try exact fin
  conv=>whnf
  exact⟨(kwr .i64 (c+1)),h,wk [] []⟩
 conv=>whnf
 refine⟨id,?_⟩;conv=>whnf
 refine bq h fun _ f h=>⟨_,fun i=>(Xo n _ _ (qb f i)),?_⟩;conv=>whnf
 refine⟨id,?_⟩;obtain rfl:=sj h;conv=>whnf
 try exact fin
abbrev Bh (r:Bool):PV:=PV.bool r
def bV (n:Nat) (c:Node):Option (Bool):=
 match c with
 | ⟨a,d,e,f⟩=>
 bnd (qE (decide (a≥1)) (bk n d)) fun b=>
 bnd (qE (bif(decide (a≥1))then b else false) (mJ n e f)) fun g=>
 some (bif(bif(decide (a≥1))then b else false)then g else false)
theorem FA (n:Nat):∀ (a:Node) (r:Bool),bV n a=some r->qc TP 42 [PV.agg (Vs.cells a)] (Bh r):=by
 intro a r h;obtain⟨_,_,_,_⟩:=a;unfold bV at h;refine zN Tryz.call42 Tryz.func42 [1000000] ?_;conv=>whnf
 refine⟨id,id,?_⟩;conv=>whnf
 refine bq h fun _ d h=>⟨_,fun b=>(Xo n _ _ (qb d b)),?_⟩;conv=>whnf
 refine⟨id,id,id,id,id,?_⟩;conv=>whnf
 refine bq h fun _ c h=>⟨_,fun b=>(Vw n _ _ _ (qb c b)),?_⟩;conv=>whnf
 refine⟨id,?_⟩;obtain rfl:=sj h;conv=>whnf
 try exact fin
abbrev Bg (r:Bool):PV:=PV.bool r
def bU (n:Nat) (c:Edge):Option (Bool):=
 match c with
 | ⟨a,_,_,d,e,f⟩=>
 bnd (qE (decide (a≥1)) (gu n d)) fun b=>
 bnd (qE (bif(decide (a≥1))then b else false) (mJ n e f)) fun g=>
 some (bif(bif(decide (a≥1))then b else false)then g else false)
theorem Fz (n:Nat):∀ (a:Edge) (r:Bool),bU n a=some r->qc TP 43 [PV.agg (GF.cells a)] (Bg r):=by
 intro a r h;obtain⟨_,_,_,_,_,_⟩:=a;unfold bU at h;refine zN Tryz.call43 Tryz.func43 [1000000] ?_;conv=>whnf
 refine⟨id,id,?_⟩;conv=>whnf
 refine bq h fun _ d h=>⟨_,fun b=>(ue n _ _ (qb d b)),?_⟩;conv=>whnf
 refine⟨id,id,id,id,id,?_⟩;conv=>whnf
 refine bq h fun _ c h=>⟨_,fun b=>(Vw n _ _ _ (qb c b)),?_⟩;conv=>whnf
 refine⟨id,?_⟩;obtain rfl:=sj h;conv=>whnf
 try exact fin
abbrev DX (r:Int):PV:=PV.int .i64 r
def bW (n:Nat) (b:List Node) (d:Int):LK (Int) (Int):=fun c a=>
 bif(decide (a<((Node.rows b).length:Int)))then(
 bnd (idx b a) fun⟨e,_,_,_⟩=>
 bif(e==d)then(
 some a)
 else(
 c (kwr .i64 (a+1))))
 else(
 some (-1:Int))
def bj (n:Nat) (a:Graph) (c:Int):Option (Int):=
 match a with
 | ⟨b,_⟩=>
 qA (bW n b c) n (0:Int)
theorem Xn (n:Nat):∀ (b:Graph) (a r:Int),bj n b a=some r->qc TP 44 [PV.agg (EK.cells b),PV.int .i64 a] (DX r):=by
 intro b a r h;obtain⟨d,g⟩:=b;unfold bj at h;refine zN Tryz.call44 Tryz.func44 [1000000] ?_;conv=>whnf
 refine zj.fn [1000000] (S:=Int) (fun c=>[(1,pI a),(2,.ptr 0 0),(5,pI c)]) (fun c=>[.box 34 [.p (.sl (Node.rows d)),.p (.sl (Edge.rows g))]]) (B:=bW n d a) h (wk [0] []) ?_;intro _ c h;unfold bW at h;conv=>whnf
 apply ifc h<;>intro f h
 ·conv=>whnf
  refine bq h fun⟨_,_,_,_⟩ e h=>⟨_,Codec.at_ Vs e,?_⟩;conv=>whnf
  apply ifc h<;>intro f h
  ·obtain rfl:=sj h
   conv=>whnf
   try exact fin
  conv=>whnf
  exact⟨(kwr .i64 (c+1)),h,wk [0] []⟩
 obtain rfl:=sj h;conv=>whnf
 try exact fin
abbrev Px (r:Bool):PV:=PV.bool r
def td (n:Nat) (b:List Edge) (e:List Node):LK (Int) (Bool):=fun k a=>
 bif(decide (a<((Edge.rows b).length:Int)))then(
 bnd (idx b a) fun⟨c,g,i,l,m,o⟩=>
 bnd (bU n (Edge.mk c g i l m o)) fun d=>
 bnd (qE ((!(!d))&&(decide (a>0))) (idx b (kwr .i64 (a - 1)))) fun⟨f,_,_,_,_,_⟩=>
 bnd (qE (!(bif(!d)then true else(bif(decide (a>0))then(decide (c<=f))else false))) (bj n (Graph.mk e b) g)) fun j=>
 bnd (qE (!(bif(bif(!d)then true else(bif(decide (a>0))then(decide (c<=f))else false))then true else(decide (j<0)))) (bj n (Graph.mk e b) i)) fun p=>
 bif(bif(bif(bif(!d)then true else(bif(decide (a>0))then(decide (c<=f))else false))then true else(decide (j<0)))then true else(decide (p<0)))then(
 some false)
 else(
 k (kwr .i64 (a+1))))
 else(
 some (bif(decide (((Node.rows e).length:Int)<=4096))then(decide (((Edge.rows b).length:Int)<=4096))else false))
def tc (n:Nat) (b:List Node) (f:List Edge):LK (Int) (Bool):=fun d a=>
 bif(decide (a<((Node.rows b).length:Int)))then(
 bnd (idx b a) fun⟨g,i,j,k⟩=>
 bnd (bV n (Node.mk g i j k)) fun c=>
 bnd (qE ((!(!c))&&(decide (a>0))) (idx b a)) fun⟨l,_,_,_⟩=>
 bnd (qE ((!(!c))&&(decide (a>0))) (idx b (kwr .i64 (a - 1)))) fun⟨e,_,_,_⟩=>
 bif(bif(!c)then true else(bif(decide (a>0))then(decide (l<=e))else false))then(
 some false)
 else(
 d (kwr .i64 (a+1))))
 else(
 qA (td n f b) n (0:Int))
def Xm (n:Nat) (a:Graph):Option (Bool):=
 match a with
 | ⟨b,c⟩=>
 qA (tc n b c) n (0:Int)
theorem Mm (n:Nat):∀ (b:Graph) (r:Bool),Xm n b=some r->qc TP 26 [PV.agg (EK.cells b)] (Px r):=by
 intro b r h;obtain⟨c,e⟩:=b;unfold Xm at h;refine zN Tryz.call26 Tryz.func26 [1000000] ?_;conv=>whnf
 refine zj.fn [1000000] (S:=Int) (fun f=>[(1,.ptr 0 0),(3,pI f)]) (fun f=>[.box 34 [.p (.sl (Node.rows c)),.p (.sl (Edge.rows e))]]) (B:=tc n c e) h (wk [0] []) ?_;intro _ f h;unfold tc at h;conv=>whnf
 apply ifc h<;>intro g h
 ·conv=>whnf
  refine bq h fun⟨_,_,_,_⟩ l h=>⟨_,Codec.at_ Vs l,?_⟩;conv=>whnf
  refine bq h fun _ k h=>⟨_,(FA n _ _ k),?_⟩;conv=>whnf
  refine⟨id,id,id,id,id,?_⟩;conv=>whnf
  refine bq h fun⟨_,_,_,_⟩ j h=>⟨_,fun a=>Codec.at_ Vs (qb j a),?_⟩;conv=>whnf
  iterate 6 refine⟨id,?_⟩
  conv=>whnf
  refine bq h fun⟨_,_,_,_⟩ i h=>⟨_,fun a=>Codec.at_ Vs (qb i a),?_⟩;conv=>whnf
  iterate 7 refine⟨id,?_⟩
  conv=>whnf
  apply ifc h<;>intro g h
  ·obtain rfl:=sj h
   conv=>whnf
   try exact fin
  conv=>whnf
  exact⟨(kwr .i64 (f+1)),h,wk [0] []⟩
 conv=>whnf
 refine zj.fn [1000000] (S:=Int) (fun d=>[(1,.ptr 0 0),(4,pI d)]) (fun d=>[.box 34 [.p (.sl (Node.rows c)),.p (.sl (Edge.rows e))]]) (B:=td n e c) h (wk [0] []) ?_;intro _ d h;unfold td at h;conv=>whnf
 apply ifc h<;>intro g h
 ·conv=>whnf
  refine bq h fun⟨_,_,_,_,_,_⟩ t h=>⟨_,Codec.at_ GF t,?_⟩;conv=>whnf
  refine bq h fun _ s h=>⟨_,(Fz n _ _ s),?_⟩;conv=>whnf
  iterate 7 refine⟨id,?_⟩
  conv=>whnf
  refine bq h fun⟨_,_,_,_,_,_⟩ q h=>⟨_,fun a=>Codec.at_ GF (qb q a),?_⟩;conv=>whnf
  iterate 10 refine⟨id,?_⟩
  conv=>whnf
  refine bq h fun _ o h=>⟨_,fun a=>(Xn n _ _ _ (qb o a)),?_⟩;conv=>whnf
  refine⟨id,id,id,id,id,?_⟩;conv=>whnf
  refine bq h fun _ m h=>⟨_,fun a=>(Xn n _ _ _ (qb m a)),?_⟩;conv=>whnf
  refine⟨id,id,?_⟩;conv=>whnf
  apply ifc h<;>intro g h
  ·obtain rfl:=sj h
   conv=>whnf
   try exact fin
  conv=>whnf
  exact⟨(kwr .i64 (d+1)),h,wk [0] []⟩
 conv=>whnf
 refine⟨id,id,id,id,?_⟩;obtain rfl:=sj h;conv=>whnf
 try exact fin
abbrev MC (r:Bool):PV:=PV.bool r
def pQ (n:Nat) (b:List Edge):LK (Int) (Bool):=fun c a=>
 bif(decide (a<((Edge.rows b).length:Int)))then(
 bnd (idx b a) fun⟨_,_,_,_,d,_⟩=>
 bif(decide (((qi d).length:Int)>1000))then(
 some false)
 else(
 c (kwr .i64 (a+1))))
 else(
 some true)
def pM (n:Nat) (b:List Node) (f:List Edge):LK (Int) (Bool):=fun d a=>
 bif(decide (a<((Node.rows b).length:Int)))then(
 bnd (idx b a) fun⟨_,c,_,_⟩=>
 bnd (qE (!(decide (((qi c).length:Int)>1000))) (idx b a)) fun⟨_,_,e,_⟩=>
 bif(bif(decide (((qi c).length:Int)>1000))then true else(decide (((qi e).length:Int)>1000)))then(
 some false)
 else(
 d (kwr .i64 (a+1))))
 else(
 qA (pQ n f) n (0:Int))
def Qg (n:Nat) (a:Graph):Option (Bool):=
 match a with
 | ⟨b,c⟩=>
 qA (pM n b c) n (0:Int)
theorem Hy (n:Nat):∀ (a:Graph) (r:Bool),Qg n a=some r->qc TP 27 [PV.agg (EK.cells a)] (MC r):=by
 intro a r h;obtain⟨f,c⟩:=a;unfold Qg at h;refine zN Tryz.call27 Tryz.func27 [1000000] ?_;conv=>whnf
 refine zj.fn [1000000] (S:=Int) (fun d=>[(1,.ptr 0 0),(3,pI d)]) (fun d=>[.box 34 [.p (.sl (Node.rows f)),.p (.sl (Edge.rows c))]]) (B:=pM n f c) h (wk [0] []) ?_;intro _ d h;unfold pM at h;conv=>whnf
 apply ifc h<;>intro e h
 ·conv=>whnf
  refine bq h fun⟨_,_,_,_⟩ i h=>⟨_,Codec.at_ Vs i,?_⟩;conv=>whnf
  refine⟨id,id,id,?_⟩;conv=>whnf
  refine bq h fun⟨_,_,_,_⟩ g h=>⟨_,fun k=>Codec.at_ Vs (qb g k),?_⟩;conv=>whnf
  refine⟨id,id,id,id,id,?_⟩;conv=>whnf
  apply ifc h<;>intro e h
  ·obtain rfl:=sj h
   conv=>whnf
   try exact fin
  conv=>whnf
  exact⟨(kwr .i64 (d+1)),h,wk [0] []⟩
 conv=>whnf
 refine zj.fn [1000000] (S:=Int) (fun b=>[(1,.ptr 0 0),(4,pI b)]) (fun b=>[.box 34 [.p (.sl (Node.rows f)),.p (.sl (Edge.rows c))]]) (B:=pQ n c) h (wk [0] []) ?_;intro _ b h;unfold pQ at h;conv=>whnf
 apply ifc h<;>intro e h
 ·conv=>whnf
  refine bq h fun⟨_,_,_,_,_,_⟩ j h=>⟨_,Codec.at_ GF j,?_⟩;conv=>whnf
  apply ifc h<;>intro e h
  ·obtain rfl:=sj h
   conv=>whnf
   try exact fin
  conv=>whnf
  exact⟨(kwr .i64 (b+1)),h,wk [0] []⟩
 obtain rfl:=sj h;conv=>whnf
 try exact fin
abbrev Gx (r:Bool):PV:=PV.bool r
def uS (n:Nat) (i:Val):Option (Bool):=
 match i with
 | ⟨a,b,c,d,e,f⟩=>
 bnd (qE (a==5) (gm n (Val.mk a b c d e f))) fun g=>
 bnd (qE (bif(a==5)then g else false) (fo n (Val.mk a b c d e f))) fun j=>
 some (bif(bif(a==5)then g else false)then j else false)
theorem te (n:Nat):∀ (a:Val) (r:Bool),uS n a=some r->qc TP 19 [PV.agg (qS.cells a)] (Gx r):=by
 intro a r h;obtain⟨_,_,_,_,_,_⟩:=a;unfold uS at h;refine zN Tryz.call19 Tryz.func19 [1000000] ?_;conv=>whnf
 refine⟨id,?_⟩;conv=>whnf
 refine bq h fun _ d h=>⟨_,fun b=>(bf n _ _ (qb d b)),?_⟩;conv=>whnf
 refine⟨id,id,?_⟩;conv=>whnf
 refine bq h fun _ c h=>⟨_,fun b=>(Vu n _ _ (qb c b)),?_⟩;conv=>whnf
 refine⟨id,?_⟩;obtain rfl:=sj h;conv=>whnf
 try exact fin
abbrev Gq (r:Bool):PV:=PV.bool r
def ud (n:Nat) (f:vK):Option (Bool):=
 match f with
 | ⟨⟨g,k⟩,⟨d,e⟩,⟨l,m,o,p,q,i⟩⟩=>
 bnd (nK n (Env.mk g k)) fun a=>
 bnd (qE a (Xm n (Graph.mk d e))) fun b=>
 bnd (qE (bif a then b else false) (Qg n (Graph.mk d e))) fun c=>
 bnd (qE (bif(bif a then b else false)then c else false) (uS n (Val.mk l m o p q i))) fun j=>
 some (bif(bif(bif a then b else false)then c else false)then j else false)
theorem cb (n:Nat):∀ (b:vK) (r:Bool),ud n b=some r->qc TP 9 [PV.agg (Bp.cells b)] (Gq r):=by
 intro b r h;obtain⟨⟨_,_⟩,⟨_,_⟩,⟨_,_,_,_,_,_⟩⟩:=b;unfold ud at h;refine zN Tryz.call9 Tryz.func9 [1000000] ?_;conv=>whnf
 refine bq h fun _ f h=>⟨_,(CS n _ _ f),?_⟩;conv=>whnf
 refine⟨id,id,?_⟩;conv=>whnf
 refine bq h fun _ e h=>⟨_,fun a=>(Mm n _ _ (qb e a)),?_⟩;conv=>whnf
 refine⟨id,id,id,?_⟩;conv=>whnf
 refine bq h fun _ d h=>⟨_,fun a=>(Hy n _ _ (qb d a)),?_⟩;conv=>whnf
 refine⟨id,id,id,?_⟩;conv=>whnf
 refine bq h fun _ c h=>⟨_,fun a=>(te n _ _ (qb c a)),?_⟩;conv=>whnf
 refine⟨id,?_⟩;obtain rfl:=sj h;conv=>whnf
 try exact fin
abbrev DK (r:Bool):PV:=PV.bool r
def rJ (n:Nat) (a:SS):LK (Int) (Bool):=fun d b=>
 bif(decide (b<((a.length:Nat):Int)))then(
 bnd (idx a b) fun c=>
 bnd (qE (!(decide (((c.toNat:Nat):Int)<48))) (idx a b)) fun e=>
 bif(bif(decide (((c.toNat:Nat):Int)<48))then true else(decide (((e.toNat:Nat):Int)>57)))then(
 some false)
 else(
 d (kwr .i64 (b+1))))
 else(
 some (decide (((a.length:Nat):Int)>0)))
def Xc (n:Nat) (a:SS):Option (Bool):=
 qA (rJ n a) n (0:Int)
theorem CG (n:Nat):∀ (a:SS) (r:Bool),Xc n a=some r->qc TP 198 [PV.str a] (DK r):=by
 intro a r h;unfold Xc at h;refine zN Tryz.call198 Tryz.func198 [1000000] ?_;conv=>whnf
 refine zj.fn [1000000] (S:=Int) (fun b=>[(0,pS a),(3,pI b)]) (fun b=>[]) (B:=rJ n a) h (wk [] []) ?_;intro _ b h;unfold rJ at h;conv=>whnf
 apply ifc h<;>intro e h
 ·conv=>whnf
  refine bq h fun _ d h=>⟨_,zW d,?_⟩;conv=>whnf
  refine⟨id,id,?_⟩;conv=>whnf
  refine bq h fun _ c h=>⟨_,fun f=>zW (qb c f),?_⟩;conv=>whnf
  refine⟨id,id,?_⟩;conv=>whnf
  apply ifc h<;>intro e h
  ·obtain rfl:=sj h
   conv=>whnf
   try exact fin
  conv=>whnf
  exact⟨(kwr .i64 (b+1)),h,wk [] []⟩
 obtain rfl:=sj h;conv=>whnf
 try exact fin
abbrev Pn (r:Int×Int):PV:=PV.tup [PV.int .i64 r.1,PV.int .i64 r.2]
def CH (n:Nat) (b a:Int):Option (Int×Int):=
 bif(bif(b==0)then true else(a==0))then(
 some ((0:Int),(0:Int)))
 else(
 bif(bif(bif(b==(-1:Int))then(a==(-9223372036854775808:Int))else false)then true else(bif(a==(-1:Int))then(b==(-9223372036854775808:Int))else false))then(
 some ((0:Int),(4:Int)))
 else(
 chk (decide (a≠0)) (
 bif((kwr .i64 (Int.tdiv (kwr .i64 (b * a)) a)) != b)then(
 some ((0:Int),(4:Int)))
 else(
 some ((kwr .i64 (b * a)),(0:Int))))))
theorem Mg (n:Nat):∀ (b a:Int) (r:Int×Int),CH n b a=some r->qc TP 199 [PV.int .i64 b,PV.int .i64 a] (Pn r):=by
 intro b a r h;unfold CH at h;refine zN Tryz.call199 Tryz.func199 [1000000] ?_;conv=>whnf
 refine⟨id,id,?_⟩;conv=>whnf
 apply ifc h<;>intro c h
 ·obtain rfl:=sj h
  conv=>whnf
  try exact fin
 conv=>whnf
 iterate 8 refine⟨id,?_⟩
 conv=>whnf
 apply ifc h<;>intro c h
 ·obtain rfl:=sj h
  conv=>whnf
  try exact fin
 conv=>whnf
 obtain⟨d,h⟩:=qg h;refine⟨(kod d:a≠0),?_⟩;conv=>whnf
 apply ifc h<;>intro c h
 ·obtain rfl:=sj h
  conv=>whnf
  try exact fin
 obtain rfl:=sj h;conv=>whnf
 try exact fin
abbrev Pm (r:Int×Int):PV:=PV.tup [PV.int .i64 r.1,PV.int .i64 r.2]
def CF (n:Nat) (b a:Int):Option (Int×Int):=
 bif(bif(bif(decide (a>0))then(decide (b>(kwr .i64 ((9223372036854775807:Int) - a))))else false)then true else(bif(decide (a<0))then(decide (b<(kwr .i64 ((-9223372036854775808:Int) - a))))else false))then(
 some ((0:Int),(4:Int)))
 else(
 some ((kwr .i64 (b+a)),(0:Int)))
theorem Mf (n:Nat):∀ (a b:Int) (r:Int×Int),CF n a b=some r->qc TP 200 [PV.int .i64 a,PV.int .i64 b] (Pm r):=by
 intro a b r h;unfold CF at h;refine zN Tryz.call200 Tryz.func200 [1000000] ?_;conv=>whnf
 iterate 12 refine⟨id,?_⟩
 conv=>whnf
 apply ifc h<;>intro _ h
 ·obtain rfl:=sj h
  conv=>whnf
  try exact fin
 obtain rfl:=sj h;conv=>whnf
 try exact fin
abbrev HE (r:Int×Int):PV:=PV.tup [PV.int .i64 r.1,PV.int .i64 r.2]
def mZ (n:Nat) (f:Int) (b:Int×Int->Option (Int×Int)) (e:Int):Int->Option (Int×Int):=fun c=>
 bnd (CF n f c) fun⟨d,a⟩=>
 bif(a != 0)then(
 some ((0:Int),a))
 else(
 b (d,(kwr .i64 (e+1))))
def tx (n:Nat) (b i:SS):LK (Int×Int) (Int×Int):=fun c (d,a)=>
 bif(decide (a<((b.length:Nat):Int)))then(
 bnd (CH n d (10:Int)) fun⟨e,f⟩=>
 bif(f != 0)then(
 some ((0:Int),f))
 else(
 bnd (idx b a) fun g=>
 bif(decide (((b.length:Nat):Int)<((i.length:Nat):Int)))then(
 mZ n e c a (kwr .i64 ((0:Int) - (kwr .i64 (kwr .u8 (((g.toNat:Nat):Int) - 48))))))
 else(
 mZ n e c a (kwr .i64 (kwr .u8 (((g.toNat:Nat):Int) - 48))))))
 else(
 some (d,(0:Int)))
def mY (n:Nat) (b:SS):SS->Option (Int×Int):=fun a=>
 bnd (Xc n a) fun c=>
 bnd (qE (!(!c)) (idx a (0:Int))) fun d=>
 bif(bif(!c)then true else(bif(((d.toNat:Nat):Int)==48)then(!(b==([48]:SS)))else false))then(
 some ((0:Int),(1:Int)))
 else(
 qA (tx n a b) n ((0:Int),(0:Int)))
def VH (n:Nat) (a:SS):Option (Int×Int):=
 bnd (qE (decide (((a.length:Nat):Int)>0)) (idx a (0:Int))) fun b=>
 bif(bif(decide (((a.length:Nat):Int)>0))then(((b.toNat:Nat):Int)==45)else false)then(
 chk (decide (1<=a.length)) (
 mY n a (a.drop 1)))
 else(
 mY n a a)
theorem Df (n:Nat):∀ (a:SS) (r:Int×Int),VH n a=some r->qc TP 151 [PV.str a] (HE r):=by
 intro a r h;unfold VH at h;refine zN Tryz.call151 Tryz.func151 [1000000] ?_;conv=>whnf
 refine mw.cut (S:=SS) (fun b=>[(0,pS a),(4,pS b)]) (fun b=>[]) (mY n a) (r:=r) ?_ ?_
 ·intro b h
  unfold mY at h;conv=>whnf
  refine bq h fun _ p h=>⟨_,(CG n _ _ p),?_⟩;conv=>whnf
  refine⟨id,?_⟩;conv=>whnf
  refine bq h fun _ o h=>⟨_,fun e=>zW (qb o e),?_⟩;conv=>whnf
  iterate 6 refine⟨id,?_⟩
  conv=>whnf
  apply ifc h<;>intro d h
  ·obtain rfl:=sj h
   conv=>whnf
   try exact fin
  conv=>whnf
  refine zj.fn [1000000] (S:=Int×Int) (fun(g,c)=>[(0,pS a),(4,pS b),(5,pI g),(6,pI c)]) (fun(g,c)=>[]) (B:=tx n b a) h (wk [] []) ?_;intro t st h;obtain⟨g,c⟩:=st;unfold tx at h;conv=>whnf
  apply ifc h<;>intro d h
  ·conv=>whnf
   refine bq h fun⟨i,_⟩ m h=>⟨_,(Mg n _ _ _ m),?_⟩;conv=>whnf
   apply ifc h<;>intro d h
   ·obtain rfl:=sj h
    conv=>whnf
    try exact fin
   conv=>whnf
   refine bq h fun j l h=>⟨_,zW l,?_⟩;conv=>whnf
   refine mw.cut (S:=Int) (fun f=>[(0,pS a),(4,pS b),(6,pI c),(7,pI i),(9,pI f)]) (fun f=>[]) (mZ n i t c) (r:=r) ?_ ?_
   ·intro f h
    unfold mZ at h;(conv=>whnf);refine bq h fun⟨u,_⟩ k h=>⟨_,(Mf n _ _ _ k),?_⟩;(conv=>whnf);apply ifc h<;>intro d h
    ·obtain rfl:=sj h
     conv=>whnf
     try exact fin
    (conv=>whnf);exact⟨(u,(kwr .i64 (c+1))),h,wk [] []⟩
   conv=>whnf
   apply ifc h<;>intro d h
   ·conv=>whnf
    exact⟨(kwr .i64 ((0:Int) - (kwr .i64 (kwr .u8 (((j.toNat:Nat):Int) - 48))))),h,wk [] []⟩
   conv=>whnf
   exact⟨(kwr .i64 (kwr .u8 (((j.toNat:Nat):Int) - 48))),h,wk [] []⟩
  obtain rfl:=sj h;conv=>whnf
  try exact fin
 conv=>whnf
 refine⟨id,?_⟩;conv=>whnf
 refine bq h fun _ s h=>⟨_,fun e=>zW (qb s e),?_⟩;conv=>whnf
 refine⟨id,id,?_⟩;conv=>whnf
 apply ifc h<;>intro d h
 ·conv=>whnf
  refine⟨1,rfl,?_⟩;conv=>whnf
  obtain⟨q,h⟩:=qg h;refine⟨⟨(kod q:(1<=a.length)),Nat.le_refl _⟩,?_⟩;rw[show List.drop 1 (List.take a.length a)=(a.drop 1)from by rw[List.take_length]];conv=>whnf
  exact⟨(a.drop 1),h,wk [] []⟩
 conv=>whnf
 exact⟨a,h,wk [] []⟩
abbrev Mv (r:Bool):PV:=PV.bool r
def Qd (n:Nat) (a:SS) (b:Int):Option (Bool):=
 bnd (qE (decide (b<((a.length:Nat):Int))) (idx a b)) fun c=>
 bnd (qE (bif(decide (b<((a.length:Nat):Int)))then(decide (((c.toNat:Nat):Int)≥128))else false) (idx a b)) fun d=>
 some (bif(bif(decide (b<((a.length:Nat):Int)))then(decide (((c.toNat:Nat):Int)≥128))else false)then(decide (((d.toNat:Nat):Int)<192))else false)
theorem QG (n:Nat):∀ (b:SS) (c:Int) (r:Bool),Qd n b c=some r->qc TP 222 [PV.str b,PV.int .i64 c] (Mv r):=by
 intro b c r h;unfold Qd at h;refine zN Tryz.call222 Tryz.func222 [1000000] ?_;conv=>whnf
 refine⟨id,id,?_⟩;conv=>whnf
 refine bq h fun _ e h=>⟨_,fun a=>zW (qb e a),?_⟩;conv=>whnf
 refine⟨id,id,id,id,?_⟩;conv=>whnf
 refine bq h fun _ d h=>⟨_,fun a=>zW (qb d a),?_⟩;conv=>whnf
 refine⟨id,id,?_⟩;obtain rfl:=sj h;conv=>whnf
 try exact fin
end W
end
section
set_option maxRecDepth 100000
set_option maxHeartbeats 4000000
open Go Go.Proofs Ax
namespace W
abbrev Mu (r:Int):PV:=PV.int .i64 r
def Ge (n:Nat) (b:SS) (c:Int):Option (Int):=
 bif(decide (c≥((b.length:Nat):Int)))then(
 some (0:Int))
 else(
 bnd (idx b c) fun a=>
 bif(decide (((a.toNat:Nat):Int)<128))then(
 some (1:Int))
 else(
 bnd (qE (!(bif(decide (((a.toNat:Nat):Int)<194))then true else(decide (((a.toNat:Nat):Int)>244)))) (Qd n b (kwr .i64 (c+1)))) fun e=>
 bif(bif(bif(decide (((a.toNat:Nat):Int)<194))then true else(decide (((a.toNat:Nat):Int)>244)))then true else(!e))then(
 some (0:Int))
 else(
 bif(decide (((a.toNat:Nat):Int)<224))then(
 some (2:Int))
 else(
 bnd (idx b (kwr .i64 (c+1))) fun d=>
 bnd (Qd n b (kwr .i64 (c+2))) fun f=>
 bif(bif(bif(!f)then true else(bif(((a.toNat:Nat):Int)==224)then(decide (((d.toNat:Nat):Int)<160))else false))then true else(bif(((a.toNat:Nat):Int)==237)then(decide (((d.toNat:Nat):Int)≥160))else false))then(
 some (0:Int))
 else(
 bif(decide (((a.toNat:Nat):Int)<240))then(
 some (3:Int))
 else(
 bnd (Qd n b (kwr .i64 (c+3))) fun g=>
 bif(bif(bif(!g)then true else(bif(((a.toNat:Nat):Int)==240)then(decide (((d.toNat:Nat):Int)<144))else false))then true else(bif(((a.toNat:Nat):Int)==244)then(decide (((d.toNat:Nat):Int)≥144))else false))then(
 some (0:Int))
 else(
 some (4:Int))))))))
theorem Ht (n:Nat):∀ (b:SS) (c r:Int),Ge n b c=some r->qc TP 201 [PV.str b,PV.int .i64 c] (Mu r):=by
 intro b c r h;unfold Ge at h;refine zN Tryz.call201 Tryz.func201 [1000000] ?_;conv=>whnf
 apply ifc h<;>intro a h
 ·obtain rfl:=sj h
  conv=>whnf
  try exact fin
 conv=>whnf
 refine bq h fun _ i h=>⟨_,zW i,?_⟩;conv=>whnf
 apply ifc h<;>intro a h
 ·obtain rfl:=sj h
  conv=>whnf
  try exact fin
 conv=>whnf
 refine⟨id,id,id,id,id,?_⟩;conv=>whnf
 refine bq h fun _ g h=>⟨_,fun j=>(QG n _ _ _ (qb g j)),?_⟩;conv=>whnf
 refine⟨id,id,?_⟩;conv=>whnf
 apply ifc h<;>intro a h
 ·obtain rfl:=sj h
  conv=>whnf
  try exact fin
 conv=>whnf
 apply ifc h<;>intro a h
 ·obtain rfl:=sj h
  conv=>whnf
  try exact fin
 conv=>whnf
 refine bq h fun _ f h=>⟨_,zW f,?_⟩;conv=>whnf
 refine bq h fun _ e h=>⟨_,(QG n _ _ _ e),?_⟩;conv=>whnf
 iterate 12 refine⟨id,?_⟩
 conv=>whnf
 apply ifc h<;>intro a h
 ·obtain rfl:=sj h
  conv=>whnf
  try exact fin
 conv=>whnf
 apply ifc h<;>intro a h
 ·obtain rfl:=sj h
  conv=>whnf
  try exact fin
 conv=>whnf
 refine bq h fun _ d h=>⟨_,(QG n _ _ _ d),?_⟩;conv=>whnf
 iterate 12 refine⟨id,?_⟩
 conv=>whnf
 apply ifc h<;>intro a h
 ·obtain rfl:=sj h
  conv=>whnf
  try exact fin
 obtain rfl:=sj h;conv=>whnf
 try exact fin
abbrev Pq (r:Int):PV:=PV.int .i64 r
def Qb (n:Nat) (a:Int):Option (Int):=
 bnd (fp n a) fun b=>
 bif b then(
 some (kwr .i64 (kwr .u8 (a - 48))))
 else(
 bif(bif(decide (a≥97))then(decide (a<=102))else false)then(
 some (kwr .i64 ((kwr .i64 (kwr .u8 (a - 97)))+10)))
 else(
 bif(bif(decide (a≥65))then(decide (a<=70))else false)then(
 some (kwr .i64 ((kwr .i64 (kwr .u8 (a - 65)))+10)))
 else(
 some (-1:Int))))
theorem sU (n:Nat):∀ (a r:Int),Qb n a=some r->qc TP 202 [PV.int .u8 a] (Pq r):=by
 intro a r h;unfold Qb at h;refine zN Tryz.call202 Tryz.func202 [1000000] ?_;conv=>whnf
 refine bq h fun _ c h=>⟨_,(dt n _ _ c),?_⟩;conv=>whnf
 apply ifc h<;>intro b h
 ·obtain rfl:=sj h
  conv=>whnf
  try exact fin
 conv=>whnf
 refine⟨id,id,?_⟩;conv=>whnf
 apply ifc h<;>intro b h
 ·obtain rfl:=sj h
  conv=>whnf
  try exact fin
 conv=>whnf
 refine⟨id,id,?_⟩;conv=>whnf
 apply ifc h<;>intro b h
 ·obtain rfl:=sj h
  conv=>whnf
  try exact fin
 obtain rfl:=sj h;conv=>whnf
 try exact fin
abbrev DN (r:SS×Int×Bool):PV:=PV.tup [PV.str r.1,PV.int .i64 r.2.1,PV.bool r.2.2]
def bJ (n:Nat) (b:SS) (d:UInt8) (e:SS×Int->Option (SS×Int×Bool)) (a:Int) (c:SS):Bool->Option (SS×Int×Bool):=fun i=>
 bif i then(
 chk (decide ((qx (b++[d])).length * 1<=140737488355328)) (
 e ((b++[d]),(kwr .i64 (a+2)))))
 else(
 bif(((d.toNat:Nat):Int)==110)then(
 chk (decide ((qx (b++[(10:UInt8)])).length * 1<=140737488355328)) (
 e ((b++[(10:UInt8)]),(kwr .i64 (a+2)))))
 else(
 bif(((d.toNat:Nat):Int)==116)then(
 chk (decide ((qx (b++[(9:UInt8)])).length * 1<=140737488355328)) (
 e ((b++[(9:UInt8)]),(kwr .i64 (a+2)))))
 else(
 bif(((d.toNat:Nat):Int)==114)then(
 chk (decide ((qx (b++[(13:UInt8)])).length * 1<=140737488355328)) (
 e ((b++[(13:UInt8)]),(kwr .i64 (a+2)))))
 else(
 bif(((d.toNat:Nat):Int)==120)then(
 bnd (qE (!(decide ((kwr .i64 ((kwr .i64 (a+2))+1))≥((c.length:Nat):Int)))) (idx c (kwr .i64 (a+2)))) fun j=>
 bnd (qE (!(decide ((kwr .i64 ((kwr .i64 (a+2))+1))≥((c.length:Nat):Int)))) (Qb n ((j.toNat:Nat):Int))) fun f=>
 bnd (qE (!(bif(decide ((kwr .i64 ((kwr .i64 (a+2))+1))≥((c.length:Nat):Int)))then true else(decide (f<0)))) (idx c (kwr .i64 ((kwr .i64 (a+2))+1)))) fun k=>
 bnd (qE (!(bif(decide ((kwr .i64 ((kwr .i64 (a+2))+1))≥((c.length:Nat):Int)))then true else(decide (f<0)))) (Qb n ((k.toNat:Nat):Int))) fun l=>
 bif(bif(bif(decide ((kwr .i64 ((kwr .i64 (a+2))+1))≥((c.length:Nat):Int)))then true else(decide (f<0)))then true else(decide (l<0)))then(
 some (([]:SS),(0:Int),false))
 else(
 bnd (idx c (kwr .i64 (a+2))) fun m=>
 bnd (Qb n ((m.toNat:Nat):Int)) fun o=>
 bnd (idx c (kwr .i64 ((kwr .i64 (a+2))+1))) fun p=>
 bnd (Qb n ((p.toNat:Nat):Int)) fun q=>
 bnd (u8I (kwr .u8 (kwr .i64 ((kwr .i64 (o * (16:Int)))+q)))) fun g=>
 chk (decide ((qx (b++[g])).length * 1<=140737488355328)) (
 e ((b++[g]),(kwr .i64 ((kwr .i64 (a+2))+2))))))
 else(
 some (([]:SS),(0:Int),false))))))
def rL (n:Nat) (b:SS):LK (SS×Int) (SS×Int×Bool):=fun g (d,a)=>
 bif(decide (a<((b.length:Nat):Int)))then(
 bnd (idx b a) fun e=>
 bnd (Ge n b a) fun i=>
 bif(((e.toNat:Nat):Int)==39)then(
 some (d,(kwr .i64 (a+1)),true))
 else(
 bif(bif(bif(i==0)then true else(decide (((e.toNat:Nat):Int)<32)))then true else(((e.toNat:Nat):Int)==127))then(
 some (([]:SS),(0:Int),false))
 else(
 bif(((e.toNat:Nat):Int) != 92)then(
 bnd (Qq (kwr .i64 (a+i))) fun f=>
 bnd (Qq a) fun j=>
 chk (decide (j<=f/\f<=b.length)) (
 chk (decide ((qx (d++((b.take f).drop j))).length * 1<=140737488355328)) (
 g ((d++((b.take f).drop j)),(kwr .i64 (a+i))))))
 else(
 bif(decide ((kwr .i64 (a+1))≥((b.length:Nat):Int)))then(
 some (([]:SS),(0:Int),false))
 else(
 bnd (idx b (kwr .i64 (a+1))) fun c=>
 bif(((c.toNat:Nat):Int)==92)then(
 bJ n d c g a b (((c.toNat:Nat):Int)==92))
 else(
 bJ n d c g a b (((c.toNat:Nat):Int)==39)))))))
 else(
 some (([]:SS),(0:Int),false))
def Xd (n:Nat) (a:SS) (b:Int):Option (SS×Int×Bool):=
 bnd (qE (!(decide (b≥((a.length:Nat):Int)))) (idx a b)) fun c=>
 bif(bif(decide (b≥((a.length:Nat):Int)))then true else(((c.toNat:Nat):Int) != 39))then(
 some (([]:SS),(0:Int),false))
 else(
 qA (rL n a) n (([]:List _),(kwr .i64 (b+1))))
theorem CL (n:Nat):∀ (b:SS) (l:Int) (r:SS×Int×Bool),Xd n b l=some r->qc TP 152 [PV.str b,PV.int .i64 l] (DN r):=by
 intro b l r h;unfold Xd at h;refine zN Tryz.call152 Tryz.func152 [1000000] ?_;conv=>whnf
 refine⟨id,id,?_⟩;conv=>whnf
 refine bq h fun _ I h=>⟨_,fun f=>zW (qb I f),?_⟩;conv=>whnf
 refine⟨id,id,?_⟩;conv=>whnf
 apply ifc h<;>intro c h
 ·obtain rfl:=sj h
  conv=>whnf
  try exact fin
 conv=>whnf
 refine zj.fn [1000000] (S:=SS×Int) (fun(a,e)=>[(0,pS b),(7,.tsl 0 (qx a)),(8,pI e)]) (fun(a,e)=>[.tail 5 1 (qx a).length]) (B:=rL n b) h (wk [0] [0]) ?_;intro M st h;obtain⟨a,e⟩:=st;unfold rL at h;conv=>whnf
 apply ifc h<;>intro c h
 ·conv=>whnf
  refine bq h fun _ H h=>⟨_,zW H,?_⟩;conv=>whnf
  refine bq h fun P G h=>⟨_,(Ht n _ _ _ G),?_⟩;conv=>whnf
  apply ifc h<;>intro c h
  ·conv=>whnf
   refine⟨_,rfl,?_⟩;obtain rfl:=sj h;conv=>whnf
   try exact fin
  conv=>whnf
  refine⟨id,id,id,id,?_⟩;conv=>whnf
  apply ifc h<;>intro c h
  ·obtain rfl:=sj h
   conv=>whnf
   try exact fin
  conv=>whnf
  apply ifc h<;>intro c h
  ·conv=>whnf
   refine bq h fun g K h=>⟨_,zC K,?_⟩;conv=>whnf
   refine bq h fun j J h=>⟨_,zC J,?_⟩;conv=>whnf
   obtain⟨q,h⟩:=qg h;refine⟨⟨(kod q:(j<=g/\g<=b.length)).1,(kod q:(j<=g/\g<=b.length)).2⟩,?_⟩;conv=>whnf
   rw[show qx a++qx ((b.take g).drop j)=qx (a++((b.take g).drop j))from Codec.append xw a ((b.take g).drop j)];conv=>whnf
   obtain⟨m,h⟩:=qg h;refine⟨⟨Codec.wide xw a,kod m,zy m (by decide)⟩,?_⟩;conv=>whnf
   refine⟨⟨rfl,rfl,rfl⟩,?_⟩;conv=>whnf
   exact⟨((a++((b.take g).drop j)),(kwr .i64 (e+P))),h,wk [1] []⟩
  conv=>whnf
  apply ifc h<;>intro c h
  ·obtain rfl:=sj h
   conv=>whnf
   try exact fin
  conv=>whnf
  refine bq h fun d F h=>⟨_,zW F,?_⟩;conv=>whnf
  refine mw.cut (S:=Bool) (fun k=>[(0,pS b),(7,.tsl 0 (qx a)),(8,.p (.int .i64 (kwr .i64 (e+2)))),(11,.p (.int .u8 ((d.toNat:Nat):Int))),(74,.p (.int .u8 ((d.toNat:Nat):Int))),(75,pB k)]) (fun k=>[.tail 5 1 (qx a).length]) (bJ n a d M e b) (r:=r) ?_ ?_
  ·intro k h
   unfold bJ at h;conv=>whnf
   apply ifc h<;>intro c h
   ·conv=>whnf
    refine⟨Codec.one xw [d],qx [d],.inl rfl,?_⟩;(conv=>whnf);rw[show qx a++qx [d]=qx (a++[d])from Codec.append xw a [d]];(conv=>whnf);obtain⟨s,h⟩:=qg h;refine⟨⟨Codec.wide xw (a++[d]),kod s,zy s (by decide)⟩,?_⟩;(conv=>whnf);refine⟨⟨rfl,rfl,rfl⟩,?_⟩;(conv=>whnf);exact⟨((a++[d]),(kwr .i64 (e+2))),h,wk [1] []⟩
   conv=>whnf
   apply ifc h<;>intro c h
   ·conv=>whnf
    refine⟨Codec.one xw [(10:UInt8)],qx [(10:UInt8)],.inl rfl,?_⟩;(conv=>whnf);rw[show qx a++qx [(10:UInt8)]=qx (a++[(10:UInt8)])from Codec.append xw a [(10:UInt8)]];(conv=>whnf);obtain⟨t,h⟩:=qg h;refine⟨⟨Codec.wide xw (a++[(10:UInt8)]),kod t,zy t (by decide)⟩,?_⟩;(conv=>whnf);refine⟨⟨rfl,rfl,rfl⟩,?_⟩;(conv=>whnf);exact⟨((a++[(10:UInt8)]),(kwr .i64 (e+2))),h,wk [1] []⟩
   conv=>whnf
   apply ifc h<;>intro c h
   ·conv=>whnf
    refine⟨Codec.one xw [(9:UInt8)],qx [(9:UInt8)],.inl rfl,?_⟩;(conv=>whnf);rw[show qx a++qx [(9:UInt8)]=qx (a++[(9:UInt8)])from Codec.append xw a [(9:UInt8)]];(conv=>whnf);obtain⟨u,h⟩:=qg h;refine⟨⟨Codec.wide xw (a++[(9:UInt8)]),kod u,zy u (by decide)⟩,?_⟩;(conv=>whnf);refine⟨⟨rfl,rfl,rfl⟩,?_⟩;(conv=>whnf);exact⟨((a++[(9:UInt8)]),(kwr .i64 (e+2))),h,wk [1] []⟩
   conv=>whnf
   apply ifc h<;>intro c h
   ·conv=>whnf
    refine⟨Codec.one xw [(13:UInt8)],qx [(13:UInt8)],.inl rfl,?_⟩;(conv=>whnf);rw[show qx a++qx [(13:UInt8)]=qx (a++[(13:UInt8)])from Codec.append xw a [(13:UInt8)]];(conv=>whnf);obtain⟨v,h⟩:=qg h;refine⟨⟨Codec.wide xw (a++[(13:UInt8)]),kod v,zy v (by decide)⟩,?_⟩;(conv=>whnf);refine⟨⟨rfl,rfl,rfl⟩,?_⟩;(conv=>whnf);exact⟨((a++[(13:UInt8)]),(kwr .i64 (e+2))),h,wk [1] []⟩
   conv=>whnf
   apply ifc h<;>intro c h
   ·conv=>whnf
    refine⟨id,id,?_⟩;(conv=>whnf);refine bq h fun _ E h=>⟨_,fun f=>zW (qb E f),?_⟩;(conv=>whnf);refine⟨id,?_⟩;(conv=>whnf);refine bq h fun _ D h=>⟨_,fun f=>(sU n _ _ (qb D f)),?_⟩;(conv=>whnf);refine⟨id,id,id,id,id,?_⟩;(conv=>whnf);refine bq h fun _ C h=>⟨_,fun f=>zW (qb C f),?_⟩;(conv=>whnf);refine⟨id,?_⟩;(conv=>whnf);refine bq h fun _ A h=>⟨_,fun f=>(sU n _ _ (qb A f)),?_⟩;(conv=>whnf);refine⟨id,id,?_⟩;(conv=>whnf);apply ifc h<;>intro c h
    ·obtain rfl:=sj h
     conv=>whnf
     try exact fin
    (conv=>whnf);refine bq h fun _ z h=>?_
    refine⟨_,zW z,?_⟩;(conv=>whnf);refine bq h fun N y h=>⟨_,(sU n _ _ y),?_⟩;(conv=>whnf);refine bq h fun _ x h=>⟨_,zW x,?_⟩;(conv=>whnf);refine bq h fun O w h=>⟨_,(sU n _ _ w),?_⟩;(conv=>whnf);refine bq h fun i L h=>?_;rw[show([[PV.int .u8 (kwr .u8 (kwr .i64 ((kwr .i64 (N * (16:Int)))+O)))]]:List (List PV))=qx [i]from by rw[vh L]; rfl];refine⟨Codec.one xw [i],_,.inl rfl,?_⟩;(conv=>whnf);rw[show qx a++qx [i]=qx (a++[i])from Codec.append xw a [i]];(conv=>whnf);obtain⟨o,h⟩:=qg h;refine⟨⟨Codec.wide xw (a++[i]),kod o,zy o (by decide)⟩,?_⟩;(conv=>whnf);refine⟨⟨rfl,rfl,rfl⟩,?_⟩;(conv=>whnf);exact⟨((a++[i]),(kwr .i64 ((kwr .i64 (e+2))+2))),h,wk [1] []⟩
   obtain rfl:=sj h;conv=>whnf
   try exact fin
  conv=>whnf
  apply ifc h<;>intro c h
  ·conv=>whnf
   exact⟨(((d.toNat:Nat):Int)==92),h,wk [0] []⟩
  conv=>whnf
  exact⟨(((d.toNat:Nat):Int)==39),h,wk [0] []⟩
 obtain rfl:=sj h;conv=>whnf
 try exact fin
abbrev My (r:SS):PV:=PV.str r
def QJ (n:Nat) (c:SS) (d e:Nat):(Int->Option SS)->Int->Option SS:=fun g a=>
 bif(decide (a<((([40,41,91,93,123,125,44,58,46,43,45,42,47,37,61,60,62,36]:SS).length:Nat):Int)))then(
 bnd (Qq (kwr .i64 (a+1))) fun b=>
 bnd (Qq a) fun f=>
 chk (decide (f<=b/\b<=([40,41,91,93,123,125,44,58,46,43,45,42,47,37,61,60,62,36]:SS).length)) (
 bif(((([40,41,91,93,123,125,44,58,46,43,45,42,47,37,61,60,62,36]:SS).take b).drop f)==((c.take d).drop e))then(
 some ((c.take d).drop e))
 else(
 g (kwr .i64 (a+1)))))
 else(
 some ([]:SS))
def pH (n:Nat) (d:Int) (c:SS):SS->Option SS:=fun a=>
 bif(bif(bif(a==([60,61]:SS))then true else(a==([62,61]:SS)))then true else(a==([60,62]:SS)))then(
 some a)
 else(
 bnd (Qq (kwr .i64 (d+1))) fun b=>
 bnd (Qq d) fun e=>
 chk (decide (e<=b/\b<=c.length)) (
 qA (QJ n c b e) n (0:Int)))
def Gg (n:Nat) (a:SS) (b:Int):Option SS:=
 bif(decide ((kwr .i64 (b+1))<((a.length:Nat):Int)))then(
 bnd (Qq (kwr .i64 (b+2))) fun c=>
 bnd (Qq b) fun d=>
 chk (decide (d<=c/\c<=a.length)) (
 pH n b a ((a.take c).drop d)))
 else(
 pH n b a ([]:SS))
theorem Hw (n:Nat):∀ (a:SS) (c:Int) (r:SS),Gg n a c=some r->qc TP 153 [PV.str a,PV.int .i64 c] (My r):=by
 intro a c r h;unfold Gg at h;refine zN Tryz.call153 Tryz.func153 [1000000] ?_;conv=>whnf
 refine mw.cut (S:=SS) (fun k=>[(0,pS a),(1,pI c),(5,pS k)]) (fun k=>[]) (pH n c a) (r:=r) ?_ ?_
 ·intro k h
  unfold pH at h;conv=>whnf
  refine⟨id,id,id,id,?_⟩;conv=>whnf
  apply ifc h<;>intro i h
  ·obtain rfl:=sj h
   conv=>whnf
   try exact fin
  conv=>whnf
  refine bq h fun b v h=>⟨_,zC v,?_⟩;conv=>whnf
  refine bq h fun e u h=>⟨_,zC u,?_⟩;conv=>whnf
  obtain⟨m,h⟩:=qg h;refine⟨⟨(kod m:(e<=b/\b<=a.length)).1,(kod m:(e<=b/\b<=a.length)).2⟩,?_⟩;conv=>whnf
  refine zj.fn [1000000] (S:=Int) (fun f=>[(6,.p (.str ((a.take b).drop e))),(7,.p (.str ([40,41,91,93,123,125,44,58,46,43,45,42,47,37,61,60,62,36]:SS))),(8,pI f)]) (fun f=>[]) (B:=QJ n a b e) h (wk [] []) ?_;intro _ f h;unfold QJ at h;conv=>whnf
  apply ifc h<;>intro i h
  ·conv=>whnf
   refine bq h fun g t h=>⟨_,zC t,?_⟩;conv=>whnf
   refine bq h fun q s h=>⟨_,zC s,?_⟩;conv=>whnf
   obtain⟨l,h⟩:=qg h;refine⟨⟨(kod l:(q<=g/\g<=([40,41,91,93,123,125,44,58,46,43,45,42,47,37,61,60,62,36]:SS).length)).1,(kod l:(q<=g/\g<=([40,41,91,93,123,125,44,58,46,43,45,42,47,37,61,60,62,36]:SS).length)).2⟩,?_⟩;conv=>whnf
   apply ifc h<;>intro i h
   ·obtain rfl:=sj h
    conv=>whnf
    try exact fin
   conv=>whnf
   exact⟨(kwr .i64 (f+1)),h,wk [] []⟩
  obtain rfl:=sj h;conv=>whnf
  try exact fin
 conv=>whnf
 apply ifc h<;>intro i h
 ·conv=>whnf
  refine bq h fun d x h=>⟨_,zC x,?_⟩;conv=>whnf
  refine bq h fun j w h=>⟨_,zC w,?_⟩;conv=>whnf
  obtain⟨o,h⟩:=qg h;refine⟨⟨(kod o:(j<=d/\d<=a.length)).1,(kod o:(j<=d/\d<=a.length)).2⟩,?_⟩;conv=>whnf
  exact⟨((a.take d).drop j),h,wk [] []⟩
 conv=>whnf
 exact⟨([]:SS),h,wk [] []⟩
abbrev Pr (r:ql×Int×Int):PV:=PV.tup [PV.agg (nY.cells r.1),PV.int .i64 r.2.1,PV.int .i64 r.2.2]
def cz (n:Nat) (a:Int):Int×Int×SS×Int->Option (ql×Int×Int):=fun(b,c,d,e)=>
 some (ql.mk c d e a,b,(0:Int))
def Xe (n:Nat) (b:SS) (c:Int):LK (Int) (ql×Int×Int):=fun j a=>
 bnd (qE (decide (a<((b.length:Nat):Int))) (idx b a)) fun k=>
 bnd (qE (decide (a<((b.length:Nat):Int))) (gq n ((k.toNat:Nat):Int))) fun d=>
 bnd (qE ((decide (a<((b.length:Nat):Int)))&&(!d)) (idx b a)) fun l=>
 bnd (qE ((decide (a<((b.length:Nat):Int)))&&(!d)) (fp n ((l.toNat:Nat):Int))) fun m=>
 bif(bif(decide (a<((b.length:Nat):Int)))then(bif d then true else m)else false)then(
 j (kwr .i64 (a+1)))
 else(
 bif(decide ((kwr .i64 (a - c))>64))then(
 some (ql.mk (0:Int) ([]:SS) (0:Int) c,(0:Int),(1:Int)))
 else(
 bnd (Qq a) fun e=>
 bnd (Qq c) fun g=>
 chk (decide (g<=e/\e<=b.length)) (
 bnd (rq n ((b.take e).drop g)) fun⟨o,p⟩=>
 bnd (Qq a) fun f=>
 bnd (Qq c) fun i=>
 chk (decide (i<=f/\f<=b.length)) (
 bif p then(
 cz n c (a,(2:Int),o,(0:Int)))
 else(
 cz n c (a,(1:Int),((b.take f).drop i),(0:Int)))))))
def Xf (n:Nat) (b:SS) (c:Int):LK (Int) (ql×Int×Int):=fun g a=>
 bnd (qE (decide (a<((b.length:Nat):Int))) (idx b a)) fun i=>
 bnd (qE (decide (a<((b.length:Nat):Int))) (fp n ((i.toNat:Nat):Int))) fun j=>
 bif(bif(decide (a<((b.length:Nat):Int)))then j else false)then(
 g (kwr .i64 (a+1)))
 else(
 bnd (Qq a) fun d=>
 bnd (Qq c) fun e=>
 chk (decide (e<=d/\d<=b.length)) (
 bnd (VH n ((b.take d).drop e)) fun⟨k,f⟩=>
 bif(f != 0)then(
 some (ql.mk (0:Int) ([]:SS) (0:Int) c,(0:Int),f))
 else(
 cz n c (a,(3:Int),([]:SS),k))))
def CM (n:Nat) (b:SS) (a:Int):Option (ql×Int×Int):=
 bnd (idx b a) fun d=>
 bnd (gq n ((d.toNat:Nat):Int)) fun j=>
 bif j then(
 qA (Xe n b a) n (kwr .i64 (a+1)))
 else(
 bnd (fp n ((d.toNat:Nat):Int)) fun e=>
 bif e then(
 qA (Xf n b a) n (kwr .i64 (a+1)))
 else(
 bif(((d.toNat:Nat):Int)==39)then(
 bnd (Xd n b a) fun⟨f,g,i⟩=>
 bif(!i)then(
 some (ql.mk (0:Int) ([]:SS) (0:Int) a,(0:Int),(1:Int)))
 else(
 cz n a (g,(4:Int),f,(0:Int))))
 else(
 bnd (Gg n b a) fun c=>
 bif(c==([]:SS))then(
 some (ql.mk (5:Int) c (0:Int) a,(0:Int),(1:Int)))
 else(
 cz n a ((kwr .i64 (a+((c.length:Nat):Int))),(5:Int),c,(0:Int))))))
theorem Mj (n:Nat):∀ (a:SS) (b:Int) (r:ql×Int×Int),CM n a b=some r->qc TP 116 [PV.str a,PV.int .i64 b] (Pr r):=by
 intro a b r h;unfold CM at h;refine zN Tryz.call116 Tryz.func116 [1000000] ?_;conv=>whnf
 refine bq h fun _ K h=>⟨_,zW K,?_⟩;conv=>whnf
 refine mw.cut (S:=Int×Int×SS×Int) (fun(l,m,o,p)=>[(4,.ptr 0 0),(7,.ptr 1 0),(9,pI l)]) (fun(l,m,o,p)=>[.box 139 [zq0,zq1,zq0,zq0],.box 139 [pI m,pS o,pI p,pI b]]) (cz n b) (r:=r) ?_ ?_
 ·intro st h
  obtain⟨l,m,o,p⟩:=st;unfold cz at h;obtain rfl:=sj h;conv=>whnf
  try exact fin
 conv=>whnf
 refine bq h fun _ J h=>⟨_,(bI n _ _ J),?_⟩;conv=>whnf
 apply ifc h<;>intro d h
 ·conv=>whnf
  refine zj.fn [1000000] (S:=Int) (fun e=>[(0,pS a),(1,pI b),(4,.ptr 0 0),(7,.ptr 1 0),(9,pI e)]) (fun e=>[.box 139 [zq0,zq1,zq0,zq0],.box 139 [zq0,zq1,zq0,pI b]]) (B:=Xe n a b) h (wk [0,1] []) ?_;intro _ e h;unfold Xe at h;conv=>whnf
  refine⟨id,id,?_⟩;conv=>whnf
  refine bq h fun _ y h=>⟨_,fun c=>zW (qb y c),?_⟩;conv=>whnf
  refine⟨id,?_⟩;conv=>whnf
  refine bq h fun _ x h=>⟨_,fun c=>(bI n _ _ (qb x c)),?_⟩;conv=>whnf
  refine⟨id,id,id,?_⟩;conv=>whnf
  refine bq h fun _ Q h=>⟨_,fun c=>zW (qb Q c),?_⟩;conv=>whnf
  refine⟨id,?_⟩;conv=>whnf
  refine bq h fun _ P h=>⟨_,fun c=>(dt n _ _ (qb P c)),?_⟩;conv=>whnf
  refine⟨id,id,id,?_⟩;conv=>whnf
  apply ifc h<;>intro d h
  ·conv=>whnf
   exact⟨(kwr .i64 (e+1)),h,wk [0,1] []⟩
  conv=>whnf
  apply ifc h<;>intro d h
  ·obtain rfl:=sj h
   conv=>whnf
   try exact fin
  conv=>whnf
  refine bq h fun i O h=>⟨_,zC O,?_⟩;conv=>whnf
  refine bq h fun u N h=>⟨_,zC N,?_⟩;conv=>whnf
  obtain⟨t,h⟩:=qg h;refine⟨⟨(kod t:(u<=i/\i<=a.length)).1,(kod t:(u<=i/\i<=a.length)).2⟩,?_⟩;conv=>whnf
  refine bq h fun⟨R,_⟩ M h=>⟨_,(Ul n _ _ M),?_⟩;conv=>whnf
  refine bq h fun f L h=>⟨_,zC L,?_⟩;conv=>whnf
  refine bq h fun k H h=>⟨_,zC H,?_⟩;conv=>whnf
  obtain⟨q,h⟩:=qg h;refine⟨⟨(kod q:(k<=f/\f<=a.length)).1,(kod q:(k<=f/\f<=a.length)).2⟩,?_⟩;conv=>whnf
  apply ifc h<;>intro d h
  ·conv=>whnf
   exact⟨(e,(2:Int),R,(0:Int)),h,wk [0,1] []⟩
  conv=>whnf
  exact⟨(e,(1:Int),((a.take f).drop k),(0:Int)),h,wk [0,1] []⟩
 conv=>whnf
 refine bq h fun _ I h=>⟨_,(dt n _ _ I),?_⟩;conv=>whnf
 apply ifc h<;>intro d h
 ·conv=>whnf
  refine zj.fn [1000000] (S:=Int) (fun g=>[(0,pS a),(1,pI b),(4,.ptr 0 0),(7,.ptr 1 0),(9,pI g)]) (fun g=>[.box 139 [zq0,zq1,zq0,zq0],.box 139 [zq0,zq1,zq0,pI b]]) (B:=Xf n a b) h (wk [0,1] []) ?_;intro _ g h;unfold Xf at h;conv=>whnf
  refine⟨id,id,?_⟩;conv=>whnf
  refine bq h fun _ E h=>⟨_,fun c=>zW (qb E c),?_⟩;conv=>whnf
  refine⟨id,?_⟩;conv=>whnf
  refine bq h fun _ D h=>⟨_,fun c=>(dt n _ _ (qb D c)),?_⟩;conv=>whnf
  refine⟨id,?_⟩;conv=>whnf
  apply ifc h<;>intro d h
  ·conv=>whnf
   exact⟨(kwr .i64 (g+1)),h,wk [0,1] []⟩
  conv=>whnf
  refine bq h fun j C h=>⟨_,zC C,?_⟩;conv=>whnf
  refine bq h fun v A h=>⟨_,zC A,?_⟩;conv=>whnf
  obtain⟨s,h⟩:=qg h;refine⟨⟨(kod s:(v<=j/\j<=a.length)).1,(kod s:(v<=j/\j<=a.length)).2⟩,?_⟩;conv=>whnf
  refine bq h fun⟨T,_⟩ z h=>⟨_,(Df n _ _ z),?_⟩;conv=>whnf
  apply ifc h<;>intro d h
  ·obtain rfl:=sj h
   conv=>whnf
   try exact fin
  conv=>whnf
  exact⟨(g,(3:Int),([]:SS),T),h,wk [0,1] []⟩
 conv=>whnf
 apply ifc h<;>intro d h
 ·conv=>whnf
  refine bq h fun⟨U,V,_⟩ F h=>⟨_,(CL n _ _ _ F),?_⟩;conv=>whnf
  apply ifc h<;>intro d h
  ·obtain rfl:=sj h
   conv=>whnf
   try exact fin
  conv=>whnf
  exact⟨(V,(4:Int),U,(0:Int)),h,wk [0,1] []⟩
 conv=>whnf
 refine bq h fun w G h=>⟨_,(Hw n _ _ _ G),?_⟩;conv=>whnf
 apply ifc h<;>intro d h
 ·obtain rfl:=sj h
  conv=>whnf
  try exact fin
 conv=>whnf
 exact⟨((kwr .i64 (b+((w.length:Nat):Int))),(5:Int),w,(0:Int)),h,wk [0,1] []⟩
end W
end
section
set_option maxRecDepth 100000
set_option maxHeartbeats 4000000
open Go Go.Proofs Ax
namespace W
abbrev Mw (r:List ql×Int×Int):PV:=PV.tup [PV.sl (ql.rows r.1),PV.int .i64 r.2.1,PV.int .i64 r.2.2]
def pF (n:Nat) (b:List ql) (g:Int) (f:List ql×Int->Option (List ql×Int×Int)):Int×Int×SS×Int×Int->Option (List ql×Int×Int):=fun(i,a,c,d,e)=>
 bif(decide (((ql.rows b).length:Int)≥4096))then(
 some (([]:List ql),g,(8:Int)))
 else(
 chk (decide ((ql.rows (b++[ql.mk a c d e])).length * 40<=140737488355328)) (
 bif(a==6)then(
 some ((b++[ql.mk a c d e]),(0:Int),(0:Int)))
 else(
 f ((b++[ql.mk a c d e]),i))))
def QI (n:Nat) (b:SS) (g:List ql) (e:List ql×Int->Option (List ql×Int×Int)):LK (Int) (List ql×Int×Int):=fun j a=>
 bnd (qE (decide (a<((b.length:Nat):Int))) (idx b a)) fun c=>
 bnd (qE ((decide (a<((b.length:Nat):Int)))&&(!(((c.toNat:Nat):Int)==32))) (idx b a)) fun d=>
 bnd (qE ((decide (a<((b.length:Nat):Int)))&&(!(bif(((c.toNat:Nat):Int)==32)then true else(((d.toNat:Nat):Int)==9)))) (idx b a)) fun i=>
 bnd (qE ((decide (a<((b.length:Nat):Int)))&&(!(bif(bif(((c.toNat:Nat):Int)==32)then true else(((d.toNat:Nat):Int)==9))then true else(((i.toNat:Nat):Int)==10)))) (idx b a)) fun q=>
 bif(bif(decide (a<((b.length:Nat):Int)))then(bif(bif(bif(((c.toNat:Nat):Int)==32)then true else(((d.toNat:Nat):Int)==9))then true else(((i.toNat:Nat):Int)==10))then true else(((q.toNat:Nat):Int)==13))else false)then(
 j (kwr .i64 (a+1)))
 else(
 bif(decide (a<((b.length:Nat):Int)))then(
 bnd (CM n b a) fun⟨⟨k,l,m,o⟩,p,f⟩=>
 bif(f != 0)then(
 some (([]:List ql),a,f))
 else(
 pF n g a e (p,k,l,m,o)))
 else(
 pF n g a e (a,(6:Int),([]:SS),(0:Int),a)))
def QH (n:Nat) (b:SS):LK (List ql×Int) (List ql×Int×Int):=fun a (c,d)=>
 qA (QI n b c a) n d
def Gf (n:Nat) (a:SS):Option (List ql×Int×Int):=
 bif(decide (((a.length:Nat):Int)>16384))then(
 some (([]:List ql),(0:Int),(8:Int)))
 else(
 qA (QH n a) n (([]:List _),(0:Int)))
theorem Hu (n:Nat):∀ (f:SS) (r:List ql×Int×Int),Gf n f=some r->qc TP 71 [PV.str f] (Mw r):=by
 intro f r h;unfold Gf at h;refine zN Tryz.call71 Tryz.func71 [1000000] ?_;conv=>whnf
 apply ifc h<;>intro j h
 ·obtain rfl:=sj h
  conv=>whnf
  try exact fin
 conv=>whnf
 refine zj.fn [1000000] (S:=List ql×Int) (fun(a,l)=>[(0,pS f),(5,.tsl 0 (ql.rows a)),(6,pI l)]) (fun(a,l)=>[.tail 139 4 (ql.rows a).length]) (B:=QH n f) h (wk [0] [0]) ?_;intro o st h;obtain⟨a,l⟩:=st;unfold QH at h;conv=>whnf
 refine zj.fn [1000000] (S:=Int) (fun g=>[(0,pS f),(5,.tsl 0 (ql.rows a)),(6,pI g)]) (fun g=>[.tail 139 4 (ql.rows a).length]) (B:=QI n f a o) h (wk [0] []) ?_;intro _ g h;unfold QI at h;conv=>whnf
 refine⟨id,id,?_⟩;conv=>whnf
 refine bq h fun _ u h=>⟨_,fun i=>zW (qb u i),?_⟩;conv=>whnf
 refine⟨id,id,id,id,?_⟩;conv=>whnf
 refine bq h fun _ t h=>⟨_,fun i=>zW (qb t i),?_⟩;conv=>whnf
 iterate 6 refine⟨id,?_⟩
 conv=>whnf
 refine bq h fun _ s h=>⟨_,fun i=>zW (qb s i),?_⟩;conv=>whnf
 iterate 6 refine⟨id,?_⟩
 conv=>whnf
 refine bq h fun _ q h=>⟨_,fun i=>zW (qb q i),?_⟩;conv=>whnf
 refine⟨id,id,id,id,?_⟩;conv=>whnf
 apply ifc h<;>intro j h
 ·conv=>whnf
  exact⟨(kwr .i64 (g+1)),h,wk [0] []⟩
 conv=>whnf
 refine mw.cut (S:=Int×Int×SS×Int×Int) (fun(k,b,c,d,e)=>[(0,pS f),(5,.tsl 0 (ql.rows a)),(6,pI g),(7,.ptr 1 0),(8,pI k)]) (fun(k,b,c,d,e)=>[.tail 139 4 (ql.rows a).length,.box 139 [pI b,pS c,pI d,pI e]]) (pF n a g o) (r:=r) ?_ ?_
 ·intro st h
  obtain⟨k,b,c,d,e⟩:=st;unfold pF at h;conv=>whnf
  apply ifc h<;>intro j h
  ·obtain rfl:=sj h
   conv=>whnf
   try exact fin
  conv=>whnf
  refine⟨Codec.one nY [ql.mk b c d e],ql.rows [ql.mk b c d e],.inl rfl,?_⟩;conv=>whnf
  rw[show ql.rows a++ql.rows [ql.mk b c d e]=ql.rows (a++[ql.mk b c d e])from Codec.append nY a [ql.mk b c d e]];conv=>whnf
  obtain⟨m,h⟩:=qg h;refine⟨⟨Codec.wide nY (a++[ql.mk b c d e]),kod m,zy m (by decide)⟩,?_⟩;conv=>whnf
  refine⟨⟨rfl,rfl,rfl⟩,?_⟩;conv=>whnf
  apply ifc h<;>intro j h
  ·obtain rfl:=sj h
   conv=>whnf
   try exact fin
  conv=>whnf
  exact⟨((a++[ql.mk b c d e]),k),h,wk [2] []⟩
 conv=>whnf
 apply ifc h<;>intro j h
 ·conv=>whnf
  refine bq h fun⟨⟨v,w,x,y⟩,z,_⟩ p h=>⟨_,(Mj n _ _ _ p),?_⟩;conv=>whnf
  apply ifc h<;>intro j h
  ·obtain rfl:=sj h
   conv=>whnf
   try exact fin
  conv=>whnf
  exact⟨(z,v,w,x,y),h,wk [0,1] []⟩
 conv=>whnf
 exact⟨(g,(6:Int),([]:SS),(0:Int),g),h,wk [0,1] []⟩
abbrev DO (r:Bool):PV:=PV.bool r
def sV (n:Nat) (a:Int):Option (Bool):=
 some (bif(bif(bif(bif(a==4)then true else(a==5))then true else(a==6))then true else(a==7))then true else(a==8))
theorem Xh (n:Nat):∀ (a:Int) (r:Bool),sV n a=some r->qc TP 72 [PV.int .i64 a] (DO r):=by
 intro a r h;unfold sV at h;refine zN Tryz.call72 Tryz.func72 [1000000] ?_;conv=>whnf
 iterate 8 refine⟨id,?_⟩
 obtain rfl:=sj h;conv=>whnf
 try exact fin
abbrev MB (_:List ql) (_:Int) (_ r:Bool):FV:=pB r
abbrev Ms (a:List ql) (b:Int) (c r:Bool):List AObj:=[.box 137 [pK a,pI b,pB c]]
def xR (n:Nat) (b:SS) (c:List ql) (d:Int) (e:Bool):Option (Bool):=
 bnd (idx c d) fun⟨a,f,_,_⟩=>
 some (bif(bif(!e)then(bif(a==5)then true else(a==2))else false)then(f==b)else false)
theorem zV (n:Nat):∀ (d:SS) (a:List ql) (b:Int) (c r:Bool),xR n d a b c=some r->zn TP 126 [.ptr 0 0,.p (PV.str d)] [.box 137 [pK a,pI b,pB c]] 1 (fun v lo=>v=MB a b c r/\lo=Ms a b c r):=by
 intro d a b c r h;unfold xR at h;refine zO Tryz.call126 Tryz.func126 [40000001,1000000] ?_;conv=>whnf
 refine bq h fun⟨_,_,_,_⟩ e h=>⟨_,Codec.at_ nY e,?_⟩;conv=>whnf
 iterate 12 refine⟨id,?_⟩
 obtain rfl:=sj h;conv=>whnf
 refine⟨_,_,⟨rfl,rfl⟩,wk [0] []⟩
abbrev HQ (_:List ql) (_:Int) (_:Bool) (r:Bool×Int):FV:=.p (.bool r.1)
abbrev HA (a:List ql) (_:Int) (b:Bool) (r:Bool×Int):List AObj:=[.box 137 [pK a,.p (.int .i64 r.2),pB b]]
def qm (n:Nat) (b:SS) (c:List ql) (a:Int) (d:Bool):Option (Bool×Int):=
 bnd (xR n b c a d) fun e=>
 bif(!e)then(
 some (false,a))
 else(
 some (true,(kwr .i64 (a+1))))
theorem qe (n:Nat):∀ (d:SS) (a:List ql) (b:Int) (c:Bool) (r:Bool×Int),qm n d a b c=some r->zn TP 117 [.ptr 0 0,.p (PV.str d)] [.box 137 [pK a,pI b,pB c]] 1 (fun v lo=>v=HQ a b c r/\lo=HA a b c r):=by
 intro d a b c r h;unfold qm at h;refine zO Tryz.call117 Tryz.func117 [126,1000000] ?_;conv=>whnf
 refine bq h fun f e h=>?_;refine zU (zV n _ _ _ _ _ e) [0] [] ?_;rintro _ _ ⟨rfl,rfl⟩;refine⟨pB f,[.box 137 [pK a,pI b,pB c]],rfl,rfl,?_⟩;conv=>whnf
 apply ifc h<;>intro _ h
 ·obtain rfl:=sj h
  conv=>whnf
  refine⟨_,_,⟨rfl,rfl⟩,wk [0] []⟩
 obtain rfl:=sj h;conv=>whnf
 refine⟨_,_,⟨rfl,rfl⟩,wk [0] []⟩
abbrev DQ (_:List ql) (_:Int) (_:Bool) (r:Int×Bool):FV:=.p (.tup [])
abbrev DD (a:List ql) (_:Int) (_:Bool) (r:Int×Bool):List AObj:=[.box 137 [pK a,.p (.int .i64 r.1),.p (.bool r.2)]]
def qU (n:Nat) (c:SS) (d:List ql) (e:Int) (a:Bool):Option (Int×Bool):=
 bnd (qm n c d e a) fun⟨f,b⟩=>
 bif(!f)then(
 some (b,true))
 else(
 some (b,a))
theorem qH (n:Nat):∀ (d:SS) (a:List ql) (c:Int) (b:Bool) (r:Int×Bool),qU n d a c b=some r->zn TP 121 [.ptr 0 0,.p (PV.str d)] [.box 137 [pK a,pI c,pB b]] 1 (fun v lo=>v=DQ a c b r/\lo=DD a c b r):=by
 intro d a c b r h;unfold qU at h;refine zO Tryz.call121 Tryz.func121 [117,1000000] ?_;conv=>whnf
 refine bq h fun⟨f,g⟩ e h=>?_;refine zU (qe n _ _ _ _ _ e) [0] [] ?_;rintro _ _ ⟨rfl,rfl⟩;refine⟨pB f,[.box 137 [pK a,pI g,pB b]],rfl,rfl,?_⟩;conv=>whnf
 apply ifc h<;>intro _ h
 ·obtain rfl:=sj h
  conv=>whnf
  refine⟨_,_,⟨rfl,rfl⟩,wk [0] []⟩
 obtain rfl:=sj h;conv=>whnf
 refine⟨_,_,⟨rfl,rfl⟩,wk [0] []⟩
abbrev DR (_:List ql) (_:Int) (_:Bool) (r:SS×Int×Bool):FV:=.p (.str r.1)
abbrev DF (a:List ql) (_:Int) (_:Bool) (r:SS×Int×Bool):List AObj:=[.box 137 [pK a,.p (.int .i64 r.2.1),.p (.bool r.2.2)]]
def uJ (n:Nat) (c:List ql) (a:Int) (b:Bool):Option (SS×Int×Bool):=
 bnd (idx c a) fun⟨d,e,_,_⟩=>
 bif(bif b then true else(d != 1))then(
 some (([]:SS),a,true))
 else(
 some (e,(kwr .i64 (a+1)),b))
theorem uf (n:Nat):∀ (a:List ql) (b:Int) (c:Bool) (r:SS×Int×Bool),uJ n a b c=some r->zn TP 122 [.ptr 0 0] [.box 137 [pK a,pI b,pB c]] 1 (fun v lo=>v=DR a b c r/\lo=DF a b c r):=by
 intro a b c r h;unfold uJ at h;refine zO Tryz.call122 Tryz.func122 [40000001,1000000] ?_;conv=>whnf
 refine bq h fun⟨_,_,_,_⟩ d h=>⟨_,Codec.at_ nY d,?_⟩;conv=>whnf
 refine⟨id,id,id,?_⟩;conv=>whnf
 apply ifc h<;>intro _ h
 ·obtain rfl:=sj h
  conv=>whnf
  refine⟨_,_,⟨rfl,rfl⟩,wk [0] []⟩
 obtain rfl:=sj h;conv=>whnf
 refine⟨_,_,⟨rfl,rfl⟩,wk [0] []⟩
abbrev Ur (_:List ql) (_:Int) (_:Bool) (r:SS×Int×Bool):FV:=.p (.str r.1)
abbrev Up (a:List ql) (_:Int) (_:Bool) (r:SS×Int×Bool):List AObj:=[.box 137 [pK a,.p (.int .i64 r.2.1),.p (.bool r.2.2)]]
def fw (n:Nat) (c:List ql) (b:Int) (a:Bool):Option (SS×Int×Bool):=
 bnd (qE (!a) (idx c b)) fun⟨e,_,_,_⟩=>
 bif(bif a then true else(e != 1))then(
 some (([]:SS),b,a))
 else(
 bnd (uJ n c b a) fun⟨f,g,d⟩=>
 some (f,g,d))
theorem dZ (n:Nat):∀ (a:List ql) (b:Int) (c:Bool) (r:SS×Int×Bool),fw n a b c=some r->zn TP 157 [.ptr 0 0] [.box 137 [pK a,pI b,pB c]] 1 (fun v lo=>v=Ur a b c r/\lo=Up a b c r):=by
 intro a b c r h;unfold fw at h;refine zO Tryz.call157 Tryz.func157 [122,1000000] ?_;conv=>whnf
 iterate 8 refine⟨id,?_⟩
 conv=>whnf
 refine bq h fun⟨_,_,_,_⟩ e h=>⟨_,fun f=>Codec.at_ nY (qb e f),?_⟩;conv=>whnf
 refine⟨id,id,id,id,?_⟩;conv=>whnf
 apply ifc h<;>intro _ h
 ·obtain rfl:=sj h
  conv=>whnf
  refine⟨_,_,⟨rfl,rfl⟩,wk [0] []⟩
 conv=>whnf
 refine bq h fun⟨i,j,g⟩ d h=>?_;refine zU (uf n _ _ _ _ d) [0] [] ?_;rintro _ _ ⟨rfl,rfl⟩;refine⟨pS i,[.box 137 [pK a,pI j,pB g]],rfl,rfl,?_⟩;obtain rfl:=sj h;conv=>whnf
 refine⟨_,_,⟨rfl,rfl⟩,wk [0] []⟩
abbrev HR (_:List ql) (_:Int) (_:Bool) (r:SS×Int×Bool):FV:=.p (.str r.1)
abbrev HB (a:List ql) (_:Int) (_:Bool) (r:SS×Int×Bool):List AObj:=[.box 137 [pK a,.p (.int .i64 r.2.1),.p (.bool r.2.2)]]
def gG (n:Nat) (e:List ql) (b:Int) (c:Bool):Option (SS×Int×Bool):=
 bnd (idx e b) fun⟨a,d,_,_⟩=>
 bnd (qE (((!c)&&(a != 1))&&(!(a != 4))) (gu n d)) fun f=>
 bif(bif c then true else(bif(a != 1)then(bif(a != 4)then true else(!f))else false))then(
 some (([]:SS),b,true))
 else(
 some (d,(kwr .i64 (b+1)),c))
theorem uI (n:Nat):∀ (a:List ql) (b:Int) (c:Bool) (r:SS×Int×Bool),gG n a b c=some r->zn TP 158 [.ptr 0 0] [.box 137 [pK a,pI b,pB c]] 1 (fun v lo=>v=HR a b c r/\lo=HB a b c r):=by
 intro a b c r h;unfold gG at h;refine zO Tryz.call158 Tryz.func158 [40000001,1000000] ?_;conv=>whnf
 refine bq h fun⟨_,_,_,_⟩ e h=>⟨_,Codec.at_ nY e,?_⟩;conv=>whnf
 iterate 8 refine⟨id,?_⟩
 conv=>whnf
 refine bq h fun _ d h=>⟨_,fun f=>(ue n _ _ (qb d f)),?_⟩;conv=>whnf
 iterate 6 refine⟨id,?_⟩
 conv=>whnf
 apply ifc h<;>intro _ h
 ·obtain rfl:=sj h
  conv=>whnf
  refine⟨_,_,⟨rfl,rfl⟩,wk [0] []⟩
 obtain rfl:=sj h;conv=>whnf
 refine⟨_,_,⟨rfl,rfl⟩,wk [0] []⟩
abbrev Pv (r:qa):PV:=PV.agg (zx.cells r)
def nJ (n:Nat) (b:Int) (a:qa):Option (qa):=
 match a with
 | ⟨e,f,⟨g,i,j,k,l,m⟩,c,d⟩=>
 some (qa.mk b ([]:SS) (Val.mk (0:Int) false (0:Int) ([]:SS) ([]:List Val) ([]:List SS)) ([]:List SS) [qa.mk e f (Val.mk g i j k l m) c d])
theorem bh (n:Nat):∀ (b:Int) (a r:qa),nJ n b a=some r->qc TP 229 [PV.int .i64 b,PV.agg (zx.cells a)] (Pv r):=by
 intro b a r h;obtain⟨e,f,⟨g,i,j,k,l,m⟩,c,d⟩:=a;unfold nJ at h;refine zN Tryz.call229 Tryz.func229 [1000000] ?_;conv=>whnf
 refine⟨Codec.one zx [qa.mk e f (Val.mk g i j k l m) c d],qa.rows [qa.mk e f (Val.mk g i j k l m) c d],.inl rfl,?_⟩;obtain rfl:=sj h;conv=>whnf
 try exact fin
abbrev Pw (r:qa):PV:=PV.agg (zx.cells r)
def fx (n:Nat) (c:SS) (a b:qa):Option (qa):=
 match a,b with
 | ⟨p,t,⟨u,v,w,x,y,z⟩,d,e⟩,⟨f,g,⟨i,j,k,l,m,o⟩,q,s⟩=>
 some (qa.mk (10:Int) c (Val.mk (0:Int) false (0:Int) ([]:SS) ([]:List Val) ([]:List SS)) ([]:List SS) [qa.mk p t (Val.mk u v w x y z) d e,qa.mk f g (Val.mk i j k l m o) q s])
theorem uK (n:Nat):∀ (c:SS) (a b r:qa),fx n c a b=some r->qc TP 156 [PV.str c,PV.agg (zx.cells a),PV.agg (zx.cells b)] (Pw r):=by
 intro c a b r h;obtain⟨p,t,⟨u,v,w,x,y,z⟩,d,e⟩:=a;obtain⟨f,g,⟨i,j,k,l,m,o⟩,q,s⟩:=b;unfold fx at h;refine zN Tryz.call156 Tryz.func156 [1000000] ?_;conv=>whnf
 refine⟨Codec.one zx [qa.mk p t (Val.mk u v w x y z) d e,qa.mk f g (Val.mk i j k l m o) q s],qa.rows [qa.mk p t (Val.mk u v w x y z) d e,qa.mk f g (Val.mk i j k l m o) q s],.inl rfl,?_⟩;obtain rfl:=sj h;conv=>whnf
 try exact fin
end W
end
