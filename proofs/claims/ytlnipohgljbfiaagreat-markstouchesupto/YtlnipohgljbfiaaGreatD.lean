/- A part of the proof: contracts, printed by program. -/
import Derived.Test.YtlnipohgljbfiaaGreatB
import Derived.Test.YtlnipohgljbfiaaGreatC
set_option linter.unusedVariables false
set_option linter.unusedSimpArgs false
set_option linter.unnecessarySimpa false
set_option linter.deprecated false
set_option linter.unusedSectionVars false
set_option linter.constructorNameAsVariable false
open Go.IntKind renaming wrap->kwr,bits->kbt
section
set_option maxRecDepth 100000
set_option maxHeartbeats 4000000
open Go Go.Proofs Ax
namespace W
abbrev Zt (r:Int):PV:=PV.int .i64 r
def mm (n:Nat) (b:List Val) (g48:Val->Option (Int)):LK (Int×Int) (Int):=fun d (c,a)=>
 bif(decide (a<((Val.rows b).length:Int)))then(
 bnd (idx b a) fun⟨l,e,f,g,i,j⟩=>
 bnd (g48 (Val.mk l e f g i j)) fun k=>
 d ((kwr .i64 (c+k)),(kwr .i64 (a+1))))
 else(
 some c)
def Xs (n:Nat) (g48:Val->Option (Int)) (a:Val):Option (Int):=
 match a with
 | ⟨_,_,_,_,b,_⟩=>
 qo (mm n b g48) n ((1:Int),(0:Int))
theorem LX (n:Nat) (g48:Val->Option (Int)) (g48_ok:∀ (a:Val) (r:Int),g48 a=some r->qb TP 48 [PV.agg (gM.cells a)] (Zt r)):∀ (a:Val) (r:Int),Xs n g48 a=some r->qb TP 48 [PV.agg (gM.cells a)] (Zt r):=by
 intro a r h;obtain⟨g,j,k,l,d,m⟩:=a;unfold Xs at h;refine zN Tryz.call48 Tryz.func48 [1000000] ?_;conv=>whnf
 refine qX.fn [1000000] (S:=Int×Int) (fun(b,c)=>[(1,.ptr 0 0),(3,pI b),(4,pI c)]) (fun(b,c)=>[.box 28 [pI g,pB j,pI k,pS l,pV d,pT m]]) (B:=mm n d g48) h (wk [0] []) ?_;intro _ st h;obtain⟨b,c⟩:=st;unfold mm at h;conv=>whnf
 apply ifc h<;>intro _ h
 ·conv=>whnf
  refine bq h fun⟨_,_,_,_,_,_⟩ f h=>⟨_,Codec.at_ gM f,?_⟩;conv=>whnf
  refine bq h fun i e h=>⟨_,(g48_ok _ _ e),?_⟩;conv=>whnf
  exact⟨((kwr .i64 (b+i)),(kwr .i64 (c+1))),h,wk [0] []⟩
 obtain rfl:=sj h;conv=>whnf
 try exact fin
def nw:Nat->Val->Option (Int)
 | 0=>fun _=>none
 | n+1=>Xs n (nw n)
theorem Mc (n:Nat):(∀ (a:Val) (r:Int),nw n a=some r->qb TP 48 [PV.agg (gM.cells a)] (Zt r)):=by
 induction n with
 | zero=>exact(by intros; rename_i h; cases h)
 | succ n ih=>
  have hg48:=ih;exact LX n (nw n) hg48
theorem Pq (n:Nat):∀ (a:Val) (r:Int),nw n a=some r->qb TP 48 [PV.agg (gM.cells a)] (Zt r):=(Mc n)
abbrev Zv (r:Int):PV:=PV.int .i64 r
def mD (n:Nat) (c:List qe) (d:Int) (g19:qe->Int->Option (Int)):LK (Int×Int) (Int):=fun e (a,b)=>
 bif(bif(decide (b<((qe.rows c).length:Int)))then(decide (a<d))else false)then(
 bnd (idx c b) fun⟨f,g,⟨i,j,k,l,m,o⟩,p,q⟩=>
 bnd (g19 (qe.mk f g (Val.mk i j k l m o) p q) (kwr .i64 (d - a))) fun s=>
 e ((kwr .i64 (a+s)),(kwr .i64 (b+1))))
 else(
 some a)
def Xu (n:Nat) (g19:qe->Int->Option (Int)) (b:qe) (d:Int):Option (Int):=
 match b with
 | ⟨_,f,⟨g,i,j,a,k,l⟩,_,c⟩=>
 bnd (nw n (Val.mk g i j a k l)) fun e=>
 qo (mD n c d g19) n ((kwr .i64 ((kwr .i64 ((kwr .i64 ((1:Int)+(kwr .i64 (Int.tdiv ((f.length:Nat):Int) (16:Int)))))+(kwr .i64 (Int.tdiv ((a.length:Nat):Int) (16:Int)))))+e)),(0:Int))
theorem LZ (n:Nat) (g19:qe->Int->Option (Int)) (g19_ok:∀ (b:qe) (a r:Int),g19 b a=some r->qb TP 19 [PV.agg (zX.cells b),PV.int .i64 a] (Zv r)):∀ (b:qe) (a r:Int),Xu n g19 b a=some r->qb TP 19 [PV.agg (zX.cells b),PV.int .i64 a] (Zv r):=by
 intro b a r h;obtain⟨j,k,⟨m,o,p,q,s,t⟩,u,e⟩:=b;unfold Xu at h;refine zN Tryz.call19 Tryz.func19 [1000000] ?_;conv=>whnf
 refine⟨by unfold gI; decide,?_⟩;conv=>whnf
 refine⟨by unfold gI; decide,?_⟩;conv=>whnf
 refine bq h fun _ i h=>⟨_,(Pq n _ _ i),?_⟩;conv=>whnf
 refine qX.fn [1000000] (S:=Int×Int) (fun(c,d)=>[(1,pI a),(2,.ptr 0 0),(5,pI c),(6,pI d)]) (fun(c,d)=>[.box 49 [pI j,pS k,pI m,pB o,pI p,pS q,pV s,pT t,pT u,pE e]]) (B:=mD n e a g19) h (wk [0] []) ?_;intro _ st h;obtain⟨c,d⟩:=st;unfold mD at h;conv=>whnf
 refine⟨id,id,id,?_⟩;conv=>whnf
 apply ifc h<;>intro _ h
 ·conv=>whnf
  refine bq h fun⟨_,_,⟨_,_,_,_,_,_⟩,_,_⟩ g h=>⟨_,Codec.at_ zX g,?_⟩;conv=>whnf
  refine bq h fun l f h=>⟨_,(g19_ok _ _ _ f),?_⟩;conv=>whnf
  exact⟨((kwr .i64 (c+l)),(kwr .i64 (d+1))),h,wk [0] []⟩
 obtain rfl:=sj h;conv=>whnf
 try exact fin
def gT:Nat->qe->Int->Option (Int)
 | 0=>fun _ _=>none
 | n+1=>Xu n (gT n)
theorem Mh (n:Nat):(∀ (a:qe) (b r:Int),gT n a b=some r->qb TP 19 [PV.agg (zX.cells a),PV.int .i64 b] (Zv r)):=by
 induction n with
 | zero=>exact(by intros; rename_i h; cases h)
 | succ n ih=>
  have hg19:=ih;exact LZ n (gT n) hg19
theorem rV (n:Nat):∀ (a:qe) (b r:Int),gT n a b=some r->qb TP 19 [PV.agg (zX.cells a),PV.int .i64 b] (Zv r):=(Mh n)
abbrev Ld (r:Int):PV:=PV.int .i64 r
def fA (n:Nat) (c:List qe) (d:Int):LK (Int×Int) (Int):=fun e (a,b)=>
 bif(bif(decide (b<((qe.rows c).length:Int)))then(decide (a<d))else false)then(
 bnd (idx c b) fun⟨m,o,⟨p,q,s,f,g,i⟩,j,k⟩=>
 bnd (gT n (qe.mk m o (Val.mk p q s f g i) j k) (kwr .i64 (d - a))) fun l=>
 e ((kwr .i64 (a+l)),(kwr .i64 (b+1))))
 else(
 some a)
def gu (n:Nat) (a:List qe) (b:Int):Option (Int):=
 qo (fA n a b) n ((0:Int),(0:Int))
theorem dI (n:Nat):∀ (a:List qe) (b r:Int),gu n a b=some r->qb TP 20 [PV.sl (qe.rows a),PV.int .i64 b] (Ld r):=by
 intro a b r h;unfold gu at h;refine zN Tryz.call20 Tryz.func20 [1000000] ?_;conv=>whnf
 refine qX.fn [1000000] (S:=Int×Int) (fun(c,d)=>[(0,pE a),(1,pI b),(5,pI c),(6,pI d)]) (fun(c,d)=>[]) (B:=fA n a b) h (wk [] []) ?_;intro _ st h;obtain⟨c,d⟩:=st;unfold fA at h;conv=>whnf
 refine⟨id,id,id,?_⟩;conv=>whnf
 apply ifc h<;>intro _ h
 ·conv=>whnf
  refine bq h fun⟨_,_,⟨_,_,_,_,_,_⟩,_,_⟩ f h=>⟨_,Codec.at_ zX f,?_⟩;conv=>whnf
  refine bq h fun g e h=>⟨_,(rV n _ _ _ e),?_⟩;conv=>whnf
  exact⟨((kwr .i64 (c+g)),(kwr .i64 (d+1))),h,wk [] []⟩
 obtain rfl:=sj h;conv=>whnf
 try exact fin
abbrev SP (r:Bool):PV:=PV.bool r
def dn (n:Nat) (d:List zx) (a:Int) (e:Int×Int->Option (Bool)):LK (Int×Int) (Bool):=fun f (b,c)=>
 bnd (idx d a) fun⟨_,g⟩=>
 bif(bif(decide (c<((qy.rows g).length:Int)))then(decide (b<3000))else false)then(
 bnd (idx d a) fun⟨_,i⟩=>
 bnd (idx i c) fun⟨_,_,_,_,j⟩=>
 bnd (gu n j (3000:Int)) fun k=>
 f ((kwr .i64 ((kwr .i64 (b+1))+k)),(kwr .i64 (c+1))))
 else(
 e (b,(kwr .i64 (a+1))))
def mz (n:Nat) (c:List zx) (a:Int) (e:Int×Int->Option (Bool)):LK (Int×Int) (Bool):=fun f (d,b)=>
 bnd (idx c a) fun⟨g,_⟩=>
 bif(bif(decide (b<((qt.rows g).length:Int)))then(decide (d<3000))else false)then(
 bnd (idx c a) fun⟨i,_⟩=>
 bnd (idx i b) fun⟨_,j,_,_⟩=>
 bnd (idx c a) fun⟨k,_⟩=>
 bnd (idx k b) fun⟨_,_,_,l⟩=>
 bnd (gu n l (3000:Int)) fun m=>
 f ((kwr .i64 ((kwr .i64 ((kwr .i64 (d+1))+((qi j).length:Int)))+m)),(kwr .i64 (b+1))))
 else(
 qo (dn n c a e) n (d,(0:Int)))
def fq (n:Nat) (c:List qj) (d:Int×Int->Option (Bool)) (l:Int):LK (Int×Int) (Bool):=fun e (a,b)=>
 bif(bif(decide (b<((qj.rows c).length:Int)))then(decide (a<3000))else false)then(
 bnd (idx c b) fun⟨_,_,_,⟨m,o,⟨p,q,s,t,f,g⟩,i,j⟩⟩=>
 bnd (gT n (qe.mk m o (Val.mk p q s t f g) i j) (3000:Int)) fun k=>
 e ((kwr .i64 ((kwr .i64 (a+1))+k)),(kwr .i64 (b+1))))
 else(
 d (a,(kwr .i64 (l+1))))
def fp (n:Nat) (c:List qS) (f:List qj) (d:Int×Int->Option (Bool)) (g:Int):LK (Int×Int) (Bool):=fun e (a,b)=>
 bif(bif(decide (b<((qS.rows c).length:Int)))then(decide (a<3000))else false)then(
 bnd (idx c b) fun⟨⟨i,j,⟨k,l,m,o,p,q⟩,s,t⟩,_⟩=>
 bnd (gT n (qe.mk i j (Val.mk k l m o p q) s t) (3000:Int)) fun u=>
 e ((kwr .i64 (a+u)),(kwr .i64 (b+1))))
 else(
 qo (fq n f d g) n (a,(0:Int)))
def fo (n:Nat) (c:List xM) (f:List qS) (g:List qj) (d:Int×Int->Option (Bool)) (i:Int):LK (Int×Int) (Bool):=fun e (a,b)=>
 bif(bif(decide (b<((xM.rows c).length:Int)))then(decide (a<3000))else false)then(
 bnd (idx c b) fun⟨⟨j,k,⟨l,m,o,p,q,s⟩,t,u⟩,_⟩=>
 bnd (gT n (qe.mk j k (Val.mk l m o p q s) t u) (3000:Int)) fun v=>
 e ((kwr .i64 (a+v)),(kwr .i64 (b+1))))
 else(
 qo (fp n f g d i) n (a,(0:Int)))
def dm (n:Nat) (c:List zx) (f:List xM) (g:List qS) (i:List qj) (d:Int×Int->Option (Bool)) (j:Int):LK (Int×Int) (Bool):=fun e (a,b)=>
 bif(bif(decide (b<((zx.rows c).length:Int)))then(decide (a<3000))else false)then(
 qo (mz n c b e) n (a,(0:Int)))
 else(
 qo (fo n f g i d j) n (a,(0:Int)))
def my (n:Nat) (c:List qd):LK (Int×Int) (Bool):=fun d (a,b)=>
 bif(bif(decide (b<((qd.rows c).length:Int)))then(decide (a<3000))else false)then(
 bnd (idx c b) fun⟨_,y,z,⟨A,B,⟨C,e,f,g,i,j⟩,k,l⟩,_,m,_,o,p,q,s,t,_⟩=>
 bnd (gT n (qe.mk A B (Val.mk C e f g i j) k l) (3000:Int)) fun u=>
 bnd (gu n z (3000:Int)) fun v=>
 bnd (gu n p (3000:Int)) fun w=>
 bnd (gu n q (3000:Int)) fun x=>
 qo (dm n y m o s d b) n ((kwr .i64 ((kwr .i64 ((kwr .i64 ((kwr .i64 ((kwr .i64 ((kwr .i64 (a+1))+u))+v))+w))+x))+((qi t).length:Int))),(0:Int)))
 else(
 some (decide (a≥3000)))
def sH (n:Nat) (a:bu):Option (Bool):=
 match a with
 | ⟨b⟩=>
 qo (my n b) n ((0:Int),(0:Int))
theorem Vc (n:Nat):∀ (G:bu) (r:Bool),sH n G=some r->qb TP 6 [PV.agg (Cn.cells G)] (SP r):=by
 intro G r h;obtain⟨e⟩:=G;unfold sH at h;refine zN Tryz.call6 Tryz.func6 [1000000] ?_;conv=>whnf
 refine qX.fn [1000000] (S:=Int×Int) (fun(Q,a)=>[(1,.ptr 0 0),(3,pI Q),(4,pI a)]) (fun(Q,a)=>[.box 24 [pC e]]) (B:=my n e) h (wk [0] []) ?_;intro H st h;obtain⟨Q,a⟩:=st;unfold my at h;conv=>whnf
 refine⟨id,id,?_⟩;conv=>whnf
 apply ifc h<;>intro i h
 ·conv=>whnf
  refine bq h fun⟨y,d,z,⟨A,C,⟨D,j,k,l,m,o⟩,p,q⟩,s,f,t,c,u,v,b,w,x⟩ a7 h=>⟨_,Codec.at_ xN a7,?_⟩;conv=>whnf
  refine bq h fun _ a6 h=>⟨_,(rV n _ _ _ a6),?_⟩;conv=>whnf
  refine bq h fun _ a4 h=>⟨_,(dI n _ _ _ a4),?_⟩;conv=>whnf
  refine bq h fun _ a3 h=>⟨_,(dI n _ _ _ a3),?_⟩;conv=>whnf
  refine bq h fun _ a2 h=>⟨_,(dI n _ _ _ a2),?_⟩;conv=>whnf
  refine qX.fn [1000000] (S:=Int×Int) (fun(R,g)=>[(1,.ptr 0 0),(3,pI R),(4,pI a),(5,.ptr 1 0),(6,pI g)]) (fun(R,g)=>[.box 24 [pC e],.box 54 [pI y,pP d,pE z,pI A,pS C,pI D,pB j,pI k,pS l,pV m,pT o,pT p,pE q,pS s,pA f,pB t,pO c,pE u,pE v,pU b,pT w,pB x]]) (B:=dm n d f c b H a) h (wk [0,1] []) ?_;intro T st h;obtain⟨R,g⟩:=st;unfold dm at h;conv=>whnf
  refine⟨id,id,?_⟩;conv=>whnf
  apply ifc h<;>intro i h
  ·conv=>whnf
   refine qX.fn [1000000] (S:=Int×Int) (fun(I,J)=>[(1,.ptr 0 0),(3,pI I),(4,pI a),(5,.ptr 1 0),(6,pI g),(7,pI J)]) (fun(I,J)=>[.box 24 [pC e],.box 54 [pI y,pP d,pE z,pI A,pS C,pI D,pB j,pI k,pS l,pV m,pT o,pT p,pE q,pS s,pA f,pB t,pO c,pE u,pE v,pU b,pT w,pB x]]) (B:=mz n d g T) h (wk [0,1] []) ?_;intro _ st h;obtain⟨I,J⟩:=st;unfold mz at h;conv=>whnf
   refine bq h fun⟨_,_⟩ V h=>⟨_,Codec.at_ pb V,?_⟩;conv=>whnf
   refine⟨id,id,?_⟩;conv=>whnf
   apply ifc h<;>intro i h
   ·conv=>whnf
    refine bq h fun⟨_,_⟩ b0 h=>⟨_,Codec.at_ pb b0,?_⟩;(conv=>whnf);refine bq h fun⟨_,b6,_,_⟩ a9 h=>⟨_,Codec.at_ gO a9,?_⟩;(conv=>whnf);refine bq h fun⟨_,_⟩ a8 h=>⟨_,Codec.at_ pb a8,?_⟩;(conv=>whnf);refine bq h fun⟨_,_,_,_⟩ a5 h=>⟨_,Codec.at_ gO a5,?_⟩;(conv=>whnf);refine bq h fun b7 U h=>⟨_,(dI n _ _ _ U),?_⟩;(conv=>whnf);exact⟨((kwr .i64 ((kwr .i64 ((kwr .i64 (I+1))+((qi b6).length:Int)))+b7)),(kwr .i64 (J+1))),h,wk [0,1] []⟩
   conv=>whnf
   refine qX.fn [1000000] (S:=Int×Int) (fun(E,K)=>[(1,.ptr 0 0),(3,pI E),(4,pI a),(5,.ptr 1 0),(6,pI g),(8,pI K)]) (fun(E,K)=>[.box 24 [pC e],.box 54 [pI y,pP d,pE z,pI A,pS C,pI D,pB j,pI k,pS l,pV m,pT o,pT p,pE q,pS s,pA f,pB t,pO c,pE u,pE v,pU b,pT w,pB x]]) (B:=dn n d g T) h (wk [0,1] []) ?_;intro _ st h;obtain⟨E,K⟩:=st;unfold dn at h;conv=>whnf
   refine bq h fun⟨_,_⟩ b4 h=>⟨_,Codec.at_ pb b4,?_⟩;conv=>whnf
   refine⟨id,id,?_⟩;conv=>whnf
   apply ifc h<;>intro i h
   ·conv=>whnf
    refine bq h fun⟨_,_⟩ b3 h=>⟨_,Codec.at_ pb b3,?_⟩;(conv=>whnf);refine bq h fun⟨_,_,_,_,_⟩ b2 h=>⟨_,Codec.at_ cZ b2,?_⟩;(conv=>whnf);refine bq h fun b8 b1 h=>⟨_,(dI n _ _ _ b1),?_⟩;(conv=>whnf);exact⟨((kwr .i64 ((kwr .i64 (E+1))+b8)),(kwr .i64 (K+1))),h,wk [0,1] []⟩
   conv=>whnf
   exact⟨(E,(kwr .i64 (g+1))),h,wk [0,1] []⟩
  conv=>whnf
  refine qX.fn [1000000] (S:=Int×Int) (fun(L,M)=>[(1,.ptr 0 0),(3,pI L),(4,pI a),(5,.ptr 1 0),(9,pI M)]) (fun(L,M)=>[.box 24 [pC e],.box 54 [pI y,pP d,pE z,pI A,pS C,pI D,pB j,pI k,pS l,pV m,pT o,pT p,pE q,pS s,pA f,pB t,pO c,pE u,pE v,pU b,pT w,pB x]]) (B:=fo n f c b H a) h (wk [0,1] []) ?_;intro _ st h;obtain⟨L,M⟩:=st;unfold fo at h;conv=>whnf
  refine⟨id,id,?_⟩;conv=>whnf
  apply ifc h<;>intro i h
  ·conv=>whnf
   refine bq h fun⟨⟨_,_,⟨_,_,_,_,_,_⟩,_,_⟩,_⟩ X h=>⟨_,Codec.at_ VE X,?_⟩;conv=>whnf
   refine bq h fun b9 W h=>⟨_,(rV n _ _ _ W),?_⟩;conv=>whnf
   exact⟨((kwr .i64 (L+b9)),(kwr .i64 (M+1))),h,wk [0,1] []⟩
  conv=>whnf
  refine qX.fn [1000000] (S:=Int×Int) (fun(N,O)=>[(1,.ptr 0 0),(3,pI N),(4,pI a),(5,.ptr 1 0),(10,pI O)]) (fun(N,O)=>[.box 24 [pC e],.box 54 [pI y,pP d,pE z,pI A,pS C,pI D,pB j,pI k,pS l,pV m,pT o,pT p,pE q,pS s,pA f,pB t,pO c,pE u,pE v,pU b,pT w,pB x]]) (B:=fp n c b H a) h (wk [0,1] []) ?_;intro _ st h;obtain⟨N,O⟩:=st;unfold fp at h;conv=>whnf
  refine⟨id,id,?_⟩;conv=>whnf
  apply ifc h<;>intro i h
  ·conv=>whnf
   refine bq h fun⟨⟨_,_,⟨_,_,_,_,_,_⟩,_,_⟩,_⟩ Z h=>⟨_,Codec.at_ Za Z,?_⟩;conv=>whnf
   refine bq h fun c0 Y h=>⟨_,(rV n _ _ _ Y),?_⟩;conv=>whnf
   exact⟨((kwr .i64 (N+c0)),(kwr .i64 (O+1))),h,wk [0,1] []⟩
  conv=>whnf
  refine qX.fn [1000000] (S:=Int×Int) (fun(F,P)=>[(1,.ptr 0 0),(3,pI F),(4,pI a),(5,.ptr 1 0),(11,pI P)]) (fun(F,P)=>[.box 24 [pC e],.box 54 [pI y,pP d,pE z,pI A,pS C,pI D,pB j,pI k,pS l,pV m,pT o,pT p,pE q,pS s,pA f,pB t,pO c,pE u,pE v,pU b,pT w,pB x]]) (B:=fq n b H a) h (wk [0,1] []) ?_;intro _ st h;obtain⟨F,P⟩:=st;unfold fq at h;conv=>whnf
  refine⟨id,id,?_⟩;conv=>whnf
  apply ifc h<;>intro i h
  ·conv=>whnf
   refine bq h fun⟨_,_,_,⟨_,_,⟨_,_,_,_,_,_⟩,_,_⟩⟩ a1 h=>⟨_,Codec.at_ nr a1,?_⟩;conv=>whnf
   refine bq h fun b5 a0 h=>⟨_,(rV n _ _ _ a0),?_⟩;conv=>whnf
   exact⟨((kwr .i64 ((kwr .i64 (F+1))+b5)),(kwr .i64 (P+1))),h,wk [0,1] []⟩
  conv=>whnf
  exact⟨(F,(kwr .i64 (a+1))),h,wk [0] []⟩
 obtain rfl:=sj h;conv=>whnf
 try exact fin
abbrev PO (r:Bool):PV:=PV.bool r
def QD (n:Nat) (b:Val):Option (Bool):=
 match b with
 | ⟨a,c,d,e,f,g⟩=>
 bif(bif(a != 1)then c else false)then(
 some false)
 else(
 bif(bif(bif(bif(a != 2)then(a != 6)else false)then(a != 7)else false)then(d != 0)else false)then(
 some false)
 else(
 bif(bif(a != 3)then(!(e==([]:SS)))else false)then(
 some false)
 else(
 bif(bif(bif(a != 4)then(a != 5)else false)then(decide (((Val.rows f).length:Int)>0))else false)then(
 some false)
 else(
 some (bif(a==5)then true else(((qi g).length:Int)==0))))))
theorem Me (n:Nat):∀ (a:Val) (r:Bool),QD n a=some r->qb TP 87 [PV.agg (gM.cells a)] (PO r):=by
 intro a r h;obtain⟨_,_,_,_,_,_⟩:=a;unfold QD at h;refine zN Tryz.call87 Tryz.func87 [1000000] ?_;conv=>whnf
 refine⟨id,id,?_⟩;conv=>whnf
 apply ifc h<;>intro b h
 ·obtain rfl:=sj h
  conv=>whnf
  try exact fin
 conv=>whnf
 iterate 9 refine⟨id,?_⟩
 conv=>whnf
 apply ifc h<;>intro b h
 ·obtain rfl:=sj h
  conv=>whnf
  try exact fin
 conv=>whnf
 refine⟨id,id,id,?_⟩;conv=>whnf
 apply ifc h<;>intro b h
 ·obtain rfl:=sj h
  conv=>whnf
  try exact fin
 conv=>whnf
 iterate 7 refine⟨id,?_⟩
 conv=>whnf
 apply ifc h<;>intro b h
 ·obtain rfl:=sj h
  conv=>whnf
  try exact fin
 conv=>whnf
 refine⟨id,id,id,id,?_⟩;obtain rfl:=sj h;conv=>whnf
 try exact fin
abbrev Ue (r:Int×Bool):PV:=PV.tup [PV.int .i64 r.1,PV.bool r.2]
abbrev qoo:Type:=Val->Int->Int->Option (Int×Bool)
def fk (n:Nat) (d:List Val) (g49:qoo) (o:Int):LK (Int×Int) (Int×Bool):=fun e (b,a)=>
 bif(decide (a<((Val.rows d).length:Int)))then(
 bnd (idx d a) fun⟨f,g,i,j,k,l⟩=>
 bnd (g49 (Val.mk f g i j k l) (kwr .i64 (o - 1)) b) fun⟨c,m⟩=>
 bif(!m)then(
 some (c,false))
 else(
 e (c,(kwr .i64 (a+1)))))
 else(
 some (b,true))
def bx (n:Nat) (a:List Val) (g49:qoo) (b c:Int):Unit->Option (Int×Bool):=fun _=>
 qo (fk n a g49 b) n ((kwr .i64 (c+1)),(0:Int))
def uG (n:Nat) (b:List SS) (g:Int) (j:List Val) (g49:qoo) (k:Int):LK (Int) (Int×Bool):=fun i a=>
 bif(decide (a<((qi b).length:Int)))then(
 bnd (idx b a) fun c=>
 bnd (qD (!(decide (((c.length:Nat):Int)<1))) (idx b a)) fun d=>
 bnd (qD ((!(bif(decide (((c.length:Nat):Int)<1))then true else(decide (((d.length:Nat):Int)>64))))&&(decide (a>0))) (idx b a)) fun e=>
 bnd (qD ((!(bif(decide (((c.length:Nat):Int)<1))then true else(decide (((d.length:Nat):Int)>64))))&&(decide (a>0))) (idx b (kwr .i64 (a - 1)))) fun f=>
 bif(bif(bif(decide (((c.length:Nat):Int)<1))then true else(decide (((d.length:Nat):Int)>64)))then true else(bif(decide (a>0))then(Op.bytesLess e f||e==f)else false))then(
 some ((kwr .i64 (g+1)),false))
 else(
 i (kwr .i64 (a+1))))
 else(
 bx n j g49 k g ())
def ZD (n:Nat) (g49:qoo) (g:Val) (d b:Int):Option (Int×Bool):=
 match g with
 | ⟨a,i,f,j,c,e⟩=>
 bnd (qD (!(bif(bif(bif(decide ((kwr .i64 (b+1))>4096))then true else(decide (d<1)))then true else(decide (a<0)))then true else(decide (a>7)))) (QD n (Val.mk a i f j c e))) fun k=>
 bif(bif(bif(bif(bif(decide ((kwr .i64 (b+1))>4096))then true else(decide (d<1)))then true else(decide (a<0)))then true else(decide (a>7)))then true else(!k))then(
 some ((kwr .i64 (b+1)),false))
 else(
 bif(bif(bif(a==6)then true else(a==7))then(decide (f<1))else false)then(
 some ((kwr .i64 (b+1)),false))
 else(
 bif(a==5)then(
 bif(((qi e).length:Int) != ((Val.rows c).length:Int))then(
 some ((kwr .i64 (b+1)),false))
 else(
 qo (uG n e b c g49 d) n (0:Int)))
 else(
 bx n c g49 d b ())))
theorem Si (n:Nat) (g49:qoo) (g49_ok:∀ (c:Val) (a b:Int) (r:Int×Bool),g49 c a b=some r->qb TP 49 [PV.agg (gM.cells c),PV.int .i64 a,PV.int .i64 b] (Ue r)):∀ (c:Val) (a b:Int) (r:Int×Bool),ZD n g49 c a b=some r->qb TP 49 [PV.agg (gM.cells c),PV.int .i64 a,PV.int .i64 b] (Ue r):=by
 intro c a b r h;obtain⟨k,m,o,q,f,j⟩:=c;unfold ZD at h;refine zN Tryz.call49 Tryz.func49 [1000000] ?_;conv=>whnf
 iterate 9 refine⟨id,?_⟩
 conv=>whnf
 refine bq h fun _ y h=>⟨_,fun e=>(Me n _ _ (qa y e)),?_⟩;conv=>whnf
 refine⟨id,id,?_⟩;conv=>whnf
 apply ifc h<;>intro d h
 ·obtain rfl:=sj h
  conv=>whnf
  try exact fin
 conv=>whnf
 iterate 6 refine⟨id,?_⟩
 conv=>whnf
 apply ifc h<;>intro d h
 ·obtain rfl:=sj h
  conv=>whnf
  try exact fin
 conv=>whnf
 refine cY.cut (S:=Unit) (fun _=>[(1,pI a),(2,.p (.int .i64 (kwr .i64 (b+1)))),(3,.ptr 0 0)]) (fun _=>[.box 28 [pI k,pB m,pI o,pS q,pV f,pT j]]) (bx n f g49 a b) (r:=r) ?_ ?_
 ·intro _ h
  unfold bx at h;conv=>whnf
  refine qX.fn [1000000] (S:=Int×Int) (fun(l,g)=>[(1,pI a),(2,pI l),(3,.ptr 0 0),(9,pI g)]) (fun(l,g)=>[.box 28 [pI k,pB m,pI o,pS q,pV f,pT j]]) (B:=fk n f g49 a) h (wk [0] []) ?_;intro _ st h;obtain⟨l,g⟩:=st;unfold fk at h;conv=>whnf
  apply ifc h<;>intro d h
  ·conv=>whnf
   refine bq h fun⟨_,_,_,_,_,_⟩ t h=>⟨_,Codec.at_ gM t,?_⟩;conv=>whnf
   refine bq h fun⟨z,_⟩ s h=>⟨_,(g49_ok _ _ _ _ s),?_⟩;conv=>whnf
   apply ifc h<;>intro d h
   ·obtain rfl:=sj h
    conv=>whnf
    try exact fin
   conv=>whnf
   exact⟨(z,(kwr .i64 (g+1))),h,wk [0] []⟩
  obtain rfl:=sj h;conv=>whnf
  try exact fin
 conv=>whnf
 apply ifc h<;>intro d h
 ·conv=>whnf
  apply ifc h<;>intro d h
  ·obtain rfl:=sj h
   conv=>whnf
   try exact fin
  conv=>whnf
  refine qX.fn [1000000] (S:=Int) (fun i=>[(1,pI a),(2,.p (.int .i64 (kwr .i64 (b+1)))),(3,.ptr 0 0),(8,pI i)]) (fun i=>[.box 28 [pI k,pB m,pI o,pS q,pV f,pT j]]) (B:=uG n j b f g49 a) h (wk [0] []) ?_;intro _ i h;unfold uG at h;conv=>whnf
  apply ifc h<;>intro d h
  ·conv=>whnf
   refine bq h fun _ x h=>⟨_,Codec.at_ cc x,?_⟩;conv=>whnf
   refine⟨id,id,id,?_⟩;conv=>whnf
   refine bq h fun _ w h=>⟨_,fun e=>Codec.at_ cc (qa w e),?_⟩;conv=>whnf
   iterate 9 refine⟨id,?_⟩
   conv=>whnf
   refine bq h fun _ v h=>⟨_,fun e=>Codec.at_ cc (qa v e),?_⟩;conv=>whnf
   refine⟨id,id,id,id,id,?_⟩;conv=>whnf
   refine bq h fun _ u h=>⟨_,fun e=>Codec.at_ cc (qa u e),?_⟩;conv=>whnf
   iterate 6 refine⟨id,?_⟩
   conv=>whnf
   apply ifc h<;>intro d h
   ·obtain rfl:=sj h
    conv=>whnf
    try exact fin
   conv=>whnf
   exact⟨(kwr .i64 (i+1)),h,wk [0] []⟩
  conv=>whnf
  exact⟨(),h,wk [0] []⟩
 conv=>whnf
 exact⟨(),h,wk [0] []⟩
def uO:Nat->Val->Int->Int->Option (Int×Bool)
 | 0=>fun _ _ _=>none
 | n+1=>ZD n (uO n)
theorem Sl (n:Nat):(∀ (a:Val) (b c:Int) (r:Int×Bool),uO n a b c=some r->qb TP 49 [PV.agg (gM.cells a),PV.int .i64 b,PV.int .i64 c] (Ue r)):=by
 induction n with
 | zero=>exact(by intros; rename_i h; cases h)
 | succ n ih=>
  have hg49:=ih;exact Si n (uO n) hg49
theorem iG (n:Nat):∀ (a:Val) (b c:Int) (r:Int×Bool),uO n a b c=some r->qb TP 49 [PV.agg (gM.cells a),PV.int .i64 b,PV.int .i64 c] (Ue r):=(Sl n)
abbrev ez (r:Bool):PV:=PV.bool r
def nv (n:Nat) (a:Val):Option (Bool):=
 match a with
 | ⟨b,c,d,e,f,g⟩=>
 bnd (uO n (Val.mk b c d e f g) (32:Int) (0:Int)) fun⟨_,i⟩=>
 some i
theorem Gb (n:Nat):∀ (a:Val) (r:Bool),nv n a=some r->qb TP 21 [PV.agg (gM.cells a)] (ez r):=by
 intro a r h;obtain⟨_,_,_,_,_,_⟩:=a;unfold nv at h;refine zN Tryz.call21 Tryz.func21 [1000000] ?_;conv=>whnf
 refine bq h fun⟨_,_⟩ b h=>⟨_,(iG n _ _ _ _ b),?_⟩;obtain rfl:=sj h;conv=>whnf
 try exact fin
abbrev Zu (r:Bool):PV:=PV.bool r
def mn (n:Nat) (b:List Val) (g22:Val->Option (Bool)):LK (Int) (Bool):=fun c a=>
 bif(decide (a<((Val.rows b).length:Int)))then(
 bnd (idx b a) fun⟨j,k,d,e,f,g⟩=>
 bnd (g22 (Val.mk j k d e f g)) fun i=>
 bif(!i)then(
 some false)
 else(
 c (kwr .i64 (a+1))))
 else(
 some true)
def Xt (n:Nat) (g22:Val->Option (Bool)) (b:Val):Option (Bool):=
 match b with
 | ⟨a,_,_,_,c,_⟩=>
 bif(bif(a==6)then true else(a==7))then(
 some false)
 else(
 qo (mn n c g22) n (0:Int))
theorem LY (n:Nat) (g22:Val->Option (Bool)) (g22_ok:∀ (a:Val) (r:Bool),g22 a=some r->qb TP 22 [PV.agg (gM.cells a)] (Zu r)):∀ (a:Val) (r:Bool),Xt n g22 a=some r->qb TP 22 [PV.agg (gM.cells a)] (Zu r):=by
 intro a r h;obtain⟨g,i,j,k,d,l⟩:=a;unfold Xt at h;refine zN Tryz.call22 Tryz.func22 [1000000] ?_;conv=>whnf
 refine⟨id,id,id,?_⟩;conv=>whnf
 apply ifc h<;>intro c h
 ·obtain rfl:=sj h
  conv=>whnf
  try exact fin
 conv=>whnf
 refine qX.fn [1000000] (S:=Int) (fun b=>[(1,.ptr 0 0),(3,pI b)]) (fun b=>[.box 28 [pI g,pB i,pI j,pS k,pV d,pT l]]) (B:=mn n d g22) h (wk [0] []) ?_;intro _ b h;unfold mn at h;conv=>whnf
 apply ifc h<;>intro c h
 ·conv=>whnf
  refine bq h fun⟨_,_,_,_,_,_⟩ f h=>⟨_,Codec.at_ gM f,?_⟩;conv=>whnf
  refine bq h fun _ e h=>⟨_,(g22_ok _ _ e),?_⟩;conv=>whnf
  apply ifc h<;>intro c h
  ·obtain rfl:=sj h
   conv=>whnf
   try exact fin
  conv=>whnf
  exact⟨(kwr .i64 (b+1)),h,wk [0] []⟩
 obtain rfl:=sj h;conv=>whnf
 try exact fin
def bE:Nat->Val->Option (Bool)
 | 0=>fun _=>none
 | n+1=>Xt n (bE n)
theorem Md (n:Nat):(∀ (a:Val) (r:Bool),bE n a=some r->qb TP 22 [PV.agg (gM.cells a)] (Zu r)):=by
 induction n with
 | zero=>exact(by intros; rename_i h; cases h)
 | succ n ih=>
  have hg22:=ih;exact LY n (bE n) hg22
theorem Cp (n:Nat):∀ (a:Val) (r:Bool),bE n a=some r->qb TP 22 [PV.agg (gM.cells a)] (Zu r):=(Md n)
abbrev Lq (r:Bool):PV:=PV.bool r
def Qu (n:Nat) (a:Int):Option (Bool):=
 some (bif(decide (a≥4))then(decide (a<=8))else false)
theorem Ef (n:Nat):∀ (a:Int) (r:Bool),Qu n a=some r->qb TP 101 [PV.int .i64 a] (Lq r):=by
 intro a r h;unfold Qu at h;refine zN Tryz.call101 Tryz.func101 [1000000] ?_;conv=>whnf
 refine⟨id,id,?_⟩;obtain rfl:=sj h;conv=>whnf
 try exact fin
abbrev Be (r:zr):PV:=(PV.ifc (zr.tid r) (zr.val r))
def re (n:Nat) (a:zx):Option (zr):=
 match a with
 | ⟨b,c⟩=>
 some (zr.path (zx.mk b c))
theorem FF (n:Nat):∀ (a:zx) (r:zr),re n a=some r->qb TP 157 [PV.agg (pb.cells a)] (Be r):=by
 intro a r h;obtain⟨_,_⟩:=a;unfold re at h;refine zN Tryz.call157 Tryz.func157 [1000000] ?_;obtain rfl:=sj h;conv=>whnf
 try exact fin
abbrev rE (r:List zr):PV:=PV.sl (zr.rows r)
def zl (n:Nat) (c:List zx):LK (List zr×Int) (List zr):=fun e (a,b)=>
 bif(decide (b<((zx.rows c).length:Int)))then(
 bnd (idx c b) fun⟨f,g⟩=>
 bnd (re n (zx.mk f g)) fun d=>
 chk (decide ((zr.rows (a++[d])).length * 16<=140737488355328)) (
 e ((a++[d]),(kwr .i64 (b+1)))))
 else(
 some a)
def xA (n:Nat) (a:List zx):Option (List zr):=
 qo (zl n a) n (([]:List _),(0:Int))
theorem nV (n:Nat):∀ (c:List zx) (r:List zr),xA n c=some r->qb TP 156 [PV.sl (zx.rows c),PV.fn 157] (rE r):=by
 intro c r h;unfold xA at h;refine zN Tryz.call156 Tryz.func156 [1000000] ?_;conv=>whnf
 refine qX.fn [1000000] (S:=List zr×Int) (fun(a,d)=>[(1,.p (.fn 157)),(5,.tsl 0 (zr.rows a)),(8,pP c),(9,.p (.int .i64 ((zx.rows c).length:Int))),(10,pI d)]) (fun(a,d)=>[.tail 162 1 (zr.rows a).length]) (B:=zl n c) h (wk [0] [0]) ?_;intro _ st h;obtain⟨a,d⟩:=st;unfold zl at h;conv=>whnf
 apply ifc h<;>intro _ h
 ·conv=>whnf
  refine bq h fun⟨_,_⟩ g h=>⟨_,Codec.at_ pb g,?_⟩;conv=>whnf
  refine bq h fun b f h=>⟨_,(FF n _ _ f),?_⟩;conv=>whnf
  refine⟨Codec.one Qm [b],zr.rows [b],.inl rfl,?_⟩;conv=>whnf
  rw[show zr.rows a++zr.rows [b]=zr.rows (a++[b])from Codec.append Qm a [b]];conv=>whnf
  obtain⟨e,h⟩:=qg h;refine⟨⟨Codec.wide Qm (a++[b]),kod e,xj e (by decide)⟩,?_⟩;conv=>whnf
  refine⟨⟨rfl,rfl,rfl⟩,?_⟩;conv=>whnf
  exact⟨((a++[b]),(kwr .i64 (d+1))),h,wk [2] []⟩
 obtain rfl:=sj h;conv=>whnf
 try exact fin
abbrev Bf (r:zr):PV:=(PV.ifc (zr.tid r) (zr.val r))
def rh (n:Nat) (a:qe):Option (zr):=
 match a with
 | ⟨b,d,⟨e,f,g,i,j,k⟩,l,c⟩=>
 some (zr.expr (qe.mk b d (Val.mk e f g i j k) l c))
theorem FG (n:Nat):∀ (a:qe) (r:zr),rh n a=some r->qb TP 159 [PV.agg (zX.cells a)] (Bf r):=by
 intro a r h;obtain⟨_,_,⟨_,_,_,_,_,_⟩,_,_⟩:=a;unfold rh at h;refine zN Tryz.call159 Tryz.func159 [1000000] ?_;obtain rfl:=sj h;conv=>whnf
 try exact fin
abbrev rA (r:List zr):PV:=PV.sl (zr.rows r)
def zh (n:Nat) (c:List qe):LK (List zr×Int) (List zr):=fun e (a,b)=>
 bif(decide (b<((qe.rows c).length:Int)))then(
 bnd (idx c b) fun⟨k,l,⟨m,o,p,q,f,g⟩,i,j⟩=>
 bnd (rh n (qe.mk k l (Val.mk m o p q f g) i j)) fun d=>
 chk (decide ((zr.rows (a++[d])).length * 16<=140737488355328)) (
 e ((a++[d]),(kwr .i64 (b+1)))))
 else(
 some a)
def xu (n:Nat) (a:List qe):Option (List zr):=
 qo (zh n a) n (([]:List _),(0:Int))
theorem nR (n:Nat):∀ (c:List qe) (r:List zr),xu n c=some r->qb TP 158 [PV.sl (qe.rows c),PV.fn 159] (rA r):=by
 intro c r h;unfold xu at h;refine zN Tryz.call158 Tryz.func158 [1000000] ?_;conv=>whnf
 refine qX.fn [1000000] (S:=List zr×Int) (fun(a,d)=>[(1,.p (.fn 159)),(5,.tsl 0 (zr.rows a)),(8,pE c),(9,.p (.int .i64 ((qe.rows c).length:Int))),(10,pI d)]) (fun(a,d)=>[.tail 162 1 (zr.rows a).length]) (B:=zh n c) h (wk [0] [0]) ?_;intro _ st h;obtain⟨a,d⟩:=st;unfold zh at h;conv=>whnf
 apply ifc h<;>intro _ h
 ·conv=>whnf
  refine bq h fun⟨_,_,⟨_,_,_,_,_,_⟩,_,_⟩ g h=>⟨_,Codec.at_ zX g,?_⟩;conv=>whnf
  refine bq h fun b f h=>⟨_,(FG n _ _ f),?_⟩;conv=>whnf
  refine⟨Codec.one Qm [b],zr.rows [b],.inl rfl,?_⟩;conv=>whnf
  rw[show zr.rows a++zr.rows [b]=zr.rows (a++[b])from Codec.append Qm a [b]];conv=>whnf
  obtain⟨e,h⟩:=qg h;refine⟨⟨Codec.wide Qm (a++[b]),kod e,xj e (by decide)⟩,?_⟩;conv=>whnf
  refine⟨⟨rfl,rfl,rfl⟩,?_⟩;conv=>whnf
  exact⟨((a++[b]),(kwr .i64 (d+1))),h,wk [2] []⟩
 obtain rfl:=sj h;conv=>whnf
 try exact fin
abbrev Bg (r:zr):PV:=(PV.ifc (zr.tid r) (zr.val r))
def ri (n:Nat) (a:xM):Option (zr):=
 match a with
 | ⟨⟨b,e,⟨f,g,i,j,k,l⟩,m,c⟩,d⟩=>
 some (zr.item (xM.mk (qe.mk b e (Val.mk f g i j k l) m c) d))
theorem FH (n:Nat):∀ (a:xM) (r:zr),ri n a=some r->qb TP 161 [PV.agg (VE.cells a)] (Bg r):=by
 intro a r h;obtain⟨⟨_,_,⟨_,_,_,_,_,_⟩,_,_⟩,_⟩:=a;unfold ri at h;refine zN Tryz.call161 Tryz.func161 [1000000] ?_;obtain rfl:=sj h;conv=>whnf
 try exact fin
abbrev rD (r:List zr):PV:=PV.sl (zr.rows r)
def zk (n:Nat) (c:List xM):LK (List zr×Int) (List zr):=fun e (a,b)=>
 bif(decide (b<((xM.rows c).length:Int)))then(
 bnd (idx c b) fun⟨⟨l,m,⟨o,p,q,s,f,g⟩,i,j⟩,k⟩=>
 bnd (ri n (xM.mk (qe.mk l m (Val.mk o p q s f g) i j) k)) fun d=>
 chk (decide ((zr.rows (a++[d])).length * 16<=140737488355328)) (
 e ((a++[d]),(kwr .i64 (b+1)))))
 else(
 some a)
def xz (n:Nat) (a:List xM):Option (List zr):=
 qo (zk n a) n (([]:List _),(0:Int))
theorem nU (n:Nat):∀ (c:List xM) (r:List zr),xz n c=some r->qb TP 160 [PV.sl (xM.rows c),PV.fn 161] (rD r):=by
 intro c r h;unfold xz at h;refine zN Tryz.call160 Tryz.func160 [1000000] ?_;conv=>whnf
 refine qX.fn [1000000] (S:=List zr×Int) (fun(a,d)=>[(1,.p (.fn 161)),(5,.tsl 0 (zr.rows a)),(8,pA c),(9,.p (.int .i64 ((xM.rows c).length:Int))),(10,pI d)]) (fun(a,d)=>[.tail 162 1 (zr.rows a).length]) (B:=zk n c) h (wk [0] [0]) ?_;intro _ st h;obtain⟨a,d⟩:=st;unfold zk at h;conv=>whnf
 apply ifc h<;>intro _ h
 ·conv=>whnf
  refine bq h fun⟨⟨_,_,⟨_,_,_,_,_,_⟩,_,_⟩,_⟩ g h=>⟨_,Codec.at_ VE g,?_⟩;conv=>whnf
  refine bq h fun b f h=>⟨_,(FH n _ _ f),?_⟩;conv=>whnf
  refine⟨Codec.one Qm [b],zr.rows [b],.inl rfl,?_⟩;conv=>whnf
  rw[show zr.rows a++zr.rows [b]=zr.rows (a++[b])from Codec.append Qm a [b]];conv=>whnf
  obtain⟨e,h⟩:=qg h;refine⟨⟨Codec.wide Qm (a++[b]),kod e,xj e (by decide)⟩,?_⟩;conv=>whnf
  refine⟨⟨rfl,rfl,rfl⟩,?_⟩;conv=>whnf
  exact⟨((a++[b]),(kwr .i64 (d+1))),h,wk [2] []⟩
 obtain rfl:=sj h;conv=>whnf
 try exact fin
abbrev Bh (r:zr):PV:=(PV.ifc (zr.tid r) (zr.val r))
def rj (n:Nat) (a:qS):Option (zr):=
 match a with
 | ⟨⟨b,e,⟨f,g,i,j,k,l⟩,m,c⟩,d⟩=>
 some (zr.sorted (qS.mk (qe.mk b e (Val.mk f g i j k l) m c) d))
theorem FI (n:Nat):∀ (a:qS) (r:zr),rj n a=some r->qb TP 163 [PV.agg (Za.cells a)] (Bh r):=by
 intro a r h;obtain⟨⟨_,_,⟨_,_,_,_,_,_⟩,_,_⟩,_⟩:=a;unfold rj at h;refine zN Tryz.call163 Tryz.func163 [1000000] ?_;obtain rfl:=sj h;conv=>whnf
 try exact fin
abbrev rF (r:List zr):PV:=PV.sl (zr.rows r)
def zm (n:Nat) (c:List qS):LK (List zr×Int) (List zr):=fun e (a,b)=>
 bif(decide (b<((qS.rows c).length:Int)))then(
 bnd (idx c b) fun⟨⟨l,m,⟨o,p,q,s,f,g⟩,i,j⟩,k⟩=>
 bnd (rj n (qS.mk (qe.mk l m (Val.mk o p q s f g) i j) k)) fun d=>
 chk (decide ((zr.rows (a++[d])).length * 16<=140737488355328)) (
 e ((a++[d]),(kwr .i64 (b+1)))))
 else(
 some a)
def xB (n:Nat) (a:List qS):Option (List zr):=
 qo (zm n a) n (([]:List _),(0:Int))
theorem nW (n:Nat):∀ (c:List qS) (r:List zr),xB n c=some r->qb TP 162 [PV.sl (qS.rows c),PV.fn 163] (rF r):=by
 intro c r h;unfold xB at h;refine zN Tryz.call162 Tryz.func162 [1000000] ?_;conv=>whnf
 refine qX.fn [1000000] (S:=List zr×Int) (fun(a,d)=>[(1,.p (.fn 163)),(5,.tsl 0 (zr.rows a)),(8,pO c),(9,.p (.int .i64 ((qS.rows c).length:Int))),(10,pI d)]) (fun(a,d)=>[.tail 162 1 (zr.rows a).length]) (B:=zm n c) h (wk [0] [0]) ?_;intro _ st h;obtain⟨a,d⟩:=st;unfold zm at h;conv=>whnf
 apply ifc h<;>intro _ h
 ·conv=>whnf
  refine bq h fun⟨⟨_,_,⟨_,_,_,_,_,_⟩,_,_⟩,_⟩ g h=>⟨_,Codec.at_ Za g,?_⟩;conv=>whnf
  refine bq h fun b f h=>⟨_,(FI n _ _ f),?_⟩;conv=>whnf
  refine⟨Codec.one Qm [b],zr.rows [b],.inl rfl,?_⟩;conv=>whnf
  rw[show zr.rows a++zr.rows [b]=zr.rows (a++[b])from Codec.append Qm a [b]];conv=>whnf
  obtain⟨e,h⟩:=qg h;refine⟨⟨Codec.wide Qm (a++[b]),kod e,xj e (by decide)⟩,?_⟩;conv=>whnf
  refine⟨⟨rfl,rfl,rfl⟩,?_⟩;conv=>whnf
  exact⟨((a++[b]),(kwr .i64 (d+1))),h,wk [2] []⟩
 obtain rfl:=sj h;conv=>whnf
 try exact fin
abbrev Bi (r:zr):PV:=(PV.ifc (zr.tid r) (zr.val r))
def rm (n:Nat) (a:qe):Option (zr):=
 match a with
 | ⟨b,d,⟨e,f,g,i,j,k⟩,l,c⟩=>
 some (zr.expr (qe.mk b d (Val.mk e f g i j k) l c))
theorem FJ (n:Nat):∀ (a:qe) (r:zr),rm n a=some r->qb TP 164 [PV.agg (zX.cells a)] (Bi r):=by
 intro a r h;obtain⟨_,_,⟨_,_,_,_,_,_⟩,_,_⟩:=a;unfold rm at h;refine zN Tryz.call164 Tryz.func164 [1000000] ?_;obtain rfl:=sj h;conv=>whnf
 try exact fin
abbrev rB (r:List zr):PV:=PV.sl (zr.rows r)
def zi (n:Nat) (c:List qe):LK (List zr×Int) (List zr):=fun e (a,b)=>
 bif(decide (b<((qe.rows c).length:Int)))then(
 bnd (idx c b) fun⟨k,l,⟨m,o,p,q,f,g⟩,i,j⟩=>
 bnd (rm n (qe.mk k l (Val.mk m o p q f g) i j)) fun d=>
 chk (decide ((zr.rows (a++[d])).length * 16<=140737488355328)) (
 e ((a++[d]),(kwr .i64 (b+1)))))
 else(
 some a)
def xw (n:Nat) (a:List qe):Option (List zr):=
 qo (zi n a) n (([]:List _),(0:Int))
theorem nS (n:Nat):∀ (c:List qe) (r:List zr),xw n c=some r->qb TP 158 [PV.sl (qe.rows c),PV.fn 164] (rB r):=by
 intro c r h;unfold xw at h;refine zN Tryz.call158 Tryz.func158 [1000000] ?_;conv=>whnf
 refine qX.fn [1000000] (S:=List zr×Int) (fun(a,d)=>[(1,.p (.fn 164)),(5,.tsl 0 (zr.rows a)),(8,pE c),(9,.p (.int .i64 ((qe.rows c).length:Int))),(10,pI d)]) (fun(a,d)=>[.tail 162 1 (zr.rows a).length]) (B:=zi n c) h (wk [0] [0]) ?_;intro _ st h;obtain⟨a,d⟩:=st;unfold zi at h;conv=>whnf
 apply ifc h<;>intro _ h
 ·conv=>whnf
  refine bq h fun⟨_,_,⟨_,_,_,_,_,_⟩,_,_⟩ g h=>⟨_,Codec.at_ zX g,?_⟩;conv=>whnf
  refine bq h fun b f h=>⟨_,(FJ n _ _ f),?_⟩;conv=>whnf
  refine⟨Codec.one Qm [b],zr.rows [b],.inl rfl,?_⟩;conv=>whnf
  rw[show zr.rows a++zr.rows [b]=zr.rows (a++[b])from Codec.append Qm a [b]];conv=>whnf
  obtain⟨e,h⟩:=qg h;refine⟨⟨Codec.wide Qm (a++[b]),kod e,xj e (by decide)⟩,?_⟩;conv=>whnf
  refine⟨⟨rfl,rfl,rfl⟩,?_⟩;conv=>whnf
  exact⟨((a++[b]),(kwr .i64 (d+1))),h,wk [2] []⟩
 obtain rfl:=sj h;conv=>whnf
 try exact fin
abbrev Bj (r:zr):PV:=(PV.ifc (zr.tid r) (zr.val r))
def rn (n:Nat) (a:qe):Option (zr):=
 match a with
 | ⟨b,d,⟨e,f,g,i,j,k⟩,l,c⟩=>
 some (zr.expr (qe.mk b d (Val.mk e f g i j k) l c))
theorem FK (n:Nat):∀ (a:qe) (r:zr),rn n a=some r->qb TP 165 [PV.agg (zX.cells a)] (Bj r):=by
 intro a r h;obtain⟨_,_,⟨_,_,_,_,_,_⟩,_,_⟩:=a;unfold rn at h;refine zN Tryz.call165 Tryz.func165 [1000000] ?_;obtain rfl:=sj h;conv=>whnf
 try exact fin
abbrev rC (r:List zr):PV:=PV.sl (zr.rows r)
def zj (n:Nat) (c:List qe):LK (List zr×Int) (List zr):=fun e (a,b)=>
 bif(decide (b<((qe.rows c).length:Int)))then(
 bnd (idx c b) fun⟨k,l,⟨m,o,p,q,f,g⟩,i,j⟩=>
 bnd (rn n (qe.mk k l (Val.mk m o p q f g) i j)) fun d=>
 chk (decide ((zr.rows (a++[d])).length * 16<=140737488355328)) (
 e ((a++[d]),(kwr .i64 (b+1)))))
 else(
 some a)
def xy (n:Nat) (a:List qe):Option (List zr):=
 qo (zj n a) n (([]:List _),(0:Int))
theorem nT (n:Nat):∀ (c:List qe) (r:List zr),xy n c=some r->qb TP 158 [PV.sl (qe.rows c),PV.fn 165] (rC r):=by
 intro c r h;unfold xy at h;refine zN Tryz.call158 Tryz.func158 [1000000] ?_;conv=>whnf
 refine qX.fn [1000000] (S:=List zr×Int) (fun(a,d)=>[(1,.p (.fn 165)),(5,.tsl 0 (zr.rows a)),(8,pE c),(9,.p (.int .i64 ((qe.rows c).length:Int))),(10,pI d)]) (fun(a,d)=>[.tail 162 1 (zr.rows a).length]) (B:=zj n c) h (wk [0] [0]) ?_;intro _ st h;obtain⟨a,d⟩:=st;unfold zj at h;conv=>whnf
 apply ifc h<;>intro _ h
 ·conv=>whnf
  refine bq h fun⟨_,_,⟨_,_,_,_,_,_⟩,_,_⟩ g h=>⟨_,Codec.at_ zX g,?_⟩;conv=>whnf
  refine bq h fun b f h=>⟨_,(FK n _ _ f),?_⟩;conv=>whnf
  refine⟨Codec.one Qm [b],zr.rows [b],.inl rfl,?_⟩;conv=>whnf
  rw[show zr.rows a++zr.rows [b]=zr.rows (a++[b])from Codec.append Qm a [b]];conv=>whnf
  obtain⟨e,h⟩:=qg h;refine⟨⟨Codec.wide Qm (a++[b]),kod e,xj e (by decide)⟩,?_⟩;conv=>whnf
  refine⟨⟨rfl,rfl,rfl⟩,?_⟩;conv=>whnf
  exact⟨((a++[b]),(kwr .i64 (d+1))),h,wk [2] []⟩
 obtain rfl:=sj h;conv=>whnf
 try exact fin
abbrev Bk (r:zr):PV:=(PV.ifc (zr.tid r) (zr.val r))
def rq (n:Nat) (a:SS):Option (zr):=
 some (zr.name a)
theorem FL (n:Nat):∀ (a:SS) (r:zr),rq n a=some r->qb TP 167 [PV.str a] (Bk r):=by
 intro a r h;unfold rq at h;refine zN Tryz.call167 Tryz.func167 [1000000] ?_;obtain rfl:=sj h;conv=>whnf
 try exact fin
abbrev sf (r:List zr):PV:=PV.sl (zr.rows r)
def zw (n:Nat) (c:List SS):LK (List zr×Int) (List zr):=fun e (a,b)=>
 bif(decide (b<((qi c).length:Int)))then(
 bnd (idx c b) fun f=>
 bnd (rq n f) fun d=>
 chk (decide ((zr.rows (a++[d])).length * 16<=140737488355328)) (
 e ((a++[d]),(kwr .i64 (b+1)))))
 else(
 some a)
def xO (n:Nat) (a:List SS):Option (List zr):=
 qo (zw n a) n (([]:List _),(0:Int))
theorem rM (n:Nat):∀ (c:List SS) (r:List zr),xO n c=some r->qb TP 166 [PV.sl (qi c),PV.fn 167] (sf r):=by
 intro c r h;unfold xO at h;refine zN Tryz.call166 Tryz.func166 [1000000] ?_;conv=>whnf
 refine qX.fn [1000000] (S:=List zr×Int) (fun(a,d)=>[(1,.p (.fn 167)),(5,.tsl 0 (zr.rows a)),(8,pT c),(9,.p (.int .i64 ((qi c).length:Int))),(10,pI d)]) (fun(a,d)=>[.tail 162 1 (zr.rows a).length]) (B:=zw n c) h (wk [0] [0]) ?_;intro _ st h;obtain⟨a,d⟩:=st;unfold zw at h;conv=>whnf
 apply ifc h<;>intro _ h
 ·conv=>whnf
  refine bq h fun _ g h=>⟨_,Codec.at_ cc g,?_⟩;conv=>whnf
  refine bq h fun b f h=>⟨_,(FL n _ _ f),?_⟩;conv=>whnf
  refine⟨Codec.one Qm [b],zr.rows [b],.inl rfl,?_⟩;conv=>whnf
  rw[show zr.rows a++zr.rows [b]=zr.rows (a++[b])from Codec.append Qm a [b]];conv=>whnf
  obtain⟨e,h⟩:=qg h;refine⟨⟨Codec.wide Qm (a++[b]),kod e,xj e (by decide)⟩,?_⟩;conv=>whnf
  refine⟨⟨rfl,rfl,rfl⟩,?_⟩;conv=>whnf
  exact⟨((a++[b]),(kwr .i64 (d+1))),h,wk [1] []⟩
 obtain rfl:=sj h;conv=>whnf
 try exact fin
abbrev Bl (r:zr):PV:=(PV.ifc (zr.tid r) (zr.val r))
def ry (n:Nat) (a:qj) (b:qd):Option (zr):=
 match a,b with
 | ⟨c,j,k,⟨l,m,⟨o,p,q,s,d,e⟩,f,g⟩⟩,⟨i,_,_,⟨_,_,⟨_,_,_,_,_,_⟩,_,_⟩,_,_,_,_,_,_,_,_,_⟩=>
 some (zr.change (Xw.mk (qj.mk c j k (qe.mk l m (Val.mk o p q s d e) f g)) (i==6)))
theorem FM (n:Nat):∀ (a:qj) (b:qd) (r:zr),ry n a b=some r->qb TP 169 [PV.agg (nr.cells a),PV.hp (xN.cells b)] (Bl r):=by
 intro a b r h;obtain⟨_,_,_,⟨_,_,⟨_,_,_,_,_,_⟩,_,_⟩⟩:=a;obtain⟨_,_,_,⟨_,_,⟨_,_,_,_,_,_⟩,_,_⟩,_,_,_,_,_,_,_,_,_⟩:=b;unfold ry at h;refine zN Tryz.call169 Tryz.func169 [1000000] ?_;obtain rfl:=sj h;conv=>whnf
 try exact fin
abbrev na (r:List zr):PV:=PV.sl (zr.rows r)
def za (n:Nat) (c:List qj) (s:Int) (B:List zx) (L:List qe) (M:Int) (N:SS) (O:Int) (P:Bool) (Q:Int) (f:SS) (g:List Val) (i j:List SS) (k:List qe) (l:SS) (m:List xM) (o:Bool) (p:List qS) (q t:List qe) (u:List qj) (v:List SS) (w:Bool):LK (List zr×Int) (List zr):=fun e (a,b)=>
 bif(decide (b<((qj.rows c).length:Int)))then(
 bnd (idx c b) fun⟨x,y,z,⟨A,C,⟨D,E,F,G,H,I⟩,J,K⟩⟩=>
 bnd (ry n (qj.mk x y z (qe.mk A C (Val.mk D E F G H I) J K)) (qd.mk s B L (qe.mk M N (Val.mk O P Q f g i) j k) l m o p q t u v w)) fun d=>
 chk (decide ((zr.rows (a++[d])).length * 16<=140737488355328)) (
 e ((a++[d]),(kwr .i64 (b+1)))))
 else(
 some a)
def xf (n:Nat) (b:List qj) (a:qd):Option (List zr):=
 match a with
 | ⟨o,u,v,⟨w,x,⟨y,z,A,c,d,e⟩,f,g⟩,i,j,k,l,m,p,q,s,t⟩=>
 qo (za n b o u v w x y z A c d e f g i j k l m p q s t) n (([]:List _),(0:Int))
theorem mf (n:Nat):∀ (c:List qj) (d:qd) (r:List zr),xf n c d=some r->qb TP 168 [PV.sl (qj.rows c),PV.clo 169 [PV.hp (xN.cells d)]] (na r):=by
 intro c d r h;obtain⟨u,z,A,⟨C,D,⟨E,F,G,g,i,j⟩,k,l⟩,m,o,q,s,t,v,w,x,y⟩:=d;unfold xf at h;refine zN Tryz.call168 Tryz.func168 [1000000] ?_;conv=>whnf
 refine qX.fn [1000000] (S:=List zr×Int) (fun(a,e)=>[(1,.p (.clo 169 [PV.hp [PV.int .i64 u,PV.sl (zx.rows z),PV.sl (qe.rows A),PV.int .i64 C,PV.str D,PV.int .i64 E,PV.bool F,PV.int .i64 G,PV.str g,PV.sl (Val.rows i),PV.sl (qi j),PV.sl (qi k),PV.sl (qe.rows l),PV.str m,PV.sl (xM.rows o),PV.bool q,PV.sl (qS.rows s),PV.sl (qe.rows t),PV.sl (qe.rows v),PV.sl (qj.rows w),PV.sl (qi x),PV.bool y]])),(5,.tsl 0 (zr.rows a)),(8,pU c),(9,.p (.int .i64 ((qj.rows c).length:Int))),(10,pI e)]) (fun(a,e)=>[.tail 162 1 (zr.rows a).length]) (B:=za n c u z A C D E F G g i j k l m o q s t v w x y) h (wk [0] [0]) ?_;intro _ st h;obtain⟨a,e⟩:=st;unfold za at h;conv=>whnf
 apply ifc h<;>intro _ h
 ·conv=>whnf
  refine bq h fun⟨_,_,_,⟨_,_,⟨_,_,_,_,_,_⟩,_,_⟩⟩ I h=>⟨_,Codec.at_ nr I,?_⟩;conv=>whnf
  refine bq h fun b H h=>⟨_,(FM n _ _ _ H),?_⟩;conv=>whnf
  refine⟨Codec.one Qm [b],zr.rows [b],.inl rfl,?_⟩;conv=>whnf
  rw[show zr.rows a++zr.rows [b]=zr.rows (a++[b])from Codec.append Qm a [b]];conv=>whnf
  obtain⟨f,h⟩:=qg h;refine⟨⟨Codec.wide Qm (a++[b]),kod f,xj f (by decide)⟩,?_⟩;conv=>whnf
  refine⟨⟨rfl,rfl,rfl⟩,?_⟩;conv=>whnf
  exact⟨((a++[b]),(kwr .i64 (e+1))),h,wk [2] []⟩
 obtain rfl:=sj h;conv=>whnf
 try exact fin
abbrev QS (r:Bool):PV:=PV.bool r
def xp (n:Nat) (b d:List SS):LK (Int) (Bool):=fun c a=>
 bif(decide (a<((qi b).length:Int)))then(
 bnd (idx b a) fun e=>
 bnd (idx d a) fun f=>
 bif(!(e==f))then(
 some false)
 else(
 c (kwr .i64 (a+1))))
 else(
 some true)
def zK (n:Nat) (a b:List SS):Option (Bool):=
 bif(((qi a).length:Int) != ((qi b).length:Int))then(
 some false)
 else(
 qo (xp n a b) n (0:Int))
theorem gg (n:Nat):∀ (a b:List SS) (r:Bool),zK n a b=some r->qb TP 128 [PV.sl (qi a),PV.sl (qi b)] (QS r):=by
 intro a b r h;unfold zK at h;refine zN Tryz.call128 Tryz.func128 [1000000] ?_;conv=>whnf
 apply ifc h<;>intro d h
 ·obtain rfl:=sj h
  conv=>whnf
  try exact fin
 conv=>whnf
 refine qX.fn [1000000] (S:=Int) (fun c=>[(0,pT a),(1,pT b),(12,.p (.int .i64 ((qi a).length:Int))),(13,pI c)]) (fun c=>[]) (B:=xp n a b) h (wk [] []) ?_;intro _ c h;unfold xp at h;conv=>whnf
 apply ifc h<;>intro d h
 ·conv=>whnf
  refine bq h fun _ f h=>⟨_,Codec.at_ cc f,?_⟩;conv=>whnf
  refine bq h fun _ e h=>⟨_,Codec.at_ cc e,?_⟩;conv=>whnf
  apply ifc h<;>intro d h
  ·obtain rfl:=sj h
   conv=>whnf
   try exact fin
  conv=>whnf
  exact⟨(kwr .i64 (c+1)),h,wk [] []⟩
 obtain rfl:=sj h;conv=>whnf
 try exact fin
abbrev sg (r:Bool):PV:=PV.bool r
abbrev qop:Type:=Val->Val->Option (Bool)
def Zq (n:Nat) (g205:qop) (g204z205:(List Val)->(List Val)->Option (Bool)) (k l:Val):Option (Bool):=
 match k,l with
 | ⟨a,c,d,e,q,s⟩,⟨f,g,i,b,m,o⟩=>
 bnd (qD (bif(bif(bif(a==f)then(c==g)else false)then(d==i)else false)then(e==b)else false) (zK n s o)) fun j=>
 bnd (qD (bif(bif(bif(bif(a==f)then(c==g)else false)then(d==i)else false)then(e==b)else false)then j else false) (g204z205 q m)) fun p=>
 some (bif(bif(bif(bif(bif(a==f)then(c==g)else false)then(d==i)else false)then(e==b)else false)then j else false)then p else false)
abbrev qC (r:Bool):PV:=PV.bool r
def qz (n:Nat) (b l:List Val) (g205:qop):LK (Int) (Bool):=fun c a=>
 bif(decide (a<((Val.rows b).length:Int)))then(
 bnd (idx b a) fun⟨m,o,p,q,s,t⟩=>
 bnd (idx l a) fun⟨d,e,f,g,i,j⟩=>
 bnd (g205 (Val.mk m o p q s t) (Val.mk d e f g i j)) fun k=>
 bif(!k)then(
 some false)
 else(
 c (kwr .i64 (a+1))))
 else(
 some true)
def qM (n:Nat) (g205:qop) (g204z205:(List Val)->(List Val)->Option (Bool)) (a b:List Val):Option (Bool):=
 bif(((Val.rows a).length:Int) != ((Val.rows b).length:Int))then(
 some false)
 else(
 qo (qz n a b g205) n (0:Int))
theorem HJ (n:Nat) (g205:qop) (g204z205:(List Val)->(List Val)->Option (Bool)) (g205_ok:∀ (a b:Val) (r:Bool),g205 a b=some r->qb TP 205 [PV.agg (gM.cells a),PV.agg (gM.cells b)] (sg r)) (g204_205_ok:∀ (d e:List Val) (r:Bool),g204z205 d e=some r->qb TP 204 [PV.sl (Val.rows d),PV.sl (Val.rows e),PV.fn 205] (qC r)):∀ (a b:Val) (r:Bool),Zq n g205 g204z205 a b=some r->qb TP 205 [PV.agg (gM.cells a),PV.agg (gM.cells b)] (sg r):=by
 intro a b r h;obtain⟨d,e,_,_,_,_⟩:=a;obtain⟨_,_,_,_,_,_⟩:=b;unfold Zq at h;refine zN Tryz.call205 Tryz.func205 [1000000] ?_;conv=>whnf
 iterate 19 refine⟨id,?_⟩
 conv=>whnf
 refine bq h fun _ g h=>⟨_,fun c=>(gg n _ _ _ (qa g c)),?_⟩;conv=>whnf
 refine⟨id,id,id,id,id,?_⟩;conv=>whnf
 refine bq h fun _ f h=>⟨_,fun c=>(g204_205_ok _ _ _ (qa f c)),?_⟩;conv=>whnf
 refine⟨id,?_⟩;obtain rfl:=sj h;conv=>whnf
 try exact fin
theorem vt (n:Nat) (g205:qop) (g204z205:(List Val)->(List Val)->Option (Bool)) (g205_ok:∀ (d e:Val) (r:Bool),g205 d e=some r->qb TP 205 [PV.agg (gM.cells d),PV.agg (gM.cells e)] (sg r)) (g204_205_ok:∀ (a b:List Val) (r:Bool),g204z205 a b=some r->qb TP 204 [PV.sl (Val.rows a),PV.sl (Val.rows b),PV.fn 205] (qC r)):∀ (a b:List Val) (r:Bool),qM n g205 g204z205 a b=some r->qb TP 204 [PV.sl (Val.rows a),PV.sl (Val.rows b),PV.fn 205] (qC r):=by
 intro a b r h;unfold qM at h;refine zN Tryz.call204 Tryz.func204 [1000000] ?_;conv=>whnf
 apply ifc h<;>intro f h
 ·obtain rfl:=sj h
  conv=>whnf
  try exact fin
 conv=>whnf
 refine qX.fn [1000000] (S:=Int) (fun c=>[(1,pV b),(2,.p (.fn 205)),(15,pV a),(16,.p (.int .i64 ((Val.rows a).length:Int))),(17,pI c)]) (fun c=>[]) (B:=qz n a b g205) h (wk [] []) ?_;intro _ c h;unfold qz at h;conv=>whnf
 apply ifc h<;>intro f h
 ·conv=>whnf
  refine bq h fun⟨_,_,_,_,_,_⟩ j h=>⟨_,Codec.at_ gM j,?_⟩;conv=>whnf
  refine bq h fun⟨_,_,_,_,_,_⟩ i h=>⟨_,Codec.at_ gM i,?_⟩;conv=>whnf
  refine bq h fun _ g h=>⟨_,(g205_ok _ _ _ g),?_⟩;conv=>whnf
  apply ifc h<;>intro f h
  ·obtain rfl:=sj h
   conv=>whnf
   try exact fin
  conv=>whnf
  exact⟨(kwr .i64 (c+1)),h,wk [] []⟩
 obtain rfl:=sj h;conv=>whnf
 try exact fin
mutual
def fw:Nat->Val->Val->Option (Bool)
 | 0=>fun _ _=>none
 | n+1=>Zq n (fw n) (qh n)
def qh:Nat->(List Val)->(List Val)->Option (Bool)
 | 0=>fun _ _=>none
 | n+1=>qM n (fw n) (qh n)
end
theorem UI (n:Nat):(∀ (a b:Val) (r:Bool),fw n a b=some r->qb TP 205 [PV.agg (gM.cells a),PV.agg (gM.cells b)] (sg r))/\(∀ (c d:List Val) (r:Bool),qh n c d=some r->qb TP 204 [PV.sl (Val.rows c),PV.sl (Val.rows d),PV.fn 205] (qC r)):=by
 induction n with
 | zero=>exact⟨(by intros; rename_i h; cases h),(by intros; rename_i h; cases h)⟩
 | succ n ih=>
  obtain⟨hg205,hg204_205⟩:=ih;exact⟨HJ n (fw n) (qh n) hg205 hg204_205,vt n (fw n) (qh n) hg205 hg204_205⟩
theorem Gw (n:Nat):∀ (a b:Val) (r:Bool),fw n a b=some r->qb TP 205 [PV.agg (gM.cells a),PV.agg (gM.cells b)] (sg r):=(UI n).1
theorem vx (n:Nat):∀ (a b:List Val) (r:Bool),qh n a b=some r->qb TP 204 [PV.sl (Val.rows a),PV.sl (Val.rows b),PV.fn 205] (qC r):=(UI n).2
abbrev MQ (r:Bool):PV:=PV.bool r
def cT (n:Nat) (c:qe):Option (Bool):=
 match c with
 | ⟨a,b,⟨f,g,i,j,k,l⟩,m,d⟩=>
 bnd (qD (bif(a==0)then(b==([]:SS))else false) (fw n (Val.mk f g i j k l) (Val.mk (0:Int) false (0:Int) ([]:SS) ([]:List Val) ([]:List SS)))) fun e=>
 some (bif(bif(bif(bif(a==0)then(b==([]:SS))else false)then e else false)then(((qi m).length:Int)==0)else false)then(((qe.rows d).length:Int)==0)else false)
theorem UH (n:Nat):∀ (a:qe) (r:Bool),cT n a=some r->qb TP 219 [PV.agg (zX.cells a)] (MQ r):=by
 intro a r h;obtain⟨_,_,⟨_,_,_,_,_,_⟩,_,_⟩:=a;unfold cT at h;refine zN Tryz.call219 Tryz.func219 [1000000] ?_;conv=>whnf
 iterate 6 refine⟨id,?_⟩
 conv=>whnf
 refine bq h fun _ b h=>⟨_,fun c=>(qb.leArgs (Gw n _ _ _ (qa b c)) (by try exact fin)),?_⟩;conv=>whnf
 iterate 9 refine⟨id,?_⟩
 obtain rfl:=sj h;conv=>whnf
 try exact fin
abbrev MP (r:Bool):PV:=PV.bool r
def xX (n:Nat) (f g:qd):Option (Bool):=
 match f,g with
 | ⟨_,a,e,⟨B,I,⟨J,K,L,M,i,j⟩,k,l⟩,m,o,p,q,s,t,u,v,w⟩,⟨_,b,c,⟨d,_,⟨_,_,_,_,_,_⟩,_,_⟩,x,y,z,A,C,D,E,F,G⟩=>
 bnd (qD ((bif(((zx.rows a).length:Int)==((zx.rows b).length:Int))then(((qe.rows e).length:Int)==((qe.rows c).length:Int))else false)&&(!(d != 0))) (cT n (qe.mk B I (Val.mk J K L M i j) k l))) fun H=>
 some (bif(bif(bif(bif(bif(bif(bif(bif(bif(bif(bif(((zx.rows a).length:Int)==((zx.rows b).length:Int))then(((qe.rows e).length:Int)==((qe.rows c).length:Int))else false)then(bif(d != 0)then true else H)else false)then(m==x)else false)then(((xM.rows o).length:Int)==((xM.rows y).length:Int))else false)then(p==z)else false)then(((qS.rows q).length:Int)==((qS.rows A).length:Int))else false)then(((qe.rows s).length:Int)==((qe.rows C).length:Int))else false)then(((qe.rows t).length:Int)==((qe.rows D).length:Int))else false)then(((qj.rows u).length:Int)==((qj.rows E).length:Int))else false)then(((qi v).length:Int)==((qi F).length:Int))else false)then(w==G)else false)
theorem uJ (n:Nat):∀ (a b:qd) (r:Bool),xX n a b=some r->qb TP 170 [PV.agg (xN.cells a),PV.agg (xN.cells b)] (MP r):=by
 intro a b r h;obtain⟨_,_,_,⟨_,_,⟨_,_,_,_,_,_⟩,_,_⟩,_,_,_,_,_,_,_,_,_⟩:=a;obtain⟨_,_,_,⟨_,_,⟨_,_,_,_,_,_⟩,_,_⟩,_,_,_,_,_,_,_,_,_⟩:=b;unfold xX at h;refine zN Tryz.call170 Tryz.func170 [1000000] ?_;conv=>whnf
 iterate 13 refine⟨id,?_⟩
 conv=>whnf
 refine bq h fun _ c h=>⟨_,fun d=>(UH n _ _ (qa c d)),?_⟩;conv=>whnf
 iterate 60 refine⟨id,?_⟩
 obtain rfl:=sj h;conv=>whnf
 try exact fin
end W
end
