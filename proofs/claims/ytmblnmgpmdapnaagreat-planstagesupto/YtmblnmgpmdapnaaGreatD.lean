/- A part of the proof: contracts, printed by program. -/
import Derived.Test.YtmblnmgpmdapnaaGreatB
set_option linter.unusedVariables false
set_option linter.unusedSimpArgs false
set_option linter.unnecessarySimpa false
set_option linter.deprecated false
set_option linter.unusedSectionVars false
set_option linter.constructorNameAsVariable false
open Go.IntKind renaming wrap->kwr,bits->kbt
section
set_option maxRecDepth 100000
open Go Go.Proofs Ax
namespace W
abbrev qtk (r:Int):PV:=PV.int .i64 r
def qls (n:Nat) (b:List Val) (g45:Val->Option (Int)):LK (Int×Int) (Int):=fun d (c,a)=>
 bif(decide (a<((Val.rows b).length:Int)))then(
 bnd (idx b a) fun⟨l,e,f,g,i,j⟩=>
 bnd (g45 (Val.mk l e f g i j)) fun k=>
 d ((kwr .i64 (c+k)),(kwr .i64 (a+1))))
 else(
 some c)
def qu4 (n:Nat) (g45:Val->Option (Int)) (a:Val):Option (Int):=
 match a with
 | ⟨_,_,_,_,b,_⟩=>
 qam (qls n b g45) n ((1:Int),(0:Int))
theorem q8e (n:Nat) (g45:Val->Option (Int)) (g45_ok:∀ (a:Val) (r:Int),g45 a=some r->qai TP 45 [PV.agg (qvp.cells a)] (qtk r)):∀ (a:Val) (r:Int),qu4 n g45 a=some r->qai TP 45 [PV.agg (qvp.cells a)] (qtk r):=by
 intro a r h;obtain⟨g,j,k,l,d,m⟩:=a;unfold qu4 at h;refine zN Tryz.call45 Tryz.func45 [1000000] ?_;conv=>whnf
 refine qbh.fn [1000000] (S:=Int×Int) (fun(b,c)=>[(1,.ptr 0 0),(3,pI b),(4,pI c)]) (fun(b,c)=>[.box 44 [pI g,pB j,pI k,pS l,pV d,pT m]]) (B:=qls n d g45) h (wk [0] []) ?_;intro _ st h;obtain⟨b,c⟩:=st;unfold qls at h;conv=>whnf
 apply ifc h<;>intro _ h
 ·conv=>whnf
  refine bq h fun⟨_,_,_,_,_,_⟩ f h=>?_;refine⟨_,Codec.at_ qvp f,?_⟩;conv=>whnf
  refine bq h fun i e h=>?_;refine⟨_,(g45_ok _ _ e),?_⟩;conv=>whnf
  exact⟨((kwr .i64 (b+i)),(kwr .i64 (c+1))),h,wk [0] []⟩
 obtain rfl:=sj h;conv=>whnf
 try exact fin
def qms:Nat->Val->Option (Int)
 | 0=>fun _=>none
 | n+1=>qu4 n (qms n)
theorem q8n (n:Nat):(∀ (a:Val) (r:Int),qms n a=some r->qai TP 45 [PV.agg (qvp.cells a)] (qtk r)):=by
 induction n with
 | zero=>exact(by intros; rename_i h; cases h)
 | succ n ih=>
  have hg45:=ih;exact q8e n (qms n) hg45
theorem za4 (n:Nat):∀ (a:Val) (r:Int),qms n a=some r->qai TP 45 [PV.agg (qvp.cells a)] (qtk r):=(q8n n)
abbrev qtl (r:Int):PV:=PV.int .i64 r
def ql0 (n:Nat) (c:List qaa) (d:Int) (g21:qaa->Int->Option (Int)):LK (Int×Int) (Int):=fun e (a,b)=>
 bif(bif(decide (b<((qaa.rows c).length:Int)))then(decide (a<d))else false)then(
 bnd (idx c b) fun⟨f,g,⟨i,j,k,l,m,o⟩,p,q⟩=>
 bnd (g21 (qaa.mk f g (Val.mk i j k l m o) p q) (kwr .i64 (d - a))) fun s=>
 e ((kwr .i64 (a+s)),(kwr .i64 (b+1))))
 else(
 some a)
def qu5 (n:Nat) (g21:qaa->Int->Option (Int)) (b:qaa) (d:Int):Option (Int):=
 match b with
 | ⟨_,f,⟨g,i,j,a,k,l⟩,_,c⟩=>
 bnd (qms n (Val.mk g i j a k l)) fun e=>
 qam (ql0 n c d g21) n ((kwr .i64 ((kwr .i64 ((kwr .i64 ((1:Int)+(kwr .i64 (Int.tdiv ((f.length:Nat):Int) (16:Int)))))+(kwr .i64 (Int.tdiv ((a.length:Nat):Int) (16:Int)))))+e)),(0:Int))
theorem q8f (n:Nat) (g21:qaa->Int->Option (Int)) (g21_ok:∀ (b:qaa) (a r:Int),g21 b a=some r->qai TP 21 [PV.agg (qck.cells b),PV.int .i64 a] (qtl r)):∀ (b:qaa) (a r:Int),qu5 n g21 b a=some r->qai TP 21 [PV.agg (qck.cells b),PV.int .i64 a] (qtl r):=by
 intro b a r h;obtain⟨j,k,⟨m,o,p,q,s,t⟩,u,e⟩:=b;unfold qu5 at h;refine zN Tryz.call21 Tryz.func21 [1000000] ?_;conv=>whnf
 refine⟨by unfold gI; decide,?_⟩;conv=>whnf
 refine⟨by unfold gI; decide,?_⟩;conv=>whnf
 refine bq h fun _ i h=>?_;refine⟨_,(za4 n _ _ i),?_⟩;conv=>whnf
 refine qbh.fn [1000000] (S:=Int×Int) (fun(c,d)=>[(1,pI a),(2,.ptr 0 0),(5,pI c),(6,pI d)]) (fun(c,d)=>[.box 46 [pI j,pS k,pI m,pB o,pI p,pS q,pV s,pT t,pT u,pE e]]) (B:=ql0 n e a g21) h (wk [0] []) ?_;intro _ st h;obtain⟨c,d⟩:=st;unfold ql0 at h;conv=>whnf
 refine⟨id,id,id,?_⟩;conv=>whnf
 apply ifc h<;>intro _ h
 ·conv=>whnf
  refine bq h fun⟨_,_,⟨_,_,_,_,_,_⟩,_,_⟩ g h=>?_;refine⟨_,Codec.at_ qck g,?_⟩;conv=>whnf
  refine bq h fun l f h=>?_;refine⟨_,(g21_ok _ _ _ f),?_⟩;conv=>whnf
  exact⟨((kwr .i64 (c+l)),(kwr .i64 (d+1))),h,wk [0] []⟩
 obtain rfl:=sj h;conv=>whnf
 try exact fin
def qg5:Nat->qaa->Int->Option (Int)
 | 0=>fun _ _=>none
 | n+1=>qu5 n (qg5 n)
theorem q8s (n:Nat):(∀ (a:qaa) (b r:Int),qg5 n a b=some r->qai TP 21 [PV.agg (qck.cells a),PV.int .i64 b] (qtl r)):=by
 induction n with
 | zero=>exact(by intros; rename_i h; cases h)
 | succ n ih=>
  have hg21:=ih;exact q8f n (qg5 n) hg21
theorem qow (n:Nat):∀ (a:qaa) (b r:Int),qg5 n a b=some r->qai TP 21 [PV.agg (qck.cells a),PV.int .i64 b] (qtl r):=(q8s n)
abbrev q7j (r:Int):PV:=PV.int .i64 r
def qh1 (n:Nat) (c:List qaa) (d:Int):LK (Int×Int) (Int):=fun e (a,b)=>
 bif(bif(decide (b<((qaa.rows c).length:Int)))then(decide (a<d))else false)then(
 bnd (idx c b) fun⟨m,o,⟨p,q,s,f,g,i⟩,j,k⟩=>
 bnd (qg5 n (qaa.mk m o (Val.mk p q s f g i) j k) (kwr .i64 (d - a))) fun l=>
 e ((kwr .i64 (a+l)),(kwr .i64 (b+1))))
 else(
 some a)
def qgj (n:Nat) (a:List qaa) (b:Int):Option (Int):=
 qam (qh1 n a b) n ((0:Int),(0:Int))
theorem qki (n:Nat):∀ (a:List qaa) (b r:Int),qgj n a b=some r->qai TP 22 [PV.sl (qaa.rows a),PV.int .i64 b] (q7j r):=by
 intro a b r h;unfold qgj at h;refine zN Tryz.call22 Tryz.func22 [1000000] ?_;conv=>whnf
 refine qbh.fn [1000000] (S:=Int×Int) (fun(c,d)=>[(0,pE a),(1,pI b),(5,pI c),(6,pI d)]) (fun(c,d)=>[]) (B:=qh1 n a b) h (wk [] []) ?_;intro _ st h;obtain⟨c,d⟩:=st;unfold qh1 at h;conv=>whnf
 refine⟨id,id,id,?_⟩;conv=>whnf
 apply ifc h<;>intro _ h
 ·conv=>whnf
  refine bq h fun⟨_,_,⟨_,_,_,_,_,_⟩,_,_⟩ f h=>?_;refine⟨_,Codec.at_ qck f,?_⟩;conv=>whnf
  refine bq h fun g e h=>?_;refine⟨_,(qow n _ _ _ e),?_⟩;conv=>whnf
  exact⟨((kwr .i64 (c+g)),(kwr .i64 (d+1))),h,wk [] []⟩
 obtain rfl:=sj h;conv=>whnf
 try exact fin
abbrev zel (r:Bool):PV:=PV.bool r
def qjr (n:Nat) (d:List qa9) (a:Int) (e:Int×Int->Option (Bool)):LK (Int×Int) (Bool):=fun f (b,c)=>
 bnd (idx d a) fun⟨_,g⟩=>
 bif(bif(decide (c<((qag.rows g).length:Int)))then(decide (b<3000))else false)then(
 bnd (idx d a) fun⟨_,i⟩=>
 bnd (idx i c) fun⟨_,_,_,_,j⟩=>
 bnd (qgj n j (3000:Int)) fun k=>
 f ((kwr .i64 ((kwr .i64 (b+1))+k)),(kwr .i64 (c+1))))
 else(
 e (b,(kwr .i64 (a+1))))
def qlw (n:Nat) (c:List qa9) (a:Int) (e:Int×Int->Option (Bool)):LK (Int×Int) (Bool):=fun f (d,b)=>
 bnd (idx c a) fun⟨g,_⟩=>
 bif(bif(decide (b<((qae.rows g).length:Int)))then(decide (d<3000))else false)then(
 bnd (idx c a) fun⟨i,_⟩=>
 bnd (idx i b) fun⟨_,j,_,_⟩=>
 bnd (idx c a) fun⟨k,_⟩=>
 bnd (idx k b) fun⟨_,_,_,l⟩=>
 bnd (qgj n l (3000:Int)) fun m=>
 f ((kwr .i64 ((kwr .i64 ((kwr .i64 (d+1))+((qak j).length:Int)))+m)),(kwr .i64 (b+1))))
 else(
 qam (qjr n c a e) n (d,(0:Int)))
def qhp (n:Nat) (c:List qaf) (d:Int×Int->Option (Bool)) (l:Int):LK (Int×Int) (Bool):=fun e (a,b)=>
 bif(bif(decide (b<((qaf.rows c).length:Int)))then(decide (a<3000))else false)then(
 bnd (idx c b) fun⟨_,_,_,⟨m,o,⟨p,q,s,t,f,g⟩,i,j⟩⟩=>
 bnd (qg5 n (qaa.mk m o (Val.mk p q s t f g) i j) (3000:Int)) fun k=>
 e ((kwr .i64 ((kwr .i64 (a+1))+k)),(kwr .i64 (b+1))))
 else(
 d (a,(kwr .i64 (l+1))))
def qho (n:Nat) (c:List qat) (f:List qaf) (d:Int×Int->Option (Bool)) (g:Int):LK (Int×Int) (Bool):=fun e (a,b)=>
 bif(bif(decide (b<((qat.rows c).length:Int)))then(decide (a<3000))else false)then(
 bnd (idx c b) fun⟨⟨i,j,⟨k,l,m,o,p,q⟩,s,t⟩,_⟩=>
 bnd (qg5 n (qaa.mk i j (Val.mk k l m o p q) s t) (3000:Int)) fun u=>
 e ((kwr .i64 (a+u)),(kwr .i64 (b+1))))
 else(
 qam (qhp n f d g) n (a,(0:Int)))
def qhn (n:Nat) (c:List qbn) (f:List qat) (g:List qaf) (d:Int×Int->Option (Bool)) (i:Int):LK (Int×Int) (Bool):=fun e (a,b)=>
 bif(bif(decide (b<((qbn.rows c).length:Int)))then(decide (a<3000))else false)then(
 bnd (idx c b) fun⟨⟨j,k,⟨l,m,o,p,q,s⟩,t,u⟩,_⟩=>
 bnd (qg5 n (qaa.mk j k (Val.mk l m o p q s) t u) (3000:Int)) fun v=>
 e ((kwr .i64 (a+v)),(kwr .i64 (b+1))))
 else(
 qam (qho n f g d i) n (a,(0:Int)))
def qjq (n:Nat) (c:List qa9) (f:List qbn) (g:List qat) (i:List qaf) (d:Int×Int->Option (Bool)) (j:Int):LK (Int×Int) (Bool):=fun e (a,b)=>
 bif(bif(decide (b<((qa9.rows c).length:Int)))then(decide (a<3000))else false)then(
 qam (qlw n c b e) n (a,(0:Int)))
 else(
 qam (qhn n f g i d j) n (a,(0:Int)))
def qlv (n:Nat) (c:List qab):LK (Int×Int) (Bool):=fun d (a,b)=>
 bif(bif(decide (b<((qab.rows c).length:Int)))then(decide (a<3000))else false)then(
 bnd (idx c b) fun⟨_,y,z,⟨A,B,⟨C,e,f,g,i,j⟩,k,l⟩,_,m,_,o,p,q,s,t,_⟩=>
 bnd (qg5 n (qaa.mk A B (Val.mk C e f g i j) k l) (3000:Int)) fun u=>
 bnd (qgj n z (3000:Int)) fun v=>
 bnd (qgj n p (3000:Int)) fun w=>
 bnd (qgj n q (3000:Int)) fun x=>
 qam (qjq n y m o s d b) n ((kwr .i64 ((kwr .i64 ((kwr .i64 ((kwr .i64 ((kwr .i64 ((kwr .i64 (a+1))+u))+v))+w))+x))+((qak t).length:Int))),(0:Int)))
 else(
 some (decide (a≥3000)))
def qmx (n:Nat) (a:qip):Option (Bool):=
 match a with
 | ⟨b⟩=>
 qam (qlv n b) n ((0:Int),(0:Int))
set_option maxHeartbeats 4000000 in
theorem qr0 (n:Nat):∀ (G:qip) (r:Bool),qmx n G=some r->qai TP 8 [PV.agg (qy0.cells G)] (zel r):=by
 intro G r h;obtain⟨e⟩:=G;unfold qmx at h;refine zN Tryz.call8 Tryz.func8 [1000000] ?_;conv=>whnf
 refine qbh.fn [1000000] (S:=Int×Int) (fun(Q,a)=>[(1,.ptr 0 0),(3,pI Q),(4,pI a)]) (fun(Q,a)=>[.box 24 [pC e]]) (B:=qlv n e) h (wk [0] []) ?_;intro H st h;obtain⟨Q,a⟩:=st;unfold qlv at h;conv=>whnf
 refine⟨id,id,?_⟩;conv=>whnf
 apply ifc h<;>intro i h
 ·conv=>whnf
  refine bq h fun⟨y,d,z,⟨A,C,⟨D,j,k,l,m,o⟩,p,q⟩,s,f,t,c,u,v,b,w,x⟩ a7 h=>?_;refine⟨_,Codec.at_ qcz a7,?_⟩;conv=>whnf
  refine bq h fun _ a6 h=>?_;refine⟨_,(qow n _ _ _ a6),?_⟩;conv=>whnf
  refine bq h fun _ a4 h=>?_;refine⟨_,(qki n _ _ _ a4),?_⟩;conv=>whnf
  refine bq h fun _ a3 h=>?_;refine⟨_,(qki n _ _ _ a3),?_⟩;conv=>whnf
  refine bq h fun _ a2 h=>?_;refine⟨_,(qki n _ _ _ a2),?_⟩;conv=>whnf
  refine qbh.fn [1000000] (S:=Int×Int) (fun(R,g)=>[(1,.ptr 0 0),(3,pI R),(4,pI a),(5,.ptr 1 0),(6,pI g)]) (fun(R,g)=>[.box 24 [pC e],.box 51 [pI y,pP d,pE z,pI A,pS C,pI D,pB j,pI k,pS l,pV m,pT o,pT p,pE q,pS s,pA f,pB t,pO c,pE u,pE v,pU b,pT w,pB x]]) (B:=qjq n d f c b H a) h (wk [0,1] []) ?_;intro T st h;obtain⟨R,g⟩:=st;unfold qjq at h;conv=>whnf
  refine⟨id,id,?_⟩;conv=>whnf
  apply ifc h<;>intro i h
  ·conv=>whnf
   refine qbh.fn [1000000] (S:=Int×Int) (fun(I,J)=>[(1,.ptr 0 0),(3,pI I),(4,pI a),(5,.ptr 1 0),(6,pI g),(7,pI J)]) (fun(I,J)=>[.box 24 [pC e],.box 51 [pI y,pP d,pE z,pI A,pS C,pI D,pB j,pI k,pS l,pV m,pT o,pT p,pE q,pS s,pA f,pB t,pO c,pE u,pE v,pU b,pT w,pB x]]) (B:=qlw n d g T) h (wk [0,1] []) ?_;intro _ st h;obtain⟨I,J⟩:=st;unfold qlw at h;conv=>whnf
   refine bq h fun⟨_,_⟩ V h=>?_;refine⟨_,Codec.at_ qlh V,?_⟩;conv=>whnf
   refine⟨id,id,?_⟩;conv=>whnf
   apply ifc h<;>intro i h
   ·conv=>whnf
    refine bq h fun⟨_,_⟩ b0 h=>?_;refine⟨_,Codec.at_ qlh b0,?_⟩;(conv=>whnf);refine bq h fun⟨_,b6,_,_⟩ a9 h=>?_;refine⟨_,Codec.at_ qd2 a9,?_⟩;(conv=>whnf);refine bq h fun⟨_,_⟩ a8 h=>?_;refine⟨_,Codec.at_ qlh a8,?_⟩;(conv=>whnf);refine bq h fun⟨_,_,_,_⟩ a5 h=>?_;refine⟨_,Codec.at_ qd2 a5,?_⟩;(conv=>whnf);refine bq h fun b7 U h=>?_;refine⟨_,(qki n _ _ _ U),?_⟩;(conv=>whnf);exact⟨((kwr .i64 ((kwr .i64 ((kwr .i64 (I+1))+((qak b6).length:Int)))+b7)),(kwr .i64 (J+1))),h,wk [0,1] []⟩
   conv=>whnf
   refine qbh.fn [1000000] (S:=Int×Int) (fun(E,K)=>[(1,.ptr 0 0),(3,pI E),(4,pI a),(5,.ptr 1 0),(6,pI g),(8,pI K)]) (fun(E,K)=>[.box 24 [pC e],.box 51 [pI y,pP d,pE z,pI A,pS C,pI D,pB j,pI k,pS l,pV m,pT o,pT p,pE q,pS s,pA f,pB t,pO c,pE u,pE v,pU b,pT w,pB x]]) (B:=qjr n d g T) h (wk [0,1] []) ?_;intro _ st h;obtain⟨E,K⟩:=st;unfold qjr at h;conv=>whnf
   refine bq h fun⟨_,_⟩ b4 h=>?_;refine⟨_,Codec.at_ qlh b4,?_⟩;conv=>whnf
   refine⟨id,id,?_⟩;conv=>whnf
   apply ifc h<;>intro i h
   ·conv=>whnf
    refine bq h fun⟨_,_⟩ b3 h=>?_;refine⟨_,Codec.at_ qlh b3,?_⟩;(conv=>whnf);refine bq h fun⟨_,_,_,_,_⟩ b2 h=>?_;refine⟨_,Codec.at_ qg1 b2,?_⟩;(conv=>whnf);refine bq h fun b8 b1 h=>?_;refine⟨_,(qki n _ _ _ b1),?_⟩;(conv=>whnf);exact⟨((kwr .i64 ((kwr .i64 (E+1))+b8)),(kwr .i64 (K+1))),h,wk [0,1] []⟩
   conv=>whnf
   exact⟨(E,(kwr .i64 (g+1))),h,wk [0,1] []⟩
  conv=>whnf
  refine qbh.fn [1000000] (S:=Int×Int) (fun(L,M)=>[(1,.ptr 0 0),(3,pI L),(4,pI a),(5,.ptr 1 0),(9,pI M)]) (fun(L,M)=>[.box 24 [pC e],.box 51 [pI y,pP d,pE z,pI A,pS C,pI D,pB j,pI k,pS l,pV m,pT o,pT p,pE q,pS s,pA f,pB t,pO c,pE u,pE v,pU b,pT w,pB x]]) (B:=qhn n f c b H a) h (wk [0,1] []) ?_;intro _ st h;obtain⟨L,M⟩:=st;unfold qhn at h;conv=>whnf
  refine⟨id,id,?_⟩;conv=>whnf
  apply ifc h<;>intro i h
  ·conv=>whnf
   refine bq h fun⟨⟨_,_,⟨_,_,_,_,_,_⟩,_,_⟩,_⟩ X h=>?_;refine⟨_,Codec.at_ qst X,?_⟩;conv=>whnf
   refine bq h fun b9 W h=>?_;refine⟨_,(qow n _ _ _ W),?_⟩;conv=>whnf
   exact⟨((kwr .i64 (L+b9)),(kwr .i64 (M+1))),h,wk [0,1] []⟩
  conv=>whnf
  refine qbh.fn [1000000] (S:=Int×Int) (fun(N,O)=>[(1,.ptr 0 0),(3,pI N),(4,pI a),(5,.ptr 1 0),(10,pI O)]) (fun(N,O)=>[.box 24 [pC e],.box 51 [pI y,pP d,pE z,pI A,pS C,pI D,pB j,pI k,pS l,pV m,pT o,pT p,pE q,pS s,pA f,pB t,pO c,pE u,pE v,pU b,pT w,pB x]]) (B:=qho n c b H a) h (wk [0,1] []) ?_;intro _ st h;obtain⟨N,O⟩:=st;unfold qho at h;conv=>whnf
  refine⟨id,id,?_⟩;conv=>whnf
  apply ifc h<;>intro i h
  ·conv=>whnf
   refine bq h fun⟨⟨_,_,⟨_,_,_,_,_,_⟩,_,_⟩,_⟩ Z h=>?_;refine⟨_,Codec.at_ qqf Z,?_⟩;conv=>whnf
   refine bq h fun c0 Y h=>?_;refine⟨_,(qow n _ _ _ Y),?_⟩;conv=>whnf
   exact⟨((kwr .i64 (N+c0)),(kwr .i64 (O+1))),h,wk [0,1] []⟩
  conv=>whnf
  refine qbh.fn [1000000] (S:=Int×Int) (fun(F,P)=>[(1,.ptr 0 0),(3,pI F),(4,pI a),(5,.ptr 1 0),(11,pI P)]) (fun(F,P)=>[.box 24 [pC e],.box 51 [pI y,pP d,pE z,pI A,pS C,pI D,pB j,pI k,pS l,pV m,pT o,pT p,pE q,pS s,pA f,pB t,pO c,pE u,pE v,pU b,pT w,pB x]]) (B:=qhp n b H a) h (wk [0,1] []) ?_;intro _ st h;obtain⟨F,P⟩:=st;unfold qhp at h;conv=>whnf
  refine⟨id,id,?_⟩;conv=>whnf
  apply ifc h<;>intro i h
  ·conv=>whnf
   refine bq h fun⟨_,_,_,⟨_,_,⟨_,_,_,_,_,_⟩,_,_⟩⟩ a1 h=>?_;refine⟨_,Codec.at_ qjo a1,?_⟩;conv=>whnf
   refine bq h fun b5 a0 h=>?_;refine⟨_,(qow n _ _ _ a0),?_⟩;conv=>whnf
   exact⟨((kwr .i64 ((kwr .i64 (F+1))+b5)),(kwr .i64 (P+1))),h,wk [0,1] []⟩
  conv=>whnf
  exact⟨(F,(kwr .i64 (a+1))),h,wk [0] []⟩
 obtain rfl:=sj h;conv=>whnf
 try exact fin
abbrev zbz (r:Bool):PV:=PV.bool r
def qix (n:Nat) (a:Int):Option (Bool):=
 some (bif(bif(bif(decide (a≥97))then(decide (a<=122))else false)then true else(bif(decide (a≥65))then(decide (a<=90))else false))then true else(a==95))
theorem qqm (n:Nat):∀ (a:Int) (r:Bool),qix n a=some r->qai TP 114 [PV.int .u8 a] (zbz r):=by
 intro a r h;unfold qix at h;refine zN Tryz.call114 Tryz.func114 [1000000] ?_;conv=>whnf
 iterate 10 refine⟨id,?_⟩
 obtain rfl:=sj h;conv=>whnf
 try exact fin
abbrev zeg (r:Bool):PV:=PV.bool r
def qk4 (n:Nat) (a:Int):Option (Bool):=
 some (bif(decide (a≥48))then(decide (a<=57))else false)
theorem qot (n:Nat):∀ (a:Int) (r:Bool),qk4 n a=some r->qai TP 115 [PV.int .u8 a] (zeg r):=by
 intro a r h;unfold qk4 at h;refine zN Tryz.call115 Tryz.func115 [1000000] ?_;conv=>whnf
 refine⟨id,id,?_⟩;obtain rfl:=sj h;conv=>whnf
 try exact fin
abbrev zek (r:List SS):PV:=PV.sl (qak r)
def qxh (n:Nat):Option (List SS):=
 some [([77,65,84,67,72]:SS),([87,72,69,82,69]:SS),([85,78,87,73,78,68]:SS),([65,83]:SS),([87,73,84,72]:SS),([67,82,69,65,84,69]:SS),([77,69,82,71,69]:SS),([83,69,84]:SS),([82,69,77,79,86,69]:SS),([68,69,76,69,84,69]:SS),([68,69,84,65,67,72]:SS),([82,69,84,85,82,78]:SS),([68,73,83,84,73,78,67,84]:SS),([79,82,68,69,82]:SS),([66,89]:SS),([65,83,67]:SS),([68,69,83,67]:SS),([83,75,73,80]:SS),([76,73,77,73,84]:SS),([65,78,68]:SS),([79,82]:SS),([88,79,82]:SS),([78,79,84]:SS),([73,78]:SS),([73,83]:SS),([78,85,76,76]:SS),([84,82,85,69]:SS),([70,65,76,83,69]:SS)]
theorem zba (n:Nat):∀ (r:List SS),qxh n=some r->qai TP 148 [] (zek r):=by
 intro r h;unfold qxh at h;refine zN Tryz.call148 Tryz.func148 [1000000] ?_;conv=>whnf
 refine⟨Codec.one qpr [([77,65,84,67,72]:SS),([87,72,69,82,69]:SS),([85,78,87,73,78,68]:SS),([65,83]:SS),([87,73,84,72]:SS),([67,82,69,65,84,69]:SS),([77,69,82,71,69]:SS),([83,69,84]:SS),([82,69,77,79,86,69]:SS),([68,69,76,69,84,69]:SS),([68,69,84,65,67,72]:SS),([82,69,84,85,82,78]:SS),([68,73,83,84,73,78,67,84]:SS),([79,82,68,69,82]:SS),([66,89]:SS),([65,83,67]:SS),([68,69,83,67]:SS),([83,75,73,80]:SS),([76,73,77,73,84]:SS),([65,78,68]:SS),([79,82]:SS),([88,79,82]:SS),([78,79,84]:SS),([73,78]:SS),([73,83]:SS),([78,85,76,76]:SS),([84,82,85,69]:SS),([70,65,76,83,69]:SS)],qak [([77,65,84,67,72]:SS),([87,72,69,82,69]:SS),([85,78,87,73,78,68]:SS),([65,83]:SS),([87,73,84,72]:SS),([67,82,69,65,84,69]:SS),([77,69,82,71,69]:SS),([83,69,84]:SS),([82,69,77,79,86,69]:SS),([68,69,76,69,84,69]:SS),([68,69,84,65,67,72]:SS),([82,69,84,85,82,78]:SS),([68,73,83,84,73,78,67,84]:SS),([79,82,68,69,82]:SS),([66,89]:SS),([65,83,67]:SS),([68,69,83,67]:SS),([83,75,73,80]:SS),([76,73,77,73,84]:SS),([65,78,68]:SS),([79,82]:SS),([88,79,82]:SS),([78,79,84]:SS),([73,78]:SS),([73,83]:SS),([78,85,76,76]:SS),([84,82,85,69]:SS),([70,65,76,83,69]:SS)],.inl rfl,?_⟩;obtain rfl:=sj h;conv=>whnf
 try exact fin
abbrev zei (r:SS):PV:=PV.str r
def qlt (n:Nat) (a:SS) (c:SS×Int->Option SS) (d:Int):Int->Option SS:=fun e=>
 bnd (u8I e) fun b=>
 chk (decide ((qau (a++[b])).length * 1<=140737488355328)) (
 c ((a++[b]),(kwr .i64 (d+1))))
def qlu (n:Nat) (e:SS):(SS×Int->Option SS)->SS×Int->Option SS:=fun d (c,a)=>
 bif(decide (a<((e.length:Nat):Int)))then(
 bnd (idx e a) fun b=>
 bif(bif(decide (((b.toNat:Nat):Int)≥97))then(decide (((b.toNat:Nat):Int)<=122))else false)then(
 qlt n c d a (kwr .u8 (((b.toNat:Nat):Int) - 32)))
 else(
 qlt n c d a ((b.toNat:Nat):Int)))
 else(
 some c)
def qt7 (n:Nat) (a:SS):Option SS:=
 qam (qlu n a) n (([]:List _),(0:Int))
theorem za9 (n:Nat):∀ (c r:SS),qt7 n c=some r->qai TP 149 [PV.str c] (zei r):=by
 intro c r h;unfold qt7 at h;refine zN Tryz.call149 Tryz.func149 [1000000] ?_;conv=>whnf
 refine qbh.fn [1000000] (S:=SS×Int) (fun(a,d)=>[(0,pS c),(3,.tsl 0 (qau a)),(4,pI d)]) (fun(a,d)=>[.tail 5 1 (qau a).length]) (B:=qlu n c) h (wk [0] [0]) ?_;intro l st h;obtain⟨a,d⟩:=st;unfold qlu at h;conv=>whnf
 apply ifc h<;>intro k h
 ·conv=>whnf
  refine bq h fun g j h=>?_;refine⟨_,qc8 j,?_⟩;conv=>whnf
  refine qhd.cut (S:=Int) (fun e=>[(0,pS c),(3,.tsl 0 (qau a)),(4,pI d),(5,.p (.int .u8 e))]) (fun e=>[.tail 5 1 (qau a).length]) (qlt n a l d) (r:=r) ?_ ?_
  ·intro e h
   unfold qlt at h;conv=>whnf
   refine bq h fun b i h=>?_;rw[show([[PV.int .u8 e]]:List (List PV))=qau [b]from by rw[qet i]; rfl];refine⟨Codec.one qdl [b],_,.inl rfl,?_⟩;conv=>whnf
   rw[show qau a++qau [b]=qau (a++[b])from Codec.append qdl a [b]];conv=>whnf
   obtain⟨f,h⟩:=qah h;refine⟨⟨Codec.wide qdl (a++[b]),kod f,qb5 f (by decide)⟩,?_⟩;conv=>whnf
   refine⟨⟨rfl,rfl,rfl⟩,?_⟩;conv=>whnf
   exact⟨((a++[b]),(kwr .i64 (d+1))),h,wk [1] []⟩
  conv=>whnf
  refine⟨id,?_⟩;conv=>whnf
  refine⟨id,?_⟩;conv=>whnf
  apply ifc h<;>intro k h
  ·conv=>whnf
   exact⟨(kwr .u8 (((g.toNat:Nat):Int) - 32)),h,wk [0] []⟩
  conv=>whnf
  exact⟨((g.toNat:Nat):Int),h,wk [0] []⟩
 conv=>whnf
 refine⟨_,rfl,?_⟩;obtain rfl:=sj h;conv=>whnf
 try exact fin
abbrev zgi (r:SS×Bool):PV:=PV.tup [PV.str r.1,PV.bool r.2]
def qnm (n:Nat) (b:List SS) (c:SS):LK (Int) (SS×Bool):=fun d a=>
 bif(decide (a<((qak b).length:Int)))then(
 bnd (idx b a) fun e=>
 bif(e==c)then(
 some (c,true))
 else(
 d (kwr .i64 (a+1))))
 else(
 some (([]:SS),false))
def qtt (n:Nat) (a:SS):Option (SS×Bool):=
 bnd (qxh n) fun b=>
 bnd (qt7 n a) fun c=>
 qam (qnm n b c) n (0:Int)
theorem q3e (n:Nat):∀ (b:SS) (r:SS×Bool),qtt n b=some r->qai TP 100 [PV.str b] (zgi r):=by
 intro b r h;unfold qtt at h;refine zN Tryz.call100 Tryz.func100 [1000000] ?_;conv=>whnf
 refine bq h fun c g h=>?_;refine⟨_,(zba n _ g),?_⟩;conv=>whnf
 refine bq h fun d f h=>?_;refine⟨_,(za9 n _ _ f),?_⟩;conv=>whnf
 refine qbh.fn [1000000] (S:=Int) (fun a=>[(4,pT c),(5,pS d),(6,pI a)]) (fun a=>[]) (B:=qnm n c d) h (wk [] []) ?_;intro _ a h;unfold qnm at h;conv=>whnf
 apply ifc h<;>intro i h
 ·conv=>whnf
  refine bq h fun _ e h=>?_;refine⟨_,Codec.at_ qpr e,?_⟩;conv=>whnf
  apply ifc h<;>intro i h
  ·obtain rfl:=sj h
   conv=>whnf
   try exact fin
  conv=>whnf
  exact⟨(kwr .i64 (a+1)),h,wk [] []⟩
 obtain rfl:=sj h;conv=>whnf
 try exact fin
abbrev zbx (r:Bool):PV:=PV.bool r
def qt2 (n:Nat) (a:SS):LK (Int) (Bool):=fun d b=>
 bif(decide (b<((a.length:Nat):Int)))then(
 bnd (idx a b) fun c=>
 bnd (qaw (!(decide (((c.toNat:Nat):Int)<48))) (idx a b)) fun e=>
 bif(bif(decide (((c.toNat:Nat):Int)<48))then true else(decide (((e.toNat:Nat):Int)>57)))then(
 some false)
 else(
 d (kwr .i64 (b+1))))
 else(
 some (decide (((a.length:Nat):Int)>0)))
def qy8 (n:Nat) (a:SS):Option (Bool):=
 qam (qt2 n a) n (0:Int)
theorem q8l (n:Nat):∀ (a:SS) (r:Bool),qy8 n a=some r->qai TP 155 [PV.str a] (zbx r):=by
 intro a r h;unfold qy8 at h;refine zN Tryz.call155 Tryz.func155 [1000000] ?_;conv=>whnf
 refine qbh.fn [1000000] (S:=Int) (fun b=>[(0,pS a),(3,pI b)]) (fun b=>[]) (B:=qt2 n a) h (wk [] []) ?_;intro _ b h;unfold qt2 at h;conv=>whnf
 apply ifc h<;>intro e h
 ·conv=>whnf
  refine bq h fun _ d h=>?_;refine⟨_,qc8 d,?_⟩;conv=>whnf
  refine⟨id,id,?_⟩;conv=>whnf
  refine bq h fun _ c h=>?_;refine⟨_,fun f=>qc8 (qac c f),?_⟩;conv=>whnf
  refine⟨id,id,?_⟩;conv=>whnf
  apply ifc h<;>intro e h
  ·obtain rfl:=sj h
   conv=>whnf
   try exact fin
  conv=>whnf
  exact⟨(kwr .i64 (b+1)),h,wk [] []⟩
 obtain rfl:=sj h;conv=>whnf
 try exact fin
abbrev zi1 (r:Int×Int):PV:=PV.tup [PV.int .i64 r.1,PV.int .i64 r.2]
def q8m (n:Nat) (b a:Int):Option (Int×Int):=
 bif(bif(b==0)then true else(a==0))then(
 some ((0:Int),(0:Int)))
 else(
 bif(bif(bif(b==(-1:Int))then(a==(-9223372036854775808:Int))else false)then true else(bif(a==(-1:Int))then(b==(-9223372036854775808:Int))else false))then(
 some ((0:Int),(4:Int)))
 else(
 chk (decide (a≠0)) (
 bif((kwr .i64 (Int.tdiv (kwr .i64 (b * a)) a)) != b)then(
 some ((0:Int),(4:Int)))
 else(
 some ((kwr .i64 (b * a)),(0:Int))))))
theorem zf8 (n:Nat):∀ (b a:Int) (r:Int×Int),q8m n b a=some r->qai TP 156 [PV.int .i64 b,PV.int .i64 a] (zi1 r):=by
 intro b a r h;unfold q8m at h;refine zN Tryz.call156 Tryz.func156 [1000000] ?_;conv=>whnf
 refine⟨id,id,?_⟩;conv=>whnf
 apply ifc h<;>intro c h
 ·obtain rfl:=sj h
  conv=>whnf
  try exact fin
 conv=>whnf
 iterate 8 refine⟨id,?_⟩
 conv=>whnf
 apply ifc h<;>intro c h
 ·obtain rfl:=sj h
  conv=>whnf
  try exact fin
 conv=>whnf
 obtain⟨d,h⟩:=qah h;refine⟨(kod d:a≠0),?_⟩;conv=>whnf
 apply ifc h<;>intro c h
 ·obtain rfl:=sj h
  conv=>whnf
  try exact fin
 obtain rfl:=sj h;conv=>whnf
 try exact fin
abbrev zi0 (r:Int×Int):PV:=PV.tup [PV.int .i64 r.1,PV.int .i64 r.2]
def q8k (n:Nat) (b a:Int):Option (Int×Int):=
 bif(bif(bif(decide (a>0))then(decide (b>(kwr .i64 ((9223372036854775807:Int) - a))))else false)then true else(bif(decide (a<0))then(decide (b<(kwr .i64 ((-9223372036854775808:Int) - a))))else false))then(
 some ((0:Int),(4:Int)))
 else(
 some ((kwr .i64 (b+a)),(0:Int)))
theorem zf7 (n:Nat):∀ (a b:Int) (r:Int×Int),q8k n a b=some r->qai TP 157 [PV.int .i64 a,PV.int .i64 b] (zi0 r):=by
 intro a b r h;unfold q8k at h;refine zN Tryz.call157 Tryz.func157 [1000000] ?_;conv=>whnf
 iterate 12 refine⟨id,?_⟩
 conv=>whnf
 apply ifc h<;>intro _ h
 ·obtain rfl:=sj h
  conv=>whnf
  try exact fin
 obtain rfl:=sj h;conv=>whnf
 try exact fin
abbrev zef (r:Int×Int):PV:=PV.tup [PV.int .i64 r.1,PV.int .i64 r.2]
def qrz (n:Nat) (f:Int) (b:Int×Int->Option (Int×Int)) (e:Int):Int->Option (Int×Int):=fun c=>
 bnd (q8k n f c) fun⟨d,a⟩=>
 bif(a != 0)then(
 some ((0:Int),a))
 else(
 b (d,(kwr .i64 (e+1))))
def qvt (n:Nat) (b i:SS):LK (Int×Int) (Int×Int):=fun c (d,a)=>
 bif(decide (a<((b.length:Nat):Int)))then(
 bnd (q8m n d (10:Int)) fun⟨e,f⟩=>
 bif(f != 0)then(
 some ((0:Int),f))
 else(
 bnd (idx b a) fun g=>
 bif(decide (((b.length:Nat):Int)<((i.length:Nat):Int)))then(
 qrz n e c a (kwr .i64 ((0:Int) - (kwr .i64 (kwr .u8 (((g.toNat:Nat):Int) - 48))))))
 else(
 qrz n e c a (kwr .i64 (kwr .u8 (((g.toNat:Nat):Int) - 48))))))
 else(
 some (d,(0:Int)))
def qry (n:Nat) (b:SS):SS->Option (Int×Int):=fun a=>
 bnd (qy8 n a) fun c=>
 bnd (qaw (!(!c)) (idx a (0:Int))) fun d=>
 bif(bif(!c)then true else(bif(((d.toNat:Nat):Int)==48)then(!(b==([48]:SS)))else false))then(
 some ((0:Int),(1:Int)))
 else(
 qam (qvt n a b) n ((0:Int),(0:Int)))
def q18 (n:Nat) (a:SS):Option (Int×Int):=
 bnd (qaw (decide (((a.length:Nat):Int)>0)) (idx a (0:Int))) fun b=>
 bif(bif(decide (((a.length:Nat):Int)>0))then(((b.toNat:Nat):Int)==45)else false)then(
 chk (decide (1<=a.length)) (
 qry n a (a.drop 1)))
 else(
 qry n a a)
theorem za2 (n:Nat):∀ (a:SS) (r:Int×Int),q18 n a=some r->qai TP 116 [PV.str a] (zef r):=by
 intro a r h;unfold q18 at h;refine zN Tryz.call116 Tryz.func116 [1000000] ?_;conv=>whnf
 refine qhd.cut (S:=SS) (fun b=>[(0,pS a),(4,pS b)]) (fun b=>[]) (qry n a) (r:=r) ?_ ?_
 ·intro b h
  unfold qry at h;conv=>whnf
  refine bq h fun _ p h=>?_;refine⟨_,(q8l n _ _ p),?_⟩;conv=>whnf
  refine⟨id,?_⟩;conv=>whnf
  refine bq h fun _ o h=>?_;refine⟨_,fun e=>qc8 (qac o e),?_⟩;conv=>whnf
  iterate 6 refine⟨id,?_⟩
  conv=>whnf
  apply ifc h<;>intro d h
  ·obtain rfl:=sj h
   conv=>whnf
   try exact fin
  conv=>whnf
  refine qbh.fn [1000000] (S:=Int×Int) (fun(g,c)=>[(0,pS a),(4,pS b),(5,pI g),(6,pI c)]) (fun(g,c)=>[]) (B:=qvt n b a) h (wk [] []) ?_;intro t st h;obtain⟨g,c⟩:=st;unfold qvt at h;conv=>whnf
  apply ifc h<;>intro d h
  ·conv=>whnf
   refine bq h fun⟨i,_⟩ m h=>?_;refine⟨_,(zf8 n _ _ _ m),?_⟩;conv=>whnf
   apply ifc h<;>intro d h
   ·obtain rfl:=sj h
    conv=>whnf
    try exact fin
   conv=>whnf
   refine bq h fun j l h=>?_;refine⟨_,qc8 l,?_⟩;conv=>whnf
   refine qhd.cut (S:=Int) (fun f=>[(0,pS a),(4,pS b),(6,pI c),(7,pI i),(9,pI f)]) (fun f=>[]) (qrz n i t c) (r:=r) ?_ ?_
   ·intro f h
    unfold qrz at h;(conv=>whnf);refine bq h fun⟨u,_⟩ k h=>?_;refine⟨_,(zf7 n _ _ _ k),?_⟩;(conv=>whnf);apply ifc h<;>intro d h
    ·obtain rfl:=sj h
     conv=>whnf
     try exact fin
    (conv=>whnf);exact⟨(u,(kwr .i64 (c+1))),h,wk [] []⟩
   conv=>whnf
   apply ifc h<;>intro d h
   ·conv=>whnf
    exact⟨(kwr .i64 ((0:Int) - (kwr .i64 (kwr .u8 (((j.toNat:Nat):Int) - 48))))),h,wk [] []⟩
   conv=>whnf
   exact⟨(kwr .i64 (kwr .u8 (((j.toNat:Nat):Int) - 48))),h,wk [] []⟩
  obtain rfl:=sj h;conv=>whnf
  try exact fin
 conv=>whnf
 refine⟨id,?_⟩;conv=>whnf
 refine bq h fun _ s h=>?_;refine⟨_,fun e=>qc8 (qac s e),?_⟩;conv=>whnf
 refine⟨id,id,?_⟩;conv=>whnf
 apply ifc h<;>intro d h
 ·conv=>whnf
  refine⟨1,rfl,?_⟩;conv=>whnf
  obtain⟨q,h⟩:=qah h;refine⟨⟨(kod q:(1<=a.length)),Nat.le_refl _⟩,?_⟩;rw[show List.drop 1 (List.take a.length a)=(a.drop 1)from by rw[List.take_length]];conv=>whnf
  exact⟨(a.drop 1),h,wk [] []⟩
 conv=>whnf
 exact⟨a,h,wk [] []⟩
abbrev zgg (r:Bool):PV:=PV.bool r
def qri (n:Nat) (a:SS) (b:Int):Option (Bool):=
 bnd (qaw (decide (b<((a.length:Nat):Int))) (idx a b)) fun c=>
 bnd (qaw (bif(decide (b<((a.length:Nat):Int)))then(decide (((c.toNat:Nat):Int)≥128))else false) (idx a b)) fun d=>
 some (bif(bif(decide (b<((a.length:Nat):Int)))then(decide (((c.toNat:Nat):Int)≥128))else false)then(decide (((d.toNat:Nat):Int)<192))else false)
theorem qxd (n:Nat):∀ (b:SS) (c:Int) (r:Bool),qri n b c=some r->qai TP 150 [PV.str b,PV.int .i64 c] (zgg r):=by
 intro b c r h;unfold qri at h;refine zN Tryz.call150 Tryz.func150 [1000000] ?_;conv=>whnf
 refine⟨id,id,?_⟩;conv=>whnf
 refine bq h fun _ e h=>?_;refine⟨_,fun a=>qc8 (qac e a),?_⟩;conv=>whnf
 refine⟨id,id,id,id,?_⟩;conv=>whnf
 refine bq h fun _ d h=>?_;refine⟨_,fun a=>qc8 (qac d a),?_⟩;conv=>whnf
 refine⟨id,id,?_⟩;obtain rfl:=sj h;conv=>whnf
 try exact fin
abbrev zgf (r:Int):PV:=PV.int .i64 r
def qts (n:Nat) (b:SS) (c:Int):Option (Int):=
 bif(decide (c≥((b.length:Nat):Int)))then(
 some (0:Int))
 else(
 bnd (idx b c) fun a=>
 bif(decide (((a.toNat:Nat):Int)<128))then(
 some (1:Int))
 else(
 bnd (qaw (!(bif(decide (((a.toNat:Nat):Int)<194))then true else(decide (((a.toNat:Nat):Int)>244)))) (qri n b (kwr .i64 (c+1)))) fun e=>
 bif(bif(bif(decide (((a.toNat:Nat):Int)<194))then true else(decide (((a.toNat:Nat):Int)>244)))then true else(!e))then(
 some (0:Int))
 else(
 bif(decide (((a.toNat:Nat):Int)<224))then(
 some (2:Int))
 else(
 bnd (idx b (kwr .i64 (c+1))) fun d=>
 bnd (qri n b (kwr .i64 (c+2))) fun f=>
 bif(bif(bif(!f)then true else(bif(((a.toNat:Nat):Int)==224)then(decide (((d.toNat:Nat):Int)<160))else false))then true else(bif(((a.toNat:Nat):Int)==237)then(decide (((d.toNat:Nat):Int)≥160))else false))then(
 some (0:Int))
 else(
 bif(decide (((a.toNat:Nat):Int)<240))then(
 some (3:Int))
 else(
 bnd (qri n b (kwr .i64 (c+3))) fun g=>
 bif(bif(bif(!g)then true else(bif(((a.toNat:Nat):Int)==240)then(decide (((d.toNat:Nat):Int)<144))else false))then true else(bif(((a.toNat:Nat):Int)==244)then(decide (((d.toNat:Nat):Int)≥144))else false))then(
 some (0:Int))
 else(
 some (4:Int))))))))
set_option maxHeartbeats 4000000 in
theorem q3d (n:Nat):∀ (b:SS) (c r:Int),qts n b c=some r->qai TP 102 [PV.str b,PV.int .i64 c] (zgf r):=by
 intro b c r h;unfold qts at h;refine zN Tryz.call102 Tryz.func102 [1000000] ?_;conv=>whnf
 apply ifc h<;>intro a h
 ·obtain rfl:=sj h
  conv=>whnf
  try exact fin
 conv=>whnf
 refine bq h fun _ i h=>?_;refine⟨_,qc8 i,?_⟩;conv=>whnf
 apply ifc h<;>intro a h
 ·obtain rfl:=sj h
  conv=>whnf
  try exact fin
 conv=>whnf
 refine⟨id,id,id,id,id,?_⟩;conv=>whnf
 refine bq h fun _ g h=>?_;refine⟨_,fun j=>(qxd n _ _ _ (qac g j)),?_⟩;conv=>whnf
 refine⟨id,id,?_⟩;conv=>whnf
 apply ifc h<;>intro a h
 ·obtain rfl:=sj h
  conv=>whnf
  try exact fin
 conv=>whnf
 apply ifc h<;>intro a h
 ·obtain rfl:=sj h
  conv=>whnf
  try exact fin
 conv=>whnf
 refine bq h fun _ f h=>?_;refine⟨_,qc8 f,?_⟩;conv=>whnf
 refine bq h fun _ e h=>?_;refine⟨_,(qxd n _ _ _ e),?_⟩;conv=>whnf
 iterate 12 refine⟨id,?_⟩
 conv=>whnf
 apply ifc h<;>intro a h
 ·obtain rfl:=sj h
  conv=>whnf
  try exact fin
 conv=>whnf
 apply ifc h<;>intro a h
 ·obtain rfl:=sj h
  conv=>whnf
  try exact fin
 conv=>whnf
 refine bq h fun _ d h=>?_;refine⟨_,(qxd n _ _ _ d),?_⟩;conv=>whnf
 iterate 12 refine⟨id,?_⟩
 conv=>whnf
 apply ifc h<;>intro a h
 ·obtain rfl:=sj h
  conv=>whnf
  try exact fin
 obtain rfl:=sj h;conv=>whnf
 try exact fin
abbrev zi3 (r:Int):PV:=PV.int .i64 r
def qwh (n:Nat) (a:Int):Option (Int):=
 bnd (qk4 n a) fun b=>
 bif b then(
 some (kwr .i64 (kwr .u8 (a - 48))))
 else(
 bif(bif(decide (a≥97))then(decide (a<=102))else false)then(
 some (kwr .i64 ((kwr .i64 (kwr .u8 (a - 97)))+10)))
 else(
 bif(bif(decide (a≥65))then(decide (a<=70))else false)then(
 some (kwr .i64 ((kwr .i64 (kwr .u8 (a - 65)))+10)))
 else(
 some (-1:Int))))
theorem qu7 (n:Nat):∀ (a r:Int),qwh n a=some r->qai TP 158 [PV.int .u8 a] (zi3 r):=by
 intro a r h;unfold qwh at h;refine zN Tryz.call158 Tryz.func158 [1000000] ?_;conv=>whnf
 refine bq h fun _ c h=>?_;refine⟨_,(qot n _ _ c),?_⟩;conv=>whnf
 apply ifc h<;>intro b h
 ·obtain rfl:=sj h
  conv=>whnf
  try exact fin
 conv=>whnf
 refine⟨id,id,?_⟩;conv=>whnf
 apply ifc h<;>intro b h
 ·obtain rfl:=sj h
  conv=>whnf
  try exact fin
 conv=>whnf
 refine⟨id,id,?_⟩;conv=>whnf
 apply ifc h<;>intro b h
 ·obtain rfl:=sj h
  conv=>whnf
  try exact fin
 obtain rfl:=sj h;conv=>whnf
 try exact fin
abbrev zb0 (r:SS×Int×Bool):PV:=PV.tup [PV.str r.1,PV.int .i64 r.2.1,PV.bool r.2.2]
def qqn (n:Nat) (b:SS) (d:UInt8) (e:SS×Int->Option (SS×Int×Bool)) (a:Int) (c:SS):Bool->Option (SS×Int×Bool):=fun i=>
 bif i then(
 chk (decide ((qau (b++[d])).length * 1<=140737488355328)) (
 e ((b++[d]),(kwr .i64 (a+2)))))
 else(
 bif(((d.toNat:Nat):Int)==110)then(
 chk (decide ((qau (b++[(10:UInt8)])).length * 1<=140737488355328)) (
 e ((b++[(10:UInt8)]),(kwr .i64 (a+2)))))
 else(
 bif(((d.toNat:Nat):Int)==116)then(
 chk (decide ((qau (b++[(9:UInt8)])).length * 1<=140737488355328)) (
 e ((b++[(9:UInt8)]),(kwr .i64 (a+2)))))
 else(
 bif(((d.toNat:Nat):Int)==114)then(
 chk (decide ((qau (b++[(13:UInt8)])).length * 1<=140737488355328)) (
 e ((b++[(13:UInt8)]),(kwr .i64 (a+2)))))
 else(
 bif(((d.toNat:Nat):Int)==120)then(
 bnd (qaw (!(decide ((kwr .i64 ((kwr .i64 (a+2))+1))≥((c.length:Nat):Int)))) (idx c (kwr .i64 (a+2)))) fun j=>
 bnd (qaw (!(decide ((kwr .i64 ((kwr .i64 (a+2))+1))≥((c.length:Nat):Int)))) (qwh n ((j.toNat:Nat):Int))) fun f=>
 bnd (qaw (!(bif(decide ((kwr .i64 ((kwr .i64 (a+2))+1))≥((c.length:Nat):Int)))then true else(decide (f<0)))) (idx c (kwr .i64 ((kwr .i64 (a+2))+1)))) fun k=>
 bnd (qaw (!(bif(decide ((kwr .i64 ((kwr .i64 (a+2))+1))≥((c.length:Nat):Int)))then true else(decide (f<0)))) (qwh n ((k.toNat:Nat):Int))) fun l=>
 bif(bif(bif(decide ((kwr .i64 ((kwr .i64 (a+2))+1))≥((c.length:Nat):Int)))then true else(decide (f<0)))then true else(decide (l<0)))then(
 some (([]:SS),(0:Int),false))
 else(
 bnd (idx c (kwr .i64 (a+2))) fun m=>
 bnd (qwh n ((m.toNat:Nat):Int)) fun o=>
 bnd (idx c (kwr .i64 ((kwr .i64 (a+2))+1))) fun p=>
 bnd (qwh n ((p.toNat:Nat):Int)) fun q=>
 bnd (u8I (kwr .u8 (kwr .i64 ((kwr .i64 (o * (16:Int)))+q)))) fun g=>
 chk (decide ((qau (b++[g])).length * 1<=140737488355328)) (
 e ((b++[g]),(kwr .i64 ((kwr .i64 (a+2))+2))))))
 else(
 some (([]:SS),(0:Int),false))))))
def qt6 (n:Nat) (b:SS):LK (SS×Int) (SS×Int×Bool):=fun g (d,a)=>
 bif(decide (a<((b.length:Nat):Int)))then(
 bnd (idx b a) fun e=>
 bnd (qts n b a) fun i=>
 bif(((e.toNat:Nat):Int)==39)then(
 some (d,(kwr .i64 (a+1)),true))
 else(
 bif(bif(bif(i==0)then true else(decide (((e.toNat:Nat):Int)<32)))then true else(((e.toNat:Nat):Int)==127))then(
 some (([]:SS),(0:Int),false))
 else(
 bif(((e.toNat:Nat):Int) != 92)then(
 bnd (qwb (kwr .i64 (a+i))) fun f=>
 bnd (qwb a) fun j=>
 chk (decide (j<=f/\f<=b.length)) (
 chk (decide ((qau (d++((b.take f).drop j))).length * 1<=140737488355328)) (
 g ((d++((b.take f).drop j)),(kwr .i64 (a+i))))))
 else(
 bif(decide ((kwr .i64 (a+1))≥((b.length:Nat):Int)))then(
 some (([]:SS),(0:Int),false))
 else(
 bnd (idx b (kwr .i64 (a+1))) fun c=>
 bif(((c.toNat:Nat):Int)==92)then(
 qqn n d c g a b (((c.toNat:Nat):Int)==92))
 else(
 qqn n d c g a b (((c.toNat:Nat):Int)==39)))))))
 else(
 some (([]:SS),(0:Int),false))
def qy9 (n:Nat) (a:SS) (b:Int):Option (SS×Int×Bool):=
 bnd (qaw (!(decide (b≥((a.length:Nat):Int)))) (idx a b)) fun c=>
 bif(bif(decide (b≥((a.length:Nat):Int)))then true else(((c.toNat:Nat):Int) != 39))then(
 some (([]:SS),(0:Int),false))
 else(
 qam (qt6 n a) n (([]:List _),(kwr .i64 (b+1))))
set_option maxHeartbeats 4000000 in
theorem q8p (n:Nat):∀ (b:SS) (l:Int) (r:SS×Int×Bool),qy9 n b l=some r->qai TP 117 [PV.str b,PV.int .i64 l] (zb0 r):=by
 intro b l r h;unfold qy9 at h;refine zN Tryz.call117 Tryz.func117 [40000033,1000000] ?_;conv=>whnf
 refine⟨id,id,?_⟩;conv=>whnf
 refine bq h fun _ I h=>?_;refine⟨_,fun f=>qc8 (qac I f),?_⟩;conv=>whnf
 refine⟨id,id,?_⟩;conv=>whnf
 apply ifc h<;>intro c h
 ·obtain rfl:=sj h
  conv=>whnf
  try exact fin
 conv=>whnf
 refine qbh.fn [40000033,1000000] (S:=SS×Int) (fun(a,e)=>[(0,pS b),(7,.tsl 0 (qau a)),(8,pI e)]) (fun(a,e)=>[.tail 5 1 (qau a).length]) (B:=qt6 n b) h (wk [0] [0]) ?_;intro M st h;obtain⟨a,e⟩:=st;unfold qt6 at h;conv=>whnf
 apply ifc h<;>intro c h
 ·conv=>whnf
  refine bq h fun _ H h=>?_;refine⟨_,qc8 H,?_⟩;conv=>whnf
  refine bq h fun P G h=>?_;refine⟨_,(q3d n _ _ _ G),?_⟩;conv=>whnf
  apply ifc h<;>intro c h
  ·conv=>whnf
   refine⟨_,rfl,?_⟩;obtain rfl:=sj h;conv=>whnf
   try exact fin
  conv=>whnf
  refine⟨id,id,id,id,?_⟩;conv=>whnf
  apply ifc h<;>intro c h
  ·obtain rfl:=sj h
   conv=>whnf
   try exact fin
  conv=>whnf
  apply ifc h<;>intro c h
  ·conv=>whnf
   refine bq h fun g K h=>?_;refine⟨_,qct K,?_⟩;conv=>whnf
   refine bq h fun j J h=>?_;refine⟨_,qct J,?_⟩;conv=>whnf
   obtain⟨q,h⟩:=qah h;refine⟨⟨(kod q:(j<=g/\g<=b.length)).1,(kod q:(j<=g/\g<=b.length)).2⟩,?_⟩;conv=>whnf
   rw[show qau a++qau ((b.take g).drop j)=qau (a++((b.take g).drop j))from Codec.append qdl a ((b.take g).drop j)];conv=>whnf
   obtain⟨m,h⟩:=qah h;refine⟨⟨Codec.wide qdl a,kod m,qb5 m (by decide)⟩,?_⟩;conv=>whnf
   refine⟨⟨rfl,rfl,rfl⟩,?_⟩;conv=>whnf
   exact⟨((a++((b.take g).drop j)),(kwr .i64 (e+P))),h,wk [1] []⟩
  conv=>whnf
  apply ifc h<;>intro c h
  ·obtain rfl:=sj h
   conv=>whnf
   try exact fin
  conv=>whnf
  refine bq h fun d F h=>?_;refine⟨_,qc8 F,?_⟩;conv=>whnf
  refine qhd.cut (S:=Bool) (fun k=>[(0,pS b),(7,.tsl 0 (qau a)),(8,.p (.int .i64 (kwr .i64 (e+2)))),(11,.p (.int .u8 ((d.toNat:Nat):Int))),(74,.p (.int .u8 ((d.toNat:Nat):Int))),(75,pB k)]) (fun k=>[.tail 5 1 (qau a).length]) (qqn n a d M e b) (r:=r) ?_ ?_
  ·intro k h
   unfold qqn at h;conv=>whnf
   apply ifc h<;>intro c h
   ·conv=>whnf
    refine⟨Codec.one qdl [d],qau [d],.inl rfl,?_⟩;(conv=>whnf);rw[show qau a++qau [d]=qau (a++[d])from Codec.append qdl a [d]];(conv=>whnf);obtain⟨s,h⟩:=qah h;refine⟨⟨Codec.wide qdl (a++[d]),kod s,qb5 s (by decide)⟩,?_⟩;(conv=>whnf);refine⟨⟨rfl,rfl,rfl⟩,?_⟩;(conv=>whnf);exact⟨((a++[d]),(kwr .i64 (e+2))),h,wk [1] []⟩
   conv=>whnf
   apply ifc h<;>intro c h
   ·conv=>whnf
    refine⟨Codec.one qdl [(10:UInt8)],qau [(10:UInt8)],.inl rfl,?_⟩;(conv=>whnf);rw[show qau a++qau [(10:UInt8)]=qau (a++[(10:UInt8)])from Codec.append qdl a [(10:UInt8)]];(conv=>whnf);obtain⟨t,h⟩:=qah h;refine⟨⟨Codec.wide qdl (a++[(10:UInt8)]),kod t,qb5 t (by decide)⟩,?_⟩;(conv=>whnf);refine⟨⟨rfl,rfl,rfl⟩,?_⟩;(conv=>whnf);exact⟨((a++[(10:UInt8)]),(kwr .i64 (e+2))),h,wk [1] []⟩
   conv=>whnf
   apply ifc h<;>intro c h
   ·conv=>whnf
    refine⟨Codec.one qdl [(9:UInt8)],qau [(9:UInt8)],.inl rfl,?_⟩;(conv=>whnf);rw[show qau a++qau [(9:UInt8)]=qau (a++[(9:UInt8)])from Codec.append qdl a [(9:UInt8)]];(conv=>whnf);obtain⟨u,h⟩:=qah h;refine⟨⟨Codec.wide qdl (a++[(9:UInt8)]),kod u,qb5 u (by decide)⟩,?_⟩;(conv=>whnf);refine⟨⟨rfl,rfl,rfl⟩,?_⟩;(conv=>whnf);exact⟨((a++[(9:UInt8)]),(kwr .i64 (e+2))),h,wk [1] []⟩
   conv=>whnf
   apply ifc h<;>intro c h
   ·conv=>whnf
    refine⟨Codec.one qdl [(13:UInt8)],qau [(13:UInt8)],.inl rfl,?_⟩;(conv=>whnf);rw[show qau a++qau [(13:UInt8)]=qau (a++[(13:UInt8)])from Codec.append qdl a [(13:UInt8)]];(conv=>whnf);obtain⟨v,h⟩:=qah h;refine⟨⟨Codec.wide qdl (a++[(13:UInt8)]),kod v,qb5 v (by decide)⟩,?_⟩;(conv=>whnf);refine⟨⟨rfl,rfl,rfl⟩,?_⟩;(conv=>whnf);exact⟨((a++[(13:UInt8)]),(kwr .i64 (e+2))),h,wk [1] []⟩
   conv=>whnf
   apply ifc h<;>intro c h
   ·conv=>whnf
    refine⟨id,id,?_⟩;(conv=>whnf);refine bq h fun _ E h=>?_;refine⟨_,fun f=>qc8 (qac E f),?_⟩;(conv=>whnf);refine⟨id,?_⟩;(conv=>whnf);refine bq h fun _ D h=>?_;refine⟨_,fun f=>(qu7 n _ _ (qac D f)),?_⟩;(conv=>whnf);refine⟨id,id,id,id,id,?_⟩;(conv=>whnf);refine bq h fun _ C h=>?_;refine⟨_,fun f=>qc8 (qac C f),?_⟩;(conv=>whnf);refine⟨id,?_⟩;(conv=>whnf);refine bq h fun _ A h=>?_;refine⟨_,fun f=>(qu7 n _ _ (qac A f)),?_⟩;(conv=>whnf);refine⟨id,id,?_⟩;(conv=>whnf);apply ifc h<;>intro c h
    ·obtain rfl:=sj h
     conv=>whnf
     try exact fin
    (conv=>whnf);refine bq h fun _ z h=>?_
    refine⟨_,qc8 z,?_⟩;(conv=>whnf);refine bq h fun N y h=>?_;refine⟨_,(qu7 n _ _ y),?_⟩;(conv=>whnf);refine bq h fun _ x h=>?_;refine⟨_,qc8 x,?_⟩;(conv=>whnf);refine bq h fun O w h=>?_;refine⟨_,(qu7 n _ _ w),?_⟩;(conv=>whnf);refine bq h fun i L h=>?_;rw[show([[PV.int .u8 (kwr .u8 (kwr .i64 ((kwr .i64 (N * (16:Int)))+O)))]]:List (List PV))=qau [i]from by rw[qet L]; rfl];refine⟨Codec.one qdl [i],_,.inl rfl,?_⟩;(conv=>whnf);rw[show qau a++qau [i]=qau (a++[i])from Codec.append qdl a [i]];(conv=>whnf);obtain⟨o,h⟩:=qah h;refine⟨⟨Codec.wide qdl (a++[i]),kod o,qb5 o (by decide)⟩,?_⟩;(conv=>whnf);refine⟨⟨rfl,rfl,rfl⟩,?_⟩;(conv=>whnf);exact⟨((a++[i]),(kwr .i64 ((kwr .i64 (e+2))+2))),h,wk [1] []⟩
   obtain rfl:=sj h;conv=>whnf
   try exact fin
  conv=>whnf
  apply ifc h<;>intro c h
  ·conv=>whnf
   exact⟨(((d.toNat:Nat):Int)==92),h,wk [0] []⟩
  conv=>whnf
  exact⟨(((d.toNat:Nat):Int)==39),h,wk [0] []⟩
 obtain rfl:=sj h;conv=>whnf
 try exact fin
abbrev zgj (r:SS):PV:=PV.str r
def qxg (n:Nat) (c:SS) (d e:Nat):(Int->Option SS)->Int->Option SS:=fun g a=>
 bif(decide (a<((([40,41,91,93,123,125,44,58,46,43,45,42,47,37,61,60,62,36]:SS).length:Nat):Int)))then(
 bnd (qwb (kwr .i64 (a+1))) fun b=>
 bnd (qwb a) fun f=>
 chk (decide (f<=b/\b<=([40,41,91,93,123,125,44,58,46,43,45,42,47,37,61,60,62,36]:SS).length)) (
 bif(((([40,41,91,93,123,125,44,58,46,43,45,42,47,37,61,60,62,36]:SS).take b).drop f)==((c.take d).drop e))then(
 some ((c.take d).drop e))
 else(
 g (kwr .i64 (a+1)))))
 else(
 some ([]:SS))
def qtg (n:Nat) (d:Int) (c:SS):SS->Option SS:=fun a=>
 bif(bif(bif(a==([60,61]:SS))then true else(a==([62,61]:SS)))then true else(a==([60,62]:SS)))then(
 some a)
 else(
 bnd (qwb (kwr .i64 (d+1))) fun b=>
 bnd (qwb d) fun e=>
 chk (decide (e<=b/\b<=c.length)) (
 qam (qxg n c b e) n (0:Int)))
def q42 (n:Nat) (a:SS) (b:Int):Option SS:=
 bif(decide ((kwr .i64 (b+1))<((a.length:Nat):Int)))then(
 bnd (qwb (kwr .i64 (b+2))) fun c=>
 bnd (qwb b) fun d=>
 chk (decide (d<=c/\c<=a.length)) (
 qtg n b a ((a.take c).drop d)))
 else(
 qtg n b a ([]:SS))
theorem zdt (n:Nat):∀ (a:SS) (c:Int) (r:SS),q42 n a c=some r->qai TP 118 [PV.str a,PV.int .i64 c] (zgj r):=by
 intro a c r h;unfold q42 at h;refine zN Tryz.call118 Tryz.func118 [1000000] ?_;conv=>whnf
 refine qhd.cut (S:=SS) (fun k=>[(0,pS a),(1,pI c),(5,pS k)]) (fun k=>[]) (qtg n c a) (r:=r) ?_ ?_
 ·intro k h
  unfold qtg at h;conv=>whnf
  refine⟨id,id,id,id,?_⟩;conv=>whnf
  apply ifc h<;>intro i h
  ·obtain rfl:=sj h
   conv=>whnf
   try exact fin
  conv=>whnf
  refine bq h fun b v h=>?_;refine⟨_,qct v,?_⟩;conv=>whnf
  refine bq h fun e u h=>?_;refine⟨_,qct u,?_⟩;conv=>whnf
  obtain⟨m,h⟩:=qah h;refine⟨⟨(kod m:(e<=b/\b<=a.length)).1,(kod m:(e<=b/\b<=a.length)).2⟩,?_⟩;conv=>whnf
  refine qbh.fn [1000000] (S:=Int) (fun f=>[(6,.p (.str ((a.take b).drop e))),(7,.p (.str ([40,41,91,93,123,125,44,58,46,43,45,42,47,37,61,60,62,36]:SS))),(8,pI f)]) (fun f=>[]) (B:=qxg n a b e) h (wk [] []) ?_;intro _ f h;unfold qxg at h;conv=>whnf
  apply ifc h<;>intro i h
  ·conv=>whnf
   refine bq h fun g t h=>?_;refine⟨_,qct t,?_⟩;conv=>whnf
   refine bq h fun q s h=>?_;refine⟨_,qct s,?_⟩;conv=>whnf
   obtain⟨l,h⟩:=qah h;refine⟨⟨(kod l:(q<=g/\g<=([40,41,91,93,123,125,44,58,46,43,45,42,47,37,61,60,62,36]:SS).length)).1,(kod l:(q<=g/\g<=([40,41,91,93,123,125,44,58,46,43,45,42,47,37,61,60,62,36]:SS).length)).2⟩,?_⟩;conv=>whnf
   apply ifc h<;>intro i h
   ·obtain rfl:=sj h
    conv=>whnf
    try exact fin
   conv=>whnf
   exact⟨(kwr .i64 (f+1)),h,wk [] []⟩
  obtain rfl:=sj h;conv=>whnf
  try exact fin
 conv=>whnf
 apply ifc h<;>intro i h
 ·conv=>whnf
  refine bq h fun d x h=>?_;refine⟨_,qct x,?_⟩;conv=>whnf
  refine bq h fun j w h=>?_;refine⟨_,qct w,?_⟩;conv=>whnf
  obtain⟨o,h⟩:=qah h;refine⟨⟨(kod o:(j<=d/\d<=a.length)).1,(kod o:(j<=d/\d<=a.length)).2⟩,?_⟩;conv=>whnf
  exact⟨((a.take d).drop j),h,wk [] []⟩
 conv=>whnf
 exact⟨([]:SS),h,wk [] []⟩
abbrev zi6 (r:qap×Int×Int):PV:=PV.tup [PV.agg (qsv.cells r.1),PV.int .i64 r.2.1,PV.int .i64 r.2.2]
def qmw (n:Nat) (a:Int):Int×Int×SS×Int->Option (qap×Int×Int):=fun(b,c,d,e)=>
 some (qap.mk c d e a,b,(0:Int))
def qza (n:Nat) (b:SS) (c:Int):LK (Int) (qap×Int×Int):=fun j a=>
 bnd (qaw (decide (a<((b.length:Nat):Int))) (idx b a)) fun k=>
 bnd (qaw (decide (a<((b.length:Nat):Int))) (qix n ((k.toNat:Nat):Int))) fun d=>
 bnd (qaw ((decide (a<((b.length:Nat):Int)))&&(!d)) (idx b a)) fun l=>
 bnd (qaw ((decide (a<((b.length:Nat):Int)))&&(!d)) (qk4 n ((l.toNat:Nat):Int))) fun m=>
 bif(bif(decide (a<((b.length:Nat):Int)))then(bif d then true else m)else false)then(
 j (kwr .i64 (a+1)))
 else(
 bif(decide ((kwr .i64 (a - c))>64))then(
 some (qap.mk (0:Int) ([]:SS) (0:Int) c,(0:Int),(1:Int)))
 else(
 bnd (qwb a) fun e=>
 bnd (qwb c) fun g=>
 chk (decide (g<=e/\e<=b.length)) (
 bnd (qtt n ((b.take e).drop g)) fun⟨o,p⟩=>
 bnd (qwb a) fun f=>
 bnd (qwb c) fun i=>
 chk (decide (i<=f/\f<=b.length)) (
 bif p then(
 qmw n c (a,(2:Int),o,(0:Int)))
 else(
 qmw n c (a,(1:Int),((b.take f).drop i),(0:Int)))))))
def qzb (n:Nat) (b:SS) (c:Int):LK (Int) (qap×Int×Int):=fun g a=>
 bnd (qaw (decide (a<((b.length:Nat):Int))) (idx b a)) fun i=>
 bnd (qaw (decide (a<((b.length:Nat):Int))) (qk4 n ((i.toNat:Nat):Int))) fun j=>
 bif(bif(decide (a<((b.length:Nat):Int)))then j else false)then(
 g (kwr .i64 (a+1)))
 else(
 bnd (qwb a) fun d=>
 bnd (qwb c) fun e=>
 chk (decide (e<=d/\d<=b.length)) (
 bnd (q18 n ((b.take d).drop e)) fun⟨k,f⟩=>
 bif(f != 0)then(
 some (qap.mk (0:Int) ([]:SS) (0:Int) c,(0:Int),f))
 else(
 qmw n c (a,(3:Int),([]:SS),k))))
def q8q (n:Nat) (b:SS) (a:Int):Option (qap×Int×Int):=
 bnd (idx b a) fun d=>
 bnd (qix n ((d.toNat:Nat):Int)) fun j=>
 bif j then(
 qam (qza n b a) n (kwr .i64 (a+1)))
 else(
 bnd (qk4 n ((d.toNat:Nat):Int)) fun e=>
 bif e then(
 qam (qzb n b a) n (kwr .i64 (a+1)))
 else(
 bif(((d.toNat:Nat):Int)==39)then(
 bnd (qy9 n b a) fun⟨f,g,i⟩=>
 bif(!i)then(
 some (qap.mk (0:Int) ([]:SS) (0:Int) a,(0:Int),(1:Int)))
 else(
 qmw n a (g,(4:Int),f,(0:Int))))
 else(
 bnd (q42 n b a) fun c=>
 bif(c==([]:SS))then(
 some (qap.mk (5:Int) c (0:Int) a,(0:Int),(1:Int)))
 else(
 qmw n a ((kwr .i64 (a+((c.length:Nat):Int))),(5:Int),c,(0:Int))))))
set_option maxHeartbeats 4000000 in
theorem zgb (n:Nat):∀ (a:SS) (b:Int) (r:qap×Int×Int),q8q n a b=some r->qai TP 73 [PV.str a,PV.int .i64 b] (zi6 r):=by
 intro a b r h;unfold q8q at h;refine zN Tryz.call73 Tryz.func73 [1000000] ?_;conv=>whnf
 refine bq h fun _ K h=>?_;refine⟨_,qc8 K,?_⟩;conv=>whnf
 refine qhd.cut (S:=Int×Int×SS×Int) (fun(l,m,o,p)=>[(4,.ptr 0 0),(7,.ptr 1 0),(9,pI l)]) (fun(l,m,o,p)=>[.box 115 [zq0,zq1,zq0,zq0],.box 115 [pI m,pS o,pI p,pI b]]) (qmw n b) (r:=r) ?_ ?_
 ·intro st h
  obtain⟨l,m,o,p⟩:=st;unfold qmw at h;obtain rfl:=sj h;conv=>whnf
  try exact fin
 conv=>whnf
 refine bq h fun _ J h=>?_;refine⟨_,(qqm n _ _ J),?_⟩;conv=>whnf
 apply ifc h<;>intro d h
 ·conv=>whnf
  refine qbh.fn [1000000] (S:=Int) (fun e=>[(0,pS a),(1,pI b),(4,.ptr 0 0),(7,.ptr 1 0),(9,pI e)]) (fun e=>[.box 115 [zq0,zq1,zq0,zq0],.box 115 [zq0,zq1,zq0,pI b]]) (B:=qza n a b) h (wk [0,1] []) ?_;intro _ e h;unfold qza at h;conv=>whnf
  refine⟨id,id,?_⟩;conv=>whnf
  refine bq h fun _ y h=>?_;refine⟨_,fun c=>qc8 (qac y c),?_⟩;conv=>whnf
  refine⟨id,?_⟩;conv=>whnf
  refine bq h fun _ x h=>?_;refine⟨_,fun c=>(qqm n _ _ (qac x c)),?_⟩;conv=>whnf
  refine⟨id,id,id,?_⟩;conv=>whnf
  refine bq h fun _ Q h=>?_;refine⟨_,fun c=>qc8 (qac Q c),?_⟩;conv=>whnf
  refine⟨id,?_⟩;conv=>whnf
  refine bq h fun _ P h=>?_;refine⟨_,fun c=>(qot n _ _ (qac P c)),?_⟩;conv=>whnf
  refine⟨id,id,id,?_⟩;conv=>whnf
  apply ifc h<;>intro d h
  ·conv=>whnf
   exact⟨(kwr .i64 (e+1)),h,wk [0,1] []⟩
  conv=>whnf
  apply ifc h<;>intro d h
  ·obtain rfl:=sj h
   conv=>whnf
   try exact fin
  conv=>whnf
  refine bq h fun i O h=>?_;refine⟨_,qct O,?_⟩;conv=>whnf
  refine bq h fun u N h=>?_;refine⟨_,qct N,?_⟩;conv=>whnf
  obtain⟨t,h⟩:=qah h;refine⟨⟨(kod t:(u<=i/\i<=a.length)).1,(kod t:(u<=i/\i<=a.length)).2⟩,?_⟩;conv=>whnf
  refine bq h fun⟨R,_⟩ M h=>?_;refine⟨_,(q3e n _ _ M),?_⟩;conv=>whnf
  refine bq h fun f L h=>?_;refine⟨_,qct L,?_⟩;conv=>whnf
  refine bq h fun k H h=>?_;refine⟨_,qct H,?_⟩;conv=>whnf
  obtain⟨q,h⟩:=qah h;refine⟨⟨(kod q:(k<=f/\f<=a.length)).1,(kod q:(k<=f/\f<=a.length)).2⟩,?_⟩;conv=>whnf
  apply ifc h<;>intro d h
  ·conv=>whnf
   exact⟨(e,(2:Int),R,(0:Int)),h,wk [0,1] []⟩
  conv=>whnf
  exact⟨(e,(1:Int),((a.take f).drop k),(0:Int)),h,wk [0,1] []⟩
 conv=>whnf
 refine bq h fun _ I h=>?_;refine⟨_,(qot n _ _ I),?_⟩;conv=>whnf
 apply ifc h<;>intro d h
 ·conv=>whnf
  refine qbh.fn [1000000] (S:=Int) (fun g=>[(0,pS a),(1,pI b),(4,.ptr 0 0),(7,.ptr 1 0),(9,pI g)]) (fun g=>[.box 115 [zq0,zq1,zq0,zq0],.box 115 [zq0,zq1,zq0,pI b]]) (B:=qzb n a b) h (wk [0,1] []) ?_;intro _ g h;unfold qzb at h;conv=>whnf
  refine⟨id,id,?_⟩;conv=>whnf
  refine bq h fun _ E h=>?_;refine⟨_,fun c=>qc8 (qac E c),?_⟩;conv=>whnf
  refine⟨id,?_⟩;conv=>whnf
  refine bq h fun _ D h=>?_;refine⟨_,fun c=>(qot n _ _ (qac D c)),?_⟩;conv=>whnf
  refine⟨id,?_⟩;conv=>whnf
  apply ifc h<;>intro d h
  ·conv=>whnf
   exact⟨(kwr .i64 (g+1)),h,wk [0,1] []⟩
  conv=>whnf
  refine bq h fun j C h=>?_;refine⟨_,qct C,?_⟩;conv=>whnf
  refine bq h fun v A h=>?_;refine⟨_,qct A,?_⟩;conv=>whnf
  obtain⟨s,h⟩:=qah h;refine⟨⟨(kod s:(v<=j/\j<=a.length)).1,(kod s:(v<=j/\j<=a.length)).2⟩,?_⟩;conv=>whnf
  refine bq h fun⟨T,_⟩ z h=>?_;refine⟨_,(za2 n _ _ z),?_⟩;conv=>whnf
  apply ifc h<;>intro d h
  ·obtain rfl:=sj h
   conv=>whnf
   try exact fin
  conv=>whnf
  exact⟨(g,(3:Int),([]:SS),T),h,wk [0,1] []⟩
 conv=>whnf
 apply ifc h<;>intro d h
 ·conv=>whnf
  refine bq h fun⟨U,V,_⟩ F h=>?_;refine⟨_,(q8p n _ _ _ F),?_⟩;conv=>whnf
  apply ifc h<;>intro d h
  ·obtain rfl:=sj h
   conv=>whnf
   try exact fin
  conv=>whnf
  exact⟨(V,(4:Int),U,(0:Int)),h,wk [0,1] []⟩
 conv=>whnf
 refine bq h fun w G h=>?_;refine⟨_,(zdt n _ _ _ G),?_⟩;conv=>whnf
 apply ifc h<;>intro d h
 ·obtain rfl:=sj h
  conv=>whnf
  try exact fin
 conv=>whnf
 exact⟨((kwr .i64 (b+((w.length:Nat):Int))),(5:Int),w,(0:Int)),h,wk [0,1] []⟩
abbrev zgh (r:List qap×Int×Int):PV:=PV.tup [PV.sl (qap.rows r.1),PV.int .i64 r.2.1,PV.int .i64 r.2.2]
def qtf (n:Nat) (b:List qap) (g:Int) (f:List qap×Int->Option (List qap×Int×Int)):Int×Int×SS×Int×Int->Option (List qap×Int×Int):=fun(i,a,c,d,e)=>
 bif(decide (((qap.rows b).length:Int)≥4096))then(
 some (([]:List qap),g,(8:Int)))
 else(
 chk (decide ((qap.rows (b++[qap.mk a c d e])).length * 40<=140737488355328)) (
 bif(a==6)then(
 some ((b++[qap.mk a c d e]),(0:Int),(0:Int)))
 else(
 f ((b++[qap.mk a c d e]),i))))
def qxf (n:Nat) (b:SS) (g:List qap) (e:List qap×Int->Option (List qap×Int×Int)):LK (Int) (List qap×Int×Int):=fun j a=>
 bnd (qaw (decide (a<((b.length:Nat):Int))) (idx b a)) fun c=>
 bnd (qaw ((decide (a<((b.length:Nat):Int)))&&(!(((c.toNat:Nat):Int)==32))) (idx b a)) fun d=>
 bnd (qaw ((decide (a<((b.length:Nat):Int)))&&(!(bif(((c.toNat:Nat):Int)==32)then true else(((d.toNat:Nat):Int)==9)))) (idx b a)) fun i=>
 bnd (qaw ((decide (a<((b.length:Nat):Int)))&&(!(bif(bif(((c.toNat:Nat):Int)==32)then true else(((d.toNat:Nat):Int)==9))then true else(((i.toNat:Nat):Int)==10)))) (idx b a)) fun q=>
 bif(bif(decide (a<((b.length:Nat):Int)))then(bif(bif(bif(((c.toNat:Nat):Int)==32)then true else(((d.toNat:Nat):Int)==9))then true else(((i.toNat:Nat):Int)==10))then true else(((q.toNat:Nat):Int)==13))else false)then(
 j (kwr .i64 (a+1)))
 else(
 bif(decide (a<((b.length:Nat):Int)))then(
 bnd (q8q n b a) fun⟨⟨k,l,m,o⟩,p,f⟩=>
 bif(f != 0)then(
 some (([]:List qap),a,f))
 else(
 qtf n g a e (p,k,l,m,o)))
 else(
 qtf n g a e (a,(6:Int),([]:SS),(0:Int),a)))
def qxe (n:Nat) (b:SS):LK (List qap×Int) (List qap×Int×Int):=fun a (c,d)=>
 qam (qxf n b c a) n d
def q41 (n:Nat) (a:SS):Option (List qap×Int×Int):=
 bif(decide (((a.length:Nat):Int)>16384))then(
 some (([]:List qap),(0:Int),(8:Int)))
 else(
 qam (qxe n a) n (([]:List _),(0:Int)))
set_option maxHeartbeats 4000000 in
theorem zdr (n:Nat):∀ (f:SS) (r:List qap×Int×Int),q41 n f=some r->qai TP 46 [PV.str f] (zgh r):=by
 intro f r h;unfold q41 at h;refine zN Tryz.call46 Tryz.func46 [1000000] ?_;conv=>whnf
 apply ifc h<;>intro j h
 ·obtain rfl:=sj h
  conv=>whnf
  try exact fin
 conv=>whnf
 refine qbh.fn [1000000] (S:=List qap×Int) (fun(a,l)=>[(0,pS f),(5,.tsl 0 (qap.rows a)),(6,pI l)]) (fun(a,l)=>[.tail 115 4 (qap.rows a).length]) (B:=qxe n f) h (wk [0] [0]) ?_;intro o st h;obtain⟨a,l⟩:=st;unfold qxe at h;conv=>whnf
 refine qbh.fn [1000000] (S:=Int) (fun g=>[(0,pS f),(5,.tsl 0 (qap.rows a)),(6,pI g)]) (fun g=>[.tail 115 4 (qap.rows a).length]) (B:=qxf n f a o) h (wk [0] []) ?_;intro _ g h;unfold qxf at h;conv=>whnf
 refine⟨id,id,?_⟩;conv=>whnf
 refine bq h fun _ u h=>?_;refine⟨_,fun i=>qc8 (qac u i),?_⟩;conv=>whnf
 refine⟨id,id,id,id,?_⟩;conv=>whnf
 refine bq h fun _ t h=>?_;refine⟨_,fun i=>qc8 (qac t i),?_⟩;conv=>whnf
 iterate 6 refine⟨id,?_⟩
 conv=>whnf
 refine bq h fun _ s h=>?_;refine⟨_,fun i=>qc8 (qac s i),?_⟩;conv=>whnf
 iterate 6 refine⟨id,?_⟩
 conv=>whnf
 refine bq h fun _ q h=>?_;refine⟨_,fun i=>qc8 (qac q i),?_⟩;conv=>whnf
 refine⟨id,id,id,id,?_⟩;conv=>whnf
 apply ifc h<;>intro j h
 ·conv=>whnf
  exact⟨(kwr .i64 (g+1)),h,wk [0] []⟩
 conv=>whnf
 refine qhd.cut (S:=Int×Int×SS×Int×Int) (fun(k,b,c,d,e)=>[(0,pS f),(5,.tsl 0 (qap.rows a)),(6,pI g),(7,.ptr 1 0),(8,pI k)]) (fun(k,b,c,d,e)=>[.tail 115 4 (qap.rows a).length,.box 115 [pI b,pS c,pI d,pI e]]) (qtf n a g o) (r:=r) ?_ ?_
 ·intro st h
  obtain⟨k,b,c,d,e⟩:=st;unfold qtf at h;conv=>whnf
  apply ifc h<;>intro j h
  ·obtain rfl:=sj h
   conv=>whnf
   try exact fin
  conv=>whnf
  refine⟨Codec.one qsv [qap.mk b c d e],qap.rows [qap.mk b c d e],.inl rfl,?_⟩;conv=>whnf
  rw[show qap.rows a++qap.rows [qap.mk b c d e]=qap.rows (a++[qap.mk b c d e])from Codec.append qsv a [qap.mk b c d e]];conv=>whnf
  obtain⟨m,h⟩:=qah h;refine⟨⟨Codec.wide qsv (a++[qap.mk b c d e]),kod m,qb5 m (by decide)⟩,?_⟩;conv=>whnf
  refine⟨⟨rfl,rfl,rfl⟩,?_⟩;conv=>whnf
  apply ifc h<;>intro j h
  ·obtain rfl:=sj h
   conv=>whnf
   try exact fin
  conv=>whnf
  exact⟨((a++[qap.mk b c d e]),k),h,wk [2] []⟩
 conv=>whnf
 apply ifc h<;>intro j h
 ·conv=>whnf
  refine bq h fun⟨⟨v,w,x,y⟩,z,_⟩ p h=>?_;refine⟨_,(zgb n _ _ _ p),?_⟩;conv=>whnf
  apply ifc h<;>intro j h
  ·obtain rfl:=sj h
   conv=>whnf
   try exact fin
  conv=>whnf
  exact⟨(z,v,w,x,y),h,wk [0,1] []⟩
 conv=>whnf
 exact⟨(g,(6:Int),([]:SS),(0:Int),g),h,wk [0,1] []⟩
abbrev zb1 (r:Bool):PV:=PV.bool r
def qi1 (n:Nat) (a:Int):Option (Bool):=
 some (bif(bif(bif(bif(a==4)then true else(a==5))then true else(a==6))then true else(a==7))then true else(a==8))
theorem qua (n:Nat):∀ (a:Int) (r:Bool),qi1 n a=some r->qai TP 16 [PV.int .i64 a] (zb1 r):=by
 intro a r h;unfold qi1 at h;refine zN Tryz.call16 Tryz.func16 [1000000] ?_;conv=>whnf
 iterate 8 refine⟨id,?_⟩
 obtain rfl:=sj h;conv=>whnf
 try exact fin
abbrev zgm (_:List qap) (_:Int) (_ r:Bool):FV:=pB r
abbrev zgd (a:List qap) (b:Int) (c r:Bool):List AObj:=[.box 113 [pK a,pI b,pB c]]
def qeu (n:Nat) (b:SS) (c:List qap) (d:Int) (e:Bool):Option (Bool):=
 bnd (idx c d) fun⟨a,f,_,_⟩=>
 some (bif(bif(!e)then(bif(a==5)then true else(a==2))else false)then(f==b)else false)
theorem qdm (n:Nat):∀ (d:SS) (a:List qap) (b:Int) (c r:Bool),qeu n d a b c=some r->qbq TP 83 [.ptr 0 0,.p (PV.str d)] [.box 113 [pK a,pI b,pB c]] 1 (fun v lo=>v=zgm a b c r/\lo=zgd a b c r):=by
 intro d a b c r h;unfold qeu at h;refine zO Tryz.call83 Tryz.func83 [40000001,1000000] ?_;conv=>whnf
 refine bq h fun⟨_,_,_,_⟩ e h=>?_;refine⟨_,Codec.at_ qsv e,?_⟩;conv=>whnf
 iterate 12 refine⟨id,?_⟩
 obtain rfl:=sj h;conv=>whnf
 refine⟨_,_,⟨rfl,rfl⟩,wk [0] []⟩
abbrev zep (_:List qap) (_:Int) (_:Bool) (r:Bool×Int):FV:=.p (.bool r.1)
abbrev zec (a:List qap) (_:Int) (b:Bool) (r:Bool×Int):List AObj:=[.box 113 [pK a,.p (.int .i64 r.2),pB b]]
def qaq (n:Nat) (b:SS) (c:List qap) (a:Int) (d:Bool):Option (Bool×Int):=
 bnd (qeu n b c a d) fun e=>
 bif(!e)then(
 some (false,a))
 else(
 some (true,(kwr .i64 (a+1))))
theorem qal (n:Nat):∀ (d:SS) (a:List qap) (b:Int) (c:Bool) (r:Bool×Int),qaq n d a b c=some r->qbq TP 74 [.ptr 0 0,.p (PV.str d)] [.box 113 [pK a,pI b,pB c]] 1 (fun v lo=>v=zep a b c r/\lo=zec a b c r):=by
 intro d a b c r h;unfold qaq at h;refine zO Tryz.call74 Tryz.func74 [83,1000000] ?_;conv=>whnf
 refine bq h fun f e h=>?_;refine qcq (qdm n _ _ _ _ _ e) [0] [] ?_;rintro _ _ ⟨rfl,rfl⟩;refine⟨pB f,[.box 113 [pK a,pI b,pB c]],rfl,rfl,?_⟩;conv=>whnf
 apply ifc h<;>intro _ h
 ·obtain rfl:=sj h
  conv=>whnf
  refine⟨_,_,⟨rfl,rfl⟩,wk [0] []⟩
 obtain rfl:=sj h;conv=>whnf
 refine⟨_,_,⟨rfl,rfl⟩,wk [0] []⟩
abbrev zb3 (_:List qap) (_:Int) (_:Bool) (r:Int×Bool):FV:=.p (.tup [])
abbrev zbr (a:List qap) (_:Int) (_:Bool) (r:Int×Bool):List AObj:=[.box 113 [pK a,.p (.int .i64 r.1),.p (.bool r.2)]]
def qbu (n:Nat) (c:SS) (d:List qap) (e:Int) (a:Bool):Option (Int×Bool):=
 bnd (qaq n c d e a) fun⟨f,b⟩=>
 bif(!f)then(
 some (b,true))
 else(
 some (b,a))
theorem qa6 (n:Nat):∀ (d:SS) (a:List qap) (c:Int) (b:Bool) (r:Int×Bool),qbu n d a c b=some r->qbq TP 78 [.ptr 0 0,.p (PV.str d)] [.box 113 [pK a,pI c,pB b]] 1 (fun v lo=>v=zb3 a c b r/\lo=zbr a c b r):=by
 intro d a c b r h;unfold qbu at h;refine zO Tryz.call78 Tryz.func78 [74,1000000] ?_;conv=>whnf
 refine bq h fun⟨f,g⟩ e h=>?_;refine qcq (qal n _ _ _ _ _ e) [0] [] ?_;rintro _ _ ⟨rfl,rfl⟩;refine⟨pB f,[.box 113 [pK a,pI g,pB b]],rfl,rfl,?_⟩;conv=>whnf
 apply ifc h<;>intro _ h
 ·obtain rfl:=sj h
  conv=>whnf
  refine⟨_,_,⟨rfl,rfl⟩,wk [0] []⟩
 obtain rfl:=sj h;conv=>whnf
 refine⟨_,_,⟨rfl,rfl⟩,wk [0] []⟩
abbrev zb4 (_:List qap) (_:Int) (_:Bool) (r:SS×Int×Bool):FV:=.p (.str r.1)
abbrev zbs (a:List qap) (_:Int) (_:Bool) (r:SS×Int×Bool):List AObj:=[.box 113 [pK a,.p (.int .i64 r.2.1),.p (.bool r.2.2)]]
def qhr (n:Nat) (c:List qap) (a:Int) (b:Bool):Option (SS×Int×Bool):=
 bnd (idx c a) fun⟨d,e,_,_⟩=>
 bif(bif b then true else(d != 1))then(
 some (([]:SS),a,true))
 else(
 some (e,(kwr .i64 (a+1)),b))
theorem qgl (n:Nat):∀ (a:List qap) (b:Int) (c:Bool) (r:SS×Int×Bool),qhr n a b c=some r->qbq TP 79 [.ptr 0 0] [.box 113 [pK a,pI b,pB c]] 1 (fun v lo=>v=zb4 a b c r/\lo=zbs a b c r):=by
 intro a b c r h;unfold qhr at h;refine zO Tryz.call79 Tryz.func79 [40000001,1000000] ?_;conv=>whnf
 refine bq h fun⟨_,_,_,_⟩ d h=>?_;refine⟨_,Codec.at_ qsv d,?_⟩;conv=>whnf
 refine⟨id,id,id,?_⟩;conv=>whnf
 apply ifc h<;>intro _ h
 ·obtain rfl:=sj h
  conv=>whnf
  refine⟨_,_,⟨rfl,rfl⟩,wk [0] []⟩
 obtain rfl:=sj h;conv=>whnf
 refine⟨_,_,⟨rfl,rfl⟩,wk [0] []⟩
abbrev q3q (_:List qap) (_:Int) (_:Bool) (r:SS×Int×Bool):FV:=.p (.str r.1)
abbrev q3m (a:List qap) (_:Int) (_:Bool) (r:SS×Int×Bool):List AObj:=[.box 113 [pK a,.p (.int .i64 r.2.1),.p (.bool r.2.2)]]
def qlk (n:Nat) (c:List qap) (b:Int) (a:Bool):Option (SS×Int×Bool):=
 bnd (qaw (!a) (idx c b)) fun⟨e,_,_,_⟩=>
 bif(bif a then true else(e != 1))then(
 some (([]:SS),b,a))
 else(
 bnd (qhr n c b a) fun⟨f,g,d⟩=>
 some (f,g,d))
theorem qps (n:Nat):∀ (a:List qap) (b:Int) (c:Bool) (r:SS×Int×Bool),qlk n a b c=some r->qbq TP 122 [.ptr 0 0] [.box 113 [pK a,pI b,pB c]] 1 (fun v lo=>v=q3q a b c r/\lo=q3m a b c r):=by
 intro a b c r h;unfold qlk at h;refine zO Tryz.call122 Tryz.func122 [79,1000000] ?_;conv=>whnf
 iterate 8 refine⟨id,?_⟩
 conv=>whnf
 refine bq h fun⟨_,_,_,_⟩ e h=>?_;refine⟨_,fun f=>Codec.at_ qsv (qac e f),?_⟩;conv=>whnf
 refine⟨id,id,id,id,?_⟩;conv=>whnf
 apply ifc h<;>intro _ h
 ·obtain rfl:=sj h
  conv=>whnf
  refine⟨_,_,⟨rfl,rfl⟩,wk [0] []⟩
 conv=>whnf
 refine bq h fun⟨i,j,g⟩ d h=>?_;refine qcq (qgl n _ _ _ _ d) [0] [] ?_;rintro _ _ ⟨rfl,rfl⟩;refine⟨pS i,[.box 113 [pK a,pI j,pB g]],rfl,rfl,?_⟩;obtain rfl:=sj h;conv=>whnf
 refine⟨_,_,⟨rfl,rfl⟩,wk [0] []⟩
abbrev zi7 (r:Bool):PV:=PV.bool r
def qkg (n:Nat) (a:SS):Option (Bool):=
 some (bif(decide (((a.length:Nat):Int)≥1))then(decide (((a.length:Nat):Int)<=64))else false)
theorem qiy (n:Nat):∀ (a:SS) (r:Bool),qkg n a=some r->qai TP 110 [PV.str a] (zi7 r):=by
 intro a r h;unfold qkg at h;refine zN Tryz.call110 Tryz.func110 [1000000] ?_;conv=>whnf
 refine⟨id,id,id,?_⟩;obtain rfl:=sj h;conv=>whnf
 try exact fin
abbrev zeq (_:List qap) (_:Int) (_:Bool) (r:SS×Int×Bool):FV:=.p (.str r.1)
abbrev zed (a:List qap) (_:Int) (_:Bool) (r:SS×Int×Bool):List AObj:=[.box 113 [pK a,.p (.int .i64 r.2.1),.p (.bool r.2.2)]]
def qjt (n:Nat) (e:List qap) (b:Int) (c:Bool):Option (SS×Int×Bool):=
 bnd (idx e b) fun⟨a,d,_,_⟩=>
 bnd (qaw (((!c)&&(a != 1))&&(!(a != 4))) (qkg n d)) fun f=>
 bif(bif c then true else(bif(a != 1)then(bif(a != 4)then true else(!f))else false))then(
 some (([]:SS),b,true))
 else(
 some (d,(kwr .i64 (b+1)),c))
theorem qhq (n:Nat):∀ (a:List qap) (b:Int) (c:Bool) (r:SS×Int×Bool),qjt n a b c=some r->qbq TP 123 [.ptr 0 0] [.box 113 [pK a,pI b,pB c]] 1 (fun v lo=>v=zeq a b c r/\lo=zed a b c r):=by
 intro a b c r h;unfold qjt at h;refine zO Tryz.call123 Tryz.func123 [40000001,1000000] ?_;conv=>whnf
 refine bq h fun⟨_,_,_,_⟩ e h=>?_;refine⟨_,Codec.at_ qsv e,?_⟩;conv=>whnf
 iterate 8 refine⟨id,?_⟩
 conv=>whnf
 refine bq h fun _ d h=>?_;refine⟨_,fun f=>(qiy n _ _ (qac d f)),?_⟩;conv=>whnf
 iterate 6 refine⟨id,?_⟩
 conv=>whnf
 apply ifc h<;>intro _ h
 ·obtain rfl:=sj h
  conv=>whnf
  refine⟨_,_,⟨rfl,rfl⟩,wk [0] []⟩
 obtain rfl:=sj h;conv=>whnf
 refine⟨_,_,⟨rfl,rfl⟩,wk [0] []⟩
abbrev zja (r:qaa):PV:=PV.agg (qck.cells r)
def qsc (n:Nat) (b:Int) (a:qaa):Option (qaa):=
 match a with
 | ⟨e,f,⟨g,i,j,k,l,m⟩,c,d⟩=>
 some (qaa.mk b ([]:SS) (Val.mk (0:Int) false (0:Int) ([]:SS) ([]:List Val) ([]:List SS)) ([]:List SS) [qaa.mk e f (Val.mk g i j k l m) c d])
theorem qp7 (n:Nat):∀ (b:Int) (a r:qaa),qsc n b a=some r->qai TP 177 [PV.int .i64 b,PV.agg (qck.cells a)] (zja r):=by
 intro b a r h;obtain⟨e,f,⟨g,i,j,k,l,m⟩,c,d⟩:=a;unfold qsc at h;refine zN Tryz.call177 Tryz.func177 [1000000] ?_;conv=>whnf
 refine⟨Codec.one qck [qaa.mk e f (Val.mk g i j k l m) c d],qaa.rows [qaa.mk e f (Val.mk g i j k l m) c d],.inl rfl,?_⟩;obtain rfl:=sj h;conv=>whnf
 try exact fin
abbrev q5e (r:Bool):PV:=PV.bool r
def qkf (n:Nat) (a:SS):Option (Bool):=
 some (bif(bif(bif(bif(a==([99,111,117,110,116]:SS))then true else(a==([115,117,109]:SS)))then true else(a==([109,105,110]:SS)))then true else(a==([109,97,120]:SS)))then true else(a==([99,111,108,108,101,99,116]:SS)))
theorem qqo (n:Nat):∀ (a:SS) (r:Bool),qkf n a=some r->qai TP 172 [PV.str a] (q5e r):=by
 intro a r h;unfold qkf at h;refine zN Tryz.call172 Tryz.func172 [1000000] ?_;conv=>whnf
 iterate 8 refine⟨id,?_⟩
 obtain rfl:=sj h;conv=>whnf
 try exact fin
abbrev zjb (r:qaa):PV:=PV.agg (qck.cells r)
def qll (n:Nat) (c:SS) (a b:qaa):Option (qaa):=
 match a,b with
 | ⟨p,t,⟨u,v,w,x,y,z⟩,d,e⟩,⟨f,g,⟨i,j,k,l,m,o⟩,q,s⟩=>
 some (qaa.mk (10:Int) c (Val.mk (0:Int) false (0:Int) ([]:SS) ([]:List Val) ([]:List SS)) ([]:List SS) [qaa.mk p t (Val.mk u v w x y z) d e,qaa.mk f g (Val.mk i j k l m o) q s])
theorem qhs (n:Nat):∀ (c:SS) (a b r:qaa),qll n c a b=some r->qai TP 121 [PV.str c,PV.agg (qck.cells a),PV.agg (qck.cells b)] (zjb r):=by
 intro c a b r h;obtain⟨p,t,⟨u,v,w,x,y,z⟩,d,e⟩:=a;obtain⟨f,g,⟨i,j,k,l,m,o⟩,q,s⟩:=b;unfold qll at h;refine zN Tryz.call121 Tryz.func121 [1000000] ?_;conv=>whnf
 refine⟨Codec.one qck [qaa.mk p t (Val.mk u v w x y z) d e,qaa.mk f g (Val.mk i j k l m o) q s],qaa.rows [qaa.mk p t (Val.mk u v w x y z) d e,qaa.mk f g (Val.mk i j k l m o) q s],.inl rfl,?_⟩;obtain rfl:=sj h;conv=>whnf
 try exact fin
end W
end
