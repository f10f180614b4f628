/- A part of the proof: contracts, printed by program. -/
import Derived.Test.YtmblnmgpmdapnaaGreatB
import Derived.Test.YtmblnmgpmdapnaaGreatC
set_option linter.unusedVariables false
set_option linter.unusedSimpArgs false
set_option linter.unnecessarySimpa false
set_option linter.deprecated false
set_option linter.unusedSectionVars false
set_option linter.constructorNameAsVariable false
section
set_option maxRecDepth 100000
open Go Go.Proofs Ax
namespace W
abbrev qsl (r:Int):PV:=PV.int .i64 r
def qk9 (n:Nat) (b:List Val) (g45:Val->Option (Int)):(Int×Int->Option (Int))->Int×Int->Option (Int):=fun d (c,a)=>
 bif(decide (a<((Val.rows b).length:Int)))then(
 bnd (idx b a) fun⟨l,e,f,g,i,j⟩=>
 bnd (g45 (Val.mk l e f g i j)) fun k=>
 d ((IntKind.i64.wrap (c+k)),(IntKind.i64.wrap (a+1))))
 else(
 some c)
def qtx (n:Nat) (g45:Val->Option (Int)) (a:Val):Option (Int):=
 match a with
 | ⟨_,_,_,_,b,_⟩=>
 qan (qk9 n b g45) n ((1:Int),(0:Int))
theorem q6f (n:Nat) (g45:Val->Option (Int)) (g45_ok:∀ (a:Val) (r:Int),g45 a=some r->qac Tryz.prog 45 [PV.agg (quh.cells a)] (qsl r)):∀ (a:Val) (r:Int),qtx n g45 a=some r->qac Tryz.prog 45 [PV.agg (quh.cells a)] (qsl r):=by
 intro a r h;obtain⟨g,j,k,l,d,m⟩:=a;unfold qtx at h;refine qac.of_vcN mixed (fun _ _=>Tryz.call45 _ _) Tryz.func45 (by kernel_rfl) (inl:=[1000000]) ?_;conv=>whnf
 refine qbl.fn [1000000] (S:=Int×Int) (fun(b,c)=>[(1,.ptr 0 0),(3,pI b),(4,pI c)]) (fun(b,c)=>[.box 44 [pI g,pB j,pI k,pS l,pV d,pT m]]) (B:=qk9 n d g45) h (wk [0] []) ?_;intro _ st h;obtain⟨b,c⟩:=st;unfold qk9 at h;conv=>whnf
 apply ifc h<;>intro _ h
 ·conv=>whnf
  refine bq h fun⟨_,_,_,_,_,_⟩ f h=>?_;refine⟨_,Codec.at_ quh f,?_⟩;conv=>whnf
  refine bq h fun i e h=>?_;refine⟨_,(g45_ok _ _ e),?_⟩;conv=>whnf
  exact⟨((IntKind.i64.wrap (b+i)),(IntKind.i64.wrap (c+1))),h,wk [0] []⟩
 ·obtain rfl:=sj h
  conv=>whnf
  try exact fin
def ql5:Nat->Val->Option (Int)
 | 0=>fun _=>none
 | n+1=>qtx n (ql5 n)
theorem q6o (n:Nat):(∀ (a:Val) (r:Int),ql5 n a=some r->qac Tryz.prog 45 [PV.agg (quh.cells a)] (qsl r)):=by
 induction n with
 | zero=>exact(by intros; rename_i h; cases h)
 | succ n ih=>
  have hg45:=ih;exact q6f n (ql5 n) hg45
theorem q80 (n:Nat):∀ (a:Val) (r:Int),ql5 n a=some r->qac Tryz.prog 45 [PV.agg (quh.cells a)] (qsl r):=(q6o n)
abbrev qsm (r:Int):PV:=PV.int .i64 r
def qlh (n:Nat) (c:List qaa) (d:Int) (g21:qaa->Int->Option (Int)):(Int×Int->Option (Int))->Int×Int->Option (Int):=fun e (a,b)=>
 bif(bif(decide (b<((qaa.rows c).length:Int)))then(decide (a<d))else false)then(
 bnd (idx c b) fun⟨f,g,⟨i,j,k,l,m,o⟩,p,q⟩=>
 bnd (g21 (qaa.mk f g (Val.mk i j k l m o) p q) (IntKind.i64.wrap (d - a))) fun s=>
 e ((IntKind.i64.wrap (a+s)),(IntKind.i64.wrap (b+1))))
 else(
 some a)
def qty (n:Nat) (g21:qaa->Int->Option (Int)) (b:qaa) (d:Int):Option (Int):=
 match b with
 | ⟨_,f,⟨g,i,j,a,k,l⟩,_,c⟩=>
 bnd (ql5 n (Val.mk g i j a k l)) fun e=>
 qan (qlh n c d g21) n ((IntKind.i64.wrap ((IntKind.i64.wrap ((IntKind.i64.wrap ((1:Int)+(IntKind.i64.wrap (Int.tdiv ((f.length:Nat):Int) (16:Int)))))+(IntKind.i64.wrap (Int.tdiv ((a.length:Nat):Int) (16:Int)))))+e)),(0:Int))
theorem q6g (n:Nat) (g21:qaa->Int->Option (Int)) (g21_ok:∀ (b:qaa) (a r:Int),g21 b a=some r->qac Tryz.prog 21 [PV.agg (qcf.cells b),PV.int .i64 a] (qsm r)):∀ (b:qaa) (a r:Int),qty n g21 b a=some r->qac Tryz.prog 21 [PV.agg (qcf.cells b),PV.int .i64 a] (qsm r):=by
 intro b a r h;obtain⟨j,k,⟨m,o,p,q,s,t⟩,u,e⟩:=b;unfold qty at h;refine qac.of_vcN mixed (fun _ _=>Tryz.call21 _ _) Tryz.func21 (by kernel_rfl) (inl:=[1000000]) ?_;conv=>whnf
 refine⟨by unfold gI; decide,?_⟩;conv=>whnf
 refine⟨by unfold gI; decide,?_⟩;conv=>whnf
 refine bq h fun _ i h=>?_;refine⟨_,(q80 n _ _ i),?_⟩;conv=>whnf
 refine qbl.fn [1000000] (S:=Int×Int) (fun(c,d)=>[(1,pI a),(2,.ptr 0 0),(5,pI c),(6,pI d)]) (fun(c,d)=>[.box 46 [pI j,pS k,pI m,pB o,pI p,pS q,pV s,pT t,pT u,pE e]]) (B:=qlh n e a g21) h (wk [0] []) ?_;intro _ st h;obtain⟨c,d⟩:=st;unfold qlh at h;conv=>whnf
 refine⟨id,id,id,?_⟩;conv=>whnf
 apply ifc h<;>intro _ h
 ·conv=>whnf
  refine bq h fun⟨_,_,⟨_,_,_,_,_,_⟩,_,_⟩ g h=>?_;refine⟨_,Codec.at_ qcf g,?_⟩;conv=>whnf
  refine bq h fun l f h=>?_;refine⟨_,(g21_ok _ _ _ f),?_⟩;conv=>whnf
  exact⟨((IntKind.i64.wrap (c+l)),(IntKind.i64.wrap (d+1))),h,wk [0] []⟩
 ·obtain rfl:=sj h
  conv=>whnf
  try exact fin
def qgz:Nat->qaa->Int->Option (Int)
 | 0=>fun _ _=>none
 | n+1=>qty n (qgz n)
theorem q6t (n:Nat):(∀ (a:qaa) (b r:Int),qgz n a b=some r->qac Tryz.prog 21 [PV.agg (qcf.cells a),PV.int .i64 b] (qsm r)):=by
 induction n with
 | zero=>exact(by intros; rename_i h; cases h)
 | succ n ih=>
  have hg21:=ih;exact q6g n (qgz n) hg21
theorem qn4 (n:Nat):∀ (a:qaa) (b r:Int),qgz n a b=some r->qac Tryz.prog 21 [PV.agg (qcf.cells a),PV.int .i64 b] (qsm r):=(q6t n)
abbrev q5s (r:Int):PV:=PV.int .i64 r
def qhp (n:Nat) (c:List qaa) (d:Int):(Int×Int->Option (Int))->Int×Int->Option (Int):=fun e (a,b)=>
 bif(bif(decide (b<((qaa.rows c).length:Int)))then(decide (a<d))else false)then(
 bnd (idx c b) fun⟨m,o,⟨p,q,s,f,g,i⟩,j,k⟩=>
 bnd (qgz n (qaa.mk m o (Val.mk p q s f g i) j k) (IntKind.i64.wrap (d - a))) fun l=>
 e ((IntKind.i64.wrap (a+l)),(IntKind.i64.wrap (b+1))))
 else(
 some a)
def qgb (n:Nat) (a:List qaa) (b:Int):Option (Int):=
 qan (qhp n a b) n ((0:Int),(0:Int))
theorem qj0 (n:Nat):∀ (a:List qaa) (b r:Int),qgb n a b=some r->qac Tryz.prog 22 [PV.sl (qaa.rows a),PV.int .i64 b] (q5s r):=by
 intro a b r h;unfold qgb at h;refine qac.of_vcN mixed (fun _ _=>Tryz.call22 _ _) Tryz.func22 (by kernel_rfl) (inl:=[1000000]) ?_;conv=>whnf
 refine qbl.fn [1000000] (S:=Int×Int) (fun(c,d)=>[(0,pE a),(1,pI b),(5,pI c),(6,pI d)]) (fun(c,d)=>[]) (B:=qhp n a b) h (wk [] []) ?_;intro _ st h;obtain⟨c,d⟩:=st;unfold qhp at h;conv=>whnf
 refine⟨id,id,id,?_⟩;conv=>whnf
 apply ifc h<;>intro _ h
 ·conv=>whnf
  refine bq h fun⟨_,_,⟨_,_,_,_,_,_⟩,_,_⟩ f h=>?_;refine⟨_,Codec.at_ qcf f,?_⟩;conv=>whnf
  refine bq h fun g e h=>?_;refine⟨_,(qn4 n _ _ _ e),?_⟩;conv=>whnf
  exact⟨((IntKind.i64.wrap (c+g)),(IntKind.i64.wrap (d+1))),h,wk [] []⟩
 ·obtain rfl:=sj h
  conv=>whnf
  try exact fin
abbrev zcd (r:Bool):PV:=PV.bool r
def qjf (n:Nat) (d:List qa6) (a:Int) (e:Int×Int->Option (Bool)):(Int×Int->Option (Bool))->Int×Int->Option (Bool):=fun f (b,c)=>
 bnd (idx d a) fun⟨_,g⟩=>
 bif(bif(decide (c<((qag.rows g).length:Int)))then(decide (b<3000))else false)then(
 bnd (idx d a) fun⟨_,i⟩=>
 bnd (idx i c) fun⟨_,_,_,_,j⟩=>
 bnd (qgb n j (3000:Int)) fun k=>
 f ((IntKind.i64.wrap ((IntKind.i64.wrap (b+1))+k)),(IntKind.i64.wrap (c+1))))
 else(
 e (b,(IntKind.i64.wrap (a+1))))
def qld (n:Nat) (c:List qa6) (a:Int) (e:Int×Int->Option (Bool)):(Int×Int->Option (Bool))->Int×Int->Option (Bool):=fun f (d,b)=>
 bnd (idx c a) fun⟨g,_⟩=>
 bif(bif(decide (b<((qae.rows g).length:Int)))then(decide (d<3000))else false)then(
 bnd (idx c a) fun⟨i,_⟩=>
 bnd (idx i b) fun⟨_,j,_,_⟩=>
 bnd (idx c a) fun⟨k,_⟩=>
 bnd (idx k b) fun⟨_,_,_,l⟩=>
 bnd (qgb n l (3000:Int)) fun m=>
 f ((IntKind.i64.wrap ((IntKind.i64.wrap ((IntKind.i64.wrap (d+1))+((qai j).length:Int)))+m)),(IntKind.i64.wrap (b+1))))
 else(
 qan (qjf n c a e) n (d,(0:Int)))
def qhg (n:Nat) (c:List qaf) (d:Int×Int->Option (Bool)) (l:Int):(Int×Int->Option (Bool))->Int×Int->Option (Bool):=fun e (a,b)=>
 bif(bif(decide (b<((qaf.rows c).length:Int)))then(decide (a<3000))else false)then(
 bnd (idx c b) fun⟨_,_,_,⟨m,o,⟨p,q,s,t,f,g⟩,i,j⟩⟩=>
 bnd (qgz n (qaa.mk m o (Val.mk p q s t f g) i j) (3000:Int)) fun k=>
 e ((IntKind.i64.wrap ((IntKind.i64.wrap (a+1))+k)),(IntKind.i64.wrap (b+1))))
 else(
 d (a,(IntKind.i64.wrap (l+1))))
def qhf (n:Nat) (c:List qar) (f:List qaf) (d:Int×Int->Option (Bool)) (g:Int):(Int×Int->Option (Bool))->Int×Int->Option (Bool):=fun e (a,b)=>
 bif(bif(decide (b<((qar.rows c).length:Int)))then(decide (a<3000))else false)then(
 bnd (idx c b) fun⟨⟨i,j,⟨k,l,m,o,p,q⟩,s,t⟩,_⟩=>
 bnd (qgz n (qaa.mk i j (Val.mk k l m o p q) s t) (3000:Int)) fun u=>
 e ((IntKind.i64.wrap (a+u)),(IntKind.i64.wrap (b+1))))
 else(
 qan (qhg n f d g) n (a,(0:Int)))
def qhe (n:Nat) (c:List qbj) (f:List qar) (g:List qaf) (d:Int×Int->Option (Bool)) (i:Int):(Int×Int->Option (Bool))->Int×Int->Option (Bool):=fun e (a,b)=>
 bif(bif(decide (b<((qbj.rows c).length:Int)))then(decide (a<3000))else false)then(
 bnd (idx c b) fun⟨⟨j,k,⟨l,m,o,p,q,s⟩,t,u⟩,_⟩=>
 bnd (qgz n (qaa.mk j k (Val.mk l m o p q s) t u) (3000:Int)) fun v=>
 e ((IntKind.i64.wrap (a+v)),(IntKind.i64.wrap (b+1))))
 else(
 qan (qhf n f g d i) n (a,(0:Int)))
def qje (n:Nat) (c:List qa6) (f:List qbj) (g:List qar) (i:List qaf) (d:Int×Int->Option (Bool)) (j:Int):(Int×Int->Option (Bool))->Int×Int->Option (Bool):=fun e (a,b)=>
 bif(bif(decide (b<((qa6.rows c).length:Int)))then(decide (a<3000))else false)then(
 qan (qld n c b e) n (a,(0:Int)))
 else(
 qan (qhe n f g i d j) n (a,(0:Int)))
def qlc (n:Nat) (c:List qab):(Int×Int->Option (Bool))->Int×Int->Option (Bool):=fun d (a,b)=>
 bif(bif(decide (b<((qab.rows c).length:Int)))then(decide (a<3000))else false)then(
 bnd (idx c b) fun⟨_,y,z,⟨A,B,⟨C,e,f,g,i,j⟩,k,l⟩,_,m,_,o,p,q,s,t,_⟩=>
 bnd (qgz n (qaa.mk A B (Val.mk C e f g i j) k l) (3000:Int)) fun u=>
 bnd (qgb n z (3000:Int)) fun v=>
 bnd (qgb n p (3000:Int)) fun w=>
 bnd (qgb n q (3000:Int)) fun x=>
 qan (qje n y m o s d b) n ((IntKind.i64.wrap ((IntKind.i64.wrap ((IntKind.i64.wrap ((IntKind.i64.wrap ((IntKind.i64.wrap ((IntKind.i64.wrap (a+1))+u))+v))+w))+x))+((qai t).length:Int))),(0:Int)))
 else(
 some (decide (a≥3000)))
def qoy (n:Nat) (a:qid):Option (Bool):=
 match a with
 | ⟨b⟩=>
 qan (qlc n b) n ((0:Int),(0:Int))
set_option maxHeartbeats 4000000 in
theorem qum (n:Nat):∀ (G:qid) (r:Bool),qoy n G=some r->qac Tryz.prog 8 [PV.agg (q21.cells G)] (zcd r):=by
 intro G r h;obtain⟨e⟩:=G;unfold qoy at h;refine qac.of_vcN mixed (fun _ _=>Tryz.call8 _ _) Tryz.func8 (by kernel_rfl) (inl:=[1000000]) ?_;conv=>whnf
 refine qbl.fn [1000000] (S:=Int×Int) (fun(Q,a)=>[(1,.ptr 0 0),(3,pI Q),(4,pI a)]) (fun(Q,a)=>[.box 24 [pC e]]) (B:=qlc n e) h (wk [0] []) ?_;intro H st h;obtain⟨Q,a⟩:=st;unfold qlc at h;conv=>whnf
 refine⟨id,id,?_⟩;conv=>whnf
 apply ifc h<;>intro i h
 ·conv=>whnf
  refine bq h fun⟨y,d,z,⟨A,C,⟨D,j,k,l,m,o⟩,p,q⟩,s,f,t,c,u,v,b,w,x⟩ a7 h=>?_;refine⟨_,Codec.at_ qda a7,?_⟩;conv=>whnf
  refine bq h fun _ a6 h=>?_;refine⟨_,(qn4 n _ _ _ a6),?_⟩;conv=>whnf
  refine bq h fun _ a4 h=>?_;refine⟨_,(qj0 n _ _ _ a4),?_⟩;conv=>whnf
  refine bq h fun _ a3 h=>?_;refine⟨_,(qj0 n _ _ _ a3),?_⟩;conv=>whnf
  refine bq h fun _ a2 h=>?_;refine⟨_,(qj0 n _ _ _ a2),?_⟩;conv=>whnf
  refine qbl.fn [1000000] (S:=Int×Int) (fun(R,g)=>[(1,.ptr 0 0),(3,pI R),(4,pI a),(5,.ptr 1 0),(6,pI g)]) (fun(R,g)=>[.box 24 [pC e],.box 51 [pI y,pP d,pE z,pI A,pS C,pI D,pB j,pI k,pS l,pV m,pT o,pT p,pE q,pS s,pA f,pB t,pO c,pE u,pE v,pU b,pT w,pB x]]) (B:=qje n d f c b H a) h (wk [0,1] []) ?_;intro T st h;obtain⟨R,g⟩:=st;unfold qje at h;conv=>whnf
  refine⟨id,id,?_⟩;conv=>whnf
  apply ifc h<;>intro i h
  ·conv=>whnf
   refine qbl.fn [1000000] (S:=Int×Int) (fun(I,J)=>[(1,.ptr 0 0),(3,pI I),(4,pI a),(5,.ptr 1 0),(6,pI g),(7,pI J)]) (fun(I,J)=>[.box 24 [pC e],.box 51 [pI y,pP d,pE z,pI A,pS C,pI D,pB j,pI k,pS l,pV m,pT o,pT p,pE q,pS s,pA f,pB t,pO c,pE u,pE v,pU b,pT w,pB x]]) (B:=qld n d g T) h (wk [0,1] []) ?_;intro _ st h;obtain⟨I,J⟩:=st;unfold qld at h;conv=>whnf
   refine bq h fun⟨_,_⟩ V h=>?_;refine⟨_,Codec.at_ ql2 V,?_⟩;conv=>whnf
   refine⟨id,id,?_⟩;conv=>whnf
   apply ifc h<;>intro i h
   ·conv=>whnf
    refine bq h fun⟨_,_⟩ b0 h=>?_;refine⟨_,Codec.at_ ql2 b0,?_⟩;conv=>whnf
    refine bq h fun⟨_,b6,_,_⟩ a9 h=>?_;refine⟨_,Codec.at_ qea a9,?_⟩;conv=>whnf
    refine bq h fun⟨_,_⟩ a8 h=>?_;refine⟨_,Codec.at_ ql2 a8,?_⟩;conv=>whnf
    refine bq h fun⟨_,_,_,_⟩ a5 h=>?_;refine⟨_,Codec.at_ qea a5,?_⟩;conv=>whnf
    refine bq h fun b7 U h=>?_;refine⟨_,(qj0 n _ _ _ U),?_⟩;conv=>whnf
    exact⟨((IntKind.i64.wrap ((IntKind.i64.wrap ((IntKind.i64.wrap (I+1))+((qai b6).length:Int)))+b7)),(IntKind.i64.wrap (J+1))),h,wk [0,1] []⟩
   ·conv=>whnf
    refine qbl.fn [1000000] (S:=Int×Int) (fun(E,K)=>[(1,.ptr 0 0),(3,pI E),(4,pI a),(5,.ptr 1 0),(6,pI g),(8,pI K)]) (fun(E,K)=>[.box 24 [pC e],.box 51 [pI y,pP d,pE z,pI A,pS C,pI D,pB j,pI k,pS l,pV m,pT o,pT p,pE q,pS s,pA f,pB t,pO c,pE u,pE v,pU b,pT w,pB x]]) (B:=qjf n d g T) h (wk [0,1] []) ?_;intro _ st h;obtain⟨E,K⟩:=st;unfold qjf at h;conv=>whnf
    refine bq h fun⟨_,_⟩ b4 h=>?_;refine⟨_,Codec.at_ ql2 b4,?_⟩;conv=>whnf
    refine⟨id,id,?_⟩;conv=>whnf
    apply ifc h<;>intro i h
    ·conv=>whnf
     refine bq h fun⟨_,_⟩ b3 h=>?_;refine⟨_,Codec.at_ ql2 b3,?_⟩;conv=>whnf
     refine bq h fun⟨_,_,_,_,_⟩ b2 h=>?_;refine⟨_,Codec.at_ qgu b2,?_⟩;conv=>whnf
     refine bq h fun b8 b1 h=>?_;refine⟨_,(qj0 n _ _ _ b1),?_⟩;conv=>whnf
     exact⟨((IntKind.i64.wrap ((IntKind.i64.wrap (E+1))+b8)),(IntKind.i64.wrap (K+1))),h,wk [0,1] []⟩
    ·conv=>whnf
     exact⟨(E,(IntKind.i64.wrap (g+1))),h,wk [0,1] []⟩
  ·conv=>whnf
   refine qbl.fn [1000000] (S:=Int×Int) (fun(L,M)=>[(1,.ptr 0 0),(3,pI L),(4,pI a),(5,.ptr 1 0),(9,pI M)]) (fun(L,M)=>[.box 24 [pC e],.box 51 [pI y,pP d,pE z,pI A,pS C,pI D,pB j,pI k,pS l,pV m,pT o,pT p,pE q,pS s,pA f,pB t,pO c,pE u,pE v,pU b,pT w,pB x]]) (B:=qhe n f c b H a) h (wk [0,1] []) ?_;intro _ st h;obtain⟨L,M⟩:=st;unfold qhe at h;conv=>whnf
   refine⟨id,id,?_⟩;conv=>whnf
   apply ifc h<;>intro i h
   ·conv=>whnf
    refine bq h fun⟨⟨_,_,⟨_,_,_,_,_,_⟩,_,_⟩,_⟩ X h=>?_;refine⟨_,Codec.at_ qr5 X,?_⟩;conv=>whnf
    refine bq h fun b9 W h=>?_;refine⟨_,(qn4 n _ _ _ W),?_⟩;conv=>whnf
    exact⟨((IntKind.i64.wrap (L+b9)),(IntKind.i64.wrap (M+1))),h,wk [0,1] []⟩
   ·conv=>whnf
    refine qbl.fn [1000000] (S:=Int×Int) (fun(N,O)=>[(1,.ptr 0 0),(3,pI N),(4,pI a),(5,.ptr 1 0),(10,pI O)]) (fun(N,O)=>[.box 24 [pC e],.box 51 [pI y,pP d,pE z,pI A,pS C,pI D,pB j,pI k,pS l,pV m,pT o,pT p,pE q,pS s,pA f,pB t,pO c,pE u,pE v,pU b,pT w,pB x]]) (B:=qhf n c b H a) h (wk [0,1] []) ?_;intro _ st h;obtain⟨N,O⟩:=st;unfold qhf at h;conv=>whnf
    refine⟨id,id,?_⟩;conv=>whnf
    apply ifc h<;>intro i h
    ·conv=>whnf
     refine bq h fun⟨⟨_,_,⟨_,_,_,_,_,_⟩,_,_⟩,_⟩ Z h=>?_;refine⟨_,Codec.at_ qpi Z,?_⟩;conv=>whnf
     refine bq h fun c0 Y h=>?_;refine⟨_,(qn4 n _ _ _ Y),?_⟩;conv=>whnf
     exact⟨((IntKind.i64.wrap (N+c0)),(IntKind.i64.wrap (O+1))),h,wk [0,1] []⟩
    ·conv=>whnf
     refine qbl.fn [1000000] (S:=Int×Int) (fun(F,P)=>[(1,.ptr 0 0),(3,pI F),(4,pI a),(5,.ptr 1 0),(11,pI P)]) (fun(F,P)=>[.box 24 [pC e],.box 51 [pI y,pP d,pE z,pI A,pS C,pI D,pB j,pI k,pS l,pV m,pT o,pT p,pE q,pS s,pA f,pB t,pO c,pE u,pE v,pU b,pT w,pB x]]) (B:=qhg n b H a) h (wk [0,1] []) ?_;intro _ st h;obtain⟨F,P⟩:=st;unfold qhg at h;conv=>whnf
     refine⟨id,id,?_⟩;conv=>whnf
     apply ifc h<;>intro i h
     ·conv=>whnf
      refine bq h fun⟨_,_,_,⟨_,_,⟨_,_,_,_,_,_⟩,_,_⟩⟩ a1 h=>?_;refine⟨_,Codec.at_ qjb a1,?_⟩;conv=>whnf
      refine bq h fun b5 a0 h=>?_;refine⟨_,(qn4 n _ _ _ a0),?_⟩;conv=>whnf
      exact⟨((IntKind.i64.wrap ((IntKind.i64.wrap (F+1))+b5)),(IntKind.i64.wrap (P+1))),h,wk [0,1] []⟩
     ·conv=>whnf
      exact⟨(F,(IntKind.i64.wrap (a+1))),h,wk [0] []⟩
 ·obtain rfl:=sj h
  conv=>whnf
  try exact fin
abbrev q9s (r:Bool):PV:=PV.bool r
def qil (n:Nat) (a:Int):Option (Bool):=
 some (bif(bif(bif(decide (a≥97))then(decide (a<=122))else false)then true else(bif(decide (a≥65))then(decide (a<=90))else false))then true else(a==95))
theorem qpp (n:Nat):∀ (a:Int) (r:Bool),qil n a=some r->qac Tryz.prog 114 [PV.int .u8 a] (q9s r):=by
 intro a r h;unfold qil at h;refine qac.of_vcN mixed (fun _ _=>Tryz.call114 _ _) Tryz.func114 (by kernel_rfl) (inl:=[1000000]) ?_;conv=>whnf
 iterate 10 refine⟨id,?_⟩
 obtain rfl:=sj h;conv=>whnf
 try exact fin
abbrev zb9 (r:Bool):PV:=PV.bool r
def qkm (n:Nat) (a:Int):Option (Bool):=
 some (bif(decide (a≥48))then(decide (a<=57))else false)
theorem qn1 (n:Nat):∀ (a:Int) (r:Bool),qkm n a=some r->qac Tryz.prog 115 [PV.int .u8 a] (zb9 r):=by
 intro a r h;unfold qkm at h;refine qac.of_vcN mixed (fun _ _=>Tryz.call115 _ _) Tryz.func115 (by kernel_rfl) (inl:=[1000000]) ?_;conv=>whnf
 refine⟨id,id,?_⟩;obtain rfl:=sj h;conv=>whnf
 try exact fin
abbrev zcc (r:List SS):PV:=PV.sl (qai r)
def qv6 (n:Nat):Option (List SS):=
 some [([77,65,84,67,72]:SS),([87,72,69,82,69]:SS),([85,78,87,73,78,68]:SS),([65,83]:SS),([87,73,84,72]:SS),([67,82,69,65,84,69]:SS),([77,69,82,71,69]:SS),([83,69,84]:SS),([82,69,77,79,86,69]:SS),([68,69,76,69,84,69]:SS),([68,69,84,65,67,72]:SS),([82,69,84,85,82,78]:SS),([68,73,83,84,73,78,67,84]:SS),([79,82,68,69,82]:SS),([66,89]:SS),([65,83,67]:SS),([68,69,83,67]:SS),([83,75,73,80]:SS),([76,73,77,73,84]:SS),([65,78,68]:SS),([79,82]:SS),([88,79,82]:SS),([78,79,84]:SS),([73,78]:SS),([73,83]:SS),([78,85,76,76]:SS),([84,82,85,69]:SS),([70,65,76,83,69]:SS)]
theorem q85 (n:Nat):∀ (r:List SS),qv6 n=some r->qac Tryz.prog 148 [] (zcc r):=by
 intro r h;unfold qv6 at h;refine qac.of_vcN mixed (fun _ _=>Tryz.call148 _ _) Tryz.func148 (by kernel_rfl) (inl:=[1000000]) ?_;conv=>whnf
 refine⟨Codec.one qpl [([77,65,84,67,72]:SS),([87,72,69,82,69]:SS),([85,78,87,73,78,68]:SS),([65,83]:SS),([87,73,84,72]:SS),([67,82,69,65,84,69]:SS),([77,69,82,71,69]:SS),([83,69,84]:SS),([82,69,77,79,86,69]:SS),([68,69,76,69,84,69]:SS),([68,69,84,65,67,72]:SS),([82,69,84,85,82,78]:SS),([68,73,83,84,73,78,67,84]:SS),([79,82,68,69,82]:SS),([66,89]:SS),([65,83,67]:SS),([68,69,83,67]:SS),([83,75,73,80]:SS),([76,73,77,73,84]:SS),([65,78,68]:SS),([79,82]:SS),([88,79,82]:SS),([78,79,84]:SS),([73,78]:SS),([73,83]:SS),([78,85,76,76]:SS),([84,82,85,69]:SS),([70,65,76,83,69]:SS)],qai [([77,65,84,67,72]:SS),([87,72,69,82,69]:SS),([85,78,87,73,78,68]:SS),([65,83]:SS),([87,73,84,72]:SS),([67,82,69,65,84,69]:SS),([77,69,82,71,69]:SS),([83,69,84]:SS),([82,69,77,79,86,69]:SS),([68,69,76,69,84,69]:SS),([68,69,84,65,67,72]:SS),([82,69,84,85,82,78]:SS),([68,73,83,84,73,78,67,84]:SS),([79,82,68,69,82]:SS),([66,89]:SS),([65,83,67]:SS),([68,69,83,67]:SS),([83,75,73,80]:SS),([76,73,77,73,84]:SS),([65,78,68]:SS),([79,82]:SS),([88,79,82]:SS),([78,79,84]:SS),([73,78]:SS),([73,83]:SS),([78,85,76,76]:SS),([84,82,85,69]:SS),([70,65,76,83,69]:SS)],.inl rfl,?_⟩;obtain rfl:=sj h;conv=>whnf
 try exact fin
abbrev zca (r:SS):PV:=PV.str r
def qla (n:Nat) (a:SS) (c:SS×Int->Option SS) (d:Int):Int->Option SS:=fun e=>
 bnd (u8I e) fun b=>
 chk (decide ((qav (a++[b])).length * 1<=140737488355328)) (
 c ((a++[b]),(IntKind.i64.wrap (d+1))))
def qlb (n:Nat) (e:SS):(SS×Int->Option SS)->SS×Int->Option SS:=fun d (c,a)=>
 bif(decide (a<((e.length:Nat):Int)))then(
 bnd (idx e a) fun b=>
 bif(bif(decide (((b.toNat:Nat):Int)≥97))then(decide (((b.toNat:Nat):Int)<=122))else false)then(
 qla n c d a (IntKind.u8.wrap (((b.toNat:Nat):Int) - 32)))
 else(
 qla n c d a ((b.toNat:Nat):Int)))
 else(
 some c)
def qs3 (n:Nat) (a:SS):Option SS:=
 qan (qlb n a) n (([]:List _),(0:Int))
theorem q84 (n:Nat):∀ (c r:SS),qs3 n c=some r->qac Tryz.prog 149 [PV.str c] (zca r):=by
 intro c r h;unfold qs3 at h;refine qac.of_vcN mixed (fun _ _=>Tryz.call149 _ _) Tryz.func149 (by kernel_rfl) (inl:=[1000000]) ?_;conv=>whnf
 refine qbl.fn [1000000] (S:=SS×Int) (fun(a,d)=>[(0,pS c),(3,.tsl 0 (qav a)),(4,pI d)]) (fun(a,d)=>[.tail 5 1 (qav a).length]) (B:=qlb n c) h (wk [0] [0]) ?_;intro l st h;obtain⟨a,d⟩:=st;unfold qlb at h;conv=>whnf
 apply ifc h<;>intro k h
 ·conv=>whnf
  refine bq h fun g j h=>?_;refine⟨_,qdq j,?_⟩;conv=>whnf
  refine qh6.cut (S:=Int) (fun e=>[(0,pS c),(3,.tsl 0 (qav a)),(4,pI d),(5,.p (.int .u8 e))]) (fun e=>[.tail 5 1 (qav a).length]) (qla n a l d) (r:=r) ?_ ?_
  ·intro e h
   unfold qla at h;conv=>whnf
   refine bq h fun b i h=>?_;rw[show([[PV.int .u8 e]]:List (List PV))=qav [b]from by rw[qex i]; rfl];refine⟨Codec.one qdj [b],_,.inl rfl,?_⟩;conv=>whnf
   rw[show qav a++qav [b]=qav (a++[b])from Codec.append qdj a [b]];conv=>whnf
   obtain⟨f,h⟩:=qak h;refine⟨⟨Codec.wide qdj (a++[b]),of_decide_eq_true f,qcb f (by decide)⟩,?_⟩;conv=>whnf
   refine⟨⟨rfl,rfl,rfl⟩,?_⟩;conv=>whnf
   exact⟨((a++[b]),(IntKind.i64.wrap (d+1))),h,wk [1] []⟩
  ·conv=>whnf
   refine⟨id,?_⟩;conv=>whnf
   refine⟨id,?_⟩;conv=>whnf
   apply ifc h<;>intro k h
   ·conv=>whnf
    exact⟨(IntKind.u8.wrap (((g.toNat:Nat):Int) - 32)),h,wk [0] []⟩
   ·conv=>whnf
    exact⟨((g.toNat:Nat):Int),h,wk [0] []⟩
 ·conv=>whnf
  refine⟨_,rfl,?_⟩;obtain rfl:=sj h;conv=>whnf
  try exact fin
abbrev zd4 (r:SS×Bool):PV:=PV.tup [PV.str r.1,PV.bool r.2]
def qm0 (n:Nat) (b:List SS) (c:SS):(Int->Option (SS×Bool))->Int->Option (SS×Bool):=fun d a=>
 bif(decide (a<((qai b).length:Int)))then(
 bnd (idx b a) fun e=>
 bif(e==c)then(
 some (c,true))
 else(
 d (IntKind.i64.wrap (a+1))))
 else(
 some (([]:SS),false))
def qss (n:Nat) (a:SS):Option (SS×Bool):=
 bnd (qv6 n) fun b=>
 bnd (qs3 n a) fun c=>
 qan (qm0 n b c) n (0:Int)
theorem q1y (n:Nat):∀ (b:SS) (r:SS×Bool),qss n b=some r->qac Tryz.prog 100 [PV.str b] (zd4 r):=by
 intro b r h;unfold qss at h;refine qac.of_vcN mixed (fun _ _=>Tryz.call100 _ _) Tryz.func100 (by kernel_rfl) (inl:=[1000000]) ?_;conv=>whnf
 refine bq h fun c g h=>?_;refine⟨_,(q85 n _ g),?_⟩;conv=>whnf
 refine bq h fun d f h=>?_;refine⟨_,(q84 n _ _ f),?_⟩;conv=>whnf
 refine qbl.fn [1000000] (S:=Int) (fun a=>[(4,pT c),(5,pS d),(6,pI a)]) (fun a=>[]) (B:=qm0 n c d) h (wk [] []) ?_;intro _ a h;unfold qm0 at h;conv=>whnf
 apply ifc h<;>intro i h
 ·conv=>whnf
  refine bq h fun _ e h=>?_;refine⟨_,Codec.at_ qpl e,?_⟩;conv=>whnf
  apply ifc h<;>intro i h
  ·obtain rfl:=sj h
   conv=>whnf
   try exact fin
  ·conv=>whnf
   exact⟨(IntKind.i64.wrap (a+1)),h,wk [] []⟩
 ·obtain rfl:=sj h
  conv=>whnf
  try exact fin
abbrev q9q (r:Bool):PV:=PV.bool r
def qsz (n:Nat) (a:SS):(Int->Option (Bool))->Int->Option (Bool):=fun d b=>
 bif(decide (b<((a.length:Nat):Int)))then(
 bnd (idx a b) fun c=>
 bnd (qaw (!(decide (((c.toNat:Nat):Int)<48))) (idx a b)) fun e=>
 bif(bif(decide (((c.toNat:Nat):Int)<48))then true else(decide (((e.toNat:Nat):Int)>57)))then(
 some false)
 else(
 d (IntKind.i64.wrap (b+1))))
 else(
 some (decide (((a.length:Nat):Int)>0)))
def qxt (n:Nat) (a:SS):Option (Bool):=
 qan (qsz n a) n (0:Int)
theorem q6m (n:Nat):∀ (a:SS) (r:Bool),qxt n a=some r->qac Tryz.prog 155 [PV.str a] (q9q r):=by
 intro a r h;unfold qxt at h;refine qac.of_vcN mixed (fun _ _=>Tryz.call155 _ _) Tryz.func155 (by kernel_rfl) (inl:=[1000000]) ?_;conv=>whnf
 refine qbl.fn [1000000] (S:=Int) (fun b=>[(0,pS a),(3,pI b)]) (fun b=>[]) (B:=qsz n a) h (wk [] []) ?_;intro _ b h;unfold qsz at h;conv=>whnf
 apply ifc h<;>intro e h
 ·conv=>whnf
  refine bq h fun _ d h=>?_;refine⟨_,qdq d,?_⟩;conv=>whnf
  refine⟨id,id,?_⟩;conv=>whnf
  refine bq h fun _ c h=>?_;refine⟨_,fun f=>qdq (qad c f),?_⟩;conv=>whnf
  refine⟨id,id,?_⟩;conv=>whnf
  apply ifc h<;>intro e h
  ·obtain rfl:=sj h
   conv=>whnf
   try exact fin
  ·conv=>whnf
   exact⟨(IntKind.i64.wrap (b+1)),h,wk [] []⟩
 ·obtain rfl:=sj h
  conv=>whnf
  try exact fin
abbrev zgc (r:Int×Int):PV:=PV.tup [PV.int .i64 r.1,PV.int .i64 r.2]
def q6n (n:Nat) (b a:Int):Option (Int×Int):=
 bif(bif(b==0)then true else(a==0))then(
 some ((0:Int),(0:Int)))
 else(
 bif(bif(bif(b==(-1:Int))then(a==(-9223372036854775808:Int))else false)then true else(bif(a==(-1:Int))then(b==(-9223372036854775808:Int))else false))then(
 some ((0:Int),(4:Int)))
 else(
 chk (decide (a≠0)) (
 bif((IntKind.i64.wrap (Int.tdiv (IntKind.i64.wrap (b * a)) a)) != b)then(
 some ((0:Int),(4:Int)))
 else(
 some ((IntKind.i64.wrap (b * a)),(0:Int))))))
theorem zdu (n:Nat):∀ (b a:Int) (r:Int×Int),q6n n b a=some r->qac Tryz.prog 156 [PV.int .i64 b,PV.int .i64 a] (zgc r):=by
 intro b a r h;unfold q6n at h;refine qac.of_vcN mixed (fun _ _=>Tryz.call156 _ _) Tryz.func156 (by kernel_rfl) (inl:=[1000000]) ?_;conv=>whnf
 refine⟨id,id,?_⟩;conv=>whnf
 apply ifc h<;>intro c h
 ·obtain rfl:=sj h
  conv=>whnf
  try exact fin
 ·conv=>whnf
  iterate 8 refine⟨id,?_⟩
  conv=>whnf
  apply ifc h<;>intro c h
  ·obtain rfl:=sj h
   conv=>whnf
   try exact fin
  ·conv=>whnf
   obtain⟨d,h⟩:=qak h;refine⟨(of_decide_eq_true d:a≠0),?_⟩;conv=>whnf
   apply ifc h<;>intro c h
   ·obtain rfl:=sj h
    conv=>whnf
    try exact fin
   ·obtain rfl:=sj h
    conv=>whnf
    try exact fin
abbrev zgb (r:Int×Int):PV:=PV.tup [PV.int .i64 r.1,PV.int .i64 r.2]
def q6l (n:Nat) (b a:Int):Option (Int×Int):=
 bif(bif(bif(decide (a>0))then(decide (b>(IntKind.i64.wrap ((9223372036854775807:Int) - a))))else false)then true else(bif(decide (a<0))then(decide (b<(IntKind.i64.wrap ((-9223372036854775808:Int) - a))))else false))then(
 some ((0:Int),(4:Int)))
 else(
 some ((IntKind.i64.wrap (b+a)),(0:Int)))
theorem zdt (n:Nat):∀ (a b:Int) (r:Int×Int),q6l n a b=some r->qac Tryz.prog 157 [PV.int .i64 a,PV.int .i64 b] (zgb r):=by
 intro a b r h;unfold q6l at h;refine qac.of_vcN mixed (fun _ _=>Tryz.call157 _ _) Tryz.func157 (by kernel_rfl) (inl:=[1000000]) ?_;conv=>whnf
 iterate 12 refine⟨id,?_⟩
 conv=>whnf
 apply ifc h<;>intro _ h
 ·obtain rfl:=sj h
  conv=>whnf
  try exact fin
 ·obtain rfl:=sj h
  conv=>whnf
  try exact fin
abbrev zb8 (r:Int×Int):PV:=PV.tup [PV.int .i64 r.1,PV.int .i64 r.2]
def qq2 (n:Nat) (f:Int) (b:Int×Int->Option (Int×Int)) (e:Int):Int->Option (Int×Int):=fun c=>
 bnd (q6l n f c) fun⟨d,a⟩=>
 bif(a != 0)then(
 some ((0:Int),a))
 else(
 b (d,(IntKind.i64.wrap (e+1))))
def qul (n:Nat) (b i:SS):(Int×Int->Option (Int×Int))->Int×Int->Option (Int×Int):=fun c (d,a)=>
 bif(decide (a<((b.length:Nat):Int)))then(
 bnd (q6n n d (10:Int)) fun⟨e,f⟩=>
 bif(f != 0)then(
 some ((0:Int),f))
 else(
 bnd (idx b a) fun g=>
 bif(decide (((b.length:Nat):Int)<((i.length:Nat):Int)))then(
 qq2 n e c a (IntKind.i64.wrap ((0:Int) - (IntKind.i64.wrap (IntKind.u8.wrap (((g.toNat:Nat):Int) - 48))))))
 else(
 qq2 n e c a (IntKind.i64.wrap (IntKind.u8.wrap (((g.toNat:Nat):Int) - 48))))))
 else(
 some (d,(0:Int)))
def qq1 (n:Nat) (b:SS):SS->Option (Int×Int):=fun a=>
 bnd (qxt n a) fun c=>
 bnd (qaw (!(!c)) (idx a (0:Int))) fun d=>
 bif(bif(!c)then true else(bif(((d.toNat:Nat):Int)==48)then(!(b==([48]:SS)))else false))then(
 some ((0:Int),(1:Int)))
 else(
 qan (qul n a b) n ((0:Int),(0:Int)))
def q0p (n:Nat) (a:SS):Option (Int×Int):=
 bnd (qaw (decide (((a.length:Nat):Int)>0)) (idx a (0:Int))) fun b=>
 bif(bif(decide (((a.length:Nat):Int)>0))then(((b.toNat:Nat):Int)==45)else false)then(
 chk (decide (1<=a.length)) (
 qq1 n a (a.drop 1)))
 else(
 qq1 n a a)
theorem q8z (n:Nat):∀ (a:SS) (r:Int×Int),q0p n a=some r->qac Tryz.prog 116 [PV.str a] (zb8 r):=by
 intro a r h;unfold q0p at h;refine qac.of_vcN mixed (fun _ _=>Tryz.call116 _ _) Tryz.func116 (by kernel_rfl) (inl:=[1000000]) ?_;conv=>whnf
 refine qh6.cut (S:=SS) (fun b=>[(0,pS a),(4,pS b)]) (fun b=>[]) (qq1 n a) (r:=r) ?_ ?_
 ·intro b h
  unfold qq1 at h;conv=>whnf
  refine bq h fun _ p h=>?_;refine⟨_,(q6m n _ _ p),?_⟩;conv=>whnf
  refine⟨id,?_⟩;conv=>whnf
  refine bq h fun _ o h=>?_;refine⟨_,fun e=>qdq (qad o e),?_⟩;conv=>whnf
  iterate 6 refine⟨id,?_⟩
  conv=>whnf
  apply ifc h<;>intro d h
  ·obtain rfl:=sj h
   conv=>whnf
   try exact fin
  ·conv=>whnf
   refine qbl.fn [1000000] (S:=Int×Int) (fun(g,c)=>[(0,pS a),(4,pS b),(5,pI g),(6,pI c)]) (fun(g,c)=>[]) (B:=qul n b a) h (wk [] []) ?_;intro t st h;obtain⟨g,c⟩:=st;unfold qul at h;conv=>whnf
   apply ifc h<;>intro d h
   ·conv=>whnf
    refine bq h fun⟨i,_⟩ m h=>?_;refine⟨_,(zdu n _ _ _ m),?_⟩;conv=>whnf
    apply ifc h<;>intro d h
    ·obtain rfl:=sj h
     conv=>whnf
     try exact fin
    ·conv=>whnf
     refine bq h fun j l h=>?_;refine⟨_,qdq l,?_⟩;conv=>whnf
     refine qh6.cut (S:=Int) (fun f=>[(0,pS a),(4,pS b),(6,pI c),(7,pI i),(9,pI f)]) (fun f=>[]) (qq2 n i t c) (r:=r) ?_ ?_
     ·intro f h
      unfold qq2 at h;conv=>whnf
      refine bq h fun⟨u,_⟩ k h=>?_;refine⟨_,(zdt n _ _ _ k),?_⟩;conv=>whnf
      apply ifc h<;>intro d h
      ·obtain rfl:=sj h
       conv=>whnf
       try exact fin
      ·conv=>whnf
       exact⟨(u,(IntKind.i64.wrap (c+1))),h,wk [] []⟩
     ·conv=>whnf
      apply ifc h<;>intro d h
      ·conv=>whnf
       exact⟨(IntKind.i64.wrap ((0:Int) - (IntKind.i64.wrap (IntKind.u8.wrap (((j.toNat:Nat):Int) - 48))))),h,wk [] []⟩
      ·conv=>whnf
       exact⟨(IntKind.i64.wrap (IntKind.u8.wrap (((j.toNat:Nat):Int) - 48))),h,wk [] []⟩
   ·obtain rfl:=sj h
    conv=>whnf
    try exact fin
 ·conv=>whnf
  refine⟨id,?_⟩;conv=>whnf
  refine bq h fun _ s h=>?_;refine⟨_,fun e=>qdq (qad s e),?_⟩;conv=>whnf
  refine⟨id,id,?_⟩;conv=>whnf
  apply ifc h<;>intro d h
  ·conv=>whnf
   refine⟨1,rfl,?_⟩;conv=>whnf
   obtain⟨q,h⟩:=qak h;refine⟨⟨(of_decide_eq_true q:(1<=a.length)),Nat.le_refl _⟩,?_⟩;rw[show List.drop 1 (List.take a.length a)=(a.drop 1)from by rw[List.take_length]];conv=>whnf
   exact⟨(a.drop 1),h,wk [] []⟩
  ·conv=>whnf
   exact⟨a,h,wk [] []⟩
abbrev zd2 (r:Bool):PV:=PV.bool r
def qvb (n:Nat) (a:SS) (b:Int):Option (Bool):=
 bnd (qaw (decide (b<((a.length:Nat):Int))) (idx a b)) fun c=>
 bnd (qaw (bif(decide (b<((a.length:Nat):Int)))then(decide (((c.toNat:Nat):Int)≥128))else false) (idx a b)) fun d=>
 some (bif(bif(decide (b<((a.length:Nat):Int)))then(decide (((c.toNat:Nat):Int)≥128))else false)then(decide (((d.toNat:Nat):Int)<192))else false)
theorem qv2 (n:Nat):∀ (b:SS) (c:Int) (r:Bool),qvb n b c=some r->qac Tryz.prog 150 [PV.str b,PV.int .i64 c] (zd2 r):=by
 intro b c r h;unfold qvb at h;refine qac.of_vcN mixed (fun _ _=>Tryz.call150 _ _) Tryz.func150 (by kernel_rfl) (inl:=[1000000]) ?_;conv=>whnf
 refine⟨id,id,?_⟩;conv=>whnf
 refine bq h fun _ e h=>?_;refine⟨_,fun a=>qdq (qad e a),?_⟩;conv=>whnf
 refine⟨id,id,id,id,?_⟩;conv=>whnf
 refine bq h fun _ d h=>?_;refine⟨_,fun a=>qdq (qad d a),?_⟩;conv=>whnf
 refine⟨id,id,?_⟩;obtain rfl:=sj h;conv=>whnf
 try exact fin
abbrev zd1 (r:Int):PV:=PV.int .i64 r
def q3f (n:Nat) (b:SS) (c:Int):Option (Int):=
 bif(decide (c≥((b.length:Nat):Int)))then(
 some (0:Int))
 else(
 bnd (idx b c) fun a=>
 bif(decide (((a.toNat:Nat):Int)<128))then(
 some (1:Int))
 else(
 bnd (qaw (!(bif(decide (((a.toNat:Nat):Int)<194))then true else(decide (((a.toNat:Nat):Int)>244)))) (qvb n b (IntKind.i64.wrap (c+1)))) fun e=>
 bif(bif(bif(decide (((a.toNat:Nat):Int)<194))then true else(decide (((a.toNat:Nat):Int)>244)))then true else(!e))then(
 some (0:Int))
 else(
 bif(decide (((a.toNat:Nat):Int)<224))then(
 some (2:Int))
 else(
 bnd (idx b (IntKind.i64.wrap (c+1))) fun d=>
 bnd (qvb n b (IntKind.i64.wrap (c+2))) fun f=>
 bif(bif(bif(!f)then true else(bif(((a.toNat:Nat):Int)==224)then(decide (((d.toNat:Nat):Int)<160))else false))then true else(bif(((a.toNat:Nat):Int)==237)then(decide (((d.toNat:Nat):Int)≥160))else false))then(
 some (0:Int))
 else(
 bif(decide (((a.toNat:Nat):Int)<240))then(
 some (3:Int))
 else(
 bnd (qvb n b (IntKind.i64.wrap (c+3))) fun g=>
 bif(bif(bif(!g)then true else(bif(((a.toNat:Nat):Int)==240)then(decide (((d.toNat:Nat):Int)<144))else false))then true else(bif(((a.toNat:Nat):Int)==244)then(decide (((d.toNat:Nat):Int)≥144))else false))then(
 some (0:Int))
 else(
 some (4:Int))))))))
set_option maxHeartbeats 4000000 in
theorem zbk (n:Nat):∀ (b:SS) (c r:Int),q3f n b c=some r->qac Tryz.prog 102 [PV.str b,PV.int .i64 c] (zd1 r):=by
 intro b c r h;unfold q3f at h;refine qac.of_vcN mixed (fun _ _=>Tryz.call102 _ _) Tryz.func102 (by kernel_rfl) (inl:=[1000000]) ?_;conv=>whnf
 apply ifc h<;>intro a h
 ·obtain rfl:=sj h
  conv=>whnf
  try exact fin
 ·conv=>whnf
  refine bq h fun _ i h=>?_;refine⟨_,qdq i,?_⟩;conv=>whnf
  apply ifc h<;>intro a h
  ·obtain rfl:=sj h
   conv=>whnf
   try exact fin
  ·conv=>whnf
   refine⟨id,id,id,id,id,?_⟩;conv=>whnf
   refine bq h fun _ g h=>?_;refine⟨_,fun j=>(qv2 n _ _ _ (qad g j)),?_⟩;conv=>whnf
   refine⟨id,id,?_⟩;conv=>whnf
   apply ifc h<;>intro a h
   ·obtain rfl:=sj h
    conv=>whnf
    try exact fin
   ·conv=>whnf
    apply ifc h<;>intro a h
    ·obtain rfl:=sj h
     conv=>whnf
     try exact fin
    ·conv=>whnf
     refine bq h fun _ f h=>?_;refine⟨_,qdq f,?_⟩;conv=>whnf
     refine bq h fun _ e h=>?_;refine⟨_,(qv2 n _ _ _ e),?_⟩;conv=>whnf
     iterate 12 refine⟨id,?_⟩
     conv=>whnf
     apply ifc h<;>intro a h
     ·obtain rfl:=sj h
      conv=>whnf
      try exact fin
     ·conv=>whnf
      apply ifc h<;>intro a h
      ·obtain rfl:=sj h
       conv=>whnf
       try exact fin
      ·conv=>whnf
       refine bq h fun _ d h=>?_;refine⟨_,(qv2 n _ _ _ d),?_⟩;conv=>whnf
       iterate 12 refine⟨id,?_⟩
       conv=>whnf
       apply ifc h<;>intro a h
       ·obtain rfl:=sj h
        conv=>whnf
        try exact fin
       ·obtain rfl:=sj h
        conv=>whnf
        try exact fin
abbrev zge (r:Int):PV:=PV.int .i64 r
def qu9 (n:Nat) (a:Int):Option (Int):=
 bnd (qkm n a) fun b=>
 bif b then(
 some (IntKind.i64.wrap (IntKind.u8.wrap (a - 48))))
 else(
 bif(bif(decide (a≥97))then(decide (a<=102))else false)then(
 some (IntKind.i64.wrap ((IntKind.i64.wrap (IntKind.u8.wrap (a - 97)))+10)))
 else(
 bif(bif(decide (a≥65))then(decide (a<=70))else false)then(
 some (IntKind.i64.wrap ((IntKind.i64.wrap (IntKind.u8.wrap (a - 65)))+10)))
 else(
 some (-1:Int))))
theorem qt0 (n:Nat):∀ (a r:Int),qu9 n a=some r->qac Tryz.prog 158 [PV.int .u8 a] (zge r):=by
 intro a r h;unfold qu9 at h;refine qac.of_vcN mixed (fun _ _=>Tryz.call158 _ _) Tryz.func158 (by kernel_rfl) (inl:=[1000000]) ?_;conv=>whnf
 refine bq h fun _ c h=>?_;refine⟨_,(qn1 n _ _ c),?_⟩;conv=>whnf
 apply ifc h<;>intro b h
 ·obtain rfl:=sj h
  conv=>whnf
  try exact fin
 ·conv=>whnf
  refine⟨id,id,?_⟩;conv=>whnf
  apply ifc h<;>intro b h
  ·obtain rfl:=sj h
   conv=>whnf
   try exact fin
  ·conv=>whnf
   refine⟨id,id,?_⟩;conv=>whnf
   apply ifc h<;>intro b h
   ·obtain rfl:=sj h
    conv=>whnf
    try exact fin
   ·obtain rfl:=sj h
    conv=>whnf
    try exact fin
abbrev q9t (r:SS×Int×Bool):PV:=PV.tup [PV.str r.1,PV.int .i64 r.2.1,PV.bool r.2.2]
def qpq (n:Nat) (b:SS) (d:UInt8) (e:SS×Int->Option (SS×Int×Bool)) (a:Int) (c:SS):Bool->Option (SS×Int×Bool):=fun i=>
 bif i then(
 chk (decide ((qav (b++[d])).length * 1<=140737488355328)) (
 e ((b++[d]),(IntKind.i64.wrap (a+2)))))
 else(
 bif(((d.toNat:Nat):Int)==110)then(
 chk (decide ((qav (b++[(10:UInt8)])).length * 1<=140737488355328)) (
 e ((b++[(10:UInt8)]),(IntKind.i64.wrap (a+2)))))
 else(
 bif(((d.toNat:Nat):Int)==116)then(
 chk (decide ((qav (b++[(9:UInt8)])).length * 1<=140737488355328)) (
 e ((b++[(9:UInt8)]),(IntKind.i64.wrap (a+2)))))
 else(
 bif(((d.toNat:Nat):Int)==114)then(
 chk (decide ((qav (b++[(13:UInt8)])).length * 1<=140737488355328)) (
 e ((b++[(13:UInt8)]),(IntKind.i64.wrap (a+2)))))
 else(
 bif(((d.toNat:Nat):Int)==120)then(
 bnd (qaw (!(decide ((IntKind.i64.wrap ((IntKind.i64.wrap (a+2))+1))≥((c.length:Nat):Int)))) (idx c (IntKind.i64.wrap (a+2)))) fun j=>
 bnd (qaw (!(decide ((IntKind.i64.wrap ((IntKind.i64.wrap (a+2))+1))≥((c.length:Nat):Int)))) (qu9 n ((j.toNat:Nat):Int))) fun f=>
 bnd (qaw (!(bif(decide ((IntKind.i64.wrap ((IntKind.i64.wrap (a+2))+1))≥((c.length:Nat):Int)))then true else(decide (f<0)))) (idx c (IntKind.i64.wrap ((IntKind.i64.wrap (a+2))+1)))) fun k=>
 bnd (qaw (!(bif(decide ((IntKind.i64.wrap ((IntKind.i64.wrap (a+2))+1))≥((c.length:Nat):Int)))then true else(decide (f<0)))) (qu9 n ((k.toNat:Nat):Int))) fun l=>
 bif(bif(bif(decide ((IntKind.i64.wrap ((IntKind.i64.wrap (a+2))+1))≥((c.length:Nat):Int)))then true else(decide (f<0)))then true else(decide (l<0)))then(
 some (([]:SS),(0:Int),false))
 else(
 bnd (idx c (IntKind.i64.wrap (a+2))) fun m=>
 bnd (qu9 n ((m.toNat:Nat):Int)) fun o=>
 bnd (idx c (IntKind.i64.wrap ((IntKind.i64.wrap (a+2))+1))) fun p=>
 bnd (qu9 n ((p.toNat:Nat):Int)) fun q=>
 bnd (u8I (IntKind.u8.wrap (IntKind.i64.wrap ((IntKind.i64.wrap (o * (16:Int)))+q)))) fun g=>
 chk (decide ((qav (b++[g])).length * 1<=140737488355328)) (
 e ((b++[g]),(IntKind.i64.wrap ((IntKind.i64.wrap (a+2))+2))))))
 else(
 some (([]:SS),(0:Int),false))))))
def qs2 (n:Nat) (b:SS):(SS×Int->Option (SS×Int×Bool))->SS×Int->Option (SS×Int×Bool):=fun g (d,a)=>
 bif(decide (a<((b.length:Nat):Int)))then(
 bnd (idx b a) fun e=>
 bnd (q3f n b a) fun i=>
 bif(((e.toNat:Nat):Int)==39)then(
 some (d,(IntKind.i64.wrap (a+1)),true))
 else(
 bif(bif(bif(i==0)then true else(decide (((e.toNat:Nat):Int)<32)))then true else(((e.toNat:Nat):Int)==127))then(
 some (([]:SS),(0:Int),false))
 else(
 bif(((e.toNat:Nat):Int) != 92)then(
 bnd (qxb (IntKind.i64.wrap (a+i))) fun f=>
 bnd (qxb a) fun j=>
 chk (decide (j<=f/\f<=b.length)) (
 chk (decide ((qav (d++((b.take f).drop j))).length * 1<=140737488355328)) (
 g ((d++((b.take f).drop j)),(IntKind.i64.wrap (a+i))))))
 else(
 bif(decide ((IntKind.i64.wrap (a+1))≥((b.length:Nat):Int)))then(
 some (([]:SS),(0:Int),false))
 else(
 bnd (idx b (IntKind.i64.wrap (a+1))) fun c=>
 bif(((c.toNat:Nat):Int)==92)then(
 qpq n d c g a b (((c.toNat:Nat):Int)==92))
 else(
 qpq n d c g a b (((c.toNat:Nat):Int)==39)))))))
 else(
 some (([]:SS),(0:Int),false))
def qxu (n:Nat) (a:SS) (b:Int):Option (SS×Int×Bool):=
 bnd (qaw (!(decide (b≥((a.length:Nat):Int)))) (idx a b)) fun c=>
 bif(bif(decide (b≥((a.length:Nat):Int)))then true else(((c.toNat:Nat):Int) != 39))then(
 some (([]:SS),(0:Int),false))
 else(
 qan (qs2 n a) n (([]:List _),(IntKind.i64.wrap (b+1))))
set_option maxHeartbeats 4000000 in
theorem q6q (n:Nat):∀ (b:SS) (l:Int) (r:SS×Int×Bool),qxu n b l=some r->qac Tryz.prog 117 [PV.str b,PV.int .i64 l] (q9t r):=by
 intro b l r h;unfold qxu at h;refine qac.of_vcN mixed (fun _ _=>Tryz.call117 _ _) Tryz.func117 (by kernel_rfl) (inl:=[40000033,1000000]) ?_;conv=>whnf
 refine⟨id,id,?_⟩;conv=>whnf
 refine bq h fun _ I h=>?_;refine⟨_,fun f=>qdq (qad I f),?_⟩;conv=>whnf
 refine⟨id,id,?_⟩;conv=>whnf
 apply ifc h<;>intro c h
 ·obtain rfl:=sj h
  conv=>whnf
  try exact fin
 ·conv=>whnf
  refine qbl.fn [40000033,1000000] (S:=SS×Int) (fun(a,e)=>[(0,pS b),(7,.tsl 0 (qav a)),(8,pI e)]) (fun(a,e)=>[.tail 5 1 (qav a).length]) (B:=qs2 n b) h (wk [0] [0]) ?_;intro M st h;obtain⟨a,e⟩:=st;unfold qs2 at h;conv=>whnf
  apply ifc h<;>intro c h
  ·conv=>whnf
   refine bq h fun _ H h=>?_;refine⟨_,qdq H,?_⟩;conv=>whnf
   refine bq h fun P G h=>?_;refine⟨_,(zbk n _ _ _ G),?_⟩;conv=>whnf
   apply ifc h<;>intro c h
   ·conv=>whnf
    refine⟨_,rfl,?_⟩;obtain rfl:=sj h;conv=>whnf
    try exact fin
   ·conv=>whnf
    refine⟨id,id,id,id,?_⟩;conv=>whnf
    apply ifc h<;>intro c h
    ·obtain rfl:=sj h
     conv=>whnf
     try exact fin
    ·conv=>whnf
     apply ifc h<;>intro c h
     ·conv=>whnf
      refine bq h fun g K h=>?_;refine⟨_,qdu K,?_⟩;conv=>whnf
      refine bq h fun j J h=>?_;refine⟨_,qdu J,?_⟩;conv=>whnf
      obtain⟨q,h⟩:=qak h;refine⟨⟨(of_decide_eq_true q:(j<=g/\g<=b.length)).1,(of_decide_eq_true q:(j<=g/\g<=b.length)).2⟩,?_⟩;conv=>whnf
      rw[show qav a++qav ((b.take g).drop j)=qav (a++((b.take g).drop j))from Codec.append qdj a ((b.take g).drop j)];conv=>whnf
      obtain⟨m,h⟩:=qak h;refine⟨⟨Codec.wide qdj a,of_decide_eq_true m,qcb m (by decide)⟩,?_⟩;conv=>whnf
      refine⟨⟨rfl,rfl,rfl⟩,?_⟩;conv=>whnf
      exact⟨((a++((b.take g).drop j)),(IntKind.i64.wrap (e+P))),h,wk [1] []⟩
     ·conv=>whnf
      apply ifc h<;>intro c h
      ·obtain rfl:=sj h
       conv=>whnf
       try exact fin
      ·conv=>whnf
       refine bq h fun d F h=>?_;refine⟨_,qdq F,?_⟩;conv=>whnf
       refine qh6.cut (S:=Bool) (fun k=>[(0,pS b),(7,.tsl 0 (qav a)),(8,.p (.int .i64 (IntKind.i64.wrap (e+2)))),(11,.p (.int .u8 ((d.toNat:Nat):Int))),(74,.p (.int .u8 ((d.toNat:Nat):Int))),(75,pB k)]) (fun k=>[.tail 5 1 (qav a).length]) (qpq n a d M e b) (r:=r) ?_ ?_
       ·intro k h
        unfold qpq at h;conv=>whnf
        apply ifc h<;>intro c h
        ·conv=>whnf
         refine⟨Codec.one qdj [d],qav [d],.inl rfl,?_⟩;conv=>whnf
         rw[show qav a++qav [d]=qav (a++[d])from Codec.append qdj a [d]];conv=>whnf
         obtain⟨s,h⟩:=qak h;refine⟨⟨Codec.wide qdj (a++[d]),of_decide_eq_true s,qcb s (by decide)⟩,?_⟩;conv=>whnf
         refine⟨⟨rfl,rfl,rfl⟩,?_⟩;conv=>whnf
         exact⟨((a++[d]),(IntKind.i64.wrap (e+2))),h,wk [1] []⟩
        ·conv=>whnf
         apply ifc h<;>intro c h
         ·conv=>whnf
          refine⟨Codec.one qdj [(10:UInt8)],qav [(10:UInt8)],.inl rfl,?_⟩;conv=>whnf
          rw[show qav a++qav [(10:UInt8)]=qav (a++[(10:UInt8)])from Codec.append qdj a [(10:UInt8)]];conv=>whnf
          obtain⟨t,h⟩:=qak h;refine⟨⟨Codec.wide qdj (a++[(10:UInt8)]),of_decide_eq_true t,qcb t (by decide)⟩,?_⟩;conv=>whnf
          refine⟨⟨rfl,rfl,rfl⟩,?_⟩;conv=>whnf
          exact⟨((a++[(10:UInt8)]),(IntKind.i64.wrap (e+2))),h,wk [1] []⟩
         ·conv=>whnf
          apply ifc h<;>intro c h
          ·conv=>whnf
           refine⟨Codec.one qdj [(9:UInt8)],qav [(9:UInt8)],.inl rfl,?_⟩;conv=>whnf
           rw[show qav a++qav [(9:UInt8)]=qav (a++[(9:UInt8)])from Codec.append qdj a [(9:UInt8)]];conv=>whnf
           obtain⟨u,h⟩:=qak h;refine⟨⟨Codec.wide qdj (a++[(9:UInt8)]),of_decide_eq_true u,qcb u (by decide)⟩,?_⟩;conv=>whnf
           refine⟨⟨rfl,rfl,rfl⟩,?_⟩;conv=>whnf
           exact⟨((a++[(9:UInt8)]),(IntKind.i64.wrap (e+2))),h,wk [1] []⟩
          ·conv=>whnf
           apply ifc h<;>intro c h
           ·conv=>whnf
            refine⟨Codec.one qdj [(13:UInt8)],qav [(13:UInt8)],.inl rfl,?_⟩;conv=>whnf
            rw[show qav a++qav [(13:UInt8)]=qav (a++[(13:UInt8)])from Codec.append qdj a [(13:UInt8)]];conv=>whnf
            obtain⟨v,h⟩:=qak h;refine⟨⟨Codec.wide qdj (a++[(13:UInt8)]),of_decide_eq_true v,qcb v (by decide)⟩,?_⟩;conv=>whnf
            refine⟨⟨rfl,rfl,rfl⟩,?_⟩;conv=>whnf
            exact⟨((a++[(13:UInt8)]),(IntKind.i64.wrap (e+2))),h,wk [1] []⟩
           ·conv=>whnf
            apply ifc h<;>intro c h
            ·conv=>whnf
             refine⟨id,id,?_⟩;conv=>whnf
             refine bq h fun _ E h=>?_;refine⟨_,fun f=>qdq (qad E f),?_⟩;conv=>whnf
             refine⟨id,?_⟩;conv=>whnf
             refine bq h fun _ D h=>?_;refine⟨_,fun f=>(qt0 n _ _ (qad D f)),?_⟩;conv=>whnf
             refine⟨id,id,id,id,id,?_⟩;conv=>whnf
             refine bq h fun _ C h=>?_;refine⟨_,fun f=>qdq (qad C f),?_⟩;conv=>whnf
             refine⟨id,?_⟩;conv=>whnf
             refine bq h fun _ A h=>?_;refine⟨_,fun f=>(qt0 n _ _ (qad A f)),?_⟩;conv=>whnf
             refine⟨id,id,?_⟩;conv=>whnf
             apply ifc h<;>intro c h
             ·obtain rfl:=sj h
              conv=>whnf
              try exact fin
             ·conv=>whnf
              refine bq h fun _ z h=>?_;refine⟨_,qdq z,?_⟩;conv=>whnf
              refine bq h fun N y h=>?_;refine⟨_,(qt0 n _ _ y),?_⟩;conv=>whnf
              refine bq h fun _ x h=>?_;refine⟨_,qdq x,?_⟩;conv=>whnf
              refine bq h fun O w h=>?_;refine⟨_,(qt0 n _ _ w),?_⟩;conv=>whnf
              refine bq h fun i L h=>?_;rw[show([[PV.int .u8 (IntKind.u8.wrap (IntKind.i64.wrap ((IntKind.i64.wrap (N * (16:Int)))+O)))]]:List (List PV))=qav [i]from by rw[qex L]; rfl];refine⟨Codec.one qdj [i],_,.inl rfl,?_⟩;conv=>whnf
              rw[show qav a++qav [i]=qav (a++[i])from Codec.append qdj a [i]];conv=>whnf
              obtain⟨o,h⟩:=qak h;refine⟨⟨Codec.wide qdj (a++[i]),of_decide_eq_true o,qcb o (by decide)⟩,?_⟩;conv=>whnf
              refine⟨⟨rfl,rfl,rfl⟩,?_⟩;conv=>whnf
              exact⟨((a++[i]),(IntKind.i64.wrap ((IntKind.i64.wrap (e+2))+2))),h,wk [1] []⟩
            ·obtain rfl:=sj h
             conv=>whnf
             try exact fin
       ·conv=>whnf
        apply ifc h<;>intro c h
        ·conv=>whnf
         exact⟨(((d.toNat:Nat):Int)==92),h,wk [0] []⟩
        ·conv=>whnf
         exact⟨(((d.toNat:Nat):Int)==39),h,wk [0] []⟩
  ·obtain rfl:=sj h
   conv=>whnf
   try exact fin
abbrev zd5 (r:SS):PV:=PV.str r
def qv5 (n:Nat) (c:SS) (d e:Nat):(Int->Option SS)->Int->Option SS:=fun g a=>
 bif(decide (a<((([40,41,91,93,123,125,44,58,46,43,45,42,47,37,61,60,62,36]:SS).length:Nat):Int)))then(
 bnd (qxb (IntKind.i64.wrap (a+1))) fun b=>
 bnd (qxb a) fun f=>
 chk (decide (f<=b/\b<=([40,41,91,93,123,125,44,58,46,43,45,42,47,37,61,60,62,36]:SS).length)) (
 bif(((([40,41,91,93,123,125,44,58,46,43,45,42,47,37,61,60,62,36]:SS).take b).drop f)==((c.take d).drop e))then(
 some ((c.take d).drop e))
 else(
 g (IntKind.i64.wrap (a+1)))))
 else(
 some ([]:SS))
def qsf (n:Nat) (d:Int) (c:SS):SS->Option SS:=fun a=>
 bif(bif(bif(a==([60,61]:SS))then true else(a==([62,61]:SS)))then true else(a==([60,62]:SS)))then(
 some a)
 else(
 bnd (qxb (IntKind.i64.wrap (d+1))) fun b=>
 bnd (qxb d) fun e=>
 chk (decide (e<=b/\b<=c.length)) (
 qan (qv5 n c b e) n (0:Int)))
def q3h (n:Nat) (a:SS) (b:Int):Option SS:=
 bif(decide ((IntKind.i64.wrap (b+1))<((a.length:Nat):Int)))then(
 bnd (qxb (IntKind.i64.wrap (b+2))) fun c=>
 bnd (qxb b) fun d=>
 chk (decide (d<=c/\c<=a.length)) (
 qsf n b a ((a.take c).drop d)))
 else(
 qsf n b a ([]:SS))
theorem zbn (n:Nat):∀ (a:SS) (c:Int) (r:SS),q3h n a c=some r->qac Tryz.prog 118 [PV.str a,PV.int .i64 c] (zd5 r):=by
 intro a c r h;unfold q3h at h;refine qac.of_vcN mixed (fun _ _=>Tryz.call118 _ _) Tryz.func118 (by kernel_rfl) (inl:=[1000000]) ?_;conv=>whnf
 refine qh6.cut (S:=SS) (fun k=>[(0,pS a),(1,pI c),(5,pS k)]) (fun k=>[]) (qsf n c a) (r:=r) ?_ ?_
 ·intro k h
  unfold qsf at h;conv=>whnf
  refine⟨id,id,id,id,?_⟩;conv=>whnf
  apply ifc h<;>intro i h
  ·obtain rfl:=sj h
   conv=>whnf
   try exact fin
  ·conv=>whnf
   refine bq h fun b v h=>?_;refine⟨_,qdu v,?_⟩;conv=>whnf
   refine bq h fun e u h=>?_;refine⟨_,qdu u,?_⟩;conv=>whnf
   obtain⟨m,h⟩:=qak h;refine⟨⟨(of_decide_eq_true m:(e<=b/\b<=a.length)).1,(of_decide_eq_true m:(e<=b/\b<=a.length)).2⟩,?_⟩;conv=>whnf
   refine qbl.fn [1000000] (S:=Int) (fun f=>[(6,.p (.str ((a.take b).drop e))),(7,.p (.str ([40,41,91,93,123,125,44,58,46,43,45,42,47,37,61,60,62,36]:SS))),(8,pI f)]) (fun f=>[]) (B:=qv5 n a b e) h (wk [] []) ?_;intro _ f h;unfold qv5 at h;conv=>whnf
   apply ifc h<;>intro i h
   ·conv=>whnf
    refine bq h fun g t h=>?_;refine⟨_,qdu t,?_⟩;conv=>whnf
    refine bq h fun q s h=>?_;refine⟨_,qdu s,?_⟩;conv=>whnf
    obtain⟨l,h⟩:=qak h;refine⟨⟨(of_decide_eq_true l:(q<=g/\g<=([40,41,91,93,123,125,44,58,46,43,45,42,47,37,61,60,62,36]:SS).length)).1,(of_decide_eq_true l:(q<=g/\g<=([40,41,91,93,123,125,44,58,46,43,45,42,47,37,61,60,62,36]:SS).length)).2⟩,?_⟩;conv=>whnf
    apply ifc h<;>intro i h
    ·obtain rfl:=sj h
     conv=>whnf
     try exact fin
    ·conv=>whnf
     exact⟨(IntKind.i64.wrap (f+1)),h,wk [] []⟩
   ·obtain rfl:=sj h
    conv=>whnf
    try exact fin
 ·conv=>whnf
  apply ifc h<;>intro i h
  ·conv=>whnf
   refine bq h fun d x h=>?_;refine⟨_,qdu x,?_⟩;conv=>whnf
   refine bq h fun j w h=>?_;refine⟨_,qdu w,?_⟩;conv=>whnf
   obtain⟨o,h⟩:=qak h;refine⟨⟨(of_decide_eq_true o:(j<=d/\d<=a.length)).1,(of_decide_eq_true o:(j<=d/\d<=a.length)).2⟩,?_⟩;conv=>whnf
   exact⟨((a.take d).drop j),h,wk [] []⟩
  ·conv=>whnf
   exact⟨([]:SS),h,wk [] []⟩
abbrev zgf (r:qao×Int×Int):PV:=PV.tup [PV.agg (qrw.cells r.1),PV.int .i64 r.2.1,PV.int .i64 r.2.2]
def ql9 (n:Nat) (a:Int):Int×Int×SS×Int->Option (qao×Int×Int):=fun(b,c,d,e)=>
 some (qao.mk c d e a,b,(0:Int))
def qxv (n:Nat) (b:SS) (c:Int):(Int->Option (qao×Int×Int))->Int->Option (qao×Int×Int):=fun j a=>
 bnd (qaw (decide (a<((b.length:Nat):Int))) (idx b a)) fun k=>
 bnd (qaw (decide (a<((b.length:Nat):Int))) (qil n ((k.toNat:Nat):Int))) fun d=>
 bnd (qaw ((decide (a<((b.length:Nat):Int)))&&(!d)) (idx b a)) fun l=>
 bnd (qaw ((decide (a<((b.length:Nat):Int)))&&(!d)) (qkm n ((l.toNat:Nat):Int))) fun m=>
 bif(bif(decide (a<((b.length:Nat):Int)))then(bif d then true else m)else false)then(
 j (IntKind.i64.wrap (a+1)))
 else(
 bif(decide ((IntKind.i64.wrap (a - c))>64))then(
 some (qao.mk (0:Int) ([]:SS) (0:Int) c,(0:Int),(1:Int)))
 else(
 bnd (qxb a) fun e=>
 bnd (qxb c) fun g=>
 chk (decide (g<=e/\e<=b.length)) (
 bnd (qss n ((b.take e).drop g)) fun⟨o,p⟩=>
 bnd (qxb a) fun f=>
 bnd (qxb c) fun i=>
 chk (decide (i<=f/\f<=b.length)) (
 bif p then(
 ql9 n c (a,(2:Int),o,(0:Int)))
 else(
 ql9 n c (a,(1:Int),((b.take f).drop i),(0:Int)))))))
def qxw (n:Nat) (b:SS) (c:Int):(Int->Option (qao×Int×Int))->Int->Option (qao×Int×Int):=fun g a=>
 bnd (qaw (decide (a<((b.length:Nat):Int))) (idx b a)) fun i=>
 bnd (qaw (decide (a<((b.length:Nat):Int))) (qkm n ((i.toNat:Nat):Int))) fun j=>
 bif(bif(decide (a<((b.length:Nat):Int)))then j else false)then(
 g (IntKind.i64.wrap (a+1)))
 else(
 bnd (qxb a) fun d=>
 bnd (qxb c) fun e=>
 chk (decide (e<=d/\d<=b.length)) (
 bnd (q0p n ((b.take d).drop e)) fun⟨k,f⟩=>
 bif(f != 0)then(
 some (qao.mk (0:Int) ([]:SS) (0:Int) c,(0:Int),f))
 else(
 ql9 n c (a,(3:Int),([]:SS),k))))
def q6r (n:Nat) (b:SS) (a:Int):Option (qao×Int×Int):=
 bnd (idx b a) fun d=>
 bnd (qil n ((d.toNat:Nat):Int)) fun j=>
 bif j then(
 qan (qxv n b a) n (IntKind.i64.wrap (a+1)))
 else(
 bnd (qkm n ((d.toNat:Nat):Int)) fun e=>
 bif e then(
 qan (qxw n b a) n (IntKind.i64.wrap (a+1)))
 else(
 bif(((d.toNat:Nat):Int)==39)then(
 bnd (qxu n b a) fun⟨f,g,i⟩=>
 bif(!i)then(
 some (qao.mk (0:Int) ([]:SS) (0:Int) a,(0:Int),(1:Int)))
 else(
 ql9 n a (g,(4:Int),f,(0:Int))))
 else(
 bnd (q3h n b a) fun c=>
 bif(c==([]:SS))then(
 some (qao.mk (5:Int) c (0:Int) a,(0:Int),(1:Int)))
 else(
 ql9 n a ((IntKind.i64.wrap (a+((c.length:Nat):Int))),(5:Int),c,(0:Int))))))
set_option maxHeartbeats 4000000 in
theorem zdx (n:Nat):∀ (a:SS) (b:Int) (r:qao×Int×Int),q6r n a b=some r->qac Tryz.prog 73 [PV.str a,PV.int .i64 b] (zgf r):=by
 intro a b r h;unfold q6r at h;refine qac.of_vcN mixed (fun _ _=>Tryz.call73 _ _) Tryz.func73 (by kernel_rfl) (inl:=[1000000]) ?_;conv=>whnf
 refine bq h fun _ K h=>?_;refine⟨_,qdq K,?_⟩;conv=>whnf
 refine qh6.cut (S:=Int×Int×SS×Int) (fun(l,m,o,p)=>[(4,.ptr 0 0),(7,.ptr 1 0),(9,pI l)]) (fun(l,m,o,p)=>[.box 115 [zq0,zq1,zq0,zq0],.box 115 [pI m,pS o,pI p,pI b]]) (ql9 n b) (r:=r) ?_ ?_
 ·intro st h
  obtain⟨l,m,o,p⟩:=st;unfold ql9 at h;obtain rfl:=sj h;conv=>whnf
  try exact fin
 ·conv=>whnf
  refine bq h fun _ J h=>?_;refine⟨_,(qpp n _ _ J),?_⟩;conv=>whnf
  apply ifc h<;>intro d h
  ·conv=>whnf
   refine qbl.fn [1000000] (S:=Int) (fun e=>[(0,pS a),(1,pI b),(4,.ptr 0 0),(7,.ptr 1 0),(9,pI e)]) (fun e=>[.box 115 [zq0,zq1,zq0,zq0],.box 115 [zq0,zq1,zq0,pI b]]) (B:=qxv n a b) h (wk [0,1] []) ?_;intro _ e h;unfold qxv at h;conv=>whnf
   refine⟨id,id,?_⟩;conv=>whnf
   refine bq h fun _ y h=>?_;refine⟨_,fun c=>qdq (qad y c),?_⟩;conv=>whnf
   refine⟨id,?_⟩;conv=>whnf
   refine bq h fun _ x h=>?_;refine⟨_,fun c=>(qpp n _ _ (qad x c)),?_⟩;conv=>whnf
   refine⟨id,id,id,?_⟩;conv=>whnf
   refine bq h fun _ Q h=>?_;refine⟨_,fun c=>qdq (qad Q c),?_⟩;conv=>whnf
   refine⟨id,?_⟩;conv=>whnf
   refine bq h fun _ P h=>?_;refine⟨_,fun c=>(qn1 n _ _ (qad P c)),?_⟩;conv=>whnf
   refine⟨id,id,id,?_⟩;conv=>whnf
   apply ifc h<;>intro d h
   ·conv=>whnf
    exact⟨(IntKind.i64.wrap (e+1)),h,wk [0,1] []⟩
   ·conv=>whnf
    apply ifc h<;>intro d h
    ·obtain rfl:=sj h
     conv=>whnf
     try exact fin
    ·conv=>whnf
     refine bq h fun i O h=>?_;refine⟨_,qdu O,?_⟩;conv=>whnf
     refine bq h fun u N h=>?_;refine⟨_,qdu N,?_⟩;conv=>whnf
     obtain⟨t,h⟩:=qak h;refine⟨⟨(of_decide_eq_true t:(u<=i/\i<=a.length)).1,(of_decide_eq_true t:(u<=i/\i<=a.length)).2⟩,?_⟩;conv=>whnf
     refine bq h fun⟨R,_⟩ M h=>?_;refine⟨_,(q1y n _ _ M),?_⟩;conv=>whnf
     refine bq h fun f L h=>?_;refine⟨_,qdu L,?_⟩;conv=>whnf
     refine bq h fun k H h=>?_;refine⟨_,qdu H,?_⟩;conv=>whnf
     obtain⟨q,h⟩:=qak h;refine⟨⟨(of_decide_eq_true q:(k<=f/\f<=a.length)).1,(of_decide_eq_true q:(k<=f/\f<=a.length)).2⟩,?_⟩;conv=>whnf
     apply ifc h<;>intro d h
     ·conv=>whnf
      exact⟨(e,(2:Int),R,(0:Int)),h,wk [0,1] []⟩
     ·conv=>whnf
      exact⟨(e,(1:Int),((a.take f).drop k),(0:Int)),h,wk [0,1] []⟩
  ·conv=>whnf
   refine bq h fun _ I h=>?_;refine⟨_,(qn1 n _ _ I),?_⟩;conv=>whnf
   apply ifc h<;>intro d h
   ·conv=>whnf
    refine qbl.fn [1000000] (S:=Int) (fun g=>[(0,pS a),(1,pI b),(4,.ptr 0 0),(7,.ptr 1 0),(9,pI g)]) (fun g=>[.box 115 [zq0,zq1,zq0,zq0],.box 115 [zq0,zq1,zq0,pI b]]) (B:=qxw n a b) h (wk [0,1] []) ?_;intro _ g h;unfold qxw at h;conv=>whnf
    refine⟨id,id,?_⟩;conv=>whnf
    refine bq h fun _ E h=>?_;refine⟨_,fun c=>qdq (qad E c),?_⟩;conv=>whnf
    refine⟨id,?_⟩;conv=>whnf
    refine bq h fun _ D h=>?_;refine⟨_,fun c=>(qn1 n _ _ (qad D c)),?_⟩;conv=>whnf
    refine⟨id,?_⟩;conv=>whnf
    apply ifc h<;>intro d h
    ·conv=>whnf
     exact⟨(IntKind.i64.wrap (g+1)),h,wk [0,1] []⟩
    ·conv=>whnf
     refine bq h fun j C h=>?_;refine⟨_,qdu C,?_⟩;conv=>whnf
     refine bq h fun v A h=>?_;refine⟨_,qdu A,?_⟩;conv=>whnf
     obtain⟨s,h⟩:=qak h;refine⟨⟨(of_decide_eq_true s:(v<=j/\j<=a.length)).1,(of_decide_eq_true s:(v<=j/\j<=a.length)).2⟩,?_⟩;conv=>whnf
     refine bq h fun⟨T,_⟩ z h=>?_;refine⟨_,(q8z n _ _ z),?_⟩;conv=>whnf
     apply ifc h<;>intro d h
     ·obtain rfl:=sj h
      conv=>whnf
      try exact fin
     ·conv=>whnf
      exact⟨(g,(3:Int),([]:SS),T),h,wk [0,1] []⟩
   ·conv=>whnf
    apply ifc h<;>intro d h
    ·conv=>whnf
     refine bq h fun⟨U,V,_⟩ F h=>?_;refine⟨_,(q6q n _ _ _ F),?_⟩;conv=>whnf
     apply ifc h<;>intro d h
     ·obtain rfl:=sj h
      conv=>whnf
      try exact fin
     ·conv=>whnf
      exact⟨(V,(4:Int),U,(0:Int)),h,wk [0,1] []⟩
    ·conv=>whnf
     refine bq h fun w G h=>?_;refine⟨_,(zbn n _ _ _ G),?_⟩;conv=>whnf
     apply ifc h<;>intro d h
     ·obtain rfl:=sj h
      conv=>whnf
      try exact fin
     ·conv=>whnf
      exact⟨((IntKind.i64.wrap (b+((w.length:Nat):Int))),(5:Int),w,(0:Int)),h,wk [0,1] []⟩
abbrev zd3 (r:List qao×Int×Int):PV:=PV.tup [PV.sl (qao.rows r.1),PV.int .i64 r.2.1,PV.int .i64 r.2.2]
def qse (n:Nat) (b:List qao) (g:Int) (f:List qao×Int->Option (List qao×Int×Int)):Int×Int×SS×Int×Int->Option (List qao×Int×Int):=fun(i,a,c,d,e)=>
 bif(decide (((qao.rows b).length:Int)≥4096))then(
 some (([]:List qao),g,(8:Int)))
 else(
 chk (decide ((qao.rows (b++[qao.mk a c d e])).length * 40<=140737488355328)) (
 bif(a==6)then(
 some ((b++[qao.mk a c d e]),(0:Int),(0:Int)))
 else(
 f ((b++[qao.mk a c d e]),i))))
def qv4 (n:Nat) (b:SS) (g:List qao) (e:List qao×Int->Option (List qao×Int×Int)):(Int->Option (List qao×Int×Int))->Int->Option (List qao×Int×Int):=fun j a=>
 bnd (qaw (decide (a<((b.length:Nat):Int))) (idx b a)) fun c=>
 bnd (qaw ((decide (a<((b.length:Nat):Int)))&&(!(((c.toNat:Nat):Int)==32))) (idx b a)) fun d=>
 bnd (qaw ((decide (a<((b.length:Nat):Int)))&&(!(bif(((c.toNat:Nat):Int)==32)then true else(((d.toNat:Nat):Int)==9)))) (idx b a)) fun i=>
 bnd (qaw ((decide (a<((b.length:Nat):Int)))&&(!(bif(bif(((c.toNat:Nat):Int)==32)then true else(((d.toNat:Nat):Int)==9))then true else(((i.toNat:Nat):Int)==10)))) (idx b a)) fun q=>
 bif(bif(decide (a<((b.length:Nat):Int)))then(bif(bif(bif(((c.toNat:Nat):Int)==32)then true else(((d.toNat:Nat):Int)==9))then true else(((i.toNat:Nat):Int)==10))then true else(((q.toNat:Nat):Int)==13))else false)then(
 j (IntKind.i64.wrap (a+1)))
 else(
 bif(decide (a<((b.length:Nat):Int)))then(
 bnd (q6r n b a) fun⟨⟨k,l,m,o⟩,p,f⟩=>
 bif(f != 0)then(
 some (([]:List qao),a,f))
 else(
 qse n g a e (p,k,l,m,o)))
 else(
 qse n g a e (a,(6:Int),([]:SS),(0:Int),a)))
def qv3 (n:Nat) (b:SS):(List qao×Int->Option (List qao×Int×Int))->List qao×Int->Option (List qao×Int×Int):=fun a (c,d)=>
 qan (qv4 n b c a) n d
def q3g (n:Nat) (a:SS):Option (List qao×Int×Int):=
 bif(decide (((a.length:Nat):Int)>16384))then(
 some (([]:List qao),(0:Int),(8:Int)))
 else(
 qan (qv3 n a) n (([]:List _),(0:Int)))
set_option maxHeartbeats 4000000 in
theorem zbl (n:Nat):∀ (f:SS) (r:List qao×Int×Int),q3g n f=some r->qac Tryz.prog 46 [PV.str f] (zd3 r):=by
 intro f r h;unfold q3g at h;refine qac.of_vcN mixed (fun _ _=>Tryz.call46 _ _) Tryz.func46 (by kernel_rfl) (inl:=[1000000]) ?_;conv=>whnf
 apply ifc h<;>intro j h
 ·obtain rfl:=sj h
  conv=>whnf
  try exact fin
 ·conv=>whnf
  refine qbl.fn [1000000] (S:=List qao×Int) (fun(a,l)=>[(0,pS f),(5,.tsl 0 (qao.rows a)),(6,pI l)]) (fun(a,l)=>[.tail 115 4 (qao.rows a).length]) (B:=qv3 n f) h (wk [0] [0]) ?_;intro o st h;obtain⟨a,l⟩:=st;unfold qv3 at h;conv=>whnf
  refine qbl.fn [1000000] (S:=Int) (fun g=>[(0,pS f),(5,.tsl 0 (qao.rows a)),(6,pI g)]) (fun g=>[.tail 115 4 (qao.rows a).length]) (B:=qv4 n f a o) h (wk [0] []) ?_;intro _ g h;unfold qv4 at h;conv=>whnf
  refine⟨id,id,?_⟩;conv=>whnf
  refine bq h fun _ u h=>?_;refine⟨_,fun i=>qdq (qad u i),?_⟩;conv=>whnf
  refine⟨id,id,id,id,?_⟩;conv=>whnf
  refine bq h fun _ t h=>?_;refine⟨_,fun i=>qdq (qad t i),?_⟩;conv=>whnf
  iterate 6 refine⟨id,?_⟩
  conv=>whnf
  refine bq h fun _ s h=>?_;refine⟨_,fun i=>qdq (qad s i),?_⟩;conv=>whnf
  iterate 6 refine⟨id,?_⟩
  conv=>whnf
  refine bq h fun _ q h=>?_;refine⟨_,fun i=>qdq (qad q i),?_⟩;conv=>whnf
  refine⟨id,id,id,id,?_⟩;conv=>whnf
  apply ifc h<;>intro j h
  ·conv=>whnf
   exact⟨(IntKind.i64.wrap (g+1)),h,wk [0] []⟩
  ·conv=>whnf
   refine qh6.cut (S:=Int×Int×SS×Int×Int) (fun(k,b,c,d,e)=>[(0,pS f),(5,.tsl 0 (qao.rows a)),(6,pI g),(7,.ptr 1 0),(8,pI k)]) (fun(k,b,c,d,e)=>[.tail 115 4 (qao.rows a).length,.box 115 [pI b,pS c,pI d,pI e]]) (qse n a g o) (r:=r) ?_ ?_
   ·intro st h
    obtain⟨k,b,c,d,e⟩:=st;unfold qse at h;conv=>whnf
    apply ifc h<;>intro j h
    ·obtain rfl:=sj h
     conv=>whnf
     try exact fin
    ·conv=>whnf
     refine⟨Codec.one qrw [qao.mk b c d e],qao.rows [qao.mk b c d e],.inl rfl,?_⟩;conv=>whnf
     rw[show qao.rows a++qao.rows [qao.mk b c d e]=qao.rows (a++[qao.mk b c d e])from Codec.append qrw a [qao.mk b c d e]];conv=>whnf
     obtain⟨m,h⟩:=qak h;refine⟨⟨Codec.wide qrw (a++[qao.mk b c d e]),of_decide_eq_true m,qcb m (by decide)⟩,?_⟩;conv=>whnf
     refine⟨⟨rfl,rfl,rfl⟩,?_⟩;conv=>whnf
     apply ifc h<;>intro j h
     ·obtain rfl:=sj h
      conv=>whnf
      try exact fin
     ·conv=>whnf
      exact⟨((a++[qao.mk b c d e]),k),h,wk [2] []⟩
   ·conv=>whnf
    apply ifc h<;>intro j h
    ·conv=>whnf
     refine bq h fun⟨⟨v,w,x,y⟩,z,_⟩ p h=>?_;refine⟨_,(zdx n _ _ _ p),?_⟩;conv=>whnf
     apply ifc h<;>intro j h
     ·obtain rfl:=sj h
      conv=>whnf
      try exact fin
     ·conv=>whnf
      exact⟨(z,v,w,x,y),h,wk [0,1] []⟩
    ·conv=>whnf
     exact⟨(g,(6:Int),([]:SS),(0:Int),g),h,wk [0,1] []⟩
abbrev q9u (r:Bool):PV:=PV.bool r
def qip (n:Nat) (a:Int):Option (Bool):=
 some (bif(bif(bif(bif(a==4)then true else(a==5))then true else(a==6))then true else(a==7))then true else(a==8))
theorem qs6 (n:Nat):∀ (a:Int) (r:Bool),qip n a=some r->qac Tryz.prog 16 [PV.int .i64 a] (q9u r):=by
 intro a r h;unfold qip at h;refine qac.of_vcN mixed (fun _ _=>Tryz.call16 _ _) Tryz.func16 (by kernel_rfl) (inl:=[1000000]) ?_;conv=>whnf
 iterate 8 refine⟨id,?_⟩
 obtain rfl:=sj h;conv=>whnf
 try exact fin
abbrev zd8 (_:List qao) (_:Int) (_ r:Bool):FV:=pB r
abbrev zdz (a:List qao) (b:Int) (c r:Bool):List AObj:=[.box 113 [pK a,pI b,pB c]]
def qem (n:Nat) (b:SS) (c:List qao) (d:Int) (e:Bool):Option (Bool):=
 bnd (idx c d) fun⟨a,f,_,_⟩=>
 some (bif(bif(!e)then(bif(a==5)then true else(a==2))else false)then(f==b)else false)
theorem qdd (n:Nat):∀ (d:SS) (a:List qao) (b:Int) (c r:Bool),qem n d a b c=some r->qay Tryz.prog 83 [.ptr 0 0,.p (PV.str d)] [.box 113 [pK a,pI b,pB c]] 1 (fun v lo=>v=zd8 a b c r/\lo=zdz a b c r):=by
 intro d a b c r h;unfold qem at h;refine qay.of_vc mixed (fun _ _=>Tryz.call83 _ _) Tryz.func83 (by kernel_rfl) (inl:=[40000001,1000000]) (Nat.le_of_ble_eq_true rfl) ?_;conv=>whnf
 refine bq h fun⟨_,_,_,_⟩ e h=>?_;refine⟨_,Codec.at_ qrw e,?_⟩;conv=>whnf
 iterate 12 refine⟨id,?_⟩
 obtain rfl:=sj h;conv=>whnf
 refine⟨_,_,⟨rfl,rfl⟩,wk [0] []⟩
abbrev zch (_:List qao) (_:Int) (_:Bool) (r:Bool×Int):FV:=.p (.bool r.1)
abbrev zb5 (a:List qao) (_:Int) (b:Bool) (r:Bool×Int):List AObj:=[.box 113 [pK a,.p (.int .i64 r.2),pB b]]
def qap (n:Nat) (b:SS) (c:List qao) (a:Int) (d:Bool):Option (Bool×Int):=
 bnd (qem n b c a d) fun e=>
 bif(!e)then(
 some (false,a))
 else(
 some (true,(IntKind.i64.wrap (a+1))))
theorem qaj (n:Nat):∀ (d:SS) (a:List qao) (b:Int) (c:Bool) (r:Bool×Int),qap n d a b c=some r->qay Tryz.prog 74 [.ptr 0 0,.p (PV.str d)] [.box 113 [pK a,pI b,pB c]] 1 (fun v lo=>v=zch a b c r/\lo=zb5 a b c r):=by
 intro d a b c r h;unfold qap at h;refine qay.of_vc mixed (fun _ _=>Tryz.call74 _ _) Tryz.func74 (by kernel_rfl) (inl:=[83,1000000]) (Nat.le_of_ble_eq_true rfl) ?_;conv=>whnf
 refine bq h fun f e h=>?_;refine qcl (qdd n _ _ _ _ _ e) [0] [] ?_;rintro _ _ ⟨rfl,rfl⟩;refine⟨pB f,[.box 113 [pK a,pI b,pB c]],rfl,rfl,?_⟩;conv=>whnf
 apply ifc h<;>intro _ h
 ·obtain rfl:=sj h
  conv=>whnf
  refine⟨_,_,⟨rfl,rfl⟩,wk [0] []⟩
 ·obtain rfl:=sj h
  conv=>whnf
  refine⟨_,_,⟨rfl,rfl⟩,wk [0] []⟩
abbrev q9w (_:List qao) (_:Int) (_:Bool) (r:Int×Bool):FV:=.p (.tup [])
abbrev q9k (a:List qao) (_:Int) (_:Bool) (r:Int×Bool):List AObj:=[.box 113 [pK a,.p (.int .i64 r.1),.p (.bool r.2)]]
def qbq (n:Nat) (c:SS) (d:List qao) (e:Int) (a:Bool):Option (Int×Bool):=
 bnd (qap n c d e a) fun⟨f,b⟩=>
 bif(!f)then(
 some (b,true))
 else(
 some (b,a))
theorem qa5 (n:Nat):∀ (d:SS) (a:List qao) (c:Int) (b:Bool) (r:Int×Bool),qbq n d a c b=some r->qay Tryz.prog 78 [.ptr 0 0,.p (PV.str d)] [.box 113 [pK a,pI c,pB b]] 1 (fun v lo=>v=q9w a c b r/\lo=q9k a c b r):=by
 intro d a c b r h;unfold qbq at h;refine qay.of_vc mixed (fun _ _=>Tryz.call78 _ _) Tryz.func78 (by kernel_rfl) (inl:=[74,1000000]) (Nat.le_of_ble_eq_true rfl) ?_;conv=>whnf
 refine bq h fun⟨f,g⟩ e h=>?_;refine qcl (qaj n _ _ _ _ _ e) [0] [] ?_;rintro _ _ ⟨rfl,rfl⟩;refine⟨pB f,[.box 113 [pK a,pI g,pB b]],rfl,rfl,?_⟩;conv=>whnf
 apply ifc h<;>intro _ h
 ·obtain rfl:=sj h
  conv=>whnf
  refine⟨_,_,⟨rfl,rfl⟩,wk [0] []⟩
 ·obtain rfl:=sj h
  conv=>whnf
  refine⟨_,_,⟨rfl,rfl⟩,wk [0] []⟩
abbrev q9x (_:List qao) (_:Int) (_:Bool) (r:SS×Int×Bool):FV:=.p (.str r.1)
abbrev q9l (a:List qao) (_:Int) (_:Bool) (r:SS×Int×Bool):List AObj:=[.box 113 [pK a,.p (.int .i64 r.2.1),.p (.bool r.2.2)]]
def qhi (n:Nat) (c:List qao) (a:Int) (b:Bool):Option (SS×Int×Bool):=
 bnd (idx c a) fun⟨d,e,_,_⟩=>
 bif(bif b then true else(d != 1))then(
 some (([]:SS),a,true))
 else(
 some (e,(IntKind.i64.wrap (a+1)),b))
theorem qgd (n:Nat):∀ (a:List qao) (b:Int) (c:Bool) (r:SS×Int×Bool),qhi n a b c=some r->qay Tryz.prog 79 [.ptr 0 0] [.box 113 [pK a,pI b,pB c]] 1 (fun v lo=>v=q9x a b c r/\lo=q9l a b c r):=by
 intro a b c r h;unfold qhi at h;refine qay.of_vc mixed (fun _ _=>Tryz.call79 _ _) Tryz.func79 (by kernel_rfl) (inl:=[40000001,1000000]) (Nat.le_of_ble_eq_true rfl) ?_;conv=>whnf
 refine bq h fun⟨_,_,_,_⟩ d h=>?_;refine⟨_,Codec.at_ qrw d,?_⟩;conv=>whnf
 refine⟨id,id,id,?_⟩;conv=>whnf
 apply ifc h<;>intro _ h
 ·obtain rfl:=sj h
  conv=>whnf
  refine⟨_,_,⟨rfl,rfl⟩,wk [0] []⟩
 ·obtain rfl:=sj h
  conv=>whnf
  refine⟨_,_,⟨rfl,rfl⟩,wk [0] []⟩
abbrev q17 (_:List qao) (_:Int) (_:Bool) (r:SS×Int×Bool):FV:=.p (.str r.1)
abbrev q14 (a:List qao) (_:Int) (_:Bool) (r:SS×Int×Bool):List AObj:=[.box 113 [pK a,.p (.int .i64 r.2.1),.p (.bool r.2.2)]]
def qk1 (n:Nat) (c:List qao) (b:Int) (a:Bool):Option (SS×Int×Bool):=
 bnd (qaw (!a) (idx c b)) fun⟨e,_,_,_⟩=>
 bif(bif a then true else(e != 1))then(
 some (([]:SS),b,a))
 else(
 bnd (qhi n c b a) fun⟨f,g,d⟩=>
 some (f,g,d))
theorem qoz (n:Nat):∀ (a:List qao) (b:Int) (c:Bool) (r:SS×Int×Bool),qk1 n a b c=some r->qay Tryz.prog 122 [.ptr 0 0] [.box 113 [pK a,pI b,pB c]] 1 (fun v lo=>v=q17 a b c r/\lo=q14 a b c r):=by
 intro a b c r h;unfold qk1 at h;refine qay.of_vc mixed (fun _ _=>Tryz.call122 _ _) Tryz.func122 (by kernel_rfl) (inl:=[79,1000000]) (Nat.le_of_ble_eq_true rfl) ?_;conv=>whnf
 iterate 8 refine⟨id,?_⟩
 conv=>whnf
 refine bq h fun⟨_,_,_,_⟩ e h=>?_;refine⟨_,fun f=>Codec.at_ qrw (qad e f),?_⟩;conv=>whnf
 refine⟨id,id,id,id,?_⟩;conv=>whnf
 apply ifc h<;>intro _ h
 ·obtain rfl:=sj h
  conv=>whnf
  refine⟨_,_,⟨rfl,rfl⟩,wk [0] []⟩
 ·conv=>whnf
  refine bq h fun⟨i,j,g⟩ d h=>?_;refine qcl (qgd n _ _ _ _ d) [0] [] ?_;rintro _ _ ⟨rfl,rfl⟩;refine⟨pS i,[.box 113 [pK a,pI j,pB g]],rfl,rfl,?_⟩;obtain rfl:=sj h;conv=>whnf
  refine⟨_,_,⟨rfl,rfl⟩,wk [0] []⟩
abbrev zgg (r:Bool):PV:=PV.bool r
def qjy (n:Nat) (a:SS):Option (Bool):=
 some (bif(decide (((a.length:Nat):Int)≥1))then(decide (((a.length:Nat):Int)<=64))else false)
theorem qim (n:Nat):∀ (a:SS) (r:Bool),qjy n a=some r->qac Tryz.prog 110 [PV.str a] (zgg r):=by
 intro a r h;unfold qjy at h;refine qac.of_vcN mixed (fun _ _=>Tryz.call110 _ _) Tryz.func110 (by kernel_rfl) (inl:=[1000000]) ?_;conv=>whnf
 refine⟨id,id,id,?_⟩;obtain rfl:=sj h;conv=>whnf
 try exact fin
abbrev zci (_:List qao) (_:Int) (_:Bool) (r:SS×Int×Bool):FV:=.p (.str r.1)
abbrev zb6 (a:List qao) (_:Int) (_:Bool) (r:SS×Int×Bool):List AObj:=[.box 113 [pK a,.p (.int .i64 r.2.1),.p (.bool r.2.2)]]
def qjh (n:Nat) (e:List qao) (b:Int) (c:Bool):Option (SS×Int×Bool):=
 bnd (idx e b) fun⟨a,d,_,_⟩=>
 bnd (qaw (((!c)&&(a != 1))&&(!(a != 4))) (qjy n d)) fun f=>
 bif(bif c then true else(bif(a != 1)then(bif(a != 4)then true else(!f))else false))then(
 some (([]:SS),b,true))
 else(
 some (d,(IntKind.i64.wrap (b+1)),c))
theorem qhh (n:Nat):∀ (a:List qao) (b:Int) (c:Bool) (r:SS×Int×Bool),qjh n a b c=some r->qay Tryz.prog 123 [.ptr 0 0] [.box 113 [pK a,pI b,pB c]] 1 (fun v lo=>v=zci a b c r/\lo=zb6 a b c r):=by
 intro a b c r h;unfold qjh at h;refine qay.of_vc mixed (fun _ _=>Tryz.call123 _ _) Tryz.func123 (by kernel_rfl) (inl:=[40000001,1000000]) (Nat.le_of_ble_eq_true rfl) ?_;conv=>whnf
 refine bq h fun⟨_,_,_,_⟩ e h=>?_;refine⟨_,Codec.at_ qrw e,?_⟩;conv=>whnf
 iterate 8 refine⟨id,?_⟩
 conv=>whnf
 refine bq h fun _ d h=>?_;refine⟨_,fun f=>(qim n _ _ (qad d f)),?_⟩;conv=>whnf
 iterate 6 refine⟨id,?_⟩
 conv=>whnf
 apply ifc h<;>intro _ h
 ·obtain rfl:=sj h
  conv=>whnf
  refine⟨_,_,⟨rfl,rfl⟩,wk [0] []⟩
 ·obtain rfl:=sj h
  conv=>whnf
  refine⟨_,_,⟨rfl,rfl⟩,wk [0] []⟩
abbrev zgj (r:qaa):PV:=PV.agg (qcf.cells r)
def qrg (n:Nat) (b:Int) (a:qaa):Option (qaa):=
 match a with
 | ⟨e,f,⟨g,i,j,k,l,m⟩,c,d⟩=>
 some (qaa.mk b ([]:SS) (Val.mk (0:Int) false (0:Int) ([]:SS) ([]:List Val) ([]:List SS)) ([]:List SS) [qaa.mk e f (Val.mk g i j k l m) c d])
theorem qpb (n:Nat):∀ (b:Int) (a r:qaa),qrg n b a=some r->qac Tryz.prog 177 [PV.int .i64 b,PV.agg (qcf.cells a)] (zgj r):=by
 intro b a r h;obtain⟨e,f,⟨g,i,j,k,l,m⟩,c,d⟩:=a;unfold qrg at h;refine qac.of_vcN mixed (fun _ _=>Tryz.call177 _ _) Tryz.func177 (by kernel_rfl) (inl:=[1000000]) ?_;conv=>whnf
 refine⟨Codec.one qcf [qaa.mk e f (Val.mk g i j k l m) c d],qaa.rows [qaa.mk e f (Val.mk g i j k l m) c d],.inl rfl,?_⟩;obtain rfl:=sj h;conv=>whnf
 try exact fin
abbrev q3u (r:Bool):PV:=PV.bool r
def qjx (n:Nat) (a:SS):Option (Bool):=
 some (bif(bif(bif(bif(a==([99,111,117,110,116]:SS))then true else(a==([115,117,109]:SS)))then true else(a==([109,105,110]:SS)))then true else(a==([109,97,120]:SS)))then true else(a==([99,111,108,108,101,99,116]:SS)))
theorem qpr (n:Nat):∀ (a:SS) (r:Bool),qjx n a=some r->qac Tryz.prog 172 [PV.str a] (q3u r):=by
 intro a r h;unfold qjx at h;refine qac.of_vcN mixed (fun _ _=>Tryz.call172 _ _) Tryz.func172 (by kernel_rfl) (inl:=[1000000]) ?_;conv=>whnf
 iterate 8 refine⟨id,?_⟩
 obtain rfl:=sj h;conv=>whnf
 try exact fin
abbrev zgk (r:qaa):PV:=PV.agg (qcf.cells r)
def qk2 (n:Nat) (c:SS) (a b:qaa):Option (qaa):=
 match a,b with
 | ⟨p,t,⟨u,v,w,x,y,z⟩,d,e⟩,⟨f,g,⟨i,j,k,l,m,o⟩,q,s⟩=>
 some (qaa.mk (10:Int) c (Val.mk (0:Int) false (0:Int) ([]:SS) ([]:List Val) ([]:List SS)) ([]:List SS) [qaa.mk p t (Val.mk u v w x y z) d e,qaa.mk f g (Val.mk i j k l m o) q s])
theorem qhj (n:Nat):∀ (c:SS) (a b r:qaa),qk2 n c a b=some r->qac Tryz.prog 121 [PV.str c,PV.agg (qcf.cells a),PV.agg (qcf.cells b)] (zgk r):=by
 intro c a b r h;obtain⟨p,t,⟨u,v,w,x,y,z⟩,d,e⟩:=a;obtain⟨f,g,⟨i,j,k,l,m,o⟩,q,s⟩:=b;unfold qk2 at h;refine qac.of_vcN mixed (fun _ _=>Tryz.call121 _ _) Tryz.func121 (by kernel_rfl) (inl:=[1000000]) ?_;conv=>whnf
 refine⟨Codec.one qcf [qaa.mk p t (Val.mk u v w x y z) d e,qaa.mk f g (Val.mk i j k l m o) q s],qaa.rows [qaa.mk p t (Val.mk u v w x y z) d e,qaa.mk f g (Val.mk i j k l m o) q s],.inl rfl,?_⟩;obtain rfl:=sj h;conv=>whnf
 try exact fin
end W
end
