/- A part of the proof: contracts, printed by program. -/
import Derived.Test.YtgbnebnnphdenaaGreatC
import Derived.Test.YtgbnebnnphdenaaGreatF
set_option linter.unusedVariables false
set_option linter.unusedSimpArgs false
set_option linter.unnecessarySimpa false
set_option linter.deprecated false
set_option linter.unusedSectionVars false
set_option linter.constructorNameAsVariable false
open Go.IntKind renaming wrap->kwr,bits->kbt
open BitVec renaming ofInt->jr
section
set_option maxRecDepth 100000
set_option maxHeartbeats 4000000
open Go Go.Proofs Ax
namespace W
abbrev Vp (r:List SS×List Val×Bool):PV:=PV.tup [PV.sl (qi r.1),PV.sl (Val.rows r.2.1),PV.bool r.2.2]
def um (n:Nat) (d:xa) (e:Val):Option (List SS×List Val×Bool):=
 match d,e with
 | ⟨⟨_,_⟩,⟨b,c⟩,⟨_,_,_,_,_,_⟩⟩,⟨f,_,a,_,_,_⟩=>
 bif(f==6)then(
 bnd (fk n (Graph.mk b c) a) fun⟨⟨_,_,g,i⟩,j⟩=>
 some (g,i,j))
 else(
 bnd (cG n (Graph.mk b c) a) fun⟨⟨_,_,_,_,k,l⟩,m⟩=>
 some (k,l,m))
theorem nN (n:Nat):∀ (a:xa) (b:Val) (r:List SS×List Val×Bool),um n a b=some r->qc TP 79 [(PV.hp (nX.cells a)),PV.agg (qS.cells b)] (Vp r):=by
 intro a b r h;obtain⟨⟨_,_⟩,⟨_,_⟩,⟨_,_,_,_,_,_⟩⟩:=a;obtain⟨_,_,_,_,_,_⟩:=b;unfold um at h;refine zN Tryz.call79 Tryz.func79 [40000002,40000004,1000000] ?_;conv=>whnf
 apply ifc h<;>intro _ h
 ·conv=>whnf
  refine bq h fun⟨⟨_,_,_,_⟩,_⟩ c h=>⟨_,(sn n _ _ _ c),?_⟩;obtain rfl:=sj h;conv=>whnf
  try exact fin
 conv=>whnf
 refine bq h fun⟨⟨_,_,_,_,_,_⟩,_⟩ d h=>⟨_,(Xq n _ _ _ d),?_⟩;obtain rfl:=sj h;conv=>whnf
 try exact fin
abbrev VU (r:Val×Int):PV:=PV.tup [PV.agg (qS.cells r.1),PV.int .i64 r.2]
def gS (n:Nat):Unit->Option (Val×Int):=fun _=>
 some (Val.mk (0:Int) false (0:Int) ([]:SS) ([]:List Val) ([]:List SS),(0:Int))
def vE (n:Nat) (a:List SS) (k:List Val) (q:List Node) (z:List Edge) (A:Int) (B:Bool) (C:Int) (D:SS) (E:List Val) (b:List SS) (c:Int) (d:Bool) (e:Int) (f:SS) (g:List Val) (i:List SS) (j:SS):Bool->Option (Val×Int):=fun l=>
 bif l then(
 bnd (um n (xa.mk (Env.mk a k) (Graph.mk q z) (Val.mk A B C D E b)) (Val.mk c d e f g i)) fun⟨m,o,_⟩=>
 bnd (qN n m j) fun⟨p,s⟩=>
 bif s then(
 bnd (idx o p) fun⟨t,u,v,w,x,y⟩=>
 some (Val.mk t u v w x y,(0:Int)))
 else(
 gS n ()))
 else(
 some (Val.mk (0:Int) false (0:Int) ([]:SS) ([]:List Val) ([]:List SS),(3:Int)))
def fa (n:Nat) (u:xa) (v:Val) (g:SS):Option (Val×Int):=
 match u,v with
 | ⟨⟨i,k⟩,⟨l,m⟩,⟨o,p,q,s,t,j⟩⟩,⟨a,b,c,d,e,f⟩=>
 bif(a==0)then(
 some (Val.mk a b c d e f,(0:Int)))
 else(
 bif(a==5)then(
 bnd (ur n (Val.mk a b c d e f) g) fun⟨⟨w,x,y,z,A,B⟩,_⟩=>
 some (Val.mk w x y z A B,(0:Int)))
 else(
 bif(a==6)then(
 vE n i k l m o p q s t j a b c d e f g (a==6))
 else(
 vE n i k l m o p q s t j a b c d e f g (a==7))))
theorem Vm (n:Nat):∀ (b:xa) (c:Val) (a:SS) (r:Val×Int),fa n b c a=some r->qc TP 52 [(PV.hp (nX.cells b)),PV.agg (qS.cells c),PV.str a] (VU r):=by
 intro b c a r h;obtain⟨⟨g,p⟩,⟨q,s⟩,⟨t,u,v,w,x,i⟩⟩:=b;obtain⟨e,j,k,l,m,o⟩:=c;unfold fa at h;refine zN Tryz.call52 Tryz.func52 [1000001,1000000] ?_;conv=>whnf
 apply ifc h<;>intro d h
 ·obtain rfl:=sj h
  conv=>whnf
  try exact fin
 conv=>whnf
 apply ifc h<;>intro d h
 ·conv=>whnf
  refine bq h fun⟨⟨_,_,_,_,_,_⟩,_⟩ y h=>⟨_,(tG n _ _ _ y),?_⟩;obtain rfl:=sj h;conv=>whnf
  try exact fin
 conv=>whnf
 refine mw.cut (S:=Bool) (fun f=>[(0,.hptr [PV.sl (qi g),PV.sl (Val.rows p),PV.sl (Node.rows q),PV.sl (Edge.rows s),PV.int .i64 t,PV.bool u,PV.int .i64 v,PV.str w,PV.sl (Val.rows x),PV.sl (qi i)]),(2,pS a),(4,.ptr 0 0),(6,.ptr 1 0),(29,pB f)]) (fun f=>[.box 25 [pI e,pB j,pI k,pS l,pV m,pT o],zq6]) (vE n g p q s t u v w x i e j k l m o a) (r:=r) ?_ ?_
 ·intro f h
  unfold vE at h;conv=>whnf
  apply ifc h<;>intro d h
  ·conv=>whnf
   refine bq h fun⟨_,_,_⟩ B h=>⟨_,(nN n _ _ _ B),?_⟩;conv=>whnf
   refine mw.cut (S:=Unit) (fun _=>[(6,.ptr 0 0)]) (fun _=>[zq6]) (gS n) (r:=r) ?_ ?_
   ·intro _ h
    unfold gS at h;obtain rfl:=sj h;conv=>whnf
    try exact fin
   conv=>whnf
   refine bq h fun⟨_,_⟩ A h=>⟨_,(uo n _ _ _ A),?_⟩;conv=>whnf
   apply ifc h<;>intro d h
   ·conv=>whnf
    refine bq h fun⟨_,_,_,_,_,_⟩ z h=>⟨_,Codec.at_ qS z,?_⟩;obtain rfl:=sj h;conv=>whnf
    try exact fin
   conv=>whnf
   exact⟨(),h,wk [1] []⟩
  obtain rfl:=sj h;conv=>whnf
  try exact fin
 conv=>whnf
 apply ifc h<;>intro d h
 ·conv=>whnf
  exact⟨(e==6),h,wk [0,1] []⟩
 conv=>whnf
 exact⟨(e==7),h,wk [0,1] []⟩
abbrev mr (r:Bool):PV:=PV.bool r
def xL (n:Nat) (a:List SS) (b:SS):Option (Bool):=
 bnd (zT n a b) fun c=>
 some (decide (c≥0))
theorem bz (n:Nat):∀ (a:List SS) (b:SS) (r:Bool),xL n a b=some r->qc TP 81 [PV.sl (qi a),PV.str b] (mr r):=by
 intro a b r h;unfold xL at h;refine zN Tryz.call81 Tryz.func81 [1000000] ?_;conv=>whnf
 refine bq h fun _ c h=>⟨_,(fc n _ _ _ c),?_⟩;obtain rfl:=sj h;conv=>whnf
 try exact fin
abbrev ME (r:Int):PV:=PV.int .i64 r
def bn (n:Nat) (a:Bool):Option (Int):=
 bif a then(
 some (1:Int))
 else(
 some (0:Int))
theorem mg (n:Nat):∀ (a:Bool) (r:Int),bn n a=some r->qc TP 61 [PV.bool a] (ME r):=by
 intro a r h;unfold bn at h;refine zN Tryz.call61 Tryz.func61 [1000000] ?_;conv=>whnf
 apply ifc h<;>intro _ h
 ·obtain rfl:=sj h
  conv=>whnf
  try exact fin
 obtain rfl:=sj h;conv=>whnf
 try exact fin
abbrev Ef (r:Val):PV:=PV.agg (qS.cells r)
def zL (n:Nat) (a:Int):Option (Val):=
 bif(a==2)then(
 some (Val.mk (0:Int) false (0:Int) ([]:SS) ([]:List Val) ([]:List SS)))
 else(
 some (Val.mk (1:Int) (a==1) (0:Int) ([]:SS) ([]:List Val) ([]:List SS)))
theorem zX (n:Nat):∀ (a:Int) (r:Val),zL n a=some r->qc TP 59 [PV.int .i64 a] (Ef r):=by
 intro a r h;unfold zL at h;refine zN Tryz.call59 Tryz.func59 [1000000] ?_;conv=>whnf
 apply ifc h<;>intro _ h
 ·obtain rfl:=sj h
  conv=>whnf
  try exact fin
 obtain rfl:=sj h;conv=>whnf
 try exact fin
abbrev Us (r:Val×Int):PV:=PV.tup [PV.agg (qS.cells r.1),PV.int .i64 r.2]
def fy (n:Nat) (b:xa) (c:Val) (e:SS):Option (Val×Int):=
 match b,c with
 | ⟨⟨_,_⟩,⟨q,t⟩,⟨_,_,_,_,_,_⟩⟩,⟨a,_,d,_,_,_⟩=>
 bif(bif(a != 6)then(a != 0)else false)then(
 some (Val.mk (0:Int) false (0:Int) ([]:SS) ([]:List Val) ([]:List SS),(3:Int)))
 else(
 bnd (fk n (Graph.mk q t) d) fun⟨⟨_,f,_,_⟩,g⟩=>
 bif(!g)then(
 some (Val.mk (0:Int) false (0:Int) ([]:SS) ([]:List Val) ([]:List SS),(0:Int)))
 else(
 bnd (xL n f e) fun i=>
 bnd (bn n i) fun j=>
 bnd (zL n j) fun⟨k,l,m,o,p,s⟩=>
 some (Val.mk k l m o p s,(0:Int))))
theorem VK (n:Nat):∀ (a:xa) (b:Val) (c:SS) (r:Val×Int),fy n a b c=some r->qc TP 53 [(PV.hp (nX.cells a)),PV.agg (qS.cells b),PV.str c] (Us r):=by
 intro a b c r h;obtain⟨⟨_,_⟩,⟨_,_⟩,⟨_,_,_,_,_,_⟩⟩:=a;obtain⟨_,_,_,_,_,_⟩:=b;unfold fy at h;refine zN Tryz.call53 Tryz.func53 [40000003,1000000] ?_;conv=>whnf
 refine⟨id,id,id,?_⟩;conv=>whnf
 apply ifc h<;>intro i h
 ·obtain rfl:=sj h
  conv=>whnf
  try exact fin
 conv=>whnf
 refine bq h fun⟨⟨_,_,_,_⟩,_⟩ g h=>⟨_,(sn n _ _ _ g),?_⟩;conv=>whnf
 apply ifc h<;>intro i h
 ·obtain rfl:=sj h
  conv=>whnf
  try exact fin
 conv=>whnf
 refine bq h fun _ f h=>⟨_,(bz n _ _ _ f),?_⟩;conv=>whnf
 refine bq h fun _ e h=>⟨_,(mg n _ _ e),?_⟩;conv=>whnf
 refine bq h fun⟨_,_,_,_,_,_⟩ d h=>⟨_,(zX n _ _ d),?_⟩;obtain rfl:=sj h;conv=>whnf
 try exact fin
abbrev HX (r:Any):PV:=(Any.pv r)
def qX (n:Nat) (g:Val):Option (Any):=
 match g with
 | ⟨a,c,d,e,f,j⟩=>
 bif(a==0)then(
 some Any.nul)
 else(
 bif(a==1)then(
 some (Any.b c))
 else(
 bif(a==2)then(
 some (Any.i d))
 else(
 bif(a==3)then(
 some (Any.s e))
 else(
 bif(a==4)then(
 some (Any.l f))
 else(
 some (Any.v (Val.mk a c d e f j)))))))
theorem qO (n:Nat):∀ (a:Val) (r:Any),qX n a=some r->qc TP 82 [PV.agg (qS.cells a)] (HX r):=by
 intro a r h;obtain⟨_,_,_,_,_,_⟩:=a;unfold qX at h;refine zN Tryz.call82 Tryz.func82 [1000000] ?_;conv=>whnf
 apply ifc h<;>intro b h
 ·obtain rfl:=sj h
  conv=>whnf
  try exact fin
 conv=>whnf
 apply ifc h<;>intro b h
 ·obtain rfl:=sj h
  conv=>whnf
  try exact fin
 conv=>whnf
 apply ifc h<;>intro b h
 ·obtain rfl:=sj h
  conv=>whnf
  try exact fin
 conv=>whnf
 apply ifc h<;>intro b h
 ·obtain rfl:=sj h
  conv=>whnf
  try exact fin
 conv=>whnf
 apply ifc h<;>intro b h
 ·obtain rfl:=sj h
  conv=>whnf
  try exact fin
 obtain rfl:=sj h;conv=>whnf
 try exact fin
abbrev Py (r:Val×Int):PV:=PV.tup [PV.agg (qS.cells r.1),PV.int .i64 r.2]
def bm (n:Nat) (b:Any):Int->Option (Val×Int):=fun a=>
 bif(bif(decide (a<0))then true else(decide (a≥(((Val.rows (Any.get_l b)).length:Nat):Int))))then(
 some (Val.mk (0:Int) false (0:Int) ([]:SS) ([]:List Val) ([]:List SS),(0:Int)))
 else(
 bnd (idx (Any.get_l b) a) fun⟨c,d,e,f,g,i⟩=>
 some (Val.mk c d e f g i,(0:Int)))
def mb (n:Nat) (s t:Val):Option (Val×Int):=
 match s,t with
 | ⟨a,j,k,l,m,o⟩,⟨d,p,q,e,f,g⟩=>
 bif(bif(a==0)then true else(d==0))then(
 some (Val.mk (0:Int) false (0:Int) ([]:SS) ([]:List Val) ([]:List SS),(0:Int)))
 else(
 bnd (qX n (Val.mk d p q e f g)) fun i=>
 bif(bif(Any.is_s i)then(a==5)else false)then(
 bnd (ur n (Val.mk a j k l m o) (Any.get_s i)) fun⟨⟨u,v,w,x,y,z⟩,_⟩=>
 some (Val.mk u v w x y z,(0:Int)))
 else(
 bnd (qX n (Val.mk a j k l m o)) fun b=>
 bnd (qX n (Val.mk d p q e f g)) fun c=>
 bif(bif(!(Any.is_l b))then true else(!(Any.is_i c)))then(
 some (Val.mk (0:Int) false (0:Int) ([]:SS) ([]:List Val) ([]:List SS),(3:Int)))
 else(
 bif(decide ((Any.get_i c)<0))then(
 bm n b (kwr .i64 ((Any.get_i c)+(((Val.rows (Any.get_l b)).length:Nat):Int))))
 else(
 bm n b (Any.get_i c)))))
theorem Mn (n:Nat):∀ (a b:Val) (r:Val×Int),mb n a b=some r->qc TP 54 [PV.agg (qS.cells a),PV.agg (qS.cells b)] (Py r):=by
 intro a b r h;obtain⟨_,_,_,_,_,_⟩:=a;obtain⟨_,_,_,_,_,_⟩:=b;unfold mb at h;refine zN Tryz.call54 Tryz.func54 [1000000] ?_;conv=>whnf
 refine⟨id,id,id,?_⟩;conv=>whnf
 apply ifc h<;>intro c h
 ·obtain rfl:=sj h
  conv=>whnf
  try exact fin
 conv=>whnf
 refine bq h fun m l h=>⟨_,(qO n _ _ l),?_⟩;conv=>whnf
 refine⟨_,Any.as_s m,?_⟩;conv=>whnf
 refine⟨id,id,id,?_⟩;conv=>whnf
 apply ifc h<;>intro c h
 ·conv=>whnf
  refine bq h fun⟨⟨_,_,_,_,_,_⟩,_⟩ g h=>⟨_,(tG n _ _ _ g),?_⟩;obtain rfl:=sj h;conv=>whnf
  try exact fin
 conv=>whnf
 refine bq h fun d k h=>⟨_,(qO n _ _ k),?_⟩;conv=>whnf
 refine⟨_,Any.as_l d,?_⟩;conv=>whnf
 refine bq h fun e j h=>⟨_,(qO n _ _ j),?_⟩;conv=>whnf
 refine⟨_,Any.as_i e,?_⟩;conv=>whnf
 refine⟨id,id,?_⟩;conv=>whnf
 apply ifc h<;>intro c h
 ·obtain rfl:=sj h
  conv=>whnf
  try exact fin
 conv=>whnf
 refine mw.cut (S:=Int) (fun f=>[(4,.ptr 0 0),(10,.p (.sl (Val.rows (Any.get_l d)))),(12,pI f)]) (fun f=>[zq6]) (bm n d) (r:=r) ?_ ?_
 ·intro f h
  unfold bm at h;conv=>whnf
  refine⟨id,id,id,id,?_⟩;conv=>whnf
  apply ifc h<;>intro c h
  ·obtain rfl:=sj h
   conv=>whnf
   try exact fin
  conv=>whnf
  refine bq h fun⟨_,_,_,_,_,_⟩ i h=>⟨_,Codec.at_ qS i,?_⟩;obtain rfl:=sj h;conv=>whnf
  try exact fin
 conv=>whnf
 apply ifc h<;>intro c h
 ·conv=>whnf
  exact⟨(kwr .i64 ((Any.get_i e)+(((Val.rows (Any.get_l d)).length:Nat):Int))),h,wk [2] []⟩
 conv=>whnf
 exact⟨(Any.get_i e),h,wk [2] []⟩
abbrev Eg (r:Val):PV:=PV.agg (qS.cells r)
def zB (n:Nat) (a:Int):Option (Val):=
 some (Val.mk (2:Int) false a ([]:SS) ([]:List Val) ([]:List SS))
theorem xT (n:Nat):∀ (a:Int) (r:Val),zB n a=some r->qc TP 56 [PV.int .i64 a] (Eg r):=by
 intro a r h;unfold zB at h;refine zN Tryz.call56 Tryz.func56 [1000000] ?_;obtain rfl:=sj h;conv=>whnf
 try exact fin
abbrev PD (r:Int×Int):PV:=PV.tup [PV.int .i64 r.1,PV.int .i64 r.2]
def Qi (n:Nat) (a b:Int):Option (Int×Int):=
 bif(bif(!((decide (a<0))==(decide (b<0))))then(!((decide ((kwr .i64 (a - b))<0))==(decide (a<0))))else false)then(
 some ((0:Int),(4:Int)))
 else(
 some ((kwr .i64 (a - b)),(0:Int)))
theorem GV (n:Nat):∀ (a b:Int) (r:Int×Int),Qi n a b=some r->qc TP 57 [PV.int .i64 a,PV.int .i64 b] (PD r):=by
 intro a b r h;unfold Qi at h;refine zN Tryz.call57 Tryz.func57 [1000000] ?_;conv=>whnf
 refine⟨id,id,id,id,id,?_⟩;conv=>whnf
 apply ifc h<;>intro _ h
 ·obtain rfl:=sj h
  conv=>whnf
  try exact fin
 obtain rfl:=sj h;conv=>whnf
 try exact fin
abbrev tT (r:Val×Int):PV:=PV.tup [PV.agg (qS.cells r.1),PV.int .i64 r.2]
def xK (n:Nat) (f g:Val):Option (Val×Int):=
 match f,g with
 | ⟨a,q,v,w,x,y⟩,⟨e,z,A,i,j,k⟩=>
 bif(bif(a==0)then true else(e==0))then(
 some (Val.mk (0:Int) false (0:Int) ([]:SS) ([]:List Val) ([]:List SS),(0:Int)))
 else(
 bnd (qX n (Val.mk a q v w x y)) fun b=>
 bnd (qX n (Val.mk e z A i j k)) fun c=>
 bif(bif(!(Any.is_i b))then true else(!(Any.is_i c)))then(
 some (Val.mk (0:Int) false (0:Int) ([]:SS) ([]:List Val) ([]:List SS),(3:Int)))
 else(
 bnd (Qi n (Any.get_i b) (Any.get_i c)) fun⟨l,d⟩=>
 bif(d != 0)then(
 some (Val.mk (0:Int) false (0:Int) ([]:SS) ([]:List Val) ([]:List SS),d))
 else(
 bnd (zB n l) fun⟨m,o,p,s,t,u⟩=>
 some (Val.mk m o p s t u,(0:Int)))))
theorem dg (n:Nat):∀ (a b:Val) (r:Val×Int),xK n a b=some r->qc TP 55 [PV.agg (qS.cells a),PV.agg (qS.cells b),PV.fn 57] (tT r):=by
 intro a b r h;obtain⟨_,_,_,_,_,_⟩:=a;obtain⟨_,_,_,_,_,_⟩:=b;unfold xK at h;refine zN Tryz.call55 Tryz.func55 [1000000] ?_;conv=>whnf
 refine⟨id,id,id,?_⟩;conv=>whnf
 apply ifc h<;>intro c h
 ·obtain rfl:=sj h
  conv=>whnf
  try exact fin
 conv=>whnf
 refine bq h fun i g h=>⟨_,(qO n _ _ g),?_⟩;conv=>whnf
 refine⟨_,Any.as_i i,?_⟩;conv=>whnf
 refine bq h fun j f h=>⟨_,(qO n _ _ f),?_⟩;conv=>whnf
 refine⟨_,Any.as_i j,?_⟩;conv=>whnf
 refine⟨id,id,?_⟩;conv=>whnf
 apply ifc h<;>intro c h
 ·obtain rfl:=sj h
  conv=>whnf
  try exact fin
 conv=>whnf
 refine bq h fun⟨_,_⟩ e h=>⟨_,(GV n _ _ _ e),?_⟩;conv=>whnf
 apply ifc h<;>intro c h
 ·obtain rfl:=sj h
  conv=>whnf
  try exact fin
 conv=>whnf
 refine bq h fun⟨_,_,_,_,_,_⟩ d h=>⟨_,(xT n _ _ d),?_⟩;obtain rfl:=sj h;conv=>whnf
 try exact fin
abbrev Ec (r:Int×Int):PV:=PV.tup [PV.int .i64 r.1,PV.int .i64 r.2]
def ug (n:Nat) (c:Val):Option (Int×Int):=
 match c with
 | ⟨a,d,e,f,g,i⟩=>
 bif(a==0)then(
 some ((2:Int),(0:Int)))
 else(
 bnd (qX n (Val.mk a d e f g i)) fun b=>
 bif(!(Any.is_b b))then(
 some ((0:Int),(3:Int)))
 else(
 bnd (bn n (Any.get_b b)) fun j=>
 some (j,(0:Int))))
theorem uT (n:Nat):∀ (a:Val) (r:Int×Int),ug n a=some r->qc TP 58 [PV.agg (qS.cells a)] (Ec r):=by
 intro a r h;obtain⟨_,_,_,_,_,_⟩:=a;unfold ug at h;refine zN Tryz.call58 Tryz.func58 [1000000] ?_;conv=>whnf
 apply ifc h<;>intro d h
 ·obtain rfl:=sj h
  conv=>whnf
  try exact fin
 conv=>whnf
 refine bq h fun e c h=>⟨_,(qO n _ _ c),?_⟩;conv=>whnf
 refine⟨_,Any.as_b e,?_⟩;conv=>whnf
 apply ifc h<;>intro d h
 ·obtain rfl:=sj h
  conv=>whnf
  try exact fin
 conv=>whnf
 refine bq h fun _ b h=>⟨_,(mg n _ _ b),?_⟩;obtain rfl:=sj h;conv=>whnf
 try exact fin
abbrev Bi (r:Int):PV:=PV.int .i64 r
def mh (n:Nat) (a:Int):Option (Int):=
 bif(bif(a==0)then true else(a==1))then(
 some a)
 else(
 some (2:Int))
theorem pq (n:Nat):∀ (a r:Int),mh n a=some r->qc TP 83 [PV.int .i64 a] (Bi r):=by
 intro a r h;unfold mh at h;refine zN Tryz.call83 Tryz.func83 [1000000] ?_;conv=>whnf
 refine⟨id,id,?_⟩;conv=>whnf
 apply ifc h<;>intro _ h
 ·obtain rfl:=sj h
  conv=>whnf
  try exact fin
 obtain rfl:=sj h;conv=>whnf
 try exact fin
abbrev Le (r:Int):PV:=PV.int .i64 r
def vW (n:Nat) (a:Int):Option (Int):=
 bnd (mh n a) fun b=>
 bnd (idx [(1:Int),(0:Int),(2:Int)] b) fun c=>
 some c
theorem ub (n:Nat):∀ (a r:Int),vW n a=some r->qc TP 60 [PV.int .i64 a] (Le r):=by
 intro a r h;unfold vW at h;refine zN Tryz.call60 Tryz.func60 [1000000] ?_;conv=>whnf
 refine⟨rfl,Gz rfl,?_⟩;conv=>whnf
 refine bq h fun _ c h=>⟨_,(pq n _ _ c),?_⟩;conv=>whnf
 refine bq h fun _ b h=>⟨_,qaa (k:=.i64) b rfl (by decide),?_⟩;obtain rfl:=sj h;conv=>whnf
 try exact fin
abbrev Ld (r:Int):PV:=PV.int .i64 r
def cH (n:Nat) (c d:Int):Option (Int):=
 bnd (mh n c) fun b=>
 bnd (mh n d) fun a=>
 bif(b==0)then(
 bif(a==0)then(
 some (0:Int))
 else(
 bif(a==1)then(
 some (0:Int))
 else(
 bif(a==2)then(
 some (0:Int))
 else(
 none))))
 else(
 bif(b==1)then(
 bif(a==0)then(
 some (0:Int))
 else(
 bif(a==1)then(
 some (1:Int))
 else(
 bif(a==2)then(
 some (2:Int))
 else(
 none))))
 else(
 bif(b==2)then(
 bif(a==0)then(
 some (0:Int))
 else(
 bif(a==1)then(
 some (2:Int))
 else(
 bif(a==2)then(
 some (2:Int))
 else(
 none))))
 else(
 none)))
theorem dx (n:Nat):∀ (d e r:Int),cH n d e=some r->qc TP 85 [PV.int .i64 d,PV.int .i64 e] (Ld r):=by
 intro d e r h;unfold cH at h;refine zN Tryz.call85 Tryz.func85 [1000000] ?_;conv=>whnf
 refine⟨rfl,Gz rfl,?_⟩;conv=>whnf
 refine⟨rfl,Gz rfl,?_⟩;conv=>whnf
 refine⟨rfl,Gz rfl,?_⟩;conv=>whnf
 refine⟨by repeat (first|exact List.forall_mem_nil _|refine List.forall_mem_cons.2 ⟨rfl,?_⟩),rfl,?_⟩;conv=>whnf
 replace h:=RL h;obtain⟨c,g,h⟩:=h;refine⟨_,(pq n _ _ g),?_⟩;conv=>whnf
 replace h:=RL h;obtain⟨b,f,h⟩:=h;refine⟨_,(pq n _ _ f),?_⟩;by_cases a:(c==0)=true
 ·replace h:=mC h a
  obtain rfl:c=(0:Int):=by simpa using a
  conv=>whnf
  refine⟨by first|exact⟨by decide,by decide⟩|decide|(intro _; decide),?_⟩;by_cases a:(b==0)=true
  ·replace h:=mC h a
   obtain rfl:b=(0:Int):=by simpa using a
   conv=>whnf
   refine⟨by first|exact⟨by decide,by decide⟩|decide|(intro _; decide),?_⟩;obtain rfl:=sj h;conv=>whnf
   try exact fin
  replace h:=gf h (by simpa using a);by_cases a:(b==1)=true
  ·replace h:=mC h a
   obtain rfl:b=(1:Int):=by simpa using a
   conv=>whnf
   refine⟨by first|exact⟨by decide,by decide⟩|decide|(intro _; decide),?_⟩;obtain rfl:=sj h;conv=>whnf
   try exact fin
  replace h:=gf h (by simpa using a);by_cases a:(b==2)=true
  ·replace h:=mC h a
   obtain rfl:b=(2:Int):=by simpa using a
   conv=>whnf
   refine⟨by first|exact⟨by decide,by decide⟩|decide|(intro _; decide),?_⟩;obtain rfl:=sj h;conv=>whnf
   try exact fin
  replace h:=gf h (by simpa using a);cases h
 ·replace h:=gf h (by simpa using a)
  by_cases a:(c==1)=true
  ·replace h:=mC h a
   obtain rfl:c=(1:Int):=by simpa using a
   conv=>whnf
   refine⟨by first|exact⟨by decide,by decide⟩|decide|(intro _; decide),?_⟩;by_cases a:(b==0)=true
   ·replace h:=mC h a
    obtain rfl:b=(0:Int):=by simpa using a
    (conv=>whnf);refine⟨by first|exact⟨by decide,by decide⟩|decide|(intro _; decide),?_⟩
    obtain rfl:=sj h;conv=>whnf
    try exact fin
   replace h:=gf h (by simpa using a);by_cases a:(b==1)=true
   ·replace h:=mC h a
    obtain rfl:b=(1:Int):=by simpa using a
    (conv=>whnf);refine⟨by first|exact⟨by decide,by decide⟩|decide|(intro _; decide),?_⟩
    obtain rfl:=sj h;conv=>whnf
    try exact fin
   replace h:=gf h (by simpa using a);by_cases a:(b==2)=true
   ·replace h:=mC h a
    obtain rfl:b=(2:Int):=by simpa using a
    (conv=>whnf);refine⟨by first|exact⟨by decide,by decide⟩|decide|(intro _; decide),?_⟩
    obtain rfl:=sj h;conv=>whnf
    try exact fin
   replace h:=gf h (by simpa using a);cases h
  ·replace h:=gf h (by simpa using a)
   by_cases a:(c==2)=true
   ·replace h:=mC h a
    obtain rfl:c=(2:Int):=by simpa using a
    (conv=>whnf);refine⟨by first|exact⟨by decide,by decide⟩|decide|(intro _; decide),?_⟩
    by_cases a:(b==0)=true
    ·replace h:=mC h a
     obtain rfl:b=(0:Int):=by simpa using a
     (conv=>whnf);refine⟨by first|exact⟨by decide,by decide⟩|decide|(intro _; decide),?_⟩
     obtain rfl:=sj h;conv=>whnf
     try exact fin
    replace h:=gf h (by simpa using a);by_cases a:(b==1)=true
    ·replace h:=mC h a
     obtain rfl:b=(1:Int):=by simpa using a
     (conv=>whnf);refine⟨by first|exact⟨by decide,by decide⟩|decide|(intro _; decide),?_⟩
     obtain rfl:=sj h;conv=>whnf
     try exact fin
    replace h:=gf h (by simpa using a);by_cases a:(b==2)=true
    ·replace h:=mC h a
     obtain rfl:b=(2:Int):=by simpa using a
     (conv=>whnf);refine⟨by first|exact⟨by decide,by decide⟩|decide|(intro _; decide),?_⟩
     obtain rfl:=sj h;conv=>whnf
     try exact fin
    replace h:=gf h (by simpa using a);cases h
   ·replace h:=gf h (by simpa using a)
    cases h
abbrev sO (r:Val×Int):PV:=PV.tup [PV.agg (qS.cells r.1),PV.int .i64 r.2]
def vd (n:Nat) (c d:Val):Option (Val×Int):=
 match c,d with
 | ⟨e,p,v,w,x,y⟩,⟨z,A,B,f,g,i⟩=>
 bnd (ug n (Val.mk e p v w x y)) fun⟨j,a⟩=>
 bif(a != 0)then(
 some (Val.mk (0:Int) false (0:Int) ([]:SS) ([]:List Val) ([]:List SS),a))
 else(
 bnd (ug n (Val.mk z A B f g i)) fun⟨k,b⟩=>
 bif(b != 0)then(
 some (Val.mk (0:Int) false (0:Int) ([]:SS) ([]:List Val) ([]:List SS),b))
 else(
 bnd (cH n j k) fun l=>
 bnd (zL n l) fun⟨m,o,q,s,t,u⟩=>
 some (Val.mk m o q s t u,(0:Int))))
theorem sg (n:Nat):∀ (a b:Val) (r:Val×Int),vd n a b=some r->qc TP 84 [PV.agg (qS.cells a),PV.agg (qS.cells b),PV.fn 85] (sO r):=by
 intro a b r h;obtain⟨_,_,_,_,_,_⟩:=a;obtain⟨_,_,_,_,_,_⟩:=b;unfold vd at h;refine zN Tryz.call84 Tryz.func84 [1000000] ?_;conv=>whnf
 refine bq h fun⟨_,_⟩ f h=>⟨_,(uT n _ _ f),?_⟩;conv=>whnf
 apply ifc h<;>intro g h
 ·obtain rfl:=sj h
  conv=>whnf
  try exact fin
 conv=>whnf
 refine bq h fun⟨_,_⟩ e h=>⟨_,(uT n _ _ e),?_⟩;conv=>whnf
 apply ifc h<;>intro g h
 ·obtain rfl:=sj h
  conv=>whnf
  try exact fin
 conv=>whnf
 refine bq h fun _ d h=>⟨_,(dx n _ _ _ d),?_⟩;conv=>whnf
 refine bq h fun⟨_,_,_,_,_,_⟩ c h=>⟨_,(zX n _ _ c),?_⟩;obtain rfl:=sj h;conv=>whnf
 try exact fin
abbrev MF (r:Int):PV:=PV.int .i64 r
def rz (n:Nat) (a b:Int):Option (Int):=
 bnd (vW n a) fun c=>
 bnd (vW n b) fun d=>
 bnd (cH n c d) fun e=>
 bnd (vW n e) fun f=>
 some f
theorem QW (n:Nat):∀ (a b r:Int),rz n a b=some r->qc TP 86 [PV.int .i64 a,PV.int .i64 b] (MF r):=by
 intro a b r h;unfold rz at h;refine zN Tryz.call86 Tryz.func86 [1000000] ?_;conv=>whnf
 refine bq h fun _ f h=>⟨_,(ub n _ _ f),?_⟩;conv=>whnf
 refine bq h fun _ e h=>⟨_,(ub n _ _ e),?_⟩;conv=>whnf
 refine bq h fun _ d h=>⟨_,(dx n _ _ _ d),?_⟩;conv=>whnf
 refine bq h fun _ c h=>⟨_,(ub n _ _ c),?_⟩;obtain rfl:=sj h;conv=>whnf
 try exact fin
abbrev tV (r:Val×Int):PV:=PV.tup [PV.agg (qS.cells r.1),PV.int .i64 r.2]
def vv (n:Nat) (c d:Val):Option (Val×Int):=
 match c,d with
 | ⟨e,p,v,w,x,y⟩,⟨z,A,B,f,g,i⟩=>
 bnd (ug n (Val.mk e p v w x y)) fun⟨j,a⟩=>
 bif(a != 0)then(
 some (Val.mk (0:Int) false (0:Int) ([]:SS) ([]:List Val) ([]:List SS),a))
 else(
 bnd (ug n (Val.mk z A B f g i)) fun⟨k,b⟩=>
 bif(b != 0)then(
 some (Val.mk (0:Int) false (0:Int) ([]:SS) ([]:List Val) ([]:List SS),b))
 else(
 bnd (rz n j k) fun l=>
 bnd (zL n l) fun⟨m,o,q,s,t,u⟩=>
 some (Val.mk m o q s t u,(0:Int))))
theorem sN (n:Nat):∀ (a b:Val) (r:Val×Int),vv n a b=some r->qc TP 84 [PV.agg (qS.cells a),PV.agg (qS.cells b),PV.fn 86] (tV r):=by
 intro a b r h;obtain⟨_,_,_,_,_,_⟩:=a;obtain⟨_,_,_,_,_,_⟩:=b;unfold vv at h;refine zN Tryz.call84 Tryz.func84 [1000000] ?_;conv=>whnf
 refine bq h fun⟨_,_⟩ f h=>⟨_,(uT n _ _ f),?_⟩;conv=>whnf
 apply ifc h<;>intro g h
 ·obtain rfl:=sj h
  conv=>whnf
  try exact fin
 conv=>whnf
 refine bq h fun⟨_,_⟩ e h=>⟨_,(uT n _ _ e),?_⟩;conv=>whnf
 apply ifc h<;>intro g h
 ·obtain rfl:=sj h
  conv=>whnf
  try exact fin
 conv=>whnf
 refine bq h fun _ d h=>⟨_,(QW n _ _ _ d),?_⟩;conv=>whnf
 refine bq h fun⟨_,_,_,_,_,_⟩ c h=>⟨_,(zX n _ _ c),?_⟩;obtain rfl:=sj h;conv=>whnf
 try exact fin
abbrev Lf (r:Int):PV:=PV.int .i64 r
def QX (n:Nat) (a b:Int):Option (Int):=
 bnd (vW n b) fun c=>
 bnd (cH n a c) fun d=>
 bnd (vW n a) fun e=>
 bnd (cH n e b) fun f=>
 bnd (rz n d f) fun g=>
 some g
theorem Dx (n:Nat):∀ (a b r:Int),QX n a b=some r->qc TP 87 [PV.int .i64 a,PV.int .i64 b] (Lf r):=by
 intro a b r h;unfold QX at h;refine zN Tryz.call87 Tryz.func87 [1000000] ?_;conv=>whnf
 refine bq h fun _ g h=>⟨_,(ub n _ _ g),?_⟩;conv=>whnf
 refine bq h fun _ f h=>⟨_,(dx n _ _ _ f),?_⟩;conv=>whnf
 refine bq h fun _ e h=>⟨_,(ub n _ _ e),?_⟩;conv=>whnf
 refine bq h fun _ d h=>⟨_,(dx n _ _ _ d),?_⟩;conv=>whnf
 refine bq h fun _ c h=>⟨_,(QW n _ _ _ c),?_⟩;obtain rfl:=sj h;conv=>whnf
 try exact fin
abbrev sP (r:Val×Int):PV:=PV.tup [PV.agg (qS.cells r.1),PV.int .i64 r.2]
def ve (n:Nat) (c d:Val):Option (Val×Int):=
 match c,d with
 | ⟨e,p,v,w,x,y⟩,⟨z,A,B,f,g,i⟩=>
 bnd (ug n (Val.mk e p v w x y)) fun⟨j,a⟩=>
 bif(a != 0)then(
 some (Val.mk (0:Int) false (0:Int) ([]:SS) ([]:List Val) ([]:List SS),a))
 else(
 bnd (ug n (Val.mk z A B f g i)) fun⟨k,b⟩=>
 bif(b != 0)then(
 some (Val.mk (0:Int) false (0:Int) ([]:SS) ([]:List Val) ([]:List SS),b))
 else(
 bnd (QX n j k) fun l=>
 bnd (zL n l) fun⟨m,o,q,s,t,u⟩=>
 some (Val.mk m o q s t u,(0:Int))))
theorem sh (n:Nat):∀ (a b:Val) (r:Val×Int),ve n a b=some r->qc TP 84 [PV.agg (qS.cells a),PV.agg (qS.cells b),PV.fn 87] (sP r):=by
 intro a b r h;obtain⟨_,_,_,_,_,_⟩:=a;obtain⟨_,_,_,_,_,_⟩:=b;unfold ve at h;refine zN Tryz.call84 Tryz.func84 [1000000] ?_;conv=>whnf
 refine bq h fun⟨_,_⟩ f h=>⟨_,(uT n _ _ f),?_⟩;conv=>whnf
 apply ifc h<;>intro g h
 ·obtain rfl:=sj h
  conv=>whnf
  try exact fin
 conv=>whnf
 refine bq h fun⟨_,_⟩ e h=>⟨_,(uT n _ _ e),?_⟩;conv=>whnf
 apply ifc h<;>intro g h
 ·obtain rfl:=sj h
  conv=>whnf
  try exact fin
 conv=>whnf
 refine bq h fun _ d h=>⟨_,(Dx n _ _ _ d),?_⟩;conv=>whnf
 refine bq h fun⟨_,_,_,_,_,_⟩ c h=>⟨_,(zX n _ _ c),?_⟩;obtain rfl:=sj h;conv=>whnf
 try exact fin
abbrev nQ (r:Bool):PV:=PV.bool r
def zY (n:Nat) (b d:List SS):LK (Int) (Bool):=fun c a=>
 bif(decide (a<((qi b).length:Int)))then(
 bnd (idx b a) fun e=>
 bnd (idx d a) fun f=>
 bif(!(e==f))then(
 some false)
 else(
 c (kwr .i64 (a+1))))
 else(
 some true)
def zk (n:Nat) (a b:List SS):Option (Bool):=
 bif(((qi a).length:Int) != ((qi b).length:Int))then(
 some false)
 else(
 qA (zY n a b) n (0:Int))
theorem fb (n:Nat):∀ (a b:List SS) (r:Bool),zk n a b=some r->qc TP 139 [PV.sl (qi a),PV.sl (qi b)] (nQ r):=by
 intro a b r h;unfold zk at h;refine zN Tryz.call139 Tryz.func139 [1000000] ?_;conv=>whnf
 apply ifc h<;>intro d h
 ·obtain rfl:=sj h
  conv=>whnf
  try exact fin
 conv=>whnf
 refine zj.fn [1000000] (S:=Int) (fun c=>[(0,pT a),(1,pT b),(12,.p (.int .i64 ((qi a).length:Int))),(13,pI c)]) (fun c=>[]) (B:=zY n a b) h (wk [] []) ?_;intro _ c h;unfold zY at h;conv=>whnf
 apply ifc h<;>intro d h
 ·conv=>whnf
  refine bq h fun _ f h=>⟨_,Codec.at_ ca f,?_⟩;conv=>whnf
  refine bq h fun _ e h=>⟨_,Codec.at_ ca e,?_⟩;conv=>whnf
  apply ifc h<;>intro d h
  ·obtain rfl:=sj h
   conv=>whnf
   try exact fin
  conv=>whnf
  exact⟨(kwr .i64 (c+1)),h,wk [] []⟩
 obtain rfl:=sj h;conv=>whnf
 try exact fin
end W
end
section
set_option maxRecDepth 100000
set_option maxHeartbeats 4000000
open Go Go.Proofs Ax
namespace W
abbrev dz (r:Bool):PV:=PV.bool r
abbrev qdj:Type:=Val->Val->Option (Bool)
def pD (n:Nat) (g140:qdj) (g187z140:(List Val)->(List Val)->Option (Bool)) (k l:Val):Option (Bool):=
 match k,l with
 | ⟨a,c,d,e,q,s⟩,⟨f,g,i,b,m,o⟩=>
 bnd (qE (bif(bif(bif(a==f)then(c==g)else false)then(d==i)else false)then(e==b)else false) (zk n s o)) fun j=>
 bnd (qE (bif(bif(bif(bif(a==f)then(c==g)else false)then(d==i)else false)then(e==b)else false)then j else false) (g187z140 q m)) fun p=>
 some (bif(bif(bif(bif(bif(a==f)then(c==g)else false)then(d==i)else false)then(e==b)else false)then j else false)then p else false)
abbrev qC (r:Bool):PV:=PV.bool r
def qt (n:Nat) (b l:List Val) (g140:qdj):LK (Int) (Bool):=fun c a=>
 bif(decide (a<((Val.rows b).length:Int)))then(
 bnd (idx b a) fun⟨m,o,p,q,s,t⟩=>
 bnd (idx l a) fun⟨d,e,f,g,i,j⟩=>
 bnd (g140 (Val.mk m o p q s t) (Val.mk d e f g i j)) fun k=>
 bif(!k)then(
 some false)
 else(
 c (kwr .i64 (a+1))))
 else(
 some true)
def qD (n:Nat) (g140:qdj) (g187z140:(List Val)->(List Val)->Option (Bool)) (a b:List Val):Option (Bool):=
 bif(((Val.rows a).length:Int) != ((Val.rows b).length:Int))then(
 some false)
 else(
 qA (qt n a b g140) n (0:Int))
theorem Fv (n:Nat) (g140:qdj) (g187z140:(List Val)->(List Val)->Option (Bool)) (g140_ok:∀ (a b:Val) (r:Bool),g140 a b=some r->qc TP 140 [PV.agg (qS.cells a),PV.agg (qS.cells b)] (dz r)) (g187_140_ok:∀ (d e:List Val) (r:Bool),g187z140 d e=some r->qc TP 187 [PV.sl (Val.rows d),PV.sl (Val.rows e),PV.fn 140] (qC r)):∀ (a b:Val) (r:Bool),pD n g140 g187z140 a b=some r->qc TP 140 [PV.agg (qS.cells a),PV.agg (qS.cells b)] (dz r):=by
 intro a b r h;obtain⟨d,e,_,_,_,_⟩:=a;obtain⟨_,_,_,_,_,_⟩:=b;unfold pD at h;refine zN Tryz.call140 Tryz.func140 [1000000] ?_;conv=>whnf
 iterate 19 refine⟨id,?_⟩
 conv=>whnf
 refine bq h fun _ g h=>⟨_,fun c=>(fb n _ _ _ (qb g c)),?_⟩;conv=>whnf
 refine⟨id,id,id,id,id,?_⟩;conv=>whnf
 refine bq h fun _ f h=>⟨_,fun c=>(g187_140_ok _ _ _ (qb f c)),?_⟩;conv=>whnf
 refine⟨id,?_⟩;obtain rfl:=sj h;conv=>whnf
 try exact fin
theorem xF (n:Nat) (g140:qdj) (g187z140:(List Val)->(List Val)->Option (Bool)) (g140_ok:∀ (d e:Val) (r:Bool),g140 d e=some r->qc TP 140 [PV.agg (qS.cells d),PV.agg (qS.cells e)] (dz r)) (g187_140_ok:∀ (a b:List Val) (r:Bool),g187z140 a b=some r->qc TP 187 [PV.sl (Val.rows a),PV.sl (Val.rows b),PV.fn 140] (qC r)):∀ (a b:List Val) (r:Bool),qD n g140 g187z140 a b=some r->qc TP 187 [PV.sl (Val.rows a),PV.sl (Val.rows b),PV.fn 140] (qC r):=by
 intro a b r h;unfold qD at h;refine zN Tryz.call187 Tryz.func187 [1000000] ?_;conv=>whnf
 apply ifc h<;>intro f h
 ·obtain rfl:=sj h
  conv=>whnf
  try exact fin
 conv=>whnf
 refine zj.fn [1000000] (S:=Int) (fun c=>[(1,pV b),(2,.p (.fn 140)),(15,pV a),(16,.p (.int .i64 ((Val.rows a).length:Int))),(17,pI c)]) (fun c=>[]) (B:=qt n a b g140) h (wk [] []) ?_;intro _ c h;unfold qt at h;conv=>whnf
 apply ifc h<;>intro f h
 ·conv=>whnf
  refine bq h fun⟨_,_,_,_,_,_⟩ j h=>⟨_,Codec.at_ qS j,?_⟩;conv=>whnf
  refine bq h fun⟨_,_,_,_,_,_⟩ i h=>⟨_,Codec.at_ qS i,?_⟩;conv=>whnf
  refine bq h fun _ g h=>⟨_,(g140_ok _ _ _ g),?_⟩;conv=>whnf
  apply ifc h<;>intro f h
  ·obtain rfl:=sj h
   conv=>whnf
   try exact fin
  conv=>whnf
  exact⟨(kwr .i64 (c+1)),h,wk [] []⟩
 obtain rfl:=sj h;conv=>whnf
 try exact fin
mutual
def ui:Nat->Val->Val->Option (Bool)
 | 0=>fun _ _=>none
 | n+1=>pD n (ui n) (qh n)
def qh:Nat->(List Val)->(List Val)->Option (Bool)
 | 0=>fun _ _=>none
 | n+1=>qD n (ui n) (qh n)
end
theorem FD (n:Nat):(∀ (a b:Val) (r:Bool),ui n a b=some r->qc TP 140 [PV.agg (qS.cells a),PV.agg (qS.cells b)] (dz r))/\(∀ (c d:List Val) (r:Bool),qh n c d=some r->qc TP 187 [PV.sl (Val.rows c),PV.sl (Val.rows d),PV.fn 140] (qC r)):=by
 induction n with
 | zero=>exact⟨(by intros; rename_i h; cases h),(by intros; rename_i h; cases h)⟩
 | succ n ih=>
  obtain⟨hg140,hg187_140⟩:=ih;exact⟨Fv n (ui n) (qh n) hg140 hg187_140,xF n (ui n) (qh n) hg140 hg187_140⟩
theorem CX (n:Nat):∀ (a b:Val) (r:Bool),ui n a b=some r->qc TP 140 [PV.agg (qS.cells a),PV.agg (qS.cells b)] (dz r):=(FD n).1
abbrev mu (r:Int):PV:=PV.int .i64 r
abbrev qa5:Type:=Val->Val->Option (Int)
def dL (n:Nat) (c e:List Val) (g88:qa5):LK (Int×Int) (Int):=fun d (b,a)=>
 bif(decide (a<((Val.rows c).length:Int)))then(
 bnd (idx c a) fun⟨f,g,i,j,k,l⟩=>
 bnd (idx e a) fun⟨m,o,p,q,s,t⟩=>
 bnd (g88 (Val.mk f g i j k l) (Val.mk m o p q s t)) fun u=>
 bnd (cH n b u) fun v=>
 d (v,(kwr .i64 (a+1))))
 else(
 some b)
def dr (n:Nat) (g88:qa5) (g i:Val):Option (Int):=
 match g,i with
 | ⟨a,l,m,q,c,f⟩,⟨d,s,t,j,b,e⟩=>
 bif(bif(a==0)then true else(d==0))then(
 some (2:Int))
 else(
 bnd (qE (!(bif(a != d)then true else(((Val.rows c).length:Int) != ((Val.rows b).length:Int)))) (zk n f e)) fun k=>
 bif(bif(bif(a != d)then true else(((Val.rows c).length:Int) != ((Val.rows b).length:Int)))then true else(!k))then(
 some (0:Int))
 else(
 bif(bif(a==4)then true else(a==5))then(
 qA (dL n c b g88) n ((1:Int),(0:Int)))
 else(
 bnd (ui n (Val.mk a l m q c f) (Val.mk d s t j b e)) fun o=>
 bnd (bn n o) fun p=>
 some p)))
theorem Gb (n:Nat) (g88:qa5) (g88_ok:∀ (a b:Val) (r:Int),g88 a b=some r->qc TP 88 [PV.agg (qS.cells a),PV.agg (qS.cells b)] (mu r)):∀ (a b:Val) (r:Int),dr n g88 a b=some r->qc TP 88 [PV.agg (qS.cells a),PV.agg (qS.cells b)] (mu r):=by
 intro a b r h;obtain⟨_,_,_,_,f,_⟩:=a;obtain⟨w,x,y,t,g,u⟩:=b;unfold dr at h;refine zN Tryz.call88 Tryz.func88 [1000000] ?_;conv=>whnf
 refine⟨id,id,id,?_⟩;conv=>whnf
 apply ifc h<;>intro d h
 ·obtain rfl:=sj h
  conv=>whnf
  try exact fin
 conv=>whnf
 iterate 11 refine⟨id,?_⟩
 conv=>whnf
 refine bq h fun _ q h=>⟨_,fun s=>(fb n _ _ _ (qb q s)),?_⟩;conv=>whnf
 refine⟨id,id,?_⟩;conv=>whnf
 apply ifc h<;>intro d h
 ·obtain rfl:=sj h
  conv=>whnf
  try exact fin
 conv=>whnf
 refine⟨id,id,id,?_⟩;conv=>whnf
 apply ifc h<;>intro d h
 ·conv=>whnf
  refine zj.fn [1000000] (S:=Int×Int) (fun(e,c)=>[(3,.ptr 0 0),(5,pI e),(50,pV f),(51,.p (.int .i64 ((Val.rows f).length:Int))),(52,pI c)]) (fun(e,c)=>[.box 25 [pI w,pB x,pI y,pS t,pV g,pT u]]) (B:=dL n f g g88) h (wk [1] []) ?_;intro _ st h;obtain⟨e,c⟩:=st;unfold dL at h;conv=>whnf
  apply ifc h<;>intro d h
  ·conv=>whnf
   refine bq h fun⟨_,_,_,_,_,_⟩ l h=>⟨_,Codec.at_ qS l,?_⟩;conv=>whnf
   refine bq h fun⟨_,_,_,_,_,_⟩ k h=>⟨_,Codec.at_ qS k,?_⟩;conv=>whnf
   refine bq h fun _ j h=>⟨_,(g88_ok _ _ _ j),?_⟩;conv=>whnf
   refine bq h fun v i h=>⟨_,(dx n _ _ _ i),?_⟩;conv=>whnf
   exact⟨(v,(kwr .i64 (c+1))),h,wk [0] []⟩
  obtain rfl:=sj h;conv=>whnf
  try exact fin
 conv=>whnf
 refine bq h fun _ o h=>⟨_,(CX n _ _ _ o),?_⟩;conv=>whnf
 refine bq h fun _ m h=>⟨_,(mg n _ _ m),?_⟩;obtain rfl:=sj h;conv=>whnf
 try exact fin
def uc:Nat->Val->Val->Option (Int)
 | 0=>fun _ _=>none
 | n+1=>dr n (uc n)
theorem Gn (n:Nat):(∀ (a b:Val) (r:Int),uc n a b=some r->qc TP 88 [PV.agg (qS.cells a),PV.agg (qS.cells b)] (mu r)):=by
 induction n with
 | zero=>exact(by intros; rename_i h; cases h)
 | succ n ih=>
  have hg88:=ih;exact Gb n (uc n) hg88
theorem pr (n:Nat):∀ (a b:Val) (r:Int),uc n a b=some r->qc TP 88 [PV.agg (qS.cells a),PV.agg (qS.cells b)] (mu r):=(Gn n)
abbrev Bk (r:Int):PV:=PV.int .i64 r
def pR (n:Nat) (a:Int):Option (Int):=
 bnd (idx [(7:Int),(5:Int),(6:Int),(4:Int),(3:Int),(0:Int),(1:Int),(2:Int)] a) fun b=>
 some b
theorem ZD (n:Nat):∀ (a r:Int),pR n a=some r->qc TP 189 [PV.int .i64 a] (Bk r):=by
 intro a r h;unfold pR at h;refine zN Tryz.call189 Tryz.func189 [1000000] ?_;conv=>whnf
 refine⟨rfl,Gz rfl,?_⟩;conv=>whnf
 refine bq h fun _ b h=>⟨_,qaa (k:=.i64) b rfl (by decide),?_⟩;obtain rfl:=sj h;conv=>whnf
 try exact fin
abbrev Gy (r:Bool):PV:=PV.bool r
def cD (n:Nat) (a:Int):Option (Bool):=
 some (a != a)
theorem tf (n:Nat):∀ (a:Int) (r:Bool),cD n a=some r->qc TP 213 [PV.int .i64 a] (Gy r):=by
 intro a r h;unfold cD at h;refine zN Tryz.call213 Tryz.func213 [1000000] ?_;obtain rfl:=sj h;conv=>whnf
 try exact fin
abbrev VO (r:Int):PV:=PV.int .i64 r
def vS (n:Nat) (a b:Int):Option (Int):=
 bnd (cD n a) fun d=>
 bnd (cD n b) fun c=>
 bif d then(
 bif c then(
 some (0:Int))
 else(
 some (-1:Int)))
 else(
 bif c then(
 some (1:Int))
 else(
 bif(decide (a<b))then(
 some (-1:Int))
 else(
 bif(decide (a>b))then(
 some (1:Int))
 else(
 some (0:Int)))))
theorem di (n:Nat):∀ (b c r:Int),vS n b c=some r->qc TP 188 [PV.int .i64 b,PV.int .i64 c] (VO r):=by
 intro b c r h;unfold vS at h;refine zN Tryz.call188 Tryz.func188 [1000000] ?_;conv=>whnf
 refine bq h fun _ e h=>⟨_,(tf n _ _ e),?_⟩;conv=>whnf
 refine bq h fun _ d h=>⟨_,(tf n _ _ d),?_⟩;conv=>whnf
 apply ifc h<;>intro a h
 ·conv=>whnf
  apply ifc h<;>intro a h
  ·obtain rfl:=sj h
   conv=>whnf
   try exact fin
  obtain rfl:=sj h;conv=>whnf
  try exact fin
 conv=>whnf
 apply ifc h<;>intro a h
 ·obtain rfl:=sj h
  conv=>whnf
  try exact fin
 conv=>whnf
 apply ifc h<;>intro a h
 ·obtain rfl:=sj h
  conv=>whnf
  try exact fin
 conv=>whnf
 apply ifc h<;>intro a h
 ·obtain rfl:=sj h
  conv=>whnf
  try exact fin
 obtain rfl:=sj h;conv=>whnf
 try exact fin
abbrev ZL (r:Int):PV:=PV.int .i64 r
def vC (n:Nat) (a b:SS):Option (Int):=
 bnd (xl n a) fun d=>
 bnd (xl n b) fun c=>
 bif d then(
 bif c then(
 some (0:Int))
 else(
 some (-1:Int)))
 else(
 bif c then(
 some (1:Int))
 else(
 bif(Op.bytesLess a b)then(
 some (-1:Int))
 else(
 bif(!(Op.bytesLess a b||a==b))then(
 some (1:Int))
 else(
 some (0:Int)))))
theorem bZ (n:Nat):∀ (b c:SS) (r:Int),vC n b c=some r->qc TP 190 [PV.str b,PV.str c] (ZL r):=by
 intro b c r h;unfold vC at h;refine zN Tryz.call190 Tryz.func190 [1000000] ?_;conv=>whnf
 refine bq h fun _ e h=>⟨_,(gw n _ _ e),?_⟩;conv=>whnf
 refine bq h fun _ d h=>⟨_,(gw n _ _ d),?_⟩;conv=>whnf
 apply ifc h<;>intro a h
 ·conv=>whnf
  apply ifc h<;>intro a h
  ·obtain rfl:=sj h
   conv=>whnf
   try exact fin
  obtain rfl:=sj h;conv=>whnf
  try exact fin
 conv=>whnf
 apply ifc h<;>intro a h
 ·obtain rfl:=sj h
  conv=>whnf
  try exact fin
 conv=>whnf
 apply ifc h<;>intro a h
 ·obtain rfl:=sj h
  conv=>whnf
  try exact fin
 conv=>whnf
 apply ifc h<;>intro a h
 ·obtain rfl:=sj h
  conv=>whnf
  try exact fin
 obtain rfl:=sj h;conv=>whnf
 try exact fin
abbrev VX (r:Int):PV:=PV.int .i64 r
def gT (n:Nat) (b:List Int):LK (Int) (Int):=fun d a=>
 bif(decide (a<(((xO .i64 b).length:Nat):Int)))then(
 bnd (idx b a) fun c=>
 bif(c != 0)then(
 some c)
 else(
 d (kwr .i64 (a+1))))
 else(
 some (0:Int))
def uP (n:Nat) (a:List Int):Option (Int):=
 qA (gT n a) n (0:Int)
theorem px (n:Nat):∀ (a:List Int) (r:Int),uP n a=some r->qc TP 191 [PV.sl (xO .i64 a)] (VX r):=by
 intro a r h;unfold uP at h;refine zN Tryz.call191 Tryz.func191 [1000000] ?_;conv=>whnf
 refine zj.fn [1000000] (S:=Int) (fun b=>[(3,zq0),(6,.p (.sl (xO .i64 a))),(7,.p (.int .i64 (((xO .i64 a).length:Nat):Int))),(8,pI b)]) (fun b=>[]) (B:=gT n a) h (wk [] []) ?_;intro _ b h;unfold gT at h;conv=>whnf
 apply ifc h<;>intro d h
 ·conv=>whnf
  refine bq h fun _ c h=>⟨_,Codec.at_ (qbp .i64) c,?_⟩;conv=>whnf
  apply ifc h<;>intro d h
  ·obtain rfl:=sj h
   conv=>whnf
   try exact fin
  conv=>whnf
  exact⟨(kwr .i64 (b+1)),h,wk [] []⟩
 obtain rfl:=sj h;conv=>whnf
 try exact fin
abbrev FY (r:Int):PV:=PV.int .i64 r
def fT (n:Nat) (a:Bool):Option (Int):=
 bif a then(
 some (1:Int))
 else(
 some (0:Int))
theorem Ql (n:Nat):∀ (a:Bool) (r:Int),fT n a=some r->qc TP 192 [PV.bool a] (FY r):=by
 intro a r h;unfold fT at h;refine zN Tryz.call192 Tryz.func192 [1000000] ?_;conv=>whnf
 apply ifc h<;>intro _ h
 ·obtain rfl:=sj h
  conv=>whnf
  try exact fin
 obtain rfl:=sj h;conv=>whnf
 try exact fin
abbrev mv (r:Int):PV:=PV.int .i64 r
def dM (n:Nat) (v:List Val) (a:Int) (d:List Val) (g141:qa5) (c:Int->Option (Int)):Int->Option (Int):=fun e=>
 bnd (idx v a) fun⟨f,g,i,j,k,l⟩=>
 bnd (idx d a) fun⟨m,o,p,q,s,t⟩=>
 bnd (g141 (Val.mk f g i j k l) (Val.mk m o p q s t)) fun u=>
 bnd (uP n [e,u]) fun b=>
 bif(b != 0)then(
 some b)
 else(
 c (kwr .i64 (a+1)))
def dN (n:Nat) (c b:List Val) (e:Int) (x g:List SS) (g141:qa5) (i y:Bool) (j z:Int) (u f:SS):LK (Int) (Int):=fun d a=>
 bif(bif(decide (a<((Val.rows c).length:Int)))then(decide (a<((Val.rows b).length:Int)))else false)then(
 bif(e==5)then(
 bnd (idx x a) fun k=>
 bnd (idx g a) fun l=>
 bnd (vC n k l) fun m=>
 dM n c a b g141 d m)
 else(
 dM n c a b g141 d (0:Int)))
 else(
 bnd (vS n ((Val.rows c).length:Int) ((Val.rows b).length:Int)) fun o=>
 bnd (fT n i) fun p=>
 bnd (fT n y) fun q=>
 bnd (vS n p q) fun s=>
 bnd (xd n j z) fun t=>
 bnd (vC n u f) fun v=>
 bnd (uP n [o,s,t,v]) fun w=>
 some w)
def ds (n:Nat) (g141:qa5) (c d:Val):Option (Int):=
 match c,d with
 | ⟨a,l,m,o,p,q⟩,⟨b,s,t,e,f,g⟩=>
 bif(a != b)then(
 bnd (pR n (kwr .i64 (((jr IntKind.i64.bits a &&& jr IntKind.i64.bits (7:Int)).toNat:Nat):Int))) fun i=>
 bnd (pR n (kwr .i64 (((jr IntKind.i64.bits b &&& jr IntKind.i64.bits (7:Int)).toNat:Nat):Int))) fun j=>
 bnd (vS n i j) fun k=>
 some k)
 else(
 qA (dN n p f a q g g141 l s m t o e) n (0:Int))
theorem Gc (n:Nat) (g141:qa5) (g141_ok:∀ (a b:Val) (r:Int),g141 a b=some r->qc TP 141 [PV.agg (qS.cells a),PV.agg (qS.cells b)] (mv r)):∀ (a b:Val) (r:Int),ds n g141 a b=some r->qc TP 141 [PV.agg (qS.cells a),PV.agg (qS.cells b)] (mv r):=by
 intro a b r h;obtain⟨i,l,m,o,f,p⟩:=a;obtain⟨y,q,s,j,e,k⟩:=b;unfold ds at h;refine zN Tryz.call141 Tryz.func141 [1000000] ?_;conv=>whnf
 apply ifc h<;>intro g h
 ·conv=>whnf
  refine bq h fun _ K h=>⟨_,(ZD n _ _ K),?_⟩;conv=>whnf
  refine bq h fun _ J h=>⟨_,(ZD n _ _ J),?_⟩;conv=>whnf
  refine bq h fun _ z h=>⟨_,(di n _ _ _ z),?_⟩;obtain rfl:=sj h;conv=>whnf
  try exact fin
 conv=>whnf
 refine zj.fn [1000000] (S:=Int) (fun c=>[(2,.ptr 0 0),(3,.ptr 1 0),(5,pI c)]) (fun c=>[.box 25 [pI i,pB l,pI m,pS o,pV f,pT p],.box 25 [pI y,pB q,pI s,pS j,pV e,pT k]]) (B:=dN n f e i p k g141 l q m s o j) h (wk [0,1] []) ?_;intro R c h;unfold dN at h;conv=>whnf
 refine⟨id,id,id,id,id,?_⟩;conv=>whnf
 apply ifc h<;>intro g h
 ·conv=>whnf
  refine mw.cut (S:=Int) (fun d=>[(2,.ptr 0 0),(3,.ptr 1 0),(5,pI c),(6,pI d)]) (fun d=>[.box 25 [pI i,pB l,pI m,pS o,pV f,pT p],.box 25 [pI y,pB q,pI s,pS j,pV e,pT k]]) (dM n f c e g141 R) (r:=r) ?_ ?_
  ·intro d h
   unfold dM at h;conv=>whnf
   refine bq h fun⟨_,_,_,_,_,_⟩ O h=>⟨_,Codec.at_ qS O,?_⟩;conv=>whnf
   refine bq h fun⟨_,_,_,_,_,_⟩ N h=>⟨_,Codec.at_ qS N,?_⟩;conv=>whnf
   refine bq h fun t M h=>⟨_,(g141_ok _ _ _ M),?_⟩;conv=>whnf
   refine⟨Codec.one (qbp .i64) [d,t],xO .i64 [d,t],.inl rfl,?_⟩;conv=>whnf
   refine bq h fun _ L h=>⟨_,(px n _ _ L),?_⟩;conv=>whnf
   apply ifc h<;>intro g h
   ·obtain rfl:=sj h
    conv=>whnf
    try exact fin
   conv=>whnf
   exact⟨(kwr .i64 (c+1)),h,wk [0,1] []⟩
  conv=>whnf
  apply ifc h<;>intro g h
  ·conv=>whnf
   refine bq h fun _ A h=>⟨_,Codec.at_ ca A,?_⟩;conv=>whnf
   refine bq h fun _ Q h=>⟨_,Codec.at_ ca Q,?_⟩;conv=>whnf
   refine bq h fun T P h=>⟨_,(bZ n _ _ _ P),?_⟩;conv=>whnf
   exact⟨T,h,wk [0,1] []⟩
  conv=>whnf
  exact⟨(0:Int),h,wk [0,1] []⟩
 conv=>whnf
 refine bq h fun u I h=>⟨_,(di n _ _ _ I),?_⟩;conv=>whnf
 refine bq h fun _ H h=>⟨_,(Ql n _ _ H),?_⟩;conv=>whnf
 refine bq h fun _ G h=>⟨_,(Ql n _ _ G),?_⟩;conv=>whnf
 refine bq h fun v F h=>⟨_,(di n _ _ _ F),?_⟩;conv=>whnf
 refine bq h fun w E h=>⟨_,(fV n _ _ _ E),?_⟩;conv=>whnf
 refine bq h fun x D h=>⟨_,(bZ n _ _ _ D),?_⟩;conv=>whnf
 refine⟨Codec.one (qbp .i64) [u,v,w,x],xO .i64 [u,v,w,x],.inl rfl,?_⟩;conv=>whnf
 refine bq h fun _ C h=>⟨_,(px n _ _ C),?_⟩;obtain rfl:=sj h;conv=>whnf
 try exact fin
def dd:Nat->Val->Val->Option (Int)
 | 0=>fun _ _=>none
 | n+1=>ds n (dd n)
theorem Gp (n:Nat):(∀ (a b:Val) (r:Int),dd n a b=some r->qc TP 141 [PV.agg (qS.cells a),PV.agg (qS.cells b)] (mv r)):=by
 induction n with
 | zero=>exact(by intros; rename_i h; cases h)
 | succ n ih=>
  have hg141:=ih;exact Gc n (dd n) hg141
theorem FC (n:Nat):∀ (a b:Val) (r:Int),dd n a b=some r->qc TP 141 [PV.agg (qS.cells a),PV.agg (qS.cells b)] (mv r):=(Gp n)
abbrev El (r:Int):PV:=PV.int .i64 r
def uL (n:Nat) (c d:Val):Option (Int):=
 match c,d with
 | ⟨a,k,l,m,o,p⟩,⟨b,q,s,e,f,g⟩=>
 bif(bif(bif(a != b)then true else(decide (a<1)))then true else(decide (a>3)))then(
 some (2:Int))
 else(
 bnd (dd n (Val.mk a k l m o p) (Val.mk b q s e f g)) fun i=>
 bnd (bn n (decide (i<0))) fun j=>
 some j)
theorem mm (n:Nat):∀ (a b:Val) (r:Int),uL n a b=some r->qc TP 89 [PV.agg (qS.cells a),PV.agg (qS.cells b)] (El r):=by
 intro a b r h;obtain⟨_,_,_,_,_,_⟩:=a;obtain⟨_,_,_,_,_,_⟩:=b;unfold uL at h;refine zN Tryz.call89 Tryz.func89 [1000000] ?_;conv=>whnf
 iterate 6 refine⟨id,?_⟩
 conv=>whnf
 apply ifc h<;>intro _ h
 ·obtain rfl:=sj h
  conv=>whnf
  try exact fin
 conv=>whnf
 refine bq h fun _ d h=>⟨_,(FC n _ _ _ d),?_⟩;conv=>whnf
 refine bq h fun _ c h=>⟨_,(mg n _ _ c),?_⟩;obtain rfl:=sj h;conv=>whnf
 try exact fin
abbrev Ea (r:Val×Int):PV:=PV.tup [PV.agg (qS.cells r.1),PV.int .i64 r.2]
def ma (n:Nat) (b:Any) (e:Int) (k:Bool) (x:Int) (y:SS) (z:List Val) (A:List SS):LK (Int×Int) (Val×Int):=fun d (c,a)=>
 bif(decide (a<(((Val.rows (Any.get_l b)).length:Nat):Int)))then(
 bnd (idx (Any.get_l b) a) fun⟨f,g,i,j,l,m⟩=>
 bnd (uc n (Val.mk e k x y z A) (Val.mk f g i j l m)) fun o=>
 bnd (rz n c o) fun p=>
 d (p,(kwr .i64 (a+1))))
 else(
 bnd (zL n c) fun⟨q,s,t,u,v,w⟩=>
 some (Val.mk q s t u v w,(0:Int)))
def nL (n:Nat) (i j:Val):Option (Val×Int):=
 match i,j with
 | ⟨k,l,m,o,p,q⟩,⟨a,f,g,b,c,d⟩=>
 bif(a==0)then(
 some (Val.mk a f g b c d,(0:Int)))
 else(
 bnd (qX n (Val.mk a f g b c d)) fun e=>
 bif(!(Any.is_l e))then(
 some (Val.mk (0:Int) false (0:Int) ([]:SS) ([]:List Val) ([]:List SS),(3:Int)))
 else(
 qA (ma n e k l m o p q) n ((0:Int),(0:Int))))
theorem CT (n:Nat):∀ (a b:Val) (r:Val×Int),nL n a b=some r->qc TP 90 [PV.agg (qS.cells a),PV.agg (qS.cells b)] (Ea r):=by
 intro a b r h;obtain⟨g,i,j,k,l,m⟩:=a;obtain⟨_,_,_,_,_,_⟩:=b;unfold nL at h;refine zN Tryz.call90 Tryz.func90 [1000000] ?_;conv=>whnf
 apply ifc h<;>intro f h
 ·obtain rfl:=sj h
  conv=>whnf
  try exact fin
 conv=>whnf
 refine bq h fun c u h=>⟨_,(qO n _ _ u),?_⟩;conv=>whnf
 refine⟨_,Any.as_l c,?_⟩;conv=>whnf
 apply ifc h<;>intro f h
 ·obtain rfl:=sj h
  conv=>whnf
  try exact fin
 conv=>whnf
 refine zj.fn [1000000] (S:=Int×Int) (fun(e,d)=>[(2,.ptr 0 0),(4,.ptr 1 0),(8,pI e),(24,.p (.sl (Val.rows (Any.get_l c)))),(25,.p (.int .i64 (((Val.rows (Any.get_l c)).length:Nat):Int))),(26,pI d)]) (fun(e,d)=>[.box 25 [pI g,pB i,pI j,pS k,pV l,pT m],zq6]) (B:=ma n c g i j k l m) h (wk [0,2] []) ?_;intro _ st h;obtain⟨e,d⟩:=st;unfold ma at h;conv=>whnf
 apply ifc h<;>intro f h
 ·conv=>whnf
  refine bq h fun⟨_,_,_,_,_,_⟩ s h=>⟨_,Codec.at_ qS s,?_⟩;conv=>whnf
  refine bq h fun _ q h=>⟨_,(pr n _ _ _ q),?_⟩;conv=>whnf
  refine bq h fun v o h=>⟨_,(QW n _ _ _ o),?_⟩;conv=>whnf
  exact⟨(v,(kwr .i64 (d+1))),h,wk [0,1] []⟩
 conv=>whnf
 refine bq h fun⟨_,_,_,_,_,_⟩ t h=>⟨_,(zX n _ _ t),?_⟩;obtain rfl:=sj h;conv=>whnf
 try exact fin
abbrev Lc (r:Val):PV:=PV.agg (qS.cells r)
def gJ (n:Nat) (a:SS):Option (Val):=
 some (Val.mk (3:Int) false (0:Int) a ([]:List Val) ([]:List SS))
theorem nm (n:Nat):∀ (a:SS) (r:Val),gJ n a=some r->qc TP 142 [PV.str a] (Lc r):=by
 intro a r h;unfold gJ at h;refine zN Tryz.call142 Tryz.func142 [1000000] ?_;obtain rfl:=sj h;conv=>whnf
 try exact fin
abbrev dp (r:List Val):PV:=PV.sl (Val.rows r)
def zS (n:Nat) (c:List (List Val)):LK (List Val×Int) (List Val):=fun e (a,b)=>
 bif(decide (b<(((ZH qS c).length:Nat):Int)))then(
 bnd (idx c b) fun d=>
 chk (decide ((Val.rows (a++d)).length * 88<=140737488355328)) (
 e ((a++d),(kwr .i64 (b+1)))))
 else(
 some a)
def zR (n:Nat) (a:List (List Val)):LK (Int×Int) (List Val):=fun e (b,c)=>
 bif(decide (c<(((ZH qS a).length:Nat):Int)))then(
 bnd (idx a c) fun d=>
 bif(decide ((kwr .i64 (b+((Val.rows d).length:Int)))<0))then(
 none)
 else(
 e ((kwr .i64 (b+((Val.rows d).length:Int))),(kwr .i64 (c+1)))))
 else(
 bnd (Qq b) fun f=>
 chk (decide (f * 88<=140737488355328)) (
 qA (zS n a) n (([]:List Val),(0:Int))))
def zD (n:Nat) (a:List (List Val)):Option (List Val):=
 qA (zR n a) n ((0:Int),(0:Int))
theorem dc (n:Nat):∀ (b:List (List Val)) (r:List Val),zD n b=some r->qc TP 143 [PV.sl (ZH qS b)] (dp r):=by
 intro b r h;unfold zD at h;refine zN Tryz.call143 Tryz.func143 [193,1000000] ?_;conv=>whnf
 refine zj.fn [193,1000000] (S:=Int×Int) (fun(d,e)=>[(0,.p (.sl (ZH qS b))),(3,pI d),(9,.p (.sl (ZH qS b))),(10,.p (.int .i64 (((ZH qS b).length:Nat):Int))),(11,pI e)]) (fun(d,e)=>[]) (B:=zR n b) h (wk [] []) ?_;intro _ st h;obtain⟨d,e⟩:=st;unfold zR at h;conv=>whnf
 apply ifc h<;>intro i h
 ·conv=>whnf
  refine mw.go ?_;conv=>whnf
  refine bq h fun o j h=>⟨_,Codec.at_ (slC qS) j,?_⟩;conv=>whnf
  apply ifc h<;>intro i h
  ·cases h
  conv=>whnf
  exact⟨((kwr .i64 (d+((Val.rows o).length:Int))),(kwr .i64 (e+1))),h,wk [] []⟩
 conv=>whnf
 refine bq h fun _ k h=>?_;obtain⟨l,h⟩:=qg h;refine zU (ee k (kod l)) [] [] ?_;rintro _ _ ⟨rfl,rfl⟩;refine⟨.tsl 0 (Val.rows ([]:List Val)),[.tail 25 6 (Val.rows ([]:List Val)).length],rfl,rfl,?_⟩;conv=>whnf
 refine zj.fn [193,1000000] (S:=List Val×Int) (fun(a,f)=>[(6,.tsl 0 (Val.rows a)),(25,.p (.sl (ZH qS b))),(26,.p (.int .i64 (((ZH qS b).length:Nat):Int))),(27,pI f)]) (fun(a,f)=>[.tail 25 6 (Val.rows a).length]) (B:=zS n b) h (wk [0] []) ?_;intro _ st h;obtain⟨a,f⟩:=st;unfold zS at h;conv=>whnf
 apply ifc h<;>intro i h
 ·conv=>whnf
  refine bq h fun c m h=>⟨_,Codec.at_ (slC qS) m,?_⟩;conv=>whnf
  first|rw[show Val.rows a++Val.rows c=Val.rows (a++c)from Codec.append qS a c]|rw[show Val.rows a++qS.rows c=Val.rows (a++c)from Codec.append qS a c]
  conv=>whnf
  obtain⟨g,h⟩:=qg h;refine⟨⟨Codec.wide qS (a++c),kod g,zy g (by decide)⟩,?_⟩;conv=>whnf
  refine⟨⟨rfl,rfl,rfl⟩,?_⟩;conv=>whnf
  exact⟨((a++c),(kwr .i64 (f+1))),h,wk [1] []⟩
 obtain rfl:=sj h;conv=>whnf
 try exact fin
abbrev Pz (r:Int×Int):PV:=PV.tup [PV.int .i64 r.1,PV.int .i64 r.2]
def Xr (n:Nat) (a b:Int):Option (Int×Int):=
 bif(bif((decide (a<0))==(decide (b<0)))then(!((decide ((kwr .i64 (a+b))<0))==(decide (a<0))))else false)then(
 some ((0:Int),(4:Int)))
 else(
 some ((kwr .i64 (a+b)),(0:Int)))
theorem Mo (n:Nat):∀ (a b:Int) (r:Int×Int),Xr n a b=some r->qc TP 144 [PV.int .i64 a,PV.int .i64 b] (Pz r):=by
 intro a b r h;unfold Xr at h;refine zN Tryz.call144 Tryz.func144 [1000000] ?_;conv=>whnf
 refine⟨id,id,id,id,id,?_⟩;conv=>whnf
 apply ifc h<;>intro _ h
 ·obtain rfl:=sj h
  conv=>whnf
  try exact fin
 obtain rfl:=sj h;conv=>whnf
 try exact fin
abbrev tP (r:Val×Int):PV:=PV.tup [PV.agg (qS.cells r.1),PV.int .i64 r.2]
def xJ (n:Nat) (f g:Val):Option (Val×Int):=
 match f,g with
 | ⟨a,q,v,w,x,y⟩,⟨e,z,A,i,j,k⟩=>
 bif(bif(a==0)then true else(e==0))then(
 some (Val.mk (0:Int) false (0:Int) ([]:SS) ([]:List Val) ([]:List SS),(0:Int)))
 else(
 bnd (qX n (Val.mk a q v w x y)) fun b=>
 bnd (qX n (Val.mk e z A i j k)) fun c=>
 bif(bif(!(Any.is_i b))then true else(!(Any.is_i c)))then(
 some (Val.mk (0:Int) false (0:Int) ([]:SS) ([]:List Val) ([]:List SS),(3:Int)))
 else(
 bnd (Xr n (Any.get_i b) (Any.get_i c)) fun⟨l,d⟩=>
 bif(d != 0)then(
 some (Val.mk (0:Int) false (0:Int) ([]:SS) ([]:List Val) ([]:List SS),d))
 else(
 bnd (zB n l) fun⟨m,o,p,s,t,u⟩=>
 some (Val.mk m o p s t u,(0:Int)))))
theorem sI (n:Nat):∀ (a b:Val) (r:Val×Int),xJ n a b=some r->qc TP 55 [PV.agg (qS.cells a),PV.agg (qS.cells b),PV.fn 144] (tP r):=by
 intro a b r h;obtain⟨_,_,_,_,_,_⟩:=a;obtain⟨_,_,_,_,_,_⟩:=b;unfold xJ at h;refine zN Tryz.call55 Tryz.func55 [1000000] ?_;conv=>whnf
 refine⟨id,id,id,?_⟩;conv=>whnf
 apply ifc h<;>intro c h
 ·obtain rfl:=sj h
  conv=>whnf
  try exact fin
 conv=>whnf
 refine bq h fun i g h=>⟨_,(qO n _ _ g),?_⟩;conv=>whnf
 refine⟨_,Any.as_i i,?_⟩;conv=>whnf
 refine bq h fun j f h=>⟨_,(qO n _ _ f),?_⟩;conv=>whnf
 refine⟨_,Any.as_i j,?_⟩;conv=>whnf
 refine⟨id,id,?_⟩;conv=>whnf
 apply ifc h<;>intro c h
 ·obtain rfl:=sj h
  conv=>whnf
  try exact fin
 conv=>whnf
 refine bq h fun⟨_,_⟩ e h=>⟨_,(Mo n _ _ _ e),?_⟩;conv=>whnf
 apply ifc h<;>intro c h
 ·obtain rfl:=sj h
  conv=>whnf
  try exact fin
 conv=>whnf
 refine bq h fun⟨_,_,_,_,_,_⟩ d h=>⟨_,(xT n _ _ d),?_⟩;obtain rfl:=sj h;conv=>whnf
 try exact fin
end W
end
section
set_option maxRecDepth 100000
set_option maxHeartbeats 4000000
open Go Go.Proofs Ax
namespace W
abbrev HY (r:Val×Int):PV:=PV.tup [PV.agg (qS.cells r.1),PV.int .i64 r.2]
def fN (n:Nat) (a:Int) (m:Bool) (o:Int) (p:SS) (q:List Val) (s:List SS) (t:Int) (u:Bool) (v:Int) (b:SS) (c:List Val) (d:List SS):Unit->Option (Val×Int):=fun _=>
 bnd (xJ n (Val.mk a m o p q s) (Val.mk t u v b c d)) fun⟨⟨e,f,g,i,j,k⟩,l⟩=>
 some (Val.mk e f g i j k,l)
def fM (n:Nat) (a:Int) (e:Bool) (f:Int) (g:SS) (i:List Val) (j:List SS) (k:Int) (l:Bool) (m:Int) (b:SS) (c:List Val) (d:List SS):Unit->Option (Val×Int):=fun _=>
 bnd (qX n (Val.mk a e f g i j)) fun o=>
 bif(Any.is_l o)then(
 bnd (qX n (Val.mk k l m b c d)) fun p=>
 bif(Any.is_l p)then(
 bnd (zD n [(Any.get_l o),(Any.get_l p)]) fun q=>
 bnd (uU n q) fun⟨s,t,u,v,w,x⟩=>
 bnd (gH n (Val.mk s t u v w x)) fun⟨⟨y,z,A,B,C,D⟩,E⟩=>
 some (Val.mk y z A B C D,E))
 else(
 fN n a e f g i j k l m b c d ()))
 else(
 fN n a e f g i j k l m b c d ())
def sc (n:Nat) (q s:Val):Option (Val×Int):=
 match q,s with
 | ⟨a,e,f,j,k,l⟩,⟨m,o,p,b,c,d⟩=>
 bnd (qX n (Val.mk a e f j k l)) fun g=>
 bif(Any.is_s g)then(
 bnd (qX n (Val.mk m o p b c d)) fun i=>
 bif(Any.is_s i)then(
 chk (decide ((((Any.get_s g).length+(Any.get_s i).length:Nat):Int)<=Vr)) (
 bnd (gJ n ((Any.get_s g)++(Any.get_s i))) fun⟨t,u,v,w,x,y⟩=>
 bnd (gH n (Val.mk t u v w x y)) fun⟨⟨z,A,B,C,D,E⟩,F⟩=>
 some (Val.mk z A B C D E,F)))
 else(
 fM n a e f j k l m o p b c d ()))
 else(
 fM n a e f j k l m o p b c d ())
theorem Du (n:Nat):∀ (a b:Val) (r:Val×Int),sc n a b=some r->qc TP 91 [PV.agg (qS.cells a),PV.agg (qS.cells b)] (HY r):=by
 intro a b r h;obtain⟨c,g,i,j,k,l⟩:=a;obtain⟨m,o,p,d,e,f⟩:=b;unfold sc at h;refine zN Tryz.call91 Tryz.func91 [1000000] ?_;conv=>whnf
 refine mw.cut (S:=Unit) (fun _=>[(2,.ptr 0 0),(3,.ptr 1 0),(4,.ptr 2 0)]) (fun _=>[.box 25 [pI c,pB g,pI i,pS j,pV k,pT l],.box 25 [pI m,pB o,pI p,pS d,pV e,pT f],zq6]) (fM n c g i j k l m o p d e f) (r:=r) ?_ ?_
 ·intro _ h
  unfold fM at h;conv=>whnf
  refine mw.cut (S:=Unit) (fun _=>[(2,.ptr 0 0),(3,.ptr 1 0),(4,.ptr 2 0)]) (fun _=>[.box 25 [pI c,pB g,pI i,pS j,pV k,pT l],.box 25 [pI m,pB o,pI p,pS d,pV e,pT f],zq6]) (fN n c g i j k l m o p d e f) (r:=r) ?_ ?_
  ·intro _ h
   unfold fN at h;conv=>whnf
   refine bq h fun⟨⟨_,_,_,_,_,_⟩,_⟩ w h=>⟨_,(sI n _ _ _ w),?_⟩;obtain rfl:=sj h;conv=>whnf
   try exact fin
  conv=>whnf
  refine bq h fun s D h=>⟨_,(qO n _ _ D),?_⟩;conv=>whnf
  refine⟨_,Any.as_l s,?_⟩;conv=>whnf
  apply ifc h<;>intro q h
  ·conv=>whnf
   refine bq h fun t C h=>⟨_,(qO n _ _ C),?_⟩;conv=>whnf
   refine⟨_,Any.as_l t,?_⟩;conv=>whnf
   apply ifc h<;>intro q h
   ·conv=>whnf
    refine⟨Codec.one (slC qS) [(Any.get_l s),(Any.get_l t)],ZH qS [(Any.get_l s),(Any.get_l t)],.inl rfl,?_⟩;(conv=>whnf);refine bq h fun _ B h=>⟨_,(dc n _ _ B),?_⟩;(conv=>whnf);refine bq h fun⟨_,_,_,_,_,_⟩ A h=>⟨_,(ni n _ _ A),?_⟩;(conv=>whnf);refine bq h fun⟨⟨_,_,_,_,_,_⟩,_⟩ z h=>⟨_,(nj n _ _ z),?_⟩;obtain rfl:=sj h;conv=>whnf
    try exact fin
   conv=>whnf
   exact⟨(),h,wk [0,1,2] []⟩
  conv=>whnf
  exact⟨(),h,wk [0,1,2] []⟩
 conv=>whnf
 refine bq h fun u y h=>⟨_,(qO n _ _ y),?_⟩;conv=>whnf
 refine⟨_,Any.as_s u,?_⟩;conv=>whnf
 apply ifc h<;>intro q h
 ·conv=>whnf
  refine bq h fun v x h=>⟨_,(qO n _ _ x),?_⟩;conv=>whnf
  refine⟨_,Any.as_s v,?_⟩;conv=>whnf
  apply ifc h<;>intro q h
  ·conv=>whnf
   obtain⟨G,h⟩:=qg h;refine⟨(kod G:(((Any.get_s u).length+(Any.get_s v).length:Nat):Int)<=Vr),?_⟩;conv=>whnf
   refine bq h fun⟨_,_,_,_,_,_⟩ F h=>⟨_,(nm n _ _ F),?_⟩;conv=>whnf
   refine bq h fun⟨⟨_,_,_,_,_,_⟩,_⟩ E h=>⟨_,(nj n _ _ E),?_⟩;obtain rfl:=sj h;conv=>whnf
   try exact fin
  conv=>whnf
  exact⟨(),h,wk [0,1,2] []⟩
 conv=>whnf
 exact⟨(),h,wk [0,1,2] []⟩
abbrev MH (r:Int):PV:=PV.int .u64 r
def gl (n:Nat) (a:Int):Option (Int):=
 bif(decide (a<0))then(
 some (kwr .u64 (0 - (kwr .u64 a))))
 else(
 some (kwr .u64 a))
theorem fq (n:Nat):∀ (a r:Int),gl n a=some r->qc TP 146 [PV.int .i64 a] (MH r):=by
 intro a r h;unfold gl at h;refine zN Tryz.call146 Tryz.func146 [1000000] ?_;conv=>whnf
 apply ifc h<;>intro _ h
 ·obtain rfl:=sj h
  conv=>whnf
  try exact fin
 obtain rfl:=sj h;conv=>whnf
 try exact fin
abbrev VW (r:Int×Int):PV:=PV.tup [PV.int .u64 r.1,PV.int .u64 r.2]
def cZ (n:Nat) (a b:Int):Option (Int×Int):=
 some ((kwr .u64 ((kwr .u64 ((kwr .u64 ((Int.fdiv a (2 ^ (min (Int.toNat (32:Int)) IntKind.u64.bits))) * (Int.fdiv b (2 ^ (min (Int.toNat (32:Int)) IntKind.u64.bits)))))+(Int.fdiv (kwr .u64 ((kwr .u64 ((Int.fdiv a (2 ^ (min (Int.toNat (32:Int)) IntKind.u64.bits))) * (kwr .u64 (((jr IntKind.u64.bits b &&& jr IntKind.u64.bits (4294967295:Int)).toNat:Nat):Int))))+(Int.fdiv (kwr .u64 ((kwr .u64 (((jr IntKind.u64.bits a &&& jr IntKind.u64.bits (4294967295:Int)).toNat:Nat):Int)) * (kwr .u64 (((jr IntKind.u64.bits b &&& jr IntKind.u64.bits (4294967295:Int)).toNat:Nat):Int)))) (2 ^ (min (Int.toNat (32:Int)) IntKind.u64.bits))))) (2 ^ (min (Int.toNat (32:Int)) IntKind.u64.bits)))))+(Int.fdiv (kwr .u64 ((kwr .u64 (((jr IntKind.u64.bits (kwr .u64 ((kwr .u64 ((Int.fdiv a (2 ^ (min (Int.toNat (32:Int)) IntKind.u64.bits))) * (kwr .u64 (((jr IntKind.u64.bits b &&& jr IntKind.u64.bits (4294967295:Int)).toNat:Nat):Int))))+(Int.fdiv (kwr .u64 ((kwr .u64 (((jr IntKind.u64.bits a &&& jr IntKind.u64.bits (4294967295:Int)).toNat:Nat):Int)) * (kwr .u64 (((jr IntKind.u64.bits b &&& jr IntKind.u64.bits (4294967295:Int)).toNat:Nat):Int)))) (2 ^ (min (Int.toNat (32:Int)) IntKind.u64.bits))))) &&& jr IntKind.u64.bits (4294967295:Int)).toNat:Nat):Int))+(kwr .u64 ((kwr .u64 (((jr IntKind.u64.bits a &&& jr IntKind.u64.bits (4294967295:Int)).toNat:Nat):Int)) * (Int.fdiv b (2 ^ (min (Int.toNat (32:Int)) IntKind.u64.bits))))))) (2 ^ (min (Int.toNat (32:Int)) IntKind.u64.bits))))),(kwr .u64 (a * b)))
theorem Vn (n:Nat):∀ (a b:Int) (r:Int×Int),cZ n a b=some r->qc TP 145 [PV.int .u64 a,PV.int .u64 b] (VW r):=by
 intro a b r h;unfold cZ at h;refine zN Tryz.call145 Tryz.func145 [1000000] ?_;conv=>whnf
 refine⟨by unfold gI; decide,?_⟩;conv=>whnf
 refine⟨by unfold gI; decide,?_⟩;conv=>whnf
 refine⟨by unfold gI; decide,?_⟩;conv=>whnf
 refine⟨by unfold gI; decide,?_⟩;conv=>whnf
 refine⟨by unfold gI; decide,?_⟩;obtain rfl:=sj h;conv=>whnf
 try exact fin
abbrev Ej (r:Int×Int):PV:=PV.tup [PV.int .i64 r.1,PV.int .i64 r.2]
def cI (n:Nat) (a:Int) (b:Bool):Option (Int×Int):=
 bif(bif b then(decide (a<=9223372036854775808))else false)then(
 some ((kwr .i64 (kwr .u64 (0 - a))),(0:Int)))
 else(
 bif(bif(!b)then(decide (a<9223372036854775808))else false)then(
 some ((kwr .i64 a),(0:Int)))
 else(
 some ((0:Int),(4:Int))))
theorem so (n:Nat):∀ (a:Int) (b:Bool) (r:Int×Int),cI n a b=some r->qc TP 147 [PV.int .u64 a,PV.bool b] (Ej r):=by
 intro a b r h;unfold cI at h;refine zN Tryz.call147 Tryz.func147 [1000000] ?_;conv=>whnf
 refine⟨id,id,?_⟩;conv=>whnf
 apply ifc h<;>intro c h
 ·obtain rfl:=sj h
  conv=>whnf
  try exact fin
 conv=>whnf
 refine⟨id,id,?_⟩;conv=>whnf
 apply ifc h<;>intro c h
 ·obtain rfl:=sj h
  conv=>whnf
  try exact fin
 obtain rfl:=sj h;conv=>whnf
 try exact fin
abbrev PC (r:Int×Int):PV:=PV.tup [PV.int .i64 r.1,PV.int .i64 r.2]
def Xu (n:Nat) (a b:Int):Option (Int×Int):=
 bnd (gl n a) fun c=>
 bnd (gl n b) fun d=>
 bnd (cZ n c d) fun⟨e,f⟩=>
 bif(decide (e>0))then(
 some ((0:Int),(4:Int)))
 else(
 bnd (cI n f (!((decide (a<0))==(decide (b<0))))) fun⟨g,i⟩=>
 some (g,i))
theorem Mr (n:Nat):∀ (a b:Int) (r:Int×Int),Xu n a b=some r->qc TP 92 [PV.int .i64 a,PV.int .i64 b] (PC r):=by
 intro a b r h;unfold Xu at h;refine zN Tryz.call92 Tryz.func92 [1000000] ?_;conv=>whnf
 refine bq h fun _ f h=>⟨_,(fq n _ _ f),?_⟩;conv=>whnf
 refine bq h fun _ e h=>⟨_,(fq n _ _ e),?_⟩;conv=>whnf
 refine bq h fun⟨_,_⟩ d h=>⟨_,(Vn n _ _ _ d),?_⟩;conv=>whnf
 apply ifc h<;>intro _ h
 ·obtain rfl:=sj h
  conv=>whnf
  try exact fin
 conv=>whnf
 refine bq h fun⟨_,_⟩ c h=>⟨_,(so n _ _ _ c),?_⟩;obtain rfl:=sj h;conv=>whnf
 try exact fin
abbrev tS (r:Val×Int):PV:=PV.tup [PV.agg (qS.cells r.1),PV.int .i64 r.2]
def vt (n:Nat) (f g:Val):Option (Val×Int):=
 match f,g with
 | ⟨a,q,v,w,x,y⟩,⟨e,z,A,i,j,k⟩=>
 bif(bif(a==0)then true else(e==0))then(
 some (Val.mk (0:Int) false (0:Int) ([]:SS) ([]:List Val) ([]:List SS),(0:Int)))
 else(
 bnd (qX n (Val.mk a q v w x y)) fun b=>
 bnd (qX n (Val.mk e z A i j k)) fun c=>
 bif(bif(!(Any.is_i b))then true else(!(Any.is_i c)))then(
 some (Val.mk (0:Int) false (0:Int) ([]:SS) ([]:List Val) ([]:List SS),(3:Int)))
 else(
 bnd (Xu n (Any.get_i b) (Any.get_i c)) fun⟨l,d⟩=>
 bif(d != 0)then(
 some (Val.mk (0:Int) false (0:Int) ([]:SS) ([]:List Val) ([]:List SS),d))
 else(
 bnd (zB n l) fun⟨m,o,p,s,t,u⟩=>
 some (Val.mk m o p s t u,(0:Int)))))
theorem sL (n:Nat):∀ (a b:Val) (r:Val×Int),vt n a b=some r->qc TP 55 [PV.agg (qS.cells a),PV.agg (qS.cells b),PV.fn 92] (tS r):=by
 intro a b r h;obtain⟨_,_,_,_,_,_⟩:=a;obtain⟨_,_,_,_,_,_⟩:=b;unfold vt at h;refine zN Tryz.call55 Tryz.func55 [1000000] ?_;conv=>whnf
 refine⟨id,id,id,?_⟩;conv=>whnf
 apply ifc h<;>intro c h
 ·obtain rfl:=sj h
  conv=>whnf
  try exact fin
 conv=>whnf
 refine bq h fun i g h=>⟨_,(qO n _ _ g),?_⟩;conv=>whnf
 refine⟨_,Any.as_i i,?_⟩;conv=>whnf
 refine bq h fun j f h=>⟨_,(qO n _ _ f),?_⟩;conv=>whnf
 refine⟨_,Any.as_i j,?_⟩;conv=>whnf
 refine⟨id,id,?_⟩;conv=>whnf
 apply ifc h<;>intro c h
 ·obtain rfl:=sj h
  conv=>whnf
  try exact fin
 conv=>whnf
 refine bq h fun⟨_,_⟩ e h=>⟨_,(Mr n _ _ _ e),?_⟩;conv=>whnf
 apply ifc h<;>intro c h
 ·obtain rfl:=sj h
  conv=>whnf
  try exact fin
 conv=>whnf
 refine bq h fun⟨_,_,_,_,_,_⟩ d h=>⟨_,(xT n _ _ d),?_⟩;obtain rfl:=sj h;conv=>whnf
 try exact fin
abbrev PA (r:Int×Int):PV:=PV.tup [PV.int .i64 r.1,PV.int .i64 r.2]
def Xs (n:Nat) (b a:Int):Option (Int×Int):=
 bif(a==0)then(
 some ((0:Int),(4:Int)))
 else(
 bnd (gl n b) fun d=>
 bnd (gl n a) fun c=>
 chk (decide (c≠0)) (
 bnd (cI n (kwr .u64 (Int.tdiv d c)) (!((decide (b<0))==(decide (a<0))))) fun⟨e,f⟩=>
 some (e,f)))
theorem Mp (n:Nat):∀ (a b:Int) (r:Int×Int),Xs n a b=some r->qc TP 93 [PV.int .i64 a,PV.int .i64 b] (PA r):=by
 intro a b r h;unfold Xs at h;refine zN Tryz.call93 Tryz.func93 [1000000] ?_;conv=>whnf
 apply ifc h<;>intro _ h
 ·obtain rfl:=sj h
  conv=>whnf
  try exact fin
 conv=>whnf
 refine bq h fun _ f h=>⟨_,(fq n _ _ f),?_⟩;conv=>whnf
 refine bq h fun g e h=>⟨_,(fq n _ _ e),?_⟩;conv=>whnf
 obtain⟨d,h⟩:=qg h;refine⟨(kod d:g≠0),?_⟩;conv=>whnf
 refine bq h fun⟨_,_⟩ c h=>⟨_,(so n _ _ _ c),?_⟩;obtain rfl:=sj h;conv=>whnf
 try exact fin
abbrev tQ (r:Val×Int):PV:=PV.tup [PV.agg (qS.cells r.1),PV.int .i64 r.2]
def vq (n:Nat) (f g:Val):Option (Val×Int):=
 match f,g with
 | ⟨a,q,v,w,x,y⟩,⟨e,z,A,i,j,k⟩=>
 bif(bif(a==0)then true else(e==0))then(
 some (Val.mk (0:Int) false (0:Int) ([]:SS) ([]:List Val) ([]:List SS),(0:Int)))
 else(
 bnd (qX n (Val.mk a q v w x y)) fun b=>
 bnd (qX n (Val.mk e z A i j k)) fun c=>
 bif(bif(!(Any.is_i b))then true else(!(Any.is_i c)))then(
 some (Val.mk (0:Int) false (0:Int) ([]:SS) ([]:List Val) ([]:List SS),(3:Int)))
 else(
 bnd (Xs n (Any.get_i b) (Any.get_i c)) fun⟨l,d⟩=>
 bif(d != 0)then(
 some (Val.mk (0:Int) false (0:Int) ([]:SS) ([]:List Val) ([]:List SS),d))
 else(
 bnd (zB n l) fun⟨m,o,p,s,t,u⟩=>
 some (Val.mk m o p s t u,(0:Int)))))
theorem sJ (n:Nat):∀ (a b:Val) (r:Val×Int),vq n a b=some r->qc TP 55 [PV.agg (qS.cells a),PV.agg (qS.cells b),PV.fn 93] (tQ r):=by
 intro a b r h;obtain⟨_,_,_,_,_,_⟩:=a;obtain⟨_,_,_,_,_,_⟩:=b;unfold vq at h;refine zN Tryz.call55 Tryz.func55 [1000000] ?_;conv=>whnf
 refine⟨id,id,id,?_⟩;conv=>whnf
 apply ifc h<;>intro c h
 ·obtain rfl:=sj h
  conv=>whnf
  try exact fin
 conv=>whnf
 refine bq h fun i g h=>⟨_,(qO n _ _ g),?_⟩;conv=>whnf
 refine⟨_,Any.as_i i,?_⟩;conv=>whnf
 refine bq h fun j f h=>⟨_,(qO n _ _ f),?_⟩;conv=>whnf
 refine⟨_,Any.as_i j,?_⟩;conv=>whnf
 refine⟨id,id,?_⟩;conv=>whnf
 apply ifc h<;>intro c h
 ·obtain rfl:=sj h
  conv=>whnf
  try exact fin
 conv=>whnf
 refine bq h fun⟨_,_⟩ e h=>⟨_,(Mp n _ _ _ e),?_⟩;conv=>whnf
 apply ifc h<;>intro c h
 ·obtain rfl:=sj h
  conv=>whnf
  try exact fin
 conv=>whnf
 refine bq h fun⟨_,_,_,_,_,_⟩ d h=>⟨_,(xT n _ _ d),?_⟩;obtain rfl:=sj h;conv=>whnf
 try exact fin
abbrev PB (r:Int×Int):PV:=PV.tup [PV.int .i64 r.1,PV.int .i64 r.2]
def Xt (n:Nat) (a b:Int):Option (Int×Int):=
 bif(b==0)then(
 some ((0:Int),(4:Int)))
 else(
 bnd (gl n a) fun d=>
 bnd (gl n b) fun c=>
 chk (decide (c≠0)) (
 bnd (cI n (Int.tmod d c) (decide (a<0))) fun⟨e,f⟩=>
 some (e,f)))
theorem Mq (n:Nat):∀ (a b:Int) (r:Int×Int),Xt n a b=some r->qc TP 94 [PV.int .i64 a,PV.int .i64 b] (PB r):=by
 intro a b r h;unfold Xt at h;refine zN Tryz.call94 Tryz.func94 [1000000] ?_;conv=>whnf
 apply ifc h<;>intro _ h
 ·obtain rfl:=sj h
  conv=>whnf
  try exact fin
 conv=>whnf
 refine bq h fun _ f h=>⟨_,(fq n _ _ f),?_⟩;conv=>whnf
 refine bq h fun g e h=>⟨_,(fq n _ _ e),?_⟩;conv=>whnf
 obtain⟨d,h⟩:=qg h;refine⟨(kod d:g≠0),?_⟩;conv=>whnf
 refine bq h fun⟨_,_⟩ c h=>⟨_,(so n _ _ _ c),?_⟩;obtain rfl:=sj h;conv=>whnf
 try exact fin
abbrev tR (r:Val×Int):PV:=PV.tup [PV.agg (qS.cells r.1),PV.int .i64 r.2]
def vr (n:Nat) (f g:Val):Option (Val×Int):=
 match f,g with
 | ⟨a,q,v,w,x,y⟩,⟨e,z,A,i,j,k⟩=>
 bif(bif(a==0)then true else(e==0))then(
 some (Val.mk (0:Int) false (0:Int) ([]:SS) ([]:List Val) ([]:List SS),(0:Int)))
 else(
 bnd (qX n (Val.mk a q v w x y)) fun b=>
 bnd (qX n (Val.mk e z A i j k)) fun c=>
 bif(bif(!(Any.is_i b))then true else(!(Any.is_i c)))then(
 some (Val.mk (0:Int) false (0:Int) ([]:SS) ([]:List Val) ([]:List SS),(3:Int)))
 else(
 bnd (Xt n (Any.get_i b) (Any.get_i c)) fun⟨l,d⟩=>
 bif(d != 0)then(
 some (Val.mk (0:Int) false (0:Int) ([]:SS) ([]:List Val) ([]:List SS),d))
 else(
 bnd (zB n l) fun⟨m,o,p,s,t,u⟩=>
 some (Val.mk m o p s t u,(0:Int)))))
theorem sK (n:Nat):∀ (a b:Val) (r:Val×Int),vr n a b=some r->qc TP 55 [PV.agg (qS.cells a),PV.agg (qS.cells b),PV.fn 94] (tR r):=by
 intro a b r h;obtain⟨_,_,_,_,_,_⟩:=a;obtain⟨_,_,_,_,_,_⟩:=b;unfold vr at h;refine zN Tryz.call55 Tryz.func55 [1000000] ?_;conv=>whnf
 refine⟨id,id,id,?_⟩;conv=>whnf
 apply ifc h<;>intro c h
 ·obtain rfl:=sj h
  conv=>whnf
  try exact fin
 conv=>whnf
 refine bq h fun i g h=>⟨_,(qO n _ _ g),?_⟩;conv=>whnf
 refine⟨_,Any.as_i i,?_⟩;conv=>whnf
 refine bq h fun j f h=>⟨_,(qO n _ _ f),?_⟩;conv=>whnf
 refine⟨_,Any.as_i j,?_⟩;conv=>whnf
 refine⟨id,id,?_⟩;conv=>whnf
 apply ifc h<;>intro c h
 ·obtain rfl:=sj h
  conv=>whnf
  try exact fin
 conv=>whnf
 refine bq h fun⟨_,_⟩ e h=>⟨_,(Mq n _ _ _ e),?_⟩;conv=>whnf
 apply ifc h<;>intro c h
 ·obtain rfl:=sj h
  conv=>whnf
  try exact fin
 conv=>whnf
 refine bq h fun⟨_,_,_,_,_,_⟩ d h=>⟨_,(xT n _ _ d),?_⟩;obtain rfl:=sj h;conv=>whnf
 try exact fin
abbrev HV (r:Val×Int):PV:=PV.tup [PV.agg (qS.cells r.1),PV.int .i64 r.2]
def sa (n:Nat) (o:SS) (p q:Val):Option (Val×Int):=
 match p,q with
 | ⟨e,f,g,i,j,k⟩,⟨l,m,a,b,c,d⟩=>
 bif(o==([65,78,68]:SS))then(
 bnd (vd n (Val.mk e f g i j k) (Val.mk l m a b c d)) fun⟨⟨O,P,Q,R,S,T⟩,U⟩=>
 some (Val.mk O P Q R S T,U))
 else(
 bif(o==([79,82]:SS))then(
 bnd (vv n (Val.mk e f g i j k) (Val.mk l m a b c d)) fun⟨⟨V,W,X,Y,Z,a0⟩,a1⟩=>
 some (Val.mk V W X Y Z a0,a1))
 else(
 bif(o==([88,79,82]:SS))then(
 bnd (ve n (Val.mk e f g i j k) (Val.mk l m a b c d)) fun⟨⟨a2,a3,a4,a5,a6,a7⟩,a8⟩=>
 some (Val.mk a2 a3 a4 a5 a6 a7,a8))
 else(
 bif(o==([61]:SS))then(
 bnd (uc n (Val.mk e f g i j k) (Val.mk l m a b c d)) fun a9=>
 bnd (zL n a9) fun⟨b0,b1,b2,b3,b4,b5⟩=>
 some (Val.mk b0 b1 b2 b3 b4 b5,(0:Int)))
 else(
 bif(o==([60,62]:SS))then(
 bnd (uc n (Val.mk e f g i j k) (Val.mk l m a b c d)) fun b6=>
 bnd (vW n b6) fun b7=>
 bnd (zL n b7) fun⟨b8,b9,c0,c1,c2,c3⟩=>
 some (Val.mk b8 b9 c0 c1 c2 c3,(0:Int)))
 else(
 bif(o==([60]:SS))then(
 bnd (uL n (Val.mk e f g i j k) (Val.mk l m a b c d)) fun c4=>
 bnd (zL n c4) fun⟨c5,c6,c7,c8,c9,d0⟩=>
 some (Val.mk c5 c6 c7 c8 c9 d0,(0:Int)))
 else(
 bif(o==([62]:SS))then(
 bnd (uL n (Val.mk l m a b c d) (Val.mk e f g i j k)) fun d1=>
 bnd (zL n d1) fun⟨d2,d3,d4,d5,d6,d7⟩=>
 some (Val.mk d2 d3 d4 d5 d6 d7,(0:Int)))
 else(
 bif(o==([60,61]:SS))then(
 bnd (uL n (Val.mk l m a b c d) (Val.mk e f g i j k)) fun d8=>
 bnd (vW n d8) fun d9=>
 bnd (zL n d9) fun⟨e0,e1,e2,e3,e4,e5⟩=>
 some (Val.mk e0 e1 e2 e3 e4 e5,(0:Int)))
 else(
 bif(o==([62,61]:SS))then(
 bnd (uL n (Val.mk e f g i j k) (Val.mk l m a b c d)) fun e6=>
 bnd (vW n e6) fun e7=>
 bnd (zL n e7) fun⟨e8,e9,f0,f1,f2,f3⟩=>
 some (Val.mk e8 e9 f0 f1 f2 f3,(0:Int)))
 else(
 bif(o==([73,78]:SS))then(
 bnd (nL n (Val.mk e f g i j k) (Val.mk l m a b c d)) fun⟨⟨f4,f5,f6,f7,f8,f9⟩,g0⟩=>
 some (Val.mk f4 f5 f6 f7 f8 f9,g0))
 else(
 bif(o==([43]:SS))then(
 bnd (sc n (Val.mk e f g i j k) (Val.mk l m a b c d)) fun⟨⟨g1,g2,g3,g4,g5,g6⟩,g7⟩=>
 some (Val.mk g1 g2 g3 g4 g5 g6,g7))
 else(
 bif(o==([45]:SS))then(
 bnd (xK n (Val.mk e f g i j k) (Val.mk l m a b c d)) fun⟨⟨g8,g9,i0,i1,i2,i3⟩,s⟩=>
 some (Val.mk g8 g9 i0 i1 i2 i3,s))
 else(
 bif(o==([42]:SS))then(
 bnd (vt n (Val.mk e f g i j k) (Val.mk l m a b c d)) fun⟨⟨t,u,v,w,x,y⟩,z⟩=>
 some (Val.mk t u v w x y,z))
 else(
 bif(o==([47]:SS))then(
 bnd (vq n (Val.mk e f g i j k) (Val.mk l m a b c d)) fun⟨⟨A,B,C,D,E,F⟩,G⟩=>
 some (Val.mk A B C D E F,G))
 else(
 bnd (vr n (Val.mk e f g i j k) (Val.mk l m a b c d)) fun⟨⟨H,I,J,K,L,M⟩,N⟩=>
 some (Val.mk H I J K L M,N)))))))))))))))
theorem Dt (n:Nat):∀ (d:SS) (b c:Val) (r:Val×Int),sa n d b c=some r->qc TP 62 [PV.str d,PV.agg (qS.cells b),PV.agg (qS.cells c)] (HV r):=by
 intro d b c r h;obtain⟨_,_,_,_,_,_⟩:=b;obtain⟨_,_,_,_,_,_⟩:=c;unfold sa at h;refine zN Tryz.call62 Tryz.func62 [1000000] ?_;conv=>whnf
 apply ifc h<;>intro a h
 ·conv=>whnf
  refine bq h fun⟨⟨_,_,_,_,_,_⟩,_⟩ e h=>⟨_,(sg n _ _ _ e),?_⟩;obtain rfl:=sj h;conv=>whnf
  try exact fin
 conv=>whnf
 apply ifc h<;>intro a h
 ·conv=>whnf
  refine bq h fun⟨⟨_,_,_,_,_,_⟩,_⟩ s h=>⟨_,(sN n _ _ _ s),?_⟩;obtain rfl:=sj h;conv=>whnf
  try exact fin
 conv=>whnf
 apply ifc h<;>intro a h
 ·conv=>whnf
  refine bq h fun⟨⟨_,_,_,_,_,_⟩,_⟩ y h=>⟨_,(sh n _ _ _ y),?_⟩;obtain rfl:=sj h;conv=>whnf
  try exact fin
 conv=>whnf
 apply ifc h<;>intro a h
 ·conv=>whnf
  refine bq h fun _ A h=>⟨_,(pr n _ _ _ A),?_⟩;conv=>whnf
  refine bq h fun⟨_,_,_,_,_,_⟩ z h=>⟨_,(zX n _ _ z),?_⟩;obtain rfl:=sj h;conv=>whnf
  try exact fin
 conv=>whnf
 apply ifc h<;>intro a h
 ·conv=>whnf
  refine bq h fun _ D h=>⟨_,(pr n _ _ _ D),?_⟩;conv=>whnf
  refine bq h fun _ C h=>⟨_,(ub n _ _ C),?_⟩;conv=>whnf
  refine bq h fun⟨_,_,_,_,_,_⟩ B h=>⟨_,(zX n _ _ B),?_⟩;obtain rfl:=sj h;conv=>whnf
  try exact fin
 conv=>whnf
 apply ifc h<;>intro a h
 ·conv=>whnf
  refine bq h fun _ f h=>⟨_,(mm n _ _ _ f),?_⟩;conv=>whnf
  refine bq h fun⟨_,_,_,_,_,_⟩ E h=>⟨_,(zX n _ _ E),?_⟩;obtain rfl:=sj h;conv=>whnf
  try exact fin
 conv=>whnf
 apply ifc h<;>intro a h
 ·conv=>whnf
  refine bq h fun _ i h=>⟨_,(mm n _ _ _ i),?_⟩;conv=>whnf
  refine bq h fun⟨_,_,_,_,_,_⟩ g h=>⟨_,(zX n _ _ g),?_⟩;obtain rfl:=sj h;conv=>whnf
  try exact fin
 conv=>whnf
 apply ifc h<;>intro a h
 ·conv=>whnf
  refine bq h fun _ l h=>⟨_,(mm n _ _ _ l),?_⟩;conv=>whnf
  refine bq h fun _ k h=>⟨_,(ub n _ _ k),?_⟩;conv=>whnf
  refine bq h fun⟨_,_,_,_,_,_⟩ j h=>⟨_,(zX n _ _ j),?_⟩;obtain rfl:=sj h;conv=>whnf
  try exact fin
 conv=>whnf
 apply ifc h<;>intro a h
 ·conv=>whnf
  refine bq h fun _ p h=>⟨_,(mm n _ _ _ p),?_⟩;conv=>whnf
  refine bq h fun _ o h=>⟨_,(ub n _ _ o),?_⟩;conv=>whnf
  refine bq h fun⟨_,_,_,_,_,_⟩ m h=>⟨_,(zX n _ _ m),?_⟩;obtain rfl:=sj h;conv=>whnf
  try exact fin
 conv=>whnf
 apply ifc h<;>intro a h
 ·conv=>whnf
  refine bq h fun⟨⟨_,_,_,_,_,_⟩,_⟩ q h=>⟨_,(CT n _ _ _ q),?_⟩;obtain rfl:=sj h;conv=>whnf
  try exact fin
 conv=>whnf
 apply ifc h<;>intro a h
 ·conv=>whnf
  refine bq h fun⟨⟨_,_,_,_,_,_⟩,_⟩ t h=>⟨_,(Du n _ _ _ t),?_⟩;obtain rfl:=sj h;conv=>whnf
  try exact fin
 conv=>whnf
 apply ifc h<;>intro a h
 ·conv=>whnf
  refine bq h fun⟨⟨_,_,_,_,_,_⟩,_⟩ u h=>⟨_,(dg n _ _ _ u),?_⟩;obtain rfl:=sj h;conv=>whnf
  try exact fin
 conv=>whnf
 apply ifc h<;>intro a h
 ·conv=>whnf
  refine bq h fun⟨⟨_,_,_,_,_,_⟩,_⟩ v h=>⟨_,(sL n _ _ _ v),?_⟩;obtain rfl:=sj h;conv=>whnf
  try exact fin
 conv=>whnf
 apply ifc h<;>intro a h
 ·conv=>whnf
  refine bq h fun⟨⟨_,_,_,_,_,_⟩,_⟩ w h=>⟨_,(sJ n _ _ _ w),?_⟩;obtain rfl:=sj h;conv=>whnf
  try exact fin
 conv=>whnf
 refine bq h fun⟨⟨_,_,_,_,_,_⟩,_⟩ x h=>⟨_,(sK n _ _ _ x),?_⟩;obtain rfl:=sj h;conv=>whnf
 try exact fin
abbrev ZM (r:Bool):PV:=PV.bool r
def gN (n:Nat) (a:Val):Option (Bool):=
 match a with
 | ⟨b,_,_,_,_,_⟩=>
 some (b==0)
theorem QO (n:Nat):∀ (a:Val) (r:Bool),gN n a=some r->qc TP 96 [PV.agg (qS.cells a)] (ZM r):=by
 intro a r h;obtain⟨_,_,_,_,_,_⟩:=a;unfold gN at h;refine zN Tryz.call96 Tryz.func96 [1000000] ?_;obtain rfl:=sj h;conv=>whnf
 try exact fin
abbrev vP (r:Int):PV:=PV.int .i64 r
def qB (n:Nat) (b:List Val):LK (Int) (Int):=fun c a=>
 bif(decide (a<((Val.rows b).length:Int)))then(
 bnd (idx b a) fun⟨d,e,f,g,i,j⟩=>
 bnd (gN n (Val.mk d e f g i j)) fun k=>
 bif k then(
 some a)
 else(
 c (kwr .i64 (a+1))))
 else(
 some (-1:Int))
def qp (n:Nat) (a:List Val):Option (Int):=
 qA (qB n a) n (0:Int)
theorem vL (n:Nat):∀ (a:List Val) (r:Int),qp n a=some r->qc TP 97 [PV.sl (Val.rows a),PV.fn 96] (vP r):=by
 intro a r h;unfold qp at h;refine zN Tryz.call97 Tryz.func97 [1000000] ?_;conv=>whnf
 refine zj.fn [1000000] (S:=Int) (fun b=>[(0,pV a),(1,.p (.fn 96)),(7,.p (.int .i64 ((Val.rows a).length:Int))),(8,pI b)]) (fun b=>[]) (B:=qB n a) h (wk [] []) ?_;intro _ b h;unfold qB at h;conv=>whnf
 apply ifc h<;>intro e h
 ·conv=>whnf
  refine bq h fun⟨_,_,_,_,_,_⟩ d h=>⟨_,Codec.at_ qS d,?_⟩;conv=>whnf
  refine bq h fun _ c h=>⟨_,(QO n _ _ c),?_⟩;conv=>whnf
  apply ifc h<;>intro e h
  ·obtain rfl:=sj h
   conv=>whnf
   try exact fin
  conv=>whnf
  exact⟨(kwr .i64 (b+1)),h,wk [] []⟩
 obtain rfl:=sj h;conv=>whnf
 try exact fin
abbrev vz (r:Bool):PV:=PV.bool r
def qn (n:Nat) (a:List Val):Option (Bool):=
 bnd (qp n a) fun b=>
 some (decide (b≥0))
theorem vm (n:Nat):∀ (a:List Val) (r:Bool),qn n a=some r->qc TP 95 [PV.sl (Val.rows a),PV.fn 96] (vz r):=by
 intro a r h;unfold qn at h;refine zN Tryz.call95 Tryz.func95 [1000000] ?_;conv=>whnf
 refine bq h fun _ b h=>⟨_,(vL n _ _ b),?_⟩;obtain rfl:=sj h;conv=>whnf
 try exact fin
abbrev ZN (r:Bool):PV:=PV.bool r
def gO (n:Nat) (a:Val):Option (Bool):=
 match a with
 | ⟨b,_,_,_,_,_⟩=>
 some (b != 0)
theorem QP (n:Nat):∀ (a:Val) (r:Bool),gO n a=some r->qc TP 98 [PV.agg (qS.cells a)] (ZN r):=by
 intro a r h;obtain⟨_,_,_,_,_,_⟩:=a;unfold gO at h;refine zN Tryz.call98 Tryz.func98 [1000000] ?_;obtain rfl:=sj h;conv=>whnf
 try exact fin
abbrev vQ (r:Int):PV:=PV.int .i64 r
def qL (n:Nat) (b:List Val):LK (Int) (Int):=fun c a=>
 bif(decide (a<((Val.rows b).length:Int)))then(
 bnd (idx b a) fun⟨d,e,f,g,i,j⟩=>
 bnd (gO n (Val.mk d e f g i j)) fun k=>
 bif k then(
 some a)
 else(
 c (kwr .i64 (a+1))))
 else(
 some (-1:Int))
def qF (n:Nat) (a:List Val):Option (Int):=
 qA (qL n a) n (0:Int)
theorem vM (n:Nat):∀ (a:List Val) (r:Int),qF n a=some r->qc TP 97 [PV.sl (Val.rows a),PV.fn 98] (vQ r):=by
 intro a r h;unfold qF at h;refine zN Tryz.call97 Tryz.func97 [1000000] ?_;conv=>whnf
 refine zj.fn [1000000] (S:=Int) (fun b=>[(0,pV a),(1,.p (.fn 98)),(7,.p (.int .i64 ((Val.rows a).length:Int))),(8,pI b)]) (fun b=>[]) (B:=qL n a) h (wk [] []) ?_;intro _ b h;unfold qL at h;conv=>whnf
 apply ifc h<;>intro e h
 ·conv=>whnf
  refine bq h fun⟨_,_,_,_,_,_⟩ d h=>⟨_,Codec.at_ qS d,?_⟩;conv=>whnf
  refine bq h fun _ c h=>⟨_,(QP n _ _ c),?_⟩;conv=>whnf
  apply ifc h<;>intro e h
  ·obtain rfl:=sj h
   conv=>whnf
   try exact fin
  conv=>whnf
  exact⟨(kwr .i64 (b+1)),h,wk [] []⟩
 obtain rfl:=sj h;conv=>whnf
 try exact fin
end W
end
section
set_option maxRecDepth 100000
set_option maxHeartbeats 4000000
open Go Go.Proofs Ax
namespace W
abbrev Lb (r:Val×Int):PV:=PV.tup [PV.agg (qS.cells r.1),PV.int .i64 r.2]
def fO (n:Nat):List Val->Option (Val×Int):=fun a=>
 bnd (uU n a) fun⟨b,c,d,e,f,g⟩=>
 some (Val.mk b c d e f g,(0:Int))
def nk (n:Nat) (j:Any):LK (List Val×Int) (Val×Int):=fun k (a,b)=>
 bif(decide (b<=(Any.get_i j)))then(
 bif(decide (((Val.rows a).length:Int)≥4095))then(
 some (Val.mk (0:Int) false (0:Int) ([]:SS) ([]:List Val) ([]:List SS),(8:Int)))
 else(
 bnd (zB n b) fun⟨c,d,e,f,g,i⟩=>
 chk (decide ((Val.rows (a++[Val.mk c d e f g i])).length * 88<=140737488355328)) (
 bif(b==(Any.get_i j))then(
 fO n (a++[Val.mk c d e f g i]))
 else(
 k ((a++[Val.mk c d e f g i]),(kwr .i64 (b+1)))))))
 else(
 fO n a)
def sd (n:Nat) (c d:Val):Option (Val×Int):=
 match c,d with
 | ⟨e,j,k,l,m,o⟩,⟨p,q,s,f,g,i⟩=>
 bnd (qX n (Val.mk e j k l m o)) fun a=>
 bnd (qX n (Val.mk p q s f g i)) fun b=>
 bif(bif(!(Any.is_i a))then true else(!(Any.is_i b)))then(
 some (Val.mk (0:Int) false (0:Int) ([]:SS) ([]:List Val) ([]:List SS),(3:Int)))
 else(
 qA (nk n b) n (([]:List _),(Any.get_i a)))
theorem Dw (n:Nat):∀ (i j:Val) (r:Val×Int),sd n i j=some r->qc TP 99 [PV.agg (qS.cells i),PV.agg (qS.cells j)] (Lb r):=by
 intro i j r h;obtain⟨_,_,_,_,_,_⟩:=i;obtain⟨_,_,_,_,_,_⟩:=j;unfold sd at h;refine zN Tryz.call99 Tryz.func99 [1000000] ?_;conv=>whnf
 refine bq h fun w v h=>⟨_,(qO n _ _ v),?_⟩;conv=>whnf
 refine⟨_,Any.as_i w,?_⟩;conv=>whnf
 refine bq h fun o u h=>⟨_,(qO n _ _ u),?_⟩;conv=>whnf
 refine⟨_,Any.as_i o,?_⟩;conv=>whnf
 refine⟨id,id,?_⟩;conv=>whnf
 apply ifc h<;>intro m h
 ·obtain rfl:=sj h
  conv=>whnf
  try exact fin
 conv=>whnf
 refine mw.cut (S:=List Val) (fun k=>[(4,.ptr 0 0),(10,.tsl 1 (Val.rows k))]) (fun k=>[zq6,.tail 25 6 (Val.rows k).length]) (fO n) (r:=r) ?_ ?_
 ·intro k h
  unfold fO at h;conv=>whnf
  refine bq h fun⟨_,_,_,_,_,_⟩ s h=>⟨_,(ni n _ _ s),?_⟩;obtain rfl:=sj h;conv=>whnf
  try exact fin
 conv=>whnf
 refine zj.fn [1000000] (S:=List Val×Int) (fun(a,l)=>[(4,.ptr 0 0),(8,.p (.int .i64 (Any.get_i o))),(10,.tsl 1 (Val.rows a)),(11,pI l)]) (fun(a,l)=>[zq6,.tail 25 6 (Val.rows a).length]) (B:=nk n o) h (wk [2,0] [1]) ?_;intro _ st h;obtain⟨a,l⟩:=st;unfold nk at h;conv=>whnf
 apply ifc h<;>intro m h
 ·conv=>whnf
  apply ifc h<;>intro m h
  ·obtain rfl:=sj h
   conv=>whnf
   try exact fin
  conv=>whnf
  refine bq h fun⟨b,c,d,e,f,g⟩ t h=>⟨_,(xT n _ _ t),?_⟩;conv=>whnf
  refine⟨Codec.one qS [Val.mk b c d e f g],Val.rows [Val.mk b c d e f g],.inl rfl,?_⟩;conv=>whnf
  rw[show Val.rows a++Val.rows [Val.mk b c d e f g]=Val.rows (a++[Val.mk b c d e f g])from Codec.append qS a [Val.mk b c d e f g]];conv=>whnf
  obtain⟨q,h⟩:=qg h;refine⟨⟨Codec.wide qS (a++[Val.mk b c d e f g]),kod q,zy q (by decide)⟩,?_⟩;conv=>whnf
  refine⟨⟨rfl,rfl,rfl⟩,?_⟩;conv=>whnf
  apply ifc h<;>intro m h
  ·conv=>whnf
   exact⟨(a++[Val.mk b c d e f g]),h,wk [0,2] []⟩
  conv=>whnf
  exact⟨((a++[Val.mk b c d e f g]),(kwr .i64 (l+1))),h,wk [0,2] []⟩
 conv=>whnf
 exact⟨a,h,wk [0,1] []⟩
abbrev Eb (r:Int):PV:=PV.int .i64 r
def mc (n:Nat) (b:SS):LK (Int×Nat) (Int):=fun d (c,a)=>
 bif(decide (a<b.length))then(
 d ((kwr .i64 (c+1)),(bif(decide (a<b.length))then zF b a else a)))
 else(
 some c)
def nM (n:Nat) (a:SS):Option (Int):=
 qA (mc n a) n ((0:Int),0)
theorem CU (n:Nat):∀ (a:SS) (r:Int),nM n a=some r->qc TP 148 [PV.str a] (Eb r):=by
 intro a r h;unfold nM at h;refine zN Tryz.call148 Tryz.func148 [1000000] ?_;conv=>whnf
 refine zj.fn [1000000] (S:=Int×Nat) (fun(c,b)=>[(3,pI c),(5,.ptr 0 0)]) (fun(c,b)=>[.sit a b]) (B:=mc n a) h (wk [0] []) ?_;intro _ st h;obtain⟨c,b⟩:=st;unfold mc at h;conv=>whnf
 refine⟨(decide (b<a.length)),(bif(decide (b<a.length))then zF a b else b),⟨rfl,rfl⟩,?_⟩;conv=>whnf
 apply ifc h<;>intro _ h
 ·conv=>whnf
  exact⟨((kwr .i64 (c+1)),(bif(decide (b<a.length))then zF a b else b)),h,wk [0] []⟩
 obtain rfl:=sj h;conv=>whnf
 try exact fin
abbrev La (r:Val×Int):PV:=PV.tup [PV.agg (qS.cells r.1),PV.int .i64 r.2]
def mK (n:Nat) (d:Val):Option (Val×Int):=
 match d with
 | ⟨a,q,t,u,b,v⟩=>
 bnd (qX n (Val.mk a q t u b v)) fun c=>
 bif(Any.is_s c)then(
 bnd (nM n (Any.get_s c)) fun w=>
 bnd (zB n w) fun⟨x,e,f,g,i,j⟩=>
 some (Val.mk x e f g i j,(0:Int)))
 else(
 bif(bif(a==4)then true else(a==5))then(
 bnd (zB n ((Val.rows b).length:Int)) fun⟨k,l,m,o,p,s⟩=>
 some (Val.mk k l m o p s,(0:Int)))
 else(
 some (Val.mk (0:Int) false (0:Int) ([]:SS) ([]:List Val) ([]:List SS),(3:Int))))
theorem Dv (n:Nat):∀ (a:Val) (r:Val×Int),mK n a=some r->qc TP 100 [PV.agg (qS.cells a)] (La r):=by
 intro a r h;obtain⟨_,_,_,_,_,_⟩:=a;unfold mK at h;refine zN Tryz.call100 Tryz.func100 [1000000] ?_;conv=>whnf
 refine bq h fun g e h=>⟨_,(qO n _ _ e),?_⟩;conv=>whnf
 refine⟨_,Any.as_s g,?_⟩;conv=>whnf
 apply ifc h<;>intro f h
 ·conv=>whnf
  refine bq h fun _ c h=>⟨_,(CU n _ _ c),?_⟩;conv=>whnf
  refine bq h fun⟨_,_,_,_,_,_⟩ b h=>⟨_,(xT n _ _ b),?_⟩;obtain rfl:=sj h;conv=>whnf
  try exact fin
 conv=>whnf
 refine⟨id,id,id,?_⟩;conv=>whnf
 apply ifc h<;>intro f h
 ·conv=>whnf
  refine bq h fun⟨_,_,_,_,_,_⟩ d h=>⟨_,(xT n _ _ d),?_⟩;obtain rfl:=sj h;conv=>whnf
  try exact fin
 obtain rfl:=sj h;conv=>whnf
 try exact fin
abbrev tU (r:Int×Int):PV:=PV.tup [PV.int .i64 r.1,PV.int .i64 r.2]
def vu (n:Nat) (a _:Int):Option (Int×Int):=
 bnd (Qi n (bif decide ((0:Int)>a)then(0:Int)else a) (bif decide ((0:Int)<a)then(0:Int)else a)) fun⟨b,c⟩=>
 some (b,c)
theorem sM (n:Nat):∀ (a b:Int) (r:Int×Int),vu n a b=some r->qc TP 102 [PV.int .i64 a,PV.int .i64 b] (tU r):=by
 intro a b r h;unfold vu at h;refine zN Tryz.call102 Tryz.func102 [1000000] ?_;conv=>whnf
 refine bq h fun⟨_,_⟩ c h=>⟨_,(GV n _ _ _ c),?_⟩;obtain rfl:=sj h;conv=>whnf
 try exact fin
abbrev cL (r:Val×Int):PV:=PV.tup [PV.agg (qS.cells r.1),PV.int .i64 r.2]
def zu (n:Nat) (f g:Val):Option (Val×Int):=
 match f,g with
 | ⟨a,q,v,w,x,y⟩,⟨e,z,A,i,j,k⟩=>
 bif(bif(a==0)then true else(e==0))then(
 some (Val.mk (0:Int) false (0:Int) ([]:SS) ([]:List Val) ([]:List SS),(0:Int)))
 else(
 bnd (qX n (Val.mk a q v w x y)) fun b=>
 bnd (qX n (Val.mk e z A i j k)) fun c=>
 bif(bif(!(Any.is_i b))then true else(!(Any.is_i c)))then(
 some (Val.mk (0:Int) false (0:Int) ([]:SS) ([]:List Val) ([]:List SS),(3:Int)))
 else(
 bnd (vu n (Any.get_i b) (Any.get_i c)) fun⟨l,d⟩=>
 bif(d != 0)then(
 some (Val.mk (0:Int) false (0:Int) ([]:SS) ([]:List Val) ([]:List SS),d))
 else(
 bnd (zB n l) fun⟨m,o,p,s,t,u⟩=>
 some (Val.mk m o p s t u,(0:Int)))))
theorem cr (n:Nat):∀ (a b:Val) (r:Val×Int),zu n a b=some r->qc TP 55 [PV.agg (qS.cells a),PV.agg (qS.cells b),PV.fn 102] (cL r):=by
 intro a b r h;obtain⟨_,_,_,_,_,_⟩:=a;obtain⟨_,_,_,_,_,_⟩:=b;unfold zu at h;refine zN Tryz.call55 Tryz.func55 [1000000] ?_;conv=>whnf
 refine⟨id,id,id,?_⟩;conv=>whnf
 apply ifc h<;>intro c h
 ·obtain rfl:=sj h
  conv=>whnf
  try exact fin
 conv=>whnf
 refine bq h fun i g h=>⟨_,(qO n _ _ g),?_⟩;conv=>whnf
 refine⟨_,Any.as_i i,?_⟩;conv=>whnf
 refine bq h fun j f h=>⟨_,(qO n _ _ f),?_⟩;conv=>whnf
 refine⟨_,Any.as_i j,?_⟩;conv=>whnf
 refine⟨id,id,?_⟩;conv=>whnf
 apply ifc h<;>intro c h
 ·obtain rfl:=sj h
  conv=>whnf
  try exact fin
 conv=>whnf
 refine bq h fun⟨_,_⟩ e h=>⟨_,(sM n _ _ _ e),?_⟩;conv=>whnf
 apply ifc h<;>intro c h
 ·obtain rfl:=sj h
  conv=>whnf
  try exact fin
 conv=>whnf
 refine bq h fun⟨_,_,_,_,_,_⟩ d h=>⟨_,(xT n _ _ d),?_⟩;obtain rfl:=sj h;conv=>whnf
 try exact fin
abbrev ZO (r:Val×Int):PV:=PV.tup [PV.agg (qS.cells r.1),PV.int .i64 r.2]
def uv (n:Nat) (g:Val):Option (Val×Int):=
 match g with
 | ⟨a,b,c,d,e,f⟩=>
 bnd (zu n (Val.mk a b c d e f) (Val.mk a b c d e f)) fun⟨⟨m,o,p,i,j,k⟩,l⟩=>
 some (Val.mk m o p i j k,l)
theorem QQ (n:Nat):∀ (a:Val) (r:Val×Int),uv n a=some r->qc TP 101 [PV.agg (qS.cells a)] (ZO r):=by
 intro a r h;obtain⟨_,_,_,_,_,_⟩:=a;unfold uv at h;refine zN Tryz.call101 Tryz.func101 [1000000] ?_;conv=>whnf
 refine bq h fun⟨⟨_,_,_,_,_,_⟩,_⟩ b h=>⟨_,(cr n _ _ _ b),?_⟩;obtain rfl:=sj h;conv=>whnf
 try exact fin
abbrev Ee (r:Val):PV:=PV.agg (qS.cells r)
def mf (n:Nat) (c:List SS):LK (List Val×Int) (Val):=fun k (a,b)=>
 bif(decide (b<((qi c).length:Int)))then(
 bnd (idx c b) fun t=>
 bnd (gJ n t) fun⟨e,f,g,i,j,d⟩=>
 chk (decide ((Val.rows (a++[Val.mk e f g i j d])).length * 88<=140737488355328)) (
 k ((a++[Val.mk e f g i j d]),(kwr .i64 (b+1)))))
 else(
 bnd (uU n a) fun⟨l,m,o,p,q,s⟩=>
 some (Val.mk l m o p q s))
def cF (n:Nat) (a:List SS):Option (Val):=
 qA (mf n a) n (([]:List _),(0:Int))
theorem se (n:Nat):∀ (i:List SS) (r:Val),cF n i=some r->qc TP 149 [PV.sl (qi i)] (Ee r):=by
 intro i r h;unfold cF at h;refine zN Tryz.call149 Tryz.func149 [1000000] ?_;conv=>whnf
 refine zj.fn [1000000] (S:=List Val×Int) (fun(a,j)=>[(2,.ptr 0 0),(3,.tsl 1 (Val.rows a)),(6,pT i),(7,.p (.int .i64 ((qi i).length:Int))),(8,pI j)]) (fun(a,j)=>[zq6,.tail 25 6 (Val.rows a).length]) (B:=mf n i) h (wk [0,0] [1]) ?_;intro _ st h;obtain⟨a,j⟩:=st;unfold mf at h;conv=>whnf
 apply ifc h<;>intro _ h
 ·conv=>whnf
  refine bq h fun _ m h=>⟨_,Codec.at_ ca m,?_⟩;conv=>whnf
  refine bq h fun⟨c,d,e,f,g,b⟩ l h=>⟨_,(nm n _ _ l),?_⟩;conv=>whnf
  refine⟨Codec.one qS [Val.mk c d e f g b],Val.rows [Val.mk c d e f g b],.inl rfl,?_⟩;conv=>whnf
  rw[show Val.rows a++Val.rows [Val.mk c d e f g b]=Val.rows (a++[Val.mk c d e f g b])from Codec.append qS a [Val.mk c d e f g b]];conv=>whnf
  obtain⟨k,h⟩:=qg h;refine⟨⟨Codec.wide qS (a++[Val.mk c d e f g b]),kod k,zy k (by decide)⟩,?_⟩;conv=>whnf
  refine⟨⟨rfl,rfl,rfl⟩,?_⟩;conv=>whnf
  exact⟨((a++[Val.mk c d e f g b]),(kwr .i64 (j+1))),h,wk [0,2] []⟩
 conv=>whnf
 refine bq h fun⟨_,_,_,_,_,_⟩ o h=>⟨_,(ni n _ _ o),?_⟩;obtain rfl:=sj h;conv=>whnf
 try exact fin
abbrev VT (r:Val×Int):PV:=PV.tup [PV.agg (qS.cells r.1),PV.int .i64 r.2]
def vD (n:Nat) (a:List SS) (j:List Val) (s:List Node) (w:List Edge) (x:Int) (y:Bool) (z:Int) (A:SS) (B:List Val) (b:List SS) (c:Int) (d:Bool) (e:Int) (f:SS) (g:List Val) (i:List SS):Bool->Option (Val×Int):=fun k=>
 bif k then(
 bnd (um n (xa.mk (Env.mk a j) (Graph.mk s w) (Val.mk x y z A B b)) (Val.mk c d e f g i)) fun⟨l,_,m⟩=>
 bif(!m)then(
 some (Val.mk (0:Int) false (0:Int) ([]:SS) ([]:List Val) ([]:List SS),(0:Int)))
 else(
 bnd (cF n l) fun⟨o,p,q,t,u,v⟩=>
 some (Val.mk o p q t u v,(0:Int))))
 else(
 some (Val.mk (0:Int) false (0:Int) ([]:SS) ([]:List Val) ([]:List SS),(3:Int)))
def gZ (n:Nat) (t:xa) (u:Val):Option (Val×Int):=
 match t,u with
 | ⟨⟨c,j⟩,⟨k,l⟩,⟨m,o,p,q,s,d⟩⟩,⟨a,e,f,g,i,b⟩=>
 bif(a==5)then(
 bnd (cF n b) fun⟨v,w,x,y,z,A⟩=>
 some (Val.mk v w x y z A,(0:Int)))
 else(
 bif(a==6)then(
 vD n c j k l m o p q s d a e f g i b (a==6))
 else(
 vD n c j k l m o p q s d a e f g i b (a==7)))
theorem Vl (n:Nat):∀ (a:xa) (b:Val) (r:Val×Int),gZ n a b=some r->qc TP 103 [(PV.hp (nX.cells a)),PV.agg (qS.cells b)] (VT r):=by
 intro a b r h;obtain⟨⟨f,o⟩,⟨p,q⟩,⟨s,t,u,v,w,g⟩⟩:=a;obtain⟨c,i,j,k,l,m⟩:=b;unfold gZ at h;refine zN Tryz.call103 Tryz.func103 [1000000] ?_;conv=>whnf
 apply ifc h<;>intro d h
 ·conv=>whnf
  refine bq h fun⟨_,_,_,_,_,_⟩ x h=>⟨_,(se n _ _ x),?_⟩;obtain rfl:=sj h;conv=>whnf
  try exact fin
 conv=>whnf
 refine mw.cut (S:=Bool) (fun e=>[(0,.hptr [PV.sl (qi f),PV.sl (Val.rows o),PV.sl (Node.rows p),PV.sl (Edge.rows q),PV.int .i64 s,PV.bool t,PV.int .i64 u,PV.str v,PV.sl (Val.rows w),PV.sl (qi g)]),(3,.ptr 0 0),(4,.ptr 1 0),(16,pB e)]) (fun e=>[.box 25 [pI c,pB i,pI j,pS k,pV l,pT m],zq6]) (vD n f o p q s t u v w g c i j k l m) (r:=r) ?_ ?_
 ·intro e h
  unfold vD at h;conv=>whnf
  apply ifc h<;>intro d h
  ·conv=>whnf
   refine bq h fun⟨_,_,_⟩ z h=>⟨_,(nN n _ _ _ z),?_⟩;conv=>whnf
   apply ifc h<;>intro d h
   ·obtain rfl:=sj h
    conv=>whnf
    try exact fin
   conv=>whnf
   refine bq h fun⟨_,_,_,_,_,_⟩ y h=>⟨_,(se n _ _ y),?_⟩;obtain rfl:=sj h;conv=>whnf
   try exact fin
  obtain rfl:=sj h;conv=>whnf
  try exact fin
 conv=>whnf
 apply ifc h<;>intro d h
 ·conv=>whnf
  exact⟨(c==6),h,wk [0,1] []⟩
 conv=>whnf
 exact⟨(c==7),h,wk [0,1] []⟩
abbrev Xy (r:Val×Int):PV:=PV.tup [PV.agg (qS.cells r.1),PV.int .i64 r.2]
def vU (n:Nat) (e:xa) (f:Val) (b:Int):Option (Val×Int):=
 match e,f with
 | ⟨⟨_,_⟩,⟨c,d⟩,⟨_,_,_,_,_,_⟩⟩,⟨g,_,a,_,_,_⟩=>
 bif(g != b)then(
 some (Val.mk (0:Int) false (0:Int) ([]:SS) ([]:List Val) ([]:List SS),(3:Int)))
 else(
 bif(b==6)then(
 bnd (fk n (Graph.mk c d) a) fun⟨⟨_,i,_,_⟩,j⟩=>
 bif(!j)then(
 some (Val.mk (0:Int) false (0:Int) ([]:SS) ([]:List Val) ([]:List SS),(0:Int)))
 else(
 bnd (cF n i) fun⟨k,l,m,o,p,q⟩=>
 some (Val.mk k l m o p q,(0:Int))))
 else(
 bnd (cG n (Graph.mk c d) a) fun⟨⟨_,_,_,s,_,_⟩,t⟩=>
 bif(!t)then(
 some (Val.mk (0:Int) false (0:Int) ([]:SS) ([]:List Val) ([]:List SS),(0:Int)))
 else(
 bnd (gJ n s) fun⟨u,v,w,x,y,z⟩=>
 some (Val.mk u v w x y z,(0:Int)))))
theorem mB (n:Nat):∀ (a:xa) (b:Val) (d:Int) (r:Val×Int),vU n a b d=some r->qc TP 105 [(PV.hp (nX.cells a)),PV.agg (qS.cells b),PV.int .i64 d] (Xy r):=by
 intro a b d r h;obtain⟨⟨_,_⟩,⟨_,_⟩,⟨_,_,_,_,_,_⟩⟩:=a;obtain⟨_,_,_,_,_,_⟩:=b;unfold vU at h;refine zN Tryz.call105 Tryz.func105 [40000004,40000008,1000000] ?_;conv=>whnf
 apply ifc h<;>intro c h
 ·obtain rfl:=sj h
  conv=>whnf
  try exact fin
 conv=>whnf
 apply ifc h<;>intro c h
 ·conv=>whnf
  refine bq h fun⟨⟨_,_,_,_⟩,_⟩ f h=>⟨_,(sn n _ _ _ f),?_⟩;conv=>whnf
  apply ifc h<;>intro c h
  ·obtain rfl:=sj h
   conv=>whnf
   try exact fin
  conv=>whnf
  refine bq h fun⟨_,_,_,_,_,_⟩ e h=>⟨_,(se n _ _ e),?_⟩;obtain rfl:=sj h;conv=>whnf
  try exact fin
 conv=>whnf
 refine bq h fun⟨⟨_,_,_,_,_,_⟩,_⟩ i h=>⟨_,(Xq n _ _ _ i),?_⟩;conv=>whnf
 apply ifc h<;>intro c h
 ·obtain rfl:=sj h
  conv=>whnf
  try exact fin
 conv=>whnf
 refine bq h fun⟨_,_,_,_,_,_⟩ g h=>⟨_,(nm n _ _ g),?_⟩;obtain rfl:=sj h;conv=>whnf
 try exact fin
abbrev ZP (r:Val×Int):PV:=PV.tup [PV.agg (qS.cells r.1),PV.int .i64 r.2]
def gP (n:Nat) (a:Val) (b:xa):Option (Val×Int):=
 match a,b with
 | ⟨c,p,v,w,x,y⟩,⟨⟨z,A⟩,⟨B,d⟩,⟨e,f,g,i,j,k⟩⟩=>
 bnd (vU n (xa.mk (Env.mk z A) (Graph.mk B d) (Val.mk e f g i j k)) (Val.mk c p v w x y) (6:Int)) fun⟨⟨l,m,o,q,s,t⟩,u⟩=>
 some (Val.mk l m o q s t,u)
theorem QR (n:Nat):∀ (a:Val) (b:xa) (r:Val×Int),gP n a b=some r->qc TP 104 [PV.agg (qS.cells a),PV.hp [(PV.hp (nX.cells b))]] (ZP r):=by
 intro a b r h;obtain⟨_,_,_,_,_,_⟩:=a;obtain⟨⟨_,_⟩,⟨_,_⟩,⟨_,_,_,_,_,_⟩⟩:=b;unfold gP at h;refine zN Tryz.call104 Tryz.func104 [1000000] ?_;conv=>whnf
 refine bq h fun⟨⟨_,_,_,_,_,_⟩,_⟩ c h=>⟨_,(mB n _ _ _ _ c),?_⟩;obtain rfl:=sj h;conv=>whnf
 try exact fin
abbrev ZQ (r:Val×Int):PV:=PV.tup [PV.agg (qS.cells r.1),PV.int .i64 r.2]
def gQ (n:Nat) (a:Val) (b:xa):Option (Val×Int):=
 match a,b with
 | ⟨c,p,v,w,x,y⟩,⟨⟨z,A⟩,⟨B,d⟩,⟨e,f,g,i,j,k⟩⟩=>
 bnd (vU n (xa.mk (Env.mk z A) (Graph.mk B d) (Val.mk e f g i j k)) (Val.mk c p v w x y) (7:Int)) fun⟨⟨l,m,o,q,s,t⟩,u⟩=>
 some (Val.mk l m o q s t,u)
theorem QT (n:Nat):∀ (a:Val) (b:xa) (r:Val×Int),gQ n a b=some r->qc TP 106 [PV.agg (qS.cells a),PV.hp [(PV.hp (nX.cells b))]] (ZQ r):=by
 intro a b r h;obtain⟨_,_,_,_,_,_⟩:=a;obtain⟨⟨_,_⟩,⟨_,_⟩,⟨_,_,_,_,_,_⟩⟩:=b;unfold gQ at h;refine zN Tryz.call106 Tryz.func106 [1000000] ?_;conv=>whnf
 refine bq h fun⟨⟨_,_,_,_,_,_⟩,_⟩ c h=>⟨_,(mB n _ _ _ _ c),?_⟩;obtain rfl:=sj h;conv=>whnf
 try exact fin
abbrev MD (r:Val×Int):PV:=PV.tup [PV.agg (qS.cells r.1),PV.int .i64 r.2]
def ry (n:Nat) (b:Val) (w:Bool):Option (Val×Int):=
 match b with
 | ⟨c,p,s,t,u,v⟩=>
 bnd (qX n (Val.mk c p s t u v)) fun a=>
 bif(!(Any.is_l a))then(
 some (Val.mk (0:Int) false (0:Int) ([]:SS) ([]:List Val) ([]:List SS),(3:Int)))
 else(
 bif((((Val.rows (Any.get_l a)).length:Nat):Int)==0)then(
 some (Val.mk (0:Int) false (0:Int) ([]:SS) ([]:List Val) ([]:List SS),(0:Int)))
 else(
 bif w then(
 bnd (idx (Any.get_l a) (kwr .i64 ((((Val.rows (Any.get_l a)).length:Nat):Int) - 1))) fun⟨x,d,e,f,g,i⟩=>
 some (Val.mk x d e f g i,(0:Int)))
 else(
 bnd (idx (Any.get_l a) (0:Int)) fun⟨j,k,l,m,o,q⟩=>
 some (Val.mk j k l m o q,(0:Int)))))
theorem Uo (n:Nat):∀ (a:Val) (b:Bool) (r:Val×Int),ry n a b=some r->qc TP 108 [PV.agg (qS.cells a),PV.bool b] (MD r):=by
 intro a b r h;obtain⟨_,_,_,_,_,_⟩:=a;unfold ry at h;refine zN Tryz.call108 Tryz.func108 [1000000] ?_;conv=>whnf
 refine bq h fun g f h=>⟨_,(qO n _ _ f),?_⟩;conv=>whnf
 refine⟨_,Any.as_l g,?_⟩;conv=>whnf
 apply ifc h<;>intro c h
 ·obtain rfl:=sj h
  conv=>whnf
  try exact fin
 conv=>whnf
 apply ifc h<;>intro c h
 ·obtain rfl:=sj h
  conv=>whnf
  try exact fin
 conv=>whnf
 apply ifc h<;>intro c h
 ·conv=>whnf
  refine bq h fun⟨_,_,_,_,_,_⟩ d h=>⟨_,Codec.at_ qS d,?_⟩;obtain rfl:=sj h;conv=>whnf
  try exact fin
 conv=>whnf
 refine bq h fun⟨_,_,_,_,_,_⟩ e h=>⟨_,Codec.at_ qS e,?_⟩;obtain rfl:=sj h;conv=>whnf
 try exact fin
abbrev ZR (r:Val×Int):PV:=PV.tup [PV.agg (qS.cells r.1),PV.int .i64 r.2]
def uw (n:Nat) (a:Val):Option (Val×Int):=
 match a with
 | ⟨b,g,i,j,k,l⟩=>
 bnd (ry n (Val.mk b g i j k l) false) fun⟨⟨m,o,p,c,d,e⟩,f⟩=>
 some (Val.mk m o p c d e,f)
theorem QU (n:Nat):∀ (a:Val) (r:Val×Int),uw n a=some r->qc TP 107 [PV.agg (qS.cells a)] (ZR r):=by
 intro a r h;obtain⟨_,_,_,_,_,_⟩:=a;unfold uw at h;refine zN Tryz.call107 Tryz.func107 [1000000] ?_;conv=>whnf
 refine bq h fun⟨⟨_,_,_,_,_,_⟩,_⟩ b h=>⟨_,(Uo n _ _ _ b),?_⟩;obtain rfl:=sj h;conv=>whnf
 try exact fin
abbrev ZS (r:Val×Int):PV:=PV.tup [PV.agg (qS.cells r.1),PV.int .i64 r.2]
def ux (n:Nat) (a:Val):Option (Val×Int):=
 match a with
 | ⟨b,g,i,j,k,l⟩=>
 bnd (ry n (Val.mk b g i j k l) true) fun⟨⟨m,o,p,c,d,e⟩,f⟩=>
 some (Val.mk m o p c d e,f)
theorem QV (n:Nat):∀ (a:Val) (r:Val×Int),ux n a=some r->qc TP 109 [PV.agg (qS.cells a)] (ZS r):=by
 intro a r h;obtain⟨_,_,_,_,_,_⟩:=a;unfold ux at h;refine zN Tryz.call109 Tryz.func109 [1000000] ?_;conv=>whnf
 refine bq h fun⟨⟨_,_,_,_,_,_⟩,_⟩ b h=>⟨_,(Uo n _ _ _ b),?_⟩;obtain rfl:=sj h;conv=>whnf
 try exact fin
abbrev MG (r:SS):PV:=PV.str r
def da (n:Nat):Int×SS->Option SS:=fun(c,b)=>
 bnd (Qq c) fun a=>
 chk (decide (a<20)) (
 chk (decide (a+(20 - a)<=b.length)) (
 some ((b.drop a).take (20 - a))))
def db (n:Nat) (j:Int):(Int×Int×SS->Option SS)->Int×Int×SS->Option SS:=fun i (b,f,c)=>
 bnd (Qq (Int.tmod f (10:Int))) fun g=>
 chk (decide (g<10)) (
 bnd (([(48:UInt8),(49:UInt8),(50:UInt8),(51:UInt8),(52:UInt8),(53:UInt8),(54:UInt8),(55:UInt8),(56:UInt8),(57:UInt8)]:SS)[g]?) fun l=>
 bnd (Qq (kwr .i64 (b - 1))) fun a=>
 chk (decide (a<20)) (
 bnd (u8I ((l.toNat:Nat):Int)) fun d=>
 chk (decide (a<c.length)) (
 bif(decide (f<10))then(
 bif(decide (j<0))then(
 bnd (Qq (kwr .i64 ((kwr .i64 (b - 1)) - 1))) fun e=>
 chk (decide (e<20)) (
 bnd (u8I (45:Int)) fun k=>
 chk (decide (e<(c.set a d).length)) (
 da n ((kwr .i64 ((kwr .i64 (b - 1)) - 1)),((c.set a d).set e k)))))
 else(
 da n ((kwr .i64 (b - 1)),(c.set a d))))
 else(
 i ((kwr .i64 (b - 1)),(kwr .u64 (Int.tdiv f (10:Int))),(c.set a d))))))
def bo (n:Nat) (a:Int):Option SS:=
 bnd (gl n a) fun b=>
 qA (db n a) n ((20:Int),b,(List.replicate 20 0:SS))
theorem QY (n:Nat):∀ (d:Int) (r:SS),bo n d=some r->qc TP 194 [PV.int .i64 d] (MG r):=by
 intro d r h;unfold bo at h;refine zN Tryz.call194 Tryz.func194 [10000003,10000004,1000000] ?_;conv=>whnf
 refine⟨rfl,Gz rfl,?_⟩;conv=>whnf
 refine⟨(List.replicate 10 0:SS),rfl,?_⟩;conv=>whnf
 refine⟨([(48:UInt8),(49:UInt8),(50:UInt8),(51:UInt8),(52:UInt8),(53:UInt8),(54:UInt8),(55:UInt8),(56:UInt8),(57:UInt8)]:SS),⟨rfl,rfl,rfl,rfl,rfl⟩,?_⟩;conv=>whnf
 refine⟨(List.replicate 20 0:SS),rfl,?_⟩;conv=>whnf
 refine bq h fun _ w h=>⟨_,(fq n _ _ w),?_⟩;conv=>whnf
 refine zj.fn [10000003,10000004,1000000] (S:=Int×Int×SS) (fun(a,f,b)=>[(0,pI d),(3,.eptr 0 1 0 0),(4,.eptr 1 1 0 0),(5,pI a),(6,.p (.int .u64 f))]) (fun(a,f,b)=>[.bv ([(48:UInt8),(49:UInt8),(50:UInt8),(51:UInt8),(52:UInt8),(53:UInt8),(54:UInt8),(55:UInt8),(56:UInt8),(57:UInt8)]:SS),.bv b]) (B:=db n d) h (wk [0,1] []) ?_;intro _ st h;obtain⟨a,f,b⟩:=st;unfold db at h;conv=>whnf
 refine⟨by unfold gI; decide,?_⟩;conv=>whnf
 refine bq h fun H v h=>?_;have c:=zC v;conv=>whnf
 obtain⟨u,h⟩:=qg h;refine⟨H,⟨rfl,c,kod u⟩,?_⟩;conv=>whnf
 refine bq h fun _ t h=>⟨_,⟨rfl,rfl,t⟩,?_⟩;conv=>whnf
 refine bq h fun g s h=>?_;have c:=zC s;conv=>whnf
 obtain⟨q,h⟩:=qg h;refine⟨g,⟨rfl,c,kod q⟩,?_⟩;conv=>whnf
 refine bq h fun j E h=>?_;have hb:=vh E;conv=>whnf
 obtain⟨D,h⟩:=qg h;refine⟨_,_,⟨rfl,rfl,kod D,hb,rfl⟩,?_⟩;conv=>whnf
 apply ifc h<;>intro F h
 ·conv=>whnf
  refine mw.cut (S:=Int×SS) (fun(i,e)=>[(4,.eptr 0 1 0 0),(5,pI i)]) (fun(i,e)=>[.bv e]) (da n) (r:=r) ?_ ?_
  ·intro st h
   obtain⟨i,e⟩:=st;unfold da at h;conv=>whnf
   refine bq h fun l x h=>⟨_,zC x,?_⟩;conv=>whnf
   obtain⟨k,h⟩:=qg h;refine⟨⟨rfl,Nat.le_of_lt (kod k),Nat.le_refl _,kod k⟩,?_⟩;conv=>whnf
   obtain⟨o,h⟩:=qg h;refine⟨(kod o:l+(20 - l)<=e.length),?_⟩;obtain rfl:=sj h;conv=>whnf
   try exact fin
  conv=>whnf
  apply ifc h<;>intro F h
  ·conv=>whnf
   refine bq h fun m C h=>?_;have c:=zC C;conv=>whnf
   obtain⟨A,h⟩:=qg h;refine⟨m,⟨rfl,c,kod A⟩,?_⟩;conv=>whnf
   refine bq h fun G z h=>?_;have hb:=vh z;conv=>whnf
   obtain⟨y,h⟩:=qg h;refine⟨_,_,⟨rfl,rfl,kod y,hb,rfl⟩,?_⟩;conv=>whnf
   exact⟨((kwr .i64 ((kwr .i64 (a - 1)) - 1)),((b.set g j).set m G)),h,wk [1] []⟩
  conv=>whnf
  exact⟨((kwr .i64 (a - 1)),(b.set g j)),h,wk [1] []⟩
 conv=>whnf
 refine⟨by unfold gI; decide,?_⟩;conv=>whnf
 exact⟨((kwr .i64 (a - 1)),(kwr .u64 (Int.tdiv f (10:Int))),(b.set g j)),h,wk [0,1] []⟩
abbrev bA (r:Bool):PV:=PV.bool r
def xy (n:Nat) (a b:SS):Option (Bool):=
 bnd (qE (decide (((a.length:Nat):Int)≥((b.length:Nat):Int))) (Qq ((b.length:Nat):Int))) fun c=>
 chk (bif(decide (((a.length:Nat):Int)≥((b.length:Nat):Int)))then decide (c<=a.length)else true) (
 some (bif(decide (((a.length:Nat):Int)≥((b.length:Nat):Int)))then((a.take c)==b)else false))
theorem ba (n:Nat):∀ (a c:SS) (r:Bool),xy n a c=some r->qc TP 227 [PV.str a,PV.str c] (bA r):=by
 intro a c r h;unfold xy at h;refine zN Tryz.call227 Tryz.func227 [1000000] ?_;conv=>whnf
 refine⟨id,id,id,?_⟩;conv=>whnf
 refine bq h fun d f h=>⟨_,fun b=>zC (qb f b),?_⟩;conv=>whnf
 obtain⟨e,h⟩:=qg h;refine⟨fun b=>⟨Nat.zero_le _,(kod (gd e b):(d<=a.length))⟩,?_⟩;rw[show List.drop 0 (List.take d a)=(a.take d)from rfl];conv=>whnf
 refine⟨id,id,id,?_⟩;obtain rfl:=sj h;conv=>whnf
 try exact fin
abbrev Xz (r:Bool):PV:=PV.bool r
def vX (n:Nat) (a b:SS):Option (Bool):=
 bnd (xy n a b) fun c=>
 some c
theorem ZJ (n:Nat):∀ (a b:SS) (r:Bool),vX n a b=some r->qc TP 217 [PV.str a,PV.str b] (Xz r):=by
 intro a b r h;unfold vX at h;refine zN Tryz.call217 Tryz.func217 [1000000] ?_;conv=>whnf
 refine bq h fun _ c h=>⟨_,(ba n _ _ _ c),?_⟩;obtain rfl:=sj h;conv=>whnf
 try exact fin
end W
end
