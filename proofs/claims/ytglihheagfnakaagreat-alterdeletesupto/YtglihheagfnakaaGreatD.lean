/- A part of the proof: contracts, printed by program. -/
import Derived.Test.YtglihheagfnakaaGreatC
set_option linter.unusedVariables false
set_option linter.unusedSimpArgs false
set_option linter.unnecessarySimpa false
set_option linter.deprecated false
set_option linter.unusedSectionVars false
set_option linter.constructorNameAsVariable false
open Go.IntKind renaming wrap->kwr,bits->kbt
section
set_option maxRecDepth 100000
set_option maxHeartbeats 20000000
open Go Go.Proofs Ax
namespace W
abbrev Lv (r:Bool):PV:=PV.bool r
def uG (n:Nat) (a:SS):Option (Bool):=
 some (bif(decide (((a.length:Nat):Int)≥1))then(decide (((a.length:Nat):Int)<=64))else false)
theorem vt (n:Nat):∀ (a:SS) (r:Bool),uG n a=some r->qc TP 120 [PV.str a] (Lv r):=by
 intro a r h;unfold uG at h;refine zN Tryz.call120 Tryz.func120 [1000000] ?_;conv=>whnf
 refine⟨id,id,id,?_⟩;obtain rfl:=sj h;conv=>whnf
 try exact oX
abbrev CT (r:Bool):PV:=PV.bool r
def dn (n:Nat) (b:List SS):LK (Int) (Bool):=fun f a=>
 bif(decide (a<((qi b).length:Int)))then(
 bnd (idx b a) fun g=>
 bnd (uG n g) fun c=>
 bnd (qE ((!(!c))&&(decide (a>0))) (idx b a)) fun d=>
 bnd (qE ((!(!c))&&(decide (a>0))) (idx b (kwr .i64 (a - 1)))) fun e=>
 bif(bif(!c)then true else(bif(decide (a>0))then(Op.bytesLess d e||d==e)else false))then(
 some false)
 else(
 f (kwr .i64 (a+1))))
 else(
 some true)
def cN (n:Nat) (a:List SS):Option (Bool):=
 qC (dn n a) n (0:Int)
theorem Qx (n:Nat):∀ (a:List SS) (r:Bool),cN n a=some r->qc TP 118 [PV.sl (qi a)] (CT r):=by
 intro a r h;unfold cN at h;refine zN Tryz.call118 Tryz.func118 [1000000] ?_;conv=>whnf
 refine qP.fn [1000000] (S:=Int) (fun b=>[(0,pT a),(3,pI b)]) (fun b=>[]) (B:=dn n a) h (wk [] []) ?_;intro _ b h;unfold dn at h;conv=>whnf
 apply ifc h<;>intro i h
 ·conv=>whnf
  refine bq h fun _ g h=>⟨_,Codec.at_ cV g,?_⟩;conv=>whnf
  refine bq h fun _ f h=>⟨_,(vt n _ _ f),?_⟩;conv=>whnf
  refine⟨id,id,id,id,?_⟩;conv=>whnf
  refine bq h fun _ e h=>⟨_,fun c=>Codec.at_ cV (qa e c),?_⟩;conv=>whnf
  refine⟨id,id,id,id,?_⟩;conv=>whnf
  refine bq h fun _ d h=>⟨_,fun c=>Codec.at_ cV (qa d c),?_⟩;conv=>whnf
  iterate 6 refine⟨id,?_⟩
  conv=>whnf
  apply ifc h<;>intro i h
  ·obtain rfl:=sj h
   conv=>whnf
   try exact oX
  conv=>whnf
  exact⟨(kwr .i64 (b+1)),h,wk [] []⟩
 obtain rfl:=sj h;conv=>whnf
 try exact oX
abbrev CF (r:Bool):PV:=PV.bool r
def bS (n:Nat) (b:Val):Option (Bool):=
 match b with
 | ⟨a,c,d,e,f,g⟩=>
 bif(bif(a != 1)then c else false)then(
 some false)
 else(
 bif(bif(bif(bif(a != 2)then(a != 6)else false)then(a != 7)else false)then(d != 0)else false)then(
 some false)
 else(
 bif(bif(a != 3)then(!(e==([]:SS)))else false)then(
 some false)
 else(
 bif(bif(bif(a != 4)then(a != 5)else false)then(decide (((Val.rows f).length:Int)>0))else false)then(
 some false)
 else(
 some (bif(a==5)then true else(((qi g).length:Int)==0))))))
theorem GF (n:Nat):∀ (a:Val) (r:Bool),bS n a=some r->qc TP 121 [PV.agg (xZ.cells a)] (CF r):=by
 intro a r h;obtain⟨_,_,_,_,_,_⟩:=a;unfold bS at h;refine zN Tryz.call121 Tryz.func121 [1000000] ?_;conv=>whnf
 refine⟨id,id,?_⟩;conv=>whnf
 apply ifc h<;>intro b h
 ·obtain rfl:=sj h
  conv=>whnf
  try exact oX
 conv=>whnf
 iterate 9 refine⟨id,?_⟩
 conv=>whnf
 apply ifc h<;>intro b h
 ·obtain rfl:=sj h
  conv=>whnf
  try exact oX
 conv=>whnf
 refine⟨id,id,id,?_⟩;conv=>whnf
 apply ifc h<;>intro b h
 ·obtain rfl:=sj h
  conv=>whnf
  try exact oX
 conv=>whnf
 iterate 7 refine⟨id,?_⟩
 conv=>whnf
 apply ifc h<;>intro b h
 ·obtain rfl:=sj h
  conv=>whnf
  try exact oX
 conv=>whnf
 refine⟨id,id,id,id,?_⟩;obtain rfl:=sj h;conv=>whnf
 try exact oX
abbrev tu (r:Int×Bool):PV:=PV.tup [PV.int .i64 r.1,PV.bool r.2]
abbrev lU:Type:=Val->Int->Int->Option (Int×Bool)
def gZ (n:Nat) (d:List Val) (g74:lU) (o:Int):LK (Int×Int) (Int×Bool):=fun e (b,a)=>
 bif(decide (a<((Val.rows d).length:Int)))then(
 bnd (idx d a) fun⟨f,g,i,j,k,l⟩=>
 bnd (g74 (Val.mk f g i j k l) (kwr .i64 (o - 1)) b) fun⟨c,m⟩=>
 bif(!m)then(
 some (c,false))
 else(
 e (c,(kwr .i64 (a+1)))))
 else(
 some (b,true))
def gY (n:Nat) (a:List Val) (g74:lU) (b c:Int):Unit->Option (Int×Bool):=fun _=>
 qC (gZ n a g74 b) n ((kwr .i64 (c+1)),(0:Int))
def fa (n:Nat) (b:List SS) (g:Int) (j:List Val) (g74:lU) (k:Int):LK (Int) (Int×Bool):=fun i a=>
 bif(decide (a<((qi b).length:Int)))then(
 bnd (idx b a) fun c=>
 bnd (qE (!(decide (((c.length:Nat):Int)<1))) (idx b a)) fun d=>
 bnd (qE ((!(bif(decide (((c.length:Nat):Int)<1))then true else(decide (((d.length:Nat):Int)>64))))&&(decide (a>0))) (idx b a)) fun e=>
 bnd (qE ((!(bif(decide (((c.length:Nat):Int)<1))then true else(decide (((d.length:Nat):Int)>64))))&&(decide (a>0))) (idx b (kwr .i64 (a - 1)))) fun f=>
 bif(bif(bif(decide (((c.length:Nat):Int)<1))then true else(decide (((d.length:Nat):Int)>64)))then true else(bif(decide (a>0))then(Op.bytesLess e f||e==f)else false))then(
 some ((kwr .i64 (g+1)),false))
 else(
 i (kwr .i64 (a+1))))
 else(
 gY n j g74 k g ())
def Za (n:Nat) (g74:lU) (g:Val) (d b:Int):Option (Int×Bool):=
 match g with
 | ⟨a,i,f,j,c,e⟩=>
 bnd (qE (!(bif(bif(bif(decide ((kwr .i64 (b+1))>4096))then true else(decide (d<1)))then true else(decide (a<0)))then true else(decide (a>7)))) (bS n (Val.mk a i f j c e))) fun k=>
 bif(bif(bif(bif(bif(decide ((kwr .i64 (b+1))>4096))then true else(decide (d<1)))then true else(decide (a<0)))then true else(decide (a>7)))then true else(!k))then(
 some ((kwr .i64 (b+1)),false))
 else(
 bif(bif(bif(a==6)then true else(a==7))then(decide (f<1))else false)then(
 some ((kwr .i64 (b+1)),false))
 else(
 bif(a==5)then(
 bif(((qi e).length:Int) != ((Val.rows c).length:Int))then(
 some ((kwr .i64 (b+1)),false))
 else(
 qC (fa n e b c g74 d) n (0:Int)))
 else(
 gY n c g74 d b ())))
theorem BP (n:Nat) (g74:lU) (g74_ok:∀ (c:Val) (a b:Int) (r:Int×Bool),g74 c a b=some r->qc TP 74 [PV.agg (xZ.cells c),PV.int .i64 a,PV.int .i64 b] (tu r)):∀ (c:Val) (a b:Int) (r:Int×Bool),Za n g74 c a b=some r->qc TP 74 [PV.agg (xZ.cells c),PV.int .i64 a,PV.int .i64 b] (tu r):=by
 intro c a b r h;obtain⟨k,m,o,q,f,j⟩:=c;unfold Za at h;refine zN Tryz.call74 Tryz.func74 [1000000] ?_;conv=>whnf
 iterate 9 refine⟨id,?_⟩
 conv=>whnf
 refine bq h fun _ y h=>⟨_,fun e=>(GF n _ _ (qa y e)),?_⟩;conv=>whnf
 refine⟨id,id,?_⟩;conv=>whnf
 apply ifc h<;>intro d h
 ·obtain rfl:=sj h
  conv=>whnf
  try exact oX
 conv=>whnf
 iterate 6 refine⟨id,?_⟩
 conv=>whnf
 apply ifc h<;>intro d h
 ·obtain rfl:=sj h
  conv=>whnf
  try exact oX
 conv=>whnf
 refine gW.cut (S:=Unit) (fun _=>[(1,pI a),(2,.p (.int .i64 (kwr .i64 (b+1)))),(3,.ptr 0 0)]) (fun _=>[.box 35 [pI k,pB m,pI o,pS q,pV f,pT j]]) (gY n f g74 a b) (r:=r) ?_ ?_
 ·intro _ h
  unfold gY at h;conv=>whnf
  refine qP.fn [1000000] (S:=Int×Int) (fun(l,g)=>[(1,pI a),(2,pI l),(3,.ptr 0 0),(9,pI g)]) (fun(l,g)=>[.box 35 [pI k,pB m,pI o,pS q,pV f,pT j]]) (B:=gZ n f g74 a) h (wk [0] []) ?_;intro _ st h;obtain⟨l,g⟩:=st;unfold gZ at h;conv=>whnf
  apply ifc h<;>intro d h
  ·conv=>whnf
   refine bq h fun⟨_,_,_,_,_,_⟩ t h=>⟨_,Codec.at_ xZ t,?_⟩;conv=>whnf
   refine bq h fun⟨z,_⟩ s h=>⟨_,(g74_ok _ _ _ _ s),?_⟩;conv=>whnf
   apply ifc h<;>intro d h
   ·obtain rfl:=sj h
    conv=>whnf
    try exact oX
   conv=>whnf
   exact⟨(z,(kwr .i64 (g+1))),h,wk [0] []⟩
  obtain rfl:=sj h;conv=>whnf
  try exact oX
 conv=>whnf
 apply ifc h<;>intro d h
 ·conv=>whnf
  apply ifc h<;>intro d h
  ·obtain rfl:=sj h
   conv=>whnf
   try exact oX
  conv=>whnf
  refine qP.fn [1000000] (S:=Int) (fun i=>[(1,pI a),(2,.p (.int .i64 (kwr .i64 (b+1)))),(3,.ptr 0 0),(8,pI i)]) (fun i=>[.box 35 [pI k,pB m,pI o,pS q,pV f,pT j]]) (B:=fa n j b f g74 a) h (wk [0] []) ?_;intro _ i h;unfold fa at h;conv=>whnf
  apply ifc h<;>intro d h
  ·conv=>whnf
   refine bq h fun _ x h=>⟨_,Codec.at_ cV x,?_⟩;conv=>whnf
   refine⟨id,id,id,?_⟩;conv=>whnf
   refine bq h fun _ w h=>⟨_,fun e=>Codec.at_ cV (qa w e),?_⟩;conv=>whnf
   iterate 9 refine⟨id,?_⟩
   conv=>whnf
   refine bq h fun _ v h=>⟨_,fun e=>Codec.at_ cV (qa v e),?_⟩;conv=>whnf
   refine⟨id,id,id,id,id,?_⟩;conv=>whnf
   refine bq h fun _ u h=>⟨_,fun e=>Codec.at_ cV (qa u e),?_⟩;conv=>whnf
   iterate 6 refine⟨id,?_⟩
   conv=>whnf
   apply ifc h<;>intro d h
   ·obtain rfl:=sj h
    conv=>whnf
    try exact oX
   conv=>whnf
   exact⟨(kwr .i64 (i+1)),h,wk [0] []⟩
  conv=>whnf
  exact⟨(),h,wk [0] []⟩
 conv=>whnf
 exact⟨(),h,wk [0] []⟩
def gX:Nat->Val->Int->Int->Option (Int×Bool)
 | 0=>fun _ _ _=>none
 | n+1=>Za n (gX n)
theorem BR (n:Nat):(∀ (a:Val) (b c:Int) (r:Int×Bool),gX n a b c=some r->qc TP 74 [PV.agg (xZ.cells a),PV.int .i64 b,PV.int .i64 c] (tu r)):=by
 induction n with
 | zero=>exact(by intros; rename_i h; cases h)
 | succ n ih=>
  have hg74:=ih;exact BP n (gX n) hg74
theorem Et (n:Nat):∀ (a:Val) (b c:Int) (r:Int×Bool),gX n a b c=some r->qc TP 74 [PV.agg (xZ.cells a),PV.int .i64 b,PV.int .i64 c] (tu r):=(BR n)
abbrev Ls (r:Bool):PV:=PV.bool r
def fS (n:Nat) (a:Val):Option (Bool):=
 match a with
 | ⟨b,c,d,e,f,g⟩=>
 bnd (gX n (Val.mk b c d e f g) (32:Int) (0:Int)) fun⟨_,i⟩=>
 some i
theorem nZ (n:Nat):∀ (a:Val) (r:Bool),fS n a=some r->qc TP 38 [PV.agg (xZ.cells a)] (Ls r):=by
 intro a r h;obtain⟨_,_,_,_,_,_⟩:=a;unfold fS at h;refine zN Tryz.call38 Tryz.func38 [1000000] ?_;conv=>whnf
 refine bq h fun⟨_,_⟩ b h=>⟨_,(Et n _ _ _ _ b),?_⟩;obtain rfl:=sj h;conv=>whnf
 try exact oX
abbrev mU (r:Bool):PV:=PV.bool r
def bA (n:Nat) (b:List Val) (g39:Val->Option (Bool)):LK (Int) (Bool):=fun c a=>
 bif(decide (a<((Val.rows b).length:Int)))then(
 bnd (idx b a) fun⟨j,k,d,e,f,g⟩=>
 bnd (g39 (Val.mk j k d e f g)) fun i=>
 bif(!i)then(
 some false)
 else(
 c (kwr .i64 (a+1))))
 else(
 some true)
def bR (n:Nat) (g39:Val->Option (Bool)) (b:Val):Option (Bool):=
 match b with
 | ⟨a,_,_,_,c,_⟩=>
 bif(bif(a==6)then true else(a==7))then(
 some false)
 else(
 qC (bA n c g39) n (0:Int))
theorem Gp (n:Nat) (g39:Val->Option (Bool)) (g39_ok:∀ (a:Val) (r:Bool),g39 a=some r->qc TP 39 [PV.agg (xZ.cells a)] (mU r)):∀ (a:Val) (r:Bool),bR n g39 a=some r->qc TP 39 [PV.agg (xZ.cells a)] (mU r):=by
 intro a r h;obtain⟨g,i,j,k,d,l⟩:=a;unfold bR at h;refine zN Tryz.call39 Tryz.func39 [1000000] ?_;conv=>whnf
 refine⟨id,id,id,?_⟩;conv=>whnf
 apply ifc h<;>intro c h
 ·obtain rfl:=sj h
  conv=>whnf
  try exact oX
 conv=>whnf
 refine qP.fn [1000000] (S:=Int) (fun b=>[(1,.ptr 0 0),(3,pI b)]) (fun b=>[.box 35 [pI g,pB i,pI j,pS k,pV d,pT l]]) (B:=bA n d g39) h (wk [0] []) ?_;intro _ b h;unfold bA at h;conv=>whnf
 apply ifc h<;>intro c h
 ·conv=>whnf
  refine bq h fun⟨_,_,_,_,_,_⟩ f h=>⟨_,Codec.at_ xZ f,?_⟩;conv=>whnf
  refine bq h fun _ e h=>⟨_,(g39_ok _ _ e),?_⟩;conv=>whnf
  apply ifc h<;>intro c h
  ·obtain rfl:=sj h
   conv=>whnf
   try exact oX
  conv=>whnf
  exact⟨(kwr .i64 (b+1)),h,wk [0] []⟩
 obtain rfl:=sj h;conv=>whnf
 try exact oX
def uY:Nat->Val->Option (Bool)
 | 0=>fun _=>none
 | n+1=>bR n (uY n)
theorem GD (n:Nat):(∀ (a:Val) (r:Bool),uY n a=some r->qc TP 39 [PV.agg (xZ.cells a)] (mU r)):=by
 induction n with
 | zero=>exact(by intros; rename_i h; cases h)
 | succ n ih=>
  have hg39:=ih;exact Gp n (uY n) hg39
theorem ZA (n:Nat):∀ (a:Val) (r:Bool),uY n a=some r->qc TP 39 [PV.agg (xZ.cells a)] (mU r):=(GD n)
abbrev UN (r:Bool):PV:=PV.bool r
def fW (n:Nat) (i:Val):Option (Bool):=
 match i with
 | ⟨a,b,c,d,e,f⟩=>
 bnd (qE (a != 0) (fS n (Val.mk a b c d e f))) fun g=>
 bnd (qE (bif(a != 0)then g else false) (uY n (Val.mk a b c d e f))) fun j=>
 some (bif(bif(a != 0)then g else false)then j else false)
theorem Vm (n:Nat):∀ (a:Val) (r:Bool),fW n a=some r->qc TP 163 [PV.agg (xZ.cells a)] (UN r):=by
 intro a r h;obtain⟨_,_,_,_,_,_⟩:=a;unfold fW at h;refine zN Tryz.call163 Tryz.func163 [1000000] ?_;conv=>whnf
 refine⟨id,?_⟩;conv=>whnf
 refine bq h fun _ d h=>⟨_,fun b=>(nZ n _ _ (qa d b)),?_⟩;conv=>whnf
 refine⟨id,id,?_⟩;conv=>whnf
 refine bq h fun _ c h=>⟨_,fun b=>(ZA n _ _ (qa c b)),?_⟩;conv=>whnf
 refine⟨id,?_⟩;obtain rfl:=sj h;conv=>whnf
 try exact oX
abbrev Dx (r:Bool):PV:=PV.bool r
def bG (n:Nat) (a:List Val) (b:List SS):LK (Int) (Bool):=fun d c=>
 bif(decide (c<((Val.rows a).length:Int)))then(
 bnd (idx a c) fun⟨g,i,j,k,l,m⟩=>
 bnd (fW n (Val.mk g i j k l m)) fun e=>
 bif(!e)then(
 some false)
 else(
 d (kwr .i64 (c+1))))
 else(
 bnd (qE (((qi b).length:Int)==((Val.rows a).length:Int)) (cN n b)) fun f=>
 some (bif(((qi b).length:Int)==((Val.rows a).length:Int))then f else false))
def dV (n:Nat) (a:List SS) (b:List Val):Option (Bool):=
 qC (bG n b a) n (0:Int)
theorem ZC (n:Nat):∀ (a:List SS) (b:List Val) (r:Bool),dV n a b=some r->qc TP 119 [PV.sl (qi a),PV.sl (Val.rows b)] (Dx r):=by
 intro a b r h;unfold dV at h;refine zN Tryz.call119 Tryz.func119 [1000000] ?_;conv=>whnf
 refine qP.fn [1000000] (S:=Int) (fun c=>[(0,pT a),(1,pV b),(5,pI c)]) (fun c=>[]) (B:=bG n b a) h (wk [] []) ?_;intro _ c h;unfold bG at h;conv=>whnf
 apply ifc h<;>intro g h
 ·conv=>whnf
  refine bq h fun⟨_,_,_,_,_,_⟩ e h=>⟨_,Codec.at_ xZ e,?_⟩;conv=>whnf
  refine bq h fun _ d h=>⟨_,(Vm n _ _ d),?_⟩;conv=>whnf
  apply ifc h<;>intro g h
  ·obtain rfl:=sj h
   conv=>whnf
   try exact oX
  conv=>whnf
  exact⟨(kwr .i64 (c+1)),h,wk [] []⟩
 conv=>whnf
 refine⟨id,?_⟩;conv=>whnf
 refine bq h fun _ f h=>⟨_,fun i=>(Qx n _ _ (qa f i)),?_⟩;conv=>whnf
 refine⟨id,?_⟩;obtain rfl:=sj h;conv=>whnf
 try exact oX
abbrev Ff (r:Bool):PV:=PV.bool r
def dj (n:Nat) (c:Node):Option (Bool):=
 match c with
 | ⟨a,d,e,f⟩=>
 bnd (qE (decide (a≥1)) (cN n d)) fun b=>
 bnd (qE (bif(decide (a≥1))then b else false) (dV n e f)) fun g=>
 some (bif(bif(decide (a≥1))then b else false)then g else false)
theorem Ur (n:Nat):∀ (a:Node) (r:Bool),dj n a=some r->qc TP 72 [PV.agg (zL.cells a)] (Ff r):=by
 intro a r h;obtain⟨_,_,_,_⟩:=a;unfold dj at h;refine zN Tryz.call72 Tryz.func72 [1000000] ?_;conv=>whnf
 refine⟨id,id,?_⟩;conv=>whnf
 refine bq h fun _ d h=>⟨_,fun b=>(Qx n _ _ (qa d b)),?_⟩;conv=>whnf
 refine⟨id,id,id,id,id,?_⟩;conv=>whnf
 refine bq h fun _ c h=>⟨_,fun b=>(ZC n _ _ _ (qa c b)),?_⟩;conv=>whnf
 refine⟨id,?_⟩;obtain rfl:=sj h;conv=>whnf
 try exact oX
abbrev Fe (r:Bool):PV:=PV.bool r
def di (n:Nat) (c:Edge):Option (Bool):=
 match c with
 | ⟨a,_,_,d,e,f⟩=>
 bnd (qE (decide (a≥1)) (uG n d)) fun b=>
 bnd (qE (bif(decide (a≥1))then b else false) (dV n e f)) fun g=>
 some (bif(bif(decide (a≥1))then b else false)then g else false)
theorem Uq (n:Nat):∀ (a:Edge) (r:Bool),di n a=some r->qc TP 73 [PV.agg (zD.cells a)] (Fe r):=by
 intro a r h;obtain⟨_,_,_,_,_,_⟩:=a;unfold di at h;refine zN Tryz.call73 Tryz.func73 [1000000] ?_;conv=>whnf
 refine⟨id,id,?_⟩;conv=>whnf
 refine bq h fun _ d h=>⟨_,fun b=>(vt n _ _ (qa d b)),?_⟩;conv=>whnf
 refine⟨id,id,id,id,id,?_⟩;conv=>whnf
 refine bq h fun _ c h=>⟨_,fun b=>(ZC n _ _ _ (qa c b)),?_⟩;conv=>whnf
 refine⟨id,?_⟩;obtain rfl:=sj h;conv=>whnf
 try exact oX
abbrev CS (r:Int):PV:=PV.int .i64 r
def dk (n:Nat) (b:List Node) (d:Int):LK (Int) (Int):=fun c a=>
 bif(decide (a<((Node.rows b).length:Int)))then(
 bnd (idx b a) fun⟨e,_,_,_⟩=>
 bif(e==d)then(
 some a)
 else(
 c (kwr .i64 (a+1))))
 else(
 some (-1:Int))
def uV (n:Nat) (a:Graph) (c:Int):Option (Int):=
 match a with
 | ⟨b,_⟩=>
 qC (dk n b c) n (0:Int)
theorem dm (n:Nat):∀ (b:Graph) (a r:Int),uV n b a=some r->qc TP 30 [PV.agg (vG.cells b),PV.int .i64 a] (CS r):=by
 intro b a r h;obtain⟨d,g⟩:=b;unfold uV at h;refine zN Tryz.call30 Tryz.func30 [1000000] ?_;conv=>whnf
 refine qP.fn [1000000] (S:=Int) (fun c=>[(1,pI a),(2,.ptr 0 0),(5,pI c)]) (fun c=>[.box 29 [.p (.sl (Node.rows d)),.p (.sl (Edge.rows g))]]) (B:=dk n d a) h (wk [0] []) ?_;intro _ c h;unfold dk at h;conv=>whnf
 apply ifc h<;>intro f h
 ·conv=>whnf
  refine bq h fun⟨_,_,_,_⟩ e h=>⟨_,Codec.at_ zL e,?_⟩;conv=>whnf
  apply ifc h<;>intro f h
  ·obtain rfl:=sj h
   conv=>whnf
   try exact oX
  conv=>whnf
  exact⟨(kwr .i64 (c+1)),h,wk [0] []⟩
 obtain rfl:=sj h;conv=>whnf
 try exact oX
abbrev LC (r:Bool):PV:=PV.bool r
def pk (n:Nat) (b:List Edge) (e:List Node):LK (Int) (Bool):=fun k a=>
 bif(decide (a<((Edge.rows b).length:Int)))then(
 bnd (idx b a) fun⟨c,g,i,l,m,o⟩=>
 bnd (di n (Edge.mk c g i l m o)) fun d=>
 bnd (qE ((!(!d))&&(decide (a>0))) (idx b (kwr .i64 (a - 1)))) fun⟨f,_,_,_,_,_⟩=>
 bnd (qE (!(bif(!d)then true else(bif(decide (a>0))then(decide (c<=f))else false))) (uV n (Graph.mk e b) g)) fun j=>
 bnd (qE (!(bif(bif(!d)then true else(bif(decide (a>0))then(decide (c<=f))else false))then true else(decide (j<0)))) (uV n (Graph.mk e b) i)) fun p=>
 bif(bif(bif(bif(!d)then true else(bif(decide (a>0))then(decide (c<=f))else false))then true else(decide (j<0)))then true else(decide (p<0)))then(
 some false)
 else(
 k (kwr .i64 (a+1))))
 else(
 some (bif(decide (((Node.rows e).length:Int)<=4096))then(decide (((Edge.rows b).length:Int)<=4096))else false))
def pj (n:Nat) (b:List Node) (f:List Edge):LK (Int) (Bool):=fun d a=>
 bif(decide (a<((Node.rows b).length:Int)))then(
 bnd (idx b a) fun⟨g,i,j,k⟩=>
 bnd (dj n (Node.mk g i j k)) fun c=>
 bnd (qE ((!(!c))&&(decide (a>0))) (idx b a)) fun⟨l,_,_,_⟩=>
 bnd (qE ((!(!c))&&(decide (a>0))) (idx b (kwr .i64 (a - 1)))) fun⟨e,_,_,_⟩=>
 bif(bif(!c)then true else(bif(decide (a>0))then(decide (l<=e))else false))then(
 some false)
 else(
 d (kwr .i64 (a+1))))
 else(
 qC (pk n f b) n (0:Int))
def Qw (n:Nat) (a:Graph):Option (Bool):=
 match a with
 | ⟨b,c⟩=>
 qC (pj n b c) n (0:Int)
theorem Ew (n:Nat):∀ (b:Graph) (r:Bool),Qw n b=some r->qc TP 37 [PV.agg (vG.cells b)] (LC r):=by
 intro b r h;obtain⟨c,e⟩:=b;unfold Qw at h;refine zN Tryz.call37 Tryz.func37 [1000000] ?_;conv=>whnf
 refine qP.fn [1000000] (S:=Int) (fun f=>[(1,.ptr 0 0),(3,pI f)]) (fun f=>[.box 29 [.p (.sl (Node.rows c)),.p (.sl (Edge.rows e))]]) (B:=pj n c e) h (wk [0] []) ?_;intro _ f h;unfold pj at h;conv=>whnf
 apply ifc h<;>intro g h
 ·conv=>whnf
  refine bq h fun⟨_,_,_,_⟩ l h=>⟨_,Codec.at_ zL l,?_⟩;conv=>whnf
  refine bq h fun _ k h=>⟨_,(Ur n _ _ k),?_⟩;conv=>whnf
  refine⟨id,id,id,id,id,?_⟩;conv=>whnf
  refine bq h fun⟨_,_,_,_⟩ j h=>⟨_,fun a=>Codec.at_ zL (qa j a),?_⟩;conv=>whnf
  iterate 6 refine⟨id,?_⟩
  conv=>whnf
  refine bq h fun⟨_,_,_,_⟩ i h=>⟨_,fun a=>Codec.at_ zL (qa i a),?_⟩;conv=>whnf
  iterate 7 refine⟨id,?_⟩
  conv=>whnf
  apply ifc h<;>intro g h
  ·obtain rfl:=sj h
   conv=>whnf
   try exact oX
  conv=>whnf
  exact⟨(kwr .i64 (f+1)),h,wk [0] []⟩
 conv=>whnf
 refine qP.fn [1000000] (S:=Int) (fun d=>[(1,.ptr 0 0),(4,pI d)]) (fun d=>[.box 29 [.p (.sl (Node.rows c)),.p (.sl (Edge.rows e))]]) (B:=pk n e c) h (wk [0] []) ?_;intro _ d h;unfold pk at h;conv=>whnf
 apply ifc h<;>intro g h
 ·conv=>whnf
  refine bq h fun⟨_,_,_,_,_,_⟩ t h=>⟨_,Codec.at_ zD t,?_⟩;conv=>whnf
  refine bq h fun _ s h=>⟨_,(Uq n _ _ s),?_⟩;conv=>whnf
  iterate 7 refine⟨id,?_⟩
  conv=>whnf
  refine bq h fun⟨_,_,_,_,_,_⟩ q h=>⟨_,fun a=>Codec.at_ zD (qa q a),?_⟩;conv=>whnf
  iterate 10 refine⟨id,?_⟩
  conv=>whnf
  refine bq h fun _ o h=>⟨_,fun a=>(dm n _ _ _ (qa o a)),?_⟩;conv=>whnf
  refine⟨id,id,id,id,id,?_⟩;conv=>whnf
  refine bq h fun _ m h=>⟨_,fun a=>(dm n _ _ _ (qa m a)),?_⟩;conv=>whnf
  refine⟨id,id,?_⟩;conv=>whnf
  apply ifc h<;>intro g h
  ·obtain rfl:=sj h
   conv=>whnf
   try exact oX
  conv=>whnf
  exact⟨(kwr .i64 (d+1)),h,wk [0] []⟩
 conv=>whnf
 refine⟨id,id,id,id,?_⟩;obtain rfl:=sj h;conv=>whnf
 try exact oX
abbrev LD (r:Bool):PV:=PV.bool r
def pq (n:Nat) (b:List Edge) (e:Int):LK (Int) (Bool):=fun c a=>
 bif(decide (a<((Edge.rows b).length:Int)))then(
 bnd (idx b a) fun⟨d,_,_,_,_,_⟩=>
 bif(decide (d≥e))then(
 some false)
 else(
 c (kwr .i64 (a+1))))
 else(
 some true)
def po (n:Nat) (b:List Node) (e:Int) (d:List Edge) (f:Int):LK (Int) (Bool):=fun c a=>
 bif(decide (a<((Node.rows b).length:Int)))then(
 bnd (idx b a) fun⟨g,_,_,_⟩=>
 bif(decide (g≥e))then(
 some false)
 else(
 c (kwr .i64 (a+1))))
 else(
 qC (pq n d f) n (0:Int))
def Qy (n:Nat) (e:State):Option (Bool):=
 match e with
 | ⟨⟨c,d⟩,⟨a,b⟩⟩=>
 bnd (qE (!(bif(bif(bif(decide (a<1))then true else(decide (a>4611686018427387904)))then true else(decide (b<1)))then true else(decide (b>4611686018427387904)))) (Qw n (Graph.mk c d))) fun f=>
 bif(bif(bif(bif(bif(decide (a<1))then true else(decide (a>4611686018427387904)))then true else(decide (b<1)))then true else(decide (b>4611686018427387904)))then true else(!f))then(
 some false)
 else(
 qC (po n c a d b) n (0:Int))
theorem Ex (n:Nat):∀ (a:State) (r:Bool),Qy n a=some r->qc TP 15 [PV.agg (mH.cells a)] (LD r):=by
 intro a r h;obtain⟨⟨g,d⟩,⟨i,e⟩⟩:=a;unfold Qy at h;refine zN Tryz.call15 Tryz.func15 [1000000] ?_;conv=>whnf
 iterate 14 refine⟨id,?_⟩
 conv=>whnf
 refine bq h fun _ l h=>⟨_,fun m=>(Ew n _ _ (qa l m)),?_⟩;conv=>whnf
 refine⟨id,id,?_⟩;conv=>whnf
 apply ifc h<;>intro b h
 ·obtain rfl:=sj h
  conv=>whnf
  try exact oX
 conv=>whnf
 refine qP.fn [1000000] (S:=Int) (fun f=>[(1,.ptr 0 0),(3,pI f)]) (fun f=>[.box 33 [.p (.sl (Node.rows g)),.p (.sl (Edge.rows d)),pI i,pI e]]) (B:=po n g i d e) h (wk [0] []) ?_;intro _ f h;unfold po at h;conv=>whnf
 apply ifc h<;>intro b h
 ·conv=>whnf
  refine bq h fun⟨_,_,_,_⟩ j h=>⟨_,Codec.at_ zL j,?_⟩;conv=>whnf
  apply ifc h<;>intro b h
  ·obtain rfl:=sj h
   conv=>whnf
   try exact oX
  conv=>whnf
  exact⟨(kwr .i64 (f+1)),h,wk [0] []⟩
 conv=>whnf
 refine qP.fn [1000000] (S:=Int) (fun c=>[(1,.ptr 0 0),(4,pI c)]) (fun c=>[.box 33 [.p (.sl (Node.rows g)),.p (.sl (Edge.rows d)),pI i,pI e]]) (B:=pq n d e) h (wk [0] []) ?_;intro _ c h;unfold pq at h;conv=>whnf
 apply ifc h<;>intro b h
 ·conv=>whnf
  refine bq h fun⟨_,_,_,_,_,_⟩ k h=>⟨_,Codec.at_ zD k,?_⟩;conv=>whnf
  apply ifc h<;>intro b h
  ·obtain rfl:=sj h
   conv=>whnf
   try exact oX
  conv=>whnf
  exact⟨(kwr .i64 (c+1)),h,wk [0] []⟩
 obtain rfl:=sj h;conv=>whnf
 try exact oX
abbrev EM (r:Bool):PV:=PV.bool r
def mP (n:Nat) (b:List Edge):LK (Int) (Bool):=fun c a=>
 bif(decide (a<((Edge.rows b).length:Int)))then(
 bnd (idx b a) fun⟨_,_,_,_,d,_⟩=>
 bif(decide (((qi d).length:Int)>1000))then(
 some false)
 else(
 c (kwr .i64 (a+1))))
 else(
 some true)
def mO (n:Nat) (b:List Node) (f:List Edge):LK (Int) (Bool):=fun d a=>
 bif(decide (a<((Node.rows b).length:Int)))then(
 bnd (idx b a) fun⟨_,c,_,_⟩=>
 bnd (qE (!(decide (((qi c).length:Int)>1000))) (idx b a)) fun⟨_,_,e,_⟩=>
 bif(bif(decide (((qi c).length:Int)>1000))then true else(decide (((qi e).length:Int)>1000)))then(
 some false)
 else(
 d (kwr .i64 (a+1))))
 else(
 qC (mP n f) n (0:Int))
def sv (n:Nat) (a:Graph):Option (Bool):=
 match a with
 | ⟨b,c⟩=>
 qC (mO n b c) n (0:Int)
theorem Db (n:Nat):∀ (a:Graph) (r:Bool),sv n a=some r->qc TP 16 [PV.agg (vG.cells a)] (EM r):=by
 intro a r h;obtain⟨f,c⟩:=a;unfold sv at h;refine zN Tryz.call16 Tryz.func16 [1000000] ?_;conv=>whnf
 refine qP.fn [1000000] (S:=Int) (fun d=>[(1,.ptr 0 0),(3,pI d)]) (fun d=>[.box 29 [.p (.sl (Node.rows f)),.p (.sl (Edge.rows c))]]) (B:=mO n f c) h (wk [0] []) ?_;intro _ d h;unfold mO at h;conv=>whnf
 apply ifc h<;>intro e h
 ·conv=>whnf
  refine bq h fun⟨_,_,_,_⟩ i h=>⟨_,Codec.at_ zL i,?_⟩;conv=>whnf
  refine⟨id,id,id,?_⟩;conv=>whnf
  refine bq h fun⟨_,_,_,_⟩ g h=>⟨_,fun k=>Codec.at_ zL (qa g k),?_⟩;conv=>whnf
  refine⟨id,id,id,id,id,?_⟩;conv=>whnf
  apply ifc h<;>intro e h
  ·obtain rfl:=sj h
   conv=>whnf
   try exact oX
  conv=>whnf
  exact⟨(kwr .i64 (d+1)),h,wk [0] []⟩
 conv=>whnf
 refine qP.fn [1000000] (S:=Int) (fun b=>[(1,.ptr 0 0),(4,pI b)]) (fun b=>[.box 29 [.p (.sl (Node.rows f)),.p (.sl (Edge.rows c))]]) (B:=mP n c) h (wk [0] []) ?_;intro _ b h;unfold mP at h;conv=>whnf
 apply ifc h<;>intro e h
 ·conv=>whnf
  refine bq h fun⟨_,_,_,_,_,_⟩ j h=>⟨_,Codec.at_ zD j,?_⟩;conv=>whnf
  apply ifc h<;>intro e h
  ·obtain rfl:=sj h
   conv=>whnf
   try exact oX
  conv=>whnf
  exact⟨(kwr .i64 (b+1)),h,wk [0] []⟩
 obtain rfl:=sj h;conv=>whnf
 try exact oX
abbrev CU (r:Bool):PV:=PV.bool r
def dp (n:Nat) (a:List Val) (d:List SS):LK (Int) (Bool):=fun c b=>
 bif(decide (b<((Val.rows a).length:Int)))then(
 bnd (idx a b) fun⟨f,g,i,j,k,l⟩=>
 bnd (fS n (Val.mk f g i j k l)) fun e=>
 bif(!e)then(
 some false)
 else(
 c (kwr .i64 (b+1))))
 else(
 some (((qi d).length:Int)==((Val.rows a).length:Int)))
def bW (n:Nat) (a:Env):Option (Bool):=
 match a with
 | ⟨b,c⟩=>
 qC (dp n c b) n (0:Int)
theorem GM (n:Nat):∀ (a:Env) (r:Bool),bW n a=some r->qc TP 17 [PV.agg (SV.cells a)] (CU r):=by
 intro a r h;obtain⟨c,d⟩:=a;unfold bW at h;refine zN Tryz.call17 Tryz.func17 [1000000] ?_;conv=>whnf
 refine qP.fn [1000000] (S:=Int) (fun b=>[(1,.ptr 0 0),(3,pI b)]) (fun b=>[.box 25 [pT c,pV d]]) (B:=dp n d c) h (wk [0] []) ?_;intro _ b h;unfold dp at h;conv=>whnf
 apply ifc h<;>intro g h
 ·conv=>whnf
  refine bq h fun⟨_,_,_,_,_,_⟩ f h=>⟨_,Codec.at_ xZ f,?_⟩;conv=>whnf
  refine bq h fun _ e h=>⟨_,(nZ n _ _ e),?_⟩;conv=>whnf
  apply ifc h<;>intro g h
  ·obtain rfl:=sj h
   conv=>whnf
   try exact oX
  conv=>whnf
  exact⟨(kwr .i64 (b+1)),h,wk [0] []⟩
 obtain rfl:=sj h;conv=>whnf
 try exact oX
abbrev VB (r:Bool):PV:=PV.bool r
def fi (n:Nat) (i:Val):Option (Bool):=
 match i with
 | ⟨a,b,c,d,e,f⟩=>
 bnd (qE (a==5) (fS n (Val.mk a b c d e f))) fun g=>
 bnd (qE (bif(a==5)then g else false) (uY n (Val.mk a b c d e f))) fun j=>
 some (bif(bif(a==5)then g else false)then j else false)
theorem Xz (n:Nat):∀ (a:Val) (r:Bool),fi n a=some r->qc TP 18 [PV.agg (xZ.cells a)] (VB r):=by
 intro a r h;obtain⟨_,_,_,_,_,_⟩:=a;unfold fi at h;refine zN Tryz.call18 Tryz.func18 [1000000] ?_;conv=>whnf
 refine⟨id,?_⟩;conv=>whnf
 refine bq h fun _ d h=>⟨_,fun b=>(nZ n _ _ (qa d b)),?_⟩;conv=>whnf
 refine⟨id,id,?_⟩;conv=>whnf
 refine bq h fun _ c h=>⟨_,fun b=>(ZA n _ _ (qa c b)),?_⟩;conv=>whnf
 refine⟨id,?_⟩;obtain rfl:=sj h;conv=>whnf
 try exact oX
end W
end
section
set_option maxRecDepth 100000
set_option maxHeartbeats 20000000
open Go Go.Proofs Ax
namespace W
abbrev mT (r:Int):PV:=PV.int .i64 r
def re (n:Nat) (b:List Val) (g75:Val->Option (Int)):LK (Int×Int) (Int):=fun d (c,a)=>
 bif(decide (a<((Val.rows b).length:Int)))then(
 bnd (idx b a) fun⟨l,e,f,g,i,j⟩=>
 bnd (g75 (Val.mk l e f g i j)) fun k=>
 d ((kwr .i64 (c+k)),(kwr .i64 (a+1))))
 else(
 some c)
def Qe (n:Nat) (g75:Val->Option (Int)) (a:Val):Option (Int):=
 match a with
 | ⟨_,_,_,_,b,_⟩=>
 qC (re n b g75) n ((1:Int),(0:Int))
theorem Gn (n:Nat) (g75:Val->Option (Int)) (g75_ok:∀ (a:Val) (r:Int),g75 a=some r->qc TP 75 [PV.agg (xZ.cells a)] (mT r)):∀ (a:Val) (r:Int),Qe n g75 a=some r->qc TP 75 [PV.agg (xZ.cells a)] (mT r):=by
 intro a r h;obtain⟨g,j,k,l,d,m⟩:=a;unfold Qe at h;refine zN Tryz.call75 Tryz.func75 [1000000] ?_;conv=>whnf
 refine qP.fn [1000000] (S:=Int×Int) (fun(b,c)=>[(1,.ptr 0 0),(3,pI b),(4,pI c)]) (fun(b,c)=>[.box 35 [pI g,pB j,pI k,pS l,pV d,pT m]]) (B:=re n d g75) h (wk [0] []) ?_;intro _ st h;obtain⟨b,c⟩:=st;unfold re at h;conv=>whnf
 apply ifc h<;>intro _ h
 ·conv=>whnf
  refine bq h fun⟨_,_,_,_,_,_⟩ f h=>⟨_,Codec.at_ xZ f,?_⟩;conv=>whnf
  refine bq h fun i e h=>⟨_,(g75_ok _ _ e),?_⟩;conv=>whnf
  exact⟨((kwr .i64 (b+i)),(kwr .i64 (c+1))),h,wk [0] []⟩
 obtain rfl:=sj h;conv=>whnf
 try exact oX
def np:Nat->Val->Option (Int)
 | 0=>fun _=>none
 | n+1=>Qe n (np n)
theorem GC (n:Nat):(∀ (a:Val) (r:Int),np n a=some r->qc TP 75 [PV.agg (xZ.cells a)] (mT r)):=by
 induction n with
 | zero=>exact(by intros; rename_i h; cases h)
 | succ n ih=>
  have hg75:=ih;exact Gn n (np n) hg75
theorem Cl (n:Nat):∀ (a:Val) (r:Int),np n a=some r->qc TP 75 [PV.agg (xZ.cells a)] (mT r):=(GC n)
abbrev mV (r:Int):PV:=PV.int .i64 r
def rD (n:Nat) (c:List qd) (d:Int) (g40:qd->Int->Option (Int)):LK (Int×Int) (Int):=fun e (a,b)=>
 bif(bif(decide (b<((qd.rows c).length:Int)))then(decide (a<d))else false)then(
 bnd (idx c b) fun⟨f,g,⟨i,j,k,l,m,o⟩,p,q⟩=>
 bnd (g40 (qd.mk f g (Val.mk i j k l m o) p q) (kwr .i64 (d - a))) fun s=>
 e ((kwr .i64 (a+s)),(kwr .i64 (b+1))))
 else(
 some a)
def Qf (n:Nat) (g40:qd->Int->Option (Int)) (b:qd) (d:Int):Option (Int):=
 match b with
 | ⟨_,f,⟨g,i,j,a,k,l⟩,_,c⟩=>
 bnd (np n (Val.mk g i j a k l)) fun e=>
 qC (rD n c d g40) n ((kwr .i64 ((kwr .i64 ((kwr .i64 ((1:Int)+(kwr .i64 (Int.tdiv ((f.length:Nat):Int) (16:Int)))))+(kwr .i64 (Int.tdiv ((a.length:Nat):Int) (16:Int)))))+e)),(0:Int))
theorem Gq (n:Nat) (g40:qd->Int->Option (Int)) (g40_ok:∀ (b:qd) (a r:Int),g40 b a=some r->qc TP 40 [PV.agg (xT.cells b),PV.int .i64 a] (mV r)):∀ (b:qd) (a r:Int),Qf n g40 b a=some r->qc TP 40 [PV.agg (xT.cells b),PV.int .i64 a] (mV r):=by
 intro b a r h;obtain⟨j,k,⟨m,o,p,q,s,t⟩,u,e⟩:=b;unfold Qf at h;refine zN Tryz.call40 Tryz.func40 [1000000] ?_;conv=>whnf
 refine⟨by unfold gI; decide,?_⟩;conv=>whnf
 refine⟨by unfold gI; decide,?_⟩;conv=>whnf
 refine bq h fun _ i h=>⟨_,(Cl n _ _ i),?_⟩;conv=>whnf
 refine qP.fn [1000000] (S:=Int×Int) (fun(c,d)=>[(1,pI a),(2,.ptr 0 0),(5,pI c),(6,pI d)]) (fun(c,d)=>[.box 42 [pI j,pS k,pI m,pB o,pI p,pS q,pV s,pT t,pT u,pE e]]) (B:=rD n e a g40) h (wk [0] []) ?_;intro _ st h;obtain⟨c,d⟩:=st;unfold rD at h;conv=>whnf
 refine⟨id,id,id,?_⟩;conv=>whnf
 apply ifc h<;>intro _ h
 ·conv=>whnf
  refine bq h fun⟨_,_,⟨_,_,_,_,_,_⟩,_,_⟩ g h=>⟨_,Codec.at_ xT g,?_⟩;conv=>whnf
  refine bq h fun l f h=>⟨_,(g40_ok _ _ _ f),?_⟩;conv=>whnf
  exact⟨((kwr .i64 (c+l)),(kwr .i64 (d+1))),h,wk [0] []⟩
 obtain rfl:=sj h;conv=>whnf
 try exact oX
def gf:Nat->qd->Int->Option (Int)
 | 0=>fun _ _=>none
 | n+1=>Qf n (gf n)
theorem GJ (n:Nat):(∀ (a:qd) (b r:Int),gf n a b=some r->qc TP 40 [PV.agg (xT.cells a),PV.int .i64 b] (mV r)):=by
 induction n with
 | zero=>exact(by intros; rename_i h; cases h)
 | succ n ih=>
  have hg40:=ih;exact Gq n (gf n) hg40
theorem fV (n:Nat):∀ (a:qd) (b r:Int),gf n a b=some r->qc TP 40 [PV.agg (xT.cells a),PV.int .i64 b] (mV r):=(GJ n)
abbrev UI (r:Int):PV:=PV.int .i64 r
def dQ (n:Nat) (c:List qd) (d:Int):LK (Int×Int) (Int):=fun e (a,b)=>
 bif(bif(decide (b<((qd.rows c).length:Int)))then(decide (a<d))else false)then(
 bnd (idx c b) fun⟨m,o,⟨p,q,s,f,g,i⟩,j,k⟩=>
 bnd (gf n (qd.mk m o (Val.mk p q s f g i) j k) (kwr .i64 (d - a))) fun l=>
 e ((kwr .i64 (a+l)),(kwr .i64 (b+1))))
 else(
 some a)
def uu (n:Nat) (a:List qd) (b:Int):Option (Int):=
 qC (dQ n a b) n ((0:Int),(0:Int))
theorem uH (n:Nat):∀ (a:List qd) (b r:Int),uu n a b=some r->qc TP 41 [PV.sl (qd.rows a),PV.int .i64 b] (UI r):=by
 intro a b r h;unfold uu at h;refine zN Tryz.call41 Tryz.func41 [1000000] ?_;conv=>whnf
 refine qP.fn [1000000] (S:=Int×Int) (fun(c,d)=>[(0,pE a),(1,pI b),(5,pI c),(6,pI d)]) (fun(c,d)=>[]) (B:=dQ n a b) h (wk [] []) ?_;intro _ st h;obtain⟨c,d⟩:=st;unfold dQ at h;conv=>whnf
 refine⟨id,id,id,?_⟩;conv=>whnf
 apply ifc h<;>intro _ h
 ·conv=>whnf
  refine bq h fun⟨_,_,⟨_,_,_,_,_,_⟩,_,_⟩ f h=>⟨_,Codec.at_ xT f,?_⟩;conv=>whnf
  refine bq h fun g e h=>⟨_,(fV n _ _ _ e),?_⟩;conv=>whnf
  exact⟨((kwr .i64 (c+g)),(kwr .i64 (d+1))),h,wk [] []⟩
 obtain rfl:=sj h;conv=>whnf
 try exact oX
abbrev Dq (r:Bool):PV:=PV.bool r
def rm (n:Nat) (d:List zU) (a:Int) (e:Int×Int->Option (Bool)):LK (Int×Int) (Bool):=fun f (b,c)=>
 bnd (idx d a) fun⟨_,g⟩=>
 bif(bif(decide (c<((qg.rows g).length:Int)))then(decide (b<3000))else false)then(
 bnd (idx d a) fun⟨_,i⟩=>
 bnd (idx i c) fun⟨_,_,_,_,j⟩=>
 bnd (uu n j (3000:Int)) fun k=>
 f ((kwr .i64 ((kwr .i64 (b+1))+k)),(kwr .i64 (c+1))))
 else(
 e (b,(kwr .i64 (a+1))))
def rj (n:Nat) (c:List zU) (a:Int) (e:Int×Int->Option (Bool)):LK (Int×Int) (Bool):=fun f (d,b)=>
 bnd (idx c a) fun⟨g,_⟩=>
 bif(bif(decide (b<((qe.rows g).length:Int)))then(decide (d<3000))else false)then(
 bnd (idx c a) fun⟨i,_⟩=>
 bnd (idx i b) fun⟨_,j,_,_⟩=>
 bnd (idx c a) fun⟨k,_⟩=>
 bnd (idx k b) fun⟨_,_,_,l⟩=>
 bnd (uu n l (3000:Int)) fun m=>
 f ((kwr .i64 ((kwr .i64 ((kwr .i64 (d+1))+((qi j).length:Int)))+m)),(kwr .i64 (b+1))))
 else(
 qC (rm n c a e) n (d,(0:Int)))
def rz (n:Nat) (c:List qv) (d:Int×Int->Option (Bool)) (l:Int):LK (Int×Int) (Bool):=fun e (a,b)=>
 bif(bif(decide (b<((qv.rows c).length:Int)))then(decide (a<3000))else false)then(
 bnd (idx c b) fun⟨_,_,_,⟨m,o,⟨p,q,s,t,f,g⟩,i,j⟩⟩=>
 bnd (gf n (qd.mk m o (Val.mk p q s t f g) i j) (3000:Int)) fun k=>
 e ((kwr .i64 ((kwr .i64 (a+1))+k)),(kwr .i64 (b+1))))
 else(
 d (a,(kwr .i64 (l+1))))
def rq (n:Nat) (c:List zy) (f:List qv) (d:Int×Int->Option (Bool)) (g:Int):LK (Int×Int) (Bool):=fun e (a,b)=>
 bif(bif(decide (b<((zy.rows c).length:Int)))then(decide (a<3000))else false)then(
 bnd (idx c b) fun⟨⟨i,j,⟨k,l,m,o,p,q⟩,s,t⟩,_⟩=>
 bnd (gf n (qd.mk i j (Val.mk k l m o p q) s t) (3000:Int)) fun u=>
 e ((kwr .i64 (a+u)),(kwr .i64 (b+1))))
 else(
 qC (rz n f d g) n (a,(0:Int)))
def rn (n:Nat) (c:List xj) (f:List zy) (g:List qv) (d:Int×Int->Option (Bool)) (i:Int):LK (Int×Int) (Bool):=fun e (a,b)=>
 bif(bif(decide (b<((xj.rows c).length:Int)))then(decide (a<3000))else false)then(
 bnd (idx c b) fun⟨⟨j,k,⟨l,m,o,p,q,s⟩,t,u⟩,_⟩=>
 bnd (gf n (qd.mk j k (Val.mk l m o p q s) t u) (3000:Int)) fun v=>
 e ((kwr .i64 (a+v)),(kwr .i64 (b+1))))
 else(
 qC (rq n f g d i) n (a,(0:Int)))
def ri (n:Nat) (c:List zU) (f:List xj) (g:List zy) (i:List qv) (d:Int×Int->Option (Bool)) (j:Int):LK (Int×Int) (Bool):=fun e (a,b)=>
 bif(bif(decide (b<((zU.rows c).length:Int)))then(decide (a<3000))else false)then(
 qC (rj n c b e) n (a,(0:Int)))
 else(
 qC (rn n f g i d j) n (a,(0:Int)))
def rh (n:Nat) (c:List qy):LK (Int×Int) (Bool):=fun d (a,b)=>
 bif(bif(decide (b<((qy.rows c).length:Int)))then(decide (a<3000))else false)then(
 bnd (idx c b) fun⟨_,y,z,⟨A,B,⟨C,e,f,g,i,j⟩,k,l⟩,_,m,_,o,p,q,s,t,_⟩=>
 bnd (gf n (qd.mk A B (Val.mk C e f g i j) k l) (3000:Int)) fun u=>
 bnd (uu n z (3000:Int)) fun v=>
 bnd (uu n p (3000:Int)) fun w=>
 bnd (uu n q (3000:Int)) fun x=>
 qC (ri n y m o s d b) n ((kwr .i64 ((kwr .i64 ((kwr .i64 ((kwr .i64 ((kwr .i64 ((kwr .i64 (a+1))+u))+v))+w))+x))+((qi t).length:Int))),(0:Int)))
 else(
 some (decide (a≥3000)))
def ns (n:Nat) (a:UX):Option (Bool):=
 match a with
 | ⟨b⟩=>
 qC (rh n b) n ((0:Int),(0:Int))
theorem Cs (n:Nat):∀ (G:UX) (r:Bool),ns n G=some r->qc TP 19 [PV.agg (lx.cells G)] (Dq r):=by
 intro G r h;obtain⟨e⟩:=G;unfold ns at h;refine zN Tryz.call19 Tryz.func19 [1000000] ?_;conv=>whnf
 refine qP.fn [1000000] (S:=Int×Int) (fun(Q,a)=>[(1,.ptr 0 0),(3,pI Q),(4,pI a)]) (fun(Q,a)=>[.box 67 [pC e]]) (B:=rh n e) h (wk [0] []) ?_;intro H st h;obtain⟨Q,a⟩:=st;unfold rh at h;conv=>whnf
 refine⟨id,id,?_⟩;conv=>whnf
 apply ifc h<;>intro i h
 ·conv=>whnf
  refine bq h fun⟨y,d,z,⟨A,C,⟨D,j,k,l,m,o⟩,p,q⟩,s,f,t,c,u,v,b,w,x⟩ a7 h=>⟨_,Codec.at_ ub a7,?_⟩;conv=>whnf
  refine bq h fun _ a6 h=>⟨_,(fV n _ _ _ a6),?_⟩;conv=>whnf
  refine bq h fun _ a4 h=>⟨_,(uH n _ _ _ a4),?_⟩;conv=>whnf
  refine bq h fun _ a3 h=>⟨_,(uH n _ _ _ a3),?_⟩;conv=>whnf
  refine bq h fun _ a2 h=>⟨_,(uH n _ _ _ a2),?_⟩;conv=>whnf
  refine qP.fn [1000000] (S:=Int×Int) (fun(R,g)=>[(1,.ptr 0 0),(3,pI R),(4,pI a),(5,.ptr 1 0),(6,pI g)]) (fun(R,g)=>[.box 67 [pC e],.box 47 [pI y,pP d,pE z,pI A,pS C,pI D,pB j,pI k,pS l,pV m,pT o,pT p,pE q,pS s,pA f,pB t,pO c,pE u,pE v,pU b,pT w,pB x]]) (B:=ri n d f c b H a) h (wk [0,1] []) ?_;intro T st h;obtain⟨R,g⟩:=st;unfold ri at h;conv=>whnf
  refine⟨id,id,?_⟩;conv=>whnf
  apply ifc h<;>intro i h
  ·conv=>whnf
   refine qP.fn [1000000] (S:=Int×Int) (fun(I,J)=>[(1,.ptr 0 0),(3,pI I),(4,pI a),(5,.ptr 1 0),(6,pI g),(7,pI J)]) (fun(I,J)=>[.box 67 [pC e],.box 47 [pI y,pP d,pE z,pI A,pS C,pI D,pB j,pI k,pS l,pV m,pT o,pT p,pE q,pS s,pA f,pB t,pO c,pE u,pE v,pU b,pT w,pB x]]) (B:=rj n d g T) h (wk [0,1] []) ?_;intro _ st h;obtain⟨I,J⟩:=st;unfold rj at h;conv=>whnf
   refine bq h fun⟨_,_⟩ V h=>⟨_,Codec.at_ Qc V,?_⟩;conv=>whnf
   refine⟨id,id,?_⟩;conv=>whnf
   apply ifc h<;>intro i h
   ·conv=>whnf
    refine bq h fun⟨_,_⟩ b0 h=>⟨_,Codec.at_ Qc b0,?_⟩;(conv=>whnf);refine bq h fun⟨_,b6,_,_⟩ a9 h=>⟨_,Codec.at_ ua a9,?_⟩;(conv=>whnf);refine bq h fun⟨_,_⟩ a8 h=>⟨_,Codec.at_ Qc a8,?_⟩;(conv=>whnf);refine bq h fun⟨_,_,_,_⟩ a5 h=>⟨_,Codec.at_ ua a5,?_⟩;(conv=>whnf);refine bq h fun b7 U h=>⟨_,(uH n _ _ _ U),?_⟩;(conv=>whnf);exact⟨((kwr .i64 ((kwr .i64 ((kwr .i64 (I+1))+((qi b6).length:Int)))+b7)),(kwr .i64 (J+1))),h,wk [0,1] []⟩
   conv=>whnf
   refine qP.fn [1000000] (S:=Int×Int) (fun(E,K)=>[(1,.ptr 0 0),(3,pI E),(4,pI a),(5,.ptr 1 0),(6,pI g),(8,pI K)]) (fun(E,K)=>[.box 67 [pC e],.box 47 [pI y,pP d,pE z,pI A,pS C,pI D,pB j,pI k,pS l,pV m,pT o,pT p,pE q,pS s,pA f,pB t,pO c,pE u,pE v,pU b,pT w,pB x]]) (B:=rm n d g T) h (wk [0,1] []) ?_;intro _ st h;obtain⟨E,K⟩:=st;unfold rm at h;conv=>whnf
   refine bq h fun⟨_,_⟩ b4 h=>⟨_,Codec.at_ Qc b4,?_⟩;conv=>whnf
   refine⟨id,id,?_⟩;conv=>whnf
   apply ifc h<;>intro i h
   ·conv=>whnf
    refine bq h fun⟨_,_⟩ b3 h=>⟨_,Codec.at_ Qc b3,?_⟩;(conv=>whnf);refine bq h fun⟨_,_,_,_,_⟩ b2 h=>⟨_,Codec.at_ gV b2,?_⟩;(conv=>whnf);refine bq h fun b8 b1 h=>⟨_,(uH n _ _ _ b1),?_⟩;(conv=>whnf);exact⟨((kwr .i64 ((kwr .i64 (E+1))+b8)),(kwr .i64 (K+1))),h,wk [0,1] []⟩
   conv=>whnf
   exact⟨(E,(kwr .i64 (g+1))),h,wk [0,1] []⟩
  conv=>whnf
  refine qP.fn [1000000] (S:=Int×Int) (fun(L,M)=>[(1,.ptr 0 0),(3,pI L),(4,pI a),(5,.ptr 1 0),(9,pI M)]) (fun(L,M)=>[.box 67 [pC e],.box 47 [pI y,pP d,pE z,pI A,pS C,pI D,pB j,pI k,pS l,pV m,pT o,pT p,pE q,pS s,pA f,pB t,pO c,pE u,pE v,pU b,pT w,pB x]]) (B:=rn n f c b H a) h (wk [0,1] []) ?_;intro _ st h;obtain⟨L,M⟩:=st;unfold rn at h;conv=>whnf
  refine⟨id,id,?_⟩;conv=>whnf
  apply ifc h<;>intro i h
  ·conv=>whnf
   refine bq h fun⟨⟨_,_,⟨_,_,_,_,_,_⟩,_,_⟩,_⟩ X h=>⟨_,Codec.at_ Bf X,?_⟩;conv=>whnf
   refine bq h fun b9 W h=>⟨_,(fV n _ _ _ W),?_⟩;conv=>whnf
   exact⟨((kwr .i64 (L+b9)),(kwr .i64 (M+1))),h,wk [0,1] []⟩
  conv=>whnf
  refine qP.fn [1000000] (S:=Int×Int) (fun(N,O)=>[(1,.ptr 0 0),(3,pI N),(4,pI a),(5,.ptr 1 0),(10,pI O)]) (fun(N,O)=>[.box 67 [pC e],.box 47 [pI y,pP d,pE z,pI A,pS C,pI D,pB j,pI k,pS l,pV m,pT o,pT p,pE q,pS s,pA f,pB t,pO c,pE u,pE v,pU b,pT w,pB x]]) (B:=rq n c b H a) h (wk [0,1] []) ?_;intro _ st h;obtain⟨N,O⟩:=st;unfold rq at h;conv=>whnf
  refine⟨id,id,?_⟩;conv=>whnf
  apply ifc h<;>intro i h
  ·conv=>whnf
   refine bq h fun⟨⟨_,_,⟨_,_,_,_,_,_⟩,_,_⟩,_⟩ Z h=>⟨_,Codec.at_ XW Z,?_⟩;conv=>whnf
   refine bq h fun c0 Y h=>⟨_,(fV n _ _ _ Y),?_⟩;conv=>whnf
   exact⟨((kwr .i64 (N+c0)),(kwr .i64 (O+1))),h,wk [0,1] []⟩
  conv=>whnf
  refine qP.fn [1000000] (S:=Int×Int) (fun(F,P)=>[(1,.ptr 0 0),(3,pI F),(4,pI a),(5,.ptr 1 0),(11,pI P)]) (fun(F,P)=>[.box 67 [pC e],.box 47 [pI y,pP d,pE z,pI A,pS C,pI D,pB j,pI k,pS l,pV m,pT o,pT p,pE q,pS s,pA f,pB t,pO c,pE u,pE v,pU b,pT w,pB x]]) (B:=rz n b H a) h (wk [0,1] []) ?_;intro _ st h;obtain⟨F,P⟩:=st;unfold rz at h;conv=>whnf
  refine⟨id,id,?_⟩;conv=>whnf
  apply ifc h<;>intro i h
  ·conv=>whnf
   refine bq h fun⟨_,_,_,⟨_,_,⟨_,_,_,_,_,_⟩,_,_⟩⟩ a1 h=>⟨_,Codec.at_ pQ a1,?_⟩;conv=>whnf
   refine bq h fun b5 a0 h=>⟨_,(fV n _ _ _ a0),?_⟩;conv=>whnf
   exact⟨((kwr .i64 ((kwr .i64 (F+1))+b5)),(kwr .i64 (P+1))),h,wk [0,1] []⟩
  conv=>whnf
  exact⟨(F,(kwr .i64 (a+1))),h,wk [0] []⟩
 obtain rfl:=sj h;conv=>whnf
 try exact oX
abbrev Ly (r:qy):PV:=PV.agg (ub.cells r)
def vK (n:Nat) (a:Int):List zU×List qd×Int×SS×Int×Bool×Int×SS×List Val×List SS×List SS×List qd×SS×List xj×Bool×List zy×List qd×List qd×List qv×List SS×Bool->Option (qy):=fun(b,c,d,e,f,g,i,j,k,l,m,o,p,q,s,t,u,v,w,x,y)=>
 some (qy.mk a b c (qd.mk d e (Val.mk f g i j k l) m o) p q s t u v w x y)
def pe (n:Nat) (a:Int) (b:List qv) (c:List SS) (d:Bool):Bool->Option (qy):=fun e=>
 bif e then(
 vK n a (([]:List _),([]:List _),(0:Int),([]:SS),(0:Int),false,(0:Int),([]:SS),([]:List _),([]:List _),([]:List _),([]:List _),([]:SS),([]:List _),false,([]:List _),([]:List _),([]:List _),b,([]:List _),false))
 else(
 bif(a==8)then(
 vK n a (([]:List _),([]:List _),(0:Int),([]:SS),(0:Int),false,(0:Int),([]:SS),([]:List _),([]:List _),([]:List _),([]:List _),([]:SS),([]:List _),false,([]:List _),([]:List _),([]:List _),([]:List _),c,d))
 else(
 vK n a (([]:List _),([]:List _),(0:Int),([]:SS),(0:Int),false,(0:Int),([]:SS),([]:List _),([]:List _),([]:List _),([]:List _),([]:SS),([]:List _),false,([]:List _),([]:List _),([]:List _),([]:List _),([]:List _),false)))
def pd (n:Nat) (a:Int) (e:List zU) (b:List qv) (c:List SS) (d:Bool):Bool->Option (qy):=fun f=>
 bif f then(
 vK n a (e,([]:List _),(0:Int),([]:SS),(0:Int),false,(0:Int),([]:SS),([]:List _),([]:List _),([]:List _),([]:List _),([]:SS),([]:List _),false,([]:List _),([]:List _),([]:List _),([]:List _),([]:List _),false))
 else(
 bif(a==6)then(
 pe n a b c d (a==6))
 else(
 pe n a b c d (a==7)))
def pc (n:Nat) (a:Int) (l:List qd) (b:List xj) (c:Bool) (d:List zy) (e f:List qd) (g:List zU) (i:List qv) (j:List SS) (k:Bool):Bool->Option (qy):=fun m=>
 bif m then(
 bif(a==3)then(
 vK n a (([]:List _),l,(0:Int),([]:SS),(0:Int),false,(0:Int),([]:SS),([]:List _),([]:List _),([]:List _),([]:List _),([]:SS),b,c,d,e,f,([]:List _),([]:List _),false))
 else(
 vK n a (([]:List _),([]:List _),(0:Int),([]:SS),(0:Int),false,(0:Int),([]:SS),([]:List _),([]:List _),([]:List _),([]:List _),([]:SS),b,c,d,e,f,([]:List _),([]:List _),false)))
 else(
 bif(a==4)then(
 pd n a g i j k (a==4))
 else(
 pd n a g i j k (a==5)))
def Xx (n:Nat) (m:qy):Option (qy):=
 match m with
 | ⟨a,b,c,⟨u,v,⟨w,x,y,z,o,p⟩,q,s⟩,t,d,e,f,g,i,j,k,l⟩=>
 bif(a==1)then(
 vK n a (b,c,(0:Int),([]:SS),(0:Int),false,(0:Int),([]:SS),([]:List _),([]:List _),([]:List _),([]:List _),([]:SS),([]:List _),false,([]:List _),([]:List _),([]:List _),([]:List _),([]:List _),false))
 else(
 bif(a==2)then(
 vK n a (([]:List _),([]:List _),u,v,w,x,y,z,o,p,q,s,t,([]:List _),false,([]:List _),([]:List _),([]:List _),([]:List _),([]:List _),false))
 else(
 bif(a==3)then(
 pc n a c d e f g i b j k l (a==3))
 else(
 pc n a c d e f g i b j k l (a==9))))
theorem Ev (n:Nat):∀ (o r:qy),Xx n o=some r->qc TP 77 [PV.agg (ub.cells o)] (Ly r):=by
 intro o r h;obtain⟨a,c,m,⟨v,w,⟨x,y,z,A,p,q⟩,s,t⟩,u,g,i,j,k,l,d,e,f⟩:=o;unfold Xx at h;refine zN Tryz.call77 Tryz.func77 [1000000] ?_;conv=>whnf
 refine gW.cut (S:=List zU×List qd×Int×SS×Int×Bool×Int×SS×List Val×List SS×List SS×List qd×SS×List xj×Bool×List zy×List qd×List qd×List qv×List SS×Bool) (fun(B,C,D,E,F,G,H,I,J,K,L,M,N,O,P,Q,R,T,U,V,W)=>[(2,.ptr 0 0),(3,.ptr 1 0)]) (fun(B,C,D,E,F,G,H,I,J,K,L,M,N,O,P,Q,R,T,U,V,W)=>[zq3,.box 47 [pI a,pP B,pE C,pI D,pS E,pI F,pB G,pI H,pS I,pV J,pT K,pT L,pE M,pS N,pA O,pB P,pO Q,pE R,pE T,pU U,pT V,pB W]]) (vK n a) (r:=r) ?_ ?_
 ·intro st h
  obtain⟨B,C,D,E,F,G,H,I,J,K,L,M,N,O,P,Q,R,T,U,V,W⟩:=st;unfold vK at h;obtain rfl:=sj h;conv=>whnf
  try exact oX
 conv=>whnf
 apply ifc h<;>intro b h
 ·conv=>whnf
  exact⟨(c,m,(0:Int),([]:SS),(0:Int),false,(0:Int),([]:SS),([]:List _),([]:List _),([]:List _),([]:List _),([]:SS),([]:List _),false,([]:List _),([]:List _),([]:List _),([]:List _),([]:List _),false),h,wk [1,2] []⟩
 conv=>whnf
 apply ifc h<;>intro b h
 ·conv=>whnf
  exact⟨(([]:List _),([]:List _),v,w,x,y,z,A,p,q,s,t,u,([]:List _),false,([]:List _),([]:List _),([]:List _),([]:List _),([]:List _),false),h,wk [1,2] []⟩
 conv=>whnf
 refine gW.cut (S:=Bool) (fun X=>[(1,.ptr 0 0),(2,.ptr 1 0),(3,.ptr 2 0),(8,pI a),(25,pB X)]) (fun X=>[.box 47 [pI a,pP c,pE m,pI v,pS w,pI x,pB y,pI z,pS A,pV p,pT q,pT s,pE t,pS u,pA g,pB i,pO j,pE k,pE l,pU d,pT e,pB f],zq3,.box 47 [pI a,zq2,zq2,zq0,zq1,zq0,pB false,zq0,zq1,zq2,zq2,zq2,zq2,zq1,zq2,pB false,zq2,zq2,zq2,zq2,zq2,pB false]]) (pc n a m g i j k l c d e f) (r:=r) ?_ ?_
 ·intro X h
  unfold pc at h;conv=>whnf
  apply ifc h<;>intro b h
  ·conv=>whnf
   apply ifc h<;>intro b h
   ·conv=>whnf
    exact⟨(([]:List _),m,(0:Int),([]:SS),(0:Int),false,(0:Int),([]:SS),([]:List _),([]:List _),([]:List _),([]:List _),([]:SS),g,i,j,k,l,([]:List _),([]:List _),false),h,wk [1,2] []⟩
   conv=>whnf
   exact⟨(([]:List _),([]:List _),(0:Int),([]:SS),(0:Int),false,(0:Int),([]:SS),([]:List _),([]:List _),([]:List _),([]:List _),([]:SS),g,i,j,k,l,([]:List _),([]:List _),false),h,wk [1,2] []⟩
  conv=>whnf
  refine gW.cut (S:=Bool) (fun Y=>[(1,.ptr 0 0),(2,.ptr 1 0),(3,.ptr 2 0),(8,pI a),(49,pB Y)]) (fun Y=>[.box 47 [pI a,pP c,pE m,pI v,pS w,pI x,pB y,pI z,pS A,pV p,pT q,pT s,pE t,pS u,pA g,pB i,pO j,pE k,pE l,pU d,pT e,pB f],zq3,.box 47 [pI a,zq2,zq2,zq0,zq1,zq0,pB false,zq0,zq1,zq2,zq2,zq2,zq2,zq1,zq2,pB false,zq2,zq2,zq2,zq2,zq2,pB false]]) (pd n a c d e f) (r:=r) ?_ ?_
  ·intro Y h
   unfold pd at h;conv=>whnf
   apply ifc h<;>intro b h
   ·conv=>whnf
    exact⟨(c,([]:List _),(0:Int),([]:SS),(0:Int),false,(0:Int),([]:SS),([]:List _),([]:List _),([]:List _),([]:List _),([]:SS),([]:List _),false,([]:List _),([]:List _),([]:List _),([]:List _),([]:List _),false),h,wk [1,2] []⟩
   conv=>whnf
   refine gW.cut (S:=Bool) (fun Z=>[(1,.ptr 0 0),(2,.ptr 1 0),(3,.ptr 2 0),(8,pI a),(55,pB Z)]) (fun Z=>[.box 47 [pI a,pP c,pE m,pI v,pS w,pI x,pB y,pI z,pS A,pV p,pT q,pT s,pE t,pS u,pA g,pB i,pO j,pE k,pE l,pU d,pT e,pB f],zq3,.box 47 [pI a,zq2,zq2,zq0,zq1,zq0,pB false,zq0,zq1,zq2,zq2,zq2,zq2,zq1,zq2,pB false,zq2,zq2,zq2,zq2,zq2,pB false]]) (pe n a d e f) (r:=r) ?_ ?_
   ·intro Z h
    unfold pe at h;(conv=>whnf);apply ifc h<;>intro b h
    ·conv=>whnf
     exact⟨(([]:List _),([]:List _),(0:Int),([]:SS),(0:Int),false,(0:Int),([]:SS),([]:List _),([]:List _),([]:List _),([]:List _),([]:SS),([]:List _),false,([]:List _),([]:List _),([]:List _),d,([]:List _),false),h,wk [1,2] []⟩
    (conv=>whnf);apply ifc h<;>intro b h
    ·conv=>whnf
     exact⟨(([]:List _),([]:List _),(0:Int),([]:SS),(0:Int),false,(0:Int),([]:SS),([]:List _),([]:List _),([]:List _),([]:List _),([]:SS),([]:List _),false,([]:List _),([]:List _),([]:List _),([]:List _),e,f),h,wk [1,2] []⟩
    (conv=>whnf);exact⟨(([]:List _),([]:List _),(0:Int),([]:SS),(0:Int),false,(0:Int),([]:SS),([]:List _),([]:List _),([]:List _),([]:List _),([]:SS),([]:List _),false,([]:List _),([]:List _),([]:List _),([]:List _),([]:List _),false),h,wk [1,2] []⟩
   conv=>whnf
   apply ifc h<;>intro b h
   ·conv=>whnf
    exact⟨(a==6),h,wk [0,1,2] []⟩
   conv=>whnf
   exact⟨(a==7),h,wk [0,1,2] []⟩
  conv=>whnf
  apply ifc h<;>intro b h
  ·conv=>whnf
   exact⟨(a==4),h,wk [0,1,2] []⟩
  conv=>whnf
  exact⟨(a==5),h,wk [0,1,2] []⟩
 conv=>whnf
 apply ifc h<;>intro b h
 ·conv=>whnf
  exact⟨(a==3),h,wk [0,1,2] []⟩
 conv=>whnf
 exact⟨(a==9),h,wk [0,1,2] []⟩
abbrev Vw (r:Bool):PV:=PV.bool r
def ug (n:Nat) (b d:List SS):LK (Int) (Bool):=fun c a=>
 bif(decide (a<((qi b).length:Int)))then(
 bnd (idx b a) fun e=>
 bnd (idx d a) fun f=>
 bif(!(e==f))then(
 some false)
 else(
 c (kwr .i64 (a+1))))
 else(
 some true)
def zF (n:Nat) (a b:List SS):Option (Bool):=
 bif(((qi a).length:Int) != ((qi b).length:Int))then(
 some false)
 else(
 qC (ug n a b) n (0:Int))
theorem zW (n:Nat):∀ (a b:List SS) (r:Bool),zF n a b=some r->qc TP 69 [PV.sl (qi a),PV.sl (qi b)] (Vw r):=by
 intro a b r h;unfold zF at h;refine zN Tryz.call69 Tryz.func69 [1000000] ?_;conv=>whnf
 apply ifc h<;>intro d h
 ·obtain rfl:=sj h
  conv=>whnf
  try exact oX
 conv=>whnf
 refine qP.fn [1000000] (S:=Int) (fun c=>[(0,pT a),(1,pT b),(5,pI c)]) (fun c=>[]) (B:=ug n a b) h (wk [] []) ?_;intro _ c h;unfold ug at h;conv=>whnf
 apply ifc h<;>intro d h
 ·conv=>whnf
  refine bq h fun _ f h=>⟨_,Codec.at_ cV f,?_⟩;conv=>whnf
  refine bq h fun _ e h=>⟨_,Codec.at_ cV e,?_⟩;conv=>whnf
  apply ifc h<;>intro d h
  ·obtain rfl:=sj h
   conv=>whnf
   try exact oX
  conv=>whnf
  exact⟨(kwr .i64 (c+1)),h,wk [] []⟩
 obtain rfl:=sj h;conv=>whnf
 try exact oX
end W
end
section
set_option maxRecDepth 100000
set_option maxHeartbeats 20000000
open Go Go.Proofs Ax
namespace W
abbrev bX (r:Bool):PV:=PV.bool r
abbrev lV:Type:=Val->Val->Option (Bool)
abbrev aQ:Type:=(List Val)->(List Val)->Option (Bool)
def sQ (n:Nat) (g117:lV) (g70:aQ) (k l:Val):Option (Bool):=
 match k,l with
 | ⟨a,c,d,e,q,s⟩,⟨f,g,i,b,m,o⟩=>
 bnd (qE (bif(bif(bif(a==f)then(c==g)else false)then(d==i)else false)then(e==b)else false) (zF n s o)) fun j=>
 bnd (qE (bif(bif(bif(bif(a==f)then(c==g)else false)then(d==i)else false)then(e==b)else false)then j else false) (g70 q m)) fun p=>
 some (bif(bif(bif(bif(bif(a==f)then(c==g)else false)then(d==i)else false)then(e==b)else false)then j else false)then p else false)
abbrev gx (r:Bool):PV:=PV.bool r
def uF (n:Nat) (b l:List Val) (g117:lV):LK (Int) (Bool):=fun c a=>
 bif(decide (a<((Val.rows b).length:Int)))then(
 bnd (idx b a) fun⟨m,o,p,q,s,t⟩=>
 bnd (idx l a) fun⟨d,e,f,g,i,j⟩=>
 bnd (g117 (Val.mk m o p q s t) (Val.mk d e f g i j)) fun k=>
 bif(!k)then(
 some false)
 else(
 c (kwr .i64 (a+1))))
 else(
 some true)
def cW (n:Nat) (g117:lV) (g70:aQ) (a b:List Val):Option (Bool):=
 bif(((Val.rows a).length:Int) != ((Val.rows b).length:Int))then(
 some false)
 else(
 qC (uF n a b g117) n (0:Int))
theorem Cg (n:Nat) (g117:lV) (g70:aQ) (g117_ok:∀ (a b:Val) (r:Bool),g117 a b=some r->qc TP 117 [PV.agg (xZ.cells a),PV.agg (xZ.cells b)] (bX r)) (g70_ok:∀ (d e:List Val) (r:Bool),g70 d e=some r->qc TP 70 [PV.sl (Val.rows d),PV.sl (Val.rows e)] (gx r)):∀ (a b:Val) (r:Bool),sQ n g117 g70 a b=some r->qc TP 117 [PV.agg (xZ.cells a),PV.agg (xZ.cells b)] (bX r):=by
 intro a b r h;obtain⟨d,e,_,_,_,_⟩:=a;obtain⟨_,_,_,_,_,_⟩:=b;unfold sQ at h;refine zN Tryz.call117 Tryz.func117 [1000000] ?_;conv=>whnf
 iterate 19 refine⟨id,?_⟩
 conv=>whnf
 refine bq h fun _ g h=>⟨_,fun c=>(zW n _ _ _ (qa g c)),?_⟩;conv=>whnf
 refine⟨id,id,id,id,id,?_⟩;conv=>whnf
 refine bq h fun _ f h=>⟨_,fun c=>(g70_ok _ _ _ (qa f c)),?_⟩;conv=>whnf
 refine⟨id,?_⟩;obtain rfl:=sj h;conv=>whnf
 try exact oX
theorem Xq (n:Nat) (g117:lV) (g70:aQ) (g117_ok:∀ (d e:Val) (r:Bool),g117 d e=some r->qc TP 117 [PV.agg (xZ.cells d),PV.agg (xZ.cells e)] (bX r)) (g70_ok:∀ (a b:List Val) (r:Bool),g70 a b=some r->qc TP 70 [PV.sl (Val.rows a),PV.sl (Val.rows b)] (gx r)):∀ (a b:List Val) (r:Bool),cW n g117 g70 a b=some r->qc TP 70 [PV.sl (Val.rows a),PV.sl (Val.rows b)] (gx r):=by
 intro a b r h;unfold cW at h;refine zN Tryz.call70 Tryz.func70 [1000000] ?_;conv=>whnf
 apply ifc h<;>intro f h
 ·obtain rfl:=sj h
  conv=>whnf
  try exact oX
 conv=>whnf
 refine qP.fn [1000000] (S:=Int) (fun c=>[(0,pV a),(1,pV b),(5,pI c)]) (fun c=>[]) (B:=uF n a b g117) h (wk [] []) ?_;intro _ c h;unfold uF at h;conv=>whnf
 apply ifc h<;>intro f h
 ·conv=>whnf
  refine bq h fun⟨_,_,_,_,_,_⟩ j h=>⟨_,Codec.at_ xZ j,?_⟩;conv=>whnf
  refine bq h fun⟨_,_,_,_,_,_⟩ i h=>⟨_,Codec.at_ xZ i,?_⟩;conv=>whnf
  refine bq h fun _ g h=>⟨_,(g117_ok _ _ _ g),?_⟩;conv=>whnf
  apply ifc h<;>intro f h
  ·obtain rfl:=sj h
   conv=>whnf
   try exact oX
  conv=>whnf
  exact⟨(kwr .i64 (c+1)),h,wk [] []⟩
 obtain rfl:=sj h;conv=>whnf
 try exact oX
mutual
def uE:Nat->Val->Val->Option (Bool)
 | 0=>fun _ _=>none
 | n+1=>sQ n (uE n) (xP n)
def xP:Nat->(List Val)->(List Val)->Option (Bool)
 | 0=>fun _ _=>none
 | n+1=>cW n (uE n) (xP n)
end
theorem ZB (n:Nat):(∀ (a b:Val) (r:Bool),uE n a b=some r->qc TP 117 [PV.agg (xZ.cells a),PV.agg (xZ.cells b)] (bX r))/\(∀ (c d:List Val) (r:Bool),xP n c d=some r->qc TP 70 [PV.sl (Val.rows c),PV.sl (Val.rows d)] (gx r)):=by
 induction n with
 | zero=>exact⟨(by intros; rename_i h; cases h),(by intros; rename_i h; cases h)⟩
 | succ n ih=>
  obtain⟨hg117,hg70⟩:=ih;exact⟨Cg n (uE n) (xP n) hg117 hg70,Xq n (uE n) (xP n) hg117 hg70⟩
theorem sW (n:Nat):∀ (a b:Val) (r:Bool),uE n a b=some r->qc TP 117 [PV.agg (xZ.cells a),PV.agg (xZ.cells b)] (bX r):=(ZB n).1
theorem sa (n:Nat):∀ (a b:List Val) (r:Bool),xP n a b=some r->qc TP 70 [PV.sl (Val.rows a),PV.sl (Val.rows b)] (gx r):=(ZB n).2
abbrev uQ (r:Bool):PV:=PV.bool r
abbrev lW:Type:=qd->qd->Option (Bool)
def da (n:Nat) (b p:List qd) (g123:lW):LK (Int) (Bool):=fun c a=>
 bif(decide (a<((qd.rows b).length:Int)))then(
 bnd (idx b a) fun⟨w,x,⟨y,z,A,B,d,e⟩,f,g⟩=>
 bnd (idx p a) fun⟨i,j,⟨k,l,m,o,q,s⟩,t,u⟩=>
 bnd (g123 (qd.mk w x (Val.mk y z A B d e) f g) (qd.mk i j (Val.mk k l m o q s) t u)) fun v=>
 bif(!v)then(
 some false)
 else(
 c (kwr .i64 (a+1))))
 else(
 some true)
abbrev aR:Type:=(List qd)->(List qd)->Option (Bool)
def mg (n:Nat) (g122:aR) (g123:lW) (a b:List qd):Option (Bool):=
 bif(((qd.rows a).length:Int) != ((qd.rows b).length:Int))then(
 some false)
 else(
 qC (da n a b g123) n (0:Int))
abbrev gy (r:Bool):PV:=PV.bool r
def nk (n:Nat) (g122:aR) (g123:lW) (g i:qd):Option (Bool):=
 match g,i with
 | ⟨a,d,⟨v,w,x,y,z,A⟩,B,j⟩,⟨b,c,⟨k,l,m,o,p,q⟩,s,t⟩=>
 bnd (qE (bif(a==b)then(d==c)else false) (uE n (Val.mk v w x y z A) (Val.mk k l m o p q))) fun e=>
 bnd (qE (bif(bif(a==b)then(d==c)else false)then e else false) (zF n B s)) fun f=>
 bnd (qE (bif(bif(bif(a==b)then(d==c)else false)then e else false)then f else false) (g122 j t)) fun u=>
 some (bif(bif(bif(bif(a==b)then(d==c)else false)then e else false)then f else false)then u else false)
theorem ZK (n:Nat) (g122:aR) (g123:lW) (g122_ok:∀ (a b:List qd) (r:Bool),g122 a b=some r->qc TP 122 [PV.sl (qd.rows a),PV.sl (qd.rows b)] (uQ r)) (g123_ok:∀ (d e:qd) (r:Bool),g123 d e=some r->qc TP 123 [PV.agg (xT.cells d),PV.agg (xT.cells e)] (gy r)):∀ (a b:List qd) (r:Bool),mg n g122 g123 a b=some r->qc TP 122 [PV.sl (qd.rows a),PV.sl (qd.rows b)] (uQ r):=by
 intro a b r h;unfold mg at h;refine zN Tryz.call122 Tryz.func122 [1000000] ?_;conv=>whnf
 apply ifc h<;>intro f h
 ·obtain rfl:=sj h
  conv=>whnf
  try exact oX
 conv=>whnf
 refine qP.fn [1000000] (S:=Int) (fun c=>[(0,pE a),(1,pE b),(5,pI c)]) (fun c=>[]) (B:=da n a b g123) h (wk [] []) ?_;intro _ c h;unfold da at h;conv=>whnf
 apply ifc h<;>intro f h
 ·conv=>whnf
  refine bq h fun⟨_,_,⟨_,_,_,_,_,_⟩,_,_⟩ j h=>⟨_,Codec.at_ xT j,?_⟩;conv=>whnf
  refine bq h fun⟨_,_,⟨_,_,_,_,_,_⟩,_,_⟩ i h=>⟨_,Codec.at_ xT i,?_⟩;conv=>whnf
  refine bq h fun _ g h=>⟨_,(g123_ok _ _ _ g),?_⟩;conv=>whnf
  apply ifc h<;>intro f h
  ·obtain rfl:=sj h
   conv=>whnf
   try exact oX
  conv=>whnf
  exact⟨(kwr .i64 (c+1)),h,wk [] []⟩
 obtain rfl:=sj h;conv=>whnf
 try exact oX
theorem Xr (n:Nat) (g122:aR) (g123:lW) (g122_ok:∀ (d e:List qd) (r:Bool),g122 d e=some r->qc TP 122 [PV.sl (qd.rows d),PV.sl (qd.rows e)] (uQ r)) (g123_ok:∀ (a b:qd) (r:Bool),g123 a b=some r->qc TP 123 [PV.agg (xT.cells a),PV.agg (xT.cells b)] (gy r)):∀ (a b:qd) (r:Bool),nk n g122 g123 a b=some r->qc TP 123 [PV.agg (xT.cells a),PV.agg (xT.cells b)] (gy r):=by
 intro a b r h;obtain⟨d,e,⟨_,_,_,_,_,_⟩,_,_⟩:=a;obtain⟨_,_,⟨_,_,_,_,_,_⟩,_,_⟩:=b;unfold nk at h;refine zN Tryz.call123 Tryz.func123 [1000000] ?_;conv=>whnf
 iterate 9 refine⟨id,?_⟩
 conv=>whnf
 refine bq h fun _ i h=>⟨_,fun c=>(sW n _ _ _ (qa i c)),?_⟩;conv=>whnf
 refine⟨id,id,id,id,id,?_⟩;conv=>whnf
 refine bq h fun _ g h=>⟨_,fun c=>(zW n _ _ _ (qa g c)),?_⟩;conv=>whnf
 refine⟨id,id,id,id,id,?_⟩;conv=>whnf
 refine bq h fun _ f h=>⟨_,fun c=>(g122_ok _ _ _ (qa f c)),?_⟩;conv=>whnf
 refine⟨id,?_⟩;obtain rfl:=sj h;conv=>whnf
 try exact oX
mutual
def zQ:Nat->(List qd)->(List qd)->Option (Bool)
 | 0=>fun _ _=>none
 | n+1=>mg n (zQ n) (xB n)
def xB:Nat->qd->qd->Option (Bool)
 | 0=>fun _ _=>none
 | n+1=>nk n (zQ n) (xB n)
end
theorem nt (n:Nat):(∀ (c d:List qd) (r:Bool),zQ n c d=some r->qc TP 122 [PV.sl (qd.rows c),PV.sl (qd.rows d)] (uQ r))/\(∀ (a b:qd) (r:Bool),xB n a b=some r->qc TP 123 [PV.agg (xT.cells a),PV.agg (xT.cells b)] (gy r)):=by
 induction n with
 | zero=>exact⟨(by intros; rename_i h; cases h),(by intros; rename_i h; cases h)⟩
 | succ n ih=>
  obtain⟨hg122,hg123⟩:=ih;exact⟨ZK n (zQ n) (xB n) hg122 hg123,Xr n (zQ n) (xB n) hg122 hg123⟩
theorem ui (n:Nat):∀ (a b:List qd) (r:Bool),zQ n a b=some r->qc TP 122 [PV.sl (qd.rows a),PV.sl (qd.rows b)] (uQ r):=(nt n).1
theorem fD (n:Nat):∀ (a b:qd) (r:Bool),xB n a b=some r->qc TP 123 [PV.agg (xT.cells a),PV.agg (xT.cells b)] (gy r):=(nt n).2
abbrev UH (r:Bool):PV:=PV.bool r
def dP (n:Nat) (i s:List qg):LK (Int) (Bool):=fun k a=>
 bif(decide (a<((qg.rows i).length:Int)))then(
 bnd (idx i a) fun⟨b,c,d,l,m⟩=>
 bnd (idx s a) fun⟨e,f,g,o,p⟩=>
 bnd (qE (!(bif(bif(!(b==e))then true else(!(c==f)))then true else(d != g))) (zF n l o)) fun j=>
 bnd (qE (!(bif(bif(bif(!(b==e))then true else(!(c==f)))then true else(d != g))then true else(!j))) (zQ n m p)) fun q=>
 bif(bif(bif(bif(bif(!(b==e))then true else(!(c==f)))then true else(d != g))then true else(!j))then true else(!q))then(
 some false)
 else(
 k (kwr .i64 (a+1))))
 else(
 some true)
def dO (n:Nat) (e o:List qe) (m p:List qg):LK (Int) (Bool):=fun g b=>
 bif(decide (b<((qe.rows e).length:Int)))then(
 bnd (idx e b) fun⟨c,q,s,t⟩=>
 bnd (idx o b) fun⟨a,i,j,k⟩=>
 bnd (qE (!(!(c==a))) (zF n q i)) fun d=>
 bnd (qE (!(bif(!(c==a))then true else(!d))) (zF n s j)) fun f=>
 bnd (qE (!(bif(bif(!(c==a))then true else(!d))then true else(!f))) (zQ n t k)) fun l=>
 bif(bif(bif(bif(!(c==a))then true else(!d))then true else(!f))then true else(!l))then(
 some false)
 else(
 g (kwr .i64 (b+1))))
 else(
 qC (dP n m p) n (0:Int))
def rC (n:Nat) (e f:zU):Option (Bool):=
 match e,f with
 | ⟨a,b⟩,⟨c,d⟩=>
 bif(bif(((qe.rows a).length:Int) != ((qe.rows c).length:Int))then true else(((qg.rows b).length:Int) != ((qg.rows d).length:Int)))then(
 some false)
 else(
 qC (dO n a c b d) n (0:Int))
theorem Vk (n:Nat):∀ (b c:zU) (r:Bool),rC n b c=some r->qc TP 124 [PV.agg (Qc.cells b),PV.agg (Qc.cells c)] (UH r):=by
 intro b c r h;obtain⟨j,f⟩:=b;obtain⟨k,g⟩:=c;unfold rC at h;refine zN Tryz.call124 Tryz.func124 [1000000] ?_;conv=>whnf
 iterate 7 refine⟨id,?_⟩
 conv=>whnf
 apply ifc h<;>intro d h
 ·obtain rfl:=sj h
  conv=>whnf
  try exact oX
 conv=>whnf
 refine qP.fn [1000000] (S:=Int) (fun i=>[(2,.ptr 0 0),(3,.ptr 1 0),(5,pI i)]) (fun i=>[.box 100 [pN j,pG f],.box 100 [pN k,pG g]]) (B:=dO n j k f g) h (wk [0,1] []) ?_;intro _ i h;unfold dO at h;conv=>whnf
 apply ifc h<;>intro d h
 ·conv=>whnf
  refine bq h fun⟨_,_,_,_⟩ q h=>⟨_,Codec.at_ ua q,?_⟩;conv=>whnf
  refine bq h fun⟨_,_,_,_⟩ p h=>⟨_,Codec.at_ ua p,?_⟩;conv=>whnf
  refine⟨id,id,id,id,?_⟩;conv=>whnf
  refine bq h fun _ o h=>⟨_,fun a=>(zW n _ _ _ (qa o a)),?_⟩;conv=>whnf
  iterate 6 refine⟨id,?_⟩
  conv=>whnf
  refine bq h fun _ m h=>⟨_,fun a=>(zW n _ _ _ (qa m a)),?_⟩;conv=>whnf
  iterate 6 refine⟨id,?_⟩
  conv=>whnf
  refine bq h fun _ l h=>⟨_,fun a=>(ui n _ _ _ (qa l a)),?_⟩;conv=>whnf
  refine⟨id,id,?_⟩;conv=>whnf
  apply ifc h<;>intro d h
  ·obtain rfl:=sj h
   conv=>whnf
   try exact oX
  conv=>whnf
  exact⟨(kwr .i64 (i+1)),h,wk [0,1] []⟩
 conv=>whnf
 refine qP.fn [1000000] (S:=Int) (fun e=>[(2,.ptr 0 0),(3,.ptr 1 0),(8,pI e)]) (fun e=>[.box 100 [pN j,pG f],.box 100 [pN k,pG g]]) (B:=dP n f g) h (wk [0,1] []) ?_;intro _ e h;unfold dP at h;conv=>whnf
 apply ifc h<;>intro d h
 ·conv=>whnf
  refine bq h fun⟨_,_,_,_,_⟩ v h=>⟨_,Codec.at_ gV v,?_⟩;conv=>whnf
  refine bq h fun⟨_,_,_,_,_⟩ u h=>⟨_,Codec.at_ gV u,?_⟩;conv=>whnf
  iterate 14 refine⟨id,?_⟩
  conv=>whnf
  refine bq h fun _ t h=>⟨_,fun a=>(zW n _ _ _ (qa t a)),?_⟩;conv=>whnf
  iterate 6 refine⟨id,?_⟩
  conv=>whnf
  refine bq h fun _ s h=>⟨_,fun a=>(ui n _ _ _ (qa s a)),?_⟩;conv=>whnf
  refine⟨id,id,?_⟩;conv=>whnf
  apply ifc h<;>intro d h
  ·obtain rfl:=sj h
   conv=>whnf
   try exact oX
  conv=>whnf
  exact⟨(kwr .i64 (e+1)),h,wk [0,1] []⟩
 obtain rfl:=sj h;conv=>whnf
 try exact oX
abbrev XD (r:Bool):PV:=PV.bool r
def cy (n:Nat) (i H:List qv):LK (Int) (Bool):=fun j a=>
 bif(decide (a<((qv.rows i).length:Int)))then(
 bnd (idx i a) fun⟨b,c,d,⟨k,l,⟨m,o,p,q,s,t⟩,u,v⟩⟩=>
 bnd (idx H a) fun⟨e,f,g,⟨w,x,⟨y,z,A,B,C,D⟩,E,F⟩⟩=>
 bnd (qE (!(bif(bif(!(b==e))then true else(!(c==f)))then true else(!(d==g)))) (xB n (qd.mk k l (Val.mk m o p q s t) u v) (qd.mk w x (Val.mk y z A B C D) E F))) fun G=>
 bif(bif(bif(bif(!(b==e))then true else(!(c==f)))then true else(!(d==g)))then true else(!G))then(
 some false)
 else(
 j (kwr .i64 (a+1))))
 else(
 some true)
def cx (n:Nat) (d e:List zy) (E F:List qv):LK (Int) (Bool):=fun f a=>
 bif(decide (a<((zy.rows d).length:Int)))then(
 bnd (idx d a) fun⟨⟨_,_,⟨_,_,_,_,_,_⟩,_,_⟩,b⟩=>
 bnd (idx e a) fun⟨⟨_,_,⟨_,_,_,_,_,_⟩,_,_⟩,c⟩=>
 bnd (qE (!(!(b==c))) (idx d a)) fun⟨⟨g,i,⟨j,k,l,m,o,p⟩,q,s⟩,_⟩=>
 bnd (qE (!(!(b==c))) (idx e a)) fun⟨⟨t,u,⟨v,w,x,y,z,A⟩,B,C⟩,_⟩=>
 bnd (qE (!(!(b==c))) (xB n (qd.mk g i (Val.mk j k l m o p) q s) (qd.mk t u (Val.mk v w x y z A) B C))) fun D=>
 bif(bif(!(b==c))then true else(!D))then(
 some false)
 else(
 f (kwr .i64 (a+1))))
 else(
 qC (cy n E F) n (0:Int))
def cw (n:Nat) (d e:List xj) (i k:List zy) (j l:List qv):LK (Int) (Bool):=fun f a=>
 bif(decide (a<((xj.rows d).length:Int)))then(
 bnd (idx d a) fun⟨⟨_,_,⟨_,_,_,_,_,_⟩,_,_⟩,b⟩=>
 bnd (idx e a) fun⟨⟨_,_,⟨_,_,_,_,_,_⟩,_,_⟩,c⟩=>
 bnd (qE (!(!(b==c))) (idx d a)) fun⟨⟨m,o,⟨p,q,s,t,u,v⟩,w,x⟩,_⟩=>
 bnd (qE (!(!(b==c))) (idx e a)) fun⟨⟨y,z,⟨A,B,C,D,E,F⟩,G,H⟩,_⟩=>
 bnd (qE (!(!(b==c))) (xB n (qd.mk m o (Val.mk p q s t u v) w x) (qd.mk y z (Val.mk A B C D E F) G H))) fun g=>
 bif(bif(!(b==c))then true else(!g))then(
 some false)
 else(
 f (kwr .i64 (a+1))))
 else(
 qC (cx n i k j l) n (0:Int))
def cu (n:Nat) (b g:List zU) (d i:List xj) (e j:List zy) (f k:List qv):LK (Int) (Bool):=fun c a=>
 bif(decide (a<((zU.rows b).length:Int)))then(
 bnd (idx b a) fun⟨l,m⟩=>
 bnd (idx g a) fun⟨o,p⟩=>
 bnd (rC n (zU.mk l m) (zU.mk o p)) fun q=>
 bif(!q)then(
 some false)
 else(
 c (kwr .i64 (a+1))))
 else(
 qC (cw n d i e j f k) n (0:Int))
def gm (n:Nat) (v w:qy):Option (Bool):=
 match v,w with
 | ⟨c,a,K,⟨R,X,⟨Y,Z,a0,a1,x,y⟩,z,A⟩,k,e,l,f,B,C,q,D,E⟩,⟨d,b,F,⟨G,H,⟨I,J,L,M,N,O⟩,P,Q⟩,m,g,o,i,S,T,s,U,V⟩=>
 bnd (qE (!(bif(c != d)then true else(((zU.rows a).length:Int) != ((zU.rows b).length:Int)))) (zQ n K F)) fun j=>
 bnd (qE (!(bif(bif(c != d)then true else(((zU.rows a).length:Int) != ((zU.rows b).length:Int)))then true else(!j))) (xB n (qd.mk R X (Val.mk Y Z a0 a1 x y) z A) (qd.mk G H (Val.mk I J L M N O) P Q))) fun p=>
 bnd (qE (!(bif(bif(bif(bif(bif(bif(bif(c != d)then true else(((zU.rows a).length:Int) != ((zU.rows b).length:Int)))then true else(!j))then true else(!p))then true else(!(k==m)))then true else(((xj.rows e).length:Int) != ((xj.rows g).length:Int)))then true else(!(l==o)))then true else(((zy.rows f).length:Int) != ((zy.rows i).length:Int)))) (zQ n B S)) fun t=>
 bnd (qE (!(bif(bif(bif(bif(bif(bif(bif(bif(c != d)then true else(((zU.rows a).length:Int) != ((zU.rows b).length:Int)))then true else(!j))then true else(!p))then true else(!(k==m)))then true else(((xj.rows e).length:Int) != ((xj.rows g).length:Int)))then true else(!(l==o)))then true else(((zy.rows f).length:Int) != ((zy.rows i).length:Int)))then true else(!t))) (zQ n C T)) fun u=>
 bnd (qE (!(bif(bif(bif(bif(bif(bif(bif(bif(bif(bif(c != d)then true else(((zU.rows a).length:Int) != ((zU.rows b).length:Int)))then true else(!j))then true else(!p))then true else(!(k==m)))then true else(((xj.rows e).length:Int) != ((xj.rows g).length:Int)))then true else(!(l==o)))then true else(((zy.rows f).length:Int) != ((zy.rows i).length:Int)))then true else(!t))then true else(!u))then true else(((qv.rows q).length:Int) != ((qv.rows s).length:Int)))) (zF n D U)) fun W=>
 bif(bif(bif(bif(bif(bif(bif(bif(bif(bif(bif(bif(bif(c != d)then true else(((zU.rows a).length:Int) != ((zU.rows b).length:Int)))then true else(!j))then true else(!p))then true else(!(k==m)))then true else(((xj.rows e).length:Int) != ((xj.rows g).length:Int)))then true else(!(l==o)))then true else(((zy.rows f).length:Int) != ((zy.rows i).length:Int)))then true else(!t))then true else(!u))then true else(((qv.rows q).length:Int) != ((qv.rows s).length:Int)))then true else(!W))then true else(!(E==V)))then(
 some false)
 else(
 qC (cu n a b e g f i q s) n (0:Int))
theorem ZO (n:Nat):∀ (l m:qy) (r:Bool),gm n l m=some r->qc TP 76 [PV.agg (ub.cells l),PV.agg (ub.cells m)] (XD r):=by
 intro l m r h;obtain⟨o,j,J,⟨T,Y,⟨a1,a2,a3,a4,p,s⟩,t,u⟩,v,g,x,e,y,z,c,A,C⟩:=l;obtain⟨D,k,E,⟨F,G,⟨H,I,K,L,M,N⟩,O,P⟩,Q,i,R,f,U,V,d,W,X⟩:=m;unfold gm at h;refine zN Tryz.call76 Tryz.func76 [1000000] ?_;conv=>whnf
 iterate 11 refine⟨id,?_⟩
 conv=>whnf
 refine bq h fun _ b8 h=>⟨_,fun a=>(ui n _ _ _ (qa b8 a)),?_⟩;conv=>whnf
 iterate 6 refine⟨id,?_⟩
 conv=>whnf
 refine bq h fun _ b7 h=>⟨_,fun a=>(fD n _ _ _ (qa b7 a)),?_⟩;conv=>whnf
 iterate 30 refine⟨id,?_⟩
 conv=>whnf
 refine bq h fun _ b5 h=>⟨_,fun a=>(ui n _ _ _ (qa b5 a)),?_⟩;conv=>whnf
 iterate 6 refine⟨id,?_⟩
 conv=>whnf
 refine bq h fun _ b4 h=>⟨_,fun a=>(ui n _ _ _ (qa b4 a)),?_⟩;conv=>whnf
 iterate 13 refine⟨id,?_⟩
 conv=>whnf
 refine bq h fun _ b3 h=>⟨_,fun a=>(zW n _ _ _ (qa b3 a)),?_⟩;conv=>whnf
 iterate 7 refine⟨id,?_⟩
 conv=>whnf
 apply ifc h<;>intro b h
 ·obtain rfl:=sj h
  conv=>whnf
  try exact oX
 conv=>whnf
 refine qP.fn [1000000] (S:=Int) (fun Z=>[(2,.ptr 0 0),(3,.ptr 1 0),(5,pI Z)]) (fun Z=>[.box 47 [pI o,pP j,pE J,pI T,pS Y,pI a1,pB a2,pI a3,pS a4,pV p,pT s,pT t,pE u,pS v,pA g,pB x,pO e,pE y,pE z,pU c,pT A,pB C],.box 47 [pI D,pP k,pE E,pI F,pS G,pI H,pB I,pI K,pS L,pV M,pT N,pT O,pE P,pS Q,pA i,pB R,pO f,pE U,pE V,pU d,pT W,pB X]]) (B:=cu n j k g i e f c d) h (wk [0,1] []) ?_;intro _ Z h;unfold cu at h;conv=>whnf
 apply ifc h<;>intro b h
 ·conv=>whnf
  refine bq h fun⟨_,_⟩ b9 h=>⟨_,Codec.at_ Qc b9,?_⟩;conv=>whnf
  refine bq h fun⟨_,_⟩ b6 h=>⟨_,Codec.at_ Qc b6,?_⟩;conv=>whnf
  refine bq h fun _ a5 h=>⟨_,(Vk n _ _ _ a5),?_⟩;conv=>whnf
  apply ifc h<;>intro b h
  ·obtain rfl:=sj h
   conv=>whnf
   try exact oX
  conv=>whnf
  exact⟨(kwr .i64 (Z+1)),h,wk [0,1] []⟩
 conv=>whnf
 refine qP.fn [1000000] (S:=Int) (fun a0=>[(2,.ptr 0 0),(3,.ptr 1 0),(6,pI a0)]) (fun a0=>[.box 47 [pI o,pP j,pE J,pI T,pS Y,pI a1,pB a2,pI a3,pS a4,pV p,pT s,pT t,pE u,pS v,pA g,pB x,pO e,pE y,pE z,pU c,pT A,pB C],.box 47 [pI D,pP k,pE E,pI F,pS G,pI H,pB I,pI K,pS L,pV M,pT N,pT O,pE P,pS Q,pA i,pB R,pO f,pE U,pE V,pU d,pT W,pB X]]) (B:=cw n g i e f c d) h (wk [0,1] []) ?_;intro _ a0 h;unfold cw at h;conv=>whnf
 apply ifc h<;>intro b h
 ·conv=>whnf
  refine bq h fun⟨⟨_,_,⟨_,_,_,_,_,_⟩,_,_⟩,_⟩ c4 h=>⟨_,Codec.at_ Bf c4,?_⟩;conv=>whnf
  refine bq h fun⟨⟨_,_,⟨_,_,_,_,_,_⟩,_,_⟩,_⟩ c3 h=>⟨_,Codec.at_ Bf c3,?_⟩;conv=>whnf
  refine⟨id,id,id,?_⟩;conv=>whnf
  refine bq h fun⟨⟨_,_,⟨_,_,_,_,_,_⟩,_,_⟩,_⟩ c2 h=>⟨_,fun a=>Codec.at_ Bf (qa c2 a),?_⟩;conv=>whnf
  refine⟨id,id,id,id,id,?_⟩;conv=>whnf
  refine bq h fun⟨⟨_,_,⟨_,_,_,_,_,_⟩,_,_⟩,_⟩ c1 h=>⟨_,fun a=>Codec.at_ Bf (qa c1 a),?_⟩;conv=>whnf
  refine⟨id,id,id,id,?_⟩;conv=>whnf
  refine bq h fun _ c0 h=>⟨_,fun a=>(fD n _ _ _ (qa c0 a)),?_⟩;conv=>whnf
  refine⟨id,id,?_⟩;conv=>whnf
  apply ifc h<;>intro b h
  ·obtain rfl:=sj h
   conv=>whnf
   try exact oX
  conv=>whnf
  exact⟨(kwr .i64 (a0+1)),h,wk [0,1] []⟩
 conv=>whnf
 refine qP.fn [1000000] (S:=Int) (fun q=>[(2,.ptr 0 0),(3,.ptr 1 0),(7,pI q)]) (fun q=>[.box 47 [pI o,pP j,pE J,pI T,pS Y,pI a1,pB a2,pI a3,pS a4,pV p,pT s,pT t,pE u,pS v,pA g,pB x,pO e,pE y,pE z,pU c,pT A,pB C],.box 47 [pI D,pP k,pE E,pI F,pS G,pI H,pB I,pI K,pS L,pV M,pT N,pT O,pE P,pS Q,pA i,pB R,pO f,pE U,pE V,pU d,pT W,pB X]]) (B:=cx n e f c d) h (wk [0,1] []) ?_;intro _ q h;unfold cx at h;conv=>whnf
 apply ifc h<;>intro b h
 ·conv=>whnf
  refine bq h fun⟨⟨_,_,⟨_,_,_,_,_,_⟩,_,_⟩,_⟩ a9 h=>⟨_,Codec.at_ XW a9,?_⟩;conv=>whnf
  refine bq h fun⟨⟨_,_,⟨_,_,_,_,_,_⟩,_,_⟩,_⟩ a8 h=>⟨_,Codec.at_ XW a8,?_⟩;conv=>whnf
  refine⟨id,id,id,?_⟩;conv=>whnf
  refine bq h fun⟨⟨_,_,⟨_,_,_,_,_,_⟩,_,_⟩,_⟩ a7 h=>⟨_,fun a=>Codec.at_ XW (qa a7 a),?_⟩;conv=>whnf
  refine⟨id,id,id,id,id,?_⟩;conv=>whnf
  refine bq h fun⟨⟨_,_,⟨_,_,_,_,_,_⟩,_,_⟩,_⟩ a6 h=>⟨_,fun a=>Codec.at_ XW (qa a6 a),?_⟩;conv=>whnf
  refine⟨id,id,id,id,?_⟩;conv=>whnf
  refine bq h fun _ c5 h=>⟨_,fun a=>(fD n _ _ _ (qa c5 a)),?_⟩;conv=>whnf
  refine⟨id,id,?_⟩;conv=>whnf
  apply ifc h<;>intro b h
  ·obtain rfl:=sj h
   conv=>whnf
   try exact oX
  conv=>whnf
  exact⟨(kwr .i64 (q+1)),h,wk [0,1] []⟩
 conv=>whnf
 refine qP.fn [1000000] (S:=Int) (fun w=>[(2,.ptr 0 0),(3,.ptr 1 0),(8,pI w)]) (fun w=>[.box 47 [pI o,pP j,pE J,pI T,pS Y,pI a1,pB a2,pI a3,pS a4,pV p,pT s,pT t,pE u,pS v,pA g,pB x,pO e,pE y,pE z,pU c,pT A,pB C],.box 47 [pI D,pP k,pE E,pI F,pS G,pI H,pB I,pI K,pS L,pV M,pT N,pT O,pE P,pS Q,pA i,pB R,pO f,pE U,pE V,pU d,pT W,pB X]]) (B:=cy n c d) h (wk [0,1] []) ?_;intro _ w h;unfold cy at h;conv=>whnf
 apply ifc h<;>intro b h
 ·conv=>whnf
  refine bq h fun⟨_,_,_,⟨_,_,⟨_,_,_,_,_,_⟩,_,_⟩⟩ b2 h=>⟨_,Codec.at_ pQ b2,?_⟩;conv=>whnf
  refine bq h fun⟨_,_,_,⟨_,_,⟨_,_,_,_,_,_⟩,_,_⟩⟩ b1 h=>⟨_,Codec.at_ pQ b1,?_⟩;conv=>whnf
  iterate 14 refine⟨id,?_⟩
  conv=>whnf
  refine bq h fun _ b0 h=>⟨_,fun a=>(fD n _ _ _ (qa b0 a)),?_⟩;conv=>whnf
  refine⟨id,id,?_⟩;conv=>whnf
  apply ifc h<;>intro b h
  ·obtain rfl:=sj h
   conv=>whnf
   try exact oX
  conv=>whnf
  exact⟨(kwr .i64 (w+1)),h,wk [0,1] []⟩
 obtain rfl:=sj h;conv=>whnf
 try exact oX
abbrev Dp (r:List SS):PV:=PV.sl (qi r)
def tc (n:Nat):Option (List SS):=
 some [([77,65,84,67,72]:SS),([87,72,69,82,69]:SS),([85,78,87,73,78,68]:SS),([65,83]:SS),([87,73,84,72]:SS),([67,82,69,65,84,69]:SS),([77,69,82,71,69]:SS),([83,69,84]:SS),([82,69,77,79,86,69]:SS),([68,69,76,69,84,69]:SS),([68,69,84,65,67,72]:SS),([82,69,84,85,82,78]:SS),([68,73,83,84,73,78,67,84]:SS),([79,82,68,69,82]:SS),([66,89]:SS),([65,83,67]:SS),([68,69,83,67]:SS),([83,75,73,80]:SS),([76,73,77,73,84]:SS),([65,78,68]:SS),([79,82]:SS),([88,79,82]:SS),([78,79,84]:SS),([73,78]:SS),([73,83]:SS),([78,85,76,76]:SS),([84,82,85,69]:SS),([70,65,76,83,69]:SS)]
theorem Cq (n:Nat):∀ (r:List SS),tc n=some r->qc TP 165 [] (Dp r):=by
 intro r h;unfold tc at h;refine zN Tryz.call165 Tryz.func165 [1000000] ?_;conv=>whnf
 refine⟨Codec.one cV [([77,65,84,67,72]:SS),([87,72,69,82,69]:SS),([85,78,87,73,78,68]:SS),([65,83]:SS),([87,73,84,72]:SS),([67,82,69,65,84,69]:SS),([77,69,82,71,69]:SS),([83,69,84]:SS),([82,69,77,79,86,69]:SS),([68,69,76,69,84,69]:SS),([68,69,84,65,67,72]:SS),([82,69,84,85,82,78]:SS),([68,73,83,84,73,78,67,84]:SS),([79,82,68,69,82]:SS),([66,89]:SS),([65,83,67]:SS),([68,69,83,67]:SS),([83,75,73,80]:SS),([76,73,77,73,84]:SS),([65,78,68]:SS),([79,82]:SS),([88,79,82]:SS),([78,79,84]:SS),([73,78]:SS),([73,83]:SS),([78,85,76,76]:SS),([84,82,85,69]:SS),([70,65,76,83,69]:SS)],qi [([77,65,84,67,72]:SS),([87,72,69,82,69]:SS),([85,78,87,73,78,68]:SS),([65,83]:SS),([87,73,84,72]:SS),([67,82,69,65,84,69]:SS),([77,69,82,71,69]:SS),([83,69,84]:SS),([82,69,77,79,86,69]:SS),([68,69,76,69,84,69]:SS),([68,69,84,65,67,72]:SS),([82,69,84,85,82,78]:SS),([68,73,83,84,73,78,67,84]:SS),([79,82,68,69,82]:SS),([66,89]:SS),([65,83,67]:SS),([68,69,83,67]:SS),([83,75,73,80]:SS),([76,73,77,73,84]:SS),([65,78,68]:SS),([79,82]:SS),([88,79,82]:SS),([78,79,84]:SS),([73,78]:SS),([73,83]:SS),([78,85,76,76]:SS),([84,82,85,69]:SS),([70,65,76,83,69]:SS)],.inl rfl,?_⟩;obtain rfl:=sj h;conv=>whnf
 try exact oX
abbrev Dm (r:SS):PV:=PV.str r
def gC (n:Nat) (a:SS) (c:SS×Int->Option SS) (d:Int):Int->Option SS:=fun e=>
 bnd (u8I e) fun b=>
 chk (decide ((qp (a++[b])).length * 1<=140737488355328)) (
 c ((a++[b]),(kwr .i64 (d+1))))
def gD (n:Nat) (e:SS):(SS×Int->Option SS)->SS×Int->Option SS:=fun d (c,a)=>
 bif(decide (a<((e.length:Nat):Int)))then(
 bnd (idx e a) fun b=>
 bif(bif(decide (((b.toNat:Nat):Int)≥97))then(decide (((b.toNat:Nat):Int)<=122))else false)then(
 gC n c d a (kwr .u8 (((b.toNat:Nat):Int) - 32)))
 else(
 gC n c d a ((b.toNat:Nat):Int)))
 else(
 some c)
def nr (n:Nat) (a:SS):Option SS:=
 qC (gD n a) n (([]:List _),(0:Int))
theorem Co (n:Nat):∀ (c r:SS),nr n c=some r->qc TP 166 [PV.str c] (Dm r):=by
 intro c r h;unfold nr at h;refine zN Tryz.call166 Tryz.func166 [1000000] ?_;conv=>whnf
 refine qP.fn [1000000] (S:=SS×Int) (fun(a,d)=>[(0,pS c),(3,.tsl 0 (qp a)),(4,pI d)]) (fun(a,d)=>[.tail 5 1 (qp a).length]) (B:=gD n c) h (wk [0] [0]) ?_;intro l st h;obtain⟨a,d⟩:=st;unfold gD at h;conv=>whnf
 apply ifc h<;>intro k h
 ·conv=>whnf
  refine bq h fun g j h=>⟨_,zM j,?_⟩;conv=>whnf
  refine gW.cut (S:=Int) (fun e=>[(0,pS c),(3,.tsl 0 (qp a)),(4,pI d),(5,.p (.int .u8 e))]) (fun e=>[.tail 5 1 (qp a).length]) (gC n a l d) (r:=r) ?_ ?_
  ·intro e h
   unfold gC at h;conv=>whnf
   refine bq h fun b i h=>?_;rw[show([[PV.int .u8 e]]:List (List PV))=qp [b]from by rw[xN i]; rfl];refine⟨Codec.one zu [b],_,.inl rfl,?_⟩;conv=>whnf
   rw[show qp a++qp [b]=qp (a++[b])from Codec.append zu a [b]];conv=>whnf
   obtain⟨f,h⟩:=qb h;refine⟨⟨Codec.wide zu (a++[b]),kod f,qO f (by decide)⟩,?_⟩;conv=>whnf
   refine⟨⟨rfl,rfl,rfl⟩,?_⟩;conv=>whnf
   exact⟨((a++[b]),(kwr .i64 (d+1))),h,wk [1] []⟩
  conv=>whnf
  refine⟨id,?_⟩;conv=>whnf
  refine⟨id,?_⟩;conv=>whnf
  apply ifc h<;>intro k h
  ·conv=>whnf
   exact⟨(kwr .u8 (((g.toNat:Nat):Int) - 32)),h,wk [0] []⟩
  conv=>whnf
  exact⟨((g.toNat:Nat):Int),h,wk [0] []⟩
 conv=>whnf
 refine⟨_,rfl,?_⟩;obtain rfl:=sj h;conv=>whnf
 try exact oX
abbrev EF (r:SS×Bool):PV:=PV.tup [PV.str r.1,PV.bool r.2]
def fC (n:Nat) (b:List SS) (c:SS):LK (Int) (SS×Bool):=fun d a=>
 bif(decide (a<((qi b).length:Int)))then(
 bnd (idx b a) fun e=>
 bif(e==c)then(
 some (c,true))
 else(
 d (kwr .i64 (a+1))))
 else(
 some (([]:SS),false))
def na (n:Nat) (a:SS):Option (SS×Bool):=
 bnd (tc n) fun b=>
 bnd (nr n a) fun c=>
 qC (fC n b c) n (0:Int)
theorem Xu (n:Nat):∀ (b:SS) (r:SS×Bool),na n b=some r->qc TP 127 [PV.str b] (EF r):=by
 intro b r h;unfold na at h;refine zN Tryz.call127 Tryz.func127 [1000000] ?_;conv=>whnf
 refine bq h fun c g h=>⟨_,(Cq n _ g),?_⟩;conv=>whnf
 refine bq h fun d f h=>⟨_,(Co n _ _ f),?_⟩;conv=>whnf
 refine qP.fn [1000000] (S:=Int) (fun a=>[(4,pT c),(5,pS d),(6,pI a)]) (fun a=>[]) (B:=fC n c d) h (wk [] []) ?_;intro _ a h;unfold fC at h;conv=>whnf
 apply ifc h<;>intro i h
 ·conv=>whnf
  refine bq h fun _ e h=>⟨_,Codec.at_ cV e,?_⟩;conv=>whnf
  apply ifc h<;>intro i h
  ·obtain rfl:=sj h
   conv=>whnf
   try exact oX
  conv=>whnf
  exact⟨(kwr .i64 (a+1)),h,wk [] []⟩
 obtain rfl:=sj h;conv=>whnf
 try exact oX
end W
end
section
set_option maxRecDepth 100000
set_option maxHeartbeats 20000000
open Go Go.Proofs Ax
namespace W
abbrev CG (r:Bool):PV:=PV.bool r
def uU (n:Nat) (a:Int):Option (Bool):=
 some (bif(bif(bif(decide (a≥97))then(decide (a<=122))else false)then true else(bif(decide (a≥65))then(decide (a<=90))else false))then true else(a==95))
theorem cX (n:Nat):∀ (a:Int) (r:Bool),uU n a=some r->qc TP 130 [PV.int .u8 a] (CG r):=by
 intro a r h;unfold uU at h;refine zN Tryz.call130 Tryz.func130 [1000000] ?_;conv=>whnf
 iterate 10 refine⟨id,?_⟩
 obtain rfl:=sj h;conv=>whnf
 try exact oX
abbrev Dl (r:Bool):PV:=PV.bool r
def uZ (n:Nat) (a:Int):Option (Bool):=
 some (bif(decide (a≥48))then(decide (a<=57))else false)
theorem fT (n:Nat):∀ (a:Int) (r:Bool),uZ n a=some r->qc TP 131 [PV.int .u8 a] (Dl r):=by
 intro a r h;unfold uZ at h;refine zN Tryz.call131 Tryz.func131 [1000000] ?_;conv=>whnf
 refine⟨id,id,?_⟩;obtain rfl:=sj h;conv=>whnf
 try exact oX
abbrev EB (r:Bool):PV:=PV.bool r
def fB (n:Nat) (b:SS):LK (Int) (Bool):=fun d a=>
 bif(decide (a<((b.length:Nat):Int)))then(
 bnd (idx b a) fun e=>
 bnd (uU n ((e.toNat:Nat):Int)) fun c=>
 bnd (qE (!c) (idx b a)) fun f=>
 bnd (qE (!c) (uZ n ((f.toNat:Nat):Int))) fun g=>
 bif(bif(!c)then(!g)else false)then(
 some false)
 else(
 d (kwr .i64 (a+1))))
 else(
 some true)
def sd (n:Nat) (a:SS):Option (Bool):=
 bnd (qE (!(bif(decide (((a.length:Nat):Int)<1))then true else(decide (((a.length:Nat):Int)>64)))) (idx a (0:Int))) fun b=>
 bnd (qE (!(bif(decide (((a.length:Nat):Int)<1))then true else(decide (((a.length:Nat):Int)>64)))) (uU n ((b.toNat:Nat):Int))) fun c=>
 bif(bif(bif(decide (((a.length:Nat):Int)<1))then true else(decide (((a.length:Nat):Int)>64)))then true else(!c))then(
 some false)
 else(
 qC (fB n a) n (0:Int))
theorem BT (n:Nat):∀ (b:SS) (r:Bool),sd n b=some r->qc TP 128 [PV.str b] (EB r):=by
 intro b r h;unfold sd at h;refine zN Tryz.call128 Tryz.func128 [1000000] ?_;conv=>whnf
 refine⟨id,id,id,id,?_⟩;conv=>whnf
 refine bq h fun _ k h=>⟨_,fun a=>zM (qa k a),?_⟩;conv=>whnf
 refine⟨id,?_⟩;conv=>whnf
 refine bq h fun _ j h=>⟨_,fun a=>(cX n _ _ (qa j a)),?_⟩;conv=>whnf
 refine⟨id,id,?_⟩;conv=>whnf
 apply ifc h<;>intro d h
 ·obtain rfl:=sj h
  conv=>whnf
  try exact oX
 conv=>whnf
 refine qP.fn [1000000] (S:=Int) (fun c=>[(0,pS b),(3,pI c)]) (fun c=>[]) (B:=fB n b) h (wk [] []) ?_;intro _ c h;unfold fB at h;conv=>whnf
 apply ifc h<;>intro d h
 ·conv=>whnf
  refine bq h fun _ i h=>⟨_,zM i,?_⟩;conv=>whnf
  refine bq h fun _ g h=>⟨_,(cX n _ _ g),?_⟩;conv=>whnf
  refine⟨id,id,?_⟩;conv=>whnf
  refine bq h fun _ f h=>⟨_,fun a=>zM (qa f a),?_⟩;conv=>whnf
  refine⟨id,?_⟩;conv=>whnf
  refine bq h fun _ e h=>⟨_,fun a=>(fT n _ _ (qa e a)),?_⟩;conv=>whnf
  refine⟨id,id,?_⟩;conv=>whnf
  apply ifc h<;>intro d h
  ·obtain rfl:=sj h
   conv=>whnf
   try exact oX
  conv=>whnf
  exact⟨(kwr .i64 (c+1)),h,wk [] []⟩
 obtain rfl:=sj h;conv=>whnf
 try exact oX
abbrev Dn (r:Bool):PV:=PV.bool r
def vD (n:Nat) (a:SS):Option (Bool):=
 bnd (na n a) fun⟨_,b⟩=>
 bnd (sd n a) fun c=>
 some (bif c then(!b)else false)
theorem vJ (n:Nat):∀ (a:SS) (r:Bool),vD n a=some r->qc TP 81 [PV.str a] (Dn r):=by
 intro a r h;unfold vD at h;refine zN Tryz.call81 Tryz.func81 [1000000] ?_;conv=>whnf
 refine bq h fun⟨_,_⟩ c h=>⟨_,(Xu n _ _ c),?_⟩;conv=>whnf
 refine bq h fun _ b h=>⟨_,(BT n _ _ b),?_⟩;conv=>whnf
 refine⟨id,id,?_⟩;obtain rfl:=sj h;conv=>whnf
 try exact oX
abbrev Dr (r:Int):PV:=PV.int .i64 r
def fU (n:Nat):Bool->Option (Int):=fun a=>
 bif a then(
 some (7:Int))
 else(
 some (0:Int))
def bB (n:Nat) (a:SS):Bool->Option (Int):=fun b=>
 bif b then(
 some (6:Int))
 else(
 bif(a==([42]:SS))then(
 fU n (a==([42]:SS)))
 else(
 bif(a==([47]:SS))then(
 fU n (a==([47]:SS)))
 else(
 fU n (a==([37]:SS)))))
def vo (n:Nat) (a:SS):Bool->Option (Int):=fun b=>
 bif b then(
 some (5:Int))
 else(
 bif(a==([43]:SS))then(
 bB n a (a==([43]:SS)))
 else(
 bB n a (a==([45]:SS))))
def ZN (n:Nat) (a:SS):Option (Int):=
 bif(a==([79,82]:SS))then(
 some (1:Int))
 else(
 bif(a==([88,79,82]:SS))then(
 some (2:Int))
 else(
 bif(a==([65,78,68]:SS))then(
 some (3:Int))
 else(
 bif(a==([61]:SS))then(
 vo n a (a==([61]:SS)))
 else(
 bif(a==([60,62]:SS))then(
 vo n a (a==([60,62]:SS)))
 else(
 bif(a==([60]:SS))then(
 vo n a (a==([60]:SS)))
 else(
 bif(a==([60,61]:SS))then(
 vo n a (a==([60,61]:SS)))
 else(
 bif(a==([62]:SS))then(
 vo n a (a==([62]:SS)))
 else(
 bif(a==([62,61]:SS))then(
 vo n a (a==([62,61]:SS)))
 else(
 vo n a (a==([73,78]:SS)))))))))))
theorem Ct (n:Nat):∀ (a:SS) (r:Int),ZN n a=some r->qc TP 198 [PV.str a] (Dr r):=by
 intro a r h;unfold ZN at h;refine zN Tryz.call198 Tryz.func198 [1000000] ?_;conv=>whnf
 apply ifc h<;>intro b h
 ·obtain rfl:=sj h
  conv=>whnf
  try exact oX
 conv=>whnf
 apply ifc h<;>intro b h
 ·obtain rfl:=sj h
  conv=>whnf
  try exact oX
 conv=>whnf
 apply ifc h<;>intro b h
 ·obtain rfl:=sj h
  conv=>whnf
  try exact oX
 conv=>whnf
 refine gW.cut (S:=Bool) (fun c=>[(3,pS a),(10,pB c)]) (fun c=>[]) (vo n a) (r:=r) ?_ ?_
 ·intro c h
  unfold vo at h;conv=>whnf
  apply ifc h<;>intro b h
  ·obtain rfl:=sj h
   conv=>whnf
   try exact oX
  conv=>whnf
  refine gW.cut (S:=Bool) (fun d=>[(3,pS a),(18,pB d)]) (fun d=>[]) (bB n a) (r:=r) ?_ ?_
  ·intro d h
   unfold bB at h;conv=>whnf
   apply ifc h<;>intro b h
   ·obtain rfl:=sj h
    conv=>whnf
    try exact oX
   conv=>whnf
   refine gW.cut (S:=Bool) (fun e=>[(21,pB e)]) (fun e=>[]) (fU n) (r:=r) ?_ ?_
   ·intro e h
    unfold fU at h;(conv=>whnf);apply ifc h<;>intro b h
    ·obtain rfl:=sj h
     conv=>whnf
     try exact oX
    obtain rfl:=sj h;conv=>whnf
    try exact oX
   conv=>whnf
   apply ifc h<;>intro b h
   ·conv=>whnf
    exact⟨(a==([42]:SS)),h,wk [] []⟩
   conv=>whnf
   apply ifc h<;>intro b h
   ·conv=>whnf
    exact⟨(a==([47]:SS)),h,wk [] []⟩
   conv=>whnf
   exact⟨(a==([37]:SS)),h,wk [] []⟩
  conv=>whnf
  apply ifc h<;>intro b h
  ·conv=>whnf
   exact⟨(a==([43]:SS)),h,wk [] []⟩
  conv=>whnf
  exact⟨(a==([45]:SS)),h,wk [] []⟩
 conv=>whnf
 apply ifc h<;>intro b h
 ·conv=>whnf
  exact⟨(a==([61]:SS)),h,wk [] []⟩
 conv=>whnf
 apply ifc h<;>intro b h
 ·conv=>whnf
  exact⟨(a==([60,62]:SS)),h,wk [] []⟩
 conv=>whnf
 apply ifc h<;>intro b h
 ·conv=>whnf
  exact⟨(a==([60]:SS)),h,wk [] []⟩
 conv=>whnf
 apply ifc h<;>intro b h
 ·conv=>whnf
  exact⟨(a==([60,61]:SS)),h,wk [] []⟩
 conv=>whnf
 apply ifc h<;>intro b h
 ·conv=>whnf
  exact⟨(a==([62]:SS)),h,wk [] []⟩
 conv=>whnf
 apply ifc h<;>intro b h
 ·conv=>whnf
  exact⟨(a==([62,61]:SS)),h,wk [] []⟩
 conv=>whnf
 exact⟨(a==([73,78]:SS)),h,wk [] []⟩
abbrev Vx (r:Bool):PV:=PV.bool r
def fc (n:Nat) (a:SS):Option (Bool):=
 some (bif(bif(bif(bif(a==([99,111,117,110,116]:SS))then true else(a==([115,117,109]:SS)))then true else(a==([109,105,110]:SS)))then true else(a==([109,97,120]:SS)))then true else(a==([99,111,108,108,101,99,116]:SS)))
theorem cZ (n:Nat):∀ (a:SS) (r:Bool),fc n a=some r->qc TP 199 [PV.str a] (Vx r):=by
 intro a r h;unfold fc at h;refine zN Tryz.call199 Tryz.func199 [1000000] ?_;conv=>whnf
 iterate 8 refine⟨id,?_⟩
 obtain rfl:=sj h;conv=>whnf
 try exact oX
abbrev Dt (r:Bool):PV:=PV.bool r
def rB (n:Nat) (b:List SS) (e:SS) (d:List qd):LK (Int) (Bool):=fun c a=>
 bif(decide (a<((qi b).length:Int)))then(
 bnd (idx b a) fun f=>
 bnd (uG n f) fun g=>
 bif(!g)then(
 some false)
 else(
 c (kwr .i64 (a+1))))
 else(
 some (bif(e==([]:SS))then(((qd.rows d).length:Int)==((qi b).length:Int))else false))
def gE (n:Nat) (b:SS) (a:List qd) (c:Int):Bool->Option (Bool):=fun e=>
 bif e then(
 some (bif(b==([]:SS))then(((qd.rows a).length:Int)==1)else false))
 else(
 bif(c==10)then(
 bnd (qE (((qd.rows a).length:Int)==2) (ZN n b)) fun f=>
 some (bif(((qd.rows a).length:Int)==2)then(decide (f>0))else false))
 else(
 bif(c==13)then(
 bnd (vD n b) fun d=>
 bnd (qE d (fc n b)) fun g=>
 some (bif d then(!g)else false))
 else(
 bif(c==14)then(
 bnd (qE (((qd.rows a).length:Int)==1) (fc n b)) fun i=>
 some (bif(bif(((qd.rows a).length:Int)==1)then i else false)then true else(bif(((qd.rows a).length:Int)==0)then(b==([99,111,117,110,116]:SS))else false)))
 else(
 some false))))
def bE (n:Nat) (b:List qd) (c:SS) (a:Int) (j:List SS):Bool->Option (Bool):=fun e=>
 bif e then(
 bnd (qE (((qd.rows b).length:Int)==0) (vD n c)) fun f=>
 some (bif(((qd.rows b).length:Int)==0)then f else false))
 else(
 bif(a==4)then(
 bnd (qE (((qd.rows b).length:Int)==1) (uG n c)) fun g=>
 some (bif(((qd.rows b).length:Int)==1)then g else false))
 else(
 bif(a==15)then(
 bnd (qE (((qd.rows b).length:Int)==1) (uG n c)) fun d=>
 bnd (qE (bif(((qd.rows b).length:Int)==1)then d else false) (idx b (0:Int))) fun⟨i,_,⟨_,_,_,_,_,_⟩,_,_⟩=>
 some (bif(bif(((qd.rows b).length:Int)==1)then d else false)then(i==2)else false))
 else(
 bif(a==5)then(
 some (c==([]:SS)))
 else(
 bif(a==6)then(
 qC (rB n j c b) n (0:Int))
 else(
 bif(a==7)then(
 some (bif(c==([]:SS))then(((qd.rows b).length:Int)==2)else false))
 else(
 bif(a==8)then(
 gE n c b a (a==8))
 else(
 bif(a==9)then(
 gE n c b a (a==9))
 else(
 bif(a==11)then(
 gE n c b a (a==11))
 else(
 gE n c b a (a==12))))))))))
def ZP (n:Nat) (g:qd):Option (Bool):=
 match g with
 | ⟨a,d,⟨b,j,e,k,l,m⟩,f,c⟩=>
 bif(a==1)then(
 bnd (qE (bif(d==([]:SS))then(((qd.rows c).length:Int)==0)else false) (fS n (Val.mk b j e k l m))) fun i=>
 some (bif(bif(bif(d==([]:SS))then(((qd.rows c).length:Int)==0)else false)then i else false)then(bif(bif(bif(b==0)then true else(b==1))then true else(bif(b==2)then(decide (e≥0))else false))then true else(b==3))else false))
 else(
 bif(a==2)then(
 bE n c d a f (a==2))
 else(
 bE n c d a f (a==3)))
theorem Cu (n:Nat):∀ (g:qd) (r:Bool),ZP n g=some r->qc TP 164 [PV.agg (xT.cells g)] (Dt r):=by
 intro g r h;obtain⟨c,e,⟨l,m,o,q,s,t⟩,f,d⟩:=g;unfold ZP at h;refine zN Tryz.call164 Tryz.func164 [1000000] ?_;conv=>whnf
 apply ifc h<;>intro a h
 ·conv=>whnf
  refine⟨id,id,id,?_⟩;conv=>whnf
  refine bq h fun _ u h=>⟨_,fun b=>(nZ n _ _ (qa u b)),?_⟩;conv=>whnf
  iterate 24 refine⟨id,?_⟩
  obtain rfl:=sj h;conv=>whnf
  try exact oX
 conv=>whnf
 refine gW.cut (S:=Bool) (fun j=>[(1,.ptr 0 0),(3,.p (.int .i64 ((qd.rows d).length:Int))),(4,.p (.bool (e==([]:SS)))),(14,pI c),(53,pB j)]) (fun j=>[.box 42 [pI c,pS e,pI l,pB m,pI o,pS q,pV s,pT t,pT f,pE d]]) (bE n d e c f) (r:=r) ?_ ?_
 ·intro j h
  unfold bE at h;conv=>whnf
  apply ifc h<;>intro a h
  ·conv=>whnf
   refine⟨id,id,?_⟩;conv=>whnf
   refine bq h fun _ x h=>⟨_,fun b=>(vJ n _ _ (qa x b)),?_⟩;conv=>whnf
   refine⟨id,?_⟩;obtain rfl:=sj h;conv=>whnf
   try exact oX
  conv=>whnf
  apply ifc h<;>intro a h
  ·conv=>whnf
   refine⟨id,id,?_⟩;conv=>whnf
   refine bq h fun _ y h=>⟨_,fun b=>(vt n _ _ (qa y b)),?_⟩;conv=>whnf
   refine⟨id,?_⟩;obtain rfl:=sj h;conv=>whnf
   try exact oX
  conv=>whnf
  apply ifc h<;>intro a h
  ·conv=>whnf
   refine⟨id,id,?_⟩;conv=>whnf
   refine bq h fun _ A h=>⟨_,fun b=>(vt n _ _ (qa A b)),?_⟩;conv=>whnf
   refine⟨id,id,id,?_⟩;conv=>whnf
   refine bq h fun⟨_,_,⟨_,_,_,_,_,_⟩,_,_⟩ z h=>⟨_,fun b=>Codec.at_ xT (qa z b),?_⟩;conv=>whnf
   refine⟨id,id,id,id,?_⟩;obtain rfl:=sj h;conv=>whnf
   try exact oX
  conv=>whnf
  apply ifc h<;>intro a h
  ·obtain rfl:=sj h
   conv=>whnf
   try exact oX
  conv=>whnf
  apply ifc h<;>intro a h
  ·conv=>whnf
   refine qP.fn [1000000] (S:=Int) (fun i=>[(1,.ptr 0 0),(3,.p (.int .i64 ((qd.rows d).length:Int))),(4,.p (.bool (e==([]:SS)))),(6,pI i)]) (fun i=>[.box 42 [pI c,pS e,pI l,pB m,pI o,pS q,pV s,pT t,pT f,pE d]]) (B:=rB n f e d) h (wk [0] []) ?_;intro _ i h;unfold rB at h;conv=>whnf
   apply ifc h<;>intro a h
   ·conv=>whnf
    refine bq h fun _ D h=>⟨_,Codec.at_ cV D,?_⟩;(conv=>whnf);refine bq h fun _ C h=>⟨_,(vt n _ _ C),?_⟩;(conv=>whnf);apply ifc h<;>intro a h
    ·obtain rfl:=sj h
     conv=>whnf
     try exact oX
    (conv=>whnf);exact⟨(kwr .i64 (i+1)),h,wk [0] []⟩
   conv=>whnf
   refine⟨id,id,id,id,id,?_⟩;obtain rfl:=sj h;conv=>whnf
   try exact oX
  conv=>whnf
  apply ifc h<;>intro a h
  ·conv=>whnf
   refine⟨id,id,?_⟩;obtain rfl:=sj h;conv=>whnf
   try exact oX
  conv=>whnf
  refine gW.cut (S:=Bool) (fun k=>[(1,.ptr 0 0),(3,.p (.int .i64 ((qd.rows d).length:Int))),(4,.p (.bool (e==([]:SS)))),(14,pI c),(123,pB k)]) (fun k=>[.box 42 [pI c,pS e,pI l,pB m,pI o,pS q,pV s,pT t,pT f,pE d]]) (gE n e d c) (r:=r) ?_ ?_
  ·intro k h
   unfold gE at h;conv=>whnf
   apply ifc h<;>intro a h
   ·conv=>whnf
    refine⟨id,id,?_⟩;obtain rfl:=sj h;conv=>whnf
    try exact oX
   conv=>whnf
   apply ifc h<;>intro a h
   ·conv=>whnf
    refine⟨id,id,?_⟩;(conv=>whnf);refine bq h fun _ E h=>⟨_,fun b=>(Ct n _ _ (qa E b)),?_⟩;(conv=>whnf);refine⟨id,id,?_⟩;obtain rfl:=sj h;conv=>whnf
    try exact oX
   conv=>whnf
   apply ifc h<;>intro a h
   ·conv=>whnf
    refine bq h fun _ v h=>⟨_,(vJ n _ _ v),?_⟩;(conv=>whnf);refine⟨id,id,?_⟩;(conv=>whnf);refine bq h fun _ F h=>⟨_,fun b=>(cZ n _ _ (qa F b)),?_⟩;(conv=>whnf);refine⟨id,id,?_⟩;obtain rfl:=sj h;conv=>whnf
    try exact oX
   conv=>whnf
   apply ifc h<;>intro a h
   ·conv=>whnf
    refine⟨id,id,?_⟩;(conv=>whnf);refine bq h fun _ w h=>⟨_,fun b=>(cZ n _ _ (qa w b)),?_⟩;conv=>whnf
    iterate 8 refine⟨id,?_⟩
    obtain rfl:=sj h;conv=>whnf
    try exact oX
   obtain rfl:=sj h;conv=>whnf
   try exact oX
  conv=>whnf
  apply ifc h<;>intro a h
  ·conv=>whnf
   exact⟨(c==8),h,wk [0] []⟩
  conv=>whnf
  apply ifc h<;>intro a h
  ·conv=>whnf
   exact⟨(c==9),h,wk [0] []⟩
  conv=>whnf
  apply ifc h<;>intro a h
  ·conv=>whnf
   exact⟨(c==11),h,wk [0] []⟩
  conv=>whnf
  exact⟨(c==12),h,wk [0] []⟩
 conv=>whnf
 apply ifc h<;>intro a h
 ·conv=>whnf
  exact⟨(c==2),h,wk [0] []⟩
 conv=>whnf
 exact⟨(c==3),h,wk [0] []⟩
abbrev pF (r:Bool):PV:=PV.bool r
def td (n:Nat) (b:List qd) (g126:qd->Int->Option (Bool)) (d:Int):LK (Int) (Bool):=fun c a=>
 bif(decide (a<((qd.rows b).length:Int)))then(
 bnd (idx b a) fun⟨e,f,⟨g,i,j,k,l,m⟩,o,p⟩=>
 bnd (g126 (qd.mk e f (Val.mk g i j k l m) o p) (kwr .i64 (d - 1))) fun q=>
 bif(!q)then(
 some false)
 else(
 c (kwr .i64 (a+1))))
 else(
 some true)
def ZJ (n:Nat) (g126:qd->Int->Option (Bool)) (m:qd) (b:Int):Option (Bool):=
 match m with
 | ⟨a,p,⟨e,f,g,i,j,k⟩,l,c⟩=>
 bnd (qE (!(decide (b<1))) (ZP n (qd.mk a p (Val.mk e f g i j k) l c))) fun d=>
 bnd (qE ((!(bif(decide (b<1))then true else(!d)))&&(a != 1)) (uE n (Val.mk e f g i j k) (Val.mk (0:Int) false (0:Int) ([]:SS) ([]:List Val) ([]:List SS)))) fun o=>
 bif(bif(bif(bif(decide (b<1))then true else(!d))then true else(bif(a != 1)then(!o)else false))then true else(bif(a != 6)then(decide (((qi l).length:Int)>0))else false))then(
 some false)
 else(
 qC (td n c g126 b) n (0:Int))
theorem Ch (n:Nat) (g126:qd->Int->Option (Bool)) (g126_ok:∀ (b:qd) (a:Int) (r:Bool),g126 b a=some r->qc TP 126 [PV.agg (xT.cells b),PV.int .i64 a] (pF r)):∀ (b:qd) (a:Int) (r:Bool),ZJ n g126 b a=some r->qc TP 126 [PV.agg (xT.cells b),PV.int .i64 a] (pF r):=by
 intro b a r h;obtain⟨l,m,⟨o,p,q,s,t,u⟩,v,f⟩:=b;unfold ZJ at h;refine zN Tryz.call126 Tryz.func126 [1000000] ?_;conv=>whnf
 refine⟨id,?_⟩;conv=>whnf
 refine bq h fun _ k h=>⟨_,fun d=>(Cu n _ _ (qa k d)),?_⟩;conv=>whnf
 iterate 8 refine⟨id,?_⟩
 conv=>whnf
 refine bq h fun _ j h=>⟨_,fun d=>(qc.leArgs (sW n _ _ _ (qa j d)) (by try exact oX)),?_⟩;conv=>whnf
 iterate 13 refine⟨id,?_⟩
 conv=>whnf
 apply ifc h<;>intro e h
 ·obtain rfl:=sj h
  conv=>whnf
  try exact oX
 conv=>whnf
 refine qP.fn [1000000] (S:=Int) (fun c=>[(1,pI a),(2,.ptr 0 0),(5,pI c)]) (fun c=>[.box 42 [pI l,pS m,pI o,pB p,pI q,pS s,pV t,pT u,pT v,pE f]]) (B:=td n f g126 a) h (wk [0] []) ?_;intro _ c h;unfold td at h;conv=>whnf
 apply ifc h<;>intro e h
 ·conv=>whnf
  refine bq h fun⟨_,_,⟨_,_,_,_,_,_⟩,_,_⟩ i h=>⟨_,Codec.at_ xT i,?_⟩;conv=>whnf
  refine bq h fun _ g h=>⟨_,(g126_ok _ _ _ g),?_⟩;conv=>whnf
  apply ifc h<;>intro e h
  ·obtain rfl:=sj h
   conv=>whnf
   try exact oX
  conv=>whnf
  exact⟨(kwr .i64 (c+1)),h,wk [0] []⟩
 obtain rfl:=sj h;conv=>whnf
 try exact oX
def sf:Nat->qd->Int->Option (Bool)
 | 0=>fun _ _=>none
 | n+1=>ZJ n (sf n)
theorem Cr (n:Nat):(∀ (a:qd) (b:Int) (r:Bool),sf n a b=some r->qc TP 126 [PV.agg (xT.cells a),PV.int .i64 b] (pF r)):=by
 induction n with
 | zero=>exact(by intros; rename_i h; cases h)
 | succ n ih=>
  have hg126:=ih;exact Ch n (sf n) hg126
theorem BY (n:Nat):∀ (a:qd) (b:Int) (r:Bool),sf n a b=some r->qc TP 126 [PV.agg (xT.cells a),PV.int .i64 b] (pF r):=(Cr n)
abbrev Fa (r:Bool):PV:=PV.bool r
def uh (n:Nat) (a:qd):Option (Bool):=
 match a with
 | ⟨b,e,⟨f,g,i,j,k,l⟩,m,c⟩=>
 bnd (sf n (qd.mk b e (Val.mk f g i j k l) m c) (32:Int)) fun d=>
 some d
theorem uc (n:Nat):∀ (a:qd) (r:Bool),uh n a=some r->qc TP 80 [PV.agg (xT.cells a)] (Fa r):=by
 intro a r h;obtain⟨_,_,⟨_,_,_,_,_,_⟩,_,_⟩:=a;unfold uh at h;refine zN Tryz.call80 Tryz.func80 [1000000] ?_;conv=>whnf
 refine bq h fun _ b h=>⟨_,(BY n _ _ _ b),?_⟩;obtain rfl:=sj h;conv=>whnf
 try exact oX
abbrev UG (r:Bool):PV:=PV.bool r
def dN (n:Nat) (c:List SS) (m:List qd):LK (Int) (Bool):=fun d a=>
 bif(decide (a<((qi c).length:Int)))then(
 bnd (idx c a) fun o=>
 bnd (uG n o) fun b=>
 bnd (qE (!(!b)) (idx m a)) fun⟨p,q,⟨s,t,e,f,g,i⟩,j,k⟩=>
 bnd (qE (!(!b)) (uh n (qd.mk p q (Val.mk s t e f g i) j k))) fun l=>
 bif(bif(!b)then true else(!l))then(
 some false)
 else(
 d (kwr .i64 (a+1))))
 else(
 some true)
def bD (n:Nat) (a:List SS) (b:List qd):Option (Bool):=
 bif(((qi a).length:Int) != ((qd.rows b).length:Int))then(
 some false)
 else(
 qC (dN n a b) n (0:Int))
theorem sh (n:Nat):∀ (a:List SS) (b:List qd) (r:Bool),bD n a b=some r->qc TP 125 [PV.sl (qi a),PV.sl (qd.rows b)] (UG r):=by
 intro a b r h;unfold bD at h;refine zN Tryz.call125 Tryz.func125 [1000000] ?_;conv=>whnf
 apply ifc h<;>intro e h
 ·obtain rfl:=sj h
  conv=>whnf
  try exact oX
 conv=>whnf
 refine qP.fn [1000000] (S:=Int) (fun c=>[(0,pT a),(1,pE b),(5,pI c)]) (fun c=>[]) (B:=dN n a b) h (wk [] []) ?_;intro _ c h;unfold dN at h;conv=>whnf
 apply ifc h<;>intro e h
 ·conv=>whnf
  refine bq h fun _ j h=>⟨_,Codec.at_ cV j,?_⟩;conv=>whnf
  refine bq h fun _ i h=>⟨_,(vt n _ _ i),?_⟩;conv=>whnf
  refine⟨id,id,?_⟩;conv=>whnf
  refine bq h fun⟨_,_,⟨_,_,_,_,_,_⟩,_,_⟩ g h=>⟨_,fun d=>Codec.at_ xT (qa g d),?_⟩;conv=>whnf
  refine⟨id,id,?_⟩;conv=>whnf
  refine bq h fun _ f h=>⟨_,fun d=>(uc n _ _ (qa f d)),?_⟩;conv=>whnf
  refine⟨id,id,?_⟩;conv=>whnf
  apply ifc h<;>intro e h
  ·obtain rfl:=sj h
   conv=>whnf
   try exact oX
  conv=>whnf
  exact⟨(kwr .i64 (c+1)),h,wk [] []⟩
 obtain rfl:=sj h;conv=>whnf
 try exact oX
abbrev Fb (r:Bool):PV:=PV.bool r
def mj (n:Nat) (d:List SS) (a:SS) (k:List SS) (l:List qd) (e:Int->Option (Bool)) (j:Int):LK (Int) (Bool):=fun f b=>
 bif(decide (b<((qi d).length:Int)))then(
 bnd (idx d b) fun m=>
 bnd (uG n m) fun g=>
 bif(!g)then(
 some false)
 else(
 f (kwr .i64 (b+1))))
 else(
 bnd (qE (!(a==([]:SS))) (vD n a)) fun c=>
 bnd (qE (!(bif(!(a==([]:SS)))then(!c)else false)) (bD n k l)) fun i=>
 bif(bif(bif(!(a==([]:SS)))then(!c)else false)then true else(!i))then(
 some false)
 else(
 e (kwr .i64 (j+1))))
def ml (n:Nat) (f:List qg):LK (Int) (Bool):=fun i d=>
 bif(decide (d<((qg.rows f).length:Int)))then(
 bnd (idx f d) fun⟨a,b,c,j,k⟩=>
 bnd (qE (!(a==([]:SS))) (vD n a)) fun e=>
 bnd (qE ((!(bif(!(a==([]:SS)))then(!e)else false))&&(!(b==([]:SS)))) (uG n b)) fun g=>
 bnd (qE (!(bif(bif(bif(bif(!(a==([]:SS)))then(!e)else false)then true else(bif(!(b==([]:SS)))then(!g)else false))then true else(decide (c<0)))then true else(decide (c>2)))) (bD n j k)) fun l=>
 bif(bif(bif(bif(bif(bif(!(a==([]:SS)))then(!e)else false)then true else(bif(!(b==([]:SS)))then(!g)else false))then true else(decide (c<0)))then true else(decide (c>2)))then true else(!l))then(
 some false)
 else(
 i (kwr .i64 (d+1))))
 else(
 some true)
def mi (n:Nat) (b:List qe) (d:List qg):LK (Int) (Bool):=fun c a=>
 bif(decide (a<((qe.rows b).length:Int)))then(
 bnd (idx b a) fun⟨e,f,g,i⟩=>
 qC (mj n f e g i c a) n (0:Int))
 else(
 qC (ml n d) n (0:Int))
def te (n:Nat) (c:zU):Option (Bool):=
 match c with
 | ⟨a,b⟩=>
 bif(((qe.rows a).length:Int) != (kwr .i64 (((qg.rows b).length:Int)+1)))then(
 some false)
 else(
 qC (mi n a b) n (0:Int))
theorem Up (n:Nat):∀ (e:zU) (r:Bool),te n e=some r->qc TP 78 [PV.agg (Qc.cells e)] (Fb r):=by
 intro e r h;obtain⟨f,d⟩:=e;unfold te at h;refine zN Tryz.call78 Tryz.func78 [1000000] ?_;conv=>whnf
 apply ifc h<;>intro b h
 ·obtain rfl:=sj h
  conv=>whnf
  try exact oX
 conv=>whnf
 refine qP.fn [1000000] (S:=Int) (fun c=>[(1,.ptr 0 0),(3,pI c)]) (fun c=>[.box 100 [pN f,pG d]]) (B:=mi n f d) h (wk [0] []) ?_;intro y c h;unfold mi at h;conv=>whnf
 apply ifc h<;>intro b h
 ·conv=>whnf
  refine bq h fun⟨j,k,l,m⟩ t h=>⟨_,Codec.at_ ua t,?_⟩;conv=>whnf
  refine qP.fn [1000000] (S:=Int) (fun i=>[(1,.ptr 0 0),(3,pI c),(4,.ptr 1 0),(5,pI i)]) (fun i=>[.box 100 [pN f,pG d],.box 102 [pS j,pT k,pT l,pE m]]) (B:=mj n k j l m y c) h (wk [0,1] []) ?_;intro _ i h;unfold mj at h;conv=>whnf
  apply ifc h<;>intro b h
  ·conv=>whnf
   refine bq h fun _ p h=>⟨_,Codec.at_ cV p,?_⟩;conv=>whnf
   refine bq h fun _ o h=>⟨_,(vt n _ _ o),?_⟩;conv=>whnf
   apply ifc h<;>intro b h
   ·obtain rfl:=sj h
    conv=>whnf
    try exact oX
   conv=>whnf
   exact⟨(kwr .i64 (i+1)),h,wk [0,1] []⟩
  conv=>whnf
  refine⟨id,id,?_⟩;conv=>whnf
  refine bq h fun _ s h=>⟨_,fun a=>(vJ n _ _ (qa s a)),?_⟩;conv=>whnf
  iterate 6 refine⟨id,?_⟩
  conv=>whnf
  refine bq h fun _ q h=>⟨_,fun a=>(sh n _ _ _ (qa q a)),?_⟩;conv=>whnf
  refine⟨id,id,?_⟩;conv=>whnf
  apply ifc h<;>intro b h
  ·obtain rfl:=sj h
   conv=>whnf
   try exact oX
  conv=>whnf
  exact⟨(kwr .i64 (c+1)),h,wk [0] []⟩
 conv=>whnf
 refine qP.fn [1000000] (S:=Int) (fun g=>[(1,.ptr 0 0),(6,pI g)]) (fun g=>[.box 100 [pN f,pG d]]) (B:=ml n d) h (wk [0] []) ?_;intro _ g h;unfold ml at h;conv=>whnf
 apply ifc h<;>intro b h
 ·conv=>whnf
  refine bq h fun⟨_,_,_,_,_⟩ x h=>⟨_,Codec.at_ gV x,?_⟩;conv=>whnf
  refine⟨id,id,?_⟩;conv=>whnf
  refine bq h fun _ w h=>⟨_,fun a=>(vJ n _ _ (qa w a)),?_⟩;conv=>whnf
  iterate 7 refine⟨id,?_⟩
  conv=>whnf
  refine bq h fun _ v h=>⟨_,fun a=>(vt n _ _ (qa v a)),?_⟩;conv=>whnf
  iterate 14 refine⟨id,?_⟩
  conv=>whnf
  refine bq h fun _ u h=>⟨_,fun a=>(sh n _ _ _ (qa u a)),?_⟩;conv=>whnf
  refine⟨id,id,?_⟩;conv=>whnf
  apply ifc h<;>intro b h
  ·obtain rfl:=sj h
   conv=>whnf
   try exact oX
  conv=>whnf
  exact⟨(kwr .i64 (g+1)),h,wk [0] []⟩
 obtain rfl:=sj h;conv=>whnf
 try exact oX
end W
end
section
set_option maxRecDepth 100000
set_option maxHeartbeats 20000000
open Go Go.Proofs Ax
namespace W
abbrev Ds (r:Bool):PV:=PV.bool r
def rA (n:Nat) (a:List qd) (j:Int):LK (Int) (Bool):=fun c b=>
 bif(decide (b<((qd.rows a).length:Int)))then(
 bnd (idx a b) fun⟨k,l,⟨m,o,p,q,d,e⟩,f,g⟩=>
 bnd (uh n (qd.mk k l (Val.mk m o p q d e) f g)) fun i=>
 bif(!i)then(
 some false)
 else(
 c (kwr .i64 (b+1))))
 else(
 some (decide (((qd.rows a).length:Int)<=j)))
def dM (n:Nat) (a:List qd) (b:Int):Option (Bool):=
 qC (rA n a b) n (0:Int)
theorem bC (n:Nat):∀ (a:List qd) (b:Int) (r:Bool),dM n a b=some r->qc TP 79 [PV.sl (qd.rows a),PV.int .i64 b] (Ds r):=by
 intro a b r h;unfold dM at h;refine zN Tryz.call79 Tryz.func79 [1000000] ?_;conv=>whnf
 refine qP.fn [1000000] (S:=Int) (fun c=>[(0,pE a),(1,pI b),(5,pI c)]) (fun c=>[]) (B:=rA n a b) h (wk [] []) ?_;intro _ c h;unfold rA at h;conv=>whnf
 apply ifc h<;>intro f h
 ·conv=>whnf
  refine bq h fun⟨_,_,⟨_,_,_,_,_,_⟩,_,_⟩ e h=>⟨_,Codec.at_ xT e,?_⟩;conv=>whnf
  refine bq h fun _ d h=>⟨_,(uc n _ _ d),?_⟩;conv=>whnf
  apply ifc h<;>intro f h
  ·obtain rfl:=sj h
   conv=>whnf
   try exact oX
  conv=>whnf
  exact⟨(kwr .i64 (c+1)),h,wk [] []⟩
 obtain rfl:=sj h;conv=>whnf
 try exact oX
abbrev EI (r:Bool):PV:=PV.bool r
def tg (n:Nat) (c:List zy) (a:List xj) (f g:List qd):LK (Int) (Bool):=fun e b=>
 bif(decide (b<((zy.rows c).length:Int)))then(
 bnd (idx c b) fun⟨⟨i,j,⟨k,l,m,o,p,q⟩,s,t⟩,_⟩=>
 bnd (uh n (qd.mk i j (Val.mk k l m o p q) s t)) fun u=>
 bif(!u)then(
 some false)
 else(
 e (kwr .i64 (b+1))))
 else(
 bnd (qE (decide (((xj.rows a).length:Int)>0)) (dM n f (1:Int))) fun d=>
 bnd (qE (bif(decide (((xj.rows a).length:Int)>0))then d else false) (dM n g (1:Int))) fun v=>
 some (bif(bif(decide (((xj.rows a).length:Int)>0))then d else false)then v else false))
def tf (n:Nat) (a:List xj) (e:List zy) (f g:List qd):LK (Int) (Bool):=fun d b=>
 bif(decide (b<((xj.rows a).length:Int)))then(
 bnd (idx a b) fun⟨⟨_,_,⟨_,_,_,_,_,_⟩,_,_⟩,i⟩=>
 bnd (vD n i) fun c=>
 bnd (qE (!(!c)) (idx a b)) fun⟨⟨j,k,⟨l,m,o,p,q,s⟩,t,u⟩,_⟩=>
 bnd (qE (!(!c)) (uh n (qd.mk j k (Val.mk l m o p q s) t u))) fun v=>
 bif(bif(!c)then true else(!v))then(
 some false)
 else(
 d (kwr .i64 (b+1))))
 else(
 qC (tg n e a f g) n (0:Int))
def Vj (n:Nat) (a:qy):Option (Bool):=
 match a with
 | ⟨_,_,_,⟨_,_,⟨_,_,_,_,_,_⟩,_,_⟩,_,b,_,c,d,e,_,_,_⟩=>
 qC (tf n b c d e) n (0:Int)
theorem BZ (n:Nat):∀ (b:qy) (r:Bool),Vj n b=some r->qc TP 82 [PV.agg (ub.cells b)] (EI r):=by
 intro b r h;obtain⟨k,t,x,⟨y,z,⟨A,C,D,E,l,m⟩,o,p⟩,q,c,s,d,e,f,u,v,w⟩:=b;unfold Vj at h;refine zN Tryz.call82 Tryz.func82 [1000000] ?_;conv=>whnf
 refine qP.fn [1000000] (S:=Int) (fun g=>[(1,.ptr 0 0),(3,pI g)]) (fun g=>[.box 47 [pI k,pP t,pE x,pI y,pS z,pI A,pB C,pI D,pS E,pV l,pT m,pT o,pE p,pS q,pA c,pB s,pO d,pE e,pE f,pU u,pT v,pB w]]) (B:=tf n c d e f) h (wk [0] []) ?_;intro _ g h;unfold tf at h;conv=>whnf
 apply ifc h<;>intro j h
 ·conv=>whnf
  refine bq h fun⟨⟨_,_,⟨_,_,_,_,_,_⟩,_,_⟩,_⟩ I h=>⟨_,Codec.at_ Bf I,?_⟩;conv=>whnf
  refine bq h fun _ H h=>⟨_,(vJ n _ _ H),?_⟩;conv=>whnf
  refine⟨id,id,id,?_⟩;conv=>whnf
  refine bq h fun⟨⟨_,_,⟨_,_,_,_,_,_⟩,_,_⟩,_⟩ G h=>⟨_,fun a=>Codec.at_ Bf (qa G a),?_⟩;conv=>whnf
  refine⟨id,id,id,?_⟩;conv=>whnf
  refine bq h fun _ F h=>⟨_,fun a=>(uc n _ _ (qa F a)),?_⟩;conv=>whnf
  refine⟨id,id,?_⟩;conv=>whnf
  apply ifc h<;>intro j h
  ·obtain rfl:=sj h
   conv=>whnf
   try exact oX
  conv=>whnf
  exact⟨(kwr .i64 (g+1)),h,wk [0] []⟩
 conv=>whnf
 refine qP.fn [1000000] (S:=Int) (fun i=>[(1,.ptr 0 0),(4,pI i)]) (fun i=>[.box 47 [pI k,pP t,pE x,pI y,pS z,pI A,pB C,pI D,pS E,pV l,pT m,pT o,pE p,pS q,pA c,pB s,pO d,pE e,pE f,pU u,pT v,pB w]]) (B:=tg n d c e f) h (wk [0] []) ?_;intro _ i h;unfold tg at h;conv=>whnf
 apply ifc h<;>intro j h
 ·conv=>whnf
  refine bq h fun⟨⟨_,_,⟨_,_,_,_,_,_⟩,_,_⟩,_⟩ K h=>⟨_,Codec.at_ XW K,?_⟩;conv=>whnf
  refine bq h fun _ J h=>⟨_,(uc n _ _ J),?_⟩;conv=>whnf
  apply ifc h<;>intro j h
  ·obtain rfl:=sj h
   conv=>whnf
   try exact oX
  conv=>whnf
  exact⟨(kwr .i64 (i+1)),h,wk [0] []⟩
 conv=>whnf
 refine⟨id,id,?_⟩;conv=>whnf
 refine bq h fun _ M h=>⟨_,fun a=>(bC n _ _ _ (qa M a)),?_⟩;conv=>whnf
 refine⟨id,id,id,?_⟩;conv=>whnf
 refine bq h fun _ L h=>⟨_,fun a=>(bC n _ _ _ (qa L a)),?_⟩;conv=>whnf
 refine⟨id,?_⟩;obtain rfl:=sj h;conv=>whnf
 try exact oX
abbrev EH (r:Bool):PV:=PV.bool r
def Zb (n:Nat) (c:qd):Option (Bool):=
 match c with
 | ⟨a,b,⟨f,g,i,j,k,l⟩,m,d⟩=>
 bnd (qE (bif(a==0)then(b==([]:SS))else false) (uE n (Val.mk f g i j k l) (Val.mk (0:Int) false (0:Int) ([]:SS) ([]:List Val) ([]:List SS)))) fun e=>
 some (bif(bif(bif(bif(a==0)then(b==([]:SS))else false)then e else false)then(((qi m).length:Int)==0)else false)then(((qd.rows d).length:Int)==0)else false)
theorem Xv (n:Nat):∀ (a:qd) (r:Bool),Zb n a=some r->qc TP 129 [PV.agg (xT.cells a)] (EH r):=by
 intro a r h;obtain⟨_,_,⟨_,_,_,_,_,_⟩,_,_⟩:=a;unfold Zb at h;refine zN Tryz.call129 Tryz.func129 [1000000] ?_;conv=>whnf
 iterate 6 refine⟨id,?_⟩
 conv=>whnf
 refine bq h fun _ b h=>⟨_,fun c=>(qc.leArgs (sW n _ _ _ (qa b c)) (by try exact oX)),?_⟩;conv=>whnf
 iterate 9 refine⟨id,?_⟩
 obtain rfl:=sj h;conv=>whnf
 try exact oX
abbrev CJ (r:Bool):PV:=PV.bool r
def Qr (n:Nat) (p:qv) (s:Bool):Option (Bool):=
 match p with
 | ⟨q,o,e,⟨f,g,⟨i,j,k,l,a,b⟩,c,d⟩⟩=>
 bnd (vD n q) fun t=>
 bif(!t)then(
 some false)
 else(
 bif(o==([]:SS))then(
 bnd (uG n e) fun m=>
 bnd (qE m (Zb n (qd.mk f g (Val.mk i j k l a b) c d))) fun u=>
 some (bif m then u else false))
 else(
 bnd (qE (!(!(e==([]:SS)))) (uG n o)) fun v=>
 bif(bif(!(e==([]:SS)))then true else(!v))then(
 some false)
 else(
 bif s then(
 bnd (uh n (qd.mk f g (Val.mk i j k l a b) c d)) fun w=>
 some w)
 else(
 bnd (Zb n (qd.mk f g (Val.mk i j k l a b) c d)) fun x=>
 some x))))
theorem GI (n:Nat):∀ (a:qv) (d r:Bool),Qr n a d=some r->qc TP 83 [PV.agg (pQ.cells a),PV.bool d] (CJ r):=by
 intro a d r h;obtain⟨_,_,_,⟨_,_,⟨_,_,_,_,_,_⟩,_,_⟩⟩:=a;unfold Qr at h;refine zN Tryz.call83 Tryz.func83 [1000000] ?_;conv=>whnf
 refine bq h fun _ k h=>⟨_,(vJ n _ _ k),?_⟩;conv=>whnf
 apply ifc h<;>intro b h
 ·obtain rfl:=sj h
  conv=>whnf
  try exact oX
 conv=>whnf
 apply ifc h<;>intro b h
 ·conv=>whnf
  refine bq h fun _ f h=>⟨_,(vt n _ _ f),?_⟩;conv=>whnf
  refine⟨id,id,?_⟩;conv=>whnf
  refine bq h fun _ e h=>⟨_,fun c=>(Xv n _ _ (qa e c)),?_⟩;conv=>whnf
  refine⟨id,?_⟩;obtain rfl:=sj h;conv=>whnf
  try exact oX
 conv=>whnf
 refine⟨id,id,?_⟩;conv=>whnf
 refine bq h fun _ j h=>⟨_,fun c=>(vt n _ _ (qa j c)),?_⟩;conv=>whnf
 refine⟨id,id,?_⟩;conv=>whnf
 apply ifc h<;>intro b h
 ·obtain rfl:=sj h
  conv=>whnf
  try exact oX
 conv=>whnf
 apply ifc h<;>intro b h
 ·conv=>whnf
  refine bq h fun _ g h=>⟨_,(uc n _ _ g),?_⟩;obtain rfl:=sj h;conv=>whnf
  try exact oX
 conv=>whnf
 refine bq h fun _ i h=>⟨_,(Xv n _ _ i),?_⟩;obtain rfl:=sj h;conv=>whnf
 try exact oX
abbrev Vy (r:Bool):PV:=PV.bool r
def db (n:Nat) (a:List qv) (d:Int):LK (Int) (Bool):=fun c b=>
 bif(decide (b<((qv.rows a).length:Int)))then(
 bnd (idx a b) fun⟨e,f,g,⟨i,j,⟨k,l,m,o,p,q⟩,s,t⟩⟩=>
 bnd (Qr n (qv.mk e f g (qd.mk i j (Val.mk k l m o p q) s t)) (d==6)) fun u=>
 bif(!u)then(
 some false)
 else(
 c (kwr .i64 (b+1))))
 else(
 some (decide (((qv.rows a).length:Int)>0)))
def gQ (n:Nat) (a:List SS):LK (Int) (Bool):=fun c b=>
 bif(decide (b<((qi a).length:Int)))then(
 bnd (idx a b) fun d=>
 bnd (vD n d) fun e=>
 bif(!e)then(
 some false)
 else(
 c (kwr .i64 (b+1))))
 else(
 some (decide (((qi a).length:Int)>0)))
def uk (n:Nat) (b:List qv) (a:Int) (c:List SS):Bool->Option (Bool):=fun d=>
 bif d then(
 qC (db n b a) n (0:Int))
 else(
 bif(a==8)then(
 qC (gQ n c) n (0:Int))
 else(
 some false))
def uj (n:Nat) (a:Int) (b:List zU) (e:List qd) (u:Int) (v:SS) (z:Int) (A:Bool) (B:Int) (C:SS) (g:List Val) (i j:List SS) (k:List qd) (l:SS) (m:List xj) (o:Bool) (p:List zy) (q s:List qd) (c:List qv) (d:List SS) (t:Bool):Bool->Option (Bool):=fun w=>
 bif w then(
 bnd (Vj n (qy.mk a b e (qd.mk u v (Val.mk z A B C g i) j k) l m o p q s c d t)) fun f=>
 bnd (qE f (dM n e (1:Int))) fun x=>
 some (bif f then x else false))
 else(
 bif(a==4)then(
 some (decide (((zU.rows b).length:Int)>0)))
 else(
 bif(a==5)then(
 bnd (qE (((zU.rows b).length:Int)==1) (idx b (0:Int))) fun⟨_,y⟩=>
 some (bif(((zU.rows b).length:Int)==1)then(((qg.rows y).length:Int)==0)else false))
 else(
 bif(a==6)then(
 uk n c a d (a==6))
 else(
 uk n c a d (a==7)))))
def gP (n:Nat) (b:List zU) (a:Int) (i:List qd) (j:Int) (l:SS) (m:Int) (o:Bool) (p:Int) (q:SS) (c:List Val) (d e:List SS) (f:List qd) (g:SS) (s:List xj) (t:Bool) (u:List zy) (v w:List qd) (x:List qv) (y:List SS) (z:Bool):LK (Int) (Bool):=fun B k=>
 bif(decide (k<((zU.rows b).length:Int)))then(
 bnd (idx b k) fun⟨C,D⟩=>
 bnd (te n (zU.mk C D)) fun E=>
 bif(!E)then(
 some false)
 else(
 B (kwr .i64 (k+1))))
 else(
 bif(a==1)then(
 bnd (qE (decide (((zU.rows b).length:Int)>0)) (dM n i (1:Int))) fun F=>
 some (bif(decide (((zU.rows b).length:Int)>0))then F else false))
 else(
 bif(a==2)then(
 bnd (uh n (qd.mk j l (Val.mk m o p q c d) e f)) fun A=>
 bnd (qE A (vD n g)) fun G=>
 some (bif A then G else false))
 else(
 bif(a==3)then(
 uj n a b i j l m o p q c d e f g s t u v w x y z (a==3))
 else(
 uj n a b i j l m o p q c d e f g s t u v w x y z (a==9)))))
def fe (n:Nat) (z:qy):Option (Bool):=
 match z with
 | ⟨a,m,s,⟨t,u,⟨v,w,x,y,b,c⟩,d,e⟩,f,g,i,j,k,l,o,p,q⟩=>
 bnd (Xx n (qy.mk a m s (qd.mk t u (Val.mk v w x y b c) d e) f g i j k l o p q)) fun⟨A,B,C,⟨D,E,⟨F,G,H,I,J,K⟩,L,M⟩,N,O,P,Q,R,S,T,U,V⟩=>
 bnd (gm n (qy.mk A B C (qd.mk D E (Val.mk F G H I J K) L M) N O P Q R S T U V) (qy.mk a m s (qd.mk t u (Val.mk v w x y b c) d e) f g i j k l o p q)) fun W=>
 bif(!W)then(
 some false)
 else(
 qC (gP n m a s t u v w x y b c d e f g i j k l o p q) n (0:Int))
theorem Xw (n:Nat):∀ (C:qy) (r:Bool),fe n C=some r->qc TP 42 [PV.agg (ub.cells C)] (Vy r):=by
 intro C r h;obtain⟨b,s,u,⟨v,w,⟨x,y,z,A,f,g⟩,i,j⟩,k,l,m,o,p,q,c,d,t⟩:=C;unfold fe at h;refine zN Tryz.call42 Tryz.func42 [1000000] ?_;conv=>whnf
 refine bq h fun⟨_,_,_,⟨_,_,⟨_,_,_,_,_,_⟩,_,_⟩,_,_,_,_,_,_,_,_,_⟩ N h=>⟨_,(Ev n _ _ N),?_⟩;conv=>whnf
 refine bq h fun _ M h=>⟨_,(ZO n _ _ _ M),?_⟩;conv=>whnf
 apply ifc h<;>intro a h
 ·obtain rfl:=sj h
  conv=>whnf
  try exact oX
 conv=>whnf
 refine qP.fn [1000000] (S:=Int) (fun D=>[(1,.ptr 0 0),(3,pI D)]) (fun D=>[.box 47 [pI b,pP s,pE u,pI v,pS w,pI x,pB y,pI z,pS A,pV f,pT g,pT i,pE j,pS k,pA l,pB m,pO o,pE p,pE q,pU c,pT d,pB t]]) (B:=gP n s b u v w x y z A f g i j k l m o p q c d t) h (wk [0] []) ?_;intro _ D h;unfold gP at h;conv=>whnf
 apply ifc h<;>intro a h
 ·conv=>whnf
  refine bq h fun⟨_,_⟩ O h=>⟨_,Codec.at_ Qc O,?_⟩;conv=>whnf
  refine bq h fun _ I h=>⟨_,(Up n _ _ I),?_⟩;conv=>whnf
  apply ifc h<;>intro a h
  ·obtain rfl:=sj h
   conv=>whnf
   try exact oX
  conv=>whnf
  exact⟨(kwr .i64 (D+1)),h,wk [0] []⟩
 conv=>whnf
 apply ifc h<;>intro a h
 ·conv=>whnf
  refine⟨id,id,?_⟩;conv=>whnf
  refine bq h fun _ P h=>⟨_,fun e=>(bC n _ _ _ (qa P e)),?_⟩;conv=>whnf
  refine⟨id,?_⟩;obtain rfl:=sj h;conv=>whnf
  try exact oX
 conv=>whnf
 apply ifc h<;>intro a h
 ·conv=>whnf
  refine bq h fun _ R h=>⟨_,(uc n _ _ R),?_⟩;conv=>whnf
  refine⟨id,id,?_⟩;conv=>whnf
  refine bq h fun _ Q h=>⟨_,fun e=>(vJ n _ _ (qa Q e)),?_⟩;conv=>whnf
  refine⟨id,?_⟩;obtain rfl:=sj h;conv=>whnf
  try exact oX
 conv=>whnf
 refine gW.cut (S:=Bool) (fun G=>[(1,.ptr 0 0),(26,pI b),(48,pB G)]) (fun G=>[.box 47 [pI b,pP s,pE u,pI v,pS w,pI x,pB y,pI z,pS A,pV f,pT g,pT i,pE j,pS k,pA l,pB m,pO o,pE p,pE q,pU c,pT d,pB t]]) (uj n b s u v w x y z A f g i j k l m o p q c d t) (r:=r) ?_ ?_
 ·intro G h
  unfold uj at h;conv=>whnf
  apply ifc h<;>intro a h
  ·conv=>whnf
   refine bq h fun _ U h=>⟨_,(BZ n _ _ U),?_⟩;conv=>whnf
   refine⟨id,id,?_⟩;conv=>whnf
   refine bq h fun _ T h=>⟨_,fun e=>(bC n _ _ _ (qa T e)),?_⟩;conv=>whnf
   refine⟨id,?_⟩;obtain rfl:=sj h;conv=>whnf
   try exact oX
  conv=>whnf
  apply ifc h<;>intro a h
  ·obtain rfl:=sj h
   conv=>whnf
   try exact oX
  conv=>whnf
  apply ifc h<;>intro a h
  ·conv=>whnf
   refine⟨id,id,?_⟩;conv=>whnf
   refine bq h fun⟨_,_⟩ V h=>⟨_,fun e=>Codec.at_ Qc (qa V e),?_⟩;conv=>whnf
   refine⟨id,id,id,id,id,?_⟩;obtain rfl:=sj h;conv=>whnf
   try exact oX
  conv=>whnf
  refine gW.cut (S:=Bool) (fun H=>[(1,.ptr 0 0),(26,pI b),(79,pB H)]) (fun H=>[.box 47 [pI b,pP s,pE u,pI v,pS w,pI x,pB y,pI z,pS A,pV f,pT g,pT i,pE j,pS k,pA l,pB m,pO o,pE p,pE q,pU c,pT d,pB t]]) (uk n c b d) (r:=r) ?_ ?_
  ·intro H h
   unfold uk at h;conv=>whnf
   apply ifc h<;>intro a h
   ·conv=>whnf
    refine qP.fn [1000000] (S:=Int) (fun E=>[(1,.ptr 0 0),(4,pI E)]) (fun E=>[.box 47 [pI b,pP s,pE u,pI v,pS w,pI x,pB y,pI z,pS A,pV f,pT g,pT i,pE j,pS k,pA l,pB m,pO o,pE p,pE q,pU c,pT d,pB t]]) (B:=db n c b) h (wk [0] []) ?_;intro _ E h;unfold db at h;(conv=>whnf);apply ifc h<;>intro a h
    ·conv=>whnf
     refine bq h fun⟨_,_,_,⟨_,_,⟨_,_,_,_,_,_⟩,_,_⟩⟩ J h=>⟨_,Codec.at_ pQ J,?_⟩;(conv=>whnf);refine bq h fun _ W h=>⟨_,(GI n _ _ _ W),?_⟩;(conv=>whnf);apply ifc h<;>intro a h
     ·obtain rfl:=sj h
      conv=>whnf
      try exact oX
     (conv=>whnf);exact⟨(kwr .i64 (E+1)),h,wk [0] []⟩
    obtain rfl:=sj h;conv=>whnf
    try exact oX
   conv=>whnf
   apply ifc h<;>intro a h
   ·conv=>whnf
    refine qP.fn [1000000] (S:=Int) (fun F=>[(1,.ptr 0 0),(5,pI F)]) (fun F=>[.box 47 [pI b,pP s,pE u,pI v,pS w,pI x,pB y,pI z,pS A,pV f,pT g,pT i,pE j,pS k,pA l,pB m,pO o,pE p,pE q,pU c,pT d,pB t]]) (B:=gQ n d) h (wk [0] []) ?_;intro _ F h;unfold gQ at h;(conv=>whnf);apply ifc h<;>intro a h
    ·conv=>whnf
     refine bq h fun _ L h=>⟨_,Codec.at_ cV L,?_⟩;(conv=>whnf);refine bq h fun _ K h=>⟨_,(vJ n _ _ K),?_⟩;(conv=>whnf);apply ifc h<;>intro a h
     ·obtain rfl:=sj h
      conv=>whnf
      try exact oX
     (conv=>whnf);exact⟨(kwr .i64 (F+1)),h,wk [0] []⟩
    obtain rfl:=sj h;conv=>whnf
    try exact oX
   obtain rfl:=sj h;conv=>whnf
   try exact oX
  conv=>whnf
  apply ifc h<;>intro a h
  ·conv=>whnf
   exact⟨(b==6),h,wk [0] []⟩
  conv=>whnf
  exact⟨(b==7),h,wk [0] []⟩
 conv=>whnf
 apply ifc h<;>intro a h
 ·conv=>whnf
  exact⟨(b==3),h,wk [0] []⟩
 conv=>whnf
 exact⟨(b==9),h,wk [0] []⟩
abbrev CI (r:Bool):PV:=PV.bool r
def pb (n:Nat) (a:Int):Option (Bool):=
 some (bif(bif(bif(bif(a==4)then true else(a==5))then true else(a==6))then true else(a==7))then true else(a==8))
theorem Qq (n:Nat):∀ (a:Int) (r:Bool),pb n a=some r->qc TP 43 [PV.int .i64 a] (CI r):=by
 intro a r h;unfold pb at h;refine zN Tryz.call43 Tryz.func43 [1000000] ?_;conv=>whnf
 iterate 8 refine⟨id,?_⟩
 obtain rfl:=sj h;conv=>whnf
 try exact oX
abbrev Lx (r:Bool):PV:=PV.bool r
def bT (n:Nat) (a:List qy):LK (Int) (Bool):=fun e b=>
 bif(decide (b<((qy.rows a).length:Int)))then(
 bnd (idx a b) fun⟨y,z,A,⟨B,C,⟨E,F,f,g,i,j⟩,k,l⟩,m,o,p,q,s,t,u,v,w⟩=>
 bnd (fe n (qy.mk y z A (qd.mk B C (Val.mk E F f g i j) k l) m o p q s t u v w)) fun d=>
 bnd (qE (!(!d)) (idx a b)) fun⟨x,_,_,⟨_,_,⟨_,_,_,_,_,_⟩,_,_⟩,_,_,_,_,_,_,_,_,_⟩=>
 bif(bif(!d)then true else(bif(x==9)then(decide ((kwr .i64 (b+1))<((qy.rows a).length:Int)))else false))then(
 some false)
 else(
 e (kwr .i64 (b+1))))
 else(
 bnd (qE (bif(decide (((qy.rows a).length:Int)>0))then(decide (((qy.rows a).length:Int)<=64))else false) (idx a (kwr .i64 (((qy.rows a).length:Int) - 1)))) fun⟨c,_,_,⟨_,_,⟨_,_,_,_,_,_⟩,_,_⟩,_,_,_,_,_,_,_,_,_⟩=>
 bnd (qE ((bif(decide (((qy.rows a).length:Int)>0))then(decide (((qy.rows a).length:Int)<=64))else false)&&(!(c==9))) (idx a (kwr .i64 (((qy.rows a).length:Int) - 1)))) fun⟨D,_,_,⟨_,_,⟨_,_,_,_,_,_⟩,_,_⟩,_,_,_,_,_,_,_,_,_⟩=>
 bnd (qE ((bif(decide (((qy.rows a).length:Int)>0))then(decide (((qy.rows a).length:Int)<=64))else false)&&(!(c==9))) (pb n D)) fun G=>
 some (bif(bif(decide (((qy.rows a).length:Int)>0))then(decide (((qy.rows a).length:Int)<=64))else false)then(bif(c==9)then true else G)else false))
def sg (n:Nat) (a:UX):Option (Bool):=
 match a with
 | ⟨b⟩=>
 qC (bT n b) n (0:Int)
theorem VV (n:Nat):∀ (b:UX) (r:Bool),sg n b=some r->qc TP 20 [PV.agg (lx.cells b)] (Lx r):=by
 intro b r h;obtain⟨d⟩:=b;unfold sg at h;refine zN Tryz.call20 Tryz.func20 [1000000] ?_;conv=>whnf
 refine qP.fn [1000000] (S:=Int) (fun c=>[(1,.ptr 0 0),(3,.p (.int .i64 ((qy.rows d).length:Int))),(4,pI c)]) (fun c=>[.box 67 [pC d]]) (B:=bT n d) h (wk [0] []) ?_;intro _ c h;unfold bT at h;conv=>whnf
 apply ifc h<;>intro l h
 ·conv=>whnf
  refine bq h fun⟨_,_,_,⟨_,_,⟨_,_,_,_,_,_⟩,_,_⟩,_,_,_,_,_,_,_,_,_⟩ g h=>⟨_,Codec.at_ ub g,?_⟩;conv=>whnf
  refine bq h fun _ f h=>⟨_,(Xw n _ _ f),?_⟩;conv=>whnf
  refine⟨id,id,id,?_⟩;conv=>whnf
  refine bq h fun⟨_,_,_,⟨_,_,⟨_,_,_,_,_,_⟩,_,_⟩,_,_,_,_,_,_,_,_,_⟩ e h=>⟨_,fun a=>Codec.at_ ub (qa e a),?_⟩;conv=>whnf
  iterate 10 refine⟨id,?_⟩
  conv=>whnf
  apply ifc h<;>intro l h
  ·obtain rfl:=sj h
   conv=>whnf
   try exact oX
  conv=>whnf
  exact⟨(kwr .i64 (c+1)),h,wk [0] []⟩
 conv=>whnf
 iterate 6 refine⟨id,?_⟩
 conv=>whnf
 refine bq h fun⟨_,_,_,⟨_,_,⟨_,_,_,_,_,_⟩,_,_⟩,_,_,_,_,_,_,_,_,_⟩ k h=>⟨_,fun a=>Codec.at_ ub (qa k a),?_⟩;conv=>whnf
 iterate 8 refine⟨id,?_⟩
 conv=>whnf
 refine bq h fun⟨_,_,_,⟨_,_,⟨_,_,_,_,_,_⟩,_,_⟩,_,_,_,_,_,_,_,_,_⟩ j h=>⟨_,fun a=>Codec.at_ ub (qa j a),?_⟩;conv=>whnf
 refine⟨id,id,id,?_⟩;conv=>whnf
 refine bq h fun _ i h=>⟨_,fun a=>(Qq n _ _ (qa i a)),?_⟩;conv=>whnf
 refine⟨id,id,id,?_⟩;obtain rfl:=sj h;conv=>whnf
 try exact oX
abbrev Vv (r:Bool):PV:=PV.bool r
def vr (n:Nat) (F:Given) (G:qy):Option (Bool):=
 match F,G with
 | ⟨⟨H,L⟩,⟨⟨a,b⟩,⟨O,P⟩⟩,⟨Q,R,S,I,J,K⟩⟩,⟨e,f,g,⟨i,j,⟨k,l,m,o,p,q⟩,s,t⟩,u,v,w,x,y,z,A,B,C⟩=>
 bnd (qE (!(bif(decide (((Node.rows a).length:Int)>100))then true else(decide (((Edge.rows b).length:Int)>100)))) (Qy n (State.mk (Graph.mk a b) (cG.mk O P)))) fun c=>
 bnd (qE (!(bif(bif(decide (((Node.rows a).length:Int)>100))then true else(decide (((Edge.rows b).length:Int)>100)))then true else(!c))) (sv n (Graph.mk a b))) fun d=>
 bnd (qE (!(bif(bif(bif(decide (((Node.rows a).length:Int)>100))then true else(decide (((Edge.rows b).length:Int)>100)))then true else(!c))then true else(!d))) (bW n (Env.mk H L))) fun D=>
 bnd (qE (!(bif(bif(bif(bif(decide (((Node.rows a).length:Int)>100))then true else(decide (((Edge.rows b).length:Int)>100)))then true else(!c))then true else(!d))then true else(!D))) (fi n (Val.mk Q R S I J K))) fun M=>
 bif(bif(bif(bif(bif(bif(decide (((Node.rows a).length:Int)>100))then true else(decide (((Edge.rows b).length:Int)>100)))then true else(!c))then true else(!d))then true else(!D))then true else(!M))then(
 some false)
 else(
 bnd (ns n (UX.mk [qy.mk e f g (qd.mk i j (Val.mk k l m o p q) s t) u v w x y z A B C])) fun E=>
 bnd (qE (!E) (sg n (UX.mk [qy.mk e f g (qd.mk i j (Val.mk k l m o p q) s t) u v w x y z A B C]))) fun N=>
 some (bif(!E)then N else false))
theorem Xt (n:Nat):∀ (b:Given) (c:qy) (r:Bool),vr n b c=some r->qc TP 5 [PV.agg (XM.cells b),PV.agg (ub.cells c)] (Vv r):=by
 intro b c r h;obtain⟨⟨_,_⟩,⟨⟨_,_⟩,⟨_,_⟩⟩,⟨_,_,_,_,_,_⟩⟩:=b;obtain⟨d,e,f,⟨g,i,⟨j,k,l,m,o,p⟩,q,s⟩,t,u,v,w,x,y,z,A,B⟩:=c;unfold vr at h;refine zN Tryz.call5 Tryz.func5 [1000000] ?_;conv=>whnf
 iterate 8 refine⟨id,?_⟩
 conv=>whnf
 refine bq h fun _ H h=>⟨_,fun a=>(Ex n _ _ (qa H a)),?_⟩;conv=>whnf
 refine⟨id,id,id,id,id,?_⟩;conv=>whnf
 refine bq h fun _ G h=>⟨_,fun a=>(Db n _ _ (qa G a)),?_⟩;conv=>whnf
 refine⟨id,id,id,id,?_⟩;conv=>whnf
 refine bq h fun _ F h=>⟨_,fun a=>(GM n _ _ (qa F a)),?_⟩;conv=>whnf
 refine⟨id,id,id,id,?_⟩;conv=>whnf
 refine bq h fun _ E h=>⟨_,fun a=>(Xz n _ _ (qa E a)),?_⟩;conv=>whnf
 refine⟨id,id,?_⟩;conv=>whnf
 apply ifc h<;>intro _ h
 ·obtain rfl:=sj h
  conv=>whnf
  try exact oX
 conv=>whnf
 refine⟨Codec.one ub [qy.mk d e f (qd.mk g i (Val.mk j k l m o p) q s) t u v w x y z A B],qy.rows [qy.mk d e f (qd.mk g i (Val.mk j k l m o p) q s) t u v w x y z A B],.inl rfl,?_⟩;conv=>whnf
 refine bq h fun _ D h=>⟨_,(Cs n _ _ D),?_⟩;conv=>whnf
 refine⟨id,?_⟩;conv=>whnf
 refine bq h fun _ C h=>⟨_,fun a=>(VV n _ _ (qa C a)),?_⟩;conv=>whnf
 refine⟨id,?_⟩;obtain rfl:=sj h;conv=>whnf
 try exact oX
abbrev CE (r:Bool):PV:=PV.bool r
def nn (n:Nat) (a:SS):LK (Int) (Bool):=fun d b=>
 bif(decide (b<((a.length:Nat):Int)))then(
 bnd (idx a b) fun c=>
 bnd (qE (!(decide (((c.toNat:Nat):Int)<48))) (idx a b)) fun e=>
 bif(bif(decide (((c.toNat:Nat):Int)<48))then true else(decide (((e.toNat:Nat):Int)>57)))then(
 some false)
 else(
 d (kwr .i64 (b+1))))
 else(
 some (decide (((a.length:Nat):Int)>0)))
def Ql (n:Nat) (a:SS):Option (Bool):=
 qC (nn n a) n (0:Int)
theorem GA (n:Nat):∀ (a:SS) (r:Bool),Ql n a=some r->qc TP 167 [PV.str a] (CE r):=by
 intro a r h;unfold Ql at h;refine zN Tryz.call167 Tryz.func167 [1000000] ?_;conv=>whnf
 refine qP.fn [1000000] (S:=Int) (fun b=>[(0,pS a),(3,pI b)]) (fun b=>[]) (B:=nn n a) h (wk [] []) ?_;intro _ b h;unfold nn at h;conv=>whnf
 apply ifc h<;>intro e h
 ·conv=>whnf
  refine bq h fun _ d h=>⟨_,zM d,?_⟩;conv=>whnf
  refine⟨id,id,?_⟩;conv=>whnf
  refine bq h fun _ c h=>⟨_,fun f=>zM (qa c f),?_⟩;conv=>whnf
  refine⟨id,id,?_⟩;conv=>whnf
  apply ifc h<;>intro e h
  ·obtain rfl:=sj h
   conv=>whnf
   try exact oX
  conv=>whnf
  exact⟨(kwr .i64 (b+1)),h,wk [] []⟩
 obtain rfl:=sj h;conv=>whnf
 try exact oX
abbrev Lr (r:Int×Int):PV:=PV.tup [PV.int .i64 r.1,PV.int .i64 r.2]
def GB (n:Nat) (b a:Int):Option (Int×Int):=
 bif(bif(b==0)then true else(a==0))then(
 some ((0:Int),(0:Int)))
 else(
 bif(bif(bif(b==(-1:Int))then(a==(-9223372036854775808:Int))else false)then true else(bif(a==(-1:Int))then(b==(-9223372036854775808:Int))else false))then(
 some ((0:Int),(4:Int)))
 else(
 chk (decide (a≠0)) (
 bif((kwr .i64 (Int.tdiv (kwr .i64 (b * a)) a)) != b)then(
 some ((0:Int),(4:Int)))
 else(
 some ((kwr .i64 (b * a)),(0:Int))))))
theorem Es (n:Nat):∀ (b a:Int) (r:Int×Int),GB n b a=some r->qc TP 168 [PV.int .i64 b,PV.int .i64 a] (Lr r):=by
 intro b a r h;unfold GB at h;refine zN Tryz.call168 Tryz.func168 [1000000] ?_;conv=>whnf
 refine⟨id,id,?_⟩;conv=>whnf
 apply ifc h<;>intro c h
 ·obtain rfl:=sj h
  conv=>whnf
  try exact oX
 conv=>whnf
 iterate 8 refine⟨id,?_⟩
 conv=>whnf
 apply ifc h<;>intro c h
 ·obtain rfl:=sj h
  conv=>whnf
  try exact oX
 conv=>whnf
 obtain⟨d,h⟩:=qb h;refine⟨(kod d:a≠0),?_⟩;conv=>whnf
 apply ifc h<;>intro c h
 ·obtain rfl:=sj h
  conv=>whnf
  try exact oX
 obtain rfl:=sj h;conv=>whnf
 try exact oX
abbrev Lq (r:Int×Int):PV:=PV.tup [PV.int .i64 r.1,PV.int .i64 r.2]
def Gz (n:Nat) (b a:Int):Option (Int×Int):=
 bif(bif(bif(decide (a>0))then(decide (b>(kwr .i64 ((9223372036854775807:Int) - a))))else false)then true else(bif(decide (a<0))then(decide (b<(kwr .i64 ((-9223372036854775808:Int) - a))))else false))then(
 some ((0:Int),(4:Int)))
 else(
 some ((kwr .i64 (b+a)),(0:Int)))
theorem Er (n:Nat):∀ (a b:Int) (r:Int×Int),Gz n a b=some r->qc TP 169 [PV.int .i64 a,PV.int .i64 b] (Lq r):=by
 intro a b r h;unfold Gz at h;refine zN Tryz.call169 Tryz.func169 [1000000] ?_;conv=>whnf
 iterate 12 refine⟨id,?_⟩
 conv=>whnf
 apply ifc h<;>intro _ h
 ·obtain rfl:=sj h
  conv=>whnf
  try exact oX
 obtain rfl:=sj h;conv=>whnf
 try exact oX
end W
end
