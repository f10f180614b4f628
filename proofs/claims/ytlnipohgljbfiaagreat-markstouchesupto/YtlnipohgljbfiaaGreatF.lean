/- A part of the proof: contracts, printed by program. -/
import Derived.Test.YtlnipohgljbfiaaGreatB
import Derived.Test.YtlnipohgljbfiaaGreatC
import Derived.Test.YtlnipohgljbfiaaGreatD
import Derived.Test.YtlnipohgljbfiaaGreatE
set_option linter.unusedVariables false
set_option linter.unusedSimpArgs false
set_option linter.unnecessarySimpa false
set_option linter.deprecated false
set_option linter.unusedSectionVars false
set_option linter.constructorNameAsVariable false
open Go.IntKind renaming wrap->kwr,bits->kbt
section
set_option maxRecDepth 100000
set_option maxHeartbeats 4000000
open Go Go.Proofs Ax
namespace W
abbrev XF (r:Bool):PV:=PV.bool r
def vn (n:Nat) (c:List qt) (k:List qy):LK (Int) (Bool):=fun d a=>
 bif(decide (a<((qt.rows c).length:Int)))then(
 bnd (idx c a) fun⟨l,m,o,p⟩=>
 bnd (vO n (qt.mk l m o p)) fun b=>
 bnd (qD ((!(!b))&&(decide (a>0))) (idx k (kwr .i64 (a - 1)))) fun⟨q,e,f,g,i⟩=>
 bnd (qD ((!(!b))&&(decide (a>0))) (vr n (qy.mk q e f g i))) fun j=>
 bif(bif(!b)then true else(bif(decide (a>0))then(!j)else false))then(
 some false)
 else(
 d (kwr .i64 (a+1))))
 else(
 some true)
def cu (n:Nat) (c:zx):Option (Bool):=
 match c with
 | ⟨a,b⟩=>
 bif(((qt.rows a).length:Int) != (kwr .i64 (((qy.rows b).length:Int)+1)))then(
 some false)
 else(
 qo (vn n a b) n (0:Int))
theorem CP (n:Nat):∀ (a:zx) (r:Bool),cu n a=some r->qb TP 290 [PV.agg (pb.cells a)] (XF r):=by
 intro a r h;obtain⟨d,f⟩:=a;unfold cu at h;refine zN Tryz.call290 Tryz.func290 [1000000] ?_;conv=>whnf
 apply ifc h<;>intro e h
 ·obtain rfl:=sj h
  conv=>whnf
  try exact fin
 conv=>whnf
 refine qX.fn [1000000] (S:=Int) (fun b=>[(1,.ptr 0 0),(14,.p (.int .i64 ((qt.rows d).length:Int))),(15,pI b)]) (fun b=>[.box 207 [pN d,pG f]]) (B:=vn n d f) h (wk [0] []) ?_;intro _ b h;unfold vn at h;conv=>whnf
 apply ifc h<;>intro e h
 ·conv=>whnf
  refine bq h fun⟨_,_,_,_⟩ k h=>⟨_,Codec.at_ gO k,?_⟩;conv=>whnf
  refine bq h fun _ j h=>⟨_,(CO n _ _ j),?_⟩;conv=>whnf
  iterate 6 refine⟨id,?_⟩
  conv=>whnf
  refine bq h fun⟨_,_,_,_,_⟩ i h=>⟨_,fun c=>Codec.at_ cZ (qa i c),?_⟩;conv=>whnf
  refine⟨id,id,?_⟩;conv=>whnf
  refine bq h fun _ g h=>⟨_,fun c=>(CL n _ _ (qa g c)),?_⟩;conv=>whnf
  refine⟨id,id,id,id,?_⟩;conv=>whnf
  apply ifc h<;>intro e h
  ·obtain rfl:=sj h
   conv=>whnf
   try exact fin
  conv=>whnf
  exact⟨(kwr .i64 (b+1)),h,wk [0] []⟩
 obtain rfl:=sj h;conv=>whnf
 try exact fin
abbrev Da (r:Bool):PV:=PV.bool r
def gX (n:Nat) (a:qe):Option (Bool):=
 match a with
 | ⟨b,e,⟨f,g,i,j,k,l⟩,m,c⟩=>
 bnd (zT n (qe.mk b e (Val.mk f g i j k l) m c) (32:Int)) fun d=>
 some d
theorem sL (n:Nat):∀ (a:qe) (r:Bool),gX n a=some r->qb TP 305 [PV.agg (zX.cells a)] (Da r):=by
 intro a r h;obtain⟨_,_,⟨_,_,_,_,_,_⟩,_,_⟩:=a;unfold gX at h;refine zN Tryz.call305 Tryz.func305 [1000000] ?_;conv=>whnf
 refine bq h fun _ b h=>⟨_,(Ze n _ _ _ b),?_⟩;obtain rfl:=sj h;conv=>whnf
 try exact fin
abbrev Db (r:Bool):PV:=PV.bool r
def sy (n:Nat) (b:xM):Option (Bool):=
 match b with
 | ⟨⟨c,g,⟨i,j,k,l,m,o⟩,p,d⟩,e⟩=>
 bnd (vP n e) fun a=>
 bnd (qD a (gX n (qe.mk c g (Val.mk i j k l m o) p d))) fun f=>
 some (bif a then f else false)
theorem CM (n:Nat):∀ (a:xM) (r:Bool),sy n a=some r->qb TP 307 [PV.agg (VE.cells a)] (Db r):=by
 intro a r h;obtain⟨⟨_,_,⟨_,_,_,_,_,_⟩,_,_⟩,_⟩:=a;unfold sy at h;refine zN Tryz.call307 Tryz.func307 [1000000] ?_;conv=>whnf
 refine bq h fun _ c h=>⟨_,(uK n _ _ c),?_⟩;conv=>whnf
 refine⟨id,id,?_⟩;conv=>whnf
 refine bq h fun _ b h=>⟨_,fun d=>(sL n _ _ (qa b d)),?_⟩;conv=>whnf
 refine⟨id,?_⟩;obtain rfl:=sj h;conv=>whnf
 try exact fin
abbrev Cj (r:Bool):PV:=PV.bool r
def nn (n:Nat) (a:qS):Option (Bool):=
 match a with
 | ⟨⟨b,e,⟨f,g,i,j,k,l⟩,m,c⟩,_⟩=>
 bnd (gX n (qe.mk b e (Val.mk f g i j k l) m c)) fun d=>
 some d
theorem Gs (n:Nat):∀ (a:qS) (r:Bool),nn n a=some r->qb TP 309 [PV.agg (Za.cells a)] (Cj r):=by
 intro a r h;obtain⟨⟨_,_,⟨_,_,_,_,_,_⟩,_,_⟩,_⟩:=a;unfold nn at h;refine zN Tryz.call309 Tryz.func309 [1000000] ?_;conv=>whnf
 refine bq h fun _ b h=>⟨_,(sL n _ _ b),?_⟩;obtain rfl:=sj h;conv=>whnf
 try exact fin
abbrev Dc (r:Bool):PV:=PV.bool r
def sz (n:Nat) (a:SS):Option (Bool):=
 bnd (vP n a) fun b=>
 some b
theorem CN (n:Nat):∀ (a:SS) (r:Bool),sz n a=some r->qb TP 311 [PV.str a] (Dc r):=by
 intro a r h;unfold sz at h;refine zN Tryz.call311 Tryz.func311 [1000000] ?_;conv=>whnf
 refine bq h fun _ b h=>⟨_,(uK n _ _ b),?_⟩;obtain rfl:=sj h;conv=>whnf
 try exact fin
abbrev Ci (r:Bool):PV:=PV.bool r
def gN (n:Nat) (o:Xw):Option (Bool):=
 match o with
 | ⟨⟨p,a,f,⟨g,i,⟨j,k,l,m,b,c⟩,d,e⟩⟩,q⟩=>
 bnd (vP n p) fun s=>
 bif(bif(bif(!s)then true else((a==([]:SS))==(f==([]:SS))))then true else(decide ((kwr .i64 (((a.length:Nat):Int)+((f.length:Nat):Int)))>64)))then(
 some false)
 else(
 bif(bif q then(!(a==([]:SS)))else false)then(
 bnd (zT n (qe.mk g i (Val.mk j k l m b c) d e) (32:Int)) fun t=>
 some t)
 else(
 bnd (cT n (qe.mk g i (Val.mk j k l m b c) d e)) fun u=>
 some u))
theorem Gr (n:Nat):∀ (a:Xw) (r:Bool),gN n a=some r->qb TP 313 [PV.agg (qmm.cells a)] (Ci r):=by
 intro a r h;obtain⟨⟨_,_,_,⟨_,_,⟨_,_,_,_,_,_⟩,_,_⟩⟩,_⟩:=a;unfold gN at h;refine zN Tryz.call313 Tryz.func313 [1000000] ?_;conv=>whnf
 refine bq h fun _ d h=>⟨_,(uK n _ _ d),?_⟩;conv=>whnf
 iterate 19 refine⟨id,?_⟩
 conv=>whnf
 apply ifc h<;>intro e h
 ·obtain rfl:=sj h
  conv=>whnf
  try exact fin
 conv=>whnf
 refine⟨id,id,id,id,?_⟩;conv=>whnf
 apply ifc h<;>intro e h
 ·conv=>whnf
  refine bq h fun _ b h=>⟨_,(Ze n _ _ _ b),?_⟩;obtain rfl:=sj h;conv=>whnf
  try exact fin
 conv=>whnf
 refine bq h fun _ c h=>⟨_,(UH n _ _ c),?_⟩;obtain rfl:=sj h;conv=>whnf
 try exact fin
def tc (n:Nat):zr->Option (Bool)
 | .path x=>cu n x
 | .expr x=>gX n x
 | .item x=>sy n x
 | .sorted x=>nn n x
 | .name x=>sz n x
 | .change x=>gN n x
def Hi:zr->FuncId
 | .path _=>290
 | .expr _=>305
 | .item _=>307
 | .sorted _=>309
 | .name _=>311
 | .change _=>313
theorem SI (n:Nat):∀ (x:zr) (r:Bool),tc n x=some r->qaw TP x.tid "wattle/spell.may" (Hi x)/\qb TP (Hi x) [x.val] (XF r)
 | .path x,r,h=>⟨fun _ _=>rfl,CP n x r h⟩
 | .expr x,r,h=>⟨fun _ _=>rfl,sL n x r h⟩
 | .item x,r,h=>⟨fun _ _=>rfl,CM n x r h⟩
 | .sorted x,r,h=>⟨fun _ _=>rfl,Gs n x r h⟩
 | .name x,r,h=>⟨fun _ _=>rfl,CN n x r h⟩
 | .change x,r,h=>⟨fun _ _=>rfl,Gr n x r h⟩
abbrev MO (r:Bool):PV:=PV.bool r
def gW (n:Nat) (b:List zr) (c:Int->Option (Bool)) (e:Int):LK (Int) (Bool):=fun d a=>
 bif(decide (a<((zr.rows b).length:Int)))then(
 bnd (idx b a) fun f=>
 bnd (tc n f) fun g=>
 bif(!g)then(
 some false)
 else(
 d (kwr .i64 (a+1))))
 else(
 c (kwr .i64 (e+1)))
def gV (n:Nat) (c:List qR) (d:Int->Option (Bool)) (f:Int):LK (Int) (Bool):=fun e a=>
 bif(decide (a<((qR.rows c).length:Int)))then(
 bnd (idx c a) fun⟨_,b,g,i⟩=>
 bif(bif(decide (((zr.rows b).length:Int)<g))then true else(decide (((zr.rows b).length:Int)>i)))then(
 some false)
 else(
 qo (gW n b e a) n (0:Int)))
 else(
 d (kwr .i64 (f+1)))
def uI (n:Nat) (b:List qd):LK (Int) (Bool):=fun e a=>
 bif(decide (a<((qd.rows b).length:Int)))then(
 bnd (idx b a) fun⟨c,f,g,⟨i,j,⟨k,l,m,o,p,q⟩,s,t⟩,u,v,w,x,y,z,A,B,C⟩=>
 bnd (mW n (qd.mk c f g (qe.mk i j (Val.mk k l m o p q) s t) u v w x y z A B C)) fun⟨d,D⟩=>
 bif(bif(bif(!D)then true else(((qR.rows d).length:Int)==0))then true else(bif(c==9)then(decide ((kwr .i64 (a+1))<((qd.rows b).length:Int)))else false))then(
 some false)
 else(
 qo (gV n d e a) n (0:Int)))
 else(
 some true)
def pZ (n:Nat) (c:bu):Option (Bool):=
 match c with
 | ⟨a⟩=>
 bnd (qD (!(bif(decide (((qd.rows a).length:Int)<1))then true else(decide (((qd.rows a).length:Int)>64)))) (idx a (kwr .i64 (((qd.rows a).length:Int) - 1)))) fun⟨d,_,_,⟨_,_,⟨_,_,_,_,_,_⟩,_,_⟩,_,_,_,_,_,_,_,_,_⟩=>
 bnd (qD (!(bif(decide (((qd.rows a).length:Int)<1))then true else(decide (((qd.rows a).length:Int)>64)))) (Qu n d)) fun b=>
 bnd (qD ((!(bif(decide (((qd.rows a).length:Int)<1))then true else(decide (((qd.rows a).length:Int)>64))))&&(!b)) (idx a (kwr .i64 (((qd.rows a).length:Int) - 1)))) fun⟨e,_,_,⟨_,_,⟨_,_,_,_,_,_⟩,_,_⟩,_,_,_,_,_,_,_,_,_⟩=>
 bif(bif(bif(decide (((qd.rows a).length:Int)<1))then true else(decide (((qd.rows a).length:Int)>64)))then true else(bif(!b)then(e != 9)else false))then(
 some false)
 else(
 qo (uI n a) n (0:Int))
theorem HV (n:Nat):∀ (g:bu) (r:Bool),pZ n g=some r->qb TP 55 [PV.agg (Cn.cells g)] (MO r):=by
 intro g r h;obtain⟨a⟩:=g;unfold pZ at h;refine zN Tryz.call55 Tryz.func55 [1000000] ?_;conv=>whnf
 iterate 6 refine⟨id,?_⟩
 conv=>whnf
 refine bq h fun⟨_,_,_,⟨_,_,⟨_,_,_,_,_,_⟩,_,_⟩,_,_,_,_,_,_,_,_,_⟩ u h=>⟨_,fun e=>Codec.at_ xN (qa u e),?_⟩;conv=>whnf
 refine⟨id,id,id,?_⟩;conv=>whnf
 refine bq h fun _ t h=>⟨_,fun e=>(Ef n _ _ (qa t e)),?_⟩;conv=>whnf
 iterate 6 refine⟨id,?_⟩
 conv=>whnf
 refine bq h fun⟨_,_,_,⟨_,_,⟨_,_,_,_,_,_⟩,_,_⟩,_,_,_,_,_,_,_,_,_⟩ s h=>⟨_,fun e=>Codec.at_ xN (qa s e),?_⟩;conv=>whnf
 iterate 6 refine⟨id,?_⟩
 conv=>whnf
 apply ifc h<;>intro c h
 ·obtain rfl:=sj h
  conv=>whnf
  try exact fin
 conv=>whnf
 refine qX.fn [1000000] (S:=Int) (fun b=>[(3,.p (.int .i64 ((qd.rows a).length:Int))),(43,pC a),(44,.p (.int .i64 ((qd.rows a).length:Int))),(45,pI b)]) (fun b=>[]) (B:=uI n a) h (wk [] []) ?_;intro v b h;unfold uI at h;conv=>whnf
 apply ifc h<;>intro c h
 ·conv=>whnf
  refine bq h fun⟨_,_,_,⟨_,_,⟨_,_,_,_,_,_⟩,_,_⟩,_,_,_,_,_,_,_,_,_⟩ q h=>⟨_,Codec.at_ xN q,?_⟩;conv=>whnf
  refine bq h fun⟨f,_⟩ o h=>⟨_,(Ed n _ _ o),?_⟩;conv=>whnf
  iterate 12 refine⟨id,?_⟩
  conv=>whnf
  apply ifc h<;>intro c h
  ·obtain rfl:=sj h
   conv=>whnf
   try exact fin
  conv=>whnf
  refine qX.fn [1000000] (S:=Int) (fun d=>[(3,.p (.int .i64 ((qd.rows a).length:Int))),(43,pC a),(44,.p (.int .i64 ((qd.rows a).length:Int))),(45,pI b),(73,.p (.sl (qR.rows f))),(74,.p (.int .i64 ((qR.rows f).length:Int))),(75,pI d)]) (fun d=>[]) (B:=gV n f v b) h (wk [] []) ?_;intro w d h;unfold gV at h;conv=>whnf
  apply ifc h<;>intro c h
  ·conv=>whnf
   refine bq h fun⟨_,j,_,_⟩ m h=>⟨_,Codec.at_ Zn m,?_⟩;conv=>whnf
   iterate 6 refine⟨id,?_⟩
   conv=>whnf
   apply ifc h<;>intro c h
   ·obtain rfl:=sj h
    conv=>whnf
    try exact fin
   conv=>whnf
   refine qX.fn [1000000] (S:=Int) (fun i=>[(3,.p (.int .i64 ((qd.rows a).length:Int))),(43,pC a),(44,.p (.int .i64 ((qd.rows a).length:Int))),(45,pI b),(73,.p (.sl (qR.rows f))),(74,.p (.int .i64 ((qR.rows f).length:Int))),(75,pI d),(94,.p (.sl (zr.rows j))),(95,.p (.int .i64 ((zr.rows j).length:Int))),(96,pI i)]) (fun i=>[]) (B:=gW n j w d) h (wk [] []) ?_;intro _ i h;unfold gW at h;conv=>whnf
   apply ifc h<;>intro c h
   ·conv=>whnf
    refine bq h fun _ l h=>⟨_,Codec.at_ Qm l,?_⟩;(conv=>whnf);refine bq h fun _ k h=>⟨_,_,SI n _ _ k,?_⟩;(conv=>whnf);apply ifc h<;>intro c h
    ·obtain rfl:=sj h
     conv=>whnf
     try exact fin
    (conv=>whnf);exact⟨(kwr .i64 (i+1)),h,wk [] []⟩
   conv=>whnf
   exact⟨(kwr .i64 (d+1)),h,wk [] []⟩
  conv=>whnf
  exact⟨(kwr .i64 (b+1)),h,wk [] []⟩
 obtain rfl:=sj h;conv=>whnf
 try exact fin
abbrev Ca (_:List SS) (_:List (SS×Int)) (r:(List SS)×(List (SS×Int))):FV:=.p (.tup [])
abbrev FN (_:List SS) (_:List (SS×Int)) (r:(List SS)×(List (SS×Int))):List AObj:=[.box 118 [.tsl 2 (qi r.1),.mref 1],.mp .string (qH PV.str (PV.int .i64) r.2) none,.tail 9 1 (qi r.1).length]
def vY (n:Nat) (a:SS) (b:Int) (c:List (SS×Int)):List SS->Option ((List SS)×(List (SS×Int))):=fun d=>
 some (d,(db a b c))
def xb (n:Nat) (a:SS) (d:Int) (b:List SS) (c:List (SS×Int)):Option ((List SS)×(List (SS×Int))):=
 bif((va c a (0:Int))==0)then(
 chk (decide ((qi (b++[a])).length * 16<=140737488355328)) (
 vY n a d c (b++[a])))
 else(
 vY n a d c b)
theorem gA (n:Nat):∀ (a:SS) (d:Int) (b:List SS) (c:List (SS×Int)) (r:(List SS)×(List (SS×Int))),xb n a d b c=some r->vA TP 105 [.ptr 0 0,.p (PV.str a),.p (PV.int .i64 d)] [.box 118 [.tsl 2 (qi b),.mref 1],.mp .string (qH PV.str (PV.int .i64) c) none,.tail 9 1 (qi b).length] 2 (fun v lo=>v=Ca b c r/\lo=FN b c r):=by
 intro a d b c r h;unfold xb at h;refine zO Tryz.call105 Tryz.func105 [1000000] ?_;conv=>whnf
 refine cY.cut (S:=List SS) (fun e=>[(0,.ptr 0 0),(1,pS a),(2,pI d)]) (fun e=>[.box 118 [.tsl 2 (qi e),.mref 1],.mp .string (qH PV.str (PV.int .i64) c) none,.tail 9 1 (qi e).length]) (vY n a d c) (r:=r) ?_ ?_
 ·intro e h
  unfold vY at h;conv=>whnf
  refine⟨_,vz xD (PV.int .i64) a d c,?_⟩;obtain rfl:=sj h;conv=>whnf
  refine⟨_,_,⟨rfl,rfl⟩,wk [0,1,2] []⟩
 conv=>whnf
 refine⟨PV.int .i64 (va c a (0:Int)),(LI c a),⟨XO xD (PV.int .i64) c a (0:Int),XQ xD (PV.int .i64) c a⟩,?_⟩;conv=>whnf
 apply ifc h<;>intro _ h
 ·conv=>whnf
  refine⟨Codec.one cc [a],qi [a],.inl rfl,?_⟩;conv=>whnf
  rw[show qi b++qi [a]=qi (b++[a])from Codec.append cc b [a]];conv=>whnf
  obtain⟨f,h⟩:=qg h;refine⟨⟨Codec.wide cc (b++[a]),kod f,xj f (by decide)⟩,?_⟩;conv=>whnf
  refine⟨⟨rfl,rfl,rfl⟩,?_⟩;conv=>whnf
  exact⟨(b++[a]),h,wk [0,1,3] []⟩
 conv=>whnf
 exact⟨b,h,wk [0,1,2] []⟩
abbrev Cb (_:List SS) (_:List (SS×Int)) (r:(List SS)×(List (SS×Int))):FV:=.ptr 3 0
abbrev FO (a:List SS) (b:List (SS×Int)) (r:(List SS)×(List (SS×Int))):List AObj:=[.box 118 [.tsl 2 (qi a),.mref 1],.mp .string (qH PV.str (PV.int .i64) b) none,.tail 9 1 (qi a).length,.box 118 [.tsl 5 (qi r.1),.mref 4],.mp .string (qH PV.str (PV.int .i64) r.2) none,.tail 9 1 (qi r.1).length]
def vZ (n:Nat) (b:List SS) (g:List (SS×Int)):LK (Int×List SS×List (SS×Int)) ((List SS)×(List (SS×Int))):=fun f (a,c,d)=>
 bif(decide (a<((qi b).length:Int)))then(
 bnd (idx b a) fun e=>
 bnd (xb n e (va g e (0:Int)) c d) fun⟨i,j⟩=>
 f ((kwr .i64 (a+1)),i,j))
 else(
 some (c,d))
def cM (n:Nat) (a:List SS) (b:List (SS×Int)):Option ((List SS)×(List (SS×Int))):=
 qo (vZ n a b) n ((0:Int),([]:List _),([]:List (SS×Int)))
theorem Gj (n:Nat):∀ (a:List SS) (b:List (SS×Int)) (r:(List SS)×(List (SS×Int))),cM n a b=some r->vA TP 171 [.ptr 0 0] [.box 118 [.tsl 2 (qi a),.mref 1],.mp .string (qH PV.str (PV.int .i64) b) none,.tail 9 1 (qi a).length] 2 (fun v lo=>v=Cb a b r/\lo=FO a b r):=by
 intro a b r h;unfold cM at h;refine zO Tryz.call171 Tryz.func171 [105,1000000] ?_;conv=>whnf
 refine qX.fn [105,1000000] (S:=Int×List SS×List (SS×Int)) (fun(c,d,f)=>[(0,.ptr 0 0),(3,.ptr 2 0),(12,.tsl 3 (qi a)),(13,.p (.int .i64 ((qi a).length:Int))),(14,pI c)]) (fun(c,d,f)=>[.box 118 [.tsl 3 (qi a),.mref 1],.mp .string (qH PV.str (PV.int .i64) b) none,.box 118 [.tsl 5 (qi d),.mref 4],.tail 9 1 (qi a).length,.mp .string (qH PV.str (PV.int .i64) f) none,.tail 9 1 (qi d).length]) (B:=vZ n a b) h (wk [0,1,4,2,3,0] [5]) ?_;intro _ st h;obtain⟨c,d,f⟩:=st;unfold vZ at h;conv=>whnf
 apply ifc h<;>intro _ h
 ·conv=>whnf
  refine bq h fun e k h=>⟨_,Codec.at_ cc k,?_⟩;conv=>whnf
  refine⟨PV.int .i64 (va b e (0:Int)),(LI b e),⟨XO xD (PV.int .i64) b e (0:Int),XQ xD (PV.int .i64) b e⟩,?_⟩;conv=>whnf
  refine bq h fun⟨g,i⟩ j h=>?_;refine Zd (gA n _ _ _ _ _ j) [2,4,5] [] ?_;rintro _ _ ⟨rfl,rfl⟩;refine⟨.p (.tup []),[.box 118 [.tsl 3 (qi a),.mref 1],.mp .string (qH PV.str (PV.int .i64) b) none,.box 118 [.tsl 6 (qi g),.mref 4],.tail 9 1 (qi a).length,.mp .string (qH PV.str (PV.int .i64) i) none,.dead,.tail 9 1 (qi g).length],rfl,rfl,?_⟩;conv=>whnf
  exact⟨((kwr .i64 (c+1)),g,i),h,wk [0,1,2,3,4,6] []⟩
 obtain rfl:=sj h;conv=>whnf
 refine⟨_,_,⟨rfl,rfl⟩,wk [0,1,3,2,4,5] []⟩
abbrev MM (r:Va):PV:=PV.agg (qoz.cells r)
def vq (n:Nat) (a:SS):Bool->Option (Va):=fun b=>
 bif b then(
 some (Va.mk (1:Int) (1:Int) (3:Int)))
 else(
 bif(a==([99,111,97,108,101,115,99,101]:SS))then(
 some (Va.mk (1:Int) (1048576:Int) (3:Int)))
 else(
 bif(a==([107,101,121,115]:SS))then(
 some (Va.mk (1:Int) (1:Int) (0:Int)))
 else(
 bif(a==([108,97,98,101,108,115]:SS))then(
 some (Va.mk (1:Int) (1:Int) (1:Int)))
 else(
 bif(a==([116,121,112,101]:SS))then(
 some (Va.mk (1:Int) (1:Int) (2:Int)))
 else(
 bif(a==([114,97,110,103,101]:SS))then(
 some (Va.mk (2:Int) (2:Int) (3:Int)))
 else(
 some (Va.mk (1:Int) (0:Int) (0:Int))))))))
def cL (n:Nat) (a:SS):Option (Va):=
 bif(a==([115,105,122,101]:SS))then(
 vq n a (a==([115,105,122,101]:SS)))
 else(
 bif(a==([97,98,115]:SS))then(
 vq n a (a==([97,98,115]:SS)))
 else(
 bif(a==([104,101,97,100]:SS))then(
 vq n a (a==([104,101,97,100]:SS)))
 else(
 bif(a==([108,97,115,116]:SS))then(
 vq n a (a==([108,97,115,116]:SS)))
 else(
 vq n a (a==([116,101,120,116]:SS))))))
theorem HT (n:Nat):∀ (a:SS) (r:Va),cL n a=some r->qb TP 223 [PV.str a] (MM r):=by
 intro a r h;unfold cL at h;refine zN Tryz.call223 Tryz.func223 [1000000] ?_;conv=>whnf
 refine cY.cut (S:=Bool) (fun c=>[(2,.ptr 0 0),(3,pS a),(4,pB c)]) (fun c=>[.box 273 [zq0,zq0,zq0]]) (vq n a) (r:=r) ?_ ?_
 ·intro c h
  unfold vq at h;conv=>whnf
  apply ifc h<;>intro b h
  ·obtain rfl:=sj h
   conv=>whnf
   try exact fin
  conv=>whnf
  apply ifc h<;>intro b h
  ·obtain rfl:=sj h
   conv=>whnf
   try exact fin
  conv=>whnf
  apply ifc h<;>intro b h
  ·obtain rfl:=sj h
   conv=>whnf
   try exact fin
  conv=>whnf
  apply ifc h<;>intro b h
  ·obtain rfl:=sj h
   conv=>whnf
   try exact fin
  conv=>whnf
  apply ifc h<;>intro b h
  ·obtain rfl:=sj h
   conv=>whnf
   try exact fin
  conv=>whnf
  apply ifc h<;>intro b h
  ·obtain rfl:=sj h
   conv=>whnf
   try exact fin
  obtain rfl:=sj h;conv=>whnf
  try exact fin
 conv=>whnf
 apply ifc h<;>intro b h
 ·conv=>whnf
  exact⟨(a==([115,105,122,101]:SS)),h,wk [0] []⟩
 conv=>whnf
 apply ifc h<;>intro b h
 ·conv=>whnf
  exact⟨(a==([97,98,115]:SS)),h,wk [0] []⟩
 conv=>whnf
 apply ifc h<;>intro b h
 ·conv=>whnf
  exact⟨(a==([104,101,97,100]:SS)),h,wk [0] []⟩
 conv=>whnf
 apply ifc h<;>intro b h
 ·conv=>whnf
  exact⟨(a==([108,97,115,116]:SS)),h,wk [0] []⟩
 conv=>whnf
 exact⟨(a==([116,101,120,116]:SS)),h,wk [0] []⟩
abbrev MN (r:Bool):PV:=PV.bool r
def ct (n:Nat) (a:List SS):LK (Int×List (SS×Int)) (Bool):=fun e (b,c)=>
 bif(decide (b<((qi a).length:Int)))then(
 bnd (idx a b) fun d=>
 e ((kwr .i64 (b+1)),(db d (kwr .i64 ((va c d (0:Int))+1)) c)))
 else(
 some (decide ((((c).length:Nat):Int)<((qi a).length:Int))))
def pW (n:Nat) (a:List SS):Option (Bool):=
 qo (ct n a) n ((0:Int),([]:List (SS×Int)))
theorem UG (n:Nat):∀ (c:List SS) (r:Bool),pW n c=some r->qb TP 225 [PV.sl (qi c)] (MN r):=by
 intro c r h;unfold pW at h;refine zN Tryz.call225 Tryz.func225 [1000000] ?_;conv=>whnf
 refine qX.fn [1000000] (S:=Int×List (SS×Int)) (fun(d,a)=>[(0,pT c),(3,.mref 0),(7,pT c),(8,.p (.int .i64 ((qi c).length:Int))),(9,pI d)]) (fun(d,a)=>[.mp .string (qH PV.str (PV.int .i64) a) none]) (B:=ct n c) h (wk [0] []) ?_;intro _ st h;obtain⟨d,a⟩:=st;unfold ct at h;conv=>whnf
 apply ifc h<;>intro _ h
 ·conv=>whnf
  refine bq h fun b e h=>⟨_,Codec.at_ cc e,?_⟩;conv=>whnf
  refine⟨PV.int .i64 (va a b (0:Int)),(LI a b),⟨XO xD (PV.int .i64) a b (0:Int),XQ xD (PV.int .i64) a b⟩,?_⟩;conv=>whnf
  refine⟨_,vz xD (PV.int .i64) b (kwr .i64 ((va a b (0:Int))+1)) a,?_⟩;conv=>whnf
  exact⟨((kwr .i64 (d+1)),(db b (kwr .i64 ((va a b (0:Int))+1)) a)),h,wk [0] []⟩
 conv=>whnf
 refine⟨(a).length,qgf PV.str (PV.int .i64) a,?_⟩;obtain rfl:=sj h;conv=>whnf
 try exact fin
abbrev bV (_:List SS) (_:List (SS×Int)) (r:Int):FV:=pI r
abbrev bU (a:List SS) (b:List (SS×Int)) (r:Int):List AObj:=[.box 118 [.tsl 2 (qi a),.mref 1],.mp .string (qH PV.str (PV.int .i64) b) none,.tail 9 1 (qi a).length]
def fe (n:Nat) (b:Int->Option (Int)) (c:Int):Int->Option (Int):=fun a=>
 bif(a != 0)then(
 some a)
 else(
 b (kwr .i64 (c+1)))
abbrev qli:Type:=qe->(List SS)->(List (SS×Int))->Option (Int×Int)
def uC (n:Nat) (c:List qe) (g173:qli) (o:List SS) (p:List (SS×Int)) (e:Int):LK (Int) (Int):=fun b a=>
 bif(decide (a<((qe.rows c).length:Int)))then(
 bnd (idx c a) fun⟨q,s,⟨t,u,f,g,i,j⟩,k,l⟩=>
 bnd (g173 (qe.mk q s (Val.mk t u f g i j) k l) o p) fun⟨m,d⟩=>
 bif(bif(bif(d==0)then(e != 0)else false)then(m != e)else false)then(
 fe n b a (3:Int))
 else(
 fe n b a d))
 else(
 some (0:Int))
abbrev qlj:Type:=(List qe)->Int->(List SS)->(List (SS×Int))->Option (Int)
abbrev qlk:Type:=qe->(List SS)->(List (SS×Int))->Option (Int)
def ng (n:Nat) (g104:qlj) (g173:qli) (g224:qlk) (a:List qe) (b:Int) (c:List SS) (d:List (SS×Int)):Option (Int):=
 qo (uC n a g173 c d b) n (0:Int)
abbrev dE (_:List SS) (_:List (SS×Int)) (r:Int×Int):FV:=.p (.tup [.int .i64 r.1,.int .i64 r.2])
abbrev dD (a:List SS) (b:List (SS×Int)) (r:Int×Int):List AObj:=[.box 118 [.tsl 2 (qi a),.mref 1],.mp .string (qH PV.str (PV.int .i64) b) none,.tail 9 1 (qi a).length]
def gC (n:Nat):Int->Option (Int×Int):=fun a=>
 bif(a != 0)then(
 some ((0:Int),a))
 else(
 some ((3:Int),(0:Int)))
def xd (n:Nat) (b:Int) (d:List SS):Int->Option (Int×Int):=fun a=>
 bnd (qD (bif(a==0)then(b==6)else false) (pW n d)) fun c=>
 bif(bif(bif(a==0)then(b==6)else false)then c else false)then(
 gC n (2:Int))
 else(
 gC n a)
def xH (n:Nat) (g104:qlj) (c:List qe) (d:List SS) (e:List (SS×Int)) (a:Int) (b:List SS) (g224:qlk) (f:SS) (m:Int) (o:Bool) (p:Int) (q:SS) (s:List Val) (t:List SS):Bool->Option (Int×Int):=fun g=>
 bif g then(
 bnd (g104 c (0:Int) d e) fun i=>
 xd n a b i)
 else(
 bif(a==15)then(
 bnd (g104 c (1:Int) d e) fun j=>
 xd n a b j)
 else(
 bif(a==10)then(
 bnd (g224 (qe.mk a f (Val.mk m o p q s t) b c) d e) fun k=>
 xd n a b k)
 else(
 bnd (g104 c (3:Int) d e) fun l=>
 xd n a b l)))
def bC (n:Nat) (g104:qlj) (g173:qli) (g224:qlk) (o:qe) (e:List SS) (c:List (SS×Int)):Option (Int×Int):=
 match o with
 | ⟨a,d,⟨g,i,j,k,l,m⟩,f,b⟩=>
 bif(a==2)then(
 bif((va c d (0:Int))==0)then(
 some ((0:Int),(2:Int)))
 else(
 some ((va c d (0:Int)),(0:Int))))
 else(
 bif(a==14)then(
 some ((0:Int),(2:Int)))
 else(
 bif(a==13)then(
 bnd (cL n d) fun⟨p,q,s⟩=>
 bif(bif(decide (((qe.rows b).length:Int)<p))then true else(decide (((qe.rows b).length:Int)>q)))then(
 some ((0:Int),(2:Int)))
 else(
 bnd (g104 b s e c) fun t=>
 xd n a f t))
 else(
 bif(a==4)then(
 xH n g104 b e c a f g224 d g i j k l m (a==4))
 else(
 bif(a==11)then(
 xH n g104 b e c a f g224 d g i j k l m (a==11))
 else(
 xH n g104 b e c a f g224 d g i j k l m (a==12))))))
abbrev rQ (_:List SS) (_:List (SS×Int)) (r:Int):FV:=pI r
abbrev rN (a:List SS) (b:List (SS×Int)) (r:Int):List AObj:=[.box 118 [.tsl 2 (qi a),.mref 1],.mp .string (qH PV.str (PV.int .i64) b) none,.tail 9 1 (qi a).length]
def bB (n:Nat) (g104:qlj) (g173:qli) (g224:qlk) (g:qe) (b:List SS) (c:List (SS×Int)):Option (Int):=
 match g with
 | ⟨_,d,⟨_,_,_,_,_,_⟩,_,a⟩=>
 bif(bif(!(d==([61]:SS)))then(!(d==([60,62]:SS)))else false)then(
 bnd (g104 a (3:Int) b c) fun i=>
 some i)
 else(
 bnd (idx a (0:Int)) fun⟨j,k,⟨l,m,o,p,q,s⟩,t,u⟩=>
 bnd (g173 (qe.mk j k (Val.mk l m o p q s) t u) b c) fun⟨v,e⟩=>
 bif(e != 0)then(
 some e)
 else(
 bnd (idx a (1:Int)) fun⟨w,x,⟨y,z,A,B,C,D⟩,E,F⟩=>
 bnd (g173 (qe.mk w x (Val.mk y z A B C D) E F) b c) fun⟨G,f⟩=>
 bif(bif(f==0)then(v != G)else false)then(
 some (3:Int))
 else(
 some f)))
abbrev qqi (g104:qlj):Prop:=∀ (c:List qe) (d:Int) (a:List SS) (b:List (SS×Int)) (r:Int),g104 c d a b=some r->vA TP 104 [.ptr 0 0,.p (PV.sl (qe.rows c)),.p (PV.int .i64 d)] [.box 118 [.tsl 2 (qi a),.mref 1],.mp .string (qH PV.str (PV.int .i64) b) none,.tail 9 1 (qi a).length] 2 (fun v lo=>v=bV a b r/\lo=bU a b r)
abbrev qqj (g173:qli):Prop:=∀ (c:qe) (a:List SS) (b:List (SS×Int)) (r:Int×Int),g173 c a b=some r->vA TP 173 [.ptr 0 0,.p (PV.agg (zX.cells c))] [.box 118 [.tsl 2 (qi a),.mref 1],.mp .string (qH PV.str (PV.int .i64) b) none,.tail 9 1 (qi a).length] 2 (fun v lo=>v=dE a b r/\lo=dD a b r)
abbrev qqk (g224:qlk):Prop:=∀ (c:qe) (a:List SS) (b:List (SS×Int)) (r:Int),g224 c a b=some r->vA TP 224 [.ptr 0 0,.p (PV.agg (zX.cells c))] [.box 118 [.tsl 2 (qi a),.mref 1],.mp .string (qH PV.str (PV.int .i64) b) none,.tail 9 1 (qi a).length] 2 (fun v lo=>v=rQ a b r/\lo=rN a b r)
theorem UY (n:Nat) (g104:qlj) (g173:qli) (g224:qlk) (g104_ok:qqi g104) (g173_ok:qqj g173) (g224_ok:qqk g224):∀ (c:List qe) (d:Int) (a:List SS) (b:List (SS×Int)) (r:Int),ng n g104 g173 g224 c d a b=some r->vA TP 104 [.ptr 0 0,.p (PV.sl (qe.rows c)),.p (PV.int .i64 d)] [.box 118 [.tsl 2 (qi a),.mref 1],.mp .string (qH PV.str (PV.int .i64) b) none,.tail 9 1 (qi a).length] 2 (fun v lo=>v=bV a b r/\lo=bU a b r):=by
 intro c d a b r h;unfold ng at h;refine zO Tryz.call104 Tryz.func104 [173,1000000] ?_;conv=>whnf
 refine qX.fn [173,1000000] (S:=Int) (fun e=>[(0,.ptr 0 0),(2,pI d),(11,pE c),(12,.p (.int .i64 ((qe.rows c).length:Int))),(13,pI e)]) (fun e=>[.box 118 [.tsl 2 (qi a),.mref 1],.mp .string (qH PV.str (PV.int .i64) b) none,.tail 9 1 (qi a).length]) (B:=uC n c g173 a b d) h (wk [0,1,2] []) ?_;intro l e h;unfold uC at h;conv=>whnf
 apply ifc h<;>intro g h
 ·conv=>whnf
  refine bq h fun⟨x,y,⟨z,A,m,o,q,s⟩,t,u⟩ k h=>⟨_,Codec.at_ zX k,?_⟩;conv=>whnf
  refine bq h fun⟨w,i⟩ j h=>?_;refine Zd (g173_ok _ _ _ _ j) [0,1,2] [] ?_;rintro _ _ ⟨rfl,rfl⟩;refine⟨.p (.tup [.int .i64 w,.int .i64 i]),[.box 118 [.tsl 4 (qi a),.mref 1],.mp .string (qH PV.str (PV.int .i64) b) none,.dead,.box 49 [pI x,pS y,pI z,pB A,pI m,pS o,pV q,pT s,pT t,pE u],.tail 9 1 (qi a).length],rfl,rfl,?_⟩;conv=>whnf
  refine cY.cut (S:=Int) (fun f=>[(0,.ptr 0 0),(2,pI d),(10,pI f),(11,pE c),(12,.p (.int .i64 ((qe.rows c).length:Int))),(13,pI e)]) (fun f=>[.box 118 [.tsl 2 (qi a),.mref 1],.mp .string (qH PV.str (PV.int .i64) b) none,.tail 9 1 (qi a).length]) (fe n l e) (r:=r) ?_ ?_
  ·intro f h
   unfold fe at h;conv=>whnf
   apply ifc h<;>intro g h
   ·obtain rfl:=sj h
    (conv=>whnf);refine⟨_,_,⟨rfl,rfl⟩,wk [0,1,2] []⟩
   conv=>whnf
   exact⟨(kwr .i64 (e+1)),h,wk [0,1,2] []⟩
  conv=>whnf
  refine⟨id,?_⟩;conv=>whnf
  refine⟨id,id,id,id,?_⟩;conv=>whnf
  apply ifc h<;>intro g h
  ·conv=>whnf
   exact⟨(3:Int),h,wk [0,1,4] []⟩
  conv=>whnf
  exact⟨i,h,wk [0,1,4] []⟩
 obtain rfl:=sj h;conv=>whnf
 refine⟨_,_,⟨rfl,rfl⟩,wk [0,1,2] []⟩
theorem UN (n:Nat) (g104:qlj) (g173:qli) (g224:qlk) (g104_ok:qqi g104) (g173_ok:qqj g173) (g224_ok:qqk g224):∀ (q:qe) (a:List SS) (b:List (SS×Int)) (r:Int×Int),bC n g104 g173 g224 q a b=some r->vA TP 173 [.ptr 0 0,.p (PV.agg (zX.cells q))] [.box 118 [.tsl 2 (qi a),.mref 1],.mp .string (qH PV.str (PV.int .i64) b) none,.tail 9 1 (qi a).length] 2 (fun v lo=>v=dE a b r/\lo=dD a b r):=by
 intro q a b r h;obtain⟨d,c,⟨i,j,k,l,m,o⟩,f,g⟩:=q;unfold bC at h;refine zO Tryz.call173 Tryz.func173 [104,224,1000000] ?_;conv=>whnf
 refine cY.cut (S:=Int) (fun s=>[(3,.ptr 2 0),(6,pI s)]) (fun s=>[.box 118 [.tsl 3 (qi a),.mref 1],.mp .string (qH PV.str (PV.int .i64) b) none,.box 49 [pI d,pS c,pI i,pB j,pI k,pS l,pV m,pT o,pT f,pE g],.tail 9 1 (qi a).length]) (xd n d f) (r:=r) ?_ ?_
 ·intro s h
  unfold xd at h;conv=>whnf
  refine cY.cut (S:=Int) (fun t=>[(6,pI t)]) (fun t=>[.box 118 [.tsl 2 (qi a),.mref 1],.mp .string (qH PV.str (PV.int .i64) b) none,.tail 9 1 (qi a).length]) (gC n) (r:=r) ?_ ?_
  ·intro t h
   unfold gC at h;conv=>whnf
   apply ifc h<;>intro e h
   ·obtain rfl:=sj h
    (conv=>whnf);refine⟨_,_,⟨rfl,rfl⟩,wk [0,1,2] []⟩
   obtain rfl:=sj h;conv=>whnf
   refine⟨_,_,⟨rfl,rfl⟩,wk [0,1,2] []⟩
  conv=>whnf
  refine⟨id,?_⟩;conv=>whnf
  refine⟨id,id,id,id,?_⟩;conv=>whnf
  refine bq h fun _ B h=>⟨_,fun I=>(UG n _ _ (qa B I)),?_⟩;conv=>whnf
  refine⟨id,?_⟩;conv=>whnf
  apply ifc h<;>intro e h
  ·conv=>whnf
   exact⟨(2:Int),h,wk [0,1,3] []⟩
  conv=>whnf
  exact⟨s,h,wk [0,1,3] []⟩
 conv=>whnf
 apply ifc h<;>intro e h
 ·conv=>whnf
  refine⟨PV.int .i64 (va b c (0:Int)),(LI b c),⟨XO xD (PV.int .i64) b c (0:Int),XQ xD (PV.int .i64) b c⟩,?_⟩;conv=>whnf
  apply ifc h<;>intro e h
  ·obtain rfl:=sj h
   conv=>whnf
   refine⟨_,_,⟨rfl,rfl⟩,wk [0,1,2] []⟩
  conv=>whnf
  refine⟨PV.int .i64 (va b c (0:Int)),(LI b c),⟨XO xD (PV.int .i64) b c (0:Int),XQ xD (PV.int .i64) b c⟩,?_⟩;obtain rfl:=sj h;conv=>whnf
  refine⟨_,_,⟨rfl,rfl⟩,wk [0,1,2] []⟩
 conv=>whnf
 apply ifc h<;>intro e h
 ·obtain rfl:=sj h
  conv=>whnf
  refine⟨_,_,⟨rfl,rfl⟩,wk [0,1,2] []⟩
 conv=>whnf
 apply ifc h<;>intro e h
 ·conv=>whnf
  refine bq h fun⟨J,K,L⟩ D h=>⟨_,(HT n _ _ D),?_⟩;conv=>whnf
  iterate 6 refine⟨id,?_⟩
  conv=>whnf
  apply ifc h<;>intro e h
  ·obtain rfl:=sj h
   conv=>whnf
   refine⟨_,_,⟨rfl,rfl⟩,wk [0,1,2] []⟩
  conv=>whnf
  refine bq h fun w C h=>?_;refine Zd (g104_ok _ _ _ _ _ C) [0,1,2] [] ?_;rintro _ _ ⟨rfl,rfl⟩;refine⟨pI w,[.box 118 [.tsl 5 (qi a),.mref 1],.mp .string (qH PV.str (PV.int .i64) b) none,.dead,.box 49 [pI d,pS c,pI i,pB j,pI k,pS l,pV m,pT o,pT f,pE g],.box 273 [pI J,pI K,pI L],.tail 9 1 (qi a).length],rfl,rfl,?_⟩;conv=>whnf
  exact⟨w,h,wk [0,1,3,5] []⟩
 conv=>whnf
 refine cY.cut (S:=Bool) (fun u=>[(0,.ptr 0 0),(3,.ptr 2 0),(9,pI d),(58,pB u)]) (fun u=>[.box 118 [.tsl 3 (qi a),.mref 1],.mp .string (qH PV.str (PV.int .i64) b) none,.box 49 [pI d,pS c,pI i,pB j,pI k,pS l,pV m,pT o,pT f,pE g],.tail 9 1 (qi a).length]) (xH n g104 g a b d f g224 c i j k l m o) (r:=r) ?_ ?_
 ·intro u h
  unfold xH at h;conv=>whnf
  apply ifc h<;>intro e h
  ·conv=>whnf
   refine bq h fun x E h=>?_;refine Zd (g104_ok _ _ _ _ _ E) [0,1,3] [] ?_;rintro _ _ ⟨rfl,rfl⟩;refine⟨pI x,[.box 118 [.tsl 4 (qi a),.mref 1],.mp .string (qH PV.str (PV.int .i64) b) none,.box 49 [pI d,pS c,pI i,pB j,pI k,pS l,pV m,pT o,pT f,pE g],.dead,.tail 9 1 (qi a).length],rfl,rfl,?_⟩;conv=>whnf
   exact⟨x,h,wk [0,1,2,4] []⟩
  conv=>whnf
  apply ifc h<;>intro e h
  ·conv=>whnf
   refine bq h fun y F h=>?_;refine Zd (g104_ok _ _ _ _ _ F) [0,1,3] [] ?_;rintro _ _ ⟨rfl,rfl⟩;refine⟨pI y,[.box 118 [.tsl 4 (qi a),.mref 1],.mp .string (qH PV.str (PV.int .i64) b) none,.box 49 [pI d,pS c,pI i,pB j,pI k,pS l,pV m,pT o,pT f,pE g],.dead,.tail 9 1 (qi a).length],rfl,rfl,?_⟩;conv=>whnf
   exact⟨y,h,wk [0,1,2,4] []⟩
  conv=>whnf
  apply ifc h<;>intro e h
  ·conv=>whnf
   refine bq h fun z G h=>?_;refine Zd (g224_ok _ _ _ _ G) [0,1,3] [] ?_;rintro _ _ ⟨rfl,rfl⟩;refine⟨pI z,[.box 118 [.tsl 4 (qi a),.mref 1],.mp .string (qH PV.str (PV.int .i64) b) none,.box 49 [pI d,pS c,pI i,pB j,pI k,pS l,pV m,pT o,pT f,pE g],.dead,.tail 9 1 (qi a).length],rfl,rfl,?_⟩;conv=>whnf
   exact⟨z,h,wk [0,1,2,4] []⟩
  conv=>whnf
  refine bq h fun A H h=>?_;refine Zd (g104_ok _ _ _ _ _ H) [0,1,3] [] ?_;rintro _ _ ⟨rfl,rfl⟩;refine⟨pI A,[.box 118 [.tsl 4 (qi a),.mref 1],.mp .string (qH PV.str (PV.int .i64) b) none,.box 49 [pI d,pS c,pI i,pB j,pI k,pS l,pV m,pT o,pT f,pE g],.dead,.tail 9 1 (qi a).length],rfl,rfl,?_⟩;conv=>whnf
  exact⟨A,h,wk [0,1,2,4] []⟩
 conv=>whnf
 apply ifc h<;>intro e h
 ·conv=>whnf
  exact⟨(d==4),h,wk [0,1,3,2] []⟩
 conv=>whnf
 apply ifc h<;>intro e h
 ·conv=>whnf
  exact⟨(d==11),h,wk [0,1,3,2] []⟩
 conv=>whnf
 exact⟨(d==12),h,wk [0,1,3,2] []⟩
theorem UM (n:Nat) (g104:qlj) (g173:qli) (g224:qlk) (g104_ok:qqi g104) (g173_ok:qqj g173) (g224_ok:qqk g224):∀ (c:qe) (a:List SS) (b:List (SS×Int)) (r:Int),bB n g104 g173 g224 c a b=some r->vA TP 224 [.ptr 0 0,.p (PV.agg (zX.cells c))] [.box 118 [.tsl 2 (qi a),.mref 1],.mp .string (qH PV.str (PV.int .i64) b) none,.tail 9 1 (qi a).length] 2 (fun v lo=>v=rQ a b r/\lo=rN a b r):=by
 intro c a b r h;obtain⟨d,f,⟨g,i,j,k,l,m⟩,o,e⟩:=c;unfold bB at h;refine zO Tryz.call224 Tryz.func224 [104,173,1000000] ?_;conv=>whnf
 refine⟨id,id,id,?_⟩;conv=>whnf
 apply ifc h<;>intro q h
 ·conv=>whnf
  refine bq h fun y s h=>?_;refine Zd (g104_ok _ _ _ _ _ s) [0,1,2] [] ?_;rintro _ _ ⟨rfl,rfl⟩;refine⟨pI y,[.box 118 [.tsl 4 (qi a),.mref 1],.mp .string (qH PV.str (PV.int .i64) b) none,.dead,.box 49 [pI d,pS f,pI g,pB i,pI j,pS k,pV l,pT m,pT o,pE e],.tail 9 1 (qi a).length],rfl,rfl,?_⟩;obtain rfl:=sj h;conv=>whnf
  refine⟨_,_,⟨rfl,rfl⟩,wk [0,1,4] []⟩
 conv=>whnf
 refine bq h fun⟨_,_,⟨_,_,_,_,_,_⟩,_,_⟩ x h=>⟨_,Codec.at_ zX x,?_⟩;conv=>whnf
 refine bq h fun⟨z,A⟩ t h=>?_;refine Zd (g173_ok _ _ _ _ t) [0,1,2] [] ?_;rintro _ _ ⟨rfl,rfl⟩;refine⟨.p (.tup [.int .i64 z,.int .i64 A]),[.box 118 [.tsl 4 (qi a),.mref 1],.mp .string (qH PV.str (PV.int .i64) b) none,.dead,.box 49 [pI d,pS f,pI g,pB i,pI j,pS k,pV l,pT m,pT o,pE e],.tail 9 1 (qi a).length],rfl,rfl,?_⟩;conv=>whnf
 apply ifc h<;>intro q h
 ·obtain rfl:=sj h
  conv=>whnf
  refine⟨_,_,⟨rfl,rfl⟩,wk [0,1,4] []⟩
 conv=>whnf
 refine bq h fun⟨_,_,⟨_,_,_,_,_,_⟩,_,_⟩ w h=>⟨_,Codec.at_ zX w,?_⟩;conv=>whnf
 refine bq h fun⟨B,C⟩ u h=>?_;refine Zd (g173_ok _ _ _ _ u) [0,1,4] [] ?_;rintro _ _ ⟨rfl,rfl⟩;refine⟨.p (.tup [.int .i64 B,.int .i64 C]),[.box 118 [.tsl 5 (qi a),.mref 1],.mp .string (qH PV.str (PV.int .i64) b) none,.dead,.box 49 [pI d,pS f,pI g,pB i,pI j,pS k,pV l,pT m,pT o,pE e],.dead,.tail 9 1 (qi a).length],rfl,rfl,?_⟩;conv=>whnf
 refine⟨id,id,id,?_⟩;conv=>whnf
 apply ifc h<;>intro q h
 ·obtain rfl:=sj h
  conv=>whnf
  refine⟨_,_,⟨rfl,rfl⟩,wk [0,1,5] []⟩
 obtain rfl:=sj h;conv=>whnf
 refine⟨_,_,⟨rfl,rfl⟩,wk [0,1,5] []⟩
mutual
def qV:Nat->(List qe)->Int->(List SS)->(List (SS×Int))->Option (Int)
 | 0=>fun _ _ _ _=>none
 | n+1=>ng n (qV n) (zQ n) (xc n)
def zQ:Nat->qe->(List SS)->(List (SS×Int))->Option (Int×Int)
 | 0=>fun _ _ _=>none
 | n+1=>bC n (qV n) (zQ n) (xc n)
def xc:Nat->qe->(List SS)->(List (SS×Int))->Option (Int)
 | 0=>fun _ _ _=>none
 | n+1=>bB n (qV n) (zQ n) (xc n)
end
theorem QO (n:Nat):(∀ (j:List qe) (k:Int) (d:List SS) (e:List (SS×Int)) (r:Int),qV n j k d e=some r->vA TP 104 [.ptr 0 0,.p (PV.sl (qe.rows j)),.p (PV.int .i64 k)] [.box 118 [.tsl 2 (qi d),.mref 1],.mp .string (qH PV.str (PV.int .i64) e) none,.tail 9 1 (qi d).length] 2 (fun v lo=>v=bV d e r/\lo=bU d e r))/\(∀ (c:qe) (a:List SS) (b:List (SS×Int)) (r:Int×Int),zQ n c a b=some r->vA TP 173 [.ptr 0 0,.p (PV.agg (zX.cells c))] [.box 118 [.tsl 2 (qi a),.mref 1],.mp .string (qH PV.str (PV.int .i64) b) none,.tail 9 1 (qi a).length] 2 (fun v lo=>v=dE a b r/\lo=dD a b r))/\(∀ (c:qe) (a:List SS) (b:List (SS×Int)) (r:Int),xc n c a b=some r->vA TP 224 [.ptr 0 0,.p (PV.agg (zX.cells c))] [.box 118 [.tsl 2 (qi a),.mref 1],.mp .string (qH PV.str (PV.int .i64) b) none,.tail 9 1 (qi a).length] 2 (fun v lo=>v=rQ a b r/\lo=rN a b r)):=by
 induction n with
 | zero=>exact⟨(by intros; rename_i h; cases h),(by intros; rename_i h; cases h),(by intros; rename_i h; cases h)⟩
 | succ n ih=>
  obtain⟨f,g,i⟩:=ih;exact⟨UY n (qV n) (zQ n) (xc n) f g i,UN n (qV n) (zQ n) (xc n) f g i,UM n (qV n) (zQ n) (xc n) f g i⟩
theorem xV (n:Nat):∀ (c:List qe) (d:Int) (a:List SS) (b:List (SS×Int)) (r:Int),qV n c d a b=some r->vA TP 104 [.ptr 0 0,.p (PV.sl (qe.rows c)),.p (PV.int .i64 d)] [.box 118 [.tsl 2 (qi a),.mref 1],.mp .string (qH PV.str (PV.int .i64) b) none,.tail 9 1 (qi a).length] 2 (fun v lo=>v=bV a b r/\lo=bU a b r):=(QO n).1
theorem Gm (n:Nat):∀ (c:qe) (a:List SS) (b:List (SS×Int)) (r:Int×Int),zQ n c a b=some r->vA TP 173 [.ptr 0 0,.p (PV.agg (zX.cells c))] [.box 118 [.tsl 2 (qi a),.mref 1],.mp .string (qH PV.str (PV.int .i64) b) none,.tail 9 1 (qi a).length] 2 (fun v lo=>v=dE a b r/\lo=dD a b r):=(QO n).2.1
abbrev GC (_:List SS) (_:List (SS×Int)) (r:Int):FV:=pI r
abbrev Gy (a:List SS) (b:List (SS×Int)) (r:Int):List AObj:=[.box 118 [.tsl 2 (qi a),.mref 1],.mp .string (qH PV.str (PV.int .i64) b) none,.tail 9 1 (qi a).length]
def gb (n:Nat) (b:List SS) (c:List qe) (d:List SS) (e:List (SS×Int)):Option (Int):=
 bnd (qV n c (3:Int) d e) fun a=>
 bif(a != 0)then(
 some a)
 else(
 bnd (pW n b) fun f=>
 bif f then(
 some (2:Int))
 else(
 some (0:Int)))
theorem tU (n:Nat):∀ (c:List SS) (d:List qe) (a:List SS) (b:List (SS×Int)) (r:Int),gb n c d a b=some r->vA TP 222 [.ptr 0 0,.p (PV.sl (qi c)),.p (PV.sl (qe.rows d))] [.box 118 [.tsl 2 (qi a),.mref 1],.mp .string (qH PV.str (PV.int .i64) b) none,.tail 9 1 (qi a).length] 2 (fun v lo=>v=GC a b r/\lo=Gy a b r):=by
 intro c d a b r h;unfold gb at h;refine zO Tryz.call222 Tryz.func222 [104,1000000] ?_;conv=>whnf
 refine bq h fun i e h=>?_;refine Zd (xV n _ _ _ _ _ e) [0,1,2] [] ?_;rintro _ _ ⟨rfl,rfl⟩;refine⟨pI i,[.box 118 [.tsl 3 (qi a),.mref 1],.mp .string (qH PV.str (PV.int .i64) b) none,.dead,.tail 9 1 (qi a).length],rfl,rfl,?_⟩;conv=>whnf
 apply ifc h<;>intro g h
 ·obtain rfl:=sj h
  conv=>whnf
  refine⟨_,_,⟨rfl,rfl⟩,wk [0,1,3] []⟩
 conv=>whnf
 refine bq h fun _ f h=>⟨_,(UG n _ _ f),?_⟩;conv=>whnf
 apply ifc h<;>intro g h
 ·obtain rfl:=sj h
  conv=>whnf
  refine⟨_,_,⟨rfl,rfl⟩,wk [0,1,3] []⟩
 obtain rfl:=sj h;conv=>whnf
 refine⟨_,_,⟨rfl,rfl⟩,wk [0,1,3] []⟩
abbrev Cd (_:List SS) (_:List (SS×Int)) (_:List SS) (_:List (SS×Int)) (r:Int×(List SS)×(List (SS×Int))):FV:=.p (.int .i64 r.1)
abbrev FQ (_:List SS) (_:List (SS×Int)) (a:List SS) (b:List (SS×Int)) (r:Int×(List SS)×(List (SS×Int))):List AObj:=[.box 118 [.tsl 4 (qi r.2.1),.mref 2],.box 118 [.tsl 5 (qi a),.mref 3],.mp .string (qH PV.str (PV.int .i64) r.2.2) none,.mp .string (qH PV.str (PV.int .i64) b) none,.tail 9 1 (qi r.2.1).length,.tail 9 1 (qi a).length]
def gB (n:Nat):List SS×List (SS×Int)->Option (Int×(List SS)×(List (SS×Int))):=fun(a,b)=>
 some ((0:Int),a,b)
def cO (n:Nat) (e:qy) (o:Bool) (b:List SS) (a:List (SS×Int)) (p:List SS) (f:List (SS×Int)):Option (Int×(List SS)×(List (SS×Int))):=
 match e with
 | ⟨c,j,k,l,m⟩=>
 bif(bif((va a c (0:Int)) != 0)then true else(bif o then(bif(j==([]:SS))then true else(k==2))else false))then(
 some ((2:Int),b,a))
 else(
 bnd (gb n l m p f) fun d=>
 bif(d != 0)then(
 some (d,b,a))
 else(
 bif(!(c==([]:SS)))then(
 bnd (xb n c (2:Int) b a) fun⟨g,i⟩=>
 gB n (g,i))
 else(
 gB n (b,a))))
theorem Gl (n:Nat):∀ (f:qy) (k:Bool) (c:List SS) (b:List (SS×Int)) (a:List SS) (d:List (SS×Int)) (r:Int×(List SS)×(List (SS×Int))),cO n f k c b a d=some r->vA TP 220 [.ptr 0 0,.p (PV.agg (cZ.cells f)),.ptr 1 0,.p (PV.bool k)] [.box 118 [.tsl 4 (qi c),.mref 2],.box 118 [.tsl 5 (qi a),.mref 3],.mp .string (qH PV.str (PV.int .i64) b) none,.mp .string (qH PV.str (PV.int .i64) d) none,.tail 9 1 (qi c).length,.tail 9 1 (qi a).length] 4 (fun v lo=>v=Cd c b a d r/\lo=FQ c b a d r):=by
 intro f k c b a d r h;obtain⟨e,o,q,s,t⟩:=f;unfold cO at h;refine zO Tryz.call220 Tryz.func220 [105,222,1000000] ?_;conv=>whnf
 refine⟨PV.int .i64 (va b e (0:Int)),(LI b e),⟨XO xD (PV.int .i64) b e (0:Int),XQ xD (PV.int .i64) b e⟩,?_⟩;conv=>whnf
 iterate 11 refine⟨id,?_⟩
 conv=>whnf
 apply ifc h<;>intro l h
 ·obtain rfl:=sj h
  conv=>whnf
  refine⟨_,_,⟨rfl,rfl⟩,wk [0,1,2,3,4,5] []⟩
 conv=>whnf
 refine bq h fun x u h=>?_;refine Zd (tU n _ _ _ _ _ u) [1,3,5] [] ?_;rintro _ _ ⟨rfl,rfl⟩;refine⟨pI x,[.box 118 [.tsl 4 (qi c),.mref 2],.box 118 [.tsl 7 (qi a),.mref 3],.mp .string (qH PV.str (PV.int .i64) b) none,.mp .string (qH PV.str (PV.int .i64) d) none,.tail 9 1 (qi c).length,.dead,.box 64 [pS e,pS o,pI q,pT s,pE t],.tail 9 1 (qi a).length],rfl,rfl,?_⟩;conv=>whnf
 apply ifc h<;>intro l h
 ·obtain rfl:=sj h
  conv=>whnf
  refine⟨_,_,⟨rfl,rfl⟩,wk [0,1,2,3,4,7] []⟩
 conv=>whnf
 refine cY.cut (S:=List SS×List (SS×Int)) (fun(g,i)=>[]) (fun(g,i)=>[.box 118 [.tsl 4 (qi g),.mref 2],.box 118 [.tsl 5 (qi a),.mref 3],.mp .string (qH PV.str (PV.int .i64) i) none,.mp .string (qH PV.str (PV.int .i64) d) none,.tail 9 1 (qi g).length,.tail 9 1 (qi a).length]) (gB n) (r:=r) ?_ ?_
 ·intro st h
  obtain⟨g,i⟩:=st;unfold gB at h;obtain rfl:=sj h;conv=>whnf
  refine⟨_,_,⟨rfl,rfl⟩,wk [0,1,2,3,4,5] []⟩
 conv=>whnf
 apply ifc h<;>intro l h
 ·conv=>whnf
  refine bq h fun⟨j,m⟩ w h=>?_;refine Zd (gA n _ _ _ _ _ w) [0,2,4] [] ?_;rintro _ _ ⟨rfl,rfl⟩;refine⟨.p (.tup []),[.box 118 [.tsl 8 (qi j),.mref 2],.box 118 [.tsl 7 (qi a),.mref 3],.mp .string (qH PV.str (PV.int .i64) m) none,.mp .string (qH PV.str (PV.int .i64) d) none,.dead,.dead,.box 64 [pS e,pS o,pI q,pT s,pE t],.tail 9 1 (qi a).length,.tail 9 1 (qi j).length],rfl,rfl,?_⟩;conv=>whnf
  exact⟨(j,m),h,wk [0,1,2,3,8,7] []⟩
 conv=>whnf
 exact⟨(c,b),h,wk [0,1,2,3,4,7] []⟩
abbrev Bc (_:List SS) (_:List (SS×Int)) (r:Bool×Int):FV:=.p (.tup [.bool r.1,.int .i64 r.2])
abbrev CU (a:List SS) (b:List (SS×Int)) (r:Bool×Int):List AObj:=[.box 118 [.tsl 2 (qi a),.mref 1],.mp .string (qH PV.str (PV.int .i64) b) none,.tail 9 1 (qi a).length]
def bf (n:Nat) (a:SS) (_:List SS) (b:List (SS×Int)):Option (Bool×Int):=
 bif(bif(a==([]:SS))then true else((va b a (0:Int))==0))then(
 some (false,(0:Int)))
 else(
 bif((va b a (0:Int)) != 1)then(
 some (true,(3:Int)))
 else(
 some (true,(0:Int))))
theorem FE (n:Nat):∀ (b:SS) (c:List SS) (a:List (SS×Int)) (r:Bool×Int),bf n b c a=some r->vA TP 221 [.ptr 0 0,.p (PV.str b)] [.box 118 [.tsl 2 (qi c),.mref 1],.mp .string (qH PV.str (PV.int .i64) a) none,.tail 9 1 (qi c).length] 2 (fun v lo=>v=Bc c a r/\lo=CU c a r):=by
 intro b c a r h;unfold bf at h;refine zO Tryz.call221 Tryz.func221 [1000000] ?_;conv=>whnf
 refine⟨PV.int .i64 (va a b (0:Int)),(LI a b),⟨XO xD (PV.int .i64) a b (0:Int),XQ xD (PV.int .i64) a b⟩,?_⟩;conv=>whnf
 refine⟨id,id,?_⟩;conv=>whnf
 apply ifc h<;>intro d h
 ·obtain rfl:=sj h
  conv=>whnf
  refine⟨_,_,⟨rfl,rfl⟩,wk [0,1,2] []⟩
 conv=>whnf
 apply ifc h<;>intro d h
 ·obtain rfl:=sj h
  conv=>whnf
  refine⟨_,_,⟨rfl,rfl⟩,wk [0,1,2] []⟩
 obtain rfl:=sj h;conv=>whnf
 refine⟨_,_,⟨rfl,rfl⟩,wk [0,1,2] []⟩
end W
end
