/- A part of the proof: contracts, printed by program. -/
import Derived.Test.YtlbjambmfdlniaaGreatC
import Derived.Test.YtlbjambmfdlniaaGreatF
import Derived.Test.YtlbjambmfdlniaaGreatI
set_option linter.unusedVariables false
set_option linter.unusedSimpArgs false
set_option linter.unnecessarySimpa false
set_option linter.deprecated false
set_option linter.unusedSectionVars false
set_option linter.constructorNameAsVariable false
open Go.IntKind renaming wrap->kwr,bits->kbt
section
set_option maxRecDepth 100000
set_option maxHeartbeats 20000000
open Go Go.Proofs Ax
namespace W
abbrev FK (r:List Env×Int):PV:=PV.tup [PV.sl (Env.rows r.1),PV.int .i64 r.2]
def xA (n:Nat) (b:List zj) (a:pd):Option (List Env×Int):=
 match a with
 | ⟨⟨g,i⟩,⟨j,k⟩,⟨l,m,o,p,c,d⟩⟩=>
 bnd (xo n b (Env.mk g i) (Graph.mk j k) (Val.mk l m o p c d)) fun⟨e,f⟩=>
 some (e,f)
theorem fg (n:Nat):∀ (b:List zj) (a:pd) (r:List Env×Int),xA n b a=some r->qi TP 9 [PV.sl (zj.rows b),PV.agg (MH.cells a)] (FK r):=by
 intro b a r h;obtain⟨⟨_,_⟩,⟨_,_⟩,⟨_,_,_,_,_,_⟩⟩:=a;unfold xA at h;refine zN Tryz.call9 Tryz.func9 [1000000] ?_;conv=>whnf
 refine bq h fun⟨_,_⟩ c h=>⟨_,(ZC n _ _ _ _ _ c),?_⟩;obtain rfl:=sj h;conv=>whnf
 try exact Sk
abbrev Gv (r:Bool):PV:=PV.bool r
def fZ (n:Nat):Option (Bool):=
 bnd (Qt n) fun⟨d,e⟩=>
 bnd (zQ n ([40,110,58,65,41,45,91,114,58,84,93,45,62,40,109,41]:SS)) fun i=>
 bnd (xA n i (pd.mk (Env.mk ([]:List SS) ([]:List Val)) (Graph.mk d e) (Val.mk (5:Int) false (0:Int) ([]:SS) ([]:List Val) ([]:List SS)))) fun⟨a,b⟩=>
 bnd (zQ n ([40,41,45,45,40,41]:SS)) fun j=>
 bnd (xA n j (pd.mk (Env.mk ([]:List SS) ([]:List Val)) (Graph.mk d e) (Val.mk (5:Int) false (0:Int) ([]:SS) ([]:List Val) ([]:List SS)))) fun⟨k,l⟩=>
 bnd (qG (bif(b==0)then(((Env.rows a).length:Int)==1)else false) (idx a (0:Int))) fun⟨_,c⟩=>
 bnd (qG (bif(bif(b==0)then(((Env.rows a).length:Int)==1)else false)then(((Val.rows c).length:Int)==3)else false) (idx a (0:Int))) fun⟨_,f⟩=>
 bnd (qG (bif(bif(b==0)then(((Env.rows a).length:Int)==1)else false)then(((Val.rows c).length:Int)==3)else false) (idx f (1:Int))) fun⟨_,_,g,_,_,_⟩=>
 some (bif(bif(bif(bif(bif(b==0)then(((Env.rows a).length:Int)==1)else false)then(((Val.rows c).length:Int)==3)else false)then(g==5)else false)then(l==0)else false)then(((Env.rows k).length:Int)==3)else false)
theorem sV (n:Nat):∀ (r:Bool),fZ n=some r->qi TP 8 [] (Gv r):=by
 intro r h;unfold fZ at h;refine zN Tryz.call8 Tryz.func8 [1000000] ?_;conv=>whnf
 refine bq h fun⟨_,_⟩ j h=>⟨_,(Gg n _ j),?_⟩;conv=>whnf
 refine bq h fun _ i h=>⟨_,(vT n _ _ i),?_⟩;conv=>whnf
 refine bq h fun⟨_,_⟩ g h=>⟨_,(qi.leArgs (fg n _ _ _ g) (by try exact Sk)),?_⟩;conv=>whnf
 refine bq h fun _ f h=>⟨_,(vT n _ _ f),?_⟩;conv=>whnf
 refine bq h fun⟨_,_⟩ e h=>⟨_,(qi.leArgs (fg n _ _ _ e) (by try exact Sk)),?_⟩;conv=>whnf
 refine⟨id,id,id,id,?_⟩;conv=>whnf
 refine bq h fun⟨_,_⟩ d h=>⟨_,fun a=>Codec.at_ MJ (qa d a),?_⟩;conv=>whnf
 iterate 6 refine⟨id,?_⟩
 conv=>whnf
 refine bq h fun⟨_,_⟩ c h=>⟨_,fun a=>Codec.at_ MJ (qa c a),?_⟩;conv=>whnf
 refine⟨id,id,id,?_⟩;conv=>whnf
 refine bq h fun⟨_,_,_,_,_,_⟩ b h=>⟨_,fun a=>Codec.at_ xV (qa b a),?_⟩;conv=>whnf
 iterate 9 refine⟨id,?_⟩
 obtain rfl:=sj h;conv=>whnf
 try exact Sk
abbrev bJ (r:Bool):PV:=PV.bool r
def xn (n:Nat) (a:Int×Int->Option (Bool)) (b:Int):Int->Option (Bool):=fun c=>
 a (c,(kwr .i64 (b+1)))
def zS (n:Nat) (a:List Edge) (l g j:Int) (k:List Env) (e:List Node) (f i:List Env):LK (Int×Int) (Bool):=fun d (c,b)=>
 bif(decide (b<((Edge.rows a).length:Int)))then(
 bnd (idx a b) fun⟨_,m,_,_,_,_⟩=>
 bnd (idx a b) fun⟨_,_,o,_,_,_⟩=>
 bif(m==o)then(
 xn n d b (kwr .i64 (c+1)))
 else(
 xn n d b c))
 else(
 bnd (qG (bif(bif(bif(bif(bif(l==0)then(g==0)else false)then(j==0)else false)then(((Env.rows k).length:Int)==((Node.rows e).length:Int))else false)then(((Env.rows f).length:Int)==((Edge.rows a).length:Int))else false)then(((Env.rows i).length:Int)==(kwr .i64 ((kwr .i64 ((2:Int) * ((Edge.rows a).length:Int))) - c)))else false) (fZ n)) fun p=>
 some (bif(bif(bif(bif(bif(bif(l==0)then(g==0)else false)then(j==0)else false)then(((Env.rows k).length:Int)==((Node.rows e).length:Int))else false)then(((Env.rows f).length:Int)==((Edge.rows a).length:Int))else false)then(((Env.rows i).length:Int)==(kwr .i64 ((kwr .i64 ((2:Int) * ((Edge.rows a).length:Int))) - c)))else false)then p else false))
def uJ (n:Nat) (c:Graph):Option (Bool):=
 match c with
 | ⟨b,a⟩=>
 bnd (zQ n ([40,41,45,45,40,41]:SS)) fun j=>
 bnd (bh n j (pd.mk (Env.mk ([]:List SS) ([]:List Val)) (Graph.mk b a) (Val.mk (5:Int) false (0:Int) ([]:SS) ([]:List Val) ([]:List SS)))) fun k=>
 bif(bif(!k)then true else(decide ((kwr .i64 ((2:Int) * ((Edge.rows a).length:Int)))>4096)))then(
 bnd (fZ n) fun l=>
 some l)
 else(
 bnd (zQ n ([40,41]:SS)) fun m=>
 bnd (xA n m (pd.mk (Env.mk ([]:List SS) ([]:List Val)) (Graph.mk b a) (Val.mk (5:Int) false (0:Int) ([]:SS) ([]:List Val) ([]:List SS)))) fun⟨o,p⟩=>
 bnd (zQ n ([40,41,45,45,62,40,41]:SS)) fun q=>
 bnd (xA n q (pd.mk (Env.mk ([]:List SS) ([]:List Val)) (Graph.mk b a) (Val.mk (5:Int) false (0:Int) ([]:SS) ([]:List Val) ([]:List SS)))) fun⟨d,e⟩=>
 bnd (zQ n ([40,41,45,45,40,41]:SS)) fun f=>
 bnd (xA n f (pd.mk (Env.mk ([]:List SS) ([]:List Val)) (Graph.mk b a) (Val.mk (5:Int) false (0:Int) ([]:SS) ([]:List Val) ([]:List SS)))) fun⟨g,i⟩=>
 qU (zS n a p e i o b d g) n ((0:Int),(0:Int)))
theorem sR (n:Nat):∀ (c:Graph) (r:Bool),uJ n c=some r->qi TP 6 [PV.agg (df.cells c)] (bJ r):=by
 intro c r h;obtain⟨e,k⟩:=c;unfold uJ at h;refine zN Tryz.call6 Tryz.func6 [1000000] ?_;conv=>whnf
 refine bq h fun _ u h=>⟨_,(vT n _ _ u),?_⟩;conv=>whnf
 refine bq h fun _ t h=>⟨_,(qi.leArgs (FA n _ _ _ t) (by try exact Sk)),?_⟩;conv=>whnf
 refine⟨id,id,id,id,id,?_⟩;conv=>whnf
 apply ifc h<;>intro o h
 ·conv=>whnf
  refine bq h fun _ q h=>⟨_,(sV n _ q),?_⟩;obtain rfl:=sj h;conv=>whnf
  try exact Sk
 conv=>whnf
 refine bq h fun _ s h=>⟨_,(vT n _ _ s),?_⟩;conv=>whnf
 refine bq h fun⟨l,m⟩ D h=>⟨_,(qi.leArgs (fg n _ _ _ D) (by try exact Sk)),?_⟩;conv=>whnf
 refine bq h fun _ C h=>⟨_,(vT n _ _ C),?_⟩;conv=>whnf
 refine bq h fun⟨f,g⟩ A h=>⟨_,(qi.leArgs (fg n _ _ _ A) (by try exact Sk)),?_⟩;conv=>whnf
 refine bq h fun _ z h=>⟨_,(vT n _ _ z),?_⟩;conv=>whnf
 refine bq h fun⟨i,j⟩ y h=>⟨_,(qi.leArgs (fg n _ _ _ y) (by try exact Sk)),?_⟩;conv=>whnf
 refine zd.fn [1000000] (S:=Int×Int) (fun(b,a)=>[(1,.ptr 0 0),(4,.p (.sl (Env.rows l))),(5,pI m),(6,.p (.sl (Env.rows f))),(7,pI g),(8,.p (.sl (Env.rows i))),(9,pI j),(10,pI b),(11,pI a)]) (fun(b,a)=>[.box 30 [.p (.sl (Node.rows e)),.p (.sl (Edge.rows k))]]) (B:=zS n k m g j l e f i) h (wk [0] []) ?_;intro F st h;obtain⟨b,a⟩:=st;unfold zS at h;conv=>whnf
 apply ifc h<;>intro o h
 ·conv=>whnf
  refine nu.cut (S:=Int) (fun d=>[(1,.ptr 0 0),(4,.p (.sl (Env.rows l))),(5,pI m),(6,.p (.sl (Env.rows f))),(7,pI g),(8,.p (.sl (Env.rows i))),(9,pI j),(10,pI d),(11,pI a)]) (fun d=>[.box 30 [.p (.sl (Node.rows e)),.p (.sl (Edge.rows k))]]) (xn n F a) (r:=r) ?_ ?_
  ·intro d h
   unfold xn at h;conv=>whnf
   exact⟨(d,(kwr .i64 (a+1))),h,wk [0] []⟩
  conv=>whnf
  refine bq h fun⟨_,_,_,_,_,_⟩ w h=>⟨_,Codec.at_ nQ w,?_⟩;conv=>whnf
  refine bq h fun⟨_,_,_,_,_,_⟩ v h=>⟨_,Codec.at_ nQ v,?_⟩;conv=>whnf
  apply ifc h<;>intro o h
  ·conv=>whnf
   exact⟨(kwr .i64 (b+1)),h,wk [0] []⟩
  conv=>whnf
  exact⟨b,h,wk [0] []⟩
 conv=>whnf
 iterate 25 refine⟨id,?_⟩
 conv=>whnf
 refine bq h fun _ x h=>⟨_,fun E=>(sV n _ (qa x E)),?_⟩;conv=>whnf
 refine⟨id,?_⟩;obtain rfl:=sj h;conv=>whnf
 try exact Sk
end W
end
