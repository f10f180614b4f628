/- A part of the proof: contracts, printed by program. -/
import Derived.Test.YtglihheagfnakaaGreatC
import Derived.Test.YtglihheagfnakaaGreatD
import Derived.Test.YtglihheagfnakaaGreatE
import Derived.Test.YtglihheagfnakaaGreatF
import Derived.Test.YtglihheagfnakaaGreatG
set_option linter.unusedVariables false
set_option linter.unusedSimpArgs false
set_option linter.unnecessarySimpa false
set_option linter.deprecated false
set_option linter.unusedSectionVars false
set_option linter.constructorNameAsVariable false
open Go.IntKind renaming wrap->kwr,bits->kbt
open Nat renaming le_refl->jw,zero_add->jx
section
set_option maxRecDepth 100000
set_option maxHeartbeats 20000000
open Go Go.Proofs Ax
namespace W
abbrev Dw (r:UX×Int×Int):PV:=PV.tup [PV.agg (lx.cells r.1),PV.int .i64 r.2.1,PV.int .i64 r.2.2]
def bF (n:Nat) (d:List qo):Int×Bool×List qy->Option (UX×Int×Int):=fun(e,f,a)=>
 bif f then(
 bnd (idx d e) fun⟨_,_,_,b⟩=>
 some (UX.mk ([]:List qy),b,(1:Int)))
 else(
 bnd (sg n (UX.mk a)) fun c=>
 bif(!c)then(
 some (UX.mk ([]:List qy),(0:Int),(8:Int)))
 else(
 some (UX.mk a,(0:Int),(0:Int))))
def rI (n:Nat) (d:List qo):LK (Int×Int×Bool×List qy) (UX×Int×Int):=fun F (e,b,a,c)=>
 bnd (qE (!a) (idx d b)) fun⟨g,_,_,_⟩=>
 bnd (qE ((!a)&&(!(g != 6))) (pb n e)) fun G=>
 bif(bif(!a)then(bif(g != 6)then true else(bif(!G)then(e != 9)else false))else false)then(
 bif(e==9)then(
 bF n d (b,true,c))
 else(
 bnd (rF n d b a) fun⟨⟨f,i,j,⟨k,l,⟨m,o,p,q,s,t⟩,u,v⟩,w,x,y,z,A,B,C,D,E⟩,H,I⟩=>
 chk (decide ((qy.rows (c++[qy.mk f i j (qd.mk k l (Val.mk m o p q s t) u v) w x y z A B C D E])).length * 392<=140737488355328)) (
 F (f,H,I,(c++[qy.mk f i j (qd.mk k l (Val.mk m o p q s t) u v) w x y z A B C D E])))))
 else(
 bF n d (b,a,c))
def ZQ (n:Nat) (b:SS):Option (UX×Int×Int):=
 bnd (Vh n b) fun⟨c,d,a⟩=>
 bif(a != 0)then(
 some (UX.mk ([]:List qy),d,a))
 else(
 qC (rI n c) n ((0:Int),(0:Int),false,([]:List _)))
theorem Cv (n:Nat):∀ (I:SS) (r:UX×Int×Int),ZQ n I=some r->qc TP 21 [PV.str I] (Dw r):=by
 intro I r h;unfold ZQ at h;refine zN Tryz.call21 Tryz.func21 [45,40000014,50000002,60004000,1000000] ?_;conv=>whnf
 refine bq h fun⟨D,_,_⟩ V h=>⟨_,(BV n _ _ V),?_⟩;conv=>whnf
 apply ifc h<;>intro E h
 ·obtain rfl:=sj h
  conv=>whnf
  try exact oX
 conv=>whnf
 refine gW.cut (S:=Int×Bool×List qy) (fun(K,L,G)=>[(2,.ptr 0 0),(8,.ptr 1 0),(9,.ptr 2 0)]) (fun(K,L,G)=>[.box 67 [zq2],.box 117 [pK D,pI K,pB L],.box 67 [.tsl 3 (qy.rows G)],.tail 47 22 (qy.rows G).length]) (bF n D) (r:=r) ?_ ?_
 ·intro st h
  obtain⟨K,L,G⟩:=st;unfold bF at h;conv=>whnf
  apply ifc h<;>intro E h
  ·conv=>whnf
   refine bq h fun⟨_,_,_,_⟩ P h=>⟨_,Codec.at_ mf P,?_⟩;obtain rfl:=sj h;conv=>whnf
   try exact oX
  conv=>whnf
  refine bq h fun _ Q h=>⟨_,(VV n _ _ Q),?_⟩;conv=>whnf
  apply ifc h<;>intro E h
  ·obtain rfl:=sj h
   conv=>whnf
   try exact oX
  obtain rfl:=sj h;conv=>whnf
  try exact oX
 conv=>whnf
 refine qP.fn [45,40000014,50000002,60004000,1000000] (S:=Int×Int×Bool×List qy) (fun(J,C,F,a)=>[(2,.ptr 0 0),(8,.ptr 1 0),(9,.ptr 2 0),(10,pI J)]) (fun(J,C,F,a)=>[.box 67 [zq2],.box 117 [pK D,pI C,pB F],.box 67 [.tsl 3 (qy.rows a)],.tail 47 22 (qy.rows a).length]) (B:=rI n D) h (wk [0,1,2,0] [3]) ?_;intro _ st h;obtain⟨J,C,F,a⟩:=st;unfold rI at h;conv=>whnf
 iterate 8 refine⟨id,?_⟩
 conv=>whnf
 refine bq h fun⟨_,_,_,_⟩ U h=>⟨_,fun H=>Codec.at_ mf (qa U H),?_⟩;conv=>whnf
 refine⟨id,id,id,id,id,?_⟩;conv=>whnf
 refine bq h fun _ T h=>⟨_,fun H=>(Qq n _ _ (qa T H)),?_⟩;conv=>whnf
 iterate 8 refine⟨id,?_⟩
 conv=>whnf
 apply ifc h<;>intro E h
 ·conv=>whnf
  apply ifc h<;>intro E h
  ·conv=>whnf
   exact⟨(C,true,a),h,wk [0,1,2,3] []⟩
  conv=>whnf
  refine bq h fun⟨⟨b,c,d,⟨e,f,⟨g,i,j,k,l,m⟩,o,q⟩,s,t,u,v,w,x,y,z,A⟩,N,O⟩ R h=>?_;refine zz (Vl n _ _ _ _ R) [1] [] ?_;rintro _ _ ⟨rfl,rfl⟩;refine⟨.p (.agg [.int .i64 b,.sl (zU.rows c),.sl (qd.rows d),.int .i64 e,.str f,.int .i64 g,.bool i,.int .i64 j,.str k,.sl (Val.rows l),.sl (qi m),.sl (qi o),.sl (qd.rows q),.str s,.sl (xj.rows t),.bool u,.sl (zy.rows v),.sl (qd.rows w),.sl (qd.rows x),.sl (qv.rows y),.sl (qi z),.bool A]),[.box 67 [zq2],.box 117 [pK D,pI N,pB O],.box 67 [.tsl 3 (qy.rows a)],.tail 47 22 (qy.rows a).length],rfl,rfl,?_⟩;conv=>whnf
  refine⟨Codec.one ub [qy.mk b c d (qd.mk e f (Val.mk g i j k l m) o q) s t u v w x y z A],qy.rows [qy.mk b c d (qd.mk e f (Val.mk g i j k l m) o q) s t u v w x y z A],.inl rfl,?_⟩;conv=>whnf
  rw[show qy.rows a++qy.rows [qy.mk b c d (qd.mk e f (Val.mk g i j k l m) o q) s t u v w x y z A]=qy.rows (a++[qy.mk b c d (qd.mk e f (Val.mk g i j k l m) o q) s t u v w x y z A])from Codec.append ub a [qy.mk b c d (qd.mk e f (Val.mk g i j k l m) o q) s t u v w x y z A]];conv=>whnf
  obtain⟨M,h⟩:=qb h;refine⟨⟨Codec.wide ub (a++[qy.mk b c d (qd.mk e f (Val.mk g i j k l m) o q) s t u v w x y z A]),kod M,qO M (by decide)⟩,?_⟩;conv=>whnf
  refine⟨⟨rfl,rfl,rfl⟩,?_⟩;conv=>whnf
  exact⟨(b,N,O,(a++[qy.mk b c d (qd.mk e f (Val.mk g i j k l m) o q) s t u v w x y z A])),h,wk [0,1,2,5] []⟩
 conv=>whnf
 exact⟨(C,F,a),h,wk [0,1,2,3] []⟩
abbrev bP (r:Val):PV:=PV.agg (xZ.cells r)
def vz (n d:Nat) (g176:Val->Option (Val)) (f:List SS) (i:Int) (u:Bool) (y:Int) (z:SS):LK (Int×List Val) (Val):=fun g (a,b)=>
 bif(decide (a<((((Val.rows (List.replicate d (Val.mk (0:Int) false (0:Int) ([]:SS) ([]:List Val) ([]:List SS)))).length):Nat):Int)))then(
 bnd (rZ a) fun e=>
 chk (decide (e<(Val.rows (List.replicate d (Val.mk (0:Int) false (0:Int) ([]:SS) ([]:List Val) ([]:List SS)))).length)) (
 bnd (b[e]?) fun⟨j,k,l,m,o,p⟩=>
 bnd (g176 (Val.mk j k l m o p)) fun⟨q,s,t,v,w,x⟩=>
 bnd (rZ a) fun c=>
 chk (decide (c<(Val.rows (List.replicate d (Val.mk (0:Int) false (0:Int) ([]:SS) ([]:List Val) ([]:List SS)))).length)) (
 bnd (b[c]?) fun⟨_,_,_,_,_,_⟩=>
 g ((kwr .i64 (a+1)),(b.set c (Val.mk q s t v w x))))))
 else(
 chk (decide ((qi f).length * 16<=140737488355328)) (
 some (Val.mk i u y z b f)))
def fx (n:Nat) (g176:Val->Option (Val)) (c:Val):Option (Val):=
 match c with
 | ⟨d,e,f,g,a,i⟩=>
 bnd (rZ ((Val.rows a).length:Int)) fun b=>
 chk (decide (b * 88<=140737488355328)) (
 chk (decide ((Val.rows a).length=(Val.rows (List.replicate b (Val.mk (0:Int) false (0:Int) ([]:SS) ([]:List Val) ([]:List SS)))).length)) (
 qC (vz n b g176 i d e f g) n ((0:Int),a)))
theorem Un (n:Nat) (g176:Val->Option (Val)) (g176_ok:∀ (a r:Val),g176 a=some r->qc TP 176 [PV.agg (xZ.cells a)] (bP r)):∀ (a r:Val),fx n g176 a=some r->qc TP 176 [PV.agg (xZ.cells a)] (bP r):=by
 intro a r h;obtain⟨g,i,k,l,w,d⟩:=a;unfold fx at h;refine zN Tryz.call176 Tryz.func176 [56,10000008,1000000] ?_;conv=>whnf
 refine bq h fun b y h=>?_;have c:=qM y;conv=>whnf
 obtain⟨m,h⟩:=qb h;refine⟨b,Val.rows (List.replicate b (Val.mk (0:Int) false (0:Int) ([]:SS) ([]:List Val) ([]:List SS))),⟨c,c,kod m,qO m (by decide),Codec.madeN xZ (Val.mk (0:Int) false (0:Int) ([]:SS) ([]:List Val) ([]:List SS)) b (by try exact oX),rfl,by decide,rfl⟩,?_⟩;conv=>whnf
 obtain⟨H,h⟩:=qb h;refine⟨⟨rfl,kod H,Codec.wide xZ w⟩,?_⟩;conv=>whnf
 refine qP.fn [56,10000008,1000000] (S:=Int×List Val) (fun(f,e)=>[(1,.ptr 0 0),(2,.ptr 1 0),(3,.vsl 2 ((Val.rows (List.replicate b (Val.mk (0:Int) false (0:Int) ([]:SS) ([]:List Val) ([]:List SS)))).length)),(14,.p (.int .i64 ((((Val.rows (List.replicate b (Val.mk (0:Int) false (0:Int) ([]:SS) ([]:List Val) ([]:List SS)))).length):Nat):Int))),(15,pI f)]) (fun(f,e)=>[.box 35 [pI g,pB i,pI k,pS l,pV w,pT d],.box 35 [zq0,pB false,zq0,zq1,zq2,zq2],.vec 35 6 (Val.rows e)]) (B:=vz n b g176 d g i k l) h (wk [0,1,2] []) ?_;intro _ st h;obtain⟨f,e⟩:=st;unfold vz at h;conv=>whnf
 apply ifc h<;>intro _ h
 ·conv=>whnf
  refine bq h fun I F h=>?_;have c:=qM F;conv=>whnf
  obtain⟨E,h⟩:=qb h;refine⟨I,⟨c,kod E⟩,?_⟩;conv=>whnf
  refine bq h fun⟨_,_,_,_,_,_⟩ D h=>⟨_,⟨rfl,Codec.getN xZ D⟩,?_⟩;conv=>whnf
  refine bq h fun⟨o,q,s,t,u,v⟩ C h=>⟨_,(g176_ok _ _ C),?_⟩;conv=>whnf
  refine bq h fun j A h=>?_;have c:=qM A;conv=>whnf
  obtain⟨z,h⟩:=qb h;refine⟨j,⟨c,kod z⟩,?_⟩;conv=>whnf
  refine bq h fun⟨_,_,_,_,_,_⟩ x h=>⟨_,⟨rfl,Codec.getN xZ x,rfl⟩,?_⟩;conv=>whnf
  refine⟨_,Codec.setN xZ e j (Val.mk o q s t u v),?_⟩;conv=>whnf
  exact⟨((kwr .i64 (f+1)),(e.set j (Val.mk o q s t u v))),h,wk [0,1,2] []⟩
 conv=>whnf
 obtain⟨G,h⟩:=qb h;refine zz (bu d (kod G)) [] [] ?_;rintro _ _ ⟨rfl,rfl⟩;refine⟨.tsl 3 (qi d),[.box 35 [pI g,pB i,pI k,pS l,.vsl 2 ((Val.rows (List.replicate b (Val.mk (0:Int) false (0:Int) ([]:SS) ([]:List Val) ([]:List SS)))).length),pT d],.box 35 [zq0,pB false,zq0,zq1,zq2,zq2],.vec 35 6 (Val.rows e),.tail 9 1 (qi d).length],rfl,rfl,?_⟩;obtain rfl:=sj h;conv=>whnf
 try exact oX
def xh:Nat->Val->Option (Val)
 | 0=>fun _=>none
 | n+1=>fx n (xh n)
theorem Uw (n:Nat):(∀ (a r:Val),xh n a=some r->qc TP 176 [PV.agg (xZ.cells a)] (bP r)):=by
 induction n with
 | zero=>exact(by intros; rename_i h; cases h)
 | succ n ih=>
  have hg176:=ih;exact Un n (xh n) hg176
theorem nJ (n:Nat):∀ (a r:Val),xh n a=some r->qc TP 176 [PV.agg (xZ.cells a)] (bP r):=(Uw n)
abbrev US (r:List SS×List Val):PV:=PV.tup [PV.sl (qi r.1),PV.sl (Val.rows r.2)]
def xn (n:Nat) (k:List Val) (c:List SS):LK (List Val×Int) (List SS×List Val):=fun l (a,b)=>
 bif(decide (b<((Val.rows k).length:Int)))then(
 bnd (idx k b) fun⟨p,q,s,t,m,o⟩=>
 bnd (xh n (Val.mk p q s t m o)) fun⟨d,e,f,g,i,j⟩=>
 chk (decide ((Val.rows (a++[Val.mk d e f g i j])).length * 88<=140737488355328)) (
 l ((a++[Val.mk d e f g i j]),(kwr .i64 (b+1)))))
 else(
 chk (decide ((qi c).length * 16<=140737488355328)) (
 some (c,a)))
def vO (n:Nat) (b:List SS) (a:List Val):Option (List SS×List Val):=
 bnd (rZ ((Val.rows a).length:Int)) fun c=>
 chk (decide (c * 88<=140737488355328)) (
 qC (xn n a b) n (([]:List Val),(0:Int)))
theorem sz (n:Nat):∀ (b:List SS) (j:List Val) (r:List SS×List Val),vO n b j=some r->qc TP 147 [PV.sl (qi b),PV.sl (Val.rows j)] (US r):=by
 intro b j r h;unfold vO at h;refine zN Tryz.call147 Tryz.func147 [56,1000000] ?_;conv=>whnf
 refine bq h fun v t h=>?_;have u:=qM t;conv=>whnf
 obtain⟨m,h⟩:=qb h;refine⟨v,⟨rfl,u,kod m,qO m (by decide)⟩,?_⟩;conv=>whnf
 refine qP.fn [56,1000000] (S:=List Val×Int) (fun(a,k)=>[(0,pT b),(6,.tsl 0 (Val.rows a)),(12,pV j),(13,.p (.int .i64 ((Val.rows j).length:Int))),(14,pI k)]) (fun(a,k)=>[.tail 35 6 (Val.rows a).length]) (B:=xn n j b) h (wk [0] []) ?_;intro _ st h;obtain⟨a,k⟩:=st;unfold xn at h;conv=>whnf
 apply ifc h<;>intro _ h
 ·conv=>whnf
  refine bq h fun⟨_,_,_,_,_,_⟩ q h=>⟨_,Codec.at_ xZ q,?_⟩;conv=>whnf
  refine bq h fun⟨c,d,e,f,g,i⟩ o h=>⟨_,(nJ n _ _ o),?_⟩;conv=>whnf
  refine⟨Codec.one xZ [Val.mk c d e f g i],Val.rows [Val.mk c d e f g i],.inl rfl,?_⟩;conv=>whnf
  rw[show Val.rows a++Val.rows [Val.mk c d e f g i]=Val.rows (a++[Val.mk c d e f g i])from Codec.append xZ a [Val.mk c d e f g i]];conv=>whnf
  obtain⟨l,h⟩:=qb h;refine⟨⟨Codec.wide xZ (a++[Val.mk c d e f g i]),kod l,qO l (by decide)⟩,?_⟩;conv=>whnf
  refine⟨⟨rfl,rfl,rfl⟩,?_⟩;conv=>whnf
  exact⟨((a++[Val.mk c d e f g i]),(kwr .i64 (k+1))),h,wk [2] []⟩
 conv=>whnf
 obtain⟨s,h⟩:=qb h;refine zz (bu b (kod s)) [] [] ?_;rintro _ _ ⟨rfl,rfl⟩;refine⟨.tsl 1 (qi b),[.tail 35 6 (Val.rows a).length,.tail 9 1 (qi b).length],rfl,rfl,?_⟩;obtain rfl:=sj h;conv=>whnf
 try exact oX
abbrev XH (r:Node):PV:=PV.agg (zL.cells r)
def xF (n:Nat) (b:Node):Option (Node):=
 match b with
 | ⟨c,a,d,e⟩=>
 chk (decide ((qi a).length * 16<=140737488355328)) (
 bnd (vO n d e) fun⟨f,g⟩=>
 some (Node.mk c a f g))
theorem nH (n:Nat):∀ (a r:Node),xF n a=some r->qc TP 101 [PV.agg (zL.cells a)] (XH r):=by
 intro a r h;obtain⟨e,b,f,g⟩:=a;unfold xF at h;refine zN Tryz.call101 Tryz.func101 [56,1000000] ?_;conv=>whnf
 obtain⟨d,h⟩:=qb h;refine zz (bu b (kod d)) [] [] ?_;rintro _ _ ⟨rfl,rfl⟩;refine⟨.tsl 2 (qi b),[.box 88 [pI e,pT b,pT f,pV g],.box 88 [zq0,zq2,zq2,zq2],.tail 9 1 (qi b).length],rfl,rfl,?_⟩;conv=>whnf
 refine bq h fun⟨_,_⟩ c h=>⟨_,(sz n _ _ _ c),?_⟩;obtain rfl:=sj h;conv=>whnf
 try exact oX
abbrev XG (r:Edge):PV:=PV.agg (zD.cells r)
def xD (n:Nat) (a:Edge):Option (Edge):=
 match a with
 | ⟨b,c,d,e,f,g⟩=>
 bnd (vO n f g) fun⟨i,j⟩=>
 some (Edge.mk b c d e i j)
theorem nG (n:Nat):∀ (a r:Edge),xD n a=some r->qc TP 102 [PV.agg (zD.cells a)] (XG r):=by
 intro a r h;obtain⟨_,_,_,_,_,_⟩:=a;unfold xD at h;refine zN Tryz.call102 Tryz.func102 [1000000] ?_;conv=>whnf
 refine bq h fun⟨_,_⟩ b h=>⟨_,(sz n _ _ _ b),?_⟩;obtain rfl:=sj h;conv=>whnf
 try exact oX
abbrev CW (r:Graph):PV:=PV.agg (vG.cells r)
def uM (n:Nat) (c:List Edge) (t:List Node):LK (Int×List Edge) (Graph):=fun k (a,b)=>
 bif(decide (a<((Edge.rows c).length:Int)))then(
 bnd (idx c a) fun⟨l,m,o,p,q,s⟩=>
 bnd (xD n (Edge.mk l m o p q s)) fun⟨d,e,f,g,i,j⟩=>
 chk (decide ((Edge.rows (b++[Edge.mk d e f g i j])).length * 88<=140737488355328)) (
 k ((kwr .i64 (a+1)),(b++[Edge.mk d e f g i j]))))
 else(
 some (Graph.mk t b))
def uL (n:Nat) (c:List Node) (j:List Edge):LK (Int×List Node) (Graph):=fun i (a,b)=>
 bif(decide (a<((Node.rows c).length:Int)))then(
 bnd (idx c a) fun⟨k,l,m,o⟩=>
 bnd (xF n (Node.mk k l m o)) fun⟨g,d,e,f⟩=>
 chk (decide ((Node.rows (b++[Node.mk g d e f])).length * 80<=140737488355328)) (
 i ((kwr .i64 (a+1)),(b++[Node.mk g d e f]))))
 else(
 qC (uM n j b) n ((0:Int),([]:List _)))
def xV (n:Nat) (a:Graph):Option (Graph):=
 match a with
 | ⟨b,c⟩=>
 qC (uL n b c) n ((0:Int),([]:List _))
theorem uN (n:Nat):∀ (q r:Graph),xV n q=some r->qc TP 55 [PV.agg (vG.cells q)] (CW r):=by
 intro q r h;obtain⟨s,o⟩:=q;unfold xV at h;refine zN Tryz.call55 Tryz.func55 [1000000] ?_;conv=>whnf
 refine qP.fn [1000000] (S:=Int×List Node) (fun(u,a)=>[(1,.ptr 0 0),(2,.ptr 1 0),(3,.ptr 2 0),(9,.p (.sl (Node.rows s))),(10,.p (.int .i64 ((Node.rows s).length:Int))),(11,pI u)]) (fun(u,a)=>[.box 29 [.p (.sl (Node.rows s)),.p (.sl (Edge.rows o))],.box 29 [zq2,zq2],.box 29 [.tsl 3 (Node.rows a),zq2],.tail 88 4 (Node.rows a).length]) (B:=uL n s o) h (wk [0,1,2,0] [3]) ?_;intro _ st h;obtain⟨u,a⟩:=st;unfold uL at h;conv=>whnf
 apply ifc h<;>intro C h
 ·conv=>whnf
  refine bq h fun⟨_,_,_,_⟩ y h=>⟨_,Codec.at_ zL y,?_⟩;conv=>whnf
  refine bq h fun⟨m,c,d,e⟩ x h=>⟨_,(nH n _ _ x),?_⟩;conv=>whnf
  refine⟨Codec.one zL [Node.mk m c d e],Node.rows [Node.mk m c d e],.inl rfl,?_⟩;conv=>whnf
  rw[show Node.rows a++Node.rows [Node.mk m c d e]=Node.rows (a++[Node.mk m c d e])from Codec.append zL a [Node.mk m c d e]];conv=>whnf
  obtain⟨v,h⟩:=qb h;refine⟨⟨Codec.wide zL (a++[Node.mk m c d e]),kod v,qO v (by decide)⟩,?_⟩;conv=>whnf
  refine⟨⟨rfl,rfl,rfl⟩,?_⟩;conv=>whnf
  exact⟨((kwr .i64 (u+1)),(a++[Node.mk m c d e])),h,wk [0,1,2,5] []⟩
 conv=>whnf
 refine qP.fn [1000000] (S:=Int×List Edge) (fun(t,b)=>[(2,.ptr 0 0),(3,.ptr 1 0),(24,.p (.sl (Edge.rows o))),(25,.p (.int .i64 ((Edge.rows o).length:Int))),(26,pI t)]) (fun(t,b)=>[.box 29 [zq2,zq2],.box 29 [.tsl 2 (Node.rows a),.tsl 3 (Edge.rows b)],.tail 88 4 (Node.rows a).length,.tail 86 6 (Edge.rows b).length]) (B:=uM n o a) h (wk [1,2,3,0] [3]) ?_;intro _ st h;obtain⟨t,b⟩:=st;unfold uM at h;conv=>whnf
 apply ifc h<;>intro C h
 ·conv=>whnf
  refine bq h fun⟨_,_,_,_,_,_⟩ A h=>⟨_,Codec.at_ zD A,?_⟩;conv=>whnf
  refine bq h fun⟨f,g,i,j,k,l⟩ z h=>⟨_,(nG n _ _ z),?_⟩;conv=>whnf
  refine⟨Codec.one zD [Edge.mk f g i j k l],Edge.rows [Edge.mk f g i j k l],.inl rfl,?_⟩;conv=>whnf
  rw[show Edge.rows b++Edge.rows [Edge.mk f g i j k l]=Edge.rows (b++[Edge.mk f g i j k l])from Codec.append zD b [Edge.mk f g i j k l]];conv=>whnf
  obtain⟨w,h⟩:=qb h;refine⟨⟨Codec.wide zD (b++[Edge.mk f g i j k l]),kod w,qO w (by decide)⟩,?_⟩;conv=>whnf
  refine⟨⟨rfl,rfl,rfl⟩,?_⟩;conv=>whnf
  exact⟨((kwr .i64 (t+1)),(b++[Edge.mk f g i j k l])),h,wk [0,1,2,5] []⟩
 obtain rfl:=sj h;conv=>whnf
 try exact oX
def ZS (n:Nat) (x:qd) (_e:Env) (_g:Graph) (_p:Val):Option (Val×Int):=
 match x with
 | ⟨op,_,v,_,_⟩=>bif op==1 then(match xh n v with|some u=>some (u,0)|none=>none)else none
open Go.RowKit in
set_option maxHeartbeats 4000000 in
set_option maxRecDepth 100000 in
theorem F_eval_Eval_ok (n : Nat) : ∀ (x : qd) (e : Env) (g : Graph) (p : Val) (r : Val × Int), ZS n x e g p = some r -> qc Tryz.prog 153 [PV.agg (xT.cells x), PV.agg (SV.cells e), PV.agg (vG.cells g), PV.agg (xZ.cells p)] (PV.tup [PV.agg (xZ.cells r.1), PV.int .i64 r.2]) := by
  intro x e g p r h Lw H w vs s rl
  obtain ⟨op, nm, vx, ar, ex⟩ := x
  obtain ⟨en, ev⟩ := e
  obtain ⟨gn, ge⟩ := g
  have hop : op = 1 /\ ∃ u, xh n vx = some u /\ r = (u, 0) := by
    simp only [ZS] at h
    cases e : op == 1
    · rw [e] at h; cases h
    · rw [e] at h
      simp only [kct] at h
      split at h
      · rename_i u hu; exact ⟨by simpa using e, u, hu, (Option.some.inj h).symm⟩
      · cases h
  obtain ⟨rfl, u, hu, rfl⟩ := hop
  obtain ⟨v1, _, rfl, r1, v2, _, rfl, r2, v3, _, rfl, r3, v4, _, rfl, r4, hv⟩ := rl
  obtain rfl := hv
  obtain ⟨u1, rfl, r1⟩ := r1
  obtain ⟨u2, rfl, r2⟩ := r2
  obtain ⟨u3, rfl, r3⟩ := r3
  obtain ⟨u4, rfl, r4⟩ := r4
  obtain ⟨k, i, b, st, p1, q1, n1, c1, m1, e1, rfl⟩ := Eh r4
  obtain ⟨e1', u2', rfl, hn1, e2', _, rfl, hn2, rfl⟩ := r2
  obtain ⟨g1', u3', rfl, hg1, g2', _, rfl, hg2, rfl⟩ := r3
  obtain ⟨p2, c2, rfl⟩ := xu hn1
  obtain ⟨p3, c3, rfl⟩ := xu hn2
  obtain ⟨p4, c4, rfl⟩ := xu hg1
  obtain ⟨p5, c5, rfl⟩ := xu hg2
  obtain ⟨k2, b2, i2, s2, l2, ks2⟩ := vx
  simp only [xT, qd.cells, Val.cells, List.cons_append, List.nil_append, qU] at r1
  obtain ⟨y1, _, rfl, h1, y2, _, rfl, h2, y3, _, rfl, h3, y4, _, rfl, h4, y5, _, rfl, h5, y6, _, rfl, h6, y7, _, rfl, h7, y8, _, rfl, h8, y9, _, rfl, h9, y10, _, rfl, h10, rfl⟩ := r1
  have hvv : qU H (xZ.cells ⟨k2, b2, i2, s2, l2, ks2⟩) [y3, y4, y5, y6, y7, y8] := by
    simp only [xZ, Val.cells, qU]
    exact ⟨_, _, rfl, h3, _, _, rfl, h4, _, _, rfl, h5, _, _, rfl, h6, _, _, rfl, h7, _, _, rfl, h8, rfl⟩
  obtain ⟨p7, c7, rfl⟩ := xu h7
  obtain ⟨p8, c8, rfl⟩ := xu h8
  obtain ⟨p9, c9, rfl⟩ := xu h9
  obtain ⟨p10, c10, rfl⟩ := xu h10
  simp only [qu] at h1 h2 h3 h4 h5 h6
  subst h1 h2 h3 h4 h5 h6
  have hcp := nJ n _ _ hu
  rw [show (callFunc 153 _).run Tryz.prog w = _ from Tryz.call153 _ _]
  refine ⟨rfl, ?_⟩
  go_enter Tryz.func153, Tryz.ntmps153
  go_wp2_with (first | (go_at_call 178; refine (NK _ _ _ _ _ _ _ _ _ _ _ _ _ _ _).mono ?_; rintro e w1 ⟨rfl, hB⟩))
  have hB2 := ((((((Below.refl w.heap.size w).alloc (jw _) (.cells #[Value.int IntKind.i64 1, Value.string ⟨nm.toArray⟩, Value.int IntKind.i64 k2, Value.bool b2, Value.int IntKind.i64 i2, Value.string ⟨s2.toArray⟩, Value.slice p7 l2.length c7, Value.slice p8 ks2.length c8, Value.slice p9 ar.length c9, Value.slice p10 (qd.rows ex).length c10] 42)).alloc (by simp) (.cells #[Value.slice p2 en.length c2, Value.slice p3 ev.length c3] 25)).alloc (by simp; omega) (.cells #[Value.slice p4 (Node.rows gn).length c4, Value.slice p5 (Edge.rows ge).length c5] 29)).alloc (by simp; omega) (.cells #[Value.int IntKind.i64 k, Value.bool b, Value.int IntKind.i64 i, Value.string st, Value.slice p1 n1 c1, Value.slice q1 m1 e1] 35)).alloc (by simp; omega) (.cells #[Value.int IntKind.i64 0, Value.bool false, Value.int IntKind.i64 0, Value.string ⟨#[]⟩, Value.slice none 0 0, Value.slice none 0 0] 35)).alloc (by simp; omega) (.cells #[Value.slice p2 en.length c2, Value.slice p3 ev.length c3, Value.slice p4 (Node.rows gn).length c4, Value.slice p5 (Edge.rows ge).length c5, Value.int IntKind.i64 k, Value.bool b, Value.int IntKind.i64 i, Value.string st, Value.slice p1 n1 c1, Value.slice q1 m1 e1] 240)
  have hB3 := hB2.trans (hB.mono (by simp; omega))
  have hB4 := hB3.alloc (by have := hB3.size; omega) (.cells #[.int .i64 k2, .bool b2, .int .i64 i2, .string ⟨s2.toArray⟩, .slice p7 l2.length c7, .slice p8 ks2.length c8] 35)
  have el : (Val.rows l2).length = l2.length := Codec.length (C := xZ) l2
  rw [el, nW] at hvv
  have hcall := BO (fun _ _ => Tryz.call176 _ _) hcp (bj s hB4).sat ⟨_, [], rfl, ⟨_, rfl, hvv⟩, rfl⟩
  refine hcall.mono ?_
  rintro e w2 ⟨v, H', rfl, hC, hr⟩
  obtain ⟨us, rfl, hr⟩ := hr
  obtain ⟨k', i', b', s', p', q', n', c', m', e', rfl⟩ := Eh hr
  have k1 := hC.keep.block (w.heap.size + 1 + 1 + 1 + 1) (by have := hB.size; simp at this ⊢; omega) (fun h => h)
  have k2 := (k1.trans (Below.heap_alloc w1 _ _ (by have := hB.size; simp at this; omega))).trans (hB.block _ (by simp))
  have k3 := k2.trans (Below.heap_alloc _ _ _ (by simp))
  have cz : w2.heap[w.heap.size + 1 + 1 + 1 + 1]? = some (.cells #[Value.int IntKind.i64 0, Value.bool false, Value.int IntKind.i64 0, Value.string ⟨#[]⟩, Value.slice none 0 0, Value.slice none 0 0] 35) := by
    exact k3.trans (Zc _ _ _ (by simp))
  have hA := (bj s hB4).trans hC
  have hno : ∀ o u, H' (w.heap.size + 1 + 1 + 1 + 1) o ≠ some u := fun o u hu => by
    rcases hC.new _ _ _ hu with ⟨u', hu'⟩ | h
    · have := s.lt hu'; omega
    · have := hB.size; simp at h this; omega
  have hge : w.heap.size <= w.heap.size + 1 + 1 + 1 + 1 := by omega
  clear hC hB4 hB3 hB2 hB k1 k2 k3 hcall
  generalize w.heap.size + 1 + 1 + 1 + 1 = bz at *
  have z0 : w2.cell? ⟨bz, 0, none⟩ = some (Value.int IntKind.i64 0) := by simp [World.cell?, cz]
  have z1 : w2.cell? ⟨bz, 1, none⟩ = some (Value.bool false) := by simp [World.cell?, cz]
  have z2 : w2.cell? ⟨bz, 2, none⟩ = some (Value.int IntKind.i64 0) := by simp [World.cell?, cz]
  have z3 : w2.cell? ⟨bz, 3, none⟩ = some (Value.string ⟨#[]⟩) := by simp [World.cell?, cz]
  have z4 : w2.cell? ⟨bz, 4, none⟩ = some (Value.slice none 0 0) := by simp [World.cell?, cz]
  have z5 : w2.cell? ⟨bz, 5, none⟩ = some (Value.slice none 0 0) := by simp [World.cell?, cz]
  have zf : ∀ i, w2.frozen? ⟨bz, i, none⟩ = false := fun i => by simp [World.frozen?, cz]
  have f0 := zf 0
  have f1 := zf 1
  have f2 := zf 2
  have f3 := zf 3
  have f4 := zf 4
  have f5 := zf 5
  obtain ⟨w3, e3, hb3, hg3⟩ := oA w2 bz _ _ _ _ _ _ (Value.int IntKind.i64 k') (Value.bool b') (Value.int IntKind.i64 i') (Value.string s') (Value.slice p' n' c') (Value.slice q' m' e') 35 cz
  have hcalm : Calm H w H' w3 := ⟨hA.le, hA.sat.block hg3.size fun bb o v hv => hg3.block bb (hA.sat.lt hv) fun e => hno o v (by cases e; exact hv), ⟨hg3.os.trans hA.keep.os, hg3.tape.trans hA.keep.tape, hg3.output.trans hA.keep.output, Nat.le_trans hA.keep.size hg3.size, fun kk hk hn => (hg3.block kk (Nat.lt_of_lt_of_le hk hA.keep.size) (fun e => by cases e; omega)).trans (hA.keep.block kk hk hn)⟩, hA.new⟩
  clear hg3 hA cz hno
  simp only []
  go_wp2
  refine bodyPost_ret (v := .tuple #[.agg #[.int .i64 k', .bool b', .int .i64 i', .string s', .slice p' n' c', .slice q' m' e'], .int .i64 0]) ?_ rfl ⟨_, H', rfl, hcalm, ⟨_, rfl, ⟨_, _, rfl, ⟨_, rfl, hr⟩, _, _, rfl, rfl, rfl⟩⟩⟩
  have hl := run_loadCells_list (P := Tryz.prog) _ ⟨bz, 0, none⟩ [.int .i64 k', .bool b', .int .i64 i', .string s', .slice p' n' c', .slice q' m' e'] (SN hb3)
  simp only [List.length_cons, List.length_nil] at hl
  simp [results, Tryz.f153, loadVar, asAddr, hl]
abbrev dC (r:Bool):PV:=PV.bool r
abbrev Di:Type:=Val->Option (Bool)
def pY (n:Nat) (g154:Di) (g160z179:(List Val)->Option (Bool)) (g196z179:(List Val)->Option (Int)) (g179:Di) (b:Val):Option (Bool):=
 match b with
 | ⟨a,_,_,_,c,_⟩=>
 bnd (qE (decide (a<6)) (g160z179 c)) fun d=>
 some (bif(decide (a<6))then(!d)else false)
abbrev qw (r:Bool):PV:=PV.bool r
def ze (n:Nat) (g154:Di) (g160z179:(List Val)->Option (Bool)) (g196z179:(List Val)->Option (Int)) (g179:Di) (a:List Val):Option (Bool):=
 bnd (g196z179 a) fun b=>
 some (decide (b≥0))
abbrev qx (r:Int):PV:=PV.int .i64 r
def zi (n:Nat) (b:List Val) (g179:Di):LK (Int) (Int):=fun c a=>
 bif(decide (a<((Val.rows b).length:Int)))then(
 bnd (idx b a) fun⟨d,e,f,g,i,j⟩=>
 bnd (g179 (Val.mk d e f g i j)) fun k=>
 bif k then(
 some a)
 else(
 c (kwr .i64 (a+1))))
 else(
 some (-1:Int))
def zk (n:Nat) (g154:Di) (g160z179:(List Val)->Option (Bool)) (g196z179:(List Val)->Option (Int)) (g179:Di) (a:List Val):Option (Int):=
 qC (zi n a g179) n (0:Int)
abbrev dD (r:Bool):PV:=PV.bool r
def dL (n:Nat) (g154:Di) (g160z179:(List Val)->Option (Bool)) (g196z179:(List Val)->Option (Int)) (g179:Di) (a:Val):Option (Bool):=
 match a with
 | ⟨b,c,d,e,f,g⟩=>
 bnd (g154 (Val.mk b c d e f g)) fun i=>
 some (!i)
abbrev aO (g154:Di):Prop:=∀ (a:Val) (r:Bool),g154 a=some r->qc TP 154 [PV.agg (xZ.cells a)] (dC r)
abbrev aP (g179:Di):Prop:=∀ (a:Val) (r:Bool),g179 a=some r->qc TP 179 [PV.agg (xZ.cells a)] (dD r)
theorem Vf (n:Nat) (g154:Di) (g160z179:(List Val)->Option (Bool)) (g196z179:(List Val)->Option (Int)) (g179:Di) (g154_ok:aO g154) (g160_179_ok:∀ (a:List Val) (r:Bool),g160z179 a=some r->qc TP 160 [PV.sl (Val.rows a),PV.fn 179] (qw r)) (g196_179_ok:∀ (a:List Val) (r:Int),g196z179 a=some r->qc TP 196 [PV.sl (Val.rows a),PV.fn 179] (qx r)) (g179_ok:aP g179):∀ (b:Val) (r:Bool),pY n g154 g160z179 g196z179 g179 b=some r->qc TP 154 [PV.agg (xZ.cells b)] (dC r):=by
 intro b r h;obtain⟨a,_,_,_,_,_⟩:=b;unfold pY at h;refine zN Tryz.call154 Tryz.func154 [1000000] ?_;conv=>whnf
 refine⟨id,id,?_⟩;conv=>whnf
 refine bq h fun _ c h=>⟨_,fun d=>(g160_179_ok _ _ (qa c d)),?_⟩;conv=>whnf
 refine⟨id,id,?_⟩;obtain rfl:=sj h;conv=>whnf
 try exact oX
theorem xW (n:Nat) (g154:Di) (g160z179:(List Val)->Option (Bool)) (g196z179:(List Val)->Option (Int)) (g179:Di) (g154_ok:aO g154) (g160_179_ok:∀ (a:List Val) (r:Bool),g160z179 a=some r->qc TP 160 [PV.sl (Val.rows a),PV.fn 179] (qw r)) (g196_179_ok:∀ (a:List Val) (r:Int),g196z179 a=some r->qc TP 196 [PV.sl (Val.rows a),PV.fn 179] (qx r)) (g179_ok:aP g179):∀ (a:List Val) (r:Bool),ze n g154 g160z179 g196z179 g179 a=some r->qc TP 160 [PV.sl (Val.rows a),PV.fn 179] (qw r):=by
 intro a r h;unfold ze at h;refine zN Tryz.call160 Tryz.func160 [1000000] ?_;conv=>whnf
 refine bq h fun _ b h=>⟨_,(g196_179_ok _ _ b),?_⟩;obtain rfl:=sj h;conv=>whnf
 try exact oX
theorem vn (n:Nat) (g154:Di) (g160z179:(List Val)->Option (Bool)) (g196z179:(List Val)->Option (Int)) (g179:Di) (g154_ok:aO g154) (g160_179_ok:∀ (a:List Val) (r:Bool),g160z179 a=some r->qc TP 160 [PV.sl (Val.rows a),PV.fn 179] (qw r)) (g196_179_ok:∀ (a:List Val) (r:Int),g196z179 a=some r->qc TP 196 [PV.sl (Val.rows a),PV.fn 179] (qx r)) (g179_ok:aP g179):∀ (a:List Val) (r:Int),zk n g154 g160z179 g196z179 g179 a=some r->qc TP 196 [PV.sl (Val.rows a),PV.fn 179] (qx r):=by
 intro a r h;unfold zk at h;refine zN Tryz.call196 Tryz.func196 [1000000] ?_;conv=>whnf
 refine qP.fn [1000000] (S:=Int) (fun b=>[(0,pV a),(1,.p (.fn 179)),(7,.p (.int .i64 ((Val.rows a).length:Int))),(8,pI b)]) (fun b=>[]) (B:=zi n a g179) h (wk [] []) ?_;intro _ b h;unfold zi at h;conv=>whnf
 apply ifc h<;>intro e h
 ·conv=>whnf
  refine bq h fun⟨_,_,_,_,_,_⟩ d h=>⟨_,Codec.at_ xZ d,?_⟩;conv=>whnf
  refine bq h fun _ c h=>⟨_,(g179_ok _ _ c),?_⟩;conv=>whnf
  apply ifc h<;>intro e h
  ·obtain rfl:=sj h
   conv=>whnf
   try exact oX
  conv=>whnf
  exact⟨(kwr .i64 (b+1)),h,wk [] []⟩
 obtain rfl:=sj h;conv=>whnf
 try exact oX
theorem Zn (n:Nat) (g154:Di) (g160z179:(List Val)->Option (Bool)) (g196z179:(List Val)->Option (Int)) (g179:Di) (g154_ok:aO g154) (g160_179_ok:∀ (a:List Val) (r:Bool),g160z179 a=some r->qc TP 160 [PV.sl (Val.rows a),PV.fn 179] (qw r)) (g196_179_ok:∀ (a:List Val) (r:Int),g196z179 a=some r->qc TP 196 [PV.sl (Val.rows a),PV.fn 179] (qx r)) (g179_ok:aP g179):∀ (b:Val) (r:Bool),dL n g154 g160z179 g196z179 g179 b=some r->qc TP 179 [PV.agg (xZ.cells b)] (dD r):=by
 intro b r h;obtain⟨a,_,_,_,_,_⟩:=b;unfold dL at h;refine zN Tryz.call179 Tryz.func179 [1000000] ?_;conv=>whnf
 refine bq h fun _ c h=>⟨_,(g154_ok _ _ c),?_⟩;obtain rfl:=sj h;conv=>whnf
 try exact oX
mutual
def xG:Nat->Val->Option (Bool)
 | 0=>fun _=>none
 | n+1=>pY n (xG n) (qh n) (qn n) (xH n)
def qh:Nat->(List Val)->Option (Bool)
 | 0=>fun _=>none
 | n+1=>ze n (xG n) (qh n) (qn n) (xH n)
def qn:Nat->(List Val)->Option (Int)
 | 0=>fun _=>none
 | n+1=>zk n (xG n) (qh n) (qn n) (xH n)
def xH:Nat->Val->Option (Bool)
 | 0=>fun _=>none
 | n+1=>dL n (xG n) (qh n) (qn n) (xH n)
end
theorem Vu (n:Nat):(∀ (a:Val) (r:Bool),xG n a=some r->qc TP 154 [PV.agg (xZ.cells a)] (dC r))/\(∀ (b:List Val) (r:Bool),qh n b=some r->qc TP 160 [PV.sl (Val.rows b),PV.fn 179] (qw r))/\(∀ (b:List Val) (r:Int),qn n b=some r->qc TP 196 [PV.sl (Val.rows b),PV.fn 179] (qx r))/\(∀ (a:Val) (r:Bool),xH n a=some r->qc TP 179 [PV.agg (xZ.cells a)] (dD r)):=by
 induction n with
 | zero=>exact⟨(by intros; rename_i h; cases h),(by intros; rename_i h; cases h),(by intros; rename_i h; cases h),(by intros; rename_i h; cases h)⟩
 | succ n ih=>
  obtain⟨hg154,hg160_179,hg196_179,hg179⟩:=ih;exact⟨Vf n (xG n) (qh n) (qn n) (xH n) hg154 hg160_179 hg196_179 hg179,xW n (xG n) (qh n) (qn n) (xH n) hg154 hg160_179 hg196_179 hg179,vn n (xG n) (qh n) (qn n) (xH n) hg154 hg160_179 hg196_179 hg179,Zn n (xG n) (qh n) (qn n) (xH n) hg154 hg160_179 hg196_179 hg179⟩
theorem tU (n:Nat):∀ (a:Val) (r:Bool),xG n a=some r->qc TP 154 [PV.agg (xZ.cells a)] (dC r):=(Vu n).1
end W
end
section
set_option maxRecDepth 100000
set_option maxHeartbeats 20000000
open Go Go.Proofs Ax
namespace W
def QD (n:Nat) (ks:List (List UInt8)) (vs:List Val) (k:List UInt8) (v:Val):Option (List (List UInt8)×List Val):=
 match ks,vs,v with
 | [],[],⟨kd,b,i,s,l,q⟩=>bif kd==0 then none else(match xh n ⟨kd,b,i,s,l,q⟩with|some u=>some ([k],[u])|none=>none)
 | _,_,_=>none
open Go.RowKit in
set_option maxHeartbeats 4000000 in
set_option maxRecDepth 100000 in
theorem F_graph_Prop_ok (n : Nat) : ∀ (ks : List (List UInt8)) (vs : List Val) (k : List UInt8) (v : Val) (r : List (List UInt8) × List Val), QD n ks vs k v = some r -> qc Tryz.prog 155 [PV.sl (qi ks), PV.sl (Val.rows vs), PV.str k, PV.agg (xZ.cells v)] (PV.tup [PV.sl (qi r.1), PV.sl (Val.rows r.2)]) := by
  intro ks vs k v r h Lw H w vv s rl
  obtain ⟨kd, b, i, st, l, q⟩ := v
  have hop : ks = [] /\ vs = [] /\ kd ≠ 0 /\ ∃ u, xh n ⟨kd, b, i, st, l, q⟩ = some u /\ r = ([k], [u]) := by
    cases ks with
    | cons _ _ => cases h
    | nil =>
      cases vs with
      | cons _ _ => cases h
      | nil =>
        simp only [QD] at h
        cases e : kd == 0
        · rw [e] at h
          simp only [kcf] at h
          split at h
          · rename_i u hu; exact ⟨rfl, rfl, by simpa using e, u, hu, (Option.some.inj h).symm⟩
          · cases h
        · rw [e] at h; cases h
  obtain ⟨rfl, rfl, hkd, u, hu, rfl⟩ := hop
  obtain ⟨v1, _, rfl, r1, v2, _, rfl, r2, v3, _, rfl, r3, v4, _, rfl, r4, hv⟩ := rl
  obtain rfl := hv
  obtain ⟨p, c, rfl⟩ := xu r1
  obtain ⟨q2, d, rfl⟩ := xu r2
  have r3 : v3 = .string ⟨k.toArray⟩ := r3
  subst r3
  obtain ⟨us, rfl, r4⟩ := r4
  have r4' := r4
  simp only [xZ, Val.cells, qU] at r4
  obtain ⟨y1, _, rfl, h1, y2, _, rfl, h2, y3, _, rfl, h3, y4, _, rfl, h4, y5, _, rfl, h5, y6, _, rfl, h6, rfl⟩ := r4
  obtain ⟨p5, c5, rfl⟩ := xu h5
  obtain ⟨p6, c6, rfl⟩ := xu h6
  simp only [qu] at h1 h2 h3 h4
  subst h1 h2 h3 h4
  have hcp := nJ n _ _ hu
  rw [show (callFunc 155 _).run Tryz.prog w = _ from Tryz.call155 _ _]
  refine ⟨rfl, ?_⟩
  have z1 : (qi []).length = 0 := rfl
  have z2 : (Val.rows []).length = 0 := rfl
  rw [z1, z2]
  go_enter Tryz.func155, Tryz.ntmps155
  go_wp2_with (first | (go_at_call 147; refine (LO _ _ _ _ _).mono ?_; rintro e w1 ⟨p', c', q', d', rfl, ho1, ho2, hne, hb1⟩; have hbx := (hb1.block w.heap.size (by simp)).trans (Zc w _ _ rfl); have hc0 : w1.cell? ⟨w.heap.size, 0, none⟩ = some (.int .i64 kd) := by simp [World.cell?, hbx]) | (go_at_call 180; refine (EV _ _ _ _).mono ?_; rintro e w2 ⟨rfl, rfl⟩))
  have el : (Val.rows l).length = l.length := Codec.length (C := xZ) l
  rw [el, nW] at r4'
  have e1 : (w.alloc (.cells #[Value.int .i64 kd, .bool b, .int .i64 i, .string ⟨st.toArray⟩, .slice p5 l.length c5, .slice p6 q.length c6] 35)).heap.size = w.heap.size + 1 := by simp
  rw [e1] at ho1 ho2 hb1
  have hb2 : Below w.heap.size w w2 := ((Below.refl _ w).alloc (jw _) _).trans (hb1.mono (Nat.le_succ _))
  have hlt : w.heap.size < w2.heap.size := by have := hb1.size; simp at this; omega
  have hs1 : (Value.string ⟨k.toArray⟩).oneCell' = true := rfl
  have hx1 : (w2.alloc (.cells #[.string ⟨k.toArray⟩] 9)).drew.cell? ⟨w2.heap.size, 0, none⟩ = some (.string ⟨k.toArray⟩) := by
    show (w2.alloc (.cells #[.string ⟨k.toArray⟩] 9)).cell? ⟨w2.heap.size, 0, none⟩ = _
    rw [World.cell?_alloc_new]; rfl
  have hin := LV (w.heap.size + 1) p' c' w2.heap.size 0 1 (.string ⟨k.toArray⟩) _ (No (ho1.alloc (.cells #[.string ⟨k.toArray⟩] 9))) hx1 hs1 (by simp [World.drew]; omega)
  have d0 : w2.cell? ⟨w.heap.size, 0, none⟩ = some (.int .i64 kd) := by simp [World.cell?, hbx]
  have d1 : w2.cell? ⟨w.heap.size, 1, none⟩ = some (.bool b) := by simp [World.cell?, hbx]
  have d2 : w2.cell? ⟨w.heap.size, 2, none⟩ = some (.int .i64 i) := by simp [World.cell?, hbx]
  have d3 : w2.cell? ⟨w.heap.size, 3, none⟩ = some (.string ⟨st.toArray⟩) := by simp [World.cell?, hbx]
  have d4 : w2.cell? ⟨w.heap.size, 4, none⟩ = some (.slice p5 l.length c5) := by simp [World.cell?, hbx]
  have d5 : w2.cell? ⟨w.heap.size, 5, none⟩ = some (.slice p6 q.length c6) := by simp [World.cell?, hbx]
  go_region_with (first
    | (go_at_call 183; refine hin.mono ?_; rintro e w3 ⟨v1, rfl, hown1, g3, hv1⟩
       obtain ⟨hb3, hq3, hk3⟩ := Tt hb2 ho1 ho2 hne g3
       have hbx3 := (hk3 w.heap.size hlt (fun e => by have := (ho1.lt _ e).1; omega)).trans hbx
       have t0 : w3.cell? ⟨w.heap.size, 0, none⟩ = some (.int .i64 kd) := by simp [World.cell?, hbx3]
       have t1 : w3.cell? ⟨w.heap.size, 1, none⟩ = some (.bool b) := by simp [World.cell?, hbx3]
       have t2 : w3.cell? ⟨w.heap.size, 2, none⟩ = some (.int .i64 i) := by simp [World.cell?, hbx3]
       have t3 : w3.cell? ⟨w.heap.size, 3, none⟩ = some (.string ⟨st.toArray⟩) := by simp [World.cell?, hbx3]
       have t4 : w3.cell? ⟨w.heap.size, 4, none⟩ = some (.slice p5 l.length c5) := by simp [World.cell?, hbx3]
       have t5 : w3.cell? ⟨w.heap.size, 5, none⟩ = some (.slice p6 q.length c6) := by simp [World.cell?, hbx3]
       have hcall := BO (fun _ _ => Tryz.call176 _ _) hcp (bj s hb3).sat ⟨_, [], rfl, ⟨_, rfl, r4'⟩, rfl⟩)
    | (go_at_call 176; refine hcall.mono ?_; rintro e w4 ⟨vv, H', rfl, hC, us, rfl, hr⟩
       obtain ⟨k', i', b', s', pp, qq, n', cc, m', ee, rfl⟩ := Eh hr
       have own4 := (hq3.kept (row := none) (w' := w4) ⟨hC.keep.os, hC.keep.tape, hC.keep.output, hC.keep.size, fun k hk _ => hC.keep.block k hk id⟩ (by cases (Value.slice q' 0 d').ownBlock <;> simp)).alloc (.cells #[.int .i64 k', .bool b', .int .i64 i', .string s', .slice pp n' cc, .slice qq m' ee] 35)
       have hus : ∀ u ∈ [Value.int .i64 k', .bool b', .int .i64 i', .string s', .slice pp n' cc, .slice qq m' ee], u.oneCell' = true := by intro u hu; simp at hu; rcases hu with rfl | rfl | rfl | rfl | rfl | rfl <;> rfl
       have hsz := Nat.le_trans hb3.size hC.keep.size
       have hlt2 := (Array.getElem?_eq_some_iff.1 hbx3).1
       have hsz2 := hC.keep.size
       have hin2 := LW (w.heap.size + 1) q' d' w4.heap.size 0 1 [.int .i64 k', .bool b', .int .i64 i', .string s', .slice pp n' cc, .slice qq m' ee] rfl _ own4 (fun j u hj => by rw [jx]; have := Ha w4 [.int .i64 k', .bool b', .int .i64 i', .string s', .slice pp n' cc, .slice qq m' ee] 35 j u hj; rwa [Addr.add_lit, jx] at this) hus (by simp; omega))
    | (go_at_call 184; refine hin2.mono ?_; rintro e w5 ⟨v2, rfl, hown2, g5, hv2⟩))
  all_goals go_wp2
  all_goals go_ret2
  all_goals
    obtain ⟨H5, hc5, hr5⟩ := Ts hb2 ho1 ho2 hne g3 hv1 hown1 hs1 (bj s hb3) hC hus g5 hv2 hown2 s rfl hr
    exact ⟨_, H5, rfl, hc5, hr5⟩
abbrev Zx (_:List Node) (_:List Edge) (_ _:Int) (_:List SS) (_:List Val) (_:Int) (_:Bool) (_:Int) (_:SS) (_:List Val) (_:List SS) (r:Made×Int):FV:=.p (.tup [(PV.agg (gA.cells r.1)),.int .i64 r.2])
abbrev Zv (i:List Node) (j:List Edge) (k l:Int) (a:List SS) (b:List Val) (m:Int) (c:Bool) (d:Int) (e:SS) (f:List Val) (g:List SS) (r:Made×Int):List AObj:=[.box 79 [.p (.sl (Node.rows i)),.p (.sl (Edge.rows j)),pI k,pI l,.tsl 1 (qi a),.tsl 2 (Val.rows b),pI m,pB c,pI d,pS e,pV f,pT g],.tail 9 1 (qi a).length,.tail 35 6 (Val.rows b).length]
def uo (n:Nat) (d:List SS) (a:Int) (e:List SS) (f:List Val) (g:Int) (i:Bool) (j:Int) (k:SS) (l:List Val) (m:List SS) (c:Int×List SS×List Val->Option (Made×Int)):Int->Option (Made×Int):=fun b=>
 bif(b != 0)then(
 some (Made.mk ([]:List SS) ([]:List Val),b))
 else(
 bnd (idx d a) fun o=>
 bnd (QD n e f o (Val.mk g i j k l m)) fun⟨p,q⟩=>
 c ((kwr .i64 (a+1)),p,q))
def fl (n:Nat) (o:List qd) (I:List SS) (J:List Val) (F:List Node) (H:List Edge) (K:Int) (p:Bool) (q:Int) (s:SS) (t:List Val) (u m:List SS):LK (Int×List SS×List Val) (Made×Int):=fun l (a,b,c)=>
 bif(decide (a<((qd.rows o).length:Int)))then(
 bnd (idx o a) fun⟨v,w,⟨x,y,z,A,B,C⟩,D,E⟩=>
 bnd (ZS n (qd.mk v w (Val.mk x y z A B C) D E) (Env.mk I J) (Graph.mk F H) (Val.mk K p q s t u)) fun⟨⟨d,e,f,g,i,j⟩,k⟩=>
 bnd (qE (k==0) (xG n (Val.mk d e f g i j))) fun G=>
 bif(bif(k==0)then(!G)else false)then(
 uo n m a b c d e f g i j l (3:Int))
 else(
 uo n m a b c d e f g i j l k))
 else(
 some (Made.mk b c,(0:Int)))
def gS (n:Nat) (a:List SS) (g:List qd) (i:List Node) (j:List Edge) (_ _:Int) (k:List SS) (l:List Val) (m:Int) (b:Bool) (c:Int) (d:SS) (e:List Val) (f:List SS):Option (Made×Int):=
 qC (fl n g k l i j m b c d e f a) n ((0:Int),([]:List _),([]:List _))
theorem fm (n:Nat):∀ (m:List SS) (i:List qd) (j:List Node) (k:List Edge) (q s:Int) (a:List SS) (b:List Val) (l:Int) (c:Bool) (d:Int) (e:SS) (f:List Val) (g:List SS) (r:Made×Int),gS n m i j k q s a b l c d e f g=some r->qS TP 107 [.ptr 0 0,.p (PV.sl (qi m)),.p (PV.sl (qd.rows i))] [.box 79 [.p (.sl (Node.rows j)),.p (.sl (Edge.rows k)),pI q,pI s,.tsl 1 (qi a),.tsl 2 (Val.rows b),pI l,pB c,pI d,pS e,pV f,pT g],.tail 9 1 (qi a).length,.tail 35 6 (Val.rows b).length] 1 (fun v lo=>v=Zx j k q s a b l c d e f g r/\lo=Zv j k q s a b l c d e f g r):=by
 intro m i j k q s a b l c d e f g r h;unfold gS at h;refine zO Tryz.call107 Tryz.func107 [40000005,1000000] ?_;conv=>whnf
 refine qP.fn [40000005,1000000] (S:=Int×List SS×List Val) (fun(o,t,u)=>[(0,.ptr 0 0),(1,pT m),(6,.ptr 1 0),(8,.ptr 2 0),(13,pE i),(14,.p (.int .i64 ((qd.rows i).length:Int))),(15,pI o)]) (fun(o,t,u)=>[.box 79 [.p (.sl (Node.rows j)),.p (.sl (Edge.rows k)),pI q,pI s,.tsl 3 (qi a),.tsl 4 (Val.rows b),pI l,pB c,pI d,pS e,pV f,pT g],.box 146 [zq2,zq2],.box 146 [pT t,pV u],.tail 9 1 (qi a).length,.tail 35 6 (Val.rows b).length]) (B:=fl n i a b j k l c d e f g m) h (wk [0,3,4,1,2] []) ?_;intro L st h;obtain⟨o,t,u⟩:=st;unfold fl at h;conv=>whnf
 apply ifc h<;>intro x h
 ·conv=>whnf
  refine bq h fun⟨_,_,⟨_,_,_,_,_,_⟩,_,_⟩ J h=>⟨_,Codec.at_ xT J,?_⟩;conv=>whnf
  refine bq h fun⟨⟨y,z,A,C,D,E⟩,M⟩ I h=>⟨_,(F_eval_Eval_ok n _ _ _ _ _ I),?_⟩;conv=>whnf
  refine gW.cut (S:=Int) (fun w=>[(0,.ptr 0 0),(1,pT m),(6,.ptr 1 0),(8,.ptr 2 0),(9,pI o),(11,.ptr 3 0),(12,pI w),(13,pE i),(14,.p (.int .i64 ((qd.rows i).length:Int))),(15,pI o)]) (fun w=>[.box 79 [.p (.sl (Node.rows j)),.p (.sl (Edge.rows k)),pI q,pI s,.tsl 4 (qi a),.tsl 5 (Val.rows b),pI l,pB c,pI d,pS e,pV f,pT g],.box 146 [zq2,zq2],.box 146 [pT t,pV u],.box 35 [pI y,pB z,pI A,pS C,pV D,pT E],.tail 9 1 (qi a).length,.tail 35 6 (Val.rows b).length]) (uo n m o t u y z A C D E L) (r:=r) ?_ ?_
  ·intro w h
   unfold uo at h;conv=>whnf
   apply ifc h<;>intro x h
   ·obtain rfl:=sj h
    (conv=>whnf);refine⟨_,_,⟨rfl,rfl⟩,wk [0,4,5] []⟩
   conv=>whnf
   refine bq h fun _ G h=>⟨_,Codec.at_ cV G,?_⟩;conv=>whnf
   refine bq h fun⟨N,O⟩ F h=>⟨_,(F_graph_Prop_ok n _ _ _ _ _ F),?_⟩;conv=>whnf
   exact⟨((kwr .i64 (o+1)),N,O),h,wk [0,1,2,4,5] []⟩
  conv=>whnf
  refine⟨id,?_⟩;conv=>whnf
  refine bq h fun _ H h=>⟨_,fun K=>(tU n _ _ (qa H K)),?_⟩;conv=>whnf
  refine⟨id,id,?_⟩;conv=>whnf
  apply ifc h<;>intro x h
  ·conv=>whnf
   exact⟨(3:Int),h,wk [0,1,2,6,3,4] []⟩
  conv=>whnf
  exact⟨M,h,wk [0,1,2,6,3,4] []⟩
 obtain rfl:=sj h;conv=>whnf
 refine⟨_,_,⟨rfl,rfl⟩,wk [0,3,4] []⟩
abbrev XF (_:List Node) (_:List Edge) (_ _:Int) (_:List SS) (_:List Val) (_:Int) (_:Bool) (_:Int) (_:SS) (_:List Val) (_:List SS) (r:(List (List Made))×Int):FV:=.p (.tup [.sl (cS gA r.1),.int .i64 r.2])
abbrev XC (g:List Node) (i:List Edge) (j k:Int) (a:List SS) (b:List Val) (l:Int) (m:Bool) (c:Int) (d:SS) (e:List Val) (f:List SS) (r:(List (List Made))×Int):List AObj:=[.box 79 [.p (.sl (Node.rows g)),.p (.sl (Edge.rows i)),pI j,pI k,.tsl 1 (qi a),.tsl 2 (Val.rows b),pI l,pB m,pI c,pS d,pV e,pT f],.tail 9 1 (qi a).length,.tail 35 6 (Val.rows b).length]
def gg (n:Nat) (m:List SS) (o:List qd) (l:List Node) (p:List Edge) (q s:Int) (t:List SS) (u:List Val) (v:Int) (w:Bool) (f:Int) (g:SS) (i:List Val) (j:List SS) (e:List Made×Int->Option ((List (List Made))×Int)) (k:Int):List Made->Option ((List (List Made))×Int):=fun a=>
 bnd (gS n m o l p q s t u v w f g i j) fun⟨⟨b,c⟩,d⟩=>
 bif(d != 0)then(
 some (([]:List (List Made)),d))
 else(
 chk (decide ((Made.rows (a++[Made.mk b c])).length * 48<=140737488355328)) (
 e ((a++[Made.mk b c]),(kwr .i64 (k+1)))))
def cC (n:Nat) (t:List qe) (u:List qg) (g:List Node) (i:List Edge) (j k:Int) (l:List SS) (m:List Val) (o:Int) (p:Bool) (c:Int) (d:SS) (e:List Val) (f:List SS) (s:List (List Made)) (A:List (List Made)×Int->Option ((List (List Made))×Int)) (B:Int):LK (List Made×Int) ((List (List Made))×Int):=fun q (b,a)=>
 bif(decide (a<((qe.rows t).length:Int)))then(
 bnd (idx t a) fun⟨_,_,v,w⟩=>
 bif(decide (a>0))then(
 bnd (idx u (kwr .i64 (a - 1))) fun⟨_,_,_,C,_⟩=>
 bnd (idx u (kwr .i64 (a - 1))) fun⟨_,_,_,_,D⟩=>
 bnd (gS n C D g i j k l m o p c d e f) fun⟨⟨x,y⟩,z⟩=>
 bif(z != 0)then(
 some (([]:List (List Made)),z))
 else(
 chk (decide ((Made.rows (b++[Made.mk x y])).length * 48<=140737488355328)) (
 gg n v w g i j k l m o p c d e f q a (b++[Made.mk x y]))))
 else(
 gg n v w g i j k l m o p c d e f q a b))
 else(
 chk (decide ((cS gA (s++[b])).length * 24<=140737488355328)) (
 A ((s++[b]),(kwr .i64 (B+1)))))
def cB (n:Nat) (b:List zU) (l:List Node) (m:List Edge) (o p:Int) (q:List SS) (s:List Val) (t:Int) (u:Bool) (e:Int) (f:SS) (g:List Val) (i:List SS):LK (List (List Made)×Int) ((List (List Made))×Int):=fun d (c,a)=>
 bif(decide (a<((zU.rows b).length:Int)))then(
 bnd (idx b a) fun⟨j,k⟩=>
 qC (cC n j k l m o p q s t u e f g i c d a) n (([]:List _),(0:Int)))
 else(
 some (c,(0:Int)))
def mr (n:Nat) (a:List zU) (f:List Node) (g:List Edge) (i j:Int) (k:List SS) (l:List Val) (m:Int) (o:Bool) (b:Int) (c:SS) (d:List Val) (e:List SS):Option ((List (List Made))×Int):=
 qC (cB n a f g i j k l m o b c d e) n (([]:List _),(0:Int))
theorem ZR (n:Nat):∀ (u:List zU) (l:List Node) (m:List Edge) (o q:Int) (b:List SS) (c:List Val) (s:Int) (t:Bool) (g:Int) (i:SS) (j:List Val) (k:List SS) (r:(List (List Made))×Int),mr n u l m o q b c s t g i j k=some r->qS TP 63 [.ptr 0 0,.p (PV.sl (zU.rows u))] [.box 79 [.p (.sl (Node.rows l)),.p (.sl (Edge.rows m)),pI o,pI q,.tsl 1 (qi b),.tsl 2 (Val.rows c),pI s,pB t,pI g,pS i,pV j,pT k],.tail 9 1 (qi b).length,.tail 35 6 (Val.rows c).length] 1 (fun v lo=>v=XF l m o q b c s t g i j k r/\lo=XC l m o q b c s t g i j k r):=by
 intro u l m o q b c s t g i j k r h;unfold mr at h;refine zO Tryz.call63 Tryz.func63 [107,40000010,90000010,1000000] ?_;conv=>whnf
 refine qP.fn [107,40000010,90000010,1000000] (S:=List (List Made)×Int) (fun(d,A)=>[(0,.ptr 0 0),(6,.tsl 3 (cS gA d)),(16,pP u),(17,.p (.int .i64 ((zU.rows u).length:Int))),(18,pI A)]) (fun(d,A)=>[.box 79 [.p (.sl (Node.rows l)),.p (.sl (Edge.rows m)),pI o,pI q,.tsl 1 (qi b),.tsl 2 (Val.rows c),pI s,pB t,pI g,pS i,pV j,pT k],.tail 9 1 (qi b).length,.tail 35 6 (Val.rows c).length,.tail 147 1 (cS gA d).length]) (B:=cB n u l m o q b c s t g i j k) h (wk [0,1,2,0] [3]) ?_;intro U st h;obtain⟨d,A⟩:=st;unfold cB at h;conv=>whnf
 apply ifc h<;>intro F h
 ·conv=>whnf
  refine bq h fun⟨w,C⟩ T h=>⟨_,Codec.at_ Qc T,?_⟩;conv=>whnf
  refine qP.fn [107,40000010,90000010,1000000] (S:=List Made×Int) (fun(a,D)=>[(0,.ptr 0 0),(6,.tsl 1 (cS gA d)),(8,.ptr 2 0),(9,.tsl 5 (Made.rows a)),(16,pP u),(17,.p (.int .i64 ((zU.rows u).length:Int))),(18,pI A),(23,pN w),(24,.p (.int .i64 ((qe.rows w).length:Int))),(25,pI D)]) (fun(a,D)=>[.box 79 [.p (.sl (Node.rows l)),.p (.sl (Edge.rows m)),pI o,pI q,.tsl 3 (qi b),.tsl 4 (Val.rows c),pI s,pB t,pI g,pS i,pV j,pT k],.tail 147 1 (cS gA d).length,.box 100 [pN w,pG C],.tail 9 1 (qi b).length,.tail 35 6 (Val.rows c).length,.tail 146 2 (Made.rows a).length]) (B:=cC n w C l m o q b c s t g i j k d U A) h (wk [0,3,4,1,2,0] [5]) ?_;intro V st h;obtain⟨a,D⟩:=st;unfold cC at h;conv=>whnf
  apply ifc h<;>intro F h
  ·conv=>whnf
   refine bq h fun⟨I,J,G,H⟩ R h=>⟨_,Codec.at_ ua R,?_⟩;conv=>whnf
   refine gW.cut (S:=List Made) (fun x=>[(0,.ptr 0 0),(6,.tsl 1 (cS gA d)),(8,.ptr 2 0),(9,.tsl 3 (Made.rows x)),(11,.ptr 4 0),(16,pP u),(17,.p (.int .i64 ((zU.rows u).length:Int))),(18,pI A),(23,pN w),(24,.p (.int .i64 ((qe.rows w).length:Int))),(25,pI D)]) (fun x=>[.box 79 [.p (.sl (Node.rows l)),.p (.sl (Edge.rows m)),pI o,pI q,.tsl 5 (qi b),.tsl 6 (Val.rows c),pI s,pB t,pI g,pS i,pV j,pT k],.tail 147 1 (cS gA d).length,.box 100 [pN w,pG C],.tail 146 2 (Made.rows x).length,.box 102 [pS I,pT J,pT G,pE H],.tail 9 1 (qi b).length,.tail 35 6 (Val.rows c).length]) (gg n G H l m o q b c s t g i j k V D) (r:=r) ?_ ?_
   ·intro x h
    unfold gg at h;(conv=>whnf);refine bq h fun⟨⟨y,z⟩,W⟩ O h=>?_;refine zz (fm n _ _ _ _ _ _ _ _ _ _ _ _ _ _ _ O) [0,5,6] [] ?_;rintro _ _ ⟨rfl,rfl⟩;refine⟨.p (.tup [.agg [.sl (qi y),.sl (Val.rows z)],.int .i64 W]),[.box 79 [.p (.sl (Node.rows l)),.p (.sl (Edge.rows m)),pI o,pI q,.tsl 7 (qi b),.tsl 8 (Val.rows c),pI s,pB t,pI g,pS i,pV j,pT k],.tail 147 1 (cS gA d).length,.box 100 [pN w,pG C],.tail 146 2 (Made.rows x).length,.box 102 [pS I,pT J,pT G,pE H],.dead,.dead,.tail 9 1 (qi b).length,.tail 35 6 (Val.rows c).length],rfl,rfl,?_⟩;(conv=>whnf);apply ifc h<;>intro F h
    ·obtain rfl:=sj h
     (conv=>whnf);refine⟨_,_,⟨rfl,rfl⟩,wk [0,7,8] []⟩
    (conv=>whnf);refine⟨Codec.one gA [Made.mk y z],Made.rows [Made.mk y z],.inl rfl,?_⟩
    (conv=>whnf);rw[show Made.rows x++Made.rows [Made.mk y z]=Made.rows (x++[Made.mk y z])from Codec.append gA x [Made.mk y z]]
    (conv=>whnf);obtain⟨M,h⟩:=qb h
    refine⟨⟨Codec.wide gA (x++[Made.mk y z]),kod M,qO M (by decide)⟩,?_⟩;(conv=>whnf);refine⟨⟨rfl,rfl,rfl⟩,?_⟩;(conv=>whnf);exact⟨((x++[Made.mk y z]),(kwr .i64 (D+1))),h,wk [0,1,2,7,8,10] []⟩
   conv=>whnf
   apply ifc h<;>intro F h
   ·conv=>whnf
    refine⟨(.one 0 (.one 1 (.one 2 (.one 3 (.one 4 (.one 5 (.one 6 (.one 7 (.one 8 (.one 9 (.one 10 (.one 11 (.one 12 (.one 13 (.one 14 (.two 15 (.one 16 (.one 17 (.one 18 (.one 19 (.one 20 (.one 21 .done)))))) 19 (.one 15 (.one 16 (.one 17 (.one 18 (.one 20 (.one 21 .done)))))))))))))))))))))),by kernel_rfl,?_⟩;(conv=>whnf);refine bq h fun⟨_,_,_,_,_⟩ Q h=>⟨_,Codec.at_ gV Q,?_⟩;(conv=>whnf);refine bq h fun⟨_,_,_,_,_⟩ P h=>⟨_,Codec.at_ gV P,?_⟩;(conv=>whnf);refine⟨?_,?_⟩
    ·conv=>whnf
     refine bq h fun⟨⟨e,f⟩,L⟩ K h=>⟨.p (.tup [.agg [.sl (qi e),.sl (Val.rows f)],.int .i64 L]),[.box 79 [.p (.sl (Node.rows l)),.p (.sl (Edge.rows m)),pI o,pI q,.tsl 7 (qi b),.tsl 8 (Val.rows c),pI s,pB t,pI g,pS i,pV j,pT k],.tail 147 1 (cS gA d).length,.box 100 [pN w,pG C],.dead,.dead,.tail 146 2 (Made.rows a).length,.box 102 [pS I,pT J,pT G,pE H],.tail 9 1 (qi b).length,.tail 35 6 (Val.rows c).length],zz (fm n _ _ _ _ _ _ _ _ _ _ _ _ _ _ _ K) [0,3,4] [] (by rintro _ _ ⟨rfl,rfl⟩; exact⟨_,_,rfl,rfl,rfl,rfl⟩),?_⟩;(conv=>whnf);apply ifc h<;>intro F h
     ·obtain rfl:=sj h
      (conv=>whnf);refine⟨_,_,⟨rfl,rfl⟩,wk [0,7,8] []⟩
     (conv=>whnf);refine⟨Codec.one gA [Made.mk e f],Made.rows [Made.mk e f],.inl rfl,?_⟩
     (conv=>whnf);rw[show Made.rows a++Made.rows [Made.mk e f]=Made.rows (a++[Made.mk e f])from Codec.append gA a [Made.mk e f]]
     (conv=>whnf);obtain⟨E,h⟩:=qb h
     refine⟨⟨Codec.wide gA (a++[Made.mk e f]),kod E,qO E (by decide)⟩,?_⟩;(conv=>whnf);refine⟨⟨rfl,rfl,rfl⟩,?_⟩;(conv=>whnf);exact⟨(a++[Made.mk e f]),h,wk [0,1,2,10,6,7,8] []⟩
    (conv=>whnf);refine bq h fun⟨⟨e,f⟩,L⟩ K h=>?_
    refine⟨.p (.tup [.agg [.sl (qi e),.sl (Val.rows f)],.int .i64 L]),[.box 79 [.p (.sl (Node.rows l)),.p (.sl (Edge.rows m)),pI o,pI q,.tsl 8 (qi b),.tsl 9 (Val.rows c),pI s,pB t,pI g,pS i,pV j,pT k],.tail 147 1 (cS gA d).length,.box 100 [pN w,pG C],.dead,.dead,.tail 146 2 (Made.rows a).length,.box 102 [pS I,pT J,pT G,pE H],.box 146 [zq2,zq2],.tail 9 1 (qi b).length,.tail 35 6 (Val.rows c).length],zz (fm n _ _ _ _ _ _ _ _ _ _ _ _ _ _ _ K) [0,3,4] [] (by rintro _ _ ⟨rfl,rfl⟩; exact⟨_,_,rfl,rfl,rfl,rfl⟩),?_⟩;(conv=>whnf);apply ifc h<;>intro F h
    ·obtain rfl:=sj h
     (conv=>whnf);refine⟨_,_,⟨rfl,rfl⟩,wk [0,8,9] []⟩
    (conv=>whnf);refine⟨Codec.one gA [Made.mk e f],Made.rows [Made.mk e f],.inl rfl,?_⟩
    (conv=>whnf);rw[show Made.rows a++Made.rows [Made.mk e f]=Made.rows (a++[Made.mk e f])from Codec.append gA a [Made.mk e f]]
    (conv=>whnf);obtain⟨E,h⟩:=qb h
    refine⟨⟨Codec.wide gA (a++[Made.mk e f]),kod E,qO E (by decide)⟩,?_⟩;(conv=>whnf);refine⟨⟨rfl,rfl,rfl⟩,?_⟩;(conv=>whnf);exact⟨(a++[Made.mk e f]),h,wk [0,1,2,10,6,8,9] []⟩
   conv=>whnf
   exact⟨a,h,wk [0,1,2,5,6,3,4] []⟩
  conv=>whnf
  refine⟨Codec.one (slC gA) [a],cS gA [a],.inl rfl,?_⟩;conv=>whnf
  rw[show cS gA d++cS gA [a]=cS gA (d++[a])from Codec.append (slC gA) d [a]];conv=>whnf
  obtain⟨N,h⟩:=qb h;refine⟨⟨Codec.wide (slC gA) (d++[a]),kod N,qO N (by decide)⟩,?_⟩;conv=>whnf
  refine⟨⟨rfl,rfl,rfl⟩,?_⟩;conv=>whnf
  exact⟨((d++[a]),(kwr .i64 (A+1))),h,wk [0,3,4,6] []⟩
 obtain rfl:=sj h;conv=>whnf
 refine⟨_,_,⟨rfl,rfl⟩,wk [0,1,2] []⟩
abbrev bY (r:Int):PV:=PV.int .i64 r
def xr (n:Nat) (b:List SS) (d:SS):LK (Int) (Int):=fun c a=>
 bif(decide (a<((qi b).length:Int)))then(
 bnd (idx b a) fun e=>
 bif(d==e)then(
 some a)
 else(
 c (kwr .i64 (a+1))))
 else(
 some (-1:Int))
def zY (n:Nat) (a:List SS) (b:SS):Option (Int):=
 qC (xr n a b) n (0:Int)
theorem uP (n:Nat):∀ (a:List SS) (b:SS) (r:Int),zY n a b=some r->qc TP 58 [PV.sl (qi a),PV.str b] (bY r):=by
 intro a b r h;unfold zY at h;refine zN Tryz.call58 Tryz.func58 [1000000] ?_;conv=>whnf
 refine qP.fn [1000000] (S:=Int) (fun c=>[(0,pT a),(1,pS b),(7,.p (.int .i64 ((qi a).length:Int))),(8,pI c)]) (fun c=>[]) (B:=xr n a b) h (wk [] []) ?_;intro _ c h;unfold xr at h;conv=>whnf
 apply ifc h<;>intro e h
 ·conv=>whnf
  refine bq h fun _ d h=>⟨_,Codec.at_ cV d,?_⟩;conv=>whnf
  apply ifc h<;>intro e h
  ·obtain rfl:=sj h
   conv=>whnf
   try exact oX
  conv=>whnf
  exact⟨(kwr .i64 (c+1)),h,wk [] []⟩
 obtain rfl:=sj h;conv=>whnf
 try exact oX
abbrev mF (_:List Node) (_:List Edge) (_ _:Int) (_:List SS) (_:List Val) (_:Int) (_:Bool) (_:Int) (_:SS) (_:List Val) (_:List SS) (r:Val×Bool):FV:=.p (.tup [(PV.agg (xZ.cells r.1)),.bool r.2])
abbrev Zu (g:List Node) (i:List Edge) (j k:Int) (a:List SS) (b:List Val) (l:Int) (m:Bool) (c:Int) (d:SS) (e:List Val) (f:List SS) (r:Val×Bool):List AObj:=[.box 79 [.p (.sl (Node.rows g)),.p (.sl (Edge.rows i)),pI j,pI k,.tsl 1 (qi a),.tsl 2 (Val.rows b),pI l,pB m,pI c,pS d,pV e,pT f],.tail 9 1 (qi a).length,.tail 35 6 (Val.rows b).length]
def zX (n:Nat) (b:SS) (_:List Node) (_:List Edge) (_ _:Int) (k:List SS) (c:List Val) (_:Int) (_:Bool) (_:Int) (_:SS) (_:List Val) (_:List SS):Option (Val×Bool):=
 bnd (zY n k b) fun a=>
 bif(bif(bif(b==([]:SS))then true else(decide (a<0)))then true else(decide (a≥((Val.rows c).length:Int))))then(
 some (Val.mk (0:Int) false (0:Int) ([]:SS) ([]:List Val) ([]:List SS),false))
 else(
 bnd (idx c a) fun⟨d,e,f,g,i,j⟩=>
 some (Val.mk d e f g i j,true))
theorem fj (n:Nat):∀ (o:SS) (g:List Node) (i:List Edge) (j k:Int) (a:List SS) (b:List Val) (l:Int) (m:Bool) (c:Int) (d:SS) (e:List Val) (f:List SS) (r:Val×Bool),zX n o g i j k a b l m c d e f=some r->qS TP 25 [.ptr 0 0,.p (PV.str o)] [.box 79 [.p (.sl (Node.rows g)),.p (.sl (Edge.rows i)),pI j,pI k,.tsl 1 (qi a),.tsl 2 (Val.rows b),pI l,pB m,pI c,pS d,pV e,pT f],.tail 9 1 (qi a).length,.tail 35 6 (Val.rows b).length] 1 (fun v lo=>v=mF g i j k a b l m c d e f r/\lo=Zu g i j k a b l m c d e f r):=by
 intro o g i j k a b l m c d e f r h;unfold zX at h;refine zO Tryz.call25 Tryz.func25 [1000000] ?_;conv=>whnf
 refine bq h fun _ s h=>⟨_,(uP n _ _ _ s),?_⟩;conv=>whnf
 iterate 10 refine⟨id,?_⟩
 conv=>whnf
 apply ifc h<;>intro _ h
 ·obtain rfl:=sj h
  conv=>whnf
  refine⟨_,_,⟨rfl,rfl⟩,wk [0,1,2] []⟩
 conv=>whnf
 refine bq h fun⟨_,_,_,_,_,_⟩ q h=>⟨_,Codec.at_ xZ q,?_⟩;obtain rfl:=sj h;conv=>whnf
 refine⟨_,_,⟨rfl,rfl⟩,wk [0,1,2] []⟩
abbrev Xf (r:Bool):PV:=PV.bool r
def uK (n:Nat) (a:Int):Option (Bool):=
 some (a != a)
theorem mE (n:Nat):∀ (a:Int) (r:Bool),uK n a=some r->qc TP 177 [PV.int .i64 a] (Xf r):=by
 intro a r h;unfold uK at h;refine zN Tryz.call177 Tryz.func177 [1000000] ?_;obtain rfl:=sj h;conv=>whnf
 try exact oX
abbrev QK (r:Int):PV:=PV.int .i64 r
def vf (n:Nat) (a b:Int):Option (Int):=
 bnd (uK n a) fun d=>
 bnd (uK n b) fun c=>
 bif d then(
 bif c then(
 some (0:Int))
 else(
 some (-1:Int)))
 else(
 bif c then(
 some (1:Int))
 else(
 bif(decide (a<b))then(
 some (-1:Int))
 else(
 bif(decide (a>b))then(
 some (1:Int))
 else(
 some (0:Int)))))
theorem dK (n:Nat):∀ (b c r:Int),vf n b c=some r->qc TP 150 [PV.int .i64 b,PV.int .i64 c] (QK r):=by
 intro b c r h;unfold vf at h;refine zN Tryz.call150 Tryz.func150 [1000000] ?_;conv=>whnf
 refine bq h fun _ e h=>⟨_,(mE n _ _ e),?_⟩;conv=>whnf
 refine bq h fun _ d h=>⟨_,(mE n _ _ d),?_⟩;conv=>whnf
 apply ifc h<;>intro a h
 ·conv=>whnf
  apply ifc h<;>intro a h
  ·obtain rfl:=sj h
   conv=>whnf
   try exact oX
  obtain rfl:=sj h;conv=>whnf
  try exact oX
 conv=>whnf
 apply ifc h<;>intro a h
 ·obtain rfl:=sj h
  conv=>whnf
  try exact oX
 conv=>whnf
 apply ifc h<;>intro a h
 ·obtain rfl:=sj h
  conv=>whnf
  try exact oX
 conv=>whnf
 apply ifc h<;>intro a h
 ·obtain rfl:=sj h
  conv=>whnf
  try exact oX
 obtain rfl:=sj h;conv=>whnf
 try exact oX
abbrev UU (r:Int):PV:=PV.int .i64 r
def bJ (n:Nat) (a:Node):Option (Int):=
 match a with
 | ⟨b,_,_,_⟩=>
 some b
theorem Vs (n:Nat):∀ (a:Node) (r:Int),bJ n a=some r->qc TP 106 [PV.agg (zL.cells a)] (UU r):=by
 intro a r h;obtain⟨_,_,_,_⟩:=a;unfold bJ at h;refine zN Tryz.call106 Tryz.func106 [1000000] ?_;obtain rfl:=sj h;conv=>whnf
 try exact oX
abbrev nO (r:Int):PV:=PV.int .i64 r
def zT (n:Nat) (a:Node) (f:Int) (_:Unit):Option (Int):=
 match a with
 | ⟨b,c,d,e⟩=>
 bnd (bJ n (Node.mk b c d e)) fun g=>
 bnd (vf n g f) fun i=>
 some i
theorem gU (n:Nat):∀ (a:Node) (b:Int) (c:Unit) (r:Int),zT n a b c=some r->qc TP 152 [PV.agg (zL.cells a),PV.int .i64 b,PV.hp [PV.fn 106]] (nO r):=by
 intro a b c r h;obtain⟨_,_,_,_⟩:=a;unfold zT at h;refine zN Tryz.call152 Tryz.func152 [1000000] ?_;conv=>whnf
 refine bq h fun _ e h=>⟨_,(Vs n _ _ e),?_⟩;conv=>whnf
 refine bq h fun _ d h=>⟨_,(dK n _ _ _ d),?_⟩;obtain rfl:=sj h;conv=>whnf
 try exact oX
abbrev xg (r:Int×Bool):PV:=PV.tup [PV.int .i64 r.1,PV.bool r.2]
def qm (n:Nat) (b:List Node) (e:Int):LK (Int×Int) (Int×Bool):=fun d (a,c)=>
 bif(decide (a<c))then(
 bnd (idx b (kwr .i64 (Int.fdiv (kwr .u64 (kwr .i64 (a+c))) (2 ^ (min (Int.toNat (1:Int)) IntKind.u64.bits))))) fun⟨m,o,p,q⟩=>
 bnd (zT n (Node.mk m o p q) e ()) fun f=>
 bif(decide (f<0))then(
 d ((kwr .i64 ((kwr .i64 (Int.fdiv (kwr .u64 (kwr .i64 (a+c))) (2 ^ (min (Int.toNat (1:Int)) IntKind.u64.bits))))+1)),c))
 else(
 d (a,(kwr .i64 (Int.fdiv (kwr .u64 (kwr .i64 (a+c))) (2 ^ (min (Int.toNat (1:Int)) IntKind.u64.bits)))))))
 else(
 bnd (qE (decide (a<((Node.rows b).length:Int))) (idx b a)) fun⟨g,i,j,k⟩=>
 bnd (qE (decide (a<((Node.rows b).length:Int))) (zT n (Node.mk g i j k) e ())) fun l=>
 some (a,(bif(decide (a<((Node.rows b).length:Int)))then(l==0)else false)))
def qA (n:Nat) (a:List Node) (b:Int) (_:Unit):Option (Int×Bool):=
 qC (qm n a b) n ((0:Int),((Node.rows a).length:Int))
theorem xd (n:Nat):∀ (a:List Node) (d:Int) (f:Unit) (r:Int×Bool),qA n a d f=some r->qc TP 151 [PV.sl (Node.rows a),PV.int .i64 d,PV.clo 152 [PV.hp [PV.fn 106]]] (xg r):=by
 intro a d f r h;unfold qA at h;refine zN Tryz.call151 Tryz.func151 [1000000] ?_;conv=>whnf
 refine qP.fn [1000000] (S:=Int×Int) (fun(b,c)=>[(0,.p (.sl (Node.rows a))),(1,pI d),(2,.p (.clo 152 [PV.hp [PV.fn 106]])),(8,.p (.int .i64 ((Node.rows a).length:Int))),(9,pI b),(10,pI c)]) (fun(b,c)=>[]) (B:=qm n a d) h (wk [] []) ?_;intro _ st h;obtain⟨b,c⟩:=st;unfold qm at h;conv=>whnf
 apply ifc h<;>intro l h
 ·conv=>whnf
  refine⟨by unfold gI; decide,?_⟩;conv=>whnf
  refine bq h fun⟨_,_,_,_⟩ i h=>⟨_,Codec.at_ zL i,?_⟩;conv=>whnf
  refine bq h fun _ g h=>⟨_,(gU n _ _ _ _ g),?_⟩;conv=>whnf
  apply ifc h<;>intro l h
  ·conv=>whnf
   exact⟨((kwr .i64 ((kwr .i64 (Int.fdiv (kwr .u64 (kwr .i64 (b+c))) (2 ^ (min (Int.toNat (1:Int)) IntKind.u64.bits))))+1)),c),h,wk [] []⟩
  conv=>whnf
  exact⟨(b,(kwr .i64 (Int.fdiv (kwr .u64 (kwr .i64 (b+c))) (2 ^ (min (Int.toNat (1:Int)) IntKind.u64.bits))))),h,wk [] []⟩
 conv=>whnf
 refine⟨id,id,?_⟩;conv=>whnf
 refine bq h fun⟨_,_,_,_⟩ k h=>⟨_,fun e=>Codec.at_ zL (qa k e),?_⟩;conv=>whnf
 refine⟨id,id,id,id,?_⟩;conv=>whnf
 refine bq h fun _ j h=>⟨_,fun e=>(gU n _ _ _ _ (qa j e)),?_⟩;conv=>whnf
 refine⟨id,id,?_⟩;obtain rfl:=sj h;conv=>whnf
 try exact oX
abbrev fQ (r:Int×Bool):PV:=PV.tup [PV.int .i64 r.1,PV.bool r.2]
def qK (n:Nat) (a:List Node) (b:Int):Option (Int×Bool):=
 bnd (qA n a b ()) fun⟨c,d⟩=>
 some (c,d)
theorem zj (n:Nat):∀ (a:List Node) (b:Int) (r:Int×Bool),qK n a b=some r->qc TP 105 [PV.sl (Node.rows a),PV.int .i64 b,PV.fn 106] (fQ r):=by
 intro a b r h;unfold qK at h;refine zN Tryz.call105 Tryz.func105 [10000005,1000000] ?_;conv=>whnf
 refine bq h fun⟨_,_⟩ c h=>⟨_,(xd n _ _ _ _ c),?_⟩;obtain rfl:=sj h;conv=>whnf
 try exact oX
abbrev CZ (r:Node×Bool):PV:=PV.tup [PV.agg (zL.cells r.1),PV.bool r.2]
def QC (n:Nat) (b:Graph) (g:Int):Option (Node×Bool):=
 match b with
 | ⟨a,_⟩=>
 bnd (qK n a g) fun⟨i,j⟩=>
 bif(!j)then(
 some (Node.mk (0:Int) ([]:List SS) ([]:List SS) ([]:List Val),false))
 else(
 bnd (idx a i) fun⟨k,l,m,o⟩=>
 bnd (xF n (Node.mk k l m o)) fun⟨c,d,e,f⟩=>
 some (Node.mk c d e f,true))
theorem GS (n:Nat):∀ (a:Graph) (b:Int) (r:Node×Bool),QC n a b=some r->qc TP 108 [PV.agg (vG.cells a),PV.int .i64 b] (CZ r):=by
 intro a b r h;obtain⟨_,_⟩:=a;unfold QC at h;refine zN Tryz.call108 Tryz.func108 [1000000] ?_;conv=>whnf
 refine bq h fun⟨_,_⟩ e h=>⟨_,(zj n _ _ _ e),?_⟩;conv=>whnf
 apply ifc h<;>intro _ h
 ·obtain rfl:=sj h
  conv=>whnf
  try exact oX
 conv=>whnf
 refine bq h fun⟨_,_,_,_⟩ d h=>⟨_,Codec.at_ zL d,?_⟩;conv=>whnf
 refine bq h fun⟨_,_,_,_⟩ c h=>⟨_,(nH n _ _ c),?_⟩;obtain rfl:=sj h;conv=>whnf
 try exact oX
end W
end
section
set_option maxRecDepth 100000
set_option maxHeartbeats 20000000
open Go Go.Proofs Ax
namespace W
abbrev Bb (r:Bool):PV:=PV.bool r
def py (n:Nat) (a:SS):Option (Bool):=
 some (bif(!(a==([]:SS)))then(decide (((a.length:Nat):Int)<=64))else false)
theorem QF (n:Nat):∀ (a:SS) (r:Bool),py n a=some r->qc TP 116 [PV.str a] (Bb r):=by
 intro a r h;unfold py at h;refine zN Tryz.call116 Tryz.func116 [1000000] ?_;conv=>whnf
 refine⟨id,id,id,?_⟩;obtain rfl:=sj h;conv=>whnf
 try exact oX
abbrev UW (r:Bool):PV:=PV.bool r
def bc (n:Nat) (b:List SS):LK (Int) (Bool):=fun e a=>
 bif(decide (a<((qi b).length:Int)))then(
 bnd (idx b a) fun c=>
 bnd (py n c) fun d=>
 bnd (qE ((!(!d))&&(decide (a>0))) (idx b (kwr .i64 (a - 1)))) fun f=>
 bif(bif(!d)then true else(bif(decide (a>0))then(!(Op.bytesLess f c))else false))then(
 some false)
 else(
 e (kwr .i64 (a+1))))
 else(
 some true)
def bK (n:Nat) (a:List SS):Option (Bool):=
 qC (bc n a) n (0:Int)
theorem sA (n:Nat):∀ (a:List SS) (r:Bool),bK n a=some r->qc TP 114 [PV.sl (qi a)] (UW r):=by
 intro a r h;unfold bK at h;refine zN Tryz.call114 Tryz.func114 [1000000] ?_;conv=>whnf
 refine qP.fn [1000000] (S:=Int) (fun b=>[(0,pT a),(5,pT a),(6,.p (.int .i64 ((qi a).length:Int))),(7,pI b)]) (fun b=>[]) (B:=bc n a) h (wk [] []) ?_;intro _ b h;unfold bc at h;conv=>whnf
 apply ifc h<;>intro f h
 ·conv=>whnf
  refine bq h fun _ e h=>⟨_,Codec.at_ cV e,?_⟩;conv=>whnf
  refine bq h fun _ d h=>⟨_,(QF n _ _ d),?_⟩;conv=>whnf
  refine⟨id,id,id,id,id,?_⟩;conv=>whnf
  refine bq h fun _ c h=>⟨_,fun g=>Codec.at_ cV (qa c g),?_⟩;conv=>whnf
  iterate 6 refine⟨id,?_⟩
  conv=>whnf
  apply ifc h<;>intro f h
  ·obtain rfl:=sj h
   conv=>whnf
   try exact oX
  conv=>whnf
  exact⟨(kwr .i64 (b+1)),h,wk [] []⟩
 obtain rfl:=sj h;conv=>whnf
 try exact oX
abbrev Bd (r:Bool):PV:=PV.bool r
def vP (n:Nat) (b:Val):Option (Bool):=
 match b with
 | ⟨a,c,d,e,f,g⟩=>
 some (bif(bif(bif(bif(bif(a==1)then true else(!c))then(bif(bif(a==2)then true else(decide (a≥6)))then true else(d==0))else false)then(bif(a==3)then true else(e==([]:SS)))else false)then(bif(bif(a==4)then true else(a==5))then true else(((Val.rows f).length:Int)==0))else false)then(bif(a==5)then true else(((qi g).length:Int)==0))else false)
theorem GW (n:Nat):∀ (a:Val) (r:Bool),vP n a=some r->qc TP 269 [PV.agg (xZ.cells a)] (Bd r):=by
 intro a r h;obtain⟨_,_,_,_,_,_⟩:=a;unfold vP at h;refine zN Tryz.call269 Tryz.func269 [1000000] ?_;conv=>whnf
 iterate 47 refine⟨id,?_⟩
 obtain rfl:=sj h;conv=>whnf
 try exact oX
abbrev Be (r:Bool):PV:=PV.bool r
def xR (n:Nat) (c:List SS):LK (Int) (Bool):=fun d a=>
 bif(decide (a<((qi c).length:Int)))then(
 bnd (idx c a) fun b=>
 bnd (qE ((!(bif(b==([]:SS))then true else(decide (((b.length:Nat):Int)>64))))&&(decide (a>0))) (idx c (kwr .i64 (a - 1)))) fun e=>
 bif(bif(bif(b==([]:SS))then true else(decide (((b.length:Nat):Int)>64)))then true else(bif(decide (a>0))then(!(Op.bytesLess e b))else false))then(
 some false)
 else(
 d (kwr .i64 (a+1))))
 else(
 some true)
def vA (n:Nat) (a:List SS):Option (Bool):=
 qC (xR n a) n (0:Int)
theorem GX (n:Nat):∀ (a:List SS) (r:Bool),vA n a=some r->qc TP 270 [PV.sl (qi a)] (Be r):=by
 intro a r h;unfold vA at h;refine zN Tryz.call270 Tryz.func270 [1000000] ?_;conv=>whnf
 refine qP.fn [1000000] (S:=Int) (fun b=>[(0,pT a),(5,pT a),(6,.p (.int .i64 ((qi a).length:Int))),(7,pI b)]) (fun b=>[]) (B:=xR n a) h (wk [] []) ?_;intro _ b h;unfold xR at h;conv=>whnf
 apply ifc h<;>intro e h
 ·conv=>whnf
  refine bq h fun _ d h=>⟨_,Codec.at_ cV d,?_⟩;conv=>whnf
  iterate 8 refine⟨id,?_⟩
  conv=>whnf
  refine bq h fun _ c h=>⟨_,fun f=>Codec.at_ cV (qa c f),?_⟩;conv=>whnf
  iterate 6 refine⟨id,?_⟩
  conv=>whnf
  apply ifc h<;>intro e h
  ·obtain rfl:=sj h
   conv=>whnf
   try exact oX
  conv=>whnf
  exact⟨(kwr .i64 (b+1)),h,wk [] []⟩
 obtain rfl:=sj h;conv=>whnf
 try exact oX
abbrev bQ (r:Int×Bool):PV:=PV.tup [PV.int .i64 r.1,PV.bool r.2]
def xS (n:Nat) (d:List Val) (g232:Val->Int->Int->Option (Int×Bool)) (p:Int):LK (Int×Bool×Int) (Int×Bool):=fun e (b,c,a)=>
 bif(bif(decide (a<((Val.rows d).length:Int)))then c else false)then(
 bnd (idx d a) fun⟨f,g,i,j,k,l⟩=>
 bnd (g232 (Val.mk f g i j k l) (kwr .i64 (p - 1)) b) fun⟨m,o⟩=>
 e (m,o,(kwr .i64 (a+1))))
 else(
 some (b,c))
def fy (n:Nat) (g232:Val->Int->Int->Option (Int×Bool)) (i:Val) (e b:Int):Option (Int×Bool):=
 match i with
 | ⟨a,k,f,l,c,d⟩=>
 bnd (qE (!(bif(bif(bif(decide (e<1))then true else(decide ((kwr .i64 (b+1))>4096)))then true else(decide (a<0)))then true else(decide (a>7)))) (vP n (Val.mk a k f l c d))) fun g=>
 bnd (qE (((!(bif(bif(bif(bif(bif(decide (e<1))then true else(decide ((kwr .i64 (b+1))>4096)))then true else(decide (a<0)))then true else(decide (a>7)))then true else(!g))then true else(bif(decide (a≥6))then(decide (f<1))else false)))&&(a==5))&&(!(((qi d).length:Int) != ((Val.rows c).length:Int)))) (vA n d)) fun j=>
 bif(bif(bif(bif(bif(bif(bif(decide (e<1))then true else(decide ((kwr .i64 (b+1))>4096)))then true else(decide (a<0)))then true else(decide (a>7)))then true else(!g))then true else(bif(decide (a≥6))then(decide (f<1))else false))then true else(bif(a==5)then(bif(((qi d).length:Int) != ((Val.rows c).length:Int))then true else(!j))else false))then(
 some ((kwr .i64 (b+1)),false))
 else(
 qC (xS n c g232 e) n ((kwr .i64 (b+1)),true,(0:Int)))
theorem Uo (n:Nat) (g232:Val->Int->Int->Option (Int×Bool)) (g232_ok:∀ (b:Val) (a c:Int) (r:Int×Bool),g232 b a c=some r->qc TP 232 [PV.agg (xZ.cells b),PV.int .i64 a,PV.int .i64 c] (bQ r)):∀ (b:Val) (a c:Int) (r:Int×Bool),fy n g232 b a c=some r->qc TP 232 [PV.agg (xZ.cells b),PV.int .i64 a,PV.int .i64 c] (bQ r):=by
 intro b a c r h;obtain⟨p,q,u,v,i,w⟩:=b;unfold fy at h;refine zN Tryz.call232 Tryz.func232 [1000000] ?_;conv=>whnf
 iterate 9 refine⟨id,?_⟩
 conv=>whnf
 refine bq h fun _ m h=>⟨_,fun e=>(GW n _ _ (qa m e)),?_⟩;conv=>whnf
 iterate 22 refine⟨id,?_⟩
 conv=>whnf
 refine bq h fun _ l h=>⟨_,fun e=>(GX n _ _ (qa l e)),?_⟩;conv=>whnf
 iterate 6 refine⟨id,?_⟩
 conv=>whnf
 apply ifc h<;>intro o h
 ·obtain rfl:=sj h
  conv=>whnf
  try exact oX
 conv=>whnf
 refine qP.fn [1000000] (S:=Int×Bool×Int) (fun(f,g,d)=>[(1,pI a),(2,pI f),(3,.ptr 0 0),(8,pB g),(9,pI d)]) (fun(f,g,d)=>[.box 35 [pI p,pB q,pI u,pS v,pV i,pT w]]) (B:=xS n i g232 a) h (wk [0] []) ?_;intro _ st h;obtain⟨f,g,d⟩:=st;unfold xS at h;conv=>whnf
 refine⟨id,?_⟩;conv=>whnf
 apply ifc h<;>intro o h
 ·conv=>whnf
  refine bq h fun⟨_,_,_,_,_,_⟩ k h=>⟨_,Codec.at_ xZ k,?_⟩;conv=>whnf
  refine bq h fun⟨s,t⟩ j h=>⟨_,(g232_ok _ _ _ _ j),?_⟩;conv=>whnf
  exact⟨(s,t,(kwr .i64 (d+1))),h,wk [0] []⟩
 obtain rfl:=sj h;conv=>whnf
 try exact oX
def xJ:Nat->Val->Int->Int->Option (Int×Bool)
 | 0=>fun _ _ _=>none
 | n+1=>fy n (xJ n)
theorem Uy (n:Nat):(∀ (a:Val) (b c:Int) (r:Int×Bool),xJ n a b c=some r->qc TP 232 [PV.agg (xZ.cells a),PV.int .i64 b,PV.int .i64 c] (bQ r)):=by
 induction n with
 | zero=>exact(by intros; rename_i h; cases h)
 | succ n ih=>
  have hg232:=ih;exact Uo n (xJ n) hg232
theorem GY (n:Nat):∀ (a:Val) (b c:Int) (r:Int×Bool),xJ n a b c=some r->qc TP 232 [PV.agg (xZ.cells a),PV.int .i64 b,PV.int .i64 c] (bQ r):=(Uy n)
abbrev Fj (r:Int):PV:=PV.int .i64 r
def gj (n:Nat) (a:Val):Option (Int):=
 match a with
 | ⟨b,c,d,e,f,g⟩=>
 bnd (xJ n (Val.mk b c d e f g) (32:Int) (0:Int)) fun⟨_,i⟩=>
 bif(!i)then(
 some (20:Int))
 else(
 some (0:Int))
theorem Uv (n:Nat):∀ (a:Val) (r:Int),gj n a=some r->qc TP 197 [PV.agg (xZ.cells a)] (Fj r):=by
 intro a r h;obtain⟨_,_,_,_,_,_⟩:=a;unfold gj at h;refine zN Tryz.call197 Tryz.func197 [1000000] ?_;conv=>whnf
 refine bq h fun⟨_,_⟩ b h=>⟨_,(GY n _ _ _ _ b),?_⟩;conv=>whnf
 apply ifc h<;>intro _ h
 ·obtain rfl:=sj h
  conv=>whnf
  try exact oX
 obtain rfl:=sj h;conv=>whnf
 try exact oX
abbrev XI (r:Bool):PV:=PV.bool r
def my (n:Nat) (i:Val):Option (Bool):=
 match i with
 | ⟨a,b,c,d,e,f⟩=>
 bnd (qE (a != 0) (gj n (Val.mk a b c d e f))) fun g=>
 bnd (qE (bif(a != 0)then(g==0)else false) (xG n (Val.mk a b c d e f))) fun j=>
 some (bif(bif(a != 0)then(g==0)else false)then j else false)
theorem ZU (n:Nat):∀ (a:Val) (r:Bool),my n a=some r->qc TP 162 [PV.agg (xZ.cells a)] (XI r):=by
 intro a r h;obtain⟨_,_,_,_,_,_⟩:=a;unfold my at h;refine zN Tryz.call162 Tryz.func162 [1000000] ?_;conv=>whnf
 refine⟨id,?_⟩;conv=>whnf
 refine bq h fun _ d h=>⟨_,fun b=>(Uv n _ _ (qa d b)),?_⟩;conv=>whnf
 refine⟨id,id,id,?_⟩;conv=>whnf
 refine bq h fun _ c h=>⟨_,fun b=>(tU n _ _ (qa c b)),?_⟩;conv=>whnf
 refine⟨id,?_⟩;obtain rfl:=sj h;conv=>whnf
 try exact oX
abbrev XJ (r:Bool):PV:=PV.bool r
def mz (n:Nat) (a:Val):Option (Bool):=
 match a with
 | ⟨b,c,d,e,f,g⟩=>
 bnd (my n (Val.mk b c d e f g)) fun i=>
 some (!i)
theorem ZV (n:Nat):∀ (a:Val) (r:Bool),mz n a=some r->qc TP 161 [PV.agg (xZ.cells a)] (XJ r):=by
 intro a r h;obtain⟨_,_,_,_,_,_⟩:=a;unfold mz at h;refine zN Tryz.call161 Tryz.func161 [1000000] ?_;conv=>whnf
 refine bq h fun _ b h=>⟨_,(ZU n _ _ b),?_⟩;obtain rfl:=sj h;conv=>whnf
 try exact oX
abbrev vC (r:Int):PV:=PV.int .i64 r
def zh (n:Nat) (b:List Val):LK (Int) (Int):=fun c a=>
 bif(decide (a<((Val.rows b).length:Int)))then(
 bnd (idx b a) fun⟨d,e,f,g,i,j⟩=>
 bnd (mz n (Val.mk d e f g i j)) fun k=>
 bif k then(
 some a)
 else(
 c (kwr .i64 (a+1))))
 else(
 some (-1:Int))
def zt (n:Nat) (a:List Val):Option (Int):=
 qC (zh n a) n (0:Int)
theorem vy (n:Nat):∀ (a:List Val) (r:Int),zt n a=some r->qc TP 196 [PV.sl (Val.rows a),PV.fn 161] (vC r):=by
 intro a r h;unfold zt at h;refine zN Tryz.call196 Tryz.func196 [1000000] ?_;conv=>whnf
 refine qP.fn [1000000] (S:=Int) (fun b=>[(0,pV a),(1,.p (.fn 161)),(7,.p (.int .i64 ((Val.rows a).length:Int))),(8,pI b)]) (fun b=>[]) (B:=zh n a) h (wk [] []) ?_;intro _ b h;unfold zh at h;conv=>whnf
 apply ifc h<;>intro e h
 ·conv=>whnf
  refine bq h fun⟨_,_,_,_,_,_⟩ d h=>⟨_,Codec.at_ xZ d,?_⟩;conv=>whnf
  refine bq h fun _ c h=>⟨_,(ZV n _ _ c),?_⟩;conv=>whnf
  apply ifc h<;>intro e h
  ·obtain rfl:=sj h
   conv=>whnf
   try exact oX
  conv=>whnf
  exact⟨(kwr .i64 (b+1)),h,wk [] []⟩
 obtain rfl:=sj h;conv=>whnf
 try exact oX
abbrev vg (r:Bool):PV:=PV.bool r
def zg (n:Nat) (a:List Val):Option (Bool):=
 bnd (zt n a) fun b=>
 some (decide (b≥0))
theorem vd (n:Nat):∀ (a:List Val) (r:Bool),zg n a=some r->qc TP 160 [PV.sl (Val.rows a),PV.fn 161] (vg r):=by
 intro a r h;unfold zg at h;refine zN Tryz.call160 Tryz.func160 [1000000] ?_;conv=>whnf
 refine bq h fun _ b h=>⟨_,(vy n _ _ b),?_⟩;obtain rfl:=sj h;conv=>whnf
 try exact oX
abbrev Fi (r:Bool):PV:=PV.bool r
def mQ (n:Nat) (a:List SS) (b:List Val):Option (Bool):=
 bnd (qE (((qi a).length:Int)==((Val.rows b).length:Int)) (bK n a)) fun c=>
 bnd (qE (bif(((qi a).length:Int)==((Val.rows b).length:Int))then c else false) (zg n b)) fun d=>
 some (bif(bif(((qi a).length:Int)==((Val.rows b).length:Int))then c else false)then(!d)else false)
theorem tT (n:Nat):∀ (b:List SS) (c:List Val) (r:Bool),mQ n b c=some r->qc TP 115 [PV.sl (qi b),PV.sl (Val.rows c)] (Fi r):=by
 intro b c r h;unfold mQ at h;refine zN Tryz.call115 Tryz.func115 [1000000] ?_;conv=>whnf
 refine⟨id,?_⟩;conv=>whnf
 refine bq h fun _ e h=>⟨_,fun a=>(sA n _ _ (qa e a)),?_⟩;conv=>whnf
 refine⟨id,id,?_⟩;conv=>whnf
 refine bq h fun _ d h=>⟨_,fun a=>(vd n _ _ (qa d a)),?_⟩;conv=>whnf
 refine⟨id,id,?_⟩;obtain rfl:=sj h;conv=>whnf
 try exact oX
abbrev VD (r:Bool):PV:=PV.bool r
def dx (n:Nat) (c:Node):Option (Bool):=
 match c with
 | ⟨a,d,e,f⟩=>
 bnd (qE (decide (a≥1)) (bK n d)) fun b=>
 bnd (qE (bif(decide (a≥1))then b else false) (mQ n e f)) fun g=>
 some (bif(bif(decide (a≥1))then b else false)then g else false)
theorem px (n:Nat):∀ (a:Node) (r:Bool),dx n a=some r->qc TP 66 [PV.agg (zL.cells a)] (VD r):=by
 intro a r h;obtain⟨_,_,_,_⟩:=a;unfold dx at h;refine zN Tryz.call66 Tryz.func66 [1000000] ?_;conv=>whnf
 refine⟨id,id,?_⟩;conv=>whnf
 refine bq h fun _ d h=>⟨_,fun b=>(sA n _ _ (qa d b)),?_⟩;conv=>whnf
 refine⟨id,id,id,id,id,?_⟩;conv=>whnf
 refine bq h fun _ c h=>⟨_,fun b=>(tT n _ _ _ (qa c b)),?_⟩;conv=>whnf
 refine⟨id,?_⟩;obtain rfl:=sj h;conv=>whnf
 try exact oX
abbrev Qa (r:List Node):PV:=PV.sl (Node.rows r)
def vI (n:Nat) (a:List Node) (g:Nat) (c:Int) (d e:List SS) (f:List Val):Int->Option (List Node):=fun i=>
 bnd (rZ i) fun b=>
 chk (decide (b<=(Node.rows a).length)) (
 chk (decide ((Node.rows (((a.take g)++[Node.mk c d e f])++(a.drop b))).length * 80<=140737488355328)) (
 some (((a.take g)++[Node.mk c d e f])++(a.drop b))))
def fO (n:Nat) (b:List Node) (c:Int) (j:Bool) (i:Node):Option (List Node):=
 match i with
 | ⟨d,e,f,g⟩=>
 bnd (rZ c) fun a=>
 bnd (rZ c) fun k=>
 chk (decide (a=k/\a<=(Node.rows b).length)) (
 chk (decide ((Node.rows ((b.take a)++[Node.mk d e f g])).length * 80<=140737488355328)) (
 bif j then(
 vI n b a d e f g (kwr .i64 (c+1)))
 else(
 vI n b a d e f g c)))
theorem tm (n:Nat):∀ (a:List Node) (i:Int) (l:Bool) (j:Node) (r:List Node),fO n a i l j=some r->qc TP 158 [PV.sl (Node.rows a),PV.int .i64 i,PV.bool l,PV.agg (zL.cells j)] (Qa r):=by
 intro a i l j r h;obtain⟨c,d,e,f⟩:=j;unfold fO at h;refine zN Tryz.call158 Tryz.func158 [1000000] ?_;conv=>whnf
 refine bq h fun b v h=>⟨_,qM v,?_⟩;conv=>whnf
 refine bq h fun _ u h=>⟨_,qM u,?_⟩;conv=>whnf
 obtain⟨q,h⟩:=qb h;refine⟨⟨(kod q).1,(kod q).2,Codec.wide zL a⟩,?_⟩
 first|rw[show List.take b (Node.rows a)=Node.rows (a.take b)from Codec.take zL a b]|rw[show List.take b (zL.rows a)=Node.rows (a.take b)from Codec.take zL a b]
 conv=>whnf
 refine⟨Codec.one zL [Node.mk c d e f],Node.rows [Node.mk c d e f],.inl rfl,?_⟩;conv=>whnf
 rw[show Node.rows (a.take b)++Node.rows [Node.mk c d e f]=Node.rows ((a.take b)++[Node.mk c d e f])from Codec.append zL (a.take b) [Node.mk c d e f]];conv=>whnf
 obtain⟨o,h⟩:=qb h;refine⟨⟨Codec.wide zL ((a.take b)++[Node.mk c d e f]),kod o,qO o (by decide)⟩,?_⟩;refine⟨true,Codec.ne_nil zL _ _,?_⟩;conv=>whnf
 refine gW.cut (S:=Int) (fun k=>[(0,.p (.sl (Node.rows a))),(1,pI k),(9,.tsl 0 (Node.rows ((a.take b)++[Node.mk c d e f])))]) (fun k=>[.tail 88 4 (Node.rows ((a.take b)++[Node.mk c d e f])).length]) (vI n a b c d e f) (r:=r) ?_ ?_
 ·intro k h
  unfold vI at h;conv=>whnf
  refine bq h fun g t h=>⟨_,qM t,?_⟩;conv=>whnf
  obtain⟨s,h⟩:=qb h;refine⟨⟨(kod s:(g<=(Node.rows a).length)),jw _,Codec.wide zL a⟩,?_⟩
  first|rw[show List.drop g (List.take ((Node.rows a).length) (Node.rows a))=Node.rows (a.drop g)from Codec.dropAll zL a g]|rw[show List.drop g (List.take ((zL.rows a).length) (zL.rows a))=Node.rows (a.drop g)from Codec.dropAll zL a g]
  conv=>whnf
  rw[show Node.rows ((a.take b)++[Node.mk c d e f])++Node.rows (a.drop g)=Node.rows (((a.take b)++[Node.mk c d e f])++(a.drop g))from Codec.append zL ((a.take b)++[Node.mk c d e f]) (a.drop g)];conv=>whnf
  obtain⟨m,h⟩:=qb h;refine⟨⟨Codec.wide zL (((a.take b)++[Node.mk c d e f])++(a.drop g)),kod m,qO m (by decide)⟩,?_⟩;conv=>whnf
  refine⟨⟨rfl,rfl,rfl⟩,?_⟩;obtain rfl:=sj h;conv=>whnf
  try exact oX
 conv=>whnf
 apply ifc h<;>intro _ h
 ·conv=>whnf
  exact⟨(kwr .i64 (i+1)),h,wk [1] []⟩
 conv=>whnf
 exact⟨i,h,wk [1] []⟩
abbrev Dz (r:Graph×Int):PV:=PV.tup [PV.agg (vG.cells r.1),PV.int .i64 r.2]
def ZT (n:Nat) (g:Graph) (i:Node):Option (Graph×Int):=
 match g,i with
 | ⟨a,m⟩,⟨b,c,d,e⟩=>
 bnd (dx n (Node.mk b c d e)) fun o=>
 bif(!o)then(
 some (Graph.mk ([]:List Node) ([]:List Edge),(20:Int)))
 else(
 bnd (qK n a b) fun⟨p,f⟩=>
 bif(bif(!f)then(decide (((Node.rows a).length:Int)≥4096))else false)then(
 some (Graph.mk ([]:List Node) ([]:List Edge),(8:Int)))
 else(
 bnd (fO n a p f (Node.mk b c d e)) fun j=>
 bnd (xV n (Graph.mk j m)) fun⟨k,l⟩=>
 some (Graph.mk k l,(0:Int))))
theorem Cw (n:Nat):∀ (a:Graph) (b:Node) (r:Graph×Int),ZT n a b=some r->qc TP 110 [PV.agg (vG.cells a),PV.agg (zL.cells b)] (Dz r):=by
 intro a b r h;obtain⟨_,_⟩:=a;obtain⟨_,_,_,_⟩:=b;unfold ZT at h;refine zN Tryz.call110 Tryz.func110 [1000000] ?_;conv=>whnf
 refine bq h fun _ f h=>⟨_,(px n _ _ f),?_⟩;conv=>whnf
 apply ifc h<;>intro g h
 ·obtain rfl:=sj h
  conv=>whnf
  try exact oX
 conv=>whnf
 refine bq h fun⟨_,_⟩ e h=>⟨_,(zj n _ _ _ e),?_⟩;conv=>whnf
 refine⟨id,id,id,id,?_⟩;conv=>whnf
 apply ifc h<;>intro g h
 ·obtain rfl:=sj h
  conv=>whnf
  try exact oX
 conv=>whnf
 refine bq h fun _ d h=>⟨_,(tm n _ _ _ _ _ d),?_⟩;conv=>whnf
 refine bq h fun⟨_,_⟩ c h=>⟨_,(uN n _ _ c),?_⟩;obtain rfl:=sj h;conv=>whnf
 try exact oX
abbrev Xc (_:List Node) (_:List Edge) (_ _:Int) (_:List SS) (_:List Val) (_:Int) (_:Bool) (_:Int) (_:SS) (_:List Val) (_:List SS) (r:(List SS)×(List Val)):FV:=.p (.tup [])
abbrev ZX (j:List Node) (k:List Edge) (a b:Int) (_:List SS) (_:List Val) (c:Int) (d:Bool) (e:Int) (f:SS) (g:List Val) (i:List SS) (r:(List SS)×(List Val)):List AObj:=[.box 79 [.p (.sl (Node.rows j)),.p (.sl (Edge.rows k)),pI a,pI b,.tsl 1 (qi r.1),.tsl 2 (Val.rows r.2),pI c,pB d,pI e,pS f,pV g,pT i],.tail 9 1 (qi r.1).length,.tail 35 6 (Val.rows r.2).length]
def fH (n:Nat) (a:SS) (k:Val) (w:List Node) (x:List Edge) (l m:Int) (b:List SS) (c:List Val) (o:Int) (p:Bool) (q:Int) (s:SS) (t:List Val) (u:List SS):Option ((List SS)×(List Val)):=
 match k with
 | ⟨d,e,f,g,i,j⟩=>
 bnd (zX n a w x l m b c o p q s t u) fun⟨⟨_,_,_,_,_,_⟩,v⟩=>
 bif(bif(!v)then(!(a==([]:SS)))else false)then(
 chk (decide ((qi (b++[a])).length * 16<=140737488355328)) (
 chk (decide ((Val.rows (c++[Val.mk d e f g i j])).length * 88<=140737488355328)) (
 some ((b++[a]),(c++[Val.mk d e f g i j])))))
 else(
 some (b,c))
theorem mD (n:Nat):∀ (c:SS) (y:Val) (w:List Node) (x:List Edge) (k l:Int) (a:List SS) (b:List Val) (m:Int) (o:Bool) (q:Int) (s:SS) (t:List Val) (u:List SS) (r:(List SS)×(List Val)),fH n c y w x k l a b m o q s t u=some r->qS TP 112 [.ptr 0 0,.p (PV.str c),.p (PV.agg (xZ.cells y))] [.box 79 [.p (.sl (Node.rows w)),.p (.sl (Edge.rows x)),pI k,pI l,.tsl 1 (qi a),.tsl 2 (Val.rows b),pI m,pB o,pI q,pS s,pV t,pT u],.tail 9 1 (qi a).length,.tail 35 6 (Val.rows b).length] 1 (fun v lo=>v=Xc w x k l a b m o q s t u r/\lo=ZX w x k l a b m o q s t u r):=by
 intro c y w x k l a b m o q s t u r h;obtain⟨d,e,f,g,i,j⟩:=y;unfold fH at h;refine zO Tryz.call112 Tryz.func112 [25,40000003,1000000] ?_;conv=>whnf
 refine bq h fun⟨⟨C,D,E,F,G,H⟩,I⟩ B h=>?_;refine zz (fj n _ _ _ _ _ _ _ _ _ _ _ _ _ _ B) [0,1,2] [] ?_;rintro _ _ ⟨rfl,rfl⟩;refine⟨.p (.tup [.agg [.int .i64 C,.bool D,.int .i64 E,.str F,.sl (Val.rows G),.sl (qi H)],.bool I]),[.box 79 [.p (.sl (Node.rows w)),.p (.sl (Edge.rows x)),pI k,pI l,.tsl 4 (qi a),.tsl 5 (Val.rows b),pI m,pB o,pI q,pS s,pV t,pT u],.dead,.dead,.box 35 [pI d,pB e,pI f,pS g,pV i,pT j],.tail 9 1 (qi a).length,.tail 35 6 (Val.rows b).length],rfl,rfl,?_⟩;conv=>whnf
 refine⟨id,id,?_⟩;conv=>whnf
 apply ifc h<;>intro _ h
 ·conv=>whnf
  refine⟨Codec.one cV [c],qi [c],.inl rfl,?_⟩;conv=>whnf
  rw[show qi a++qi [c]=qi (a++[c])from Codec.append cV a [c]];conv=>whnf
  obtain⟨A,h⟩:=qb h;refine⟨⟨Codec.wide cV (a++[c]),kod A,qO A (by decide)⟩,?_⟩;conv=>whnf
  refine⟨⟨rfl,rfl,rfl⟩,?_⟩;conv=>whnf
  refine⟨Codec.one xZ [Val.mk d e f g i j],Val.rows [Val.mk d e f g i j],.inl rfl,?_⟩;conv=>whnf
  rw[show Val.rows b++Val.rows [Val.mk d e f g i j]=Val.rows (b++[Val.mk d e f g i j])from Codec.append xZ b [Val.mk d e f g i j]];conv=>whnf
  obtain⟨z,h⟩:=qb h;refine⟨⟨Codec.wide xZ (b++[Val.mk d e f g i j]),kod z,qO z (by decide)⟩,?_⟩;conv=>whnf
  refine⟨⟨rfl,rfl,rfl⟩,?_⟩;obtain rfl:=sj h;conv=>whnf
  refine⟨_,_,⟨rfl,rfl⟩,wk [0,7,8] []⟩
 obtain rfl:=sj h;conv=>whnf
 refine⟨_,_,⟨rfl,rfl⟩,wk [0,4,5] []⟩
abbrev Xe (_:List Node) (_:List Edge) (_ _:Int) (_:List SS) (_:List Val) (_:Int) (_:Bool) (_:Int) (_:SS) (_:List Val) (_:List SS) (r:Int×Int×(List Node)×(List Edge)×Int×(List SS)×(List Val)):FV:=.p (.tup [.int .i64 r.1,.int .i64 r.2.1])
abbrev Xa (_:List Node) (_:List Edge) (_ a:Int) (_:List SS) (_:List Val) (b:Int) (c:Bool) (d:Int) (e:SS) (f:List Val) (g:List SS) (r:Int×Int×(List Node)×(List Edge)×Int×(List SS)×(List Val)):List AObj:=[.box 79 [.p (.sl (Node.rows r.2.2.1)),.p (.sl (Edge.rows r.2.2.2.1)),.p (.int .i64 r.2.2.2.2.1),pI a,.tsl 1 (qi r.2.2.2.2.2.1),.tsl 2 (Val.rows r.2.2.2.2.2.2),pI b,pB c,pI d,pS e,pV f,pT g],.tail 9 1 (qi r.2.2.2.2.2.1).length,.tail 35 6 (Val.rows r.2.2.2.2.2.2).length]
def dY (n:Nat) (v:qe) (w:Made) (b:List Node) (c:List Edge) (a i:Int) (d:List SS) (e:List Val) (j:Int) (k:Bool) (l:Int) (m:SS) (o:List Val) (p:List SS):Option (Int×Int×(List Node)×(List Edge)×Int×(List SS)×(List Val)):=
 match v,w with
 | ⟨g,f,_,_⟩,⟨D,E⟩=>
 bnd (zX n g b c a i d e j k l m o p) fun⟨⟨x,_,q,_,_,_⟩,y⟩=>
 bif y then(
 bnd (QC n (Graph.mk b c) q) fun⟨⟨_,_,_,_⟩,z⟩=>
 bif(bif(x != 6)then true else(!z))then(
 some ((0:Int),(23:Int),b,c,a,d,e))
 else(
 some (q,(0:Int),b,c,a,d,e)))
 else(
 bif(decide (a≥4611686018427387904))then(
 some ((0:Int),(8:Int),b,c,a,d,e))
 else(
 chk (decide ((qi f).length * 16<=140737488355328)) (
 bnd (PA n f) fun _=>
 bnd (Gy n f) fun A=>
 bnd (ZT n (Graph.mk b c) (Node.mk a A D E)) fun⟨⟨s,t⟩,u⟩=>
 bif(u != 0)then(
 some ((0:Int),u,b,c,a,d,e))
 else(
 bnd (fH n g (Val.mk (6:Int) false a ([]:SS) ([]:List Val) ([]:List SS)) s t (kwr .i64 (a+1)) i d e j k l m o p) fun⟨B,C⟩=>
 some (a,(0:Int),s,t,(kwr .i64 (a+1)),B,C)))))
theorem Zr (n:Nat):∀ (q:qe) (s:Made) (m:List Node) (o:List Edge) (k c:Int) (a:List SS) (b:List Val) (d:Int) (e:Bool) (f:Int) (g:SS) (i:List Val) (j:List SS) (r:Int×Int×(List Node)×(List Edge)×Int×(List SS)×(List Val)),dY n q s m o k c a b d e f g i j=some r->qS TP 64 [.ptr 0 0,.p (PV.agg (ua.cells q)),.p (PV.agg (gA.cells s))] [.box 79 [.p (.sl (Node.rows m)),.p (.sl (Edge.rows o)),pI k,pI c,.tsl 1 (qi a),.tsl 2 (Val.rows b),pI d,pB e,pI f,pS g,pV i,pT j],.tail 9 1 (qi a).length,.tail 35 6 (Val.rows b).length] 1 (fun v lo=>v=Xe m o k c a b d e f g i j r/\lo=Xa m o k c a b d e f g i j r):=by
 intro q s m o k c a b d e f g i j r h;obtain⟨u,l,C,D⟩:=q;obtain⟨E,F⟩:=s;unfold dY at h;refine zO Tryz.call64 Tryz.func64 [25,56,112,40000003,40000012,1000000] ?_;conv=>whnf
 refine bq h fun⟨⟨w,x,y,z,A,B⟩,R⟩ K h=>?_;refine zz (fj n _ _ _ _ _ _ _ _ _ _ _ _ _ _ K) [0,1,2] [] ?_;rintro _ _ ⟨rfl,rfl⟩;refine⟨.p (.tup [.agg [.int .i64 w,.bool x,.int .i64 y,.str z,.sl (Val.rows A),.sl (qi B)],.bool R]),[.box 79 [.p (.sl (Node.rows m)),.p (.sl (Edge.rows o)),pI k,pI c,.tsl 5 (qi a),.tsl 6 (Val.rows b),pI d,pB e,pI f,pS g,pV i,pT j],.dead,.dead,.box 102 [pS u,pT l,pT C,pE D],.box 146 [pT E,pV F],.tail 9 1 (qi a).length,.tail 35 6 (Val.rows b).length],rfl,rfl,?_⟩;conv=>whnf
 apply ifc h<;>intro t h
 ·conv=>whnf
  refine bq h fun⟨⟨_,_,_,_⟩,_⟩ L h=>⟨_,(GS n _ _ _ L),?_⟩;conv=>whnf
  refine⟨id,id,?_⟩;conv=>whnf
  apply ifc h<;>intro t h
  ·obtain rfl:=sj h
   conv=>whnf
   refine⟨_,_,⟨rfl,rfl⟩,wk [0,5,6] []⟩
  obtain rfl:=sj h;conv=>whnf
  refine⟨_,_,⟨rfl,rfl⟩,wk [0,5,6] []⟩
 conv=>whnf
 apply ifc h<;>intro t h
 ·obtain rfl:=sj h
  conv=>whnf
  refine⟨_,_,⟨rfl,rfl⟩,wk [0,5,6] []⟩
 conv=>whnf
 obtain⟨Q,h⟩:=qb h;refine zz (bu l (kod Q)) [] [] ?_;rintro _ _ ⟨rfl,rfl⟩;refine⟨.tsl 8 (qi l),[.box 79 [.p (.sl (Node.rows m)),.p (.sl (Edge.rows o)),pI k,pI c,.tsl 5 (qi a),.tsl 6 (Val.rows b),pI d,pB e,pI f,pS g,pV i,pT j],.dead,.dead,.box 102 [pS u,pT l,pT C,pE D],.box 146 [pT E,pV F],.tail 9 1 (qi a).length,.tail 35 6 (Val.rows b).length,.box 35 [pI w,pB x,pI y,pS z,pV A,pT B],.tail 9 1 (qi l).length],rfl,rfl,?_⟩;conv=>whnf
 refine bq h fun _ P h=>⟨_,(PB n _ _ P),?_⟩;conv=>whnf
 refine bq h fun _ O h=>⟨_,(Ep n _ _ O),?_⟩;conv=>whnf
 refine bq h fun⟨⟨G,H⟩,_⟩ N h=>⟨_,(Cw n _ _ _ N),?_⟩;conv=>whnf
 apply ifc h<;>intro t h
 ·obtain rfl:=sj h
  conv=>whnf
  refine⟨_,_,⟨rfl,rfl⟩,wk [0,5,6] []⟩
 conv=>whnf
 refine bq h fun⟨I,J⟩ M h=>?_;refine zz (mD n _ _ _ _ _ _ _ _ _ _ _ _ _ _ _ M) [0,5,6] [] ?_;rintro _ _ ⟨rfl,rfl⟩;refine⟨.p (.tup []),[.box 79 [.p (.sl (Node.rows G)),.p (.sl (Edge.rows H)),.p (.int .i64 (kwr .i64 (k+1))),pI c,.tsl 10 (qi I),.tsl 11 (Val.rows J),pI d,pB e,pI f,pS g,pV i,pT j],.dead,.dead,.box 102 [pS u,pT l,pT C,pE D],.box 146 [pT E,pV F],.dead,.dead,.box 35 [pI w,pB x,pI y,pS z,pV A,pT B],.tail 9 1 (qi l).length,.box 29 [.p (.sl (Node.rows G)),.p (.sl (Edge.rows H))],.tail 9 1 (qi I).length,.tail 35 6 (Val.rows J).length],rfl,rfl,?_⟩;obtain rfl:=sj h;conv=>whnf
 refine⟨_,_,⟨rfl,rfl⟩,wk [0,10,11] []⟩
abbrev VC (r:Bool):PV:=PV.bool r
def dw (n:Nat) (c:Edge):Option (Bool):=
 match c with
 | ⟨a,_,_,d,e,f⟩=>
 bnd (qE (decide (a≥1)) (py n d)) fun b=>
 bnd (qE (bif(decide (a≥1))then b else false) (mQ n e f)) fun g=>
 some (bif(bif(decide (a≥1))then b else false)then g else false)
theorem pw (n:Nat):∀ (a:Edge) (r:Bool),dw n a=some r->qc TP 67 [PV.agg (zD.cells a)] (VC r):=by
 intro a r h;obtain⟨_,_,_,_,_,_⟩:=a;unfold dw at h;refine zN Tryz.call67 Tryz.func67 [1000000] ?_;conv=>whnf
 refine⟨id,id,?_⟩;conv=>whnf
 refine bq h fun _ d h=>⟨_,fun b=>(QF n _ _ (qa d b)),?_⟩;conv=>whnf
 refine⟨id,id,id,id,id,?_⟩;conv=>whnf
 refine bq h fun _ c h=>⟨_,fun b=>(tT n _ _ _ (qa c b)),?_⟩;conv=>whnf
 refine⟨id,?_⟩;obtain rfl:=sj h;conv=>whnf
 try exact oX
abbrev DA (r:Bool):PV:=PV.bool r
def dZ (n:Nat) (a:Graph) (c:Int):Option (Bool):=
 match a with
 | ⟨b,_⟩=>
 bnd (qK n b c) fun⟨_,d⟩=>
 some d
theorem bI (n:Nat):∀ (a:Graph) (b:Int) (r:Bool),dZ n a b=some r->qc TP 68 [PV.agg (vG.cells a),PV.int .i64 b] (DA r):=by
 intro a b r h;obtain⟨_,_⟩:=a;unfold dZ at h;refine zN Tryz.call68 Tryz.func68 [1000000] ?_;conv=>whnf
 refine bq h fun⟨_,_⟩ c h=>⟨_,(zj n _ _ _ c),?_⟩;obtain rfl:=sj h;conv=>whnf
 try exact oX
abbrev UT (r:Int):PV:=PV.int .i64 r
def bH (n:Nat) (a:Edge):Option (Int):=
 match a with
 | ⟨b,_,_,_,_,_⟩=>
 some b
theorem Vr (n:Nat):∀ (a:Edge) (r:Int),bH n a=some r->qc TP 104 [PV.agg (zD.cells a)] (UT r):=by
 intro a r h;obtain⟨_,_,_,_,_,_⟩:=a;unfold bH at h;refine zN Tryz.call104 Tryz.func104 [1000000] ?_;obtain rfl:=sj h;conv=>whnf
 try exact oX
abbrev nN (r:Int):PV:=PV.int .i64 r
def zS (n:Nat) (a:Edge) (j:Int) (_:Unit):Option (Int):=
 match a with
 | ⟨b,d,e,f,g,i⟩=>
 bnd (bH n (Edge.mk b d e f g i)) fun k=>
 bnd (vf n k j) fun c=>
 some c
theorem gT (n:Nat):∀ (a:Edge) (b:Int) (c:Unit) (r:Int),zS n a b c=some r->qc TP 149 [PV.agg (zD.cells a),PV.int .i64 b,PV.hp [PV.fn 104]] (nN r):=by
 intro a b c r h;obtain⟨_,_,_,_,_,_⟩:=a;unfold zS at h;refine zN Tryz.call149 Tryz.func149 [1000000] ?_;conv=>whnf
 refine bq h fun _ e h=>⟨_,(Vr n _ _ e),?_⟩;conv=>whnf
 refine bq h fun _ d h=>⟨_,(dK n _ _ _ d),?_⟩;obtain rfl:=sj h;conv=>whnf
 try exact oX
end W
end
section
set_option maxRecDepth 100000
set_option maxHeartbeats 20000000
open Go Go.Proofs Ax
namespace W
abbrev xf (r:Int×Bool):PV:=PV.tup [PV.int .i64 r.1,PV.bool r.2]
def qj (n:Nat) (b:List Edge) (e:Int):LK (Int×Int) (Int×Bool):=fun d (a,c)=>
 bif(decide (a<c))then(
 bnd (idx b (kwr .i64 (Int.fdiv (kwr .u64 (kwr .i64 (a+c))) (2 ^ (min (Int.toNat (1:Int)) IntKind.u64.bits))))) fun⟨s,t,u,v,f,g⟩=>
 bnd (zS n (Edge.mk s t u v f g) e ()) fun i=>
 bif(decide (i<0))then(
 d ((kwr .i64 ((kwr .i64 (Int.fdiv (kwr .u64 (kwr .i64 (a+c))) (2 ^ (min (Int.toNat (1:Int)) IntKind.u64.bits))))+1)),c))
 else(
 d (a,(kwr .i64 (Int.fdiv (kwr .u64 (kwr .i64 (a+c))) (2 ^ (min (Int.toNat (1:Int)) IntKind.u64.bits)))))))
 else(
 bnd (qE (decide (a<((Edge.rows b).length:Int))) (idx b a)) fun⟨j,k,l,m,o,p⟩=>
 bnd (qE (decide (a<((Edge.rows b).length:Int))) (zS n (Edge.mk j k l m o p) e ())) fun q=>
 some (a,(bif(decide (a<((Edge.rows b).length:Int)))then(q==0)else false)))
def qz (n:Nat) (a:List Edge) (b:Int) (_:Unit):Option (Int×Bool):=
 qC (qj n a b) n ((0:Int),((Edge.rows a).length:Int))
theorem xa (n:Nat):∀ (a:List Edge) (d:Int) (f:Unit) (r:Int×Bool),qz n a d f=some r->qc TP 148 [PV.sl (Edge.rows a),PV.int .i64 d,PV.clo 149 [PV.hp [PV.fn 104]]] (xf r):=by
 intro a d f r h;unfold qz at h;refine zN Tryz.call148 Tryz.func148 [1000000] ?_;conv=>whnf
 refine qP.fn [1000000] (S:=Int×Int) (fun(b,c)=>[(0,.p (.sl (Edge.rows a))),(1,pI d),(2,.p (.clo 149 [PV.hp [PV.fn 104]])),(8,.p (.int .i64 ((Edge.rows a).length:Int))),(9,pI b),(10,pI c)]) (fun(b,c)=>[]) (B:=qj n a d) h (wk [] []) ?_;intro _ st h;obtain⟨b,c⟩:=st;unfold qj at h;conv=>whnf
 apply ifc h<;>intro l h
 ·conv=>whnf
  refine⟨by unfold gI; decide,?_⟩;conv=>whnf
  refine bq h fun⟨_,_,_,_,_,_⟩ i h=>⟨_,Codec.at_ zD i,?_⟩;conv=>whnf
  refine bq h fun _ g h=>⟨_,(gT n _ _ _ _ g),?_⟩;conv=>whnf
  apply ifc h<;>intro l h
  ·conv=>whnf
   exact⟨((kwr .i64 ((kwr .i64 (Int.fdiv (kwr .u64 (kwr .i64 (b+c))) (2 ^ (min (Int.toNat (1:Int)) IntKind.u64.bits))))+1)),c),h,wk [] []⟩
  conv=>whnf
  exact⟨(b,(kwr .i64 (Int.fdiv (kwr .u64 (kwr .i64 (b+c))) (2 ^ (min (Int.toNat (1:Int)) IntKind.u64.bits))))),h,wk [] []⟩
 conv=>whnf
 refine⟨id,id,?_⟩;conv=>whnf
 refine bq h fun⟨_,_,_,_,_,_⟩ k h=>⟨_,fun e=>Codec.at_ zD (qa k e),?_⟩;conv=>whnf
 refine⟨id,id,id,id,?_⟩;conv=>whnf
 refine bq h fun _ j h=>⟨_,fun e=>(gT n _ _ _ _ (qa j e)),?_⟩;conv=>whnf
 refine⟨id,id,?_⟩;obtain rfl:=sj h;conv=>whnf
 try exact oX
abbrev fP (r:Int×Bool):PV:=PV.tup [PV.int .i64 r.1,PV.bool r.2]
def za (n:Nat) (a:List Edge) (b:Int):Option (Int×Bool):=
 bnd (qz n a b ()) fun⟨c,d⟩=>
 some (c,d)
theorem xq (n:Nat):∀ (a:List Edge) (b:Int) (r:Int×Bool),za n a b=some r->qc TP 103 [PV.sl (Edge.rows a),PV.int .i64 b,PV.fn 104] (fP r):=by
 intro a b r h;unfold za at h;refine zN Tryz.call103 Tryz.func103 [10000005,1000000] ?_;conv=>whnf
 refine bq h fun⟨_,_⟩ c h=>⟨_,(xa n _ _ _ _ c),?_⟩;obtain rfl:=sj h;conv=>whnf
 try exact oX
abbrev tZ (r:List Edge):PV:=PV.sl (Edge.rows r)
def vH (n:Nat) (a:List Edge) (c:Nat) (d e f:Int) (g:SS) (i:List SS) (j:List Val):Int->Option (List Edge):=fun k=>
 bnd (rZ k) fun b=>
 chk (decide (b<=(Edge.rows a).length)) (
 chk (decide ((Edge.rows (((a.take c)++[Edge.mk d e f g i j])++(a.drop b))).length * 88<=140737488355328)) (
 some (((a.take c)++[Edge.mk d e f g i j])++(a.drop b))))
def fN (n:Nat) (b:List Edge) (c:Int) (m:Bool) (k:Edge):Option (List Edge):=
 match k with
 | ⟨d,e,f,g,i,j⟩=>
 bnd (rZ c) fun a=>
 bnd (rZ c) fun l=>
 chk (decide (a=l/\a<=(Edge.rows b).length)) (
 chk (decide ((Edge.rows ((b.take a)++[Edge.mk d e f g i j])).length * 88<=140737488355328)) (
 bif m then(
 vH n b a d e f g i j (kwr .i64 (c+1)))
 else(
 vH n b a d e f g i j c)))
theorem tl (n:Nat):∀ (a:List Edge) (k:Int) (o:Bool) (l:Edge) (r:List Edge),fN n a k o l=some r->qc TP 159 [PV.sl (Edge.rows a),PV.int .i64 k,PV.bool o,PV.agg (zD.cells l)] (tZ r):=by
 intro a k o l r h;obtain⟨c,d,e,f,g,i⟩:=l;unfold fN at h;refine zN Tryz.call159 Tryz.func159 [1000000] ?_;conv=>whnf
 refine bq h fun b x h=>⟨_,qM x,?_⟩;conv=>whnf
 refine bq h fun _ w h=>⟨_,qM w,?_⟩;conv=>whnf
 obtain⟨t,h⟩:=qb h;refine⟨⟨(kod t).1,(kod t).2,Codec.wide zD a⟩,?_⟩
 first|rw[show List.take b (Edge.rows a)=Edge.rows (a.take b)from Codec.take zD a b]|rw[show List.take b (zD.rows a)=Edge.rows (a.take b)from Codec.take zD a b]
 conv=>whnf
 refine⟨Codec.one zD [Edge.mk c d e f g i],Edge.rows [Edge.mk c d e f g i],.inl rfl,?_⟩;conv=>whnf
 rw[show Edge.rows (a.take b)++Edge.rows [Edge.mk c d e f g i]=Edge.rows ((a.take b)++[Edge.mk c d e f g i])from Codec.append zD (a.take b) [Edge.mk c d e f g i]];conv=>whnf
 obtain⟨s,h⟩:=qb h;refine⟨⟨Codec.wide zD ((a.take b)++[Edge.mk c d e f g i]),kod s,qO s (by decide)⟩,?_⟩;refine⟨true,Codec.ne_nil zD _ _,?_⟩;conv=>whnf
 refine gW.cut (S:=Int) (fun m=>[(0,.p (.sl (Edge.rows a))),(1,pI m),(9,.tsl 0 (Edge.rows ((a.take b)++[Edge.mk c d e f g i])))]) (fun m=>[.tail 86 6 (Edge.rows ((a.take b)++[Edge.mk c d e f g i])).length]) (vH n a b c d e f g i) (r:=r) ?_ ?_
 ·intro m h
  unfold vH at h;conv=>whnf
  refine bq h fun j v h=>⟨_,qM v,?_⟩;conv=>whnf
  obtain⟨u,h⟩:=qb h;refine⟨⟨(kod u:(j<=(Edge.rows a).length)),jw _,Codec.wide zD a⟩,?_⟩
  first|rw[show List.drop j (List.take ((Edge.rows a).length) (Edge.rows a))=Edge.rows (a.drop j)from Codec.dropAll zD a j]|rw[show List.drop j (List.take ((zD.rows a).length) (zD.rows a))=Edge.rows (a.drop j)from Codec.dropAll zD a j]
  conv=>whnf
  rw[show Edge.rows ((a.take b)++[Edge.mk c d e f g i])++Edge.rows (a.drop j)=Edge.rows (((a.take b)++[Edge.mk c d e f g i])++(a.drop j))from Codec.append zD ((a.take b)++[Edge.mk c d e f g i]) (a.drop j)];conv=>whnf
  obtain⟨q,h⟩:=qb h;refine⟨⟨Codec.wide zD (((a.take b)++[Edge.mk c d e f g i])++(a.drop j)),kod q,qO q (by decide)⟩,?_⟩;conv=>whnf
  refine⟨⟨rfl,rfl,rfl⟩,?_⟩;obtain rfl:=sj h;conv=>whnf
  try exact oX
 conv=>whnf
 apply ifc h<;>intro _ h
 ·conv=>whnf
  exact⟨(kwr .i64 (k+1)),h,wk [1] []⟩
 conv=>whnf
 exact⟨k,h,wk [1] []⟩
abbrev CY (r:Graph×Int):PV:=PV.tup [PV.agg (vG.cells r.1),PV.int .i64 r.2]
def ds (n:Nat) (a:Bool) (b:List Edge) (d i:Int) (j k:Int) (l:SS) (m:List SS) (o:List Val) (c:List Node):Unit->Option (Graph×Int):=fun _=>
 bif(bif(!a)then(decide (((Edge.rows b).length:Int)≥4096))else false)then(
 some (Graph.mk ([]:List Node) ([]:List Edge),(8:Int)))
 else(
 bnd (fN n b d a (Edge.mk i j k l m o)) fun e=>
 bnd (xV n (Graph.mk c e)) fun⟨f,g⟩=>
 some (Graph.mk f g,(0:Int)))
def QB (n:Nat) (m:Graph) (o:Edge):Option (Graph×Int):=
 match m,o with
 | ⟨d,a⟩,⟨e,b,c,f,j,k⟩=>
 bnd (dw n (Edge.mk e b c f j k)) fun u=>
 bif(!u)then(
 some (Graph.mk ([]:List Node) ([]:List Edge),(20:Int)))
 else(
 bnd (dZ n (Graph.mk d a) b) fun l=>
 bnd (qE (!(!l)) (dZ n (Graph.mk d a) c)) fun p=>
 bif(bif(!l)then true else(!p))then(
 some (Graph.mk ([]:List Node) ([]:List Edge),(23:Int)))
 else(
 bnd (za n a e) fun⟨g,i⟩=>
 bif i then(
 bnd (idx a g) fun⟨_,q,s,t,_,_⟩=>
 bif(bif(bif(q != b)then true else(s != c))then true else(!(t==f)))then(
 some (Graph.mk ([]:List Node) ([]:List Edge),(20:Int)))
 else(
 ds n i a g e b c f j k d ()))
 else(
 ds n i a g e b c f j k d ())))
theorem GR (n:Nat):∀ (a:Graph) (b:Edge) (r:Graph×Int),QB n a b=some r->qc TP 113 [PV.agg (vG.cells a),PV.agg (zD.cells b)] (CY r):=by
 intro a b r h;obtain⟨d,g⟩:=a;obtain⟨i,j,k,l,m,o⟩:=b;unfold QB at h;refine zN Tryz.call113 Tryz.func113 [1000000] ?_;conv=>whnf
 refine bq h fun _ x h=>⟨_,(pw n _ _ x),?_⟩;conv=>whnf
 apply ifc h<;>intro c h
 ·obtain rfl:=sj h
  conv=>whnf
  try exact oX
 conv=>whnf
 refine bq h fun _ w h=>⟨_,(bI n _ _ _ w),?_⟩;conv=>whnf
 refine⟨id,id,id,?_⟩;conv=>whnf
 refine bq h fun _ v h=>⟨_,fun y=>(bI n _ _ _ (qa v y)),?_⟩;conv=>whnf
 refine⟨id,id,?_⟩;conv=>whnf
 apply ifc h<;>intro c h
 ·obtain rfl:=sj h
  conv=>whnf
  try exact oX
 conv=>whnf
 refine bq h fun⟨e,f⟩ u h=>⟨_,(xq n _ _ _ u),?_⟩;conv=>whnf
 refine gW.cut (S:=Unit) (fun _=>[(2,.ptr 0 0),(3,.ptr 1 0),(4,.ptr 2 0),(6,pI e),(7,pB f)]) (fun _=>[.box 29 [.p (.sl (Node.rows d)),.p (.sl (Edge.rows g))],.box 86 [pI i,pI j,pI k,pS l,pT m,pV o],.box 29 [zq2,zq2]]) (ds n f g e i j k l m o d) (r:=r) ?_ ?_
 ·intro _ h
  unfold ds at h;conv=>whnf
  refine⟨id,id,id,id,?_⟩;conv=>whnf
  apply ifc h<;>intro c h
  ·obtain rfl:=sj h
   conv=>whnf
   try exact oX
  conv=>whnf
  refine bq h fun _ s h=>⟨_,(tl n _ _ _ _ _ s),?_⟩;conv=>whnf
  refine bq h fun⟨_,_⟩ q h=>⟨_,(uN n _ _ q),?_⟩;obtain rfl:=sj h;conv=>whnf
  try exact oX
 conv=>whnf
 apply ifc h<;>intro c h
 ·conv=>whnf
  refine bq h fun⟨_,_,_,_,_,_⟩ t h=>⟨_,Codec.at_ zD t,?_⟩;conv=>whnf
  iterate 10 refine⟨id,?_⟩
  conv=>whnf
  apply ifc h<;>intro c h
  ·obtain rfl:=sj h
   conv=>whnf
   try exact oX
  conv=>whnf
  exact⟨(),h,wk [0,1,2] []⟩
 conv=>whnf
 exact⟨(),h,wk [0,1,2] []⟩
abbrev Xd (_:List Node) (_:List Edge) (_ _:Int) (_:List SS) (_:List Val) (_:Int) (_:Bool) (_:Int) (_:SS) (_:List Val) (_:List SS) (r:Int×(List Node)×(List Edge)×Int×(List SS)×(List Val)):FV:=.p (.int .i64 r.1)
abbrev ZZ (_:List Node) (_:List Edge) (a _:Int) (_:List SS) (_:List Val) (b:Int) (c:Bool) (d:Int) (e:SS) (f:List Val) (g:List SS) (r:Int×(List Node)×(List Edge)×Int×(List SS)×(List Val)):List AObj:=[.box 79 [.p (.sl (Node.rows r.2.1)),.p (.sl (Edge.rows r.2.2.1)),pI a,.p (.int .i64 r.2.2.2.1),.tsl 1 (qi r.2.2.2.2.1),.tsl 2 (Val.rows r.2.2.2.2.2),pI b,pB c,pI d,pS e,pV f,pT g],.tail 9 1 (qi r.2.2.2.2.1).length,.tail 35 6 (Val.rows r.2.2.2.2.2).length]
def uC (n:Nat) (a:Int) (b:List Node) (c:List Edge) (d:List SS) (e:List Val) (q:SS) (y:List SS) (z:List Val) (j:SS) (k l:Int) (m:Bool) (o:Int) (p:SS) (s:List Val) (t:List SS):Int×Int->Option (Int×(List Node)×(List Edge)×Int×(List SS)×(List Val)):=fun(u,v)=>
 bif(decide (a≥4611686018427387904))then(
 some ((8:Int),b,c,a,d,e))
 else(
 bnd (QB n (Graph.mk b c) (Edge.mk a u v q y z)) fun⟨⟨f,g⟩,i⟩=>
 bif(i != 0)then(
 some (i,b,c,a,d,e))
 else(
 bnd (fH n j (Val.mk (7:Int) false a ([]:SS) ([]:List Val) ([]:List SS)) f g k (kwr .i64 (a+1)) d e l m o p s t) fun⟨w,x⟩=>
 some ((0:Int),f,g,(kwr .i64 (a+1)),w,x)))
def dX (n:Nat) (v:qg) (q s:Int) (w:Made) (b:List Node) (c:List Edge) (d e:Int) (f:List SS) (g:List Val) (i:Int) (j:Bool) (k:Int) (l:SS) (o:List Val) (p:List SS):Option (Int×(List Node)×(List Edge)×Int×(List SS)×(List Val)):=
 match v,w with
 | ⟨a,m,x,_,_⟩,⟨t,u⟩=>
 bif(x==1)then(
 uC n e b c f g m t u a d i j k l o p (s,q))
 else(
 uC n e b c f g m t u a d i j k l o p (q,s))
theorem Zq (n:Nat):∀ (s:qg) (o q:Int) (t:Made) (l:List Node) (m:List Edge) (c d:Int) (a:List SS) (b:List Val) (e:Int) (f:Bool) (g:Int) (i:SS) (j:List Val) (k:List SS) (r:Int×(List Node)×(List Edge)×Int×(List SS)×(List Val)),dX n s o q t l m c d a b e f g i j k=some r->qS TP 65 [.ptr 0 0,.p (PV.agg (gV.cells s)),.p (PV.int .i64 o),.p (PV.int .i64 q),.p (PV.agg (gA.cells t))] [.box 79 [.p (.sl (Node.rows l)),.p (.sl (Edge.rows m)),pI c,pI d,.tsl 1 (qi a),.tsl 2 (Val.rows b),pI e,pB f,pI g,pS i,pV j,pT k],.tail 9 1 (qi a).length,.tail 35 6 (Val.rows b).length] 1 (fun v lo=>v=Xd l m c d a b e f g i j k r/\lo=ZZ l m c d a b e f g i j k r):=by
 intro s o q t l m c d a b e f g i j k r h;obtain⟨u,w,G,H,I⟩:=s;obtain⟨z,A⟩:=t;unfold dX at h;refine zO Tryz.call65 Tryz.func65 [112,40000006,1000000] ?_;conv=>whnf
 refine gW.cut (S:=Int×Int) (fun(x,y)=>[(0,.ptr 0 0),(2,pI x),(3,pI y),(6,.ptr 1 0),(9,.ptr 2 0)]) (fun(x,y)=>[.box 79 [.p (.sl (Node.rows l)),.p (.sl (Edge.rows m)),pI c,pI d,.tsl 3 (qi a),.tsl 4 (Val.rows b),pI e,pB f,pI g,pS i,pV j,pT k],.box 104 [pS u,pS w,pI G,pT H,pE I],.box 146 [pT z,pV A],.tail 9 1 (qi a).length,.tail 35 6 (Val.rows b).length]) (uC n d l m a b w z A u c e f g i j k) (r:=r) ?_ ?_
 ·intro st h
  obtain⟨x,y⟩:=st;unfold uC at h;conv=>whnf
  apply ifc h<;>intro B h
  ·obtain rfl:=sj h
   conv=>whnf
   refine⟨_,_,⟨rfl,rfl⟩,wk [0,3,4] []⟩
  conv=>whnf
  refine bq h fun⟨⟨C,D⟩,_⟩ K h=>⟨_,(GR n _ _ _ K),?_⟩;conv=>whnf
  apply ifc h<;>intro B h
  ·obtain rfl:=sj h
   conv=>whnf
   refine⟨_,_,⟨rfl,rfl⟩,wk [0,3,4] []⟩
  conv=>whnf
  refine bq h fun⟨E,F⟩ J h=>?_;refine zz (mD n _ _ _ _ _ _ _ _ _ _ _ _ _ _ _ J) [0,3,4] [] ?_;rintro _ _ ⟨rfl,rfl⟩;refine⟨.p (.tup []),[.box 79 [.p (.sl (Node.rows C)),.p (.sl (Edge.rows D)),pI c,.p (.int .i64 (kwr .i64 (d+1))),.tsl 6 (qi E),.tsl 7 (Val.rows F),pI e,pB f,pI g,pS i,pV j,pT k],.box 104 [pS u,pS w,pI G,pT H,pE I],.box 146 [pT z,pV A],.dead,.dead,.box 29 [.p (.sl (Node.rows C)),.p (.sl (Edge.rows D))],.tail 9 1 (qi E).length,.tail 35 6 (Val.rows F).length],rfl,rfl,?_⟩;obtain rfl:=sj h;conv=>whnf
  refine⟨_,_,⟨rfl,rfl⟩,wk [0,6,7] []⟩
 conv=>whnf
 apply ifc h<;>intro B h
 ·conv=>whnf
  exact⟨(q,o),h,wk [0,3,4,1,2] []⟩
 conv=>whnf
 exact⟨(o,q),h,wk [0,3,4,1,2] []⟩
abbrev QJ (_:List Node) (_:List Edge) (_ _:Int) (_:List SS) (_:List Val) (_:Int) (_:Bool) (_:Int) (_:SS) (_:List Val) (_:List SS) (r:Int×(List Node)×(List Edge)×Int×Int×(List SS)×(List Val)):FV:=.p (.int .i64 r.1)
abbrev QH (_:List Node) (_:List Edge) (_ _:Int) (_:List SS) (_:List Val) (e:Int) (f:Bool) (a:Int) (b:SS) (c:List Val) (d:List SS) (r:Int×(List Node)×(List Edge)×Int×Int×(List SS)×(List Val)):List AObj:=[.box 79 [.p (.sl (Node.rows r.2.1)),.p (.sl (Edge.rows r.2.2.1)),.p (.int .i64 r.2.2.2.1),.p (.int .i64 r.2.2.2.2.1),.tsl 1 (qi r.2.2.2.2.2.1),.tsl 2 (Val.rows r.2.2.2.2.2.2),pI e,pB f,pI a,pS b,pV c,pT d],.tail 9 1 (qi r.2.2.2.2.2.1).length,.tail 35 6 (Val.rows r.2.2.2.2.2.2).length]
def vZ (n:Nat) (a:Int) (i:Int×Int×List Node×List Edge×Int×Int×List SS×List Val->Option (Int×(List Node)×(List Edge)×Int×Int×(List SS)×(List Val))) (k j:Int):Int×List Node×List Edge×Int×List SS×List Val->Option (Int×(List Node)×(List Edge)×Int×Int×(List SS)×(List Val)):=fun(b,c,d,e,f,g)=>
 bif(b != 0)then(
 some (b,c,d,a,e,f,g))
 else(
 i (k,(kwr .i64 (j+1)),c,d,a,e,f,g))
def gM (n:Nat) (m:List qe) (l:List (List Made)) (c z:Int) (A:Bool) (g:Int) (i:SS) (j:List Val) (k:List SS) (C:List qg) (B:Int×List Node×List Edge×Int×Int×List SS×List Val->Option (Int×(List Node)×(List Edge)×Int×Int×(List SS)×(List Val))):LK (Int×Int×List Node×List Edge×Int×Int×List SS×List Val) (Int×(List Node)×(List Edge)×Int×Int×(List SS)×(List Val)):=fun f (D,a,o,p,q,b,s,t)=>
 bif(decide (a<((qe.rows m).length:Int)))then(
 bnd (idx m a) fun⟨E,F,G,H⟩=>
 bnd (idx l c) fun I=>
 bnd (idx I (kwr .i64 ((2:Int) * a))) fun⟨J,K⟩=>
 bnd (dY n (qe.mk E F G H) (Made.mk J K) o p q b s t z A g i j k) fun⟨d,u,v,w,e,x,y⟩=>
 bif(bif(u==0)then(decide (a>0))else false)then(
 bnd (idx C (kwr .i64 (a - 1))) fun⟨L,M,N,O,P⟩=>
 bnd (idx l c) fun Q=>
 bnd (idx Q (kwr .i64 ((kwr .i64 ((2:Int) * a)) - 1))) fun⟨R,S⟩=>
 bnd (dX n (qg.mk L M N O P) D d (Made.mk R S) v w e b x y z A g i j k) fun⟨T,U,V,W,X,Y⟩=>
 vZ n e f d a (T,U,V,W,X,Y))
 else(
 vZ n e f d a (u,v,w,b,x,y)))
 else(
 B ((kwr .i64 (c+1)),o,p,q,b,s,t))
def gL (n:Nat) (b:List zU) (p:List (List Made)) (t:Int) (u:Bool) (k:Int) (l:SS) (m:List Val) (o:List SS):LK (Int×List Node×List Edge×Int×Int×List SS×List Val) (Int×(List Node)×(List Edge)×Int×Int×(List SS)×(List Val)):=fun j (a,c,d,e,f,g,i)=>
 bif(decide (a<((zU.rows b).length:Int)))then(
 bnd (idx b a) fun⟨q,s⟩=>
 qC (gM n q p a t u k l m o s j) n ((0:Int),(0:Int),c,d,e,f,g,i))
 else(
 some ((0:Int),c,d,e,f,g,i))
def cD (n:Nat) (g:List zU) (a:List Node) (b:List Edge) (c d:Int) (e:List SS) (f:List Val) (o:Int) (p:Bool) (i:Int) (j:SS) (k:List Val) (l:List SS):Option (Int×(List Node)×(List Edge)×Int×Int×(List SS)×(List Val)):=
 bnd (mr n g a b c d e f o p i j k l) fun⟨q,m⟩=>
 bif(m != 0)then(
 some (m,a,b,c,d,e,f))
 else(
 qC (gL n g q o p i j k l) n ((0:Int),a,b,c,d,e,f))
theorem tX (n:Nat):∀ (g:List zU) (o:List Node) (s:List Edge) (u w:Int) (k:List SS) (l:List Val) (e:Int) (f:Bool) (a:Int) (b:SS) (c:List Val) (d:List SS) (r:Int×(List Node)×(List Edge)×Int×Int×(List SS)×(List Val)),cD n g o s u w k l e f a b c d=some r->qS TP 33 [.ptr 0 0,.p (PV.sl (zU.rows g))] [.box 79 [.p (.sl (Node.rows o)),.p (.sl (Edge.rows s)),pI u,pI w,.tsl 1 (qi k),.tsl 2 (Val.rows l),pI e,pB f,pI a,pS b,pV c,pT d],.tail 9 1 (qi k).length,.tail 35 6 (Val.rows l).length] 1 (fun v lo=>v=QJ o s u w k l e f a b c d r/\lo=QH o s u w k l e f a b c d r):=by
 intro g o s u w k l e f a b c d r h;unfold cD at h;refine zO Tryz.call33 Tryz.func33 [63,64,65,1000000] ?_;conv=>whnf
 refine bq h fun⟨m,c2⟩ b0 h=>?_;refine zz (ZR n _ _ _ _ _ _ _ _ _ _ _ _ _ _ b0) [0,1,2] [] ?_;rintro _ _ ⟨rfl,rfl⟩;refine⟨.p (.tup [.sl (cS gA m),.int .i64 c2]),[.box 79 [.p (.sl (Node.rows o)),.p (.sl (Edge.rows s)),pI u,pI w,.tsl 3 (qi k),.tsl 4 (Val.rows l),pI e,pB f,pI a,pS b,pV c,pT d],.dead,.dead,.tail 9 1 (qi k).length,.tail 35 6 (Val.rows l).length],rfl,rfl,?_⟩;conv=>whnf
 apply ifc h<;>intro E h
 ·obtain rfl:=sj h
  conv=>whnf
  refine⟨_,_,⟨rfl,rfl⟩,wk [0,3,4] []⟩
 conv=>whnf
 refine qP.fn [63,64,65,1000000] (S:=Int×List Node×List Edge×Int×Int×List SS×List Val) (fun(i,O,P,Q,R,F,G)=>[(0,.ptr 0 0),(5,.p (.sl (cS gA m))),(23,pP g),(24,.p (.int .i64 ((zU.rows g).length:Int))),(25,pI i)]) (fun(i,O,P,Q,R,F,G)=>[.box 79 [.p (.sl (Node.rows O)),.p (.sl (Edge.rows P)),pI Q,pI R,.tsl 1 (qi F),.tsl 2 (Val.rows G),pI e,pB f,pI a,pS b,pV c,pT d],.tail 9 1 (qi F).length,.tail 35 6 (Val.rows G).length]) (B:=gL n g m e f a b c d) h (wk [0,3,4] []) ?_;intro c0 st h;obtain⟨i,O,P,Q,R,F,G⟩:=st;unfold gL at h;conv=>whnf
 apply ifc h<;>intro E h
 ·conv=>whnf
  refine bq h fun⟨j,x⟩ b1 h=>⟨_,Codec.at_ Qc b1,?_⟩;conv=>whnf
  refine qP.fn [63,64,65,1000000] (S:=Int×Int×List Node×List Edge×Int×Int×List SS×List Val) (fun(T,q,H,I,J,t,y,z)=>[(0,.ptr 0 0),(5,.p (.sl (cS gA m))),(7,pI i),(8,.ptr 1 0),(9,pI T),(23,pP g),(24,.p (.int .i64 ((zU.rows g).length:Int))),(25,pI i),(31,pN j),(32,.p (.int .i64 ((qe.rows j).length:Int))),(33,pI q)]) (fun(T,q,H,I,J,t,y,z)=>[.box 79 [.p (.sl (Node.rows H)),.p (.sl (Edge.rows I)),pI J,pI t,.tsl 2 (qi y),.tsl 3 (Val.rows z),pI e,pB f,pI a,pS b,pV c,pT d],.box 100 [pN j,pG x],.tail 9 1 (qi y).length,.tail 35 6 (Val.rows z).length]) (B:=gM n j m i e f a b c d x c0) h (wk [0,3,1,2] []) ?_;intro c1 st h;obtain⟨T,q,H,I,J,t,y,z⟩:=st;unfold gM at h;conv=>whnf
  apply ifc h<;>intro E h
  ·conv=>whnf
   refine bq h fun⟨Z,a0,a1,a2⟩ b9 h=>⟨_,Codec.at_ ua b9,?_⟩;conv=>whnf
   refine bq h fun _ b8 h=>⟨_,Codec.at_ (slC gA) b8,?_⟩;conv=>whnf
   refine bq h fun⟨_,_⟩ b7 h=>⟨_,Codec.at_ gA b7,?_⟩;conv=>whnf
   refine bq h fun⟨K,a3,a4,a5,A,U,V⟩ b2 h=>⟨.p (.tup [.int .i64 K,.int .i64 a3]),[.box 79 [.p (.sl (Node.rows a4)),.p (.sl (Edge.rows a5)),pI A,pI t,.tsl 5 (qi U),.tsl 6 (Val.rows V),pI e,pB f,pI a,pS b,pV c,pT d],.box 100 [pN j,pG x],.dead,.dead,.box 102 [pS Z,pT a0,pT a1,pE a2],.tail 9 1 (qi U).length,.tail 35 6 (Val.rows V).length],zz (Zr n _ _ _ _ _ _ _ _ _ _ _ _ _ _ _ b2) [0,2,3] [] (by rintro _ _ ⟨rfl,rfl⟩; exact⟨_,_,rfl,rfl,rfl,rfl⟩),?_⟩;conv=>whnf
   refine gW.cut (S:=Int×List Node×List Edge×Int×List SS×List Val) (fun(W,L,M,N,C,D)=>[(0,.ptr 0 0),(5,.p (.sl (cS gA m))),(7,pI i),(8,.ptr 1 0),(12,pI K),(13,pI W),(23,pP g),(24,.p (.int .i64 ((zU.rows g).length:Int))),(25,pI i),(31,pN j),(32,.p (.int .i64 ((qe.rows j).length:Int))),(33,pI q)]) (fun(W,L,M,N,C,D)=>[.box 79 [.p (.sl (Node.rows L)),.p (.sl (Edge.rows M)),pI A,pI N,.tsl 2 (qi C),.tsl 3 (Val.rows D),pI e,pB f,pI a,pS b,pV c,pT d],.box 100 [pN j,pG x],.tail 9 1 (qi C).length,.tail 35 6 (Val.rows D).length]) (vZ n A c1 K q) (r:=r) ?_ ?_
   ·intro st h
    obtain⟨W,L,M,N,C,D⟩:=st;unfold vZ at h;(conv=>whnf);apply ifc h<;>intro E h
    ·obtain rfl:=sj h
     (conv=>whnf);refine⟨_,_,⟨rfl,rfl⟩,wk [0,2,3] []⟩
    (conv=>whnf);exact⟨(K,(kwr .i64 (q+1)),L,M,A,N,C,D),h,wk [0,1,2,3] []⟩
   conv=>whnf
   refine⟨id,?_⟩;conv=>whnf
   refine⟨id,?_⟩;conv=>whnf
   apply ifc h<;>intro E h
   ·conv=>whnf
    refine bq h fun⟨_,_,_,_,_⟩ b6 h=>⟨_,Codec.at_ gV b6,?_⟩;(conv=>whnf);refine bq h fun _ b5 h=>⟨_,Codec.at_ (slC gA) b5,?_⟩;(conv=>whnf);refine bq h fun⟨_,_⟩ b4 h=>⟨_,Codec.at_ gA b4,?_⟩;(conv=>whnf);refine bq h fun⟨a6,a7,a8,a9,X,Y⟩ b3 h=>⟨pI a6,[.box 79 [.p (.sl (Node.rows a7)),.p (.sl (Edge.rows a8)),pI A,pI a9,.tsl 7 (qi X),.tsl 8 (Val.rows Y),pI e,pB f,pI a,pS b,pV c,pT d],.box 100 [pN j,pG x],.dead,.dead,.box 102 [pS Z,pT a0,pT a1,pE a2],.dead,.dead,.tail 9 1 (qi X).length,.tail 35 6 (Val.rows Y).length],zz (Zq n _ _ _ _ _ _ _ _ _ _ _ _ _ _ _ _ _ b3) [0,5,6] [] (by rintro _ _ ⟨rfl,rfl⟩; exact⟨_,_,rfl,rfl,rfl,rfl⟩),?_⟩;(conv=>whnf);exact⟨(a6,a7,a8,a9,X,Y),h,wk [0,1,7,8] []⟩
   conv=>whnf
   exact⟨(a3,a4,a5,t,U,V),h,wk [0,1,5,6] []⟩
  conv=>whnf
  exact⟨((kwr .i64 (i+1)),H,I,J,t,y,z),h,wk [0,2,3] []⟩
 obtain rfl:=sj h;conv=>whnf
 refine⟨_,_,⟨rfl,rfl⟩,wk [0,1,2] []⟩
abbrev UQ (r:Env×State×Int):PV:=PV.tup [PV.agg (SV.cells r.1),PV.agg (mH.cells r.2.1),PV.int .i64 r.2.2]
def rJ (n:Nat) (g:List zU) (d:Env) (e:State) (f:Val):Option (Env×State×Int):=
 match d,e,f with
 | ⟨b,c⟩,⟨⟨w,x⟩,⟨y,z⟩⟩,⟨A,B,i,j,k,l⟩=>
 bnd (xV n (Graph.mk w x)) fun⟨m,o⟩=>
 chk (decide ((qi b).length * 16<=140737488355328)) (
 chk (decide ((Val.rows c).length * 88<=140737488355328)) (
 bnd (cD n g m o y z b c A B i j k l) fun⟨a,p,q,s,t,u,v⟩=>
 bif(a != 0)then(
 some (Env.mk ([]:List SS) ([]:List Val),State.mk (Graph.mk ([]:List Node) ([]:List Edge)) (cG.mk (0:Int) (0:Int)),a))
 else(
 some (Env.mk u v,State.mk (Graph.mk p q) (cG.mk s t),(0:Int)))))
theorem Vp (n:Nat):∀ (f:List zU) (c:Env) (d:State) (e:Val) (r:Env×State×Int),rJ n f c d e=some r->qc TP 12 [PV.sl (zU.rows f),PV.agg (SV.cells c),PV.agg (mH.cells d),PV.agg (xZ.cells e)] (UQ r):=by
 intro f c d e r h;obtain⟨a,b⟩:=c;obtain⟨⟨F,G⟩,⟨s,t⟩⟩:=d;obtain⟨l,m,g,i,j,k⟩:=e;unfold rJ at h;refine zN Tryz.call12 Tryz.func12 [24,33,40000005,50000008,60013003,1000000] ?_;conv=>whnf
 refine zI Tryz.call24 Tryz.func24 [56,57,30000018,30000020,40000002,86000056,86000057,1000000] ?_;conv=>whnf
 refine bq h fun⟨y,z⟩ x h=>⟨_,(uN n _ _ x),?_⟩;conv=>whnf
 obtain⟨w,h⟩:=qb h;refine⟨.tsl 8 (qi a),[.tail 9 1 (qi a).length],zz (bu a (kod w)) [] [] (by rintro _ _ ⟨rfl,rfl⟩; exact⟨_,_,rfl,rfl,rfl,rfl⟩),?_⟩;conv=>whnf
 obtain⟨v,h⟩:=qb h;refine⟨.tsl 9 (Val.rows b),[.tail 35 6 (Val.rows b).length],zz (Gw b (kod v)) [] [] (by rintro _ _ ⟨rfl,rfl⟩; exact⟨_,_,rfl,rfl,rfl,rfl⟩),?_⟩;conv=>whnf
 refine bq h fun⟨A,B,C,D,E,o,q⟩ u h=>?_;refine zz (tX n _ _ _ _ _ _ _ _ _ _ _ _ _ _ u) [10,8,9] [] ?_;rintro _ _ ⟨rfl,rfl⟩;refine⟨pI A,[.box 25 [pT a,pV b],.box 33 [.p (.sl (Node.rows F)),.p (.sl (Edge.rows G)),pI s,pI t],.box 35 [pI l,pB m,pI g,pS i,pV j,pT k],.box 25 [zq2,zq2],zq8,.box 25 [pT a,pV b],.box 33 [.p (.sl (Node.rows y)),.p (.sl (Edge.rows z)),pI s,pI t],.box 35 [pI l,pB m,pI g,pS i,pV j,pT k],.dead,.dead,.box 79 [.p (.sl (Node.rows B)),.p (.sl (Edge.rows C)),pI D,pI E,.tsl 11 (qi o),.tsl 12 (Val.rows q),pI l,pB m,pI g,pS i,pV j,pT k],.tail 9 1 (qi o).length,.tail 35 6 (Val.rows q).length],rfl,rfl,?_⟩;conv=>whnf
 apply ifc h<;>intro _ h
 ·obtain rfl:=sj h
  conv=>whnf
  try exact oX
 obtain rfl:=sj h;conv=>whnf
 try exact oX
abbrev ES (r:Int):PV:=PV.int .u64 r
def Vt (n:Nat) (a:Int):Option (Int):=
 bif(decide (a<0))then(
 some (kwr .u64 (0 - (kwr .u64 a))))
 else(
 some (kwr .u64 a))
theorem Df (n:Nat):∀ (a r:Int),Vt n a=some r->qc TP 98 [PV.int .i64 a] (ES r):=by
 intro a r h;unfold Vt at h;refine zN Tryz.call98 Tryz.func98 [1000000] ?_;conv=>whnf
 apply ifc h<;>intro _ h
 ·obtain rfl:=sj h
  conv=>whnf
  try exact oX
 obtain rfl:=sj h;conv=>whnf
 try exact oX
end W
end
section
set_option maxRecDepth 100000
set_option maxHeartbeats 20000000
open Go Go.Proofs Ax
namespace W
abbrev ER (r:SS):PV:=PV.str r
def mR (n:Nat):Int×SS->Option SS:=fun(c,b)=>
 bnd (rZ c) fun a=>
 chk (decide (a<20)) (
 chk (decide (a+(20 - a)<=b.length)) (
 some ((b.drop a).take (20 - a))))
def tn (n:Nat) (j:Int):(Int×Int×SS->Option SS)->Int×Int×SS->Option SS:=fun i (b,f,c)=>
 bnd (rZ (Int.tmod f (10:Int))) fun g=>
 chk (decide (g<10)) (
 bnd (([(48:UInt8),(49:UInt8),(50:UInt8),(51:UInt8),(52:UInt8),(53:UInt8),(54:UInt8),(55:UInt8),(56:UInt8),(57:UInt8)]:SS)[g]?) fun l=>
 bnd (rZ (kwr .i64 (b - 1))) fun a=>
 chk (decide (a<20)) (
 bnd (u8I ((l.toNat:Nat):Int)) fun d=>
 chk (decide (a<c.length)) (
 bif(decide (f<10))then(
 bif(decide (j<0))then(
 bnd (rZ (kwr .i64 ((kwr .i64 (b - 1)) - 1))) fun e=>
 chk (decide (e<20)) (
 bnd (u8I (45:Int)) fun k=>
 chk (decide (e<(c.set a d).length)) (
 mR n ((kwr .i64 ((kwr .i64 (b - 1)) - 1)),((c.set a d).set e k)))))
 else(
 mR n ((kwr .i64 (b - 1)),(c.set a d))))
 else(
 i ((kwr .i64 (b - 1)),(kwr .u64 (Int.tdiv f (10:Int))),(c.set a d))))))
def fK (n:Nat) (a:Int):Option SS:=
 bnd (Vt n a) fun b=>
 qC (tn n a) n ((20:Int),b,(List.replicate 20 0:SS))
theorem gi (n:Nat):∀ (d:Int) (r:SS),fK n d=some r->qc TP 50 [PV.int .i64 d] (ER r):=by
 intro d r h;unfold fK at h;refine zN Tryz.call50 Tryz.func50 [10000003,10000004,1000000] ?_;conv=>whnf
 refine⟨rfl,LG rfl,?_⟩;conv=>whnf
 refine⟨(List.replicate 10 0:SS),rfl,?_⟩;conv=>whnf
 refine⟨([(48:UInt8),(49:UInt8),(50:UInt8),(51:UInt8),(52:UInt8),(53:UInt8),(54:UInt8),(55:UInt8),(56:UInt8),(57:UInt8)]:SS),⟨rfl,rfl,rfl,rfl,rfl⟩,?_⟩;conv=>whnf
 refine⟨(List.replicate 20 0:SS),rfl,?_⟩;conv=>whnf
 refine bq h fun _ w h=>⟨_,(Df n _ _ w),?_⟩;conv=>whnf
 refine qP.fn [10000003,10000004,1000000] (S:=Int×Int×SS) (fun(a,f,b)=>[(0,pI d),(3,.eptr 0 1 0 0),(4,.eptr 1 1 0 0),(5,pI a),(6,.p (.int .u64 f))]) (fun(a,f,b)=>[.bv ([(48:UInt8),(49:UInt8),(50:UInt8),(51:UInt8),(52:UInt8),(53:UInt8),(54:UInt8),(55:UInt8),(56:UInt8),(57:UInt8)]:SS),.bv b]) (B:=tn n d) h (wk [0,1] []) ?_;intro _ st h;obtain⟨a,f,b⟩:=st;unfold tn at h;conv=>whnf
 refine⟨by unfold gI; decide,?_⟩;conv=>whnf
 refine bq h fun H v h=>?_;have c:=qM v;conv=>whnf
 obtain⟨u,h⟩:=qb h;refine⟨H,⟨rfl,c,kod u⟩,?_⟩;conv=>whnf
 refine bq h fun _ t h=>⟨_,⟨rfl,rfl,t⟩,?_⟩;conv=>whnf
 refine bq h fun g s h=>?_;have c:=qM s;conv=>whnf
 obtain⟨q,h⟩:=qb h;refine⟨g,⟨rfl,c,kod q⟩,?_⟩;conv=>whnf
 refine bq h fun j E h=>?_;have hb:=xN E;conv=>whnf
 obtain⟨D,h⟩:=qb h;refine⟨_,_,⟨rfl,rfl,kod D,hb,rfl⟩,?_⟩;conv=>whnf
 apply ifc h<;>intro F h
 ·conv=>whnf
  refine gW.cut (S:=Int×SS) (fun(i,e)=>[(4,.eptr 0 1 0 0),(5,pI i)]) (fun(i,e)=>[.bv e]) (mR n) (r:=r) ?_ ?_
  ·intro st h
   obtain⟨i,e⟩:=st;unfold mR at h;conv=>whnf
   refine bq h fun l x h=>⟨_,qM x,?_⟩;conv=>whnf
   obtain⟨k,h⟩:=qb h;refine⟨⟨rfl,Nat.le_of_lt (kod k),jw _,kod k⟩,?_⟩;conv=>whnf
   obtain⟨o,h⟩:=qb h;refine⟨(kod o:l+(20 - l)<=e.length),?_⟩;obtain rfl:=sj h;conv=>whnf
   try exact oX
  conv=>whnf
  apply ifc h<;>intro F h
  ·conv=>whnf
   refine bq h fun m C h=>?_;have c:=qM C;conv=>whnf
   obtain⟨A,h⟩:=qb h;refine⟨m,⟨rfl,c,kod A⟩,?_⟩;conv=>whnf
   refine bq h fun G z h=>?_;have hb:=xN z;conv=>whnf
   obtain⟨y,h⟩:=qb h;refine⟨_,_,⟨rfl,rfl,kod y,hb,rfl⟩,?_⟩;conv=>whnf
   exact⟨((kwr .i64 ((kwr .i64 (a - 1)) - 1)),((b.set g j).set m G)),h,wk [1] []⟩
  conv=>whnf
  exact⟨((kwr .i64 (a - 1)),(b.set g j)),h,wk [1] []⟩
 conv=>whnf
 refine⟨by unfold gI; decide,?_⟩;conv=>whnf
 exact⟨((kwr .i64 (a - 1)),(kwr .u64 (Int.tdiv f (10:Int))),(b.set g j)),h,wk [0,1] []⟩
abbrev DB (r:Bool):PV:=PV.bool r
def rK (n:Nat) (a:SS):LK (Nat) (Bool):=fun c b=>
 bif(decide (b<a.length))then(
 bif(bif(!(bif(bif(bif(decide (((qN a b:Nat):Int)≥97))then(decide (((qN a b:Nat):Int)<=122))else false)then true else(bif(decide (((qN a b:Nat):Int)≥65))then(decide (((qN a b:Nat):Int)<=90))else false))then true else(((qN a b:Nat):Int)==95)))then(bif(bif(((b:Nat):Int)==0)then true else(decide (((qN a b:Nat):Int)<48)))then true else(decide (((qN a b:Nat):Int)>57)))else false)then(
 some false)
 else(
 c (bif(decide (b<a.length))then xe a b else b)))
 else(
 some (bif(!(a==([]:SS)))then(decide (((a.length:Nat):Int)<=64))else false))
def ZW (n:Nat) (a:SS):Option (Bool):=
 qC (rK n a) n 0
theorem Cx (n:Nat):∀ (a:SS) (r:Bool),ZW n a=some r->qc TP 99 [PV.str a] (DB r):=by
 intro a r h;unfold ZW at h;refine zN Tryz.call99 Tryz.func99 [1000000] ?_;conv=>whnf
 refine qP.fn [1000000] (S:=Nat) (fun b=>[(0,pS a),(7,.ptr 0 0)]) (fun b=>[.sit a b]) (B:=rK n a) h (wk [0] []) ?_;intro _ b h;unfold rK at h;conv=>whnf
 refine⟨(decide (b<a.length)),(bif(decide (b<a.length))then xe a b else b),⟨rfl,rfl⟩,?_⟩;conv=>whnf
 apply ifc h<;>intro c h
 ·conv=>whnf
  refine⟨by assumption,?_⟩;conv=>whnf
  refine⟨by assumption,?_⟩;conv=>whnf
  iterate 20 refine⟨id,?_⟩
  conv=>whnf
  apply ifc h<;>intro c h
  ·obtain rfl:=sj h
   conv=>whnf
   try exact oX
  conv=>whnf
  exact⟨(bif(decide (b<a.length))then xe a b else b),h,wk [0] []⟩
 conv=>whnf
 refine⟨id,id,id,?_⟩;obtain rfl:=sj h;conv=>whnf
 try exact oX
abbrev cT (r:Bool):PV:=PV.bool r
def xX (n:Nat) (a b:SS):Option (Bool):=
 bnd (qE (decide (((a.length:Nat):Int)≥((b.length:Nat):Int))) (rZ ((b.length:Nat):Int))) fun c=>
 chk (bif(decide (((a.length:Nat):Int)≥((b.length:Nat):Int)))then decide (c<=a.length)else true) (
 some (bif(decide (((a.length:Nat):Int)≥((b.length:Nat):Int)))then((a.take c)==b)else false))
theorem cE (n:Nat):∀ (a c:SS) (r:Bool),xX n a c=some r->qc TP 174 [PV.str a,PV.str c] (cT r):=by
 intro a c r h;unfold xX at h;refine zN Tryz.call174 Tryz.func174 [1000000] ?_;conv=>whnf
 refine⟨id,id,id,?_⟩;conv=>whnf
 refine bq h fun d f h=>⟨_,fun b=>qM (qa f b),?_⟩;conv=>whnf
 obtain⟨e,h⟩:=qb h;refine⟨fun b=>⟨Nat.zero_le _,(kod (gd e b):(d<=a.length))⟩,?_⟩;rw[show List.drop 0 (List.take d a)=(a.take d)from rfl];conv=>whnf
 refine⟨id,id,id,?_⟩;obtain rfl:=sj h;conv=>whnf
 try exact oX
abbrev QL (r:Bool):PV:=PV.bool r
def cF (n:Nat) (a b:SS):Option (Bool):=
 bnd (xX n a b) fun c=>
 some c
theorem tY (n:Nat):∀ (a b:SS) (r:Bool),cF n a b=some r->qc TP 143 [PV.str a,PV.str b] (QL r):=by
 intro a b r h;unfold cF at h;refine zN Tryz.call143 Tryz.func143 [1000000] ?_;conv=>whnf
 refine bq h fun _ c h=>⟨_,(cE n _ _ _ c),?_⟩;obtain rfl:=sj h;conv=>whnf
 try exact oX
end W
end
