/- A part of the proof: contracts, printed by program. -/
import Derived.Test.YtglihheagfnakaaGreatB
import Derived.Test.YtglihheagfnakaaGreatC
import Derived.Test.YtglihheagfnakaaGreatD
import Derived.Test.YtglihheagfnakaaGreatF
import Derived.Test.YtglihheagfnakaaGreatG
import Derived.Test.YtglihheagfnakaaGreatH
import Derived.Test.YtglihheagfnakaaGreatI
import Derived.Test.YtglihheagfnakaaGreatK
import Derived.Test.YtglihheagfnakaaGreatM
set_option linter.unusedVariables false
set_option linter.unusedSimpArgs false
set_option linter.unnecessarySimpa false
set_option linter.deprecated false
set_option linter.unusedSectionVars false
set_option linter.constructorNameAsVariable false
open Go.IntKind renaming wrap->kwr,bits->kbt
section
set_option maxRecDepth 100000
set_option maxHeartbeats 20000000
open Go Go.Proofs Ax
attribute [local irreducible] zh rI uh
namespace W
abbrev Vo (_:List Node) (_:List Edge) (_ _:Int) (_:List SS) (_:List Val) (_:Int) (_:Bool) (_:Int) (_:SS) (_:List Val) (_:List SS) (r:(List SS)×(List Val)):FV:=.p (.tup [])
abbrev Vm (j:List Node) (k:List Edge) (a b:Int) (_:List SS) (_:List Val) (c:Int) (d:Bool) (e:Int) (f:SS) (g:List Val) (i:List SS) (r:(List SS)×(List Val)):List AObj:=[.box 79 [.p (.sl (Node.rows j)),.p (.sl (Edge.rows k)),pI a,pI b,.tsl 1 (qv r.1),.tsl 2 (Val.rows r.2),pI c,pB d,pI e,pS f,pV g,pT i],.tail 9 1 (qv r.1).length,.tail 35 6 (Val.rows r.2).length]
def uU (n:Nat) (a:SS) (k:Val) (w:List Node) (x:List Edge) (l m:Int) (b:List SS) (c:List Val) (o:Int) (p:Bool) (q:Int) (s:SS) (t:List Val) (u:List SS):Option ((List SS)×(List Val)):= match k with | ⟨d,e,f,g,i,j⟩=>bnd (vt n a w x l m b c o p q s t u) fun⟨⟨_,_,_,_,_,_⟩,v⟩=>bif bif !v then !(a==([]:SS)) else false then chk ((qv (b++[a])).length * 16<=140737488355328) (chk ((Val.rows (c++[Val.mk d e f g i j])).length * 88<=140737488355328) (some (b++[a],c++[Val.mk d e f g i j]))) else some (b,c)
instance (n q o l m c d a b e f g i j k):CO TP (uU n q o l m c d a b e f g i j k) 112 [.ptr 0 0,.p (PV.str q),.p (PV.agg (zx.cells o))] [.box 79 [.p (.sl (Node.rows l)),.p (.sl (Edge.rows m)),pI c,pI d,.tsl 1 (qv a),.tsl 2 (Val.rows b),pI e,pB f,pI g,pS i,pV j,pT k],.tail 9 1 (qv a).length,.tail 35 6 (Val.rows b).length] 1 (Vo l m c d a b e f g i j k) (Vm l m c d a b e f g i j k):=⟨fun r h=>by
 obtain⟨_,_,_,_,_,_⟩:=o;unfold uU at h;exact zO Tryz.call112 Tryz.func112 [25,40000003,1000000] au⟩
abbrev ta (_:List Node) (_:List Edge) (_ _:Int) (_:List SS) (_:List Val) (_:Int) (_:Bool) (_:Int) (_:SS) (_:List Val) (_:List SS) (r:Int×Int×(List Node)×(List Edge)×Int×(List SS)×(List Val)):FV:=.p (.tup [.int .i64 r.1,.int .i64 r.2.1])
abbrev sY (_:List Node) (_:List Edge) (_ a:Int) (_:List SS) (_:List Val) (b:Int) (c:Bool) (d:Int) (e:SS) (f:List Val) (g:List SS) (r:Int×Int×(List Node)×(List Edge)×Int×(List SS)×(List Val)):List AObj:=[.box 79 [.p (.sl (Node.rows r.2.2.1)),.p (.sl (Edge.rows r.2.2.2.1)),.p (.int .i64 r.2.2.2.2.1),pI a,.tsl 1 (qv r.2.2.2.2.2.1),.tsl 2 (Val.rows r.2.2.2.2.2.2),pI b,pB c,pI d,pS e,pV f,pT g],.tail 9 1 (qv r.2.2.2.2.2.1).length,.tail 35 6 (Val.rows r.2.2.2.2.2.2).length]
def uV (n:Nat) (v:ql) (w:Made) (b:List Node) (c:List Edge) (a i:Int) (d:List SS) (e:List Val) (j:Int) (k:Bool) (l:Int) (m:SS) (o:List Val) (p:List SS):Option (Int×Int×(List Node)×(List Edge)×Int×(List SS)×(List Val)):= match v,w with | ⟨g,f,_,_⟩,⟨D,E⟩=>bnd (vt n g b c a i d e j k l m o p) fun⟨⟨x,_,q,_,_,_⟩,y⟩=>bif y then bnd (vg n (Graph.mk b c) q) fun⟨⟨_,_,_,_⟩,z⟩=>bif bif x != 6 then true else !z then some (0,23,b,c,a,d,e) else some (q,0,b,c,a,d,e) else bif a≥4611686018427387904 then some (0,8,b,c,a,d,e) else chk ((qv f).length * 16<=140737488355328) (bnd (FW n f) fun _=>bnd (BO n f) fun A=>bnd (nw n (Graph.mk b c) (Node.mk a A D E)) fun⟨⟨s,t⟩,u⟩=>bif u != 0 then some (0,u,b,c,a,d,e) else bnd (uU n g (Val.mk 6 false a ([]:SS) ([]:List Val) ([]:List SS)) s t (kwr .i64 (a+1)) i d e j k l m o p) fun⟨B,C⟩=>some (a,0,s,t,kwr .i64 (a+1),B,C))
theorem XK (n:Nat):∀(t:ql) (u:Made) (q:List Node) (s:List Edge) (m c:Int) (a:List SS) (b:List Val) (d:Int) (e:Bool) (f:Int) (g:SS) (i:List Val) (j:List SS) (r:Int×Int×(List Node)×(List Edge)×Int×(List SS)×(List Val)),uV n t u q s m c a b d e f g i j=some r->zw TP 64 [.ptr 0 0,.p (PV.agg (bA.cells t)),.p (PV.agg (pX.cells u))] [.box 79 [.p (.sl (Node.rows q)),.p (.sl (Edge.rows s)),pI m,pI c,.tsl 1 (qv a),.tsl 2 (Val.rows b),pI d,pB e,pI f,pS g,pV i,pT j],.tail 9 1 (qv a).length,.tail 35 6 (Val.rows b).length] 1 (fun v lo=>v=ta q s m c a b d e f g i j r/\lo=sY q s m c a b d e f g i j r):=by
 intro t u q s m c a b d e f g i j r h;obtain⟨x,o,E,F⟩:=t;obtain⟨G,H⟩:=u;unfold uV at h;refine zO Tryz.call64 Tryz.func64 [109,111,86000111,87000111,88000014,25,56,112,40000003,40000012,1000000] ?_;conv=>whnf
 refine bq h fun⟨⟨y,z,A,B,C,D⟩,T⟩ M h=>?_;refine tB (CO.ok _ M) [0,1,2] [] ?_;rintro _ _ ⟨rfl,rfl⟩;refine⟨.p (.tup [.agg [.int .i64 y,.bool z,.int .i64 A,.str B,.sl (Val.rows C),.sl (qv D)],.bool T]),[.box 79 [.p (.sl (Node.rows q)),.p (.sl (Edge.rows s)),pI m,pI c,.tsl 5 (qv a),.tsl 6 (Val.rows b),pI d,pB e,pI f,pS g,pV i,pT j],.dead,.dead,.box 102 [pS x,pT o,pT E,pE F],.box 146 [pT G,pV H],.tail 9 1 (qv a).length,.tail 35 6 (Val.rows b).length],rfl,rfl,?_⟩;conv=>whnf
 apply ifc h<;>intro w h
 ·conv=>whnf
  refine bq h fun⟨⟨_,_,_,_⟩,_⟩ N h=>⟨_,(ZT n _ _ _ N),?_⟩;conv=>whnf
  refine⟨id,id,?_⟩;conv=>whnf
  apply ifc h<;>intro w h
  ·obtain rfl:=sj h
   conv=>whnf
   refine⟨_,_,⟨rfl,rfl⟩,wk [0,5,6] []⟩
  obtain rfl:=sj h;conv=>whnf
  refine⟨_,_,⟨rfl,rfl⟩,wk [0,5,6] []⟩
 conv=>whnf
 apply ifc h<;>intro w h
 ·obtain rfl:=sj h
  conv=>whnf
  refine⟨_,_,⟨rfl,rfl⟩,wk [0,5,6] []⟩
 conv=>whnf
 obtain⟨S,h⟩:=qu h;refine tB (RS o (kod S)) [] [] ?_;rintro _ _ ⟨rfl,rfl⟩;refine⟨.vsl 8 o.length,[.box 79 [.p (.sl (Node.rows q)),.p (.sl (Edge.rows s)),pI m,pI c,.tsl 5 (qv a),.tsl 6 (Val.rows b),pI d,pB e,pI f,pS g,pV i,pT j],.dead,.dead,.box 102 [pS x,pT o,pT E,pE F],.box 146 [pT G,pV H],.tail 9 1 (qv a).length,.tail 35 6 (Val.rows b).length,.box 35 [pI y,pB z,pI A,pS B,pV C,pT D],.vec 9 1 (qv o)],rfl,rfl,?_⟩;conv=>whnf
 refine bq h fun _ R h=>?_;refine qb1 (k:=8) rfl (iV R) rfl ?_;conv=>whnf
 refine bq h fun _ Q h=>?_;obtain rfl:=oF Q;refine⟨_,8,_,_,_,_,rfl,rfl,fun l=>qdd (k:=8) rfl (cX o).symm rfl ⟨rfl,rfl⟩,?_⟩;conv=>whnf
 refine bq h fun⟨⟨I,J⟩,_⟩ P h=>⟨_,(Va n _ _ _ P),?_⟩;conv=>whnf
 apply ifc h<;>intro w h
 ·obtain rfl:=sj h
  conv=>whnf
  refine⟨_,_,⟨rfl,rfl⟩,wk [0,5,6] []⟩
 conv=>whnf
 refine bq h fun⟨K,L⟩ O h=>?_;refine tB (CO.ok _ O) [0,5,6] [] ?_;rintro _ _ ⟨rfl,rfl⟩;refine⟨.p (.tup []),[.box 79 [.p (.sl (Node.rows I)),.p (.sl (Edge.rows J)),.p (.int .i64 (kwr .i64 (m+1))),pI c,.tsl 10 (qv K),.tsl 11 (Val.rows L),pI d,pB e,pI f,pS g,pV i,pT j],.dead,.dead,.box 102 [pS x,pT o,pT E,pE F],.box 146 [pT G,pV H],.dead,.dead,.box 35 [pI y,pB z,pI A,pS B,pV C,pT D],.dead,.box 29 [.p (.sl (Node.rows I)),.p (.sl (Edge.rows J))],.tail 9 1 (qv K).length,.tail 35 6 (Val.rows L).length],rfl,rfl,?_⟩;obtain rfl:=sj h;conv=>whnf
 refine⟨_,_,⟨rfl,rfl⟩,wk [0,10,11] []⟩
instance (n:Nat) (o:ql) (q:Made) (k:List Node) (l:List Edge) (m:Int) (c:Int) (a:List SS) (b:List Val) (d:Int) (e:Bool) (f:Int) (g:SS) (i:List Val) (j:List SS):CO TP (uV n o q k l m c a b d e f g i j) 64 [.ptr 0 0,.p (PV.agg (bA.cells o)),.p (PV.agg (pX.cells q))] [.box 79 [.p (.sl (Node.rows k)),.p (.sl (Edge.rows l)),pI m,pI c,.tsl 1 (qv a),.tsl 2 (Val.rows b),pI d,pB e,pI f,pS g,pV i,pT j],.tail 9 1 (qv a).length,.tail 35 6 (Val.rows b).length] 1 (ta k l m c a b d e f g i j) (sY k l m c a b d e f g i j):=⟨XK n o q k l m c a b d e f g i j⟩
def fq (n:Nat) (c:Edge):Option (Bool):= match c with | ⟨a,_,_,d,e,f⟩=>bnd (qz (a≥1) (cL n d)) fun b=>bnd (qz (bif a≥1 then b else false) (dh n e f)) fun g=>some (bif bif a≥1 then b else false then g else false)
instance (n a):CC TP (fq n a) 67 [PV.agg (mc.cells a)] RA0:=⟨fun r h=>by
 cases a;unfold fq at h;exact zN Tryz.call67 Tryz.func67 [1000000] au⟩
def fM (n:Nat) (a:Graph) (c:Int):Option (Bool):= match a with | ⟨b,_⟩=>bnd (qx n b c) fun⟨_,d⟩=>some d
instance (n a b):CC TP (fM n a b) 68 [PV.agg (uI.cells a),PV.int .i64 b] RA0:=⟨fun r h=>by
 cases a;unfold fM at h;exact zN Tryz.call68 Tryz.func68 [1000000] au⟩
def uL (n:Nat) (a:List Edge) (c:Nat) (d e f:Int) (g:SS) (i:List SS) (j:List Val):Int->Option (List Edge):=fun k=>bnd (pY k) fun b=>chk (b<=(Edge.rows a).length) (chk ((Edge.rows ((a.take c++[Edge.mk d e f g i j])++a.drop b)).length * 88<=140737488355328) (some ((a.take c++[Edge.mk d e f g i j])++a.drop b)))
def uG (n:Nat) (b:List Edge) (c:Int) (m:Bool) (k:Edge):Option (List Edge):= match k with | ⟨d,e,f,g,i,j⟩=>bnd (pY c) fun a=>bnd (pY c) fun l=>chk (a=l/\a<=(Edge.rows b).length) (chk ((Edge.rows (b.take a++[Edge.mk d e f g i j])).length * 88<=140737488355328) (bif m then uL n b a d e f g i j (kwr .i64 (c+1)) else uL n b a d e f g i j c))
instance (n a b c d e f g i):LJ (uL n a b c d e f g i) [0] (fun j=>[(1,pI j),(9,.tsl 0 (Edge.rows ((a.take b)++[Edge.mk c d e f g i])))]) [1]:=⟨⟩
instance (n b c d a):CC TP (uG n b c d a) 159 [PV.sl (Edge.rows b),PV.int .i64 c,PV.bool d,PV.agg (mc.cells a)] qe8:=⟨fun r h=>by
 cases a;unfold uG at h;exact zN Tryz.call159 Tryz.func159 [1000000] au⟩
def mD (n:Nat) (a:Bool) (b:List Edge) (d i:Int) (j k:Int) (l:SS) (m:List SS) (o:List Val) (c:List Node):Unit->Option (Graph×Int):=fun _=>bif bif !a then ((Edge.rows b).length:Int)≥4096 else false then some (Graph.mk ([]:List Node) ([]:List Edge),8) else bnd (uG n b d a (Edge.mk i j k l m o)) fun e=>bnd (uc n (Graph.mk c e)) fun⟨f,g⟩=>some (Graph.mk f g,0)
def nZ (n:Nat) (m:Graph) (o:Edge):Option (Graph×Int):= match m,o with | ⟨d,a⟩,⟨e,b,c,f,j,k⟩=>bnd (fq n (Edge.mk e b c f j k)) fun u=>bif !u then some (Graph.mk ([]:List Node) ([]:List Edge),20) else bnd (fM n (Graph.mk d a) b) fun l=>bnd (qz (!(!l)) (fM n (Graph.mk d a) c)) fun p=>bif bif !l then true else !p then some (Graph.mk ([]:List Node) ([]:List Edge),23) else bnd (qA n a e) fun⟨g,i⟩=>bif i then bnd (idx a g) fun⟨_,q,s,t,_,_⟩=>bif bif bif q != b then true else s != c then true else !(t==f) then some (Graph.mk ([]:List Node) ([]:List Edge),20) else mD n i a g e b c f j k d () else mD n i a g e b c f j k d ()
instance (n c d b e f g i j k a):LJ (mD n c d b e f g i j k a) [2,3,4,6,7] (fun _=>[]) [0,1,2]:=⟨⟩
instance (n a b):CC TP (nZ n a b) 113 [PV.agg (uI.cells a),PV.agg (mc.cells b)] qag:=⟨fun r h=>by
 cases a;cases b;unfold nZ at h;exact zN Tryz.call113 Tryz.func113 [1000000] au⟩
abbrev Vp (_:List Node) (_:List Edge) (_ _:Int) (_:List SS) (_:List Val) (_:Int) (_:Bool) (_:Int) (_:SS) (_:List Val) (_:List SS) (r:Int×(List Node)×(List Edge)×Int×(List SS)×(List Val)):FV:=.p (.int .i64 r.1)
abbrev Vn (_:List Node) (_:List Edge) (a _:Int) (_:List SS) (_:List Val) (b:Int) (c:Bool) (d:Int) (e:SS) (f:List Val) (g:List SS) (r:Int×(List Node)×(List Edge)×Int×(List SS)×(List Val)):List AObj:=[.box 79 [.p (.sl (Node.rows r.2.1)),.p (.sl (Edge.rows r.2.2.1)),pI a,.p (.int .i64 r.2.2.2.1),.tsl 1 (qv r.2.2.2.2.1),.tsl 2 (Val.rows r.2.2.2.2.2),pI b,pB c,pI d,pS e,pV f,pT g],.tail 9 1 (qv r.2.2.2.2.1).length,.tail 35 6 (Val.rows r.2.2.2.2.2).length]
def uy (n:Nat) (a:Int) (b:List Node) (c:List Edge) (d:List SS) (e:List Val) (q:SS) (y:List SS) (z:List Val) (j:SS) (k l:Int) (m:Bool) (o:Int) (p:SS) (s:List Val) (t:List SS):Int×Int->Option (Int×(List Node)×(List Edge)×Int×(List SS)×(List Val)):=fun(u,v)=>bif a≥4611686018427387904 then some (8,b,c,a,d,e) else bnd (nZ n (Graph.mk b c) (Edge.mk a u v q y z)) fun⟨⟨f,g⟩,i⟩=>bif i != 0 then some (i,b,c,a,d,e) else bnd (uU n j (Val.mk 7 false a ([]:SS) ([]:List Val) ([]:List SS)) f g k (kwr .i64 (a+1)) d e l m o p s t) fun⟨w,x⟩=>some (0,f,g,kwr .i64 (a+1),w,x)
def fm (n:Nat) (v:qp) (q s:Int) (w:Made) (b:List Node) (c:List Edge) (d e:Int) (f:List SS) (g:List Val) (i:Int) (j:Bool) (k:Int) (l:SS) (o:List Val) (p:List SS):Option (Int×(List Node)×(List Edge)×Int×(List SS)×(List Val)):= match v,w with | ⟨a,m,x,_,_⟩,⟨t,u⟩=>bif x==1 then uy n e b c f g m t u a d i j k l o p (s,q) else uy n e b c f g m t u a d i j k l o p (q,s)
instance (n d a b e f t u v s c g i j k l m):LJ (uy n d a b e f t u v s c g i j k l m) [0] (fun(o,q)=>[(2,pI o),(3,pI q),(6,.ptr 1 0),(9,.ptr 2 0)]) [0,3,4,1,2] (fun(o,q)=>[(0,.box 79 [.p (.sl (Node.rows a)),.p (.sl (Edge.rows b)),pI c,pI d,.tsl 3 (qv e),.tsl 4 (Val.rows f),pI g,pB i,pI j,pS k,pV l,pT m])]):=⟨⟩
instance (n o s t q c d e f a b g i j k l m):CO TP (fm n o s t q c d e f a b g i j k l m) 65 [.ptr 0 0,.p (PV.agg (nN.cells o)),.p (PV.int .i64 s),.p (PV.int .i64 t),.p (PV.agg (pX.cells q))] [.box 79 [.p (.sl (Node.rows c)),.p (.sl (Edge.rows d)),pI e,pI f,.tsl 1 (qv a),.tsl 2 (Val.rows b),pI g,pB i,pI j,pS k,pV l,pT m],.tail 9 1 (qv a).length,.tail 35 6 (Val.rows b).length] 1 (Vp c d e f a b g i j k l m) (Vn c d e f a b g i j k l m):=⟨fun r h=>by
 cases o;cases q;unfold fm at h;exact zO Tryz.call65 Tryz.func65 [112,40000006,1000000] au⟩
end W
end
section
set_option maxRecDepth 100000
set_option maxHeartbeats 20000000
open Go Go.Proofs Ax
attribute [local irreducible] zh rI uh
namespace W
abbrev pb (_:List Node) (_:List Edge) (_ _:Int) (_:List SS) (_:List Val) (_:Int) (_:Bool) (_:Int) (_:SS) (_:List Val) (_:List SS) (r:Int×(List Node)×(List Edge)×Int×Int×(List SS)×(List Val)):FV:=.p (.int .i64 r.1)
abbrev pa (_:List Node) (_:List Edge) (_ _:Int) (_:List SS) (_:List Val) (e:Int) (f:Bool) (a:Int) (b:SS) (c:List Val) (d:List SS) (r:Int×(List Node)×(List Edge)×Int×Int×(List SS)×(List Val)):List AObj:=[.box 79 [.p (.sl (Node.rows r.2.1)),.p (.sl (Edge.rows r.2.2.1)),.p (.int .i64 r.2.2.2.1),.p (.int .i64 r.2.2.2.2.1),.tsl 1 (qv r.2.2.2.2.2.1),.tsl 2 (Val.rows r.2.2.2.2.2.2),pI e,pB f,pI a,pS b,pV c,pT d],.tail 9 1 (qv r.2.2.2.2.2.1).length,.tail 35 6 (Val.rows r.2.2.2.2.2.2).length]
def xR (n:Nat) (a:Int) (i:Int×Int×List Node×List Edge×Int×Int×List SS×List Val->Option (Int×(List Node)×(List Edge)×Int×Int×(List SS)×(List Val))) (k j:Int):Int×List Node×List Edge×Int×List SS×List Val->Option (Int×(List Node)×(List Edge)×Int×Int×(List SS)×(List Val)):=fun(b,c,d,e,f,g)=>bif b != 0 then some (b,c,d,a,e,f,g) else i (k,kwr .i64 (j+1),c,d,a,e,f,g)
def gy (n:Nat) (m:List ql) (l:List (List Made)) (c z:Int) (A:Bool) (g:Int) (i:SS) (j:List Val) (k:List SS) (C:List qp) (B:Int×List Node×List Edge×Int×Int×List SS×List Val->Option (Int×(List Node)×(List Edge)×Int×Int×(List SS)×(List Val))):LK (Int×Int×List Node×List Edge×Int×Int×List SS×List Val) (Int×(List Node)×(List Edge)×Int×Int×(List SS)×(List Val)):=fun f (D,a,o,p,q,b,s,t)=>bif a<((ql.rows m).length:Int) then bnd (idx m a) fun⟨E,F,G,H⟩=>bnd (idx l c) fun I=>bnd (idx I (kwr .i64 (2 * a))) fun⟨J,K⟩=>bnd (uV n (ql.mk E F G H) (Made.mk J K) o p q b s t z A g i j k) fun⟨d,u,v,w,e,x,y⟩=>bif bif u==0 then a>0 else false then bnd (idx C (kwr .i64 (a - 1))) fun⟨L,M,N,O,P⟩=>bnd (idx l c) fun Q=>bnd (idx Q (kwr .i64 (kwr .i64 (2 * a) - 1))) fun⟨R,S⟩=>bnd (fm n (qp.mk L M N O P) D d (Made.mk R S) v w e b x y z A g i j k) fun⟨T,U,V,W,X,Y⟩=>xR n e f d a (T,U,V,W,X,Y) else xR n e f d a (u,v,w,b,x,y) else B (kwr .i64 (c+1),o,p,q,b,s,t)
def gx (n:Nat) (b:List zL) (p:List (List Made)) (t:Int) (u:Bool) (k:Int) (l:SS) (m:List Val) (o:List SS):LK (Int×List Node×List Edge×Int×Int×List SS×List Val) (Int×(List Node)×(List Edge)×Int×Int×(List SS)×(List Val)):=fun j (a,c,d,e,f,g,i)=>bif a<((zL.rows b).length:Int) then bnd (idx b a) fun⟨q,s⟩=>qy (gy n q p a t u k l m o s j) n (0,0,c,d,e,f,g,i) else some (0,c,d,e,f,g,i)
def vO (n:Nat) (g:List zL) (a:List Node) (b:List Edge) (c d:Int) (e:List SS) (f:List Val) (o:Int) (p:Bool) (i:Int) (j:SS) (k:List Val) (l:List SS):Option (Int×(List Node)×(List Edge)×Int×Int×(List SS)×(List Val)):= bnd (fV n g a b c d e f o p i j k l) fun⟨q,m⟩=>bif m != 0 then some (m,a,b,c,d,e,f) else qy (gx n g q o p i j k l) n (0,a,b,c,d,e,f)
theorem Zo (n:Nat):∀(g:List zL) (o:List Node) (s:List Edge) (u w:Int) (k:List SS) (l:List Val) (e:Int) (f:Bool) (a:Int) (b:SS) (c:List Val) (d:List SS) (r:Int×(List Node)×(List Edge)×Int×Int×(List SS)×(List Val)),vO n g o s u w k l e f a b c d=some r->zw TP 33 [.ptr 0 0,.p (PV.sl (zL.rows g))] [.box 79 [.p (.sl (Node.rows o)),.p (.sl (Edge.rows s)),pI u,pI w,.tsl 1 (qv k),.tsl 2 (Val.rows l),pI e,pB f,pI a,pS b,pV c,pT d],.tail 9 1 (qv k).length,.tail 35 6 (Val.rows l).length] 1 (fun v lo=>v=pb o s u w k l e f a b c d r/\lo=pa o s u w k l e f a b c d r):=by
 intro g o s u w k l e f a b c d r h;unfold vO at h;refine zO Tryz.call33 Tryz.func33 [63,64,65,1000000] ?_;conv=>whnf
 refine bq h fun⟨m,c2⟩ b0 h=>?_;refine tB (CO.ok _ b0) [0,1,2] [] ?_;rintro _ _ ⟨rfl,rfl⟩;refine⟨.p (.tup [.sl (pj pX m),.int .i64 c2]),[.box 79 [.p (.sl (Node.rows o)),.p (.sl (Edge.rows s)),pI u,pI w,.tsl 3 (qv k),.tsl 4 (Val.rows l),pI e,pB f,pI a,pS b,pV c,pT d],.dead,.dead,.tail 9 1 (qv k).length,.tail 35 6 (Val.rows l).length],rfl,rfl,?_⟩;conv=>whnf
 apply ifc h<;>intro E h
 ·obtain rfl:=sj h
  conv=>whnf
  refine⟨_,_,⟨rfl,rfl⟩,wk [0,3,4] []⟩
 conv=>whnf
 refine uh.fn [63,64,65,1000000] (S:=Int×List Node×List Edge×Int×Int×List SS×List Val) (fun(i,O,P,Q,R,F,G)=>[(0,.ptr 0 0),(5,.p (.sl (pj pX m))),(23,pP g),(24,.p (.int .i64 ((zL.rows g).length:Int))),(25,pI i)]) (fun(i,O,P,Q,R,F,G)=>[.box 79 [.p (.sl (Node.rows O)),.p (.sl (Edge.rows P)),pI Q,pI R,.tsl 1 (qv F),.tsl 2 (Val.rows G),pI e,pB f,pI a,pS b,pV c,pT d],.tail 9 1 (qv F).length,.tail 35 6 (Val.rows G).length]) (B:=gx n g m e f a b c d) h (wk [0,3,4] []) ?_;intro c0 st h;obtain⟨i,O,P,Q,R,F,G⟩:=st;unfold gx at h;conv=>whnf
 apply ifc h<;>intro E h
 ·conv=>whnf
  refine bq h fun⟨j,x⟩ b1 h=>⟨_,Codec.at_ Gf b1,?_⟩;conv=>whnf
  refine uh.fn [63,64,65,1000000] (S:=Int×Int×List Node×List Edge×Int×Int×List SS×List Val) (fun(T,q,H,I,J,t,y,z)=>[(0,.ptr 0 0),(5,.p (.sl (pj pX m))),(7,pI i),(8,.ptr 1 0),(9,pI T),(23,pP g),(24,.p (.int .i64 ((zL.rows g).length:Int))),(25,pI i),(31,pN j),(32,.p (.int .i64 ((ql.rows j).length:Int))),(33,pI q)]) (fun(T,q,H,I,J,t,y,z)=>[.box 79 [.p (.sl (Node.rows H)),.p (.sl (Edge.rows I)),pI J,pI t,.tsl 2 (qv y),.tsl 3 (Val.rows z),pI e,pB f,pI a,pS b,pV c,pT d],.box 100 [pN j,pG x],.tail 9 1 (qv y).length,.tail 35 6 (Val.rows z).length]) (B:=gy n j m i e f a b c d x c0) h (wk [0,3,1,2] []) ?_;intro c1 st h;obtain⟨T,q,H,I,J,t,y,z⟩:=st;unfold gy at h;conv=>whnf
  apply ifc h<;>intro E h
  ·conv=>whnf
   refine bq h fun⟨Z,a0,a1,a2⟩ b9 h=>⟨_,Codec.at_ bA b9,?_⟩;conv=>whnf
   refine bq h fun _ b8 h=>⟨_,Codec.at_ (slC pX) b8,?_⟩;conv=>whnf
   refine bq h fun⟨_,_⟩ b7 h=>⟨_,Codec.at_ pX b7,?_⟩;conv=>whnf
   refine bq h fun⟨K,a3,a4,a5,A,U,V⟩ b2 h=>⟨.p (.tup [.int .i64 K,.int .i64 a3]),[.box 79 [.p (.sl (Node.rows a4)),.p (.sl (Edge.rows a5)),pI A,pI t,.tsl 5 (qv U),.tsl 6 (Val.rows V),pI e,pB f,pI a,pS b,pV c,pT d],.box 100 [pN j,pG x],.dead,.dead,.box 102 [pS Z,pT a0,pT a1,pE a2],.tail 9 1 (qv U).length,.tail 35 6 (Val.rows V).length],tB (CO.ok _ b2) [0,2,3] [] (by rintro _ _ ⟨rfl,rfl⟩; exact⟨_,_,rfl,rfl,rfl,rfl⟩),?_⟩;conv=>whnf
   refine rI.cut (S:=Int×List Node×List Edge×Int×List SS×List Val) (fun(W,L,M,N,C,D)=>[(0,.ptr 0 0),(5,.p (.sl (pj pX m))),(7,pI i),(8,.ptr 1 0),(12,pI K),(13,pI W),(23,pP g),(24,.p (.int .i64 ((zL.rows g).length:Int))),(25,pI i),(31,pN j),(32,.p (.int .i64 ((ql.rows j).length:Int))),(33,pI q)]) (fun(W,L,M,N,C,D)=>[.box 79 [.p (.sl (Node.rows L)),.p (.sl (Edge.rows M)),pI A,pI N,.tsl 2 (qv C),.tsl 3 (Val.rows D),pI e,pB f,pI a,pS b,pV c,pT d],.box 100 [pN j,pG x],.tail 9 1 (qv C).length,.tail 35 6 (Val.rows D).length]) (xR n A c1 K q) (r:=r) ?_ ?_
   ·intro st h
    obtain⟨W,L,M,N,C,D⟩:=st;unfold xR at h;(conv=>whnf);apply ifc h<;>intro E h
    ·obtain rfl:=sj h
     (conv=>whnf);refine⟨_,_,⟨rfl,rfl⟩,wk [0,2,3] []⟩
    (conv=>whnf);exact⟨(K,(kwr .i64 (q+1)),L,M,A,N,C,D),h,wk [0,1,2,3] []⟩
   conv=>whnf
   refine⟨id,?_⟩;conv=>whnf
   refine⟨id,?_⟩;conv=>whnf
   apply ifc h<;>intro E h
   ·conv=>whnf
    refine bq h fun⟨_,_,_,_,_⟩ b6 h=>⟨_,Codec.at_ nN b6,?_⟩;(conv=>whnf);refine bq h fun _ b5 h=>⟨_,Codec.at_ (slC pX) b5,?_⟩;(conv=>whnf);refine bq h fun⟨_,_⟩ b4 h=>⟨_,Codec.at_ pX b4,?_⟩;(conv=>whnf);refine bq h fun⟨a6,a7,a8,a9,X,Y⟩ b3 h=>⟨pI a6,[.box 79 [.p (.sl (Node.rows a7)),.p (.sl (Edge.rows a8)),pI A,pI a9,.tsl 7 (qv X),.tsl 8 (Val.rows Y),pI e,pB f,pI a,pS b,pV c,pT d],.box 100 [pN j,pG x],.dead,.dead,.box 102 [pS Z,pT a0,pT a1,pE a2],.dead,.dead,.tail 9 1 (qv X).length,.tail 35 6 (Val.rows Y).length],tB (CO.ok _ b3) [0,5,6] [] (by rintro _ _ ⟨rfl,rfl⟩; exact⟨_,_,rfl,rfl,rfl,rfl⟩),?_⟩;(conv=>whnf);exact⟨(a6,a7,a8,a9,X,Y),h,wk [0,1,7,8] []⟩
   conv=>whnf
   exact⟨(a3,a4,a5,t,U,V),h,wk [0,1,5,6] []⟩
  conv=>whnf
  exact⟨((kwr .i64 (i+1)),H,I,J,t,y,z),h,wk [0,2,3] []⟩
 obtain rfl:=sj h;conv=>whnf
 refine⟨_,_,⟨rfl,rfl⟩,wk [0,1,2] []⟩
instance (n:Nat) (o:List zL) (g:List Node) (i:List Edge) (j:Int) (k:Int) (a:List SS) (b:List Val) (l:Int) (m:Bool) (c:Int) (d:SS) (e:List Val) (f:List SS):CO TP (vO n o g i j k a b l m c d e f) 33 [.ptr 0 0,.p (PV.sl (zL.rows o))] [.box 79 [.p (.sl (Node.rows g)),.p (.sl (Edge.rows i)),pI j,pI k,.tsl 1 (qv a),.tsl 2 (Val.rows b),pI l,pB m,pI c,pS d,pV e,pT f],.tail 9 1 (qv a).length,.tail 35 6 (Val.rows b).length] 1 (pb g i j k a b l m c d e f) (pa g i j k a b l m c d e f):=⟨Zo n o g i j k a b l m c d e f⟩
def gV (n:Nat) (g:List zL) (d:Env) (e:State) (f:Val):Option (Env×State×Int):= match d,e,f with | ⟨b,c⟩,⟨⟨w,x⟩,⟨y,z⟩⟩,⟨A,B,i,j,k,l⟩=>bnd (uc n (Graph.mk w x)) fun⟨m,o⟩=>chk ((qv b).length * 16<=140737488355328) (chk ((Val.rows c).length * 88<=140737488355328) (bnd (vO n g m o y z b c A B i j k l) fun⟨a,p,q,s,t,u,v⟩=>bif a != 0 then some (Env.mk ([]:List SS) ([]:List Val),State.mk (Graph.mk ([]:List Node) ([]:List Edge)) (fZ.mk 0 0),a) else some (Env.mk u v,State.mk (Graph.mk p q) (fZ.mk s t),0)))
theorem UL (n:Nat):∀(f:List zL) (c:Env) (d:State) (e:Val) (r:Env×State×Int),gV n f c d e=some r->qh TP 12 [PV.sl (zL.rows f),PV.agg (Nh.cells c),PV.agg (tF.cells d),PV.agg (zx.cells e)] (qf1 r):=by
 intro f c d e r h;obtain⟨a,b⟩:=c;obtain⟨⟨F,G⟩,⟨s,t⟩⟩:=d;obtain⟨l,m,g,i,j,k⟩:=e;unfold gV at h;refine zN Tryz.call12 Tryz.func12 [24,33,40000005,50000008,60013003,1000000] ?_;conv=>whnf
 refine zI Tryz.call24 Tryz.func24 [56,57,30000018,30000020,40000002,86000056,86000057,1000000] ?_;conv=>whnf
 refine bq h fun⟨y,z⟩ x h=>⟨_,(sz n _ _ x),?_⟩;conv=>whnf
 obtain⟨w,h⟩:=qu h;refine⟨.tsl 8 (qv a),[.tail 9 1 (qv a).length],tB (Fo a (kod w)) [] [] (by rintro _ _ ⟨rfl,rfl⟩; exact⟨_,_,rfl,rfl,rfl,rfl⟩),?_⟩;conv=>whnf
 obtain⟨v,h⟩:=qu h;refine⟨.tsl 9 (Val.rows b),[.tail 35 6 (Val.rows b).length],tB (EH b (kod v)) [] [] (by rintro _ _ ⟨rfl,rfl⟩; exact⟨_,_,rfl,rfl,rfl,rfl⟩),?_⟩;conv=>whnf
 refine bq h fun⟨A,B,C,D,E,o,q⟩ u h=>?_;refine tB (CO.ok _ u) [10,8,9] [] ?_;rintro _ _ ⟨rfl,rfl⟩;refine⟨pI A,[.box 25 [pT a,pV b],.box 33 [.p (.sl (Node.rows F)),.p (.sl (Edge.rows G)),pI s,pI t],.box 35 [pI l,pB m,pI g,pS i,pV j,pT k],.box 25 [zq2,zq2],zq6,.box 25 [pT a,pV b],.box 33 [.p (.sl (Node.rows y)),.p (.sl (Edge.rows z)),pI s,pI t],.box 35 [pI l,pB m,pI g,pS i,pV j,pT k],.dead,.dead,.box 79 [.p (.sl (Node.rows B)),.p (.sl (Edge.rows C)),pI D,pI E,.tsl 11 (qv o),.tsl 12 (Val.rows q),pI l,pB m,pI g,pS i,pV j,pT k],.tail 9 1 (qv o).length,.tail 35 6 (Val.rows q).length],rfl,rfl,?_⟩;conv=>whnf
 apply ifc h<;>intro _ h
 ·obtain rfl:=sj h
  conv=>whnf
  try exact fin
 obtain rfl:=sj h;conv=>whnf
 try exact fin
instance (n:Nat) (d:List zL) (a:Env) (b:State) (c:Val):CC TP (gV n d a b c) 12 [PV.sl (zL.rows d),PV.agg (Nh.cells a),PV.agg (tF.cells b),PV.agg (zx.cells c)] qf1:=⟨UL n d a b c⟩
end W
end
section
set_option maxRecDepth 100000
set_option maxHeartbeats 20000000
open Go Go.Proofs Ax
attribute [local irreducible] zh rI uh
namespace W
def fp (n:Nat) (b:Int×SS->Option SS) (c:Int):SS->Option SS:=fun a=>chk ((qo (a++[10])).length * 1<=140737488355328) (b (kwr .i64 (c+1),a++[10]))
def cK (n:Nat) (g i:List SS) (l:List Val) (e:Int×SS->Option SS) (f:Int):(Int×SS->Option SS)->Int×SS->Option SS:=fun j (b,a)=>bif b<((qv g).length:Int) then bnd (idx g b) fun k=>bnd (bV n k) fun c=>chk (((([58]:SS).length+c.length:Nat):Int)<=te) (chk ((qo (a++(([58]:SS)++c))).length * 1<=140737488355328) (j (kwr .i64 (b+1),a++(([58]:SS)++c)))) else bif ((qv i).length:Int)>0 then bnd (gp n (Val.mk 5 false 0 ([]:SS) l i)) fun d=>chk (((([32]:SS).length+d.length:Nat):Int)<=te) (chk ((qo (a++(([32]:SS)++d))).length * 1<=140737488355328) (fp n e f (a++(([32]:SS)++d)))) else fp n e f a
def mE (n:Nat) (b:Int×SS->Option SS) (c:Int):SS->Option SS:=fun a=>chk ((qo (a++[10])).length * 1<=140737488355328) (b (kwr .i64 (c+1),a++[10]))
def sF (n:Nat) (j:List Edge):(Int×SS->Option SS)->Int×SS->Option SS:=fun i (f,d)=>bif f<((Edge.rows j).length:Int) then bnd (idx j f) fun⟨l,m,o,p,k,q⟩=>bnd (uZ n l) fun a=>chk (((([35,101]:SS).length+a.length:Nat):Int)<=te) (chk ((((([35,101]:SS)++a).length+([58]:SS).length:Nat):Int)<=te) (bnd (bV n p) fun b=>chk (((((([35,101]:SS)++a)++([58]:SS)).length+b.length:Nat):Int)<=te) (chk ((((((([35,101]:SS)++a)++([58]:SS))++b).length+([32,35,110]:SS).length:Nat):Int)<=te) (bnd (uZ n m) fun c=>chk (((((((([35,101]:SS)++a)++([58]:SS))++b)++([32,35,110]:SS)).length+c.length:Nat):Int)<=te) (chk ((((((((([35,101]:SS)++a)++([58]:SS))++b)++([32,35,110]:SS))++c).length+([32,35,110]:SS).length:Nat):Int)<=te) (bnd (uZ n o) fun e=>chk (((((((((([35,101]:SS)++a)++([58]:SS))++b)++([32,35,110]:SS))++c)++([32,35,110]:SS)).length+e.length:Nat):Int)<=te) (chk ((qo (d++(((((((([35,101]:SS)++a)++([58]:SS))++b)++([32,35,110]:SS))++c)++([32,35,110]:SS))++e))).length * 1<=140737488355328) (bif ((qv k).length:Int)>0 then bnd (gp n (Val.mk 5 false 0 ([]:SS) q k)) fun g=>chk (((([32]:SS).length+g.length:Nat):Int)<=te) (chk ((qo ((d++(((((((([35,101]:SS)++a)++([58]:SS))++b)++([32,35,110]:SS))++c)++([32,35,110]:SS))++e))++(([32]:SS)++g))).length * 1<=140737488355328) (mE n i f ((d++(((((((([35,101]:SS)++a)++([58]:SS))++b)++([32,35,110]:SS))++c)++([32,35,110]:SS))++e))++(([32]:SS)++g)))) else mE n i f (d++(((((((([35,101]:SS)++a)++([58]:SS))++b)++([32,35,110]:SS))++c)++([32,35,110]:SS))++e)))))))))) else some d
def sD (n:Nat) (d:List Node) (f:List Edge):(Int×SS->Option SS)->Int×SS->Option SS:=fun e (a,b)=>bif a<((Node.rows d).length:Int) then bnd (idx d a) fun⟨g,i,j,k⟩=>bnd (uZ n g) fun c=>chk (((([35,110]:SS).length+c.length:Nat):Int)<=te) (chk ((qo (b++(([35,110]:SS)++c))).length * 1<=140737488355328) (qy (cK n i j k e a) n (0,b++(([35,110]:SS)++c)))) else qy (sF n f) n (0,b)
def tw (n:Nat) (a:Graph):Option SS:= match a with | ⟨b,c⟩=>qy (sD n b c) n (0,([]:List _))
theorem FY (n:Nat):∀(I:Graph) (r:SS),tw n I=some r->qh TP 22 [PV.agg (uI.cells I)] (RA5 r):=by
 intro I r h;obtain⟨i,u⟩:=I;unfold tw at h;refine zN Tryz.call22 Tryz.func22 [46,47,52,20000036,20000070,1000000] ?_;conv=>whnf
 refine uh.fn [46,47,52,20000036,20000070,1000000] (S:=Int×SS) (fun(q,l)=>[(1,.ptr 0 0),(3,.ptr 1 0),(4,.clo 46 (.cap (.ptr 1 0) (.cap0))),(13,.p (.sl (Node.rows i))),(14,.p (.int .i64 ((Node.rows i).length:Int))),(15,pI q)]) (fun(q,l)=>[.box 29 [.p (.sl (Node.rows i)),.p (.sl (Edge.rows u))],.box 124 [.bself 1,.tsl 2 (qo l)],.tail 5 1 (qo l).length]) (B:=sD n i u) h (wk [0,1,0] [2]) ?_;intro K st h;obtain⟨q,l⟩:=st;unfold sD at h;conv=>whnf
 apply ifc h<;>intro x h
 ·conv=>whnf
  refine bq h fun⟨L,s,y,z⟩ a3 h=>⟨_,Codec.at_ me a3,?_⟩;conv=>whnf
  refine bq h fun w a2 h=>⟨_,(mH n _ _ a2),?_⟩;conv=>whnf
  obtain⟨a1,h⟩:=qu h;refine⟨(kod a1:((([35,110]:SS).length+w.length:Nat):Int)<=te),?_⟩;conv=>whnf
  refine zI Tryz.call47 Tryz.func47 [95,1000000] ?_;conv=>whnf
  refine zI Tryz.call95 Tryz.func95 [141,1000000] ?_;conv=>whnf
  refine⟨?_,?_⟩
  ·conv=>whnf
   refine⟨fun _=>?_,fun hf=>absurd hf (by first|decide|simp)⟩;conv=>whnf
   refine⟨⟨by decide,by first|decide|exact Nat.zero_lt_succ _⟩,?_⟩;conv=>whnf
   refine zh.noEscape Tryz.func141 (by kernel_rfl) (by kernel_rfl) (by kernel_rfl) (by kernel_rfl) ?_;conv=>whnf
   refine⟨by kernel_rfl,?_⟩;conv=>whnf
   rw[show qo l++qo (([35,110]:SS)++w)=qo (l++(([35,110]:SS)++w))from Codec.append zX l (([35,110]:SS)++w)];conv=>whnf
   obtain⟨F,h⟩:=qu h;refine⟨⟨Codec.wide zX l,kod F,xY F (by decide)⟩,?_⟩;conv=>whnf
   refine⟨⟨rfl,rfl,rfl⟩,?_⟩;conv=>whnf
   refine uh.fn [46,47,52,20000036,20000070,1000000] (S:=Int×SS) (fun(t,a)=>[(1,.ptr 0 0),(3,.ptr 1 0),(4,.clo 46 (.cap (.ptr 1 0) (.cap0))),(6,.ptr 2 0),(13,.p (.sl (Node.rows i))),(14,.p (.int .i64 ((Node.rows i).length:Int))),(15,pI q),(25,pT s),(26,.p (.int .i64 ((qv s).length:Int))),(27,pI t)]) (fun(t,a)=>[.box 29 [.p (.sl (Node.rows i)),.p (.sl (Edge.rows u))],.box 124 [.ptr 1 0,.tsl 3 (qo a)],.box 88 [pI L,pT s,pT y,pV z],.tail 5 1 (qo a).length]) (B:=cK n s y z K q) h (wk [0,1,3,4] []) ?_;intro b8 st h;obtain⟨t,a⟩:=st;unfold cK at h;conv=>whnf
   apply ifc h<;>intro x h
   ·conv=>whnf
    refine bq h fun c0 O h=>⟨_,Codec.at_ CZ O,?_⟩;(conv=>whnf);refine bq h fun m N h=>⟨_,(rm n _ _ N),?_⟩;(conv=>whnf);obtain⟨M,h⟩:=qu h;refine⟨(kod M:((([58]:SS).length+m.length:Nat):Int)<=te),?_⟩;(conv=>whnf);refine zI Tryz.call47 Tryz.func47 [95,1000000] ?_;(conv=>whnf);refine zI Tryz.call95 Tryz.func95 [141,1000000] ?_;(conv=>whnf);refine⟨fun hf=>absurd hf (by first|decide|simp),fun _=>?_⟩;conv=>whnf
    refine⟨fun hf=>absurd hf (by first|decide|simp),fun _=>?_⟩;conv=>whnf
    rw[show qo a++qo (([58]:SS)++m)=qo (a++(([58]:SS)++m))from Codec.append zX a (([58]:SS)++m)];(conv=>whnf);obtain⟨A,h⟩:=qu h;refine⟨⟨Codec.wide zX a,kod A,xY A (by decide)⟩,?_⟩;(conv=>whnf);refine⟨⟨rfl,rfl,rfl⟩,?_⟩;(conv=>whnf);exact⟨((kwr .i64 (t+1)),(a++(([58]:SS)++m))),h,wk [0,1,2,4] []⟩
   conv=>whnf
   refine zI Tryz.call46 Tryz.func46 [47,49,1000000] ?_;conv=>whnf
   refine rI.cut (S:=SS) (fun e=>[(2,.ptr 1 0)]) (fun e=>[.box 29 [.p (.sl (Node.rows i)),.p (.sl (Edge.rows u))],.box 124 [.ptr 1 0,.tsl 4 (qo e)],.box 88 [pI L,pT s,pT y,pV z],.dead,.tail 5 1 (qo e).length]) (fp n K q) (r:=r) ?_ ?_
   ·intro e h
    unfold fp at h;(conv=>whnf);refine zI Tryz.call49 Tryz.func49 [95,1000000] ?_;(conv=>whnf);refine zI Tryz.call95 Tryz.func95 [141,1000000] ?_;(conv=>whnf);refine⟨fun hf=>absurd hf (by first|decide|simp),fun _=>?_⟩;conv=>whnf
    refine⟨fun hf=>absurd hf (by first|decide|simp),fun _=>?_⟩;conv=>whnf
    refine⟨Codec.one zX [(10:UInt8)],qo [(10:UInt8)],.inl rfl,?_⟩;(conv=>whnf);rw[show qo e++qo [(10:UInt8)]=qo (e++[(10:UInt8)])from Codec.append zX e [(10:UInt8)]];(conv=>whnf);obtain⟨C,h⟩:=qu h;refine⟨⟨Codec.wide zX (e++[(10:UInt8)]),kod C,xY C (by decide)⟩,?_⟩;(conv=>whnf);refine⟨⟨rfl,rfl,rfl⟩,?_⟩;(conv=>whnf);exact⟨((kwr .i64 (q+1)),(e++[(10:UInt8)])),h,wk [0,1,5] []⟩
   conv=>whnf
   apply ifc h<;>intro x h
   ·conv=>whnf
    refine bq h fun o Q h=>⟨_,(nK n _ _ Q),?_⟩;(conv=>whnf);obtain⟨P,h⟩:=qu h;refine⟨(kod P:((([32]:SS).length+o.length:Nat):Int)<=te),?_⟩;(conv=>whnf);refine zI Tryz.call47 Tryz.func47 [95,1000000] ?_;(conv=>whnf);refine zI Tryz.call95 Tryz.func95 [141,1000000] ?_;(conv=>whnf);refine⟨fun hf=>absurd hf (by first|decide|simp),fun _=>?_⟩;conv=>whnf
    refine⟨fun hf=>absurd hf (by first|decide|simp),fun _=>?_⟩;conv=>whnf
    rw[show qo a++qo (([32]:SS)++o)=qo (a++(([32]:SS)++o))from Codec.append zX a (([32]:SS)++o)];(conv=>whnf);obtain⟨D,h⟩:=qu h;refine⟨⟨Codec.wide zX a,kod D,xY D (by decide)⟩,?_⟩;(conv=>whnf);refine⟨⟨rfl,rfl,rfl⟩,?_⟩;(conv=>whnf);exact⟨(a++(([32]:SS)++o)),h,wk [0,1,2,3,4] []⟩
   conv=>whnf
   exact⟨a,h,wk [0,1,2,3,3] []⟩
  conv=>whnf
  refine⟨fun hf=>absurd hf (by first|decide|simp),fun _=>?_⟩;conv=>whnf
  refine⟨fun hf=>absurd hf (by first|decide|simp),fun _=>?_⟩;conv=>whnf
  rw[show qo l++qo (([35,110]:SS)++w)=qo (l++(([35,110]:SS)++w))from Codec.append zX l (([35,110]:SS)++w)];conv=>whnf
  obtain⟨F,h⟩:=qu h;refine⟨⟨Codec.wide zX l,kod F,xY F (by decide)⟩,?_⟩;conv=>whnf
  refine⟨⟨rfl,rfl,rfl⟩,?_⟩;conv=>whnf
  refine uh.fn [46,47,52,20000036,20000070,1000000] (S:=Int×SS) (fun(t,a)=>[(1,.ptr 0 0),(3,.ptr 1 0),(4,.clo 46 (.cap (.ptr 1 0) (.cap0))),(6,.ptr 2 0),(13,.p (.sl (Node.rows i))),(14,.p (.int .i64 ((Node.rows i).length:Int))),(15,pI q),(25,pT s),(26,.p (.int .i64 ((qv s).length:Int))),(27,pI t)]) (fun(t,a)=>[.box 29 [.p (.sl (Node.rows i)),.p (.sl (Edge.rows u))],.box 124 [.ptr 1 0,.tsl 3 (qo a)],.box 88 [pI L,pT s,pT y,pV z],.tail 5 1 (qo a).length]) (B:=cK n s y z K q) h (wk [0,1,3,4] []) ?_;intro b8 st h;obtain⟨t,a⟩:=st;unfold cK at h;conv=>whnf
  apply ifc h<;>intro x h
  ·conv=>whnf
   refine bq h fun c0 O h=>⟨_,Codec.at_ CZ O,?_⟩;conv=>whnf
   refine bq h fun m N h=>⟨_,(rm n _ _ N),?_⟩;conv=>whnf
   obtain⟨M,h⟩:=qu h;refine⟨(kod M:((([58]:SS).length+m.length:Nat):Int)<=te),?_⟩;conv=>whnf
   refine zI Tryz.call47 Tryz.func47 [95,1000000] ?_;conv=>whnf
   refine zI Tryz.call95 Tryz.func95 [141,1000000] ?_;conv=>whnf
   refine⟨fun hf=>absurd hf (by first|decide|simp),fun _=>?_⟩;conv=>whnf
   refine⟨fun hf=>absurd hf (by first|decide|simp),fun _=>?_⟩;conv=>whnf
   rw[show qo a++qo (([58]:SS)++m)=qo (a++(([58]:SS)++m))from Codec.append zX a (([58]:SS)++m)];conv=>whnf
   obtain⟨A,h⟩:=qu h;refine⟨⟨Codec.wide zX a,kod A,xY A (by decide)⟩,?_⟩;conv=>whnf
   refine⟨⟨rfl,rfl,rfl⟩,?_⟩;conv=>whnf
   exact⟨((kwr .i64 (t+1)),(a++(([58]:SS)++m))),h,wk [0,1,2,4] []⟩
  conv=>whnf
  refine zI Tryz.call46 Tryz.func46 [47,49,1000000] ?_;conv=>whnf
  refine rI.cut (S:=SS) (fun e=>[(2,.ptr 1 0)]) (fun e=>[.box 29 [.p (.sl (Node.rows i)),.p (.sl (Edge.rows u))],.box 124 [.ptr 1 0,.tsl 4 (qo e)],.box 88 [pI L,pT s,pT y,pV z],.dead,.tail 5 1 (qo e).length]) (fp n K q) (r:=r) ?_ ?_
  ·intro e h
   unfold fp at h;conv=>whnf
   refine zI Tryz.call49 Tryz.func49 [95,1000000] ?_;conv=>whnf
   refine zI Tryz.call95 Tryz.func95 [141,1000000] ?_;conv=>whnf
   refine⟨fun hf=>absurd hf (by first|decide|simp),fun _=>?_⟩;conv=>whnf
   refine⟨fun hf=>absurd hf (by first|decide|simp),fun _=>?_⟩;conv=>whnf
   refine⟨Codec.one zX [(10:UInt8)],qo [(10:UInt8)],.inl rfl,?_⟩;conv=>whnf
   rw[show qo e++qo [(10:UInt8)]=qo (e++[(10:UInt8)])from Codec.append zX e [(10:UInt8)]];conv=>whnf
   obtain⟨C,h⟩:=qu h;refine⟨⟨Codec.wide zX (e++[(10:UInt8)]),kod C,xY C (by decide)⟩,?_⟩;conv=>whnf
   refine⟨⟨rfl,rfl,rfl⟩,?_⟩;conv=>whnf
   exact⟨((kwr .i64 (q+1)),(e++[(10:UInt8)])),h,wk [0,1,5] []⟩
  conv=>whnf
  apply ifc h<;>intro x h
  ·conv=>whnf
   refine bq h fun o Q h=>⟨_,(nK n _ _ Q),?_⟩;conv=>whnf
   obtain⟨P,h⟩:=qu h;refine⟨(kod P:((([32]:SS).length+o.length:Nat):Int)<=te),?_⟩;conv=>whnf
   refine zI Tryz.call47 Tryz.func47 [95,1000000] ?_;conv=>whnf
   refine zI Tryz.call95 Tryz.func95 [141,1000000] ?_;conv=>whnf
   refine⟨fun hf=>absurd hf (by first|decide|simp),fun _=>?_⟩;conv=>whnf
   refine⟨fun hf=>absurd hf (by first|decide|simp),fun _=>?_⟩;conv=>whnf
   rw[show qo a++qo (([32]:SS)++o)=qo (a++(([32]:SS)++o))from Codec.append zX a (([32]:SS)++o)];conv=>whnf
   obtain⟨D,h⟩:=qu h;refine⟨⟨Codec.wide zX a,kod D,xY D (by decide)⟩,?_⟩;conv=>whnf
   refine⟨⟨rfl,rfl,rfl⟩,?_⟩;conv=>whnf
   exact⟨(a++(([32]:SS)++o)),h,wk [0,1,2,3,4] []⟩
  conv=>whnf
  exact⟨a,h,wk [0,1,2,3,3] []⟩
 conv=>whnf
 refine uh.fn [46,47,52,20000036,20000070,1000000] (S:=Int×SS) (fun(G,b)=>[(3,.ptr 0 0),(4,.clo 46 (.cap (.ptr 0 0) (.cap0))),(44,.p (.sl (Edge.rows u))),(45,.p (.int .i64 ((Edge.rows u).length:Int))),(46,pI G)]) (fun(G,b)=>[.box 124 [.bself 0,.tsl 1 (qo b)],.tail 5 1 (qo b).length]) (B:=sF n u) h (wk [1,2] []) ?_;intro b9 st h;obtain⟨G,b⟩:=st;unfold sF at h;conv=>whnf
 apply ifc h<;>intro x h
 ·conv=>whnf
  refine bq h fun⟨V,W,X,Y,Z,a0⟩ b7 h=>⟨_,Codec.at_ mc b7,?_⟩;conv=>whnf
  refine bq h fun c b6 h=>⟨_,(mH n _ _ b6),?_⟩;conv=>whnf
  obtain⟨b5,h⟩:=qu h;refine⟨(kod b5:((([35,101]:SS).length+c.length:Nat):Int)<=te),?_⟩;conv=>whnf
  obtain⟨b4,h⟩:=qu h;refine⟨(kod b4:(((([35,101]:SS)++c).length+([58]:SS).length:Nat):Int)<=te),?_⟩;conv=>whnf
  refine bq h fun d b3 h=>⟨_,(rm n _ _ b3),?_⟩;conv=>whnf
  obtain⟨b2,h⟩:=qu h;refine⟨(kod b2:((((([35,101]:SS)++c)++([58]:SS)).length+d.length:Nat):Int)<=te),?_⟩;conv=>whnf
  obtain⟨b1,h⟩:=qu h;refine⟨(kod b1:(((((([35,101]:SS)++c)++([58]:SS))++d).length+([32,35,110]:SS).length:Nat):Int)<=te),?_⟩;conv=>whnf
  refine bq h fun f b0 h=>⟨_,(mH n _ _ b0),?_⟩;conv=>whnf
  obtain⟨a9,h⟩:=qu h;refine⟨(kod a9:((((((([35,101]:SS)++c)++([58]:SS))++d)++([32,35,110]:SS)).length+f.length:Nat):Int)<=te),?_⟩;conv=>whnf
  obtain⟨a8,h⟩:=qu h;refine⟨(kod a8:(((((((([35,101]:SS)++c)++([58]:SS))++d)++([32,35,110]:SS))++f).length+([32,35,110]:SS).length:Nat):Int)<=te),?_⟩;conv=>whnf
  refine bq h fun g a7 h=>⟨_,(mH n _ _ a7),?_⟩;conv=>whnf
  obtain⟨a6,h⟩:=qu h;refine⟨(kod a6:((((((((([35,101]:SS)++c)++([58]:SS))++d)++([32,35,110]:SS))++f)++([32,35,110]:SS)).length+g.length:Nat):Int)<=te),?_⟩;conv=>whnf
  obtain⟨J,h⟩:=qu h;refine⟨.p (.tup [.int .i64 (((((((((([35,101]:SS)++c)++([58]:SS))++d)++([32,35,110]:SS))++f)++([32,35,110]:SS))++g).length:Nat):Int),.nili]),[.box 124 [.ptr 0 0,.tsl 3 (qo (b++(((((((([35,101]:SS)++c)++([58]:SS))++d)++([32,35,110]:SS))++f)++([32,35,110]:SS))++g)))],.dead,.box 86 [pI V,pI W,pI X,pS Y,pT Z,pV a0],.tail 5 1 (qo (b++(((((((([35,101]:SS)++c)++([58]:SS))++d)++([32,35,110]:SS))++f)++([32,35,110]:SS))++g))).length],?_,?_⟩
  ·conv=>whnf
   refine zI Tryz.call47 Tryz.func47 [95,1000000] ?_;conv=>whnf
   refine zI Tryz.call95 Tryz.func95 [141,1000000] ?_;conv=>whnf
   refine⟨?_,?_⟩
   ·conv=>whnf
    refine⟨fun _=>?_,fun hf=>absurd hf (by first|decide|simp)⟩;conv=>whnf
    refine⟨⟨by decide,by first|decide|exact Nat.zero_lt_succ _⟩,?_⟩;conv=>whnf
    refine zh.noEscape Tryz.func141 (by kernel_rfl) (by kernel_rfl) (by kernel_rfl) (by kernel_rfl) ?_;(conv=>whnf);refine⟨by kernel_rfl,?_⟩;(conv=>whnf);rw[show qo b++qo (((((((([35,101]:SS)++c)++([58]:SS))++d)++([32,35,110]:SS))++f)++([32,35,110]:SS))++g)=qo (b++(((((((([35,101]:SS)++c)++([58]:SS))++d)++([32,35,110]:SS))++f)++([32,35,110]:SS))++g))from Codec.append zX b (((((((([35,101]:SS)++c)++([58]:SS))++d)++([32,35,110]:SS))++f)++([32,35,110]:SS))++g)];(conv=>whnf);refine⟨⟨Codec.wide zX b,kod J,xY J (by decide)⟩,?_⟩;(conv=>whnf);refine⟨⟨rfl,rfl,rfl⟩,?_⟩;exact⟨rfl,rfl⟩
   conv=>whnf
   refine⟨fun hf=>absurd hf (by first|decide|simp),fun _=>?_⟩;conv=>whnf
   refine⟨fun hf=>absurd hf (by first|decide|simp),fun _=>?_⟩;conv=>whnf
   rw[show qo b++qo (((((((([35,101]:SS)++c)++([58]:SS))++d)++([32,35,110]:SS))++f)++([32,35,110]:SS))++g)=qo (b++(((((((([35,101]:SS)++c)++([58]:SS))++d)++([32,35,110]:SS))++f)++([32,35,110]:SS))++g))from Codec.append zX b (((((((([35,101]:SS)++c)++([58]:SS))++d)++([32,35,110]:SS))++f)++([32,35,110]:SS))++g)];conv=>whnf
   refine⟨⟨Codec.wide zX b,kod J,xY J (by decide)⟩,?_⟩;conv=>whnf
   refine⟨⟨rfl,rfl,rfl⟩,?_⟩;exact⟨rfl,rfl⟩
  conv=>whnf
  refine zI Tryz.call46 Tryz.func46 [47,49,1000000] ?_;conv=>whnf
  refine rI.cut (S:=SS) (fun v=>[(2,.ptr 0 0)]) (fun v=>[.box 124 [.ptr 0 0,.tsl 4 (qo v)],.dead,.box 86 [pI V,pI W,pI X,pS Y,pT Z,pV a0],.dead,.tail 5 1 (qo v).length]) (mE n b9 G) (r:=r) ?_ ?_
  ·intro v h
   unfold mE at h;conv=>whnf
   refine zI Tryz.call49 Tryz.func49 [95,1000000] ?_;conv=>whnf
   refine zI Tryz.call95 Tryz.func95 [141,1000000] ?_;conv=>whnf
   refine⟨fun hf=>absurd hf (by first|decide|simp),fun _=>?_⟩;conv=>whnf
   refine⟨fun hf=>absurd hf (by first|decide|simp),fun _=>?_⟩;conv=>whnf
   refine⟨Codec.one zX [(10:UInt8)],qo [(10:UInt8)],.inl rfl,?_⟩;conv=>whnf
   rw[show qo v++qo [(10:UInt8)]=qo (v++[(10:UInt8)])from Codec.append zX v [(10:UInt8)]];conv=>whnf
   obtain⟨R,h⟩:=qu h;refine⟨⟨Codec.wide zX (v++[(10:UInt8)]),kod R,xY R (by decide)⟩,?_⟩;conv=>whnf
   refine⟨⟨rfl,rfl,rfl⟩,?_⟩;conv=>whnf
   exact⟨((kwr .i64 (G+1)),(v++[(10:UInt8)])),h,wk [0,5] []⟩
  conv=>whnf
  apply ifc h<;>intro x h
  ·conv=>whnf
   refine bq h fun H a5 h=>⟨_,(nK n _ _ a5),?_⟩;conv=>whnf
   obtain⟨a4,h⟩:=qu h;refine⟨(kod a4:((([32]:SS).length+H.length:Nat):Int)<=te),?_⟩;conv=>whnf
   refine zI Tryz.call47 Tryz.func47 [95,1000000] ?_;conv=>whnf
   refine zI Tryz.call95 Tryz.func95 [141,1000000] ?_;conv=>whnf
   refine⟨fun hf=>absurd hf (by first|decide|simp),fun _=>?_⟩;conv=>whnf
   refine⟨fun hf=>absurd hf (by first|decide|simp),fun _=>?_⟩;conv=>whnf
   rw[show qo (b++(((((((([35,101]:SS)++c)++([58]:SS))++d)++([32,35,110]:SS))++f)++([32,35,110]:SS))++g))++qo (([32]:SS)++H)=qo ((b++(((((((([35,101]:SS)++c)++([58]:SS))++d)++([32,35,110]:SS))++f)++([32,35,110]:SS))++g))++(([32]:SS)++H))from Codec.append zX (b++(((((((([35,101]:SS)++c)++([58]:SS))++d)++([32,35,110]:SS))++f)++([32,35,110]:SS))++g)) (([32]:SS)++H)];conv=>whnf
   obtain⟨U,h⟩:=qu h;refine⟨⟨Codec.wide zX (b++(((((((([35,101]:SS)++c)++([58]:SS))++d)++([32,35,110]:SS))++f)++([32,35,110]:SS))++g)),kod U,xY U (by decide)⟩,?_⟩;conv=>whnf
   refine⟨⟨rfl,rfl,rfl⟩,?_⟩;conv=>whnf
   exact⟨((b++(((((((([35,101]:SS)++c)++([58]:SS))++d)++([32,35,110]:SS))++f)++([32,35,110]:SS))++g))++(([32]:SS)++H)),h,wk [0,1,2,3,4] []⟩
  conv=>whnf
  exact⟨(b++(((((((([35,101]:SS)++c)++([58]:SS))++d)++([32,35,110]:SS))++f)++([32,35,110]:SS))++g)),h,wk [0,1,2,3,3] []⟩
 conv=>whnf
 refine zh.string_any (T:=124) (E:=5) DV tT tS (k:=0) (j:=1) (bs:=b) (n:=(qo b).length) rfl rfl ?_;obtain rfl:=sj h;conv=>whnf
 try exact fin
instance (n:Nat) (a:Graph):CC TP (tw n a) 22 [PV.agg (uI.cells a)] RA5:=⟨FY n a⟩
def sA (n:Nat) (e:Graph) (i:Int):Option (Graph×Int):= match e with | ⟨f,a⟩=>bnd (qA n a i) fun⟨c,j⟩=>bif !j then some (Graph.mk ([]:List Node) ([]:List Edge),23) else bnd (pY c) fun b=>bnd (pY c) fun k=>chk (b=k/\b<=(Edge.rows a).length) (bnd (pY (kwr .i64 (c+1))) fun d=>chk (d<=(Edge.rows a).length) (chk ((Edge.rows (a.take b++a.drop d)).length * 88<=140737488355328) (bnd (uc n (Graph.mk f (a.take b++a.drop d))) fun⟨l,g⟩=>some (Graph.mk l g,0))))
theorem tP (n:Nat):∀(a:Graph) (b:Int) (r:Graph×Int),sA n a b=some r->qh TP 59 [PV.agg (uI.cells a),PV.int .i64 b] (qag r):=by
 intro a b r h;obtain⟨_,_⟩:=a;unfold sA at h;exact zN Tryz.call59 Tryz.func59 [1000000] au
instance (n:Nat) (a:Graph) (b:Int):CC TP (sA n a b) 59 [PV.agg (uI.cells a),PV.int .i64 b] qag:=⟨tP n a b⟩
def nu (n:Nat) (a:List Edge×Int->Option (List Edge)) (b:Int):List Edge->Option (List Edge):=fun c=>a (c,kwr .i64 (b+1))
def Qb (n:Nat) (m:List Edge) (q p:Int) (s:SS):LK (List Edge×Int) (List Edge):=fun c (a,b)=>bif b<((Edge.rows m).length:Int) then bnd (idx m b) fun⟨v,d,e,f,t,u⟩=>bif bif bif bif q != 1 then d==p else false then true else bif q != 0 then e==p else false then bif s==([]:SS) then true else f==s else false then bnd (xV n (Edge.mk v d e f t u)) fun⟨g,i,j,k,l,o⟩=>chk ((Edge.rows (a++[Edge.mk g i j k l o])).length * 88<=140737488355328) (nu n c b (a++[Edge.mk g i j k l o])) else nu n c b a else some a
def dP (n:Nat) (a:Graph) (c d:Int) (e:SS):Option (List Edge):= match a with | ⟨_,b⟩=>qy (Qb n b d c e) n (([]:List _),0)
instance (n c e d f):LL (Qb n c e d f) [1,2,3,13,14] (fun(a,b)=>[(9,.tsl 0 (Edge.rows a)),(15,pI b)]) [0] (fun(a,b)=>[(0,.tail 86 6 (Edge.rows a).length)]):=⟨⟩
instance (n b c):LJ (nu n b c) [1,2,3,13,14,15] (fun a=>[(9,.tsl 0 (Edge.rows a))]) [2] (fun a=>[(0,.tail 86 6 (Edge.rows a).length)]):=⟨⟩
theorem Qc (n:Nat):∀(a:Graph) (b c:Int) (d:SS) (r:List Edge),dP n a b c d=some r->qh TP 60 [PV.agg (uI.cells a),PV.int .i64 b,PV.int .i64 c,PV.str d] (qe8 r):=by
 intro a b c d r h;obtain⟨_,_⟩:=a;unfold dP at h;exact zN Tryz.call60 Tryz.func60 [1000000] au
instance (n:Nat) (a:Graph) (b:Int) (c:Int) (d:SS):CC TP (dP n a b c d) 60 [PV.agg (uI.cells a),PV.int .i64 b,PV.int .i64 c,PV.str d] qe8:=⟨Qc n a b c d⟩
def tu (n:Nat) (g:Graph) (f:Int):Option (Graph×Int):= match g with | ⟨a,e⟩=>bnd (qx n a f) fun⟨c,k⟩=>bif !k then some (Graph.mk ([]:List Node) ([]:List Edge),23) else bnd (dP n (Graph.mk a e) f 2 ([]:SS)) fun l=>bif ((Edge.rows l).length:Int)>0 then some (Graph.mk ([]:List Node) ([]:List Edge),5) else bnd (pY c) fun b=>bnd (pY c) fun m=>chk (b=m/\b<=(Node.rows a).length) (bnd (pY (kwr .i64 (c+1))) fun d=>chk (d<=(Node.rows a).length) (chk ((Node.rows (a.take b++a.drop d)).length * 80<=140737488355328) (bnd (uc n (Graph.mk (a.take b++a.drop d) e)) fun⟨i,j⟩=>some (Graph.mk i j,0))))
theorem ZS (n:Nat):∀(a:Graph) (b:Int) (r:Graph×Int),tu n a b=some r->qh TP 61 [PV.agg (uI.cells a),PV.int .i64 b] (qag r):=by
 intro a b r h;obtain⟨_,_⟩:=a;unfold tu at h;exact zN Tryz.call61 Tryz.func61 [1000000] au
instance (n:Nat) (a:Graph) (b:Int):CC TP (tu n a b) 61 [PV.agg (uI.cells a),PV.int .i64 b] qag:=⟨ZS n a b⟩
end W
end
section
set_option maxRecDepth 100000
set_option maxHeartbeats 20000000
open Go Go.Proofs Ax
attribute [local irreducible] zh rI uh
namespace W
abbrev sZ (_:List Node) (_:List Edge) (_ _:Int) (_:List SS) (_:List Val) (_:Int) (_:Bool) (_:Int) (_:SS) (_:List Val) (_:List SS) (r:Int×(List Node)×(List Edge)):FV:=.p (.int .i64 r.1)
abbrev sX (_:List Node) (_:List Edge) (c d:Int) (a:List SS) (b:List Val) (e:Int) (f:Bool) (g:Int) (i:SS) (j:List Val) (k:List SS) (r:Int×(List Node)×(List Edge)):List AObj:=[.box 79 [.p (.sl (Node.rows r.2.1)),.p (.sl (Edge.rows r.2.2)),pI c,pI d,.tsl 1 (qv a),.tsl 2 (Val.rows b),pI e,pB f,pI g,pS i,pV j,pT k],.tail 9 1 (qv a).length,.tail 35 6 (Val.rows b).length]
def fb (n:Nat):List Node×List Edge->Option (Int×(List Node)×(List Edge)):=fun(a,b)=>some (0,a,b)
def fe (n:Nat):List Node×List Edge->Option (Int×(List Node)×(List Edge)):=fun(a,b)=>some (0,a,b)
def fc (n:Nat) (f:Int):List Node×List Edge->Option (Int×(List Node)×(List Edge)):=fun(a,b)=>bnd (tu n (Graph.mk a b) f) fun⟨⟨d,e⟩,c⟩=>bif c==0 then fe n (d,e) else bif c==5 then some (c,a,b) else fe n (a,b)
def dn (n:Nat) (b:List Edge) (f:Int):LK (Int×List Node×List Edge) (Int×(List Node)×(List Edge)):=fun e (a,c,d)=>bif a<((Edge.rows b).length:Int) then bnd (idx b a) fun⟨g,_,_,_,_,_⟩=>bnd (sA n (Graph.mk c d) g) fun⟨⟨i,j⟩,_⟩=>e (kwr .i64 (a+1),i,j) else fc n f (c,d)
def dg (n:Nat) (d:Val) (k:Bool) (a:List Node) (b:List Edge) (_ _:Int) (_:List SS) (_:List Val) (_:Int) (_:Bool) (_:Int) (_:SS) (_:List Val) (_:List SS):Option (Int×(List Node)×(List Edge)):= match d with | ⟨e,_,c,_,_,_⟩=>bif e==7 then bnd (sA n (Graph.mk a b) c) fun⟨⟨f,g⟩,i⟩=>bif i==0 then fb n (f,g) else fb n (a,b) else bif k then bnd (dP n (Graph.mk a b) c 2 ([]:SS)) fun j=>qy (dn n j c) n (0,a,b) else fc n c (a,b)
theorem XJ (n:Nat):∀(q:Val) (F:Bool) (l:List Node) (m:List Edge) (c d:Int) (a:List SS) (b:List Val) (e:Int) (f:Bool) (g:Int) (i:SS) (j:List Val) (k:List SS) (r:Int×(List Node)×(List Edge)),dg n q F l m c d a b e f g i j k=some r->zw TP 26 [.ptr 0 0,.p (PV.agg (zx.cells q)),.p (PV.bool F)] [.box 79 [.p (.sl (Node.rows l)),.p (.sl (Edge.rows m)),pI c,pI d,.tsl 1 (qv a),.tsl 2 (Val.rows b),pI e,pB f,pI g,pS i,pV j,pT k],.tail 9 1 (qv a).length,.tail 35 6 (Val.rows b).length] 1 (fun v lo=>v=sZ l m c d a b e f g i j k r/\lo=sX l m c d a b e f g i j k r):=by
 intro q F l m c d a b e f g i j k r h;obtain⟨G,H,u,I,J,K⟩:=q;unfold dg at h;refine zO Tryz.call26 Tryz.func26 [40000002,40000012,1000000] ?_;conv=>whnf
 apply ifc h<;>intro o h
 ·conv=>whnf
  refine rI.cut (S:=List Node×List Edge) (fun(z,A)=>[]) (fun(z,A)=>[.box 79 [.p (.sl (Node.rows z)),.p (.sl (Edge.rows A)),pI c,pI d,.tsl 1 (qv a),.tsl 2 (Val.rows b),pI e,pB f,pI g,pS i,pV j,pT k],.tail 9 1 (qv a).length,.tail 35 6 (Val.rows b).length]) (fb n) (r:=r) ?_ ?_
  ·intro st h
   obtain⟨z,A⟩:=st;unfold fb at h;obtain rfl:=sj h;conv=>whnf
   refine⟨_,_,⟨rfl,rfl⟩,wk [0,1,2] []⟩
  conv=>whnf
  refine bq h fun⟨⟨Q,R⟩,_⟩ L h=>⟨_,(tP n _ _ _ L),?_⟩;conv=>whnf
  apply ifc h<;>intro o h
  ·conv=>whnf
   exact⟨(Q,R),h,wk [0,1,2] []⟩
  conv=>whnf
  exact⟨(l,m),h,wk [0,1,2] []⟩
 conv=>whnf
 refine rI.cut (S:=List Node×List Edge) (fun(s,t)=>[(0,.ptr 0 0),(4,.ptr 1 0)]) (fun(s,t)=>[.box 79 [.p (.sl (Node.rows s)),.p (.sl (Edge.rows t)),pI c,pI d,.tsl 2 (qv a),.tsl 3 (Val.rows b),pI e,pB f,pI g,pS i,pV j,pT k],.box 35 [pI G,pB H,pI u,pS I,pV J,pT K],.tail 9 1 (qv a).length,.tail 35 6 (Val.rows b).length]) (fc n u) (r:=r) ?_ ?_
 ·intro st h
  obtain⟨s,t⟩:=st;unfold fc at h;conv=>whnf
  refine bq h fun⟨⟨T,U⟩,_⟩ M h=>⟨_,(ZS n _ _ _ M),?_⟩;conv=>whnf
  refine rI.cut (S:=List Node×List Edge) (fun(C,D)=>[]) (fun(C,D)=>[.box 79 [.p (.sl (Node.rows C)),.p (.sl (Edge.rows D)),pI c,pI d,.tsl 1 (qv a),.tsl 2 (Val.rows b),pI e,pB f,pI g,pS i,pV j,pT k],.tail 9 1 (qv a).length,.tail 35 6 (Val.rows b).length]) (fe n) (r:=r) ?_ ?_
  ·intro st h
   obtain⟨C,D⟩:=st;unfold fe at h;obtain rfl:=sj h;conv=>whnf
   refine⟨_,_,⟨rfl,rfl⟩,wk [0,1,2] []⟩
  conv=>whnf
  apply ifc h<;>intro o h
  ·conv=>whnf
   exact⟨(T,U),h,wk [0,2,3] []⟩
  conv=>whnf
  apply ifc h<;>intro o h
  ·obtain rfl:=sj h
   conv=>whnf
   refine⟨_,_,⟨rfl,rfl⟩,wk [0,2,3] []⟩
  conv=>whnf
  exact⟨(s,t),h,wk [0,2,3] []⟩
 conv=>whnf
 apply ifc h<;>intro o h
 ·conv=>whnf
  refine bq h fun E P h=>⟨_,(Qc n _ _ _ _ _ P),?_⟩;conv=>whnf
  refine uh.fn [40000002,40000012,1000000] (S:=Int×List Node×List Edge) (fun(w,x,y)=>[(0,.ptr 0 0),(4,.ptr 1 0),(42,.p (.sl (Edge.rows E))),(43,.p (.int .i64 ((Edge.rows E).length:Int))),(44,pI w)]) (fun(w,x,y)=>[.box 79 [.p (.sl (Node.rows x)),.p (.sl (Edge.rows y)),pI c,pI d,.tsl 2 (qv a),.tsl 3 (Val.rows b),pI e,pB f,pI g,pS i,pV j,pT k],.box 35 [pI G,pB H,pI u,pS I,pV J,pT K],.tail 9 1 (qv a).length,.tail 35 6 (Val.rows b).length]) (B:=dn n E u) h (wk [0,3,1,2] []) ?_;intro _ st h;obtain⟨w,x,y⟩:=st;unfold dn at h;conv=>whnf
  apply ifc h<;>intro o h
  ·conv=>whnf
   refine bq h fun⟨_,_,_,_,_,_⟩ O h=>⟨_,Codec.at_ mc O,?_⟩;conv=>whnf
   refine bq h fun⟨⟨V,W⟩,_⟩ N h=>⟨_,(tP n _ _ _ N),?_⟩;conv=>whnf
   exact⟨((kwr .i64 (w+1)),V,W),h,wk [0,1,2,3] []⟩
  conv=>whnf
  exact⟨(x,y),h,wk [0,1,2,3] []⟩
 conv=>whnf
 exact⟨(l,m),h,wk [0,3,1,2] []⟩
instance (n:Nat) (o:Val) (q:Bool) (l:List Node) (m:List Edge) (c:Int) (d:Int) (a:List SS) (b:List Val) (e:Int) (f:Bool) (g:Int) (i:SS) (j:List Val) (k:List SS):CO TP (dg n o q l m c d a b e f g i j k) 26 [.ptr 0 0,.p (PV.agg (zx.cells o)),.p (PV.bool q)] [.box 79 [.p (.sl (Node.rows l)),.p (.sl (Edge.rows m)),pI c,pI d,.tsl 1 (qv a),.tsl 2 (Val.rows b),pI e,pB f,pI g,pS i,pV j,pT k],.tail 9 1 (qv a).length,.tail 35 6 (Val.rows b).length] 1 (sZ l m c d a b e f g i j k) (sX l m c d a b e f g i j k):=⟨XJ n o q l m c d a b e f g i j k⟩
def df (n:Nat) (b:Int×List Node×List Edge×List Val×List SS->Option (State×Int)) (c:Int) (d:List Val) (e:List SS):Int×List Node×List Edge->Option (State×Int):=fun(a,f,g)=>bif a != 0 then some (State.mk (Graph.mk ([]:List Node) ([]:List Edge)) (fZ.mk 0 0),a) else b (kwr .i64 (c+1),f,g,d,e)
def de (n:Nat) (c:Int) (i:Bool) (j:Int) (l:SS) (m:List Val) (o:List SS) (k:Bool) (f:List Node) (g:List Edge) (w x:Int) (t:List SS) (v a:List Val) (b:List SS) (d:Int×List Node×List Edge×List Val×List SS->Option (State×Int)) (e:Int):Int->Option (State×Int):=fun p=>bif bif c==6 then true else c==7 then bnd (dg n (Val.mk c i j l m o) k f g w x t v 0 false 0 ([]:SS) a b) fun⟨q,s,u⟩=>df n d e a b (q,s,u) else df n d e a b (p,f,g)
def nm (n:Nat) (l:List SS) (d e:Int) (i:List SS) (j:List Val) (q:Bool):LK (Int×List Node×List Edge×List Val×List SS) (State×Int):=fun k (a,b,c,f,g)=>bif a<((qv l).length:Int) then bnd (idx l a) fun v=>bnd (vt n v b c d e i j 0 false 0 ([]:SS) f g) fun⟨⟨m,o,p,s,t,u⟩,w⟩=>bif w then de n m o p s t u q b c d e i j f g k a 3 else de n m o p s t u q b c d e i j f g k a 2 else some (State.mk (Graph.mk b c) (fZ.mk d e),0)
def dL (n:Nat) (e:List SS) (g:Bool) (c:Env) (d:State):Option (State×Int):= match c,d with | ⟨a,b⟩,⟨⟨i,j⟩,⟨k,l⟩⟩=>bnd (uc n (Graph.mk i j)) fun⟨m,f⟩=>chk ((qv a).length * 16<=140737488355328) (chk ((Val.rows b).length * 88<=140737488355328) (qy (nm n e k l a b g) n (0,m,f,([]:List _),([]:List _))))
theorem UM (n:Nat):∀(c:List SS) (g:Bool) (m:Env) (o:State) (r:State×Int),dL n c g m o=some r->qh TP 8 [PV.sl (qv c),PV.bool g,PV.agg (Nh.cells m),PV.agg (tF.cells o)] (qf2 r):=by
 intro c g m o r h;obtain⟨a,b⟩:=m;obtain⟨⟨_,_⟩,⟨k,l⟩⟩:=o;unfold dL at h;refine zN Tryz.call8 Tryz.func8 [24,25,26,1000000] ?_;conv=>whnf
 refine zI Tryz.call24 Tryz.func24 [56,57,30000018,30000020,40000002,86000056,86000057,1000000] ?_;conv=>whnf
 refine bq h fun⟨_,_⟩ M h=>⟨_,(sz n _ _ M),?_⟩;conv=>whnf
 obtain⟨L,h⟩:=qu h;refine⟨.tsl 6 (qv a),[.tail 9 1 (qv a).length],tB (Fo a (kod L)) [] [] (by rintro _ _ ⟨rfl,rfl⟩; exact⟨_,_,rfl,rfl,rfl,rfl⟩),?_⟩;conv=>whnf
 obtain⟨K,h⟩:=qu h;refine⟨.tsl 7 (Val.rows b),[.tail 35 6 (Val.rows b).length],tB (EH b (kod K)) [] [] (by rintro _ _ ⟨rfl,rfl⟩; exact⟨_,_,rfl,rfl,rfl,rfl⟩),?_⟩;conv=>whnf
 refine uh.fn [24,25,26,1000000] (S:=Int×List Node×List Edge×List Val×List SS) (fun(f,i,j,d,e)=>[(1,pB g),(8,.ptr 0 0),(10,.ptr 1 0),(20,pT c),(21,.p (.int .i64 ((qv c).length:Int))),(22,pI f)]) (fun(f,i,j,d,e)=>[zq6,.box 79 [.p (.sl (Node.rows i)),.p (.sl (Edge.rows j)),pI k,pI l,.tsl 2 (qv a),.tsl 3 (Val.rows b),zq0,pB false,zq0,zq1,pV d,pT e],.tail 9 1 (qv a).length,.tail 35 6 (Val.rows b).length]) (B:=nm n c k l a b g) h (wk [2,8,6,7] []) ?_;intro D st h;obtain⟨f,i,j,d,e⟩:=st;unfold nm at h;conv=>whnf
 apply ifc h<;>intro A h
 ·conv=>whnf
  refine bq h fun _ J h=>⟨_,Codec.at_ CZ J,?_⟩;conv=>whnf
  refine bq h fun⟨⟨q,s,t,u,v,w⟩,N⟩ H h=>?_;refine tB (CO.ok _ H) [1,2,3] [] ?_;rintro _ _ ⟨rfl,rfl⟩;refine⟨.p (.tup [.agg [.int .i64 q,.bool s,.int .i64 t,.str u,.sl (Val.rows v),.sl (qv w)],.bool N]),[zq6,.box 79 [.p (.sl (Node.rows i)),.p (.sl (Edge.rows j)),pI k,pI l,.tsl 4 (qv a),.tsl 5 (Val.rows b),zq0,pB false,zq0,zq1,pV d,pT e],.dead,.dead,.tail 9 1 (qv a).length,.tail 35 6 (Val.rows b).length],rfl,rfl,?_⟩;conv=>whnf
  refine rI.cut (S:=Int) (fun x=>[(1,pB g),(8,.ptr 0 0),(10,.ptr 1 0),(13,.ptr 2 0),(15,pI x),(20,pT c),(21,.p (.int .i64 ((qv c).length:Int))),(22,pI f)]) (fun x=>[zq6,.box 79 [.p (.sl (Node.rows i)),.p (.sl (Edge.rows j)),pI k,pI l,.tsl 3 (qv a),.tsl 4 (Val.rows b),zq0,pB false,zq0,zq1,pV d,pT e],.box 35 [pI q,pB s,pI t,pS u,pV v,pT w],.tail 9 1 (qv a).length,.tail 35 6 (Val.rows b).length]) (de n q s t u v w g i j k l a b d e D f) (r:=r) ?_ ?_
  ·intro x h
   unfold de at h;conv=>whnf
   refine rI.cut (S:=Int×List Node×List Edge) (fun(C,y,z)=>[(1,pB g),(8,.ptr 0 0),(10,.ptr 1 0),(15,pI C),(20,pT c),(21,.p (.int .i64 ((qv c).length:Int))),(22,pI f)]) (fun(C,y,z)=>[zq6,.box 79 [.p (.sl (Node.rows y)),.p (.sl (Edge.rows z)),pI k,pI l,.tsl 2 (qv a),.tsl 3 (Val.rows b),zq0,pB false,zq0,zq1,pV d,pT e],.tail 9 1 (qv a).length,.tail 35 6 (Val.rows b).length]) (df n D f d e) (r:=r) ?_ ?_
   ·intro st h
    obtain⟨C,y,z⟩:=st;unfold df at h;(conv=>whnf);apply ifc h<;>intro A h
    ·obtain rfl:=sj h
     conv=>whnf
     try exact fin
    (conv=>whnf);exact⟨((kwr .i64 (f+1)),y,z,d,e),h,wk [0,1,2,3] []⟩
   conv=>whnf
   refine⟨id,?_⟩;conv=>whnf
   refine⟨id,id,?_⟩;conv=>whnf
   apply ifc h<;>intro A h
   ·conv=>whnf
    refine bq h fun⟨E,F,G⟩ I h=>?_;refine tB (CO.ok _ I) [1,3,4] [] ?_;rintro _ _ ⟨rfl,rfl⟩;refine⟨pI E,[zq6,.box 79 [.p (.sl (Node.rows F)),.p (.sl (Edge.rows G)),pI k,pI l,.tsl 5 (qv a),.tsl 6 (Val.rows b),zq0,pB false,zq0,zq1,pV d,pT e],.box 35 [pI q,pB s,pI t,pS u,pV v,pT w],.dead,.dead,.tail 9 1 (qv a).length,.tail 35 6 (Val.rows b).length],rfl,rfl,?_⟩;(conv=>whnf);exact⟨(E,F,G),h,wk [0,1,5,6] []⟩
   conv=>whnf
   exact⟨(x,i,j),h,wk [0,1,3,4] []⟩
  conv=>whnf
  apply ifc h<;>intro A h
  ·conv=>whnf
   exact⟨(3:Int),h,wk [0,1,6,4,5] []⟩
  conv=>whnf
  exact⟨(2:Int),h,wk [0,1,6,4,5] []⟩
 obtain rfl:=sj h;conv=>whnf
 try exact fin
instance (n:Nat) (c:List SS) (d:Bool) (a:Env) (b:State):CC TP (dL n c d a b) 8 [PV.sl (qv c),PV.bool d,PV.agg (Nh.cells a),PV.agg (tF.cells b)] qf2:=⟨UM n c d a b⟩
def pJ (n:Nat) (b:List Edge) (f:List Node):LK (Int) (Int):=fun k a=>bif a<((Edge.rows b).length:Int) then bnd (idx b a) fun⟨c,g,i,l,m,o⟩=>bnd (fq n (Edge.mk c g i l m o)) fun d=>bnd (qz ((!(!d))&&(a>0)) (idx b (kwr .i64 (a - 1)))) fun⟨e,_,_,_,_,_⟩=>bnd (qz (!(bif !d then true else bif a>0 then e≥c else false)) (fM n (Graph.mk f b) g)) fun j=>bnd (qz (!(bif bif !d then true else bif a>0 then e≥c else false then true else !j)) (fM n (Graph.mk f b) i)) fun p=>bif bif bif bif !d then true else bif a>0 then e≥c else false then true else !j then true else !p then some 20 else k (kwr .i64 (a+1)) else some 0
def pH (n:Nat) (b:List Node) (f:List Edge):LK (Int) (Int):=fun e a=>bif a<((Node.rows b).length:Int) then bnd (idx b a) fun⟨c,g,i,j⟩=>bnd (fr n (Node.mk c g i j)) fun d=>bnd (qz ((!(!d))&&(a>0)) (idx b (kwr .i64 (a - 1)))) fun⟨k,_,_,_⟩=>bif bif !d then true else bif a>0 then k≥c else false then some 20 else e (kwr .i64 (a+1)) else qy (pJ n f b) n 0
def mC (n:Nat) (c:Graph):Option (Int):= match c with | ⟨a,b⟩=>bif bif ((Node.rows a).length:Int)>4096 then true else ((Edge.rows b).length:Int)>4096 then some 20 else qy (pH n a b) n 0
instance (n a b):LL (pH n a b) [1,18,19] (fun c=>[(20,pI c)]) [0]:=⟨⟩
instance (n c a):LL (pJ n c a) [1,46,47] (fun b=>[(48,pI b)]) [0]:=⟨⟩
instance (n a):CC TP (mC n a) 34 [PV.agg (uI.cells a)] RA2:=⟨fun r h=>by
 cases a;unfold mC at h;exact zN Tryz.call34 Tryz.func34 [1000000] au⟩
def dd (n:Nat) (f:State):Option (Int):= match f with | ⟨⟨a,c⟩,⟨b,d⟩⟩=>bnd (qz (!(!(bif (bif b≥1 then b<=4611686018427387904 else false)==true then bif (bif d≥1 then d<=4611686018427387904 else false)==true then true else false else false))) (mC n (Graph.mk a c))) fun i=>bif bif !(bif (bif b≥1 then b<=4611686018427387904 else false)==true then bif (bif d≥1 then d<=4611686018427387904 else false)==true then true else false else false) then true else i != 0 then some 20 else bnd (qz (((Node.rows a).length:Int)>0) (idx a (kwr .i64 (((Node.rows a).length:Int) - 1)))) fun⟨e,_,_,_⟩=>bnd (qz ((!(bif ((Node.rows a).length:Int)>0 then e≥b else false))&&(((Edge.rows c).length:Int)>0)) (idx c (kwr .i64 (((Edge.rows c).length:Int) - 1)))) fun⟨g,_,_,_,_,_⟩=>bif bif bif ((Node.rows a).length:Int)>0 then e≥b else false then true else bif ((Edge.rows c).length:Int)>0 then g≥d else false then some 20 else some 0
instance (n a):CC TP (dd n a) 13 [PV.agg (tF.cells a)] RA2:=⟨fun r h=>by
 obtain⟨⟨_,_⟩,⟨_,_⟩⟩:=a;unfold dd at h;exact zN Tryz.call13 Tryz.func13 [1000000] au⟩
def bC (n:Nat):Option (Bool):= bnd (Vj n ([67,82,69,65,84,69,32,40,110,58,65,32,123,107,58,32,49,125,41,45,91,58,84,93,45,62,40,109,41]:SS)) fun⟨⟨f⟩,_,_⟩=>bif ((qE.rows f).length:Int) != 1 then some false else bnd (idx f 0) fun⟨_,p,_,⟨_,_,⟨_,_,_,_,_,_⟩,_,_⟩,_,_,_,_,_,_,_,_,_⟩=>bnd (gV n p (Env.mk ([]:List SS) ([]:List Val)) (State.mk (Graph.mk ([]:List Node) ([]:List Edge)) (fZ.mk 1 1)) (Val.mk 5 false 0 ([]:SS) ([]:List Val) ([]:List SS))) fun⟨⟨a,g⟩,⟨⟨b,c⟩,⟨d,e⟩⟩,i⟩=>bnd (qz (!(bif i != 0 then true else ((qv a).length:Int) != 2)) (tw n (Graph.mk b c))) fun m=>bif bif bif i != 0 then true else ((qv a).length:Int) != 2 then true else !(m==([35,110,49,58,65,32,123,107,58,32,49,125,10,35,110,50,10,35,101,49,58,84,32,35,110,49,32,35,110,50,10]:SS)) then some false else bnd (dL n [([110]:SS)] false (Env.mk a g) (State.mk (Graph.mk b c) (fZ.mk d e))) fun⟨⟨⟨_,_⟩,⟨_,_⟩⟩,j⟩=>bnd (dL n [([110]:SS)] true (Env.mk a g) (State.mk (Graph.mk b c) (fZ.mk d e))) fun⟨⟨⟨k,_⟩,⟨_,_⟩⟩,l⟩=>bnd (qz (bif bif j==5 then l==0 else false then ((Node.rows k).length:Int)==1 else false) (dd n (State.mk (Graph.mk b c) (fZ.mk d e)))) fun o=>some (bif bif bif j==5 then l==0 else false then ((Node.rows k).length:Int)==1 else false then o==0 else false)
instance (n ):CC TP (bC n ) 6 [] RA0:=⟨fun r h=>by
 unfold bC at h;exact zN Tryz.call6 Tryz.func6 [1000000] au⟩
def dK (n:Nat) (e f:Node):Option (Bool):= match e,f with | ⟨a,i,j,k⟩,⟨b,l,m,o⟩=>bnd (qz (a==b) (zR n i l)) fun c=>bnd (qz (bif a==b then c else false) (zR n j m)) fun d=>bnd (qz (bif bif a==b then c else false then d else false) (xT n k o)) fun g=>some (bif bif bif a==b then c else false then d else false then g else false)
instance (n a b):CC TP (dK n a b) 35 [PV.agg (me.cells a),PV.agg (me.cells b)] RA0:=⟨fun r h=>by
 cases a;cases b;unfold dK at h;exact zN Tryz.call35 Tryz.func35 [1000000] au⟩
def dJ (n:Nat) (k l:Edge):Option (Bool):= match k,l with | ⟨a,c,d,e,q,s⟩,⟨f,g,i,b,m,o⟩=>bnd (qz (bif bif bif a==f then c==g else false then d==i else false then e==b else false) (zR n q m)) fun j=>bnd (qz (bif bif bif bif a==f then c==g else false then d==i else false then e==b else false then j else false) (xT n s o)) fun p=>some (bif bif bif bif bif a==f then c==g else false then d==i else false then e==b else false then j else false then p else false)
instance (n a b):CC TP (dJ n a b) 71 [PV.agg (mc.cells a),PV.agg (mc.cells b)] RA0:=⟨fun r h=>by
 cases a;cases b;unfold dJ at h;exact zN Tryz.call71 Tryz.func71 [1000000] au⟩
def cv (n:Nat) (b l:List Edge):LK (Int) (Bool):=fun c a=>bif a<((Edge.rows b).length:Int) then bnd (idx b a) fun⟨m,o,p,q,s,t⟩=>bnd (idx l a) fun⟨d,e,f,g,i,j⟩=>bnd (dJ n (Edge.mk m o p q s t) (Edge.mk d e f g i j)) fun k=>bif !k then some false else c (kwr .i64 (a+1)) else some true
def cD (n:Nat) (a b:List Edge):Option (Bool):= bif ((Edge.rows a).length:Int) != ((Edge.rows b).length:Int) then some false else qy (cv n a b) n 0
instance (n a b):LL (cv n a b) [0,1] (fun c=>[(5,pI c)]):=⟨⟩
instance (n a b):CC TP (cD n a b) 36 [PV.sl (Edge.rows a),PV.sl (Edge.rows b)] RA0:=⟨fun r h=>by
 unfold cD at h;exact zN Tryz.call36 Tryz.func36 [1000000] au⟩
def mu (n:Nat) (b l:List Node) (k m:List Edge):LK (Int) (Bool):=fun c a=>bif a<((Node.rows b).length:Int) then bnd (idx b a) fun⟨o,p,q,s⟩=>bnd (idx l a) fun⟨d,e,f,g⟩=>bnd (dK n (Node.mk o p q s) (Node.mk d e f g)) fun i=>bif !i then some false else c (kwr .i64 (a+1)) else bnd (cD n k m) fun j=>some j
def rE (n:Nat) (c d:Graph):Option (Bool):= match c,d with | ⟨a,e⟩,⟨b,f⟩=>bif ((Node.rows a).length:Int) != ((Node.rows b).length:Int) then some false else qy (mu n a b e f) n 0
instance (n a c b d):LL (mu n a c b d) [2,3] (fun e=>[(5,pI e)]) [0,1]:=⟨⟩
instance (n a b):CC TP (rE n a b) 14 [PV.agg (uI.cells a),PV.agg (uI.cells b)] RA0:=⟨fun r h=>by
 cases a;cases b;unfold rE at h;exact zN Tryz.call14 Tryz.func14 [1000000] au⟩
end W
end
section
set_option maxRecDepth 100000
set_option maxHeartbeats 20000000
open Go Go.Proofs Ax
attribute [local irreducible] zh rI uh
namespace W
def gC (n:Nat) (j:List zL) (y:Given):Option (Bool):= match y with | ⟨⟨q,v⟩,⟨⟨d,e⟩,⟨g,i⟩⟩,⟨w,x,k,l,m,o⟩⟩=>bnd (cy n (Given.mk (Env.mk q v) (State.mk (Graph.mk d e) (fZ.mk g i)) (Val.mk w x k l m o)) (qE.mk 4 j ([]:List qf) (qf.mk 0 ([]:SS) (Val.mk 0 false 0 ([]:SS) ([]:List Val) ([]:List SS)) ([]:List SS) ([]:List qf)) ([]:SS) ([]:List gO) false ([]:List xf) ([]:List qf) ([]:List qf) ([]:List qD) ([]:List SS) false)) fun z=>bif !z then bnd (bC n) fun A=>some A else bnd (gV n j (Env.mk q v) (State.mk (Graph.mk d e) (fZ.mk g i)) (Val.mk w x k l m o)) fun⟨⟨p,_⟩,⟨⟨a,f⟩,⟨b,c⟩⟩,B⟩=>bif B != 0 then bnd (qz (bif bif ((qv p).length:Int)==0 then ((Node.rows a).length:Int)==0 else false then bif b==0 then bif c==0 then true else false else false else false) (bC n)) fun C=>some (bif bif bif ((qv p).length:Int)==0 then ((Node.rows a).length:Int)==0 else false then bif b==0 then bif c==0 then true else false else false else false then C else false) else bnd (dd n (State.mk (Graph.mk a f) (fZ.mk b c))) fun D=>bif bif bif D != 0 then true else b<g then true else c<i then some false else bif bif kwr .i64 (((Node.rows a).length:Int) - ((Node.rows d).length:Int)) != kwr .i64 (b - g) then true else kwr .i64 (((Edge.rows f).length:Int) - ((Edge.rows e).length:Int)) != kwr .i64 (c - i) then some false else bnd (pY ((Node.rows d).length:Int)) fun s=>chk (s<=(Node.rows a).length) (bnd (pY ((Edge.rows e).length:Int)) fun t=>chk (t<=(Edge.rows f).length) (bnd (rE n (Graph.mk (a.take s) (f.take t)) (Graph.mk d e)) fun u=>bnd (qz u (bC n)) fun E=>some (bif u then E else false)))
theorem rQ (n:Nat):∀(b:List zL) (a:Given) (r:Bool),gC n b a=some r->qh TP 4 [PV.sl (zL.rows b),PV.agg (Vd.cells a)] (RA0 r):=by
 intro b a r h;obtain⟨⟨_,_⟩,⟨⟨_,_⟩,⟨_,_⟩⟩,⟨_,_,_,_,_,_⟩⟩:=a;unfold gC at h;exact zN Tryz.call4 Tryz.func4 [1000000] au
instance (n:Nat) (b:List zL) (a:Given):CC TP (gC n b a) 4 [PV.sl (zL.rows b),PV.agg (Vd.cells a)] RA0:=⟨rQ n b a⟩
end W
end
