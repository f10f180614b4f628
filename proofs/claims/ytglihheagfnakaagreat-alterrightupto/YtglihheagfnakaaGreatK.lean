/- A part of the proof: contracts, printed by program. -/
import Derived.Test.YtglihheagfnakaaGreatB
import Derived.Test.YtglihheagfnakaaGreatC
import Derived.Test.YtglihheagfnakaaGreatF
import Derived.Test.YtglihheagfnakaaGreatI
import Derived.Test.YtglihheagfnakaaGreatJ
set_option linter.unusedVariables false
set_option linter.unusedSimpArgs false
set_option linter.unnecessarySimpa false
set_option linter.deprecated false
set_option linter.unusedSectionVars false
set_option linter.constructorNameAsVariable false
open Go.IntKind renaming wrap->kwr,bits->kbt
section
set_option maxRecDepth 100000
set_option maxHeartbeats 20000000
open Go Go.Proofs Ax
attribute [local irreducible] zh rI uh
namespace W
instance (n:Nat) (ks:List SS) (vs:List Val) (k:SS) (v:Val):CC TP (bT n ks vs k v) 155 [PV.sl (qv ks),PV.sl (Val.rows vs),PV.str k,PV.agg (zx.cells v)] (fun r=>PV.tup [PV.sl (qv r.1),PV.sl (Val.rows r.2)]):=⟨FX n ks vs k v⟩
abbrev XP (_:List Node) (_:List Edge) (_ _:Int) (_:List SS) (_:List Val) (_:Int) (_:Bool) (_:Int) (_:SS) (_:List Val) (_:List SS) (r:Made×Int):FV:=.p (.tup [(PV.agg (pX.cells r.1)),.int .i64 r.2])
abbrev XN (i:List Node) (j:List Edge) (k l:Int) (a:List SS) (b:List Val) (m:Int) (c:Bool) (d:Int) (e:SS) (f:List Val) (g:List SS) (r:Made×Int):List AObj:=[.box 79 [.p (.sl (Node.rows i)),.p (.sl (Edge.rows j)),pI k,pI l,.tsl 1 (qv a),.tsl 2 (Val.rows b),pI m,pB c,pI d,pS e,pV f,pT g],.tail 9 1 (qv a).length,.tail 35 6 (Val.rows b).length]
def ua (n:Nat) (d:List SS) (a:Int) (e:List SS) (f:List Val) (g:Int) (i:Bool) (j:Int) (k:SS) (l:List Val) (m:List SS) (c:Int×List SS×List Val->Option (Made×Int)):Int->Option (Made×Int):=fun b=>bif b != 0 then some (Made.mk ([]:List SS) ([]:List Val),b) else bnd (idx d a) fun o=>bnd (bT n e f o (Val.mk g i j k l m)) fun⟨p,q⟩=>c (kwr .i64 (a+1),p,q)
def cG (n:Nat) (o:List qf) (I:List SS) (J:List Val) (F:List Node) (H:List Edge) (K:Int) (p:Bool) (q:Int) (s:SS) (t:List Val) (u m:List SS):LK (Int×List SS×List Val) (Made×Int):=fun l (a,b,c)=>bif a<((qf.rows o).length:Int) then bnd (idx o a) fun⟨v,w,⟨x,y,z,A,B,C⟩,D,E⟩=>bnd (np n (qf.mk v w (Val.mk x y z A B C) D E) (Env.mk I J) (Graph.mk F H) (Val.mk K p q s t u)) fun⟨⟨d,e,f,g,i,j⟩,k⟩=>bnd (qz (k==0) (zB n (Val.mk d e f g i j))) fun G=>bif bif k==0 then !G else false then ua n m a b c d e f g i j l 3 else ua n m a b c d e f g i j l k else some (Made.mk b c,0)
def uq (n:Nat) (a:List SS) (g:List qf) (i:List Node) (j:List Edge) (_ _:Int) (k:List SS) (l:List Val) (m:Int) (b:Bool) (c:Int) (d:SS) (e:List Val) (f:List SS):Option (Made×Int):= qy (cG n g k l i j m b c d e f a) n (0,([]:List _),([]:List _))
instance (n s l m j k o a b c d e q):LL (cG n s l m j k o a b c d e q) [0,1,13,14] (fun(f,g,i)=>[(15,pI f),(6,.ptr 1 0),(8,.ptr 2 0)]) [0,3,4,1,2] (fun(f,g,i)=>[(0,.box 79 [.p (.sl (Node.rows j)),.p (.sl (Edge.rows k)),kc,kc,.tsl 3 (qv l),.tsl 4 (Val.rows m),pI o,pB a,pI b,pS c,pV d,pT e]),(2,.box 146 [pT g,pV i])]):=⟨⟩
instance (n c d e f g i j k l m b):LJ (ua n c d e f g i j k l m b) [0,1,6,8,9,13,14,15] (fun a=>[(12,pI a),(11,.ptr 3 0)]) [0,1,2,6,3,4] (fun a=>[(0,.box 79 [kc,kc,kc,kc,.p (.bfn 4 [.nilp]),.p (.bfn 5 [.nilp]),kc,kc,kc,kc,kc,kc])]):=⟨⟩
instance (n o q i j k l a b m c d e f g):CO TP (uq n o q i j k l a b m c d e f g) 107 [.ptr 0 0,.p (PV.sl (qv o)),.p (PV.sl (qf.rows q))] [.box 79 [.p (.sl (Node.rows i)),.p (.sl (Edge.rows j)),pI k,pI l,.tsl 1 (qv a),.tsl 2 (Val.rows b),pI m,pB c,pI d,pS e,pV f,pT g],.tail 9 1 (qv a).length,.tail 35 6 (Val.rows b).length] 1 (XP i j k l a b m c d e f g) (XN i j k l a b m c d e f g):=⟨fun r h=>by
 unfold uq at h;exact zO Tryz.call107 Tryz.func107 [40000005,1000000] au⟩
abbrev VX (_:List Node) (_:List Edge) (_ _:Int) (_:List SS) (_:List Val) (_:Int) (_:Bool) (_:Int) (_:SS) (_:List Val) (_:List SS) (r:(List (List Made))×Int):FV:=.p (.tup [.sl (pj pX r.1),.int .i64 r.2])
abbrev VV (g:List Node) (i:List Edge) (j k:Int) (a:List SS) (b:List Val) (l:Int) (m:Bool) (c:Int) (d:SS) (e:List Val) (f:List SS) (r:(List (List Made))×Int):List AObj:=[.box 79 [.p (.sl (Node.rows g)),.p (.sl (Edge.rows i)),pI j,pI k,.tsl 1 (qv a),.tsl 2 (Val.rows b),pI l,pB m,pI c,pS d,pV e,pT f],.tail 9 1 (qv a).length,.tail 35 6 (Val.rows b).length]
def gl (n:Nat) (m:List SS) (o:List qf) (l:List Node) (p:List Edge) (q s:Int) (t:List SS) (u:List Val) (v:Int) (w:Bool) (f:Int) (g:SS) (i:List Val) (j:List SS) (e:List Made×Int->Option ((List (List Made))×Int)) (k:Int):List Made->Option ((List (List Made))×Int):=fun a=>bnd (uq n m o l p q s t u v w f g i j) fun⟨⟨b,c⟩,d⟩=>bif d != 0 then some (([]:List (List Made)),d) else chk ((Made.rows (a++[Made.mk b c])).length * 48<=140737488355328) (e (a++[Made.mk b c],kwr .i64 (k+1)))
def bE (n:Nat) (t:List ql) (u:List qp) (g:List Node) (i:List Edge) (j k:Int) (l:List SS) (m:List Val) (o:Int) (p:Bool) (c:Int) (d:SS) (e:List Val) (f:List SS) (s:List (List Made)) (A:List (List Made)×Int->Option ((List (List Made))×Int)) (B:Int):LK (List Made×Int) ((List (List Made))×Int):=fun q (b,a)=>bif a<((ql.rows t).length:Int) then bnd (idx t a) fun⟨_,_,v,w⟩=>bif a>0 then bnd (idx u (kwr .i64 (a - 1))) fun⟨_,_,_,C,_⟩=>bnd (idx u (kwr .i64 (a - 1))) fun⟨_,_,_,_,D⟩=>bnd (uq n C D g i j k l m o p c d e f) fun⟨⟨x,y⟩,z⟩=>bif z != 0 then some (([]:List (List Made)),z) else chk ((Made.rows (b++[Made.mk x y])).length * 48<=140737488355328) (gl n v w g i j k l m o p c d e f q a (b++[Made.mk x y])) else gl n v w g i j k l m o p c d e f q a b else chk ((pj pX (s++[b])).length * 24<=140737488355328) (A (s++[b],kwr .i64 (B+1)))
def bD (n:Nat) (b:List zL) (l:List Node) (m:List Edge) (o p:Int) (q:List SS) (s:List Val) (t:Int) (u:Bool) (e:Int) (f:SS) (g:List Val) (i:List SS):LK (List (List Made)×Int) ((List (List Made))×Int):=fun d (c,a)=>bif a<((zL.rows b).length:Int) then bnd (idx b a) fun⟨j,k⟩=>qy (bE n j k l m o p q s t u e f g i c d a) n (([]:List _),0) else some (c,0)
def fV (n:Nat) (a:List zL) (f:List Node) (g:List Edge) (i j:Int) (k:List SS) (l:List Val) (m:Int) (o:Bool) (b:Int) (c:SS) (d:List Val) (e:List SS):Option ((List (List Made))×Int):= qy (bD n a f g i j k l m o b c d e) n (([]:List _),0)
instance (n c i j k l m o p q d e f g):LL (bD n c i j k l m o p q d e f g) [0,16,17] (fun(a,b)=>[(6,.tsl 3 (pj pX a)),(18,pI b)]) [0,1,2,0] (fun(a,b)=>[(3,.tail 147 1 (pj pX a).length)]):=⟨⟩
instance (n v w i j k l m o q s b c d e f t u):LL (bE n v w i j k l m o q s b c d e f t u) [0,16,17,18,23,24] (fun(a,g)=>[(9,.tsl 5 (Made.rows a)),(25,pI g),(6,.tsl 1 (pj pX f)),(8,.ptr 2 0)]) [0,3,4,1,2,0] (fun(a,g)=>[(0,.box 79 [.p (.sl (Node.rows i)),.p (.sl (Edge.rows j)),pI k,pI l,.tsl 3 (qv m),.tsl 4 (Val.rows o),pI q,pB s,pI b,pS c,pV d,pT e]),(5,.tail 146 2 (Made.rows a).length)]):=⟨⟩
instance (n t u f g i j k l m o b c d e q s):LJ (gl n t u f g i j k l m o b c d e q s) [0,6,8,16,17,18,23,24,25] (fun a=>[(9,.tsl 3 (Made.rows a)),(11,.ptr 4 0)]) [0,1,2,10,6,7,8] (fun a=>[(0,.box 79 [.p (.sl (Node.rows f)),.p (.sl (Edge.rows g)),pI i,pI j,.tsl 5 (qv k),.tsl 6 (Val.rows l),pI m,pB o,pI b,pS c,pV d,pT e]),(3,.tail 146 2 (Made.rows a).length)]):=⟨⟩
instance (n o g i j k a b l m c d e f):CO TP (fV n o g i j k a b l m c d e f) 63 [.ptr 0 0,.p (PV.sl (zL.rows o))] [.box 79 [.p (.sl (Node.rows g)),.p (.sl (Edge.rows i)),pI j,pI k,.tsl 1 (qv a),.tsl 2 (Val.rows b),pI l,pB m,pI c,pS d,pV e,pT f],.tail 9 1 (qv a).length,.tail 35 6 (Val.rows b).length] 1 (VX g i j k a b l m c d e f) (VV g i j k a b l m c d e f):=⟨fun r h=>by
 unfold fV at h;exact zO Tryz.call63 Tryz.func63 [107,40000010,90000010,1000000] au⟩
abbrev XO (_:List Node) (_:List Edge) (_ _:Int) (_:List SS) (_:List Val) (_:Int) (_:Bool) (_:Int) (_:SS) (_:List Val) (_:List SS) (r:Val×Bool):FV:=.p (.tup [(PV.agg (zx.cells r.1)),.bool r.2])
abbrev XM (g:List Node) (i:List Edge) (j k:Int) (a:List SS) (b:List Val) (l:Int) (m:Bool) (c:Int) (d:SS) (e:List Val) (f:List SS) (r:Val×Bool):List AObj:=[.box 79 [.p (.sl (Node.rows g)),.p (.sl (Edge.rows i)),pI j,pI k,.tsl 1 (qv a),.tsl 2 (Val.rows b),pI l,pB m,pI c,pS d,pV e,pT f],.tail 9 1 (qv a).length,.tail 35 6 (Val.rows b).length]
def vt (n:Nat) (b:SS) (_:List Node) (_:List Edge) (_ _:Int) (k:List SS) (c:List Val) (_:Int) (_:Bool) (_:Int) (_:SS) (_:List Val) (_:List SS):Option (Val×Bool):= bnd (zg n k b) fun a=>bif bif bif b==([]:SS) then true else a<0 then true else a≥((Val.rows c).length:Int) then some (Val.mk 0 false 0 ([]:SS) ([]:List Val) ([]:List SS),false) else bnd (idx c a) fun⟨d,e,f,g,i,j⟩=>some (Val.mk d e f g i j,true)
instance (n o g i j k a b l m c d e f):CO TP (vt n o g i j k a b l m c d e f) 25 [.ptr 0 0,.p (PV.str o)] [.box 79 [.p (.sl (Node.rows g)),.p (.sl (Edge.rows i)),pI j,pI k,.tsl 1 (qv a),.tsl 2 (Val.rows b),pI l,pB m,pI c,pS d,pV e,pT f],.tail 9 1 (qv a).length,.tail 35 6 (Val.rows b).length] 1 (XO g i j k a b l m c d e f) (XM g i j k a b l m c d e f):=⟨fun r h=>by
 unfold vt at h;exact zO Tryz.call25 Tryz.func25 [1000000] au⟩
def cL (n:Nat) (a:SS):Option (Bool):= some (bif !(a==([]:SS)) then (a.length:Int)<=64 else false)
instance (n a):CC TP (cL n a) 116 [PV.str a] RA0:=⟨fun r h=>by
 unfold cL at h;exact zN Tryz.call116 Tryz.func116 [1000000] au⟩
def ny (n:Nat) (b:List SS):LK (Int) (Bool):=fun e a=>bif a<((qv b).length:Int) then bnd (idx b a) fun c=>bnd (cL n c) fun d=>bnd (qz ((!(!d))&&(a>0)) (idx b (kwr .i64 (a - 1)))) fun f=>bif bif !d then true else bif a>0 then !(Op.bytesLess f c) else false then some false else e (kwr .i64 (a+1)) else some true
def uR (n:Nat) (a:List SS):Option (Bool):= qy (ny n a) n 0
instance (n a):LL (ny n a) [0,5,6] (fun b=>[(7,pI b)]):=⟨⟩
instance (n a):CC TP (uR n a) 114 [PV.sl (qv a)] RA0:=⟨fun r h=>by
 unfold uR at h;exact zN Tryz.call114 Tryz.func114 [1000000] au⟩
def fX (n:Nat) (i:Val):Option (Bool):= match i with | ⟨a,b,c,d,e,f⟩=>bnd (qz (a != 0) (xW n (Val.mk a b c d e f))) fun g=>bnd (qz (bif a != 0 then g==0 else false) (zB n (Val.mk a b c d e f))) fun j=>some (bif bif a != 0 then g==0 else false then j else false)
instance (n a):CC TP (fX n a) 162 [PV.agg (zx.cells a)] RA0:=⟨fun r h=>by
 obtain⟨_,_,_,_,_,_⟩:=a;unfold fX at h;exact zN Tryz.call162 Tryz.func162 [1000000] au⟩
def fY (n:Nat) (a:Val):Option (Bool):= match a with | ⟨b,c,d,e,f,g⟩=>bnd (fX n (Val.mk b c d e f g)) fun i=>some (!i)
instance (n a):CC TP (fY n a) 161 [PV.agg (zx.cells a)] RA0:=⟨fun r h=>by
 obtain⟨_,_,_,_,_,_⟩:=a;unfold fY at h;exact zN Tryz.call161 Tryz.func161 [1000000] au⟩
def zz (n:Nat) (b:List Val):LK (Int) (Int):=fun c a=>bif a<((Val.rows b).length:Int) then bnd (idx b a) fun⟨d,e,f,g,i,j⟩=>bnd (fY n (Val.mk d e f g i j)) fun k=>bif k then some a else c (kwr .i64 (a+1)) else some (-1)
def qN (n:Nat) (a:List Val):Option (Int):= qy (zz n a) n 0
instance (n a):LL (zz n a) [0,1,7] (fun b=>[(8,pI b)]):=⟨⟩
instance (n a):CC TP (qN n a) 196 [PV.sl (Val.rows a),PV.fn 161] RA2:=⟨fun r h=>by
 unfold qN at h;exact zN Tryz.call196 Tryz.func196 [1000000] au⟩
def qJ (n:Nat) (a:List Val):Option (Bool):= bnd (qN n a) fun b=>some (b≥0)
instance (n a):CC TP (qJ n a) 160 [PV.sl (Val.rows a),PV.fn 161] RA0:=⟨fun r h=>by
 unfold qJ at h;exact zN Tryz.call160 Tryz.func160 [1000000] au⟩
def dh (n:Nat) (a:List SS) (b:List Val):Option (Bool):= bnd (qz (((qv a).length:Int)==((Val.rows b).length:Int)) (uR n a)) fun c=>bnd (qz (bif ((qv a).length:Int)==((Val.rows b).length:Int) then c else false) (qJ n b)) fun d=>some (bif bif ((qv a).length:Int)==((Val.rows b).length:Int) then c else false then !d else false)
instance (n a b):CC TP (dh n a b) 115 [PV.sl (qv a),PV.sl (Val.rows b)] RA0:=⟨fun r h=>by
 unfold dh at h;exact zN Tryz.call115 Tryz.func115 [1000000] au⟩
def fr (n:Nat) (c:Node):Option (Bool):= match c with | ⟨a,d,e,f⟩=>bnd (qz (a≥1) (uR n d)) fun b=>bnd (qz (bif a≥1 then b else false) (dh n e f)) fun g=>some (bif bif a≥1 then b else false then g else false)
instance (n a):CC TP (fr n a) 66 [PV.agg (me.cells a)] RA0:=⟨fun r h=>by
 cases a;unfold fr at h;exact zN Tryz.call66 Tryz.func66 [1000000] au⟩
def uM (n:Nat) (a:List Node) (g:Nat) (c:Int) (d e:List SS) (f:List Val):Int->Option (List Node):=fun i=>bnd (pY i) fun b=>chk (b<=(Node.rows a).length) (chk ((Node.rows ((a.take g++[Node.mk c d e f])++a.drop b)).length * 80<=140737488355328) (some ((a.take g++[Node.mk c d e f])++a.drop b)))
def uH (n:Nat) (b:List Node) (c:Int) (j:Bool) (i:Node):Option (List Node):= match i with | ⟨d,e,f,g⟩=>bnd (pY c) fun a=>bnd (pY c) fun k=>chk (a=k/\a<=(Node.rows b).length) (chk ((Node.rows (b.take a++[Node.mk d e f g])).length * 80<=140737488355328) (bif j then uM n b a d e f g (kwr .i64 (c+1)) else uM n b a d e f g c))
instance (n a f b c d e):LJ (uM n a f b c d e) [0] (fun g=>[(1,pI g),(9,.tsl 0 (Node.rows ((a.take f)++[Node.mk b c d e])))]) [1]:=⟨⟩
instance (n b c d a):CC TP (uH n b c d a) 158 [PV.sl (Node.rows b),PV.int .i64 c,PV.bool d,PV.agg (me.cells a)] qgz:=⟨fun r h=>by
 cases a;unfold uH at h;exact zN Tryz.call158 Tryz.func158 [1000000] au⟩
def nw (n:Nat) (g:Graph) (i:Node):Option (Graph×Int):= match g,i with | ⟨a,m⟩,⟨b,c,d,e⟩=>bnd (fr n (Node.mk b c d e)) fun o=>bif !o then some (Graph.mk ([]:List Node) ([]:List Edge),20) else bnd (qx n a b) fun⟨p,f⟩=>bif bif !f then ((Node.rows a).length:Int)≥4096 else false then some (Graph.mk ([]:List Node) ([]:List Edge),8) else bnd (uH n a p f (Node.mk b c d e)) fun j=>bnd (uc n (Graph.mk j m)) fun⟨k,l⟩=>some (Graph.mk k l,0)
theorem Va (n:Nat):∀(a:Graph) (b:Node) (r:Graph×Int),nw n a b=some r->qh TP 110 [PV.agg (uI.cells a),PV.agg (me.cells b)] (qag r):=by
 intro a b r h;obtain⟨_,_⟩:=a;obtain⟨_,_,_,_⟩:=b;unfold nw at h;exact zN Tryz.call110 Tryz.func110 [1000000] au
instance (n:Nat) (a:Graph) (b:Node):CC TP (nw n a b) 110 [PV.agg (uI.cells a),PV.agg (me.cells b)] qag:=⟨Va n a b⟩
end W
end
