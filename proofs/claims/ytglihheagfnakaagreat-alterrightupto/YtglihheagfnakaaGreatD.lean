/- A part of the proof: contracts, printed by program. -/
import Derived.Test.YtglihheagfnakaaGreatB
import Derived.Test.YtglihheagfnakaaGreatC
set_option linter.unusedVariables false
set_option linter.unusedSimpArgs false
set_option linter.unnecessarySimpa false
set_option linter.deprecated false
set_option linter.unusedSectionVars false
set_option linter.constructorNameAsVariable false
open Go.IntKind renaming wrap->kwr,bits->kbt
section
set_option maxRecDepth 100000
set_option maxHeartbeats 20000000
open Go Go.Proofs Ax
attribute [local irreducible] zh rI uh
namespace W
def vZ (n:Nat) (a:SS):Option (Bool):= some (bif (a.length:Int)≥1 then (a.length:Int)<=64 else false)
instance (n a):CC TP (vZ n a) 120 [PV.str a] RA0:=⟨fun r h=>by
 unfold vZ at h;exact zN Tryz.call120 Tryz.func120 [1000000] au⟩
def mv (n:Nat) (b:List SS):LK (Int) (Bool):=fun f a=>bif a<((qv b).length:Int) then bnd (idx b a) fun g=>bnd (vZ n g) fun c=>bnd (qz ((!(!c))&&(a>0)) (idx b a)) fun d=>bnd (qz ((!(!c))&&(a>0)) (idx b (kwr .i64 (a - 1)))) fun e=>bif bif !c then true else bif a>0 then Op.bytesLess d e||d==e else false then some false else f (kwr .i64 (a+1)) else some true
def uP (n:Nat) (a:List SS):Option (Bool):= qy (mv n a) n 0
instance (n a):LL (mv n a) [0] (fun b=>[(3,pI b)]):=⟨⟩
instance (n a):CC TP (uP n a) 118 [PV.sl (qv a)] RA0:=⟨fun r h=>by
 unfold uP at h;exact zN Tryz.call118 Tryz.func118 [1000000] au⟩
def nR (n:Nat) (b:Val):Option (Bool):= match b with | ⟨a,c,d,e,f,g⟩=>bif bif a != 1 then c else false then some false else bif bif bif bif a != 2 then a != 6 else false then a != 7 else false then d != 0 else false then some false else bif bif a != 3 then !(e==([]:SS)) else false then some false else bif bif bif a != 4 then a != 5 else false then ((Val.rows f).length:Int)>0 else false then some false else some (bif a==5 then true else ((qv g).length:Int)==0)
instance (n a):CC TP (nR n a) 121 [PV.agg (zx.cells a)] RA0:=⟨fun r h=>by
 obtain⟨_,_,_,_,_,_⟩:=a;unfold nR at h;exact zN Tryz.call121 Tryz.func121 [1000000] au⟩
abbrev qct:Type:=Val->Int->Int->Option (Int×Bool)
def bN (n:Nat) (d:List Val) (g74:qct) (o:Int):LK (Int×Int) (Int×Bool):=fun e (b,a)=>bif a<((Val.rows d).length:Int) then bnd (idx d a) fun⟨f,g,i,j,k,l⟩=>bnd (g74 (Val.mk f g i j k l) (kwr .i64 (o - 1)) b) fun⟨c,m⟩=>bif !m then some (c,false) else e (c,kwr .i64 (a+1)) else some (b,true)
def bM (n:Nat) (a:List Val) (g74:qct) (b c:Int):Unit->Option (Int×Bool):=fun _=>qy (bN n a g74 b) n (kwr .i64 (c+1),0)
def bO (n:Nat) (b:List SS) (g:Int) (j:List Val) (g74:qct) (k:Int):LK (Int) (Int×Bool):=fun i a=>bif a<((qv b).length:Int) then bnd (idx b a) fun c=>bnd (qz (!((c.length:Int)<1)) (idx b a)) fun d=>bnd (qz ((!(bif (c.length:Int)<1 then true else (d.length:Int)>64))&&(a>0)) (idx b a)) fun e=>bnd (qz ((!(bif (c.length:Int)<1 then true else (d.length:Int)>64))&&(a>0)) (idx b (kwr .i64 (a - 1)))) fun f=>bif bif bif (c.length:Int)<1 then true else (d.length:Int)>64 then true else bif a>0 then Op.bytesLess e f||e==f else false then some (kwr .i64 (g+1),false) else i (kwr .i64 (a+1)) else bM n j g74 k g ()
def Xm (n:Nat) (g74:qct) (g:Val) (d b:Int):Option (Int×Bool):= match g with | ⟨a,i,f,j,c,e⟩=>bnd (qz (!(bif bif bif kwr .i64 (b+1)>4096 then true else d<1 then true else a<0 then true else a>7)) (nR n (Val.mk a i f j c e))) fun k=>bif bif bif bif bif kwr .i64 (b+1)>4096 then true else d<1 then true else a<0 then true else a>7 then true else !k then some (kwr .i64 (b+1),false) else bif bif bif a==6 then true else a==7 then f<1 else false then some (kwr .i64 (b+1),false) else bif a==5 then bif ((qv e).length:Int) != ((Val.rows c).length:Int) then some (kwr .i64 (b+1),false) else qy (bO n e b c g74 d) n 0 else bM n c g74 d b ()
instance (n a g74 b c):LJ (bM n a g74 b c) [1,2,3] (fun _=>[]) [0]:=⟨⟩
instance (n c g74 d):LL (bN n c g74 d) [1,3] (fun(a,b)=>[(2,pI a),(9,pI b)]) [0]:=⟨⟩
instance (n c e b g74 d):LL (bO n c e b g74 d) [1,2,3] (fun a=>[(8,pI a)]) [0]:=⟨⟩
theorem DD (n:Nat) (g74:qct) (g74_ok:∀(a:Val) (b c:Int) (r:Int×Bool),g74 a b c=some r->qh TP 74 [PV.agg (zx.cells a),PV.int .i64 b,PV.int .i64 c] (RA1 r)):∀(a:Val) (b c:Int) (r:Int×Bool),Xm n g74 a b c=some r->qh TP 74 [PV.agg (zx.cells a),PV.int .i64 b,PV.int .i64 c] (RA1 r):=by
 have:=fun a b c=>CC.mk (g74_ok a b c);intro a b c r h;obtain⟨_,_,_,_,_,_⟩:=a;unfold Xm at h;exact zN Tryz.call74 Tryz.func74 [1000000] au
def fS:Nat->Val->Int->Int->Option (Int×Bool)
 | 0=>fun _ _ _=>none
 | n+1=>Xm n (fS n)

theorem DF (n:Nat):(∀(a:Val) (b c:Int) (r:Int×Bool),fS n a b c=some r->qh TP 74 [PV.agg (zx.cells a),PV.int .i64 b,PV.int .i64 c] (RA1 r)):=by
 induction n with
 | zero=>exact(by intros; rename_i h; cases h)
 | succ n ih=>
  have hg74:=ih;exact DD n (fS n) hg74
theorem EI (n:Nat):∀(a:Val) (b c:Int) (r:Int×Bool),fS n a b c=some r->qh TP 74 [PV.agg (zx.cells a),PV.int .i64 b,PV.int .i64 c] (RA1 r):=(DF n)
instance (n:Nat) (a:Val) (b:Int) (c:Int):CC TP (fS n a b c) 74 [PV.agg (zx.cells a),PV.int .i64 b,PV.int .i64 c] RA1:=⟨EI n a b c⟩
def fR (n:Nat) (a:Val):Option (Bool):= match a with | ⟨b,c,d,e,f,g⟩=>bnd (fS n (Val.mk b c d e f g) 32 0) fun⟨_,i⟩=>some i
instance (n a):CC TP (fR n a) 38 [PV.agg (zx.cells a)] RA0:=⟨fun r h=>by
 obtain⟨_,_,_,_,_,_⟩:=a;unfold fR at h;exact zN Tryz.call38 Tryz.func38 [1000000] au⟩
def nG (n:Nat) (b:List Val) (g39:Val->Option (Bool)):LK (Int) (Bool):=fun c a=>bif a<((Val.rows b).length:Int) then bnd (idx b a) fun⟨j,k,d,e,f,g⟩=>bnd (g39 (Val.mk j k d e f g)) fun i=>bif !i then some false else c (kwr .i64 (a+1)) else some true
def cx (n:Nat) (g39:Val->Option (Bool)) (b:Val):Option (Bool):= match b with | ⟨a,_,_,_,c,_⟩=>bif bif a==6 then true else a==7 then some false else qy (nG n c g39) n 0
instance (n a g39):LL (nG n a g39) [1] (fun b=>[(3,pI b)]) [0]:=⟨⟩
theorem FA (n:Nat) (g39:Val->Option (Bool)) (g39_ok:∀(a:Val) (r:Bool),g39 a=some r->qh TP 39 [PV.agg (zx.cells a)] (RA0 r)):∀(a:Val) (r:Bool),cx n g39 a=some r->qh TP 39 [PV.agg (zx.cells a)] (RA0 r):=by
 have:=fun a=>CC.mk (g39_ok a);intro a r h;obtain⟨_,_,_,_,_,_⟩:=a;unfold cx at h;exact zN Tryz.call39 Tryz.func39 [1000000] au
def vM:Nat->Val->Option (Bool)
 | 0=>fun _=>none
 | n+1=>cx n (vM n)

theorem FM (n:Nat):(∀(a:Val) (r:Bool),vM n a=some r->qh TP 39 [PV.agg (zx.cells a)] (RA0 r)):=by
 induction n with
 | zero=>exact(by intros; rename_i h; cases h)
 | succ n ih=>
  have hg39:=ih;exact FA n (vM n) hg39
theorem Be (n:Nat):∀(a:Val) (r:Bool),vM n a=some r->qh TP 39 [PV.agg (zx.cells a)] (RA0 r):=(FM n)
instance (n:Nat) (a:Val):CC TP (vM n a) 39 [PV.agg (zx.cells a)] RA0:=⟨Be n a⟩
def gU (n:Nat) (i:Val):Option (Bool):= match i with | ⟨a,b,c,d,e,f⟩=>bnd (qz (a != 0) (fR n (Val.mk a b c d e f))) fun g=>bnd (qz (bif a != 0 then g else false) (vM n (Val.mk a b c d e f))) fun j=>some (bif bif a != 0 then g else false then j else false)
instance (n a):CC TP (gU n a) 163 [PV.agg (zx.cells a)] RA0:=⟨fun r h=>by
 obtain⟨_,_,_,_,_,_⟩:=a;unfold gU at h;exact zN Tryz.call163 Tryz.func163 [1000000] au⟩
def nJ (n:Nat) (a:List Val) (b:List SS):LK (Int) (Bool):=fun d c=>bif c<((Val.rows a).length:Int) then bnd (idx a c) fun⟨g,i,j,k,l,m⟩=>bnd (gU n (Val.mk g i j k l m)) fun e=>bif !e then some false else d (kwr .i64 (c+1)) else bnd (qz (((qv b).length:Int)==((Val.rows a).length:Int)) (uP n b)) fun f=>some (bif ((qv b).length:Int)==((Val.rows a).length:Int) then f else false)
def cE (n:Nat) (a:List SS) (b:List Val):Option (Bool):= qy (nJ n b a) n 0
instance (n b a):LL (nJ n b a) [0,1] (fun c=>[(5,pI c)]):=⟨⟩
instance (n a b):CC TP (cE n a b) 119 [PV.sl (qv a),PV.sl (Val.rows b)] RA0:=⟨fun r h=>by
 unfold cE at h;exact zN Tryz.call119 Tryz.func119 [1000000] au⟩
def fL (n:Nat) (c:Node):Option (Bool):= match c with | ⟨a,d,e,f⟩=>bnd (qz (a≥1) (uP n d)) fun b=>bnd (qz (bif a≥1 then b else false) (cE n e f)) fun g=>some (bif bif a≥1 then b else false then g else false)
instance (n a):CC TP (fL n a) 72 [PV.agg (me.cells a)] RA0:=⟨fun r h=>by
 cases a;unfold fL at h;exact zN Tryz.call72 Tryz.func72 [1000000] au⟩
def fK (n:Nat) (c:Edge):Option (Bool):= match c with | ⟨a,_,_,d,e,f⟩=>bnd (qz (a≥1) (vZ n d)) fun b=>bnd (qz (bif a≥1 then b else false) (cE n e f)) fun g=>some (bif bif a≥1 then b else false then g else false)
instance (n a):CC TP (fK n a) 73 [PV.agg (mc.cells a)] RA0:=⟨fun r h=>by
 cases a;unfold fK at h;exact zN Tryz.call73 Tryz.func73 [1000000] au⟩
def sg (n:Nat) (b:List Node) (d:Int):LK (Int) (Int):=fun c a=>bif a<((Node.rows b).length:Int) then bnd (idx b a) fun⟨e,_,_,_⟩=>bif e==d then some a else c (kwr .i64 (a+1)) else some (-1)
def cC (n:Nat) (a:Graph) (c:Int):Option (Int):= match a with | ⟨b,_⟩=>qy (sg n b c) n 0
instance (n a b):LL (sg n a b) [1,2] (fun c=>[(5,pI c)]) [0]:=⟨⟩
instance (n a b):CC TP (cC n a b) 30 [PV.agg (uI.cells a),PV.int .i64 b] RA2:=⟨fun r h=>by
 cases a;unfold cC at h;exact zN Tryz.call30 Tryz.func30 [1000000] au⟩
def tt (n:Nat) (b:List Edge) (e:List Node):LK (Int) (Bool):=fun k a=>bif a<((Edge.rows b).length:Int) then bnd (idx b a) fun⟨c,g,i,l,m,o⟩=>bnd (fK n (Edge.mk c g i l m o)) fun d=>bnd (qz ((!(!d))&&(a>0)) (idx b (kwr .i64 (a - 1)))) fun⟨f,_,_,_,_,_⟩=>bnd (qz (!(bif !d then true else bif a>0 then c<=f else false)) (cC n (Graph.mk e b) g)) fun j=>bnd (qz (!(bif bif !d then true else bif a>0 then c<=f else false then true else j<0)) (cC n (Graph.mk e b) i)) fun p=>bif bif bif bif !d then true else bif a>0 then c<=f else false then true else j<0 then true else p<0 then some false else k (kwr .i64 (a+1)) else some (bif ((Node.rows e).length:Int)<=4096 then ((Edge.rows b).length:Int)<=4096 else false)
def tr (n:Nat) (b:List Node) (f:List Edge):LK (Int) (Bool):=fun d a=>bif a<((Node.rows b).length:Int) then bnd (idx b a) fun⟨g,i,j,k⟩=>bnd (fL n (Node.mk g i j k)) fun c=>bnd (qz ((!(!c))&&(a>0)) (idx b a)) fun⟨l,_,_,_⟩=>bnd (qz ((!(!c))&&(a>0)) (idx b (kwr .i64 (a - 1)))) fun⟨e,_,_,_⟩=>bif bif !c then true else bif a>0 then l<=e else false then some false else d (kwr .i64 (a+1)) else qy (tt n f b) n 0
def nT (n:Nat) (a:Graph):Option (Bool):= match a with | ⟨b,c⟩=>qy (tr n b c) n 0
instance (n a b):LL (tr n a b) [1] (fun c=>[(3,pI c)]) [0]:=⟨⟩
instance (n c a):LL (tt n c a) [1] (fun b=>[(4,pI b)]) [0]:=⟨⟩
instance (n a):CC TP (nT n a) 37 [PV.agg (uI.cells a)] RA0:=⟨fun r h=>by
 cases a;unfold nT at h;exact zN Tryz.call37 Tryz.func37 [1000000] au⟩
def ZP (n:Nat) (b:List Edge) (e:Int):LK (Int) (Bool):=fun c a=>bif a<((Edge.rows b).length:Int) then bnd (idx b a) fun⟨d,_,_,_,_,_⟩=>bif d≥e then some false else c (kwr .i64 (a+1)) else some true
def ZO (n:Nat) (b:List Node) (e:Int) (d:List Edge) (f:Int):LK (Int) (Bool):=fun c a=>bif a<((Node.rows b).length:Int) then bnd (idx b a) fun⟨g,_,_,_⟩=>bif g≥e then some false else c (kwr .i64 (a+1)) else qy (ZP n d f) n 0
def ZN (n:Nat) (e:State):Option (Bool):= match e with | ⟨⟨c,d⟩,⟨a,b⟩⟩=>bnd (qz (!(bif bif bif a<1 then true else a>4611686018427387904 then true else b<1 then true else b>4611686018427387904)) (nT n (Graph.mk c d))) fun f=>bif bif bif bif bif a<1 then true else a>4611686018427387904 then true else b<1 then true else b>4611686018427387904 then true else !f then some false else qy (ZO n c a d b) n 0
instance (n a c b d):LL (ZO n a c b d) [1] (fun e=>[(3,pI e)]) [0]:=⟨⟩
instance (n b c):LL (ZP n b c) [1] (fun a=>[(4,pI a)]) [0]:=⟨⟩
instance (n a):CC TP (ZN n a) 15 [PV.agg (tF.cells a)] RA0:=⟨fun r h=>by
 obtain⟨⟨_,_⟩,⟨_,_⟩⟩:=a;unfold ZN at h;exact zN Tryz.call15 Tryz.func15 [1000000] au⟩
def QF (n:Nat) (b:List Edge):LK (Int) (Bool):=fun c a=>bif a<((Edge.rows b).length:Int) then bnd (idx b a) fun⟨_,_,_,_,d,_⟩=>bif ((qv d).length:Int)>1000 then some false else c (kwr .i64 (a+1)) else some true
def QE (n:Nat) (b:List Node) (f:List Edge):LK (Int) (Bool):=fun d a=>bif a<((Node.rows b).length:Int) then bnd (idx b a) fun⟨_,c,_,_⟩=>bnd (qz (!(((qv c).length:Int)>1000)) (idx b a)) fun⟨_,_,e,_⟩=>bif bif ((qv c).length:Int)>1000 then true else ((qv e).length:Int)>1000 then some false else d (kwr .i64 (a+1)) else qy (QF n f) n 0
def Qa (n:Nat) (a:Graph):Option (Bool):= match a with | ⟨b,c⟩=>qy (QE n b c) n 0
instance (n a b):LL (QE n a b) [1] (fun c=>[(3,pI c)]) [0]:=⟨⟩
instance (n b):LL (QF n b) [1] (fun a=>[(4,pI a)]) [0]:=⟨⟩
instance (n a):CC TP (Qa n a) 16 [PV.agg (uI.cells a)] RA0:=⟨fun r h=>by
 cases a;unfold Qa at h;exact zN Tryz.call16 Tryz.func16 [1000000] au⟩
def sh (n:Nat) (a:List Val) (d:List SS):LK (Int) (Bool):=fun c b=>bif b<((Val.rows a).length:Int) then bnd (idx a b) fun⟨f,g,i,j,k,l⟩=>bnd (fR n (Val.mk f g i j k l)) fun e=>bif !e then some false else c (kwr .i64 (b+1)) else some (((qv d).length:Int)==((Val.rows a).length:Int))
def nU (n:Nat) (a:Env):Option (Bool):= match a with | ⟨b,c⟩=>qy (sh n c b) n 0
instance (n b a):LL (sh n b a) [1] (fun c=>[(3,pI c)]) [0]:=⟨⟩
instance (n a):CC TP (nU n a) 17 [PV.agg (Nh.cells a)] RA0:=⟨fun r h=>by
 cases a;unfold nU at h;exact zN Tryz.call17 Tryz.func17 [1000000] au⟩
def cF (n:Nat) (i:Val):Option (Bool):= match i with | ⟨a,b,c,d,e,f⟩=>bnd (qz (a==5) (fR n (Val.mk a b c d e f))) fun g=>bnd (qz (bif a==5 then g else false) (vM n (Val.mk a b c d e f))) fun j=>some (bif bif a==5 then g else false then j else false)
instance (n a):CC TP (cF n a) 18 [PV.agg (zx.cells a)] RA0:=⟨fun r h=>by
 obtain⟨_,_,_,_,_,_⟩:=a;unfold cF at h;exact zN Tryz.call18 Tryz.func18 [1000000] au⟩
end W
end
section
set_option maxRecDepth 100000
set_option maxHeartbeats 20000000
open Go Go.Proofs Ax
attribute [local irreducible] zh rI uh
namespace W
def dA (n:Nat) (b:List Val) (g75:Val->Option (Int)):LK (Int×Int) (Int):=fun d (c,a)=>bif a<((Val.rows b).length:Int) then bnd (idx b a) fun⟨l,e,f,g,i,j⟩=>bnd (g75 (Val.mk l e f g i j)) fun k=>d (kwr .i64 (c+k),kwr .i64 (a+1)) else some c
def tg (n:Nat) (g75:Val->Option (Int)) (a:Val):Option (Int):= match a with | ⟨_,_,_,_,b,_⟩=>qy (dA n b g75) n (1,0)
instance (n a g75):LL (dA n a g75) [1] (fun(b,c)=>[(3,pI b),(4,pI c)]) [0]:=⟨⟩
theorem Fz (n:Nat) (g75:Val->Option (Int)) (g75_ok:∀(a:Val) (r:Int),g75 a=some r->qh TP 75 [PV.agg (zx.cells a)] (RA2 r)):∀(a:Val) (r:Int),tg n g75 a=some r->qh TP 75 [PV.agg (zx.cells a)] (RA2 r):=by
 have:=fun a=>CC.mk (g75_ok a);intro a r h;obtain⟨_,_,_,_,_,_⟩:=a;unfold tg at h;exact zN Tryz.call75 Tryz.func75 [1000000] au
def fH:Nat->Val->Option (Int)
 | 0=>fun _=>none
 | n+1=>tg n (fH n)

theorem FL (n:Nat):(∀(a:Val) (r:Int),fH n a=some r->qh TP 75 [PV.agg (zx.cells a)] (RA2 r)):=by
 induction n with
 | zero=>exact(by intros; rename_i h; cases h)
 | succ n ih=>
  have hg75:=ih;exact Fz n (fH n) hg75
theorem Bd (n:Nat):∀(a:Val) (r:Int),fH n a=some r->qh TP 75 [PV.agg (zx.cells a)] (RA2 r):=(FL n)
instance (n:Nat) (a:Val):CC TP (fH n a) 75 [PV.agg (zx.cells a)] RA2:=⟨Bd n a⟩
def dI (n:Nat) (c:List qf) (d:Int) (g40:qf->Int->Option (Int)):LK (Int×Int) (Int):=fun e (a,b)=>bif bif b<((qf.rows c).length:Int) then a<d else false then bnd (idx c b) fun⟨f,g,⟨i,j,k,l,m,o⟩,p,q⟩=>bnd (g40 (qf.mk f g (Val.mk i j k l m o) p q) (kwr .i64 (d - a))) fun s=>e (kwr .i64 (a+s),kwr .i64 (b+1)) else some a
def th (n:Nat) (g40:qf->Int->Option (Int)) (b:qf) (d:Int):Option (Int):= match b with | ⟨_,f,⟨g,i,j,a,k,l⟩,_,c⟩=>bnd (fH n (Val.mk g i j a k l)) fun e=>qy (dI n c d g40) n (kwr .i64 (kwr .i64 (kwr .i64 (1+kwr .i64 (Int.tdiv (f.length:Int) 16))+kwr .i64 (Int.tdiv (a.length:Int) 16))+e),0)
instance (n a b g40):LL (dI n a b g40) [1,2] (fun(c,d)=>[(5,pI c),(6,pI d)]) [0]:=⟨⟩
theorem FB (n:Nat) (g40:qf->Int->Option (Int)) (g40_ok:∀(a:qf) (b r:Int),g40 a b=some r->qh TP 40 [PV.agg (uj.cells a),PV.int .i64 b] (RA2 r)):∀(a:qf) (b r:Int),th n g40 a b=some r->qh TP 40 [PV.agg (uj.cells a),PV.int .i64 b] (RA2 r):=by
 have:=fun a b=>CC.mk (g40_ok a b);intro a b r h;obtain⟨_,_,⟨_,_,_,_,_,_⟩,_,_⟩:=a;unfold th at h;exact zN Tryz.call40 Tryz.func40 [1000000] au
def vN:Nat->qf->Int->Option (Int)
 | 0=>fun _ _=>none
 | n+1=>th n (vN n)

theorem FO (n:Nat):(∀(a:qf) (b r:Int),vN n a b=some r->qh TP 40 [PV.agg (uj.cells a),PV.int .i64 b] (RA2 r)):=by
 induction n with
 | zero=>exact(by intros; rename_i h; cases h)
 | succ n ih=>
  have hg40:=ih;exact FB n (vN n) hg40
theorem Bi (n:Nat):∀(a:qf) (b r:Int),vN n a b=some r->qh TP 40 [PV.agg (uj.cells a),PV.int .i64 b] (RA2 r):=(FO n)
instance (n:Nat) (a:qf) (b:Int):CC TP (vN n a b) 40 [PV.agg (uj.cells a),PV.int .i64 b] RA2:=⟨Bi n a b⟩
def fl (n:Nat) (c:List qf) (d:Int):LK (Int×Int) (Int):=fun e (a,b)=>bif bif b<((qf.rows c).length:Int) then a<d else false then bnd (idx c b) fun⟨m,o,⟨p,q,s,f,g,i⟩,j,k⟩=>bnd (vN n (qf.mk m o (Val.mk p q s f g i) j k) (kwr .i64 (d - a))) fun l=>e (kwr .i64 (a+l),kwr .i64 (b+1)) else some a
def vY (n:Nat) (a:List qf) (b:Int):Option (Int):= qy (fl n a b) n (0,0)
instance (n a b):LL (fl n a b) [0,1] (fun(c,d)=>[(5,pI c),(6,pI d)]):=⟨⟩
instance (n a b):CC TP (vY n a b) 41 [PV.sl (qf.rows a),PV.int .i64 b] RA2:=⟨fun r h=>by
 unfold vY at h;exact zN Tryz.call41 Tryz.func41 [1000000] au⟩
def cf (n:Nat) (d:List zL) (a:Int) (e:Int×Int->Option (Bool)):LK (Int×Int) (Bool):=fun f (b,c)=>bnd (idx d a) fun⟨_,g⟩=>bif bif c<((qp.rows g).length:Int) then b<3000 else false then bnd (idx d a) fun⟨_,i⟩=>bnd (idx i c) fun⟨_,_,_,_,j⟩=>bnd (vY n j 3000) fun k=>f (kwr .i64 (kwr .i64 (b+1)+k),kwr .i64 (c+1)) else e (b,kwr .i64 (a+1))
def dE (n:Nat) (c:List zL) (a:Int) (e:Int×Int->Option (Bool)):LK (Int×Int) (Bool):=fun f (d,b)=>bnd (idx c a) fun⟨g,_⟩=>bif bif b<((ql.rows g).length:Int) then d<3000 else false then bnd (idx c a) fun⟨i,_⟩=>bnd (idx i b) fun⟨_,j,_,_⟩=>bnd (idx c a) fun⟨k,_⟩=>bnd (idx k b) fun⟨_,_,_,l⟩=>bnd (vY n l 3000) fun m=>f (kwr .i64 (kwr .i64 (kwr .i64 (d+1)+((qv j).length:Int))+m),kwr .i64 (b+1)) else qy (cf n c a e) n (d,0)
def gR (n:Nat) (c:List qD) (d:Int×Int->Option (Bool)) (l:Int):LK (Int×Int) (Bool):=fun e (a,b)=>bif bif b<((qD.rows c).length:Int) then a<3000 else false then bnd (idx c b) fun⟨_,_,_,⟨m,o,⟨p,q,s,t,f,g⟩,i,j⟩⟩=>bnd (vN n (qf.mk m o (Val.mk p q s t f g) i j) 3000) fun k=>e (kwr .i64 (kwr .i64 (a+1)+k),kwr .i64 (b+1)) else d (a,kwr .i64 (l+1))
def gQ (n:Nat) (c:List xf) (f:List qD) (d:Int×Int->Option (Bool)) (g:Int):LK (Int×Int) (Bool):=fun e (a,b)=>bif bif b<((xf.rows c).length:Int) then a<3000 else false then bnd (idx c b) fun⟨⟨i,j,⟨k,l,m,o,p,q⟩,s,t⟩,_⟩=>bnd (vN n (qf.mk i j (Val.mk k l m o p q) s t) 3000) fun u=>e (kwr .i64 (a+u),kwr .i64 (b+1)) else qy (gR n f d g) n (a,0)
def gP (n:Nat) (c:List gO) (f:List xf) (g:List qD) (d:Int×Int->Option (Bool)) (i:Int):LK (Int×Int) (Bool):=fun e (a,b)=>bif bif b<((gO.rows c).length:Int) then a<3000 else false then bnd (idx c b) fun⟨⟨j,k,⟨l,m,o,p,q,s⟩,t,u⟩,_⟩=>bnd (vN n (qf.mk j k (Val.mk l m o p q s) t u) 3000) fun v=>e (kwr .i64 (a+v),kwr .i64 (b+1)) else qy (gQ n f g d i) n (a,0)
def cd (n:Nat) (c:List zL) (f:List gO) (g:List xf) (i:List qD) (d:Int×Int->Option (Bool)) (j:Int):LK (Int×Int) (Bool):=fun e (a,b)=>bif bif b<((zL.rows c).length:Int) then a<3000 else false then qy (dE n c b e) n (a,0) else qy (gP n f g i d j) n (a,0)
def dD (n:Nat) (c:List qE):LK (Int×Int) (Bool):=fun d (a,b)=>bif bif b<((qE.rows c).length:Int) then a<3000 else false then bnd (idx c b) fun⟨_,y,z,⟨A,B,⟨C,e,f,g,i,j⟩,k,l⟩,_,m,_,o,p,q,s,t,_⟩=>bnd (vN n (qf.mk A B (Val.mk C e f g i j) k l) 3000) fun u=>bnd (vY n z 3000) fun v=>bnd (vY n p 3000) fun w=>bnd (vY n q 3000) fun x=>qy (cd n y m o s d b) n (kwr .i64 (kwr .i64 (kwr .i64 (kwr .i64 (kwr .i64 (kwr .i64 (a+1)+u)+v)+w)+x)+((qv t).length:Int)),0) else some (a≥3000)
def ng (n:Nat) (a:ZZ):Option (Bool):= match a with | ⟨b⟩=>qy (dD n b) n (0,0)
instance (n a):LL (dD n a) [1] (fun(b,c)=>[(3,pI b),(4,pI c)]) [0]:=⟨⟩
instance (n i b c d a e):LL (cd n i b c d a e) [1,4,5] (fun(f,g)=>[(3,pI f),(6,pI g)]) [0,1]:=⟨⟩
instance (n e b a):LL (dE n e b a) [1,4,5,6] (fun(c,d)=>[(3,pI c),(7,pI d)]) [0,1]:=⟨⟩
instance (n d b a):LL (cf n d b a) [1,4,5,6] (fun(c,e)=>[(3,pI c),(8,pI e)]) [0,1]:=⟨⟩
instance (n b c d a e):LL (gP n b c d a e) [1,4,5] (fun(f,g)=>[(3,pI f),(9,pI g)]) [0,1]:=⟨⟩
instance (n b c a d):LL (gQ n b c a d) [1,4,5] (fun(e,f)=>[(3,pI e),(10,pI f)]) [0,1]:=⟨⟩
instance (n b a c):LL (gR n b a c) [1,4,5] (fun(d,e)=>[(3,pI d),(11,pI e)]) [0,1]:=⟨⟩
instance (n a):CC TP (ng n a) 19 [PV.agg (EA.cells a)] RA0:=⟨fun r h=>by
 cases a;unfold ng at h;exact zN Tryz.call19 Tryz.func19 [1000000] au⟩
def gJ (n:Nat) (a:Int):List zL×List qf×Int×SS×Int×Bool×Int×SS×List Val×List SS×List SS×List qf×SS×List gO×Bool×List xf×List qf×List qf×List qD×List SS×Bool->Option (qE):=fun(b,c,d,e,f,g,i,j,k,l,m,o,p,q,s,t,u,v,w,x,y)=>some (qE.mk a b c (qf.mk d e (Val.mk f g i j k l) m o) p q s t u v w x y)
def ZD (n:Nat) (a:Int) (b:List qD) (c:List SS) (d:Bool):Bool->Option (qE):=fun e=>bif e then gJ n a (([]:List _),([]:List _),0,([]:SS),0,false,0,([]:SS),([]:List _),([]:List _),([]:List _),([]:List _),([]:SS),([]:List _),false,([]:List _),([]:List _),([]:List _),b,([]:List _),false) else bif a==8 then gJ n a (([]:List _),([]:List _),0,([]:SS),0,false,0,([]:SS),([]:List _),([]:List _),([]:List _),([]:List _),([]:SS),([]:List _),false,([]:List _),([]:List _),([]:List _),([]:List _),c,d) else gJ n a (([]:List _),([]:List _),0,([]:SS),0,false,0,([]:SS),([]:List _),([]:List _),([]:List _),([]:List _),([]:SS),([]:List _),false,([]:List _),([]:List _),([]:List _),([]:List _),([]:List _),false)
def ZC (n:Nat) (a:Int) (e:List zL) (b:List qD) (c:List SS) (d:Bool):Bool->Option (qE):=fun f=>bif f then gJ n a (e,([]:List _),0,([]:SS),0,false,0,([]:SS),([]:List _),([]:List _),([]:List _),([]:List _),([]:SS),([]:List _),false,([]:List _),([]:List _),([]:List _),([]:List _),([]:List _),false) else bif a==6 then ZD n a b c d (a==6) else ZD n a b c d (a==7)
def ZB (n:Nat) (a:Int) (l:List qf) (b:List gO) (c:Bool) (d:List xf) (e f:List qf) (g:List zL) (i:List qD) (j:List SS) (k:Bool):Bool->Option (qE):=fun m=>bif m then bif a==3 then gJ n a (([]:List _),l,0,([]:SS),0,false,0,([]:SS),([]:List _),([]:List _),([]:List _),([]:List _),([]:SS),b,c,d,e,f,([]:List _),([]:List _),false) else gJ n a (([]:List _),([]:List _),0,([]:SS),0,false,0,([]:SS),([]:List _),([]:List _),([]:List _),([]:List _),([]:SS),b,c,d,e,f,([]:List _),([]:List _),false) else bif a==4 then ZC n a g i j k (a==4) else ZC n a g i j k (a==5)
def VP (n:Nat) (m:qE):Option (qE):= match m with | ⟨a,b,c,⟨u,v,⟨w,x,y,z,o,p⟩,q,s⟩,t,d,e,f,g,i,j,k,l⟩=>bif a==1 then gJ n a (b,c,0,([]:SS),0,false,0,([]:SS),([]:List _),([]:List _),([]:List _),([]:List _),([]:SS),([]:List _),false,([]:List _),([]:List _),([]:List _),([]:List _),([]:List _),false) else bif a==2 then gJ n a (([]:List _),([]:List _),u,v,w,x,y,z,o,p,q,s,t,([]:List _),false,([]:List _),([]:List _),([]:List _),([]:List _),([]:List _),false) else bif a==3 then ZB n a c d e f g i b j k l (a==3) else ZB n a c d e f g i b j k l (a==9)
instance (n a):LJ (gJ n a) [] (fun(b,c,d,e,f,g,i,j,k,l,m,o,p,q,s,t,u,v,w,x,y)=>[(2,.ptr 0 0),(3,.ptr 1 0)]) [1,2] (fun(b,c,d,e,f,g,i,j,k,l,m,o,p,q,s,t,u,v,w,x,y)=>[(1,.box 47 [pI a,pP b,pE c,pI d,pS e,pI f,pB g,pI i,pS j,pV k,pT l,pT m,pE o,pS p,pA q,pB s,pO t,pE u,pE v,pU w,pT x,pB y])]):=⟨⟩
instance (n a l b c d e f g i j k):LJ (ZB n a l b c d e f g i j k) [1,2,3,8] (fun m=>[(25,pB m)]) [0,1,2]:=⟨⟩
instance (n a b c d e):LJ (ZC n a b c d e) [1,2,3,8] (fun f=>[(49,pB f)]) [0,1,2]:=⟨⟩
instance (n a b c d):LJ (ZD n a b c d) [1,2,3,8] (fun e=>[(55,pB e)]) [0,1,2]:=⟨⟩
instance (n a):CC TP (VP n a) 77 [PV.agg (dv.cells a)] RA3:=⟨fun r h=>by
 obtain⟨_,_,_,⟨_,_,⟨_,_,_,_,_,_⟩,_,_⟩,_,_,_,_,_,_,_,_,_⟩:=a;unfold VP at h;exact zN Tryz.call77 Tryz.func77 [1000000] au⟩
def cr (n:Nat) (b d:List SS):LK (Int) (Bool):=fun c a=>bif a<((qv b).length:Int) then bnd (idx b a) fun e=>bnd (idx d a) fun f=>bif !(e==f) then some false else c (kwr .i64 (a+1)) else some true
def zR (n:Nat) (a b:List SS):Option (Bool):= bif ((qv a).length:Int) != ((qv b).length:Int) then some false else qy (cr n a b) n 0
instance (n a b):LL (cr n a b) [0,1] (fun c=>[(5,pI c)]):=⟨⟩
instance (n a b):CC TP (zR n a b) 69 [PV.sl (qv a),PV.sl (qv b)] RA0:=⟨fun r h=>by
 unfold zR at h;exact zN Tryz.call69 Tryz.func69 [1000000] au⟩
end W
end
section
set_option maxRecDepth 100000
set_option maxHeartbeats 20000000
open Go Go.Proofs Ax
attribute [local irreducible] zh rI uh
namespace W
abbrev qcu:Type:=Val->Val->Option (Bool)
abbrev qeo:Type:=(List Val)->(List Val)->Option (Bool)
def Qu (n:Nat) (g117:qcu) (g70:qeo) (k l:Val):Option (Bool):= match k,l with | ⟨a,c,d,e,q,s⟩,⟨f,g,i,b,m,o⟩=>bnd (qz (bif bif bif a==f then c==g else false then d==i else false then e==b else false) (zR n s o)) fun j=>bnd (qz (bif bif bif bif a==f then c==g else false then d==i else false then e==b else false then j else false) (g70 q m)) fun p=>some (bif bif bif bif bif a==f then c==g else false then d==i else false then e==b else false then j else false then p else false)
def da (n:Nat) (b l:List Val) (g117:qcu):LK (Int) (Bool):=fun c a=>bif a<((Val.rows b).length:Int) then bnd (idx b a) fun⟨m,o,p,q,s,t⟩=>bnd (idx l a) fun⟨d,e,f,g,i,j⟩=>bnd (g117 (Val.mk m o p q s t) (Val.mk d e f g i j)) fun k=>bif !k then some false else c (kwr .i64 (a+1)) else some true
def mg (n:Nat) (g117:qcu) (g70:qeo) (a b:List Val):Option (Bool):= bif ((Val.rows a).length:Int) != ((Val.rows b).length:Int) then some false else qy (da n a b g117) n 0
theorem Bb (n:Nat) (g117:qcu) (g70:qeo) (g117_ok:∀(a b:Val) (r:Bool),g117 a b=some r->qh TP 117 [PV.agg (zx.cells a),PV.agg (zx.cells b)] (RA0 r)) (g70_ok:∀(c d:List Val) (r:Bool),g70 c d=some r->qh TP 70 [PV.sl (Val.rows c),PV.sl (Val.rows d)] (RA0 r)):∀(a b:Val) (r:Bool),Qu n g117 g70 a b=some r->qh TP 117 [PV.agg (zx.cells a),PV.agg (zx.cells b)] (RA0 r):=by
 have:=fun a b=>CC.mk (g117_ok a b);have:=fun c d=>CC.mk (g70_ok c d);intro a b r h;obtain⟨c,d,_,_,_,_⟩:=a;obtain⟨_,_,_,_,_,_⟩:=b;unfold Qu at h;exact zN Tryz.call117 Tryz.func117 [1000000] au
instance (n a b g117):LL (da n a b g117) [0,1] (fun c=>[(5,pI c)]):=⟨⟩
theorem VI (n:Nat) (g117:qcu) (g70:qeo) (g117_ok:∀(c d:Val) (r:Bool),g117 c d=some r->qh TP 117 [PV.agg (zx.cells c),PV.agg (zx.cells d)] (RA0 r)) (g70_ok:∀(a b:List Val) (r:Bool),g70 a b=some r->qh TP 70 [PV.sl (Val.rows a),PV.sl (Val.rows b)] (RA0 r)):∀(a b:List Val) (r:Bool),mg n g117 g70 a b=some r->qh TP 70 [PV.sl (Val.rows a),PV.sl (Val.rows b)] (RA0 r):=by
 have:=fun c d=>CC.mk (g117_ok c d);have:=fun a b=>CC.mk (g70_ok a b);intro a b r h;unfold mg at h;exact zN Tryz.call70 Tryz.func70 [1000000] au
mutual
def uo:Nat->Val->Val->Option (Bool)
 | 0=>fun _ _=>none
 | n+1=>Qu n (uo n) (xT n)

def xT:Nat->(List Val)->(List Val)->Option (Bool)
 | 0=>fun _ _=>none
 | n+1=>mg n (uo n) (xT n)

end
theorem XS (n:Nat):(∀(a b:Val) (r:Bool),uo n a b=some r->qh TP 117 [PV.agg (zx.cells a),PV.agg (zx.cells b)] (RA0 r))/\(∀(c d:List Val) (r:Bool),xT n c d=some r->qh TP 70 [PV.sl (Val.rows c),PV.sl (Val.rows d)] (RA0 r)):=by
 induction n with
 | zero=>exact⟨(by intros; rename_i h; cases h),(by intros; rename_i h; cases h)⟩
 | succ n ih=>
  obtain⟨hg117,hg70⟩:=ih;exact⟨Bb n (uo n) (xT n) hg117 hg70,VI n (uo n) (xT n) hg117 hg70⟩
theorem DE (n:Nat):∀(a b:Val) (r:Bool),uo n a b=some r->qh TP 117 [PV.agg (zx.cells a),PV.agg (zx.cells b)] (RA0 r):=(XS n).1
instance (n:Nat) (a:Val) (b:Val):CC TP (uo n a b) 117 [PV.agg (zx.cells a),PV.agg (zx.cells b)] RA0:=⟨DE n a b⟩
theorem UE (n:Nat):∀(a b:List Val) (r:Bool),xT n a b=some r->qh TP 70 [PV.sl (Val.rows a),PV.sl (Val.rows b)] (RA0 r):=(XS n).2
instance (n:Nat) (a:List Val) (b:List Val):CC TP (xT n a b) 70 [PV.sl (Val.rows a),PV.sl (Val.rows b)] RA0:=⟨UE n a b⟩
abbrev qcv:Type:=qf->qf->Option (Bool)
def ct (n:Nat) (b p:List qf) (g123:qcv):LK (Int) (Bool):=fun c a=>bif a<((qf.rows b).length:Int) then bnd (idx b a) fun⟨w,x,⟨y,z,A,B,d,e⟩,f,g⟩=>bnd (idx p a) fun⟨i,j,⟨k,l,m,o,q,s⟩,t,u⟩=>bnd (g123 (qf.mk w x (Val.mk y z A B d e) f g) (qf.mk i j (Val.mk k l m o q s) t u)) fun v=>bif !v then some false else c (kwr .i64 (a+1)) else some true
abbrev qep:Type:=(List qf)->(List qf)->Option (Bool)
def bo (n:Nat) (g122:qep) (g123:qcv) (a b:List qf):Option (Bool):= bif ((qf.rows a).length:Int) != ((qf.rows b).length:Int) then some false else qy (ct n a b g123) n 0
def mh (n:Nat) (g122:qep) (g123:qcv) (g i:qf):Option (Bool):= match g,i with | ⟨a,d,⟨v,w,x,y,z,A⟩,B,j⟩,⟨b,c,⟨k,l,m,o,p,q⟩,s,t⟩=>bnd (qz (bif a==b then d==c else false) (uo n (Val.mk v w x y z A) (Val.mk k l m o p q))) fun e=>bnd (qz (bif bif a==b then d==c else false then e else false) (zR n B s)) fun f=>bnd (qz (bif bif bif a==b then d==c else false then e else false then f else false) (g122 j t)) fun u=>some (bif bif bif bif a==b then d==c else false then e else false then f else false then u else false)
instance (n a b g123):LL (ct n a b g123) [0,1] (fun c=>[(5,pI c)]):=⟨⟩
theorem Vg (n:Nat) (g122:qep) (g123:qcv) (g122_ok:∀(a b:List qf) (r:Bool),g122 a b=some r->qh TP 122 [PV.sl (qf.rows a),PV.sl (qf.rows b)] (RA0 r)) (g123_ok:∀(c d:qf) (r:Bool),g123 c d=some r->qh TP 123 [PV.agg (uj.cells c),PV.agg (uj.cells d)] (RA0 r)):∀(a b:List qf) (r:Bool),bo n g122 g123 a b=some r->qh TP 122 [PV.sl (qf.rows a),PV.sl (qf.rows b)] (RA0 r):=by
 have:=fun a b=>CC.mk (g122_ok a b);have:=fun c d=>CC.mk (g123_ok c d);intro a b r h;unfold bo at h;exact zN Tryz.call122 Tryz.func122 [1000000] au
theorem VJ (n:Nat) (g122:qep) (g123:qcv) (g122_ok:∀(c d:List qf) (r:Bool),g122 c d=some r->qh TP 122 [PV.sl (qf.rows c),PV.sl (qf.rows d)] (RA0 r)) (g123_ok:∀(a b:qf) (r:Bool),g123 a b=some r->qh TP 123 [PV.agg (uj.cells a),PV.agg (uj.cells b)] (RA0 r)):∀(a b:qf) (r:Bool),mh n g122 g123 a b=some r->qh TP 123 [PV.agg (uj.cells a),PV.agg (uj.cells b)] (RA0 r):=by
 have:=fun c d=>CC.mk (g122_ok c d);have:=fun a b=>CC.mk (g123_ok a b);intro a b r h;obtain⟨c,d,⟨_,_,_,_,_,_⟩,_,_⟩:=a;obtain⟨_,_,⟨_,_,_,_,_,_⟩,_,_⟩:=b;unfold mh at h;exact zN Tryz.call123 Tryz.func123 [1000000] au
mutual
def zH:Nat->(List qf)->(List qf)->Option (Bool)
 | 0=>fun _ _=>none
 | n+1=>bo n (zH n) (xc n)

def xc:Nat->qf->qf->Option (Bool)
 | 0=>fun _ _=>none
 | n+1=>mh n (zH n) (xc n)

end
theorem rZ (n:Nat):(∀(c d:List qf) (r:Bool),zH n c d=some r->qh TP 122 [PV.sl (qf.rows c),PV.sl (qf.rows d)] (RA0 r))/\(∀(a b:qf) (r:Bool),xc n a b=some r->qh TP 123 [PV.agg (uj.cells a),PV.agg (uj.cells b)] (RA0 r)):=by
 induction n with
 | zero=>exact⟨(by intros; rename_i h; cases h),(by intros; rename_i h; cases h)⟩
 | succ n ih=>
  obtain⟨hg122,hg123⟩:=ih;exact⟨Vg n (zH n) (xc n) hg122 hg123,VJ n (zH n) (xc n) hg122 hg123⟩
theorem VO (n:Nat):∀(a b:List qf) (r:Bool),zH n a b=some r->qh TP 122 [PV.sl (qf.rows a),PV.sl (qf.rows b)] (RA0 r):=(rZ n).1
instance (n:Nat) (a:List qf) (b:List qf):CC TP (zH n a b) 122 [PV.sl (qf.rows a),PV.sl (qf.rows b)] RA0:=⟨VO n a b⟩
theorem UI (n:Nat):∀(a b:qf) (r:Bool),xc n a b=some r->qh TP 123 [PV.agg (uj.cells a),PV.agg (uj.cells b)] (RA0 r):=(rZ n).2
instance (n:Nat) (a:qf) (b:qf):CC TP (xc n a b) 123 [PV.agg (uj.cells a),PV.agg (uj.cells b)] RA0:=⟨UI n a b⟩
def fk (n:Nat) (i s:List qp):LK (Int) (Bool):=fun k a=>bif a<((qp.rows i).length:Int) then bnd (idx i a) fun⟨b,c,d,l,m⟩=>bnd (idx s a) fun⟨e,f,g,o,p⟩=>bnd (qz (!(bif bif !(b==e) then true else !(c==f) then true else d != g)) (zR n l o)) fun j=>bnd (qz (!(bif bif bif !(b==e) then true else !(c==f) then true else d != g then true else !j)) (zH n m p)) fun q=>bif bif bif bif bif !(b==e) then true else !(c==f) then true else d != g then true else !j then true else !q then some false else k (kwr .i64 (a+1)) else some true
def db (n:Nat) (e o:List ql) (m p:List qp):LK (Int) (Bool):=fun g b=>bif b<((ql.rows e).length:Int) then bnd (idx e b) fun⟨c,q,s,t⟩=>bnd (idx o b) fun⟨a,i,j,k⟩=>bnd (qz (!(!(c==a))) (zR n q i)) fun d=>bnd (qz (!(bif !(c==a) then true else !d)) (zR n s j)) fun f=>bnd (qz (!(bif bif !(c==a) then true else !d then true else !f)) (zH n t k)) fun l=>bif bif bif bif !(c==a) then true else !d then true else !f then true else !l then some false else g (kwr .i64 (b+1)) else qy (fk n m p) n 0
def dH (n:Nat) (e f:zL):Option (Bool):= match e,f with | ⟨a,b⟩,⟨c,d⟩=>bif bif ((ql.rows a).length:Int) != ((ql.rows c).length:Int) then true else ((qp.rows b).length:Int) != ((qp.rows d).length:Int) then some false else qy (db n a c b d) n 0
instance (n a c b d):LL (db n a c b d) [2,3] (fun e=>[(5,pI e)]) [0,1]:=⟨⟩
instance (n b c):LL (fk n b c) [2,3] (fun a=>[(8,pI a)]) [0,1]:=⟨⟩
instance (n a b):CC TP (dH n a b) 124 [PV.agg (Gf.cells a),PV.agg (Gf.cells b)] RA0:=⟨fun r h=>by
 cases a;cases b;unfold dH at h;exact zN Tryz.call124 Tryz.func124 [1000000] au⟩
def rY (n:Nat) (i H:List qD):LK (Int) (Bool):=fun j a=>bif a<((qD.rows i).length:Int) then bnd (idx i a) fun⟨b,c,d,⟨k,l,⟨m,o,p,q,s,t⟩,u,v⟩⟩=>bnd (idx H a) fun⟨e,f,g,⟨w,x,⟨y,z,A,B,C,D⟩,E,F⟩⟩=>bnd (qz (!(bif bif !(b==e) then true else !(c==f) then true else !(d==g))) (xc n (qf.mk k l (Val.mk m o p q s t) u v) (qf.mk w x (Val.mk y z A B C D) E F))) fun G=>bif bif bif bif !(b==e) then true else !(c==f) then true else !(d==g) then true else !G then some false else j (kwr .i64 (a+1)) else some true
def rX (n:Nat) (d e:List xf) (E F:List qD):LK (Int) (Bool):=fun f a=>bif a<((xf.rows d).length:Int) then bnd (idx d a) fun⟨⟨_,_,⟨_,_,_,_,_,_⟩,_,_⟩,b⟩=>bnd (idx e a) fun⟨⟨_,_,⟨_,_,_,_,_,_⟩,_,_⟩,c⟩=>bnd (qz (!(!(b==c))) (idx d a)) fun⟨⟨g,i,⟨j,k,l,m,o,p⟩,q,s⟩,_⟩=>bnd (qz (!(!(b==c))) (idx e a)) fun⟨⟨t,u,⟨v,w,x,y,z,A⟩,B,C⟩,_⟩=>bnd (qz (!(!(b==c))) (xc n (qf.mk g i (Val.mk j k l m o p) q s) (qf.mk t u (Val.mk v w x y z A) B C))) fun D=>bif bif !(b==c) then true else !D then some false else f (kwr .i64 (a+1)) else qy (rY n E F) n 0
def rW (n:Nat) (d e:List gO) (i k:List xf) (j l:List qD):LK (Int) (Bool):=fun f a=>bif a<((gO.rows d).length:Int) then bnd (idx d a) fun⟨⟨_,_,⟨_,_,_,_,_,_⟩,_,_⟩,b⟩=>bnd (idx e a) fun⟨⟨_,_,⟨_,_,_,_,_,_⟩,_,_⟩,c⟩=>bnd (qz (!(!(b==c))) (idx d a)) fun⟨⟨m,o,⟨p,q,s,t,u,v⟩,w,x⟩,_⟩=>bnd (qz (!(!(b==c))) (idx e a)) fun⟨⟨y,z,⟨A,B,C,D,E,F⟩,G,H⟩,_⟩=>bnd (qz (!(!(b==c))) (xc n (qf.mk m o (Val.mk p q s t u v) w x) (qf.mk y z (Val.mk A B C D E F) G H))) fun g=>bif bif !(b==c) then true else !g then some false else f (kwr .i64 (a+1)) else qy (rX n i k j l) n 0
def fJ (n:Nat) (b g:List zL) (d i:List gO) (e j:List xf) (f k:List qD):LK (Int) (Bool):=fun c a=>bif a<((zL.rows b).length:Int) then bnd (idx b a) fun⟨l,m⟩=>bnd (idx g a) fun⟨o,p⟩=>bnd (dH n (zL.mk l m) (zL.mk o p)) fun q=>bif !q then some false else c (kwr .i64 (a+1)) else qy (rW n d i e j f k) n 0
def gD (n:Nat) (v w:qE):Option (Bool):= match v,w with | ⟨c,a,K,⟨R,X,⟨Y,Z,a0,a1,x,y⟩,z,A⟩,k,e,l,f,B,C,q,D,E⟩,⟨d,b,F,⟨G,H,⟨I,J,L,M,N,O⟩,P,Q⟩,m,g,o,i,S,T,s,U,V⟩=>bnd (qz (!(bif c != d then true else ((zL.rows a).length:Int) != ((zL.rows b).length:Int))) (zH n K F)) fun j=>bnd (qz (!(bif bif c != d then true else ((zL.rows a).length:Int) != ((zL.rows b).length:Int) then true else !j)) (xc n (qf.mk R X (Val.mk Y Z a0 a1 x y) z A) (qf.mk G H (Val.mk I J L M N O) P Q))) fun p=>bnd (qz (!(bif bif bif bif bif bif bif c != d then true else ((zL.rows a).length:Int) != ((zL.rows b).length:Int) then true else !j then true else !p then true else !(k==m) then true else ((gO.rows e).length:Int) != ((gO.rows g).length:Int) then true else !(l==o) then true else ((xf.rows f).length:Int) != ((xf.rows i).length:Int))) (zH n B S)) fun t=>bnd (qz (!(bif bif bif bif bif bif bif bif c != d then true else ((zL.rows a).length:Int) != ((zL.rows b).length:Int) then true else !j then true else !p then true else !(k==m) then true else ((gO.rows e).length:Int) != ((gO.rows g).length:Int) then true else !(l==o) then true else ((xf.rows f).length:Int) != ((xf.rows i).length:Int) then true else !t)) (zH n C T)) fun u=>bnd (qz (!(bif bif bif bif bif bif bif bif bif bif c != d then true else ((zL.rows a).length:Int) != ((zL.rows b).length:Int) then true else !j then true else !p then true else !(k==m) then true else ((gO.rows e).length:Int) != ((gO.rows g).length:Int) then true else !(l==o) then true else ((xf.rows f).length:Int) != ((xf.rows i).length:Int) then true else !t then true else !u then true else ((qD.rows q).length:Int) != ((qD.rows s).length:Int))) (zR n D U)) fun W=>bif bif bif bif bif bif bif bif bif bif bif bif bif c != d then true else ((zL.rows a).length:Int) != ((zL.rows b).length:Int) then true else !j then true else !p then true else !(k==m) then true else ((gO.rows e).length:Int) != ((gO.rows g).length:Int) then true else !(l==o) then true else ((xf.rows f).length:Int) != ((xf.rows i).length:Int) then true else !t then true else !u then true else ((qD.rows q).length:Int) != ((qD.rows s).length:Int) then true else !W then true else !(E==V) then some false else qy (fJ n a b e g f i q s) n 0
instance (n c e a f b g d i):LL (fJ n c e a f b g d i) [2,3] (fun j=>[(5,pI j)]) [0,1]:=⟨⟩
instance (n a d b e c f):LL (rW n a d b e c f) [2,3] (fun g=>[(6,pI g)]) [0,1]:=⟨⟩
instance (n b d c e):LL (rX n b d c e) [2,3] (fun a=>[(7,pI a)]) [0,1]:=⟨⟩
instance (n b c):LL (rY n b c) [2,3] (fun a=>[(8,pI a)]) [0,1]:=⟨⟩
instance (n a b):CC TP (gD n a b) 76 [PV.agg (dv.cells a),PV.agg (dv.cells b)] RA0:=⟨fun r h=>by
 obtain⟨_,_,_,⟨_,_,⟨_,_,_,_,_,_⟩,_,_⟩,_,_,_,_,_,_,_,_,_⟩:=a;obtain⟨_,_,_,⟨_,_,⟨_,_,_,_,_,_⟩,_,_⟩,_,_,_,_,_,_,_,_,_⟩:=b;unfold gD at h;exact zN Tryz.call76 Tryz.func76 [1000000] au⟩
def QC (n:Nat):Option (List SS):= some [([77,65,84,67,72]:SS),([87,72,69,82,69]:SS),([85,78,87,73,78,68]:SS),([65,83]:SS),([87,73,84,72]:SS),([67,82,69,65,84,69]:SS),([77,69,82,71,69]:SS),([83,69,84]:SS),([82,69,77,79,86,69]:SS),([68,69,76,69,84,69]:SS),([68,69,84,65,67,72]:SS),([82,69,84,85,82,78]:SS),([68,73,83,84,73,78,67,84]:SS),([79,82,68,69,82]:SS),([66,89]:SS),([65,83,67]:SS),([68,69,83,67]:SS),([83,75,73,80]:SS),([76,73,77,73,84]:SS),([65,78,68]:SS),([79,82]:SS),([88,79,82]:SS),([78,79,84]:SS),([73,78]:SS),([73,83]:SS),([78,85,76,76]:SS),([84,82,85,69]:SS),([70,65,76,83,69]:SS)]
instance (n ):CC TP (QC n ) 165 [] RA4:=⟨fun r h=>by
 unfold QC at h;exact zN Tryz.call165 Tryz.func165 [1000000] au⟩
def dB (n:Nat) (a:SS) (c:SS×Int->Option SS) (d:Int):Int->Option SS:=fun e=>bnd (u8I e) fun b=>chk ((qo (a++[b])).length * 1<=140737488355328) (c (a++[b],kwr .i64 (d+1)))
def dC (n:Nat) (e:SS):(SS×Int->Option SS)->SS×Int->Option SS:=fun d (c,a)=>bif a<(e.length:Int) then bnd (idx e a) fun b=>bif bif (b.toNat:Int)≥97 then (b.toNat:Int)<=122 else false then dB n c d a (kwr .u8 ((b.toNat:Int) - 32)) else dB n c d a (b.toNat:Int) else some c
def rT (n:Nat) (a:SS):Option SS:= qy (dC n a) n (([]:List _),0)
instance (n c):LL (dC n c) [0] (fun(a,b)=>[(3,.tsl 0 (qo a)),(4,pI b)]) [0] (fun(a,b)=>[(0,.tail 5 1 (qo a).length)]):=⟨⟩
instance (n b a c):LJ (dB n b a c) [0,3,4] (fun d=>[(5,.p (.int .u8 d))]) [0]:=⟨⟩
instance (n a):CC TP (rT n a) 166 [PV.str a] RA5:=⟨fun r h=>by
 unfold rT at h;exact zN Tryz.call166 Tryz.func166 [1000000] au⟩
def ml (n:Nat) (b:List SS) (c:SS):LK (Int) (SS×Bool):=fun d a=>bif a<((qv b).length:Int) then bnd (idx b a) fun e=>bif e==c then some (c,true) else d (kwr .i64 (a+1)) else some (([]:SS),false)
def rD (n:Nat) (a:SS):Option (SS×Bool):= bnd (QC n) fun b=>bnd (rT n a) fun c=>qy (ml n b c) n 0
instance (n a b):LL (ml n a b) [4,5] (fun c=>[(6,pI c)]):=⟨⟩
instance (n a):CC TP (rD n a) 127 [PV.str a] RA6:=⟨fun r h=>by
 unfold rD at h;exact zN Tryz.call127 Tryz.func127 [1000000] au⟩
end W
end
section
set_option maxRecDepth 100000
set_option maxHeartbeats 20000000
open Go Go.Proofs Ax
attribute [local irreducible] zh rI uh
namespace W
def gH (n:Nat) (a:Int):Option (Bool):= some (bif bif bif a≥97 then a<=122 else false then true else bif a≥65 then a<=90 else false then true else a==95)
instance (n a):CC TP (gH n a) 130 [PV.int .u8 a] RA0:=⟨fun r h=>by
 unfold gH at h;exact zN Tryz.call130 Tryz.func130 [1000000] au⟩
def fI (n:Nat) (a:Int):Option (Bool):= some (bif a≥48 then a<=57 else false)
instance (n a):CC TP (fI n a) 131 [PV.int .u8 a] RA0:=⟨fun r h=>by
 unfold fI at h;exact zN Tryz.call131 Tryz.func131 [1000000] au⟩
def mj (n:Nat) (b:SS):LK (Int) (Bool):=fun d a=>bif a<(b.length:Int) then bnd (idx b a) fun e=>bnd (gH n (e.toNat:Int)) fun c=>bnd (qz (!c) (idx b a)) fun f=>bnd (qz (!c) (fI n (f.toNat:Int))) fun g=>bif bif !c then !g else false then some false else d (kwr .i64 (a+1)) else some true
def tX (n:Nat) (a:SS):Option (Bool):= bnd (qz (!(bif (a.length:Int)<1 then true else (a.length:Int)>64)) (idx a 0)) fun b=>bnd (qz (!(bif (a.length:Int)<1 then true else (a.length:Int)>64)) (gH n (b.toNat:Int))) fun c=>bif bif bif (a.length:Int)<1 then true else (a.length:Int)>64 then true else !c then some false else qy (mj n a) n 0
instance (n a):LL (mj n a) [0] (fun b=>[(3,pI b)]):=⟨⟩
instance (n a):CC TP (tX n a) 128 [PV.str a] RA0:=⟨fun r h=>by
 unfold tX at h;exact zN Tryz.call128 Tryz.func128 [1000000] au⟩
def vr (n:Nat) (a:SS):Option (Bool):= bnd (rD n a) fun⟨_,b⟩=>bnd (tX n a) fun c=>some (bif c then !b else false)
instance (n a):CC TP (vr n a) 81 [PV.str a] RA0:=⟨fun r h=>by
 unfold vr at h;exact zN Tryz.call81 Tryz.func81 [1000000] au⟩
def dF (n:Nat):Bool->Option (Int):=fun a=>bif a then some 7 else some 0
def nH (n:Nat) (a:SS):Bool->Option (Int):=fun b=>bif b then some 6 else bif a==([42]:SS) then dF n (a==([42]:SS)) else bif a==([47]:SS) then dF n (a==([47]:SS)) else dF n (a==([37]:SS))
def vW (n:Nat) (a:SS):Bool->Option (Int):=fun b=>bif b then some 5 else bif a==([43]:SS) then nH n a (a==([43]:SS)) else nH n a (a==([45]:SS))
def rV (n:Nat) (a:SS):Option (Int):= bif a==([79,82]:SS) then some 1 else bif a==([88,79,82]:SS) then some 2 else bif a==([65,78,68]:SS) then some 3 else bif a==([61]:SS) then vW n a (a==([61]:SS)) else bif a==([60,62]:SS) then vW n a (a==([60,62]:SS)) else bif a==([60]:SS) then vW n a (a==([60]:SS)) else bif a==([60,61]:SS) then vW n a (a==([60,61]:SS)) else bif a==([62]:SS) then vW n a (a==([62]:SS)) else bif a==([62,61]:SS) then vW n a (a==([62,61]:SS)) else vW n a (a==([73,78]:SS))
instance (n a):LJ (vW n a) [3] (fun b=>[(10,pB b)]):=⟨⟩
instance (n a):LJ (nH n a) [3] (fun b=>[(18,pB b)]):=⟨⟩
instance (n):LJ (dF n) [] (fun a=>[(21,pB a)]):=⟨⟩
instance (n a):CC TP (rV n a) 198 [PV.str a] RA2:=⟨fun r h=>by
 unfold rV at h;exact zN Tryz.call198 Tryz.func198 [1000000] au⟩
def cz (n:Nat) (a:SS):Option (Bool):= some (bif bif bif bif a==([99,111,117,110,116]:SS) then true else a==([115,117,109]:SS) then true else a==([109,105,110]:SS) then true else a==([109,97,120]:SS) then true else a==([99,111,108,108,101,99,116]:SS))
instance (n a):CC TP (cz n a) 199 [PV.str a] RA0:=⟨fun r h=>by
 unfold cz at h;exact zN Tryz.call199 Tryz.func199 [1000000] au⟩
def tM (n:Nat) (b:List SS) (e:SS) (d:List qf):LK (Int) (Bool):=fun c a=>bif a<((qv b).length:Int) then bnd (idx b a) fun f=>bnd (vZ n f) fun g=>bif !g then some false else c (kwr .i64 (a+1)) else some (bif e==([]:SS) then ((qf.rows d).length:Int)==((qv b).length:Int) else false)
def gS (n:Nat) (b:SS) (a:List qf) (c:Int):Bool->Option (Bool):=fun e=>bif e then some (bif b==([]:SS) then ((qf.rows a).length:Int)==1 else false) else bif c==10 then bnd (qz (((qf.rows a).length:Int)==2) (rV n b)) fun f=>some (bif ((qf.rows a).length:Int)==2 then f>0 else false) else bif c==13 then bnd (vr n b) fun d=>bnd (qz d (cz n b)) fun g=>some (bif d then !g else false) else bif c==14 then bnd (qz (((qf.rows a).length:Int)==1) (cz n b)) fun i=>some (bif bif ((qf.rows a).length:Int)==1 then i else false then true else bif ((qf.rows a).length:Int)==0 then b==([99,111,117,110,116]:SS) else false) else some false
def dG (n:Nat) (b:List qf) (c:SS) (a:Int) (j:List SS):Bool->Option (Bool):=fun e=>bif e then bnd (qz (((qf.rows b).length:Int)==0) (vr n c)) fun f=>some (bif ((qf.rows b).length:Int)==0 then f else false) else bif a==4 then bnd (qz (((qf.rows b).length:Int)==1) (vZ n c)) fun g=>some (bif ((qf.rows b).length:Int)==1 then g else false) else bif a==15 then bnd (qz (((qf.rows b).length:Int)==1) (vZ n c)) fun d=>bnd (qz (bif ((qf.rows b).length:Int)==1 then d else false) (idx b 0)) fun⟨i,_,⟨_,_,_,_,_,_⟩,_,_⟩=>some (bif bif ((qf.rows b).length:Int)==1 then d else false then i==2 else false) else bif a==5 then some (c==([]:SS)) else bif a==6 then qy (tM n j c b) n 0 else bif a==7 then some (bif c==([]:SS) then ((qf.rows b).length:Int)==2 else false) else bif a==8 then gS n c b a (a==8) else bif a==9 then gS n c b a (a==9) else bif a==11 then gS n c b a (a==11) else gS n c b a (a==12)
def sa (n:Nat) (g:qf):Option (Bool):= match g with | ⟨a,d,⟨b,j,e,k,l,m⟩,f,c⟩=>bif a==1 then bnd (qz (bif d==([]:SS) then ((qf.rows c).length:Int)==0 else false) (fR n (Val.mk b j e k l m))) fun i=>some (bif bif bif d==([]:SS) then ((qf.rows c).length:Int)==0 else false then i else false then bif bif bif b==0 then true else b==1 then true else bif b==2 then e≥0 else false then true else b==3 else false) else bif a==2 then dG n c d a f (a==2) else dG n c d a f (a==3)
instance (n b d a e):LJ (dG n b d a e) [1,3,4,14] (fun c=>[(53,pB c)]) [0]:=⟨⟩
instance (n d b a):LL (tM n d b a) [1,3,4] (fun c=>[(6,pI c)]) [0]:=⟨⟩
instance (n c b a):LJ (gS n c b a) [1,3,4,14] (fun d=>[(123,pB d)]) [0]:=⟨⟩
instance (n a):CC TP (sa n a) 164 [PV.agg (uj.cells a)] RA0:=⟨fun r h=>by
 obtain⟨_,_,⟨_,_,_,_,_,_⟩,_,_⟩:=a;unfold sa at h;exact zN Tryz.call164 Tryz.func164 [1000000] au⟩
def QD (n:Nat) (b:List qf) (g126:qf->Int->Option (Bool)) (d:Int):LK (Int) (Bool):=fun c a=>bif a<((qf.rows b).length:Int) then bnd (idx b a) fun⟨e,f,⟨g,i,j,k,l,m⟩,o,p⟩=>bnd (g126 (qf.mk e f (Val.mk g i j k l m) o p) (kwr .i64 (d - 1))) fun q=>bif !q then some false else c (kwr .i64 (a+1)) else some true
def rP (n:Nat) (g126:qf->Int->Option (Bool)) (m:qf) (b:Int):Option (Bool):= match m with | ⟨a,p,⟨e,f,g,i,j,k⟩,l,c⟩=>bnd (qz (!(b<1)) (sa n (qf.mk a p (Val.mk e f g i j k) l c))) fun d=>bnd (qz ((!(bif b<1 then true else !d))&&(a != 1)) (uo n (Val.mk e f g i j k) (Val.mk 0 false 0 ([]:SS) ([]:List Val) ([]:List SS)))) fun o=>bif bif bif bif b<1 then true else !d then true else bif a != 1 then !o else false then true else bif a != 6 then ((qv l).length:Int)>0 else false then some false else qy (QD n c g126 b) n 0
instance (n a g126 b):LL (QD n a g126 b) [1,2] (fun c=>[(5,pI c)]) [0]:=⟨⟩
theorem Bc (n:Nat) (g126:qf->Int->Option (Bool)) (g126_ok:∀(a:qf) (b:Int) (r:Bool),g126 a b=some r->qh TP 126 [PV.agg (uj.cells a),PV.int .i64 b] (RA0 r)):∀(a:qf) (b:Int) (r:Bool),rP n g126 a b=some r->qh TP 126 [PV.agg (uj.cells a),PV.int .i64 b] (RA0 r):=by
 have:=fun a b=>CC.mk (g126_ok a b);intro a b r h;obtain⟨_,_,⟨_,_,_,_,_,_⟩,_,_⟩:=a;unfold rP at h;exact zN Tryz.call126 Tryz.func126 [1000000] au
def bQ:Nat->qf->Int->Option (Bool)
 | 0=>fun _ _=>none
 | n+1=>rP n (bQ n)

theorem Bh (n:Nat):(∀(a:qf) (b:Int) (r:Bool),bQ n a b=some r->qh TP 126 [PV.agg (uj.cells a),PV.int .i64 b] (RA0 r)):=by
 induction n with
 | zero=>exact(by intros; rename_i h; cases h)
 | succ n ih=>
  have hg126:=ih;exact Bc n (bQ n) hg126
theorem DJ (n:Nat):∀(a:qf) (b:Int) (r:Bool),bQ n a b=some r->qh TP 126 [PV.agg (uj.cells a),PV.int .i64 b] (RA0 r):=(Bh n)
instance (n:Nat) (a:qf) (b:Int):CC TP (bQ n a b) 126 [PV.agg (uj.cells a),PV.int .i64 b] RA0:=⟨DJ n a b⟩
def vX (n:Nat) (a:qf):Option (Bool):= match a with | ⟨b,e,⟨f,g,i,j,k,l⟩,m,c⟩=>bnd (bQ n (qf.mk b e (Val.mk f g i j k l) m c) 32) fun d=>some d
instance (n a):CC TP (vX n a) 80 [PV.agg (uj.cells a)] RA0:=⟨fun r h=>by
 obtain⟨_,_,⟨_,_,_,_,_,_⟩,_,_⟩:=a;unfold vX at h;exact zN Tryz.call80 Tryz.func80 [1000000] au⟩
def ni (n:Nat) (c:List SS) (m:List qf):LK (Int) (Bool):=fun d a=>bif a<((qv c).length:Int) then bnd (idx c a) fun o=>bnd (vZ n o) fun b=>bnd (qz (!(!b)) (idx m a)) fun⟨p,q,⟨s,t,e,f,g,i⟩,j,k⟩=>bnd (qz (!(!b)) (vX n (qf.mk p q (Val.mk s t e f g i) j k))) fun l=>bif bif !b then true else !l then some false else d (kwr .i64 (a+1)) else some true
def cg (n:Nat) (a:List SS) (b:List qf):Option (Bool):= bif ((qv a).length:Int) != ((qf.rows b).length:Int) then some false else qy (ni n a b) n 0
instance (n a b):LL (ni n a b) [0,1] (fun c=>[(5,pI c)]):=⟨⟩
instance (n a b):CC TP (cg n a b) 125 [PV.sl (qv a),PV.sl (qf.rows b)] RA0:=⟨fun r h=>by
 unfold cg at h;exact zN Tryz.call125 Tryz.func125 [1000000] au⟩
def pq (n:Nat) (d:List SS) (a:SS) (k:List SS) (l:List qf) (e:Int->Option (Bool)) (j:Int):LK (Int) (Bool):=fun f b=>bif b<((qv d).length:Int) then bnd (idx d b) fun m=>bnd (vZ n m) fun g=>bif !g then some false else f (kwr .i64 (b+1)) else bnd (qz (!(a==([]:SS))) (vr n a)) fun c=>bnd (qz (!(bif !(a==([]:SS)) then !c else false)) (cg n k l)) fun i=>bif bif bif !(a==([]:SS)) then !c else false then true else !i then some false else e (kwr .i64 (j+1))
def pr (n:Nat) (f:List qp):LK (Int) (Bool):=fun i d=>bif d<((qp.rows f).length:Int) then bnd (idx f d) fun⟨a,b,c,j,k⟩=>bnd (qz (!(a==([]:SS))) (vr n a)) fun e=>bnd (qz ((!(bif !(a==([]:SS)) then !e else false))&&(!(b==([]:SS)))) (vZ n b)) fun g=>bnd (qz (!(bif bif bif bif !(a==([]:SS)) then !e else false then true else bif !(b==([]:SS)) then !g else false then true else c<0 then true else c>2)) (cg n j k)) fun l=>bif bif bif bif bif bif !(a==([]:SS)) then !e else false then true else bif !(b==([]:SS)) then !g else false then true else c<0 then true else c>2 then true else !l then some false else i (kwr .i64 (d+1)) else some true
def po (n:Nat) (b:List ql) (d:List qp):LK (Int) (Bool):=fun c a=>bif a<((ql.rows b).length:Int) then bnd (idx b a) fun⟨e,f,g,i⟩=>qy (pq n f e g i c a) n 0 else qy (pr n d) n 0
def mm (n:Nat) (c:zL):Option (Bool):= match c with | ⟨a,b⟩=>bif ((ql.rows a).length:Int) != kwr .i64 (((qp.rows b).length:Int)+1) then some false else qy (po n a b) n 0
instance (n a b):LL (po n a b) [1] (fun c=>[(3,pI c)]) [0]:=⟨⟩
instance (n d c e f a b):LL (pq n d c e f a b) [1,3,4] (fun g=>[(5,pI g)]) [0,1]:=⟨⟩
instance (n b):LL (pr n b) [1] (fun a=>[(6,pI a)]) [0]:=⟨⟩
instance (n a):CC TP (mm n a) 78 [PV.agg (Gf.cells a)] RA0:=⟨fun r h=>by
 cases a;unfold mm at h;exact zN Tryz.call78 Tryz.func78 [1000000] au⟩
end W
end
section
set_option maxRecDepth 100000
set_option maxHeartbeats 20000000
open Go Go.Proofs Ax
attribute [local irreducible] zh rI uh
namespace W
def XT (n:Nat) (a:List qf) (j:Int):LK (Int) (Bool):=fun c b=>bif b<((qf.rows a).length:Int) then bnd (idx a b) fun⟨k,l,⟨m,o,p,q,d,e⟩,f,g⟩=>bnd (vX n (qf.mk k l (Val.mk m o p q d e) f g)) fun i=>bif !i then some false else c (kwr .i64 (b+1)) else some (((qf.rows a).length:Int)<=j)
def nh (n:Nat) (a:List qf) (b:Int):Option (Bool):= qy (XT n a b) n 0
instance (n a b):LL (XT n a b) [0,1] (fun c=>[(5,pI c)]):=⟨⟩
instance (n a b):CC TP (nh n a b) 79 [PV.sl (qf.rows a),PV.int .i64 b] RA0:=⟨fun r h=>by
 unfold nh at h;exact zN Tryz.call79 Tryz.func79 [1000000] au⟩
def VS (n:Nat) (c:List xf) (a:List gO) (f g:List qf):LK (Int) (Bool):=fun e b=>bif b<((xf.rows c).length:Int) then bnd (idx c b) fun⟨⟨i,j,⟨k,l,m,o,p,q⟩,s,t⟩,_⟩=>bnd (vX n (qf.mk i j (Val.mk k l m o p q) s t)) fun u=>bif !u then some false else e (kwr .i64 (b+1)) else bnd (qz (((gO.rows a).length:Int)>0) (nh n f 1)) fun d=>bnd (qz (bif ((gO.rows a).length:Int)>0 then d else false) (nh n g 1)) fun v=>some (bif bif ((gO.rows a).length:Int)>0 then d else false then v else false)
def VQ (n:Nat) (a:List gO) (e:List xf) (f g:List qf):LK (Int) (Bool):=fun d b=>bif b<((gO.rows a).length:Int) then bnd (idx a b) fun⟨⟨_,_,⟨_,_,_,_,_,_⟩,_,_⟩,i⟩=>bnd (vr n i) fun c=>bnd (qz (!(!c)) (idx a b)) fun⟨⟨j,k,⟨l,m,o,p,q,s⟩,t,u⟩,_⟩=>bnd (qz (!(!c)) (vX n (qf.mk j k (Val.mk l m o p q s) t u))) fun v=>bif bif !c then true else !v then some false else d (kwr .i64 (b+1)) else qy (VS n e a f g) n 0
def UJ (n:Nat) (a:qE):Option (Bool):= match a with | ⟨_,_,_,⟨_,_,⟨_,_,_,_,_,_⟩,_,_⟩,_,b,_,c,d,e,_,_,_⟩=>qy (VQ n b c d e) n 0
instance (n a b c d):LL (VQ n a b c d) [1] (fun e=>[(3,pI e)]) [0]:=⟨⟩
instance (n b a c d):LL (VS n b a c d) [1] (fun e=>[(4,pI e)]) [0]:=⟨⟩
instance (n a):CC TP (UJ n a) 82 [PV.agg (dv.cells a)] RA0:=⟨fun r h=>by
 obtain⟨_,_,_,⟨_,_,⟨_,_,_,_,_,_⟩,_,_⟩,_,_,_,_,_,_,_,_,_⟩:=a;unfold UJ at h;exact zN Tryz.call82 Tryz.func82 [1000000] au⟩
def Xo (n:Nat) (c:qf):Option (Bool):= match c with | ⟨a,b,⟨f,g,i,j,k,l⟩,m,d⟩=>bnd (qz (bif a==0 then b==([]:SS) else false) (uo n (Val.mk f g i j k l) (Val.mk 0 false 0 ([]:SS) ([]:List Val) ([]:List SS)))) fun e=>some (bif bif bif bif a==0 then b==([]:SS) else false then e else false then ((qv m).length:Int)==0 else false then ((qf.rows d).length:Int)==0 else false)
instance (n a):CC TP (Xo n a) 129 [PV.agg (uj.cells a)] RA0:=⟨fun r h=>by
 obtain⟨_,_,⟨_,_,_,_,_,_⟩,_,_⟩:=a;unfold Xo at h;exact zN Tryz.call129 Tryz.func129 [1000000] au⟩
def ZA (n:Nat) (p:qD) (s:Bool):Option (Bool):= match p with | ⟨q,o,e,⟨f,g,⟨i,j,k,l,a,b⟩,c,d⟩⟩=>bnd (vr n q) fun t=>bif !t then some false else bif o==([]:SS) then bnd (vZ n e) fun m=>bnd (qz m (Xo n (qf.mk f g (Val.mk i j k l a b) c d))) fun u=>some (bif m then u else false) else bnd (qz (!(!(e==([]:SS)))) (vZ n o)) fun v=>bif bif !(e==([]:SS)) then true else !v then some false else bif s then bnd (vX n (qf.mk f g (Val.mk i j k l a b) c d)) fun w=>some w else bnd (Xo n (qf.mk f g (Val.mk i j k l a b) c d)) fun x=>some x
instance (n a b):CC TP (ZA n a b) 83 [PV.agg (QZ.cells a),PV.bool b] RA0:=⟨fun r h=>by
 obtain⟨_,_,_,⟨_,_,⟨_,_,_,_,_,_⟩,_,_⟩⟩:=a;unfold ZA at h;exact zN Tryz.call83 Tryz.func83 [1000000] au⟩
def tl (n:Nat) (a:List qD) (d:Int):LK (Int) (Bool):=fun c b=>bif b<((qD.rows a).length:Int) then bnd (idx a b) fun⟨e,f,g,⟨i,j,⟨k,l,m,o,p,q⟩,s,t⟩⟩=>bnd (ZA n (qD.mk e f g (qf.mk i j (Val.mk k l m o p q) s t)) (d==6)) fun u=>bif !u then some false else c (kwr .i64 (b+1)) else some (((qD.rows a).length:Int)>0)
def tm (n:Nat) (a:List SS):LK (Int) (Bool):=fun c b=>bif b<((qv a).length:Int) then bnd (idx a b) fun d=>bnd (vr n d) fun e=>bif !e then some false else c (kwr .i64 (b+1)) else some (((qv a).length:Int)>0)
def mn (n:Nat) (b:List qD) (a:Int) (c:List SS):Bool->Option (Bool):=fun d=>bif d then qy (tl n b a) n 0 else bif a==8 then qy (tm n c) n 0 else some false
def cu (n:Nat) (a:Int) (b:List zL) (e:List qf) (u:Int) (v:SS) (z:Int) (A:Bool) (B:Int) (C:SS) (g:List Val) (i j:List SS) (k:List qf) (l:SS) (m:List gO) (o:Bool) (p:List xf) (q s:List qf) (c:List qD) (d:List SS) (t:Bool):Bool->Option (Bool):=fun w=>bif w then bnd (UJ n (qE.mk a b e (qf.mk u v (Val.mk z A B C g i) j k) l m o p q s c d t)) fun f=>bnd (qz f (nh n e 1)) fun x=>some (bif f then x else false) else bif a==4 then some (((zL.rows b).length:Int)>0) else bif a==5 then bnd (qz (((zL.rows b).length:Int)==1) (idx b 0)) fun⟨_,y⟩=>some (bif ((zL.rows b).length:Int)==1 then ((qp.rows y).length:Int)==0 else false) else bif a==6 then mn n c a d (a==6) else mn n c a d (a==7)
def mq (n:Nat) (b:List zL) (a:Int) (i:List qf) (j:Int) (l:SS) (m:Int) (o:Bool) (p:Int) (q:SS) (c:List Val) (d e:List SS) (f:List qf) (g:SS) (s:List gO) (t:Bool) (u:List xf) (v w:List qf) (x:List qD) (y:List SS) (z:Bool):LK (Int) (Bool):=fun B k=>bif k<((zL.rows b).length:Int) then bnd (idx b k) fun⟨C,D⟩=>bnd (mm n (zL.mk C D)) fun E=>bif !E then some false else B (kwr .i64 (k+1)) else bif a==1 then bnd (qz (((zL.rows b).length:Int)>0) (nh n i 1)) fun F=>some (bif ((zL.rows b).length:Int)>0 then F else false) else bif a==2 then bnd (vX n (qf.mk j l (Val.mk m o p q c d) e f)) fun A=>bnd (qz A (vr n g)) fun G=>some (bif A then G else false) else bif a==3 then cu n a b i j l m o p q c d e f g s t u v w x y z (a==3) else cu n a b i j l m o p q c d e f g s t u v w x y z (a==9)
def cA (n:Nat) (z:qE):Option (Bool):= match z with | ⟨a,m,s,⟨t,u,⟨v,w,x,y,b,c⟩,d,e⟩,f,g,i,j,k,l,o,p,q⟩=>bnd (VP n (qE.mk a m s (qf.mk t u (Val.mk v w x y b c) d e) f g i j k l o p q)) fun⟨A,B,C,⟨D,E,⟨F,G,H,I,J,K⟩,L,M⟩,N,O,P,Q,R,S,T,U,V⟩=>bnd (gD n (qE.mk A B C (qf.mk D E (Val.mk F G H I J K) L M) N O P Q R S T U V) (qE.mk a m s (qf.mk t u (Val.mk v w x y b c) d e) f g i j k l o p q)) fun W=>bif !W then some false else qy (mq n m a s t u v w x y b c d e f g i j k l o p q) n 0
instance (n m a s t v w x y z b c d e f g i j k l o p q):LL (mq n m a s t v w x y z b c d e f g i j k l o p q) [1] (fun u=>[(3,pI u)]) [0]:=⟨⟩
instance (n a m s t u w x y z b c d e f g i j k l o p q):LJ (cu n a m s t u w x y z b c d e f g i j k l o p q) [1,26] (fun v=>[(48,pB v)]) [0]:=⟨⟩
instance (n b a c):LJ (mn n b a c) [1,26] (fun d=>[(79,pB d)]) [0]:=⟨⟩
instance (n b a):LL (tl n b a) [1] (fun c=>[(4,pI c)]) [0]:=⟨⟩
instance (n a):LL (tm n a) [1] (fun b=>[(5,pI b)]) [0]:=⟨⟩
instance (n a):CC TP (cA n a) 42 [PV.agg (dv.cells a)] RA0:=⟨fun r h=>by
 obtain⟨_,_,_,⟨_,_,⟨_,_,_,_,_,_⟩,_,_⟩,_,_,_,_,_,_,_,_,_⟩:=a;unfold cA at h;exact zN Tryz.call42 Tryz.func42 [1000000] au⟩
def tk (n:Nat) (a:Int):Option (Bool):= some (bif bif bif bif a==4 then true else a==5 then true else a==6 then true else a==7 then true else a==8)
instance (n a):CC TP (tk n a) 43 [PV.int .i64 a] RA0:=⟨fun r h=>by
 unfold tk at h;exact zN Tryz.call43 Tryz.func43 [1000000] au⟩
def tj (n:Nat) (a:List qE):LK (Int) (Bool):=fun e b=>bif b<((qE.rows a).length:Int) then bnd (idx a b) fun⟨y,z,A,⟨B,C,⟨E,F,f,g,i,j⟩,k,l⟩,m,o,p,q,s,t,u,v,w⟩=>bnd (cA n (qE.mk y z A (qf.mk B C (Val.mk E F f g i j) k l) m o p q s t u v w)) fun d=>bnd (qz (!(!d)) (idx a b)) fun⟨x,_,_,⟨_,_,⟨_,_,_,_,_,_⟩,_,_⟩,_,_,_,_,_,_,_,_,_⟩=>bif bif !d then true else bif x==9 then kwr .i64 (b+1)<((qE.rows a).length:Int) else false then some false else e (kwr .i64 (b+1)) else bnd (qz (bif ((qE.rows a).length:Int)>0 then ((qE.rows a).length:Int)<=64 else false) (idx a (kwr .i64 (((qE.rows a).length:Int) - 1)))) fun⟨c,_,_,⟨_,_,⟨_,_,_,_,_,_⟩,_,_⟩,_,_,_,_,_,_,_,_,_⟩=>bnd (qz ((bif ((qE.rows a).length:Int)>0 then ((qE.rows a).length:Int)<=64 else false)&&(!(c==9))) (idx a (kwr .i64 (((qE.rows a).length:Int) - 1)))) fun⟨D,_,_,⟨_,_,⟨_,_,_,_,_,_⟩,_,_⟩,_,_,_,_,_,_,_,_,_⟩=>bnd (qz ((bif ((qE.rows a).length:Int)>0 then ((qE.rows a).length:Int)<=64 else false)&&(!(c==9))) (tk n D)) fun G=>some (bif bif ((qE.rows a).length:Int)>0 then ((qE.rows a).length:Int)<=64 else false then bif c==9 then true else G else false)
def tZ (n:Nat) (a:ZZ):Option (Bool):= match a with | ⟨b⟩=>qy (tj n b) n 0
instance (n a):LL (tj n a) [1,3] (fun b=>[(4,pI b)]) [0]:=⟨⟩
instance (n a):CC TP (tZ n a) 20 [PV.agg (EA.cells a)] RA0:=⟨fun r h=>by
 cases a;unfold tZ at h;exact zN Tryz.call20 Tryz.func20 [1000000] au⟩
def cy (n:Nat) (F:Given) (G:qE):Option (Bool):= match F,G with | ⟨⟨H,L⟩,⟨⟨a,b⟩,⟨O,P⟩⟩,⟨Q,R,S,I,J,K⟩⟩,⟨e,f,g,⟨i,j,⟨k,l,m,o,p,q⟩,s,t⟩,u,v,w,x,y,z,A,B,C⟩=>bnd (qz (!(bif ((Node.rows a).length:Int)>100 then true else ((Edge.rows b).length:Int)>100)) (ZN n (State.mk (Graph.mk a b) (fZ.mk O P)))) fun c=>bnd (qz (!(bif bif ((Node.rows a).length:Int)>100 then true else ((Edge.rows b).length:Int)>100 then true else !c)) (Qa n (Graph.mk a b))) fun d=>bnd (qz (!(bif bif bif ((Node.rows a).length:Int)>100 then true else ((Edge.rows b).length:Int)>100 then true else !c then true else !d)) (nU n (Env.mk H L))) fun D=>bnd (qz (!(bif bif bif bif ((Node.rows a).length:Int)>100 then true else ((Edge.rows b).length:Int)>100 then true else !c then true else !d then true else !D)) (cF n (Val.mk Q R S I J K))) fun M=>bif bif bif bif bif bif ((Node.rows a).length:Int)>100 then true else ((Edge.rows b).length:Int)>100 then true else !c then true else !d then true else !D then true else !M then some false else bnd (ng n (ZZ.mk [qE.mk e f g (qf.mk i j (Val.mk k l m o p q) s t) u v w x y z A B C])) fun E=>bnd (qz (!E) (tZ n (ZZ.mk [qE.mk e f g (qf.mk i j (Val.mk k l m o p q) s t) u v w x y z A B C]))) fun N=>some (bif !E then N else false)
instance (n a b):CC TP (cy n a b) 5 [PV.agg (Vd.cells a),PV.agg (dv.cells b)] RA0:=⟨fun r h=>by
 obtain⟨⟨_,_⟩,⟨⟨_,_⟩,⟨_,_⟩⟩,⟨_,_,_,_,_,_⟩⟩:=a;obtain⟨_,_,_,⟨_,_,⟨_,_,_,_,_,_⟩,_,_⟩,_,_,_,_,_,_,_,_,_⟩:=b;unfold cy at h;exact zN Tryz.call5 Tryz.func5 [1000000] au⟩
def Zx (n:Nat) (a:SS):LK (Int) (Bool):=fun d b=>bif b<(a.length:Int) then bnd (idx a b) fun c=>bnd (qz (!((c.toNat:Int)<48)) (idx a b)) fun e=>bif bif (c.toNat:Int)<48 then true else (e.toNat:Int)>57 then some false else d (kwr .i64 (b+1)) else some ((a.length:Int)>0)
def Zw (n:Nat) (a:SS):Option (Bool):= qy (Zx n a) n 0
instance (n a):LL (Zx n a) [0] (fun b=>[(3,pI b)]):=⟨⟩
instance (n a):CC TP (Zw n a) 167 [PV.str a] RA0:=⟨fun r h=>by
 unfold Zw at h;exact zN Tryz.call167 Tryz.func167 [1000000] au⟩
def FJ (n:Nat) (b a:Int):Option (Int×Int):= bif bif b==0 then true else a==0 then some (0,0) else bif bif bif b==(-1) then a==(-9223372036854775808) else false then true else bif a==(-1) then b==(-9223372036854775808) else false then some (0,4) else chk (decide (a≠0)) (bif kwr .i64 (Int.tdiv (kwr .i64 (b * a)) a) != b then some (0,4) else some (kwr .i64 (b * a),0))
instance (n a b):CC TP (FJ n a b) 168 [PV.int .i64 a,PV.int .i64 b] RA7:=⟨fun r h=>by
 unfold FJ at h;exact zN Tryz.call168 Tryz.func168 [1000000] au⟩
def FI (n:Nat) (b a:Int):Option (Int×Int):= bif bif bif a>0 then b>kwr .i64 (9223372036854775807 - a) else false then true else bif a<0 then b<kwr .i64 ((-9223372036854775808) - a) else false then some (0,4) else some (kwr .i64 (b+a),0)
instance (n a b):CC TP (FI n a b) 169 [PV.int .i64 a,PV.int .i64 b] RA7:=⟨fun r h=>by
 unfold FI at h;exact zN Tryz.call169 Tryz.func169 [1000000] au⟩
end W
end
section
set_option maxRecDepth 100000
set_option maxHeartbeats 20000000
open Go Go.Proofs Ax
attribute [local irreducible] zh rI uh
namespace W
def tK (n:Nat) (f:Int) (b:Int×Int->Option (Int×Int)) (e:Int):Int->Option (Int×Int):=fun c=>bnd (FI n f c) fun⟨d,a⟩=>bif a != 0 then some (0,a) else b (d,kwr .i64 (e+1))
def XR (n:Nat) (b i:SS):LK (Int×Int) (Int×Int):=fun c (d,a)=>bif a<(b.length:Int) then bnd (FJ n d 10) fun⟨e,f⟩=>bif f != 0 then some (0,f) else bnd (idx b a) fun g=>bif (b.length:Int)<(i.length:Int) then tK n e c a (kwr .i64 (0 - kwr .i64 (kwr .u8 ((g.toNat:Int) - 48)))) else tK n e c a (kwr .i64 (kwr .u8 ((g.toNat:Int) - 48))) else some (d,0)
def tJ (n:Nat) (b:SS):SS->Option (Int×Int):=fun a=>bnd (Zw n a) fun c=>bnd (qz (!(!c)) (idx a 0)) fun d=>bif bif !c then true else bif (d.toNat:Int)==48 then !(b==([48]:SS)) else false then some (0,1) else qy (XR n a b) n (0,0)
def Vi (n:Nat) (a:SS):Option (Int×Int):= bnd (qz ((a.length:Int)>0) (idx a 0)) fun b=>bif bif (a.length:Int)>0 then (b.toNat:Int)==45 else false then chk (1<=a.length) (tJ n a (a.drop 1)) else tJ n a a
instance (n a):LJ (tJ n a) [0] (fun b=>[(4,pS b)]):=⟨⟩
instance (n b a):LL (XR n b a) [0,4] (fun(c,d)=>[(5,pI c),(6,pI d)]):=⟨⟩
instance (n d a c):LJ (tK n d a c) [0,4,6,7] (fun b=>[(9,pI b)]):=⟨⟩
instance (n a):CC TP (Vi n a) 132 [PV.str a] RA7:=⟨fun r h=>by
 unfold Vi at h;exact zN Tryz.call132 Tryz.func132 [1000000] au⟩
def tY (n:Nat) (a:SS) (b:Int):Option (Bool):= bnd (qz (b<(a.length:Int)) (idx a b)) fun c=>bnd (qz (bif b<(a.length:Int) then (c.toNat:Int)≥128 else false) (idx a b)) fun d=>some (bif bif b<(a.length:Int) then (c.toNat:Int)≥128 else false then (d.toNat:Int)<192 else false)
instance (n a b):CC TP (tY n a b) 200 [PV.str a,PV.int .i64 b] RA0:=⟨fun r h=>by
 unfold tY at h;exact zN Tryz.call200 Tryz.func200 [1000000] au⟩
def UF (n:Nat) (b:SS) (c:Int):Option (Int):= bif c≥(b.length:Int) then some 0 else bnd (idx b c) fun a=>bif (a.toNat:Int)<128 then some 1 else bnd (qz (!(bif (a.toNat:Int)<194 then true else (a.toNat:Int)>244)) (tY n b (kwr .i64 (c+1)))) fun e=>bif bif bif (a.toNat:Int)<194 then true else (a.toNat:Int)>244 then true else !e then some 0 else bif (a.toNat:Int)<224 then some 2 else bnd (idx b (kwr .i64 (c+1))) fun d=>bnd (tY n b (kwr .i64 (c+2))) fun f=>bif bif bif !f then true else bif (a.toNat:Int)==224 then (d.toNat:Int)<160 else false then true else bif (a.toNat:Int)==237 then (d.toNat:Int)≥160 else false then some 0 else bif (a.toNat:Int)<240 then some 3 else bnd (tY n b (kwr .i64 (c+3))) fun g=>bif bif bif !g then true else bif (a.toNat:Int)==240 then (d.toNat:Int)<144 else false then true else bif (a.toNat:Int)==244 then (d.toNat:Int)≥144 else false then some 0 else some 4
instance (n a b):CC TP (UF n a b) 170 [PV.str a,PV.int .i64 b] RA2:=⟨fun r h=>by
 unfold UF at h;exact zN Tryz.call170 Tryz.func170 [1000000] au⟩
def tW (n:Nat) (a:Int):Option (Int):= bnd (fI n a) fun b=>bif b then some (kwr .i64 (kwr .u8 (a - 48))) else bif bif a≥97 then a<=102 else false then some (kwr .i64 (kwr .i64 (kwr .u8 (a - 97))+10)) else bif bif a≥65 then a<=70 else false then some (kwr .i64 (kwr .i64 (kwr .u8 (a - 65))+10)) else some (-1)
instance (n a):CC TP (tW n a) 171 [PV.int .u8 a] RA2:=⟨fun r h=>by
 unfold tW at h;exact zN Tryz.call171 Tryz.func171 [1000000] au⟩
def rS (n:Nat) (b:SS) (d:UInt8) (e:SS×Int->Option (SS×Int×Bool)) (a:Int) (c:SS):Bool->Option (SS×Int×Bool):=fun i=>bif i then chk ((qo (b++[d])).length * 1<=140737488355328) (e (b++[d],kwr .i64 (a+2))) else bif (d.toNat:Int)==110 then chk ((qo (b++[10])).length * 1<=140737488355328) (e (b++[10],kwr .i64 (a+2))) else bif (d.toNat:Int)==116 then chk ((qo (b++[9])).length * 1<=140737488355328) (e (b++[9],kwr .i64 (a+2))) else bif (d.toNat:Int)==114 then chk ((qo (b++[13])).length * 1<=140737488355328) (e (b++[13],kwr .i64 (a+2))) else bif (d.toNat:Int)==120 then bnd (qz (!(kwr .i64 (kwr .i64 (a+2)+1)≥(c.length:Int))) (idx c (kwr .i64 (a+2)))) fun j=>bnd (qz (!(kwr .i64 (kwr .i64 (a+2)+1)≥(c.length:Int))) (tW n (j.toNat:Int))) fun f=>bnd (qz (!(bif kwr .i64 (kwr .i64 (a+2)+1)≥(c.length:Int) then true else f<0)) (idx c (kwr .i64 (kwr .i64 (a+2)+1)))) fun k=>bnd (qz (!(bif kwr .i64 (kwr .i64 (a+2)+1)≥(c.length:Int) then true else f<0)) (tW n (k.toNat:Int))) fun l=>bif bif bif kwr .i64 (kwr .i64 (a+2)+1)≥(c.length:Int) then true else f<0 then true else l<0 then some (([]:SS),0,false) else bnd (idx c (kwr .i64 (a+2))) fun m=>bnd (tW n (m.toNat:Int)) fun o=>bnd (idx c (kwr .i64 (kwr .i64 (a+2)+1))) fun p=>bnd (tW n (p.toNat:Int)) fun q=>bnd (u8I (kwr .u8 (kwr .i64 (kwr .i64 (o * 16)+q)))) fun g=>chk ((qo (b++[g])).length * 1<=140737488355328) (e (b++[g],kwr .i64 (kwr .i64 (a+2)+2))) else some (([]:SS),0,false)
def Zz (n:Nat) (b:SS):LK (SS×Int) (SS×Int×Bool):=fun g (d,a)=>bif a<(b.length:Int) then bnd (idx b a) fun e=>bnd (UF n b a) fun i=>bif (e.toNat:Int)==39 then some (d,kwr .i64 (a+1),true) else bif bif bif i==0 then true else (e.toNat:Int)<32 then true else (e.toNat:Int)==127 then some (([]:SS),0,false) else bif (e.toNat:Int) != 92 then bnd (pY (kwr .i64 (a+i))) fun f=>bnd (pY a) fun j=>chk (j<=f/\f<=b.length) (chk ((qo (d++(b.take f).drop j)).length * 1<=140737488355328) (g (d++(b.take f).drop j,kwr .i64 (a+i)))) else bif kwr .i64 (a+1)≥(b.length:Int) then some (([]:SS),0,false) else bnd (idx b (kwr .i64 (a+1))) fun c=>bif (c.toNat:Int)==92 then rS n d c g a b ((c.toNat:Int)==92) else rS n d c g a b ((c.toNat:Int)==39) else some (([]:SS),0,false)
def Zy (n:Nat) (a:SS) (b:Int):Option (SS×Int×Bool):= bnd (qz (!(b≥(a.length:Int))) (idx a b)) fun c=>bif bif b≥(a.length:Int) then true else (c.toNat:Int) != 39 then some (([]:SS),0,false) else qy (Zz n a) n (([]:List _),kwr .i64 (b+1))
instance (n c):LL (Zz n c) [0] (fun(a,b)=>[(7,.tsl 0 (qo a)),(8,pI b)]) [0] (fun(a,b)=>[(0,.tail 5 1 (qo a).length)]):=⟨⟩
instance (n e c a f b):LJ (rS n e c a f b) [0,7,8,11,74] (fun d=>[(75,pB d)]) [0]:=⟨⟩
instance (n a b):CC TP (Zy n a b) 133 [PV.str a,PV.int .i64 b] RA8:=⟨fun r h=>by
 unfold Zy at h;exact zN Tryz.call133 Tryz.func133 [1000000] au⟩
def VN (n:Nat) (c:SS) (d e:Nat):(Int->Option SS)->Int->Option SS:=fun g a=>bif a<(([40,41,91,93,123,125,44,58,46,43,45,42,47,37,61,60,62,36]:SS).length:Int) then bnd (pY (kwr .i64 (a+1))) fun b=>bnd (pY a) fun f=>chk (f<=b/\b<=([40,41,91,93,123,125,44,58,46,43,45,42,47,37,61,60,62,36]:SS).length) (bif (([40,41,91,93,123,125,44,58,46,43,45,42,47,37,61,60,62,36]:SS).take b).drop f==(c.take d).drop e then some ((c.take d).drop e) else g (kwr .i64 (a+1))) else some ([]:SS)
def QB (n:Nat) (d:Int) (c:SS):SS->Option SS:=fun a=>bif bif bif a==([60,61]:SS) then true else a==([62,61]:SS) then true else a==([60,62]:SS) then some a else bnd (pY (kwr .i64 (d+1))) fun b=>bnd (pY d) fun e=>chk (e<=b/\b<=c.length) (qy (VN n c b e) n 0)
def UH (n:Nat) (a:SS) (b:Int):Option SS:= bif kwr .i64 (b+1)<(a.length:Int) then bnd (pY (kwr .i64 (b+2))) fun c=>bnd (pY b) fun d=>chk (d<=c/\c<=a.length) (QB n b a ((a.take c).drop d)) else QB n b a ([]:SS)
instance (n b a):LJ (QB n b a) [0,1] (fun c=>[(5,pS c)]):=⟨⟩
instance (n a b c):LL (VN n a b c) [6,7] (fun d=>[(8,pI d)]):=⟨⟩
instance (n a b):CC TP (UH n a b) 134 [PV.str a,PV.int .i64 b] RA5:=⟨fun r h=>by
 unfold UH at h;exact zN Tryz.call134 Tryz.func134 [1000000] au⟩
end W
end
section
set_option maxRecDepth 100000
set_option maxHeartbeats 20000000
open Go Go.Proofs Ax
attribute [local irreducible] zh rI uh
namespace W
def bP (n:Nat) (a:Int):Int×Int×SS×Int->Option (qk×Int×Int):=fun(b,c,d,e)=>some (qk.mk c d e a,b,0)
def Gm (n:Nat) (b:SS) (c:Int):LK (Int) (qk×Int×Int):=fun j a=>bnd (qz (a<(b.length:Int)) (idx b a)) fun k=>bnd (qz (a<(b.length:Int)) (gH n (k.toNat:Int))) fun d=>bnd (qz ((a<(b.length:Int))&&(!d)) (idx b a)) fun l=>bnd (qz ((a<(b.length:Int))&&(!d)) (fI n (l.toNat:Int))) fun m=>bif bif a<(b.length:Int) then bif d then true else m else false then j (kwr .i64 (a+1)) else bif kwr .i64 (a - c)>64 then some (qk.mk 0 ([]:SS) 0 c,0,1) else bnd (pY a) fun e=>bnd (pY c) fun g=>chk (g<=e/\e<=b.length) (bnd (rD n ((b.take e).drop g)) fun⟨o,p⟩=>bnd (pY a) fun f=>bnd (pY c) fun i=>chk (i<=f/\f<=b.length) (bif p then bP n c (a,2,o,0) else bP n c (a,1,(b.take f).drop i,0)))
def Gn (n:Nat) (b:SS) (c:Int):LK (Int) (qk×Int×Int):=fun g a=>bnd (qz (a<(b.length:Int)) (idx b a)) fun i=>bnd (qz (a<(b.length:Int)) (fI n (i.toNat:Int))) fun j=>bif bif a<(b.length:Int) then j else false then g (kwr .i64 (a+1)) else bnd (pY a) fun d=>bnd (pY c) fun e=>chk (e<=d/\d<=b.length) (bnd (Vi n ((b.take d).drop e)) fun⟨k,f⟩=>bif f != 0 then some (qk.mk 0 ([]:SS) 0 c,0,f) else bP n c (a,3,([]:SS),k))
def FN (n:Nat) (b:SS) (a:Int):Option (qk×Int×Int):= bnd (idx b a) fun d=>bnd (gH n (d.toNat:Int)) fun j=>bif j then qy (Gm n b a) n (kwr .i64 (a+1)) else bnd (fI n (d.toNat:Int)) fun e=>bif e then qy (Gn n b a) n (kwr .i64 (a+1)) else bif (d.toNat:Int)==39 then bnd (Zy n b a) fun⟨f,g,i⟩=>bif !i then some (qk.mk 0 ([]:SS) 0 a,0,1) else bP n a (g,4,f,0) else bnd (UH n b a) fun c=>bif c==([]:SS) then some (qk.mk 5 c 0 a,0,1) else bP n a (kwr .i64 (a+(c.length:Int)),5,c,0)
instance (n a):LJ (bP n a) [4,7] (fun(b,c,d,e)=>[(9,pI b)]) [0,1] (fun(b,c,d,e)=>[(1,.box 119 [pI c,pS d,pI e,pI a])]):=⟨⟩
instance (n a b):LL (Gm n a b) [0,1,4,7] (fun c=>[(9,pI c)]) [0,1]:=⟨⟩
instance (n a b):LL (Gn n a b) [0,1,4,7] (fun c=>[(9,pI c)]) [0,1]:=⟨⟩
instance (n a b):CC TP (FN n a b) 84 [PV.str a,PV.int .i64 b] RA9:=⟨fun r h=>by
 unfold FN at h;exact zN Tryz.call84 Tryz.func84 [1000000] au⟩
def QA (n:Nat) (b:List qk) (g:Int) (f:List qk×Int->Option (List qk×Int×Int)):Int×Int×SS×Int×Int->Option (List qk×Int×Int):=fun(i,a,c,d,e)=>bif ((qk.rows b).length:Int)≥4096 then some (([]:List qk),g,8) else chk ((qk.rows (b++[qk.mk a c d e])).length * 40<=140737488355328) (bif a==6 then some (b++[qk.mk a c d e],0,0) else f (b++[qk.mk a c d e],i))
def VM (n:Nat) (b:SS) (g:List qk) (e:List qk×Int->Option (List qk×Int×Int)):LK (Int) (List qk×Int×Int):=fun j a=>bnd (qz (a<(b.length:Int)) (idx b a)) fun c=>bnd (qz ((a<(b.length:Int))&&(!((c.toNat:Int)==32))) (idx b a)) fun d=>bnd (qz ((a<(b.length:Int))&&(!(bif (c.toNat:Int)==32 then true else (d.toNat:Int)==9))) (idx b a)) fun i=>bnd (qz ((a<(b.length:Int))&&(!(bif bif (c.toNat:Int)==32 then true else (d.toNat:Int)==9 then true else (i.toNat:Int)==10))) (idx b a)) fun q=>bif bif a<(b.length:Int) then bif bif bif (c.toNat:Int)==32 then true else (d.toNat:Int)==9 then true else (i.toNat:Int)==10 then true else (q.toNat:Int)==13 else false then j (kwr .i64 (a+1)) else bif a<(b.length:Int) then bnd (FN n b a) fun⟨⟨k,l,m,o⟩,p,f⟩=>bif f != 0 then some (([]:List qk),a,f) else QA n g a e (p,k,l,m,o) else QA n g a e (a,6,([]:SS),0,a)
def VK (n:Nat) (b:SS):LK (List qk×Int) (List qk×Int×Int):=fun a (c,d)=>qy (VM n b c a) n d
def UG (n:Nat) (a:SS):Option (List qk×Int×Int):= bif (a.length:Int)>16384 then some (([]:List qk),0,8) else qy (VK n a) n (([]:List _),0)
instance (n c):LL (VK n c) [0] (fun(a,b)=>[(5,.tsl 0 (qk.rows a)),(6,pI b)]) [0] (fun(a,b)=>[(0,.tail 119 4 (qk.rows a).length)]):=⟨⟩
instance (n b c a):LL (VM n b c a) [0,5] (fun d=>[(6,pI d)]) [0]:=⟨⟩
instance (n g i f):LJ (QA n g i f) [0,5,6,7] (fun(e,a,b,c,d)=>[(8,pI e)]) [0,1] (fun(e,a,b,c,d)=>[(1,.box 119 [pI a,pS b,pI c,pI d])]):=⟨⟩
instance (n a):CC TP (UG n a) 44 [PV.str a] qgn:=⟨fun r h=>by
 unfold UG at h;exact zN Tryz.call44 Tryz.func44 [1000000] au⟩
abbrev EL (_:List qk) (_:Int) (_ r:Bool):FV:=pB r
abbrev EJ (a:List qk) (b:Int) (c r:Bool):List AObj:=[.box 117 [pK a,pI b,pB c]]
def xQ (n:Nat) (b:SS) (c:List qk) (d:Int) (e:Bool):Option (Bool):= bnd (idx c d) fun⟨a,f,_,_⟩=>some (bif bif !e then bif a==5 then true else a==2 else false then f==b else false)
instance (n d a b c):CO TP (xQ n d a b c) 94 [.ptr 0 0,.p (PV.str d)] [.box 117 [pK a,pI b,pB c]] 1 (EL a b c) (EJ a b c):=⟨fun r h=>by
 unfold xQ at h;exact zO Tryz.call94 Tryz.func94 [40000001,1000000] au⟩
abbrev DN (_:List qk) (_:Int) (_:Bool) (r:Bool×Int):FV:=.p (.bool r.1)
abbrev DK (a:List qk) (_:Int) (b:Bool) (r:Bool×Int):List AObj:=[.box 117 [pK a,.p (.int .i64 r.2),pB b]]
def qm (n:Nat) (b:SS) (c:List qk) (a:Int) (d:Bool):Option (Bool×Int):= bnd (xQ n b c a d) fun e=>bif !e then some (false,a) else some (true,kwr .i64 (a+1))
instance (n d a b c):CO TP (qm n d a b c) 85 [.ptr 0 0,.p (PV.str d)] [.box 117 [pK a,pI b,pB c]] 1 (DN a b c) (DK a b c):=⟨fun r h=>by
 unfold qm at h;exact zO Tryz.call85 Tryz.func85 [94,1000000] au⟩
abbrev By (_:List qk) (_:Int) (_:Bool) (r:Int×Bool):FV:=.p (.tup [])
abbrev Bs (a:List qk) (_:Int) (_:Bool) (r:Int×Bool):List AObj:=[.box 117 [pK a,.p (.int .i64 r.1),.p (.bool r.2)]]
def qX (n:Nat) (c:SS) (d:List qk) (e:Int) (a:Bool):Option (Int×Bool):= bnd (qm n c d e a) fun⟨f,b⟩=>bif !f then some (b,true) else some (b,a)
instance (n d a b c):CO TP (qX n d a b c) 89 [.ptr 0 0,.p (PV.str d)] [.box 117 [pK a,pI b,pB c]] 1 (By a b c) (Bs a b c):=⟨fun r h=>by
 unfold qX at h;exact zO Tryz.call89 Tryz.func89 [85,1000000] au⟩
abbrev Bz (_:List qk) (_:Int) (_:Bool) (r:SS×Int×Bool):FV:=.p (.str r.1)
abbrev Bt (a:List qk) (_:Int) (_:Bool) (r:SS×Int×Bool):List AObj:=[.box 117 [pK a,.p (.int .i64 r.2.1),.p (.bool r.2.2)]]
def uO (n:Nat) (c:List qk) (a:Int) (b:Bool):Option (SS×Int×Bool):= bnd (idx c a) fun⟨d,e,_,_⟩=>bif bif b then true else d != 1 then some (([]:SS),a,true) else some (e,kwr .i64 (a+1),b)
instance (n a b c):CO TP (uO n a b c) 90 [.ptr 0 0] [.box 117 [pK a,pI b,pB c]] 1 (Bz a b c) (Bt a b c):=⟨fun r h=>by
 unfold uO at h;exact zO Tryz.call90 Tryz.func90 [40000001,1000000] au⟩
abbrev VW (_:List qk) (_:Int) (_:Bool) (r:SS×Int×Bool):FV:=.p (.str r.1)
abbrev VU (a:List qk) (_:Int) (_:Bool) (r:SS×Int×Bool):List AObj:=[.box 117 [pK a,.p (.int .i64 r.2.1),.p (.bool r.2.2)]]
def fT (n:Nat) (c:List qk) (b:Int) (a:Bool):Option (SS×Int×Bool):= bnd (qz (!a) (idx c b)) fun⟨e,_,_,_⟩=>bif bif a then true else e != 1 then some (([]:SS),b,a) else bnd (uO n c b a) fun⟨f,g,d⟩=>some (f,g,d)
instance (n a b c):CO TP (fT n a b c) 138 [.ptr 0 0] [.box 117 [pK a,pI b,pB c]] 1 (VW a b c) (VU a b c):=⟨fun r h=>by
 unfold fT at h;exact zO Tryz.call138 Tryz.func138 [90,1000000] au⟩
abbrev DO (_:List qk) (_:Int) (_:Bool) (r:SS×Int×Bool):FV:=.p (.str r.1)
abbrev DL (a:List qk) (_:Int) (_:Bool) (r:SS×Int×Bool):List AObj:=[.box 117 [pK a,.p (.int .i64 r.2.1),.p (.bool r.2.2)]]
def gT (n:Nat) (e:List qk) (b:Int) (c:Bool):Option (SS×Int×Bool):= bnd (idx e b) fun⟨a,d,_,_⟩=>bnd (qz (((!c)&&(a != 1))&&(!(a != 4))) (vZ n d)) fun f=>bif bif c then true else bif a != 1 then bif a != 4 then true else !f else false then some (([]:SS),b,true) else some (d,kwr .i64 (b+1),c)
instance (n a b c):CO TP (gT n a b c) 139 [.ptr 0 0] [.box 117 [pK a,pI b,pB c]] 1 (DO a b c) (DL a b c):=⟨fun r h=>by
 unfold gT at h;exact zO Tryz.call139 Tryz.func139 [40000001,1000000] au⟩
def nS (n:Nat) (b:Int) (a:qf):Option (qf):= match a with | ⟨e,f,⟨g,i,j,k,l,m⟩,c,d⟩=>some (qf.mk b ([]:SS) (Val.mk 0 false 0 ([]:SS) ([]:List Val) ([]:List SS)) ([]:List SS) [qf.mk e f (Val.mk g i j k l m) c d])
instance (n b a):CC TP (nS n b a) 233 [PV.int .i64 b,PV.agg (uj.cells a)] qfy:=⟨fun r h=>by
 obtain⟨_,_,⟨_,_,_,_,_,_⟩,_,_⟩:=a;unfold nS at h;exact zN Tryz.call233 Tryz.func233 [1000000] au⟩
def fU (n:Nat) (c:SS) (a b:qf):Option (qf):= match a,b with | ⟨p,t,⟨u,v,w,x,y,z⟩,d,e⟩,⟨f,g,⟨i,j,k,l,m,o⟩,q,s⟩=>some (qf.mk 10 c (Val.mk 0 false 0 ([]:SS) ([]:List Val) ([]:List SS)) ([]:List SS) [qf.mk p t (Val.mk u v w x y z) d e,qf.mk f g (Val.mk i j k l m o) q s])
instance (n c a b):CC TP (fU n c a b) 137 [PV.str c,PV.agg (uj.cells a),PV.agg (uj.cells b)] qfy:=⟨fun r h=>by
 obtain⟨_,_,⟨_,_,_,_,_,_⟩,_,_⟩:=a;obtain⟨_,_,⟨_,_,_,_,_,_⟩,_,_⟩:=b;unfold fU at h;exact zN Tryz.call137 Tryz.func137 [1000000] au⟩
end W
end
section
set_option maxRecDepth 100000
set_option maxHeartbeats 20000000
open Go Go.Proofs Ax
attribute [local irreducible] zh rI uh
namespace W
abbrev cS (_:List qk) (_:Int) (_:Bool) (r:(List SS)×(List qf)×Int×Bool):FV:=.p (.tup [.sl (qv r.1),.sl (qf.rows r.2.1)])
abbrev cQ (a:List qk) (_:Int) (_:Bool) (r:(List SS)×(List qf)×Int×Bool):List AObj:=[.box 117 [pK a,.p (.int .i64 r.2.2.1),.p (.bool r.2.2.2)]]
abbrev vJ:Type:=(List qk)->Int->Bool->Option (qf×Int×Bool)
def Zh (n:Nat) (a:List qk) (g88:vJ):LK (List SS×List qf×Int×Bool) ((List SS)×(List qf)×Int×Bool):=fun v (b,c,t,d)=>bif !d then bnd (gT n a t d) fun⟨e,w,x⟩=>bnd (qX n ([58]:SS) a w x) fun⟨y,z⟩=>bnd (g88 a y z) fun⟨⟨f,g,⟨i,j,k,l,m,o⟩,p,q⟩,A,s⟩=>chk ((qv (b++[e])).length * 16<=140737488355328) (chk ((qf.rows (c++[qf.mk f g (Val.mk i j k l m o) p q])).length * 160<=140737488355328) (bnd (qm n ([44]:SS) a A s) fun⟨B,u⟩=>bif !B then bnd (qX n ([125]:SS) a u s) fun⟨C,D⟩=>some (b++[e],c++[qf.mk f g (Val.mk i j k l m o) p q],C,D) else v (b++[e],c++[qf.mk f g (Val.mk i j k l m o) p q],u,s))) else some (b,c,t,d)
abbrev Fb:Type:=(List qk)->Int->Bool->Option ((List SS)×(List qf)×Int×Bool)
abbrev Fc:Type:=SS->(List qk)->Int->Bool->Option (qf×Int×Bool)
abbrev Fe:Type:=SS->(List qk)->Int->Bool->Option ((List qf)×Int×Bool)
def tI (n:Nat) (g140:Fb) (g88 g136:vJ) (g172 g201:vJ) (g234 g271:vJ) (g289 g308 g311:vJ) (g313:Fc) (g314:Fe) (a:List qk) (d:Int) (e:Bool):Option ((List SS)×(List qf)×Int×Bool):= bnd (qX n ([123]:SS) a d e) fun⟨f,b⟩=>bnd (qm n ([125]:SS) a f b) fun⟨g,c⟩=>bif g then some (([]:List SS),([]:List qf),c,b) else qy (Zh n a g88) n (([]:List _),([]:List _),c,b)
abbrev bf (_:List qk) (_:Int) (_:Bool) (r:qf×Int×Bool):FV:=.p ((PV.agg (uj.cells r.1)))
abbrev dW (a:List qk) (_:Int) (_:Bool) (r:qf×Int×Bool):List AObj:=[.box 117 [pK a,.p (.int .i64 r.2.1),.p (.bool r.2.2)]]
def ZE (n:Nat) (b:List qk) (g136:vJ):LK (Int×Bool×Int×SS×Int×Bool×Int×SS×List Val×List SS×List SS×List qf) (qf×Int×Bool):=fun p (q,a,c,d,e,f,g,i,j,k,l,m)=>bnd (qm n ([79,82]:SS) b q a) fun⟨s,o⟩=>bif s then bnd (g136 b o a) fun⟨⟨t,u,⟨v,w,x,y,z,A⟩,B,C⟩,D,E⟩=>bnd (fU n ([79,82]:SS) (qf.mk c d (Val.mk e f g i j k) l m) (qf.mk t u (Val.mk v w x y z A) B C)) fun⟨F,G,⟨H,I,J,K,L,M⟩,N,O⟩=>p (D,E,F,G,H,I,J,K,L,M,N,O) else some (qf.mk c d (Val.mk e f g i j k) l m,o,a)
def Qv (n:Nat) (g140:Fb) (g88 g136:vJ) (g172 g201:vJ) (g234 g271:vJ) (g289 g308 g311:vJ) (g313:Fc) (g314:Fe) (a:List qk) (i:Int) (j:Bool):Option (qf×Int×Bool):= bnd (g136 a i j) fun⟨⟨k,l,⟨m,o,p,q,b,c⟩,d,e⟩,f,g⟩=>qy (ZE n a g136) n (f,g,k,l,m,o,p,q,b,c,d,e)
abbrev mR (_:List qk) (_:Int) (_:Bool) (r:qf×Int×Bool):FV:=.p ((PV.agg (uj.cells r.1)))
abbrev mM (a:List qk) (_:Int) (_:Bool) (r:qf×Int×Bool):List AObj:=[.box 117 [pK a,.p (.int .i64 r.2.1),.p (.bool r.2.2)]]
def XW (n:Nat) (b:List qk) (g172:vJ):LK (Int×Bool×Int×SS×Int×Bool×Int×SS×List Val×List SS×List SS×List qf) (qf×Int×Bool):=fun p (q,a,c,d,e,f,g,i,j,k,l,m)=>bnd (qm n ([88,79,82]:SS) b q a) fun⟨s,o⟩=>bif s then bnd (g172 b o a) fun⟨⟨t,u,⟨v,w,x,y,z,A⟩,B,C⟩,D,E⟩=>bnd (fU n ([88,79,82]:SS) (qf.mk c d (Val.mk e f g i j k) l m) (qf.mk t u (Val.mk v w x y z A) B C)) fun⟨F,G,⟨H,I,J,K,L,M⟩,N,O⟩=>p (D,E,F,G,H,I,J,K,L,M,N,O) else some (qf.mk c d (Val.mk e f g i j k) l m,o,a)
def Zu (n:Nat) (g140:Fb) (g88 g136:vJ) (g172 g201:vJ) (g234 g271:vJ) (g289 g308 g311:vJ) (g313:Fc) (g314:Fe) (a:List qk) (i:Int) (j:Bool):Option (qf×Int×Bool):= bnd (g172 a i j) fun⟨⟨k,l,⟨m,o,p,q,b,c⟩,d,e⟩,f,g⟩=>qy (XW n a g172) n (f,g,k,l,m,o,p,q,b,c,d,e)
abbrev mO (_:List qk) (_:Int) (_:Bool) (r:qf×Int×Bool):FV:=.p ((PV.agg (uj.cells r.1)))
abbrev mJ (a:List qk) (_:Int) (_:Bool) (r:qf×Int×Bool):List AObj:=[.box 117 [pK a,.p (.int .i64 r.2.1),.p (.bool r.2.2)]]
def XU (n:Nat) (b:List qk) (g201:vJ):LK (Int×Bool×Int×SS×Int×Bool×Int×SS×List Val×List SS×List SS×List qf) (qf×Int×Bool):=fun p (q,a,c,d,e,f,g,i,j,k,l,m)=>bnd (qm n ([65,78,68]:SS) b q a) fun⟨s,o⟩=>bif s then bnd (g201 b o a) fun⟨⟨t,u,⟨v,w,x,y,z,A⟩,B,C⟩,D,E⟩=>bnd (fU n ([65,78,68]:SS) (qf.mk c d (Val.mk e f g i j k) l m) (qf.mk t u (Val.mk v w x y z A) B C)) fun⟨F,G,⟨H,I,J,K,L,M⟩,N,O⟩=>p (D,E,F,G,H,I,J,K,L,M,N,O) else some (qf.mk c d (Val.mk e f g i j k) l m,o,a)
def Zr (n:Nat) (g140:Fb) (g88 g136:vJ) (g172 g201:vJ) (g234 g271:vJ) (g289 g308 g311:vJ) (g313:Fc) (g314:Fe) (a:List qk) (i:Int) (j:Bool):Option (qf×Int×Bool):= bnd (g201 a i j) fun⟨⟨k,l,⟨m,o,p,q,b,c⟩,d,e⟩,f,g⟩=>qy (XU n a g201) n (f,g,k,l,m,o,p,q,b,c,d,e)
abbrev mP (_:List qk) (_:Int) (_:Bool) (r:qf×Int×Bool):FV:=.p ((PV.agg (uj.cells r.1)))
abbrev mK (a:List qk) (_:Int) (_:Bool) (r:qf×Int×Bool):List AObj:=[.box 117 [pK a,.p (.int .i64 r.2.1),.p (.bool r.2.2)]]
def Zs (n:Nat) (g140:Fb) (g88 g136:vJ) (g172 g201:vJ) (g234 g271:vJ) (g289 g308 g311:vJ) (g313:Fc) (g314:Fe) (a:List qk) (p:Int) (b:Bool):Option (qf×Int×Bool):= bnd (qm n ([78,79,84]:SS) a p b) fun⟨L,c⟩=>bif L then bnd (g201 a c b) fun⟨⟨M,N,⟨O,P,d,e,f,g⟩,i,j⟩,k,l⟩=>bnd (nS n 9 (qf.mk M N (Val.mk O P d e f g) i j)) fun⟨m,o,⟨q,s,t,u,v,w⟩,x,y⟩=>some (qf.mk m o (Val.mk q s t u v w) x y,k,l) else bnd (g234 a c b) fun⟨⟨z,A,⟨B,C,D,E,F,G⟩,H,I⟩,J,K⟩=>some (qf.mk z A (Val.mk B C D E F G) H I,J,K)
abbrev bl (_:List qk) (_:Int) (_:Bool) (r:qf×Int×Bool):FV:=.p ((PV.agg (uj.cells r.1)))
abbrev bc (a:List qk) (_:Int) (_:Bool) (r:qf×Int×Bool):List AObj:=[.box 117 [pK a,.p (.int .i64 r.2.1),.p (.bool r.2.2)]]
def ZL (n:Nat) (c:List qk) (b:Bool) (g271:vJ) (i:Int) (l:SS) (m:Int) (o:Bool) (p:Int) (q:SS) (d:List Val) (e f:List SS) (g:List qf):LK (Int×Int) (qf×Int×Bool):=fun s (a,j)=>bif a<((qv [([61]:SS),([60,62]:SS),([60,61]:SS),([60]:SS),([62,61]:SS),([62]:SS),([73,78]:SS)]).length:Int) then bnd (idx [([61]:SS),([60,62]:SS),([60,61]:SS),([60]:SS),([62,61]:SS),([62]:SS),([73,78]:SS)] a) fun t=>bnd (qm n t c j b) fun⟨u,k⟩=>bif u then bnd (g271 c k b) fun⟨⟨v,w,⟨x,y,z,A,B,C⟩,D,E⟩,F,G⟩=>bnd (idx [([61]:SS),([60,62]:SS),([60,61]:SS),([60]:SS),([62,61]:SS),([62]:SS),([73,78]:SS)] a) fun H=>bnd (fU n H (qf.mk i l (Val.mk m o p q d e) f g) (qf.mk v w (Val.mk x y z A B C) D E)) fun⟨I,J,⟨K,L,M,N,O,P⟩,Q,R⟩=>some (qf.mk I J (Val.mk K L M N O P) Q R,F,G) else s (kwr .i64 (a+1),k) else some (qf.mk i l (Val.mk m o p q d e) f g,j,b)
def Qz (n:Nat) (g140:Fb) (g88 g136:vJ) (g172 g201:vJ) (g234 g271:vJ) (g289 g308 g311:vJ) (g313:Fc) (g314:Fe) (a:List qk) (w:Int) (F:Bool):Option (qf×Int×Bool):= bnd (g271 a w F) fun⟨⟨g,i,⟨j,k,l,m,c,d⟩,e,f⟩,s,b⟩=>bnd (qm n ([73,83]:SS) a s b) fun⟨t,o⟩=>bif t then bnd (qm n ([78,79,84]:SS) a o b) fun⟨u,v⟩=>bnd (qX n ([78,85,76,76]:SS) a v b) fun⟨p,q⟩=>bif u then bnd (nS n 12 (qf.mk g i (Val.mk j k l m c d) e f)) fun⟨x,y,⟨z,A,B,C,D,E⟩,G,H⟩=>some (qf.mk x y (Val.mk z A B C D E) G H,p,q) else bnd (nS n 11 (qf.mk g i (Val.mk j k l m c d) e f)) fun⟨I,J,⟨K,L,M,N,O,P⟩,Q,R⟩=>some (qf.mk I J (Val.mk K L M N O P) Q R,p,q) else qy (ZL n a b g271 g i j k l m c d e f) n (0,o)
abbrev mQ (_:List qk) (_:Int) (_:Bool) (r:qf×Int×Bool):FV:=.p ((PV.agg (uj.cells r.1)))
abbrev mL (a:List qk) (_:Int) (_:Bool) (r:qf×Int×Bool):List AObj:=[.box 117 [pK a,.p (.int .i64 r.2.1),.p (.bool r.2.2)]]
def XV (n:Nat) (b:List qk) (g289:vJ):LK (Int×Bool×Int×SS×Int×Bool×Int×SS×List Val×List SS×List SS×List qf) (qf×Int×Bool):=fun q (a,c,d,e,f,g,i,j,k,l,m,o)=>bnd (xQ n ([43]:SS) b a c) fun p=>bif !p then bnd (xQ n ([45]:SS) b a c) fun s=>bif bif p then true else s then bnd (idx b a) fun⟨_,t,_,_⟩=>bnd (g289 b (kwr .i64 (a+1)) c) fun⟨⟨u,v,⟨w,x,y,z,A,B⟩,C,D⟩,E,F⟩=>bnd (fU n t (qf.mk d e (Val.mk f g i j k l) m o) (qf.mk u v (Val.mk w x y z A B) C D)) fun⟨G,H,⟨I,J,K,L,M,N⟩,O,P⟩=>q (E,F,G,H,I,J,K,L,M,N,O,P) else some (qf.mk d e (Val.mk f g i j k l) m o,a,c) else bif bif p then true else false then bnd (idx b a) fun⟨_,Q,_,_⟩=>bnd (g289 b (kwr .i64 (a+1)) c) fun⟨⟨R,S,⟨T,U,V,W,X,Y⟩,Z,a0⟩,a1,a2⟩=>bnd (fU n Q (qf.mk d e (Val.mk f g i j k l) m o) (qf.mk R S (Val.mk T U V W X Y) Z a0)) fun⟨a3,a4,⟨a5,a6,a7,a8,a9,b0⟩,b1,b2⟩=>q (a1,a2,a3,a4,a5,a6,a7,a8,a9,b0,b1,b2) else some (qf.mk d e (Val.mk f g i j k l) m o,a,c)
def Zt (n:Nat) (g140:Fb) (g88 g136:vJ) (g172 g201:vJ) (g234 g271:vJ) (g289 g308 g311:vJ) (g313:Fc) (g314:Fe) (a:List qk) (i:Int) (j:Bool):Option (qf×Int×Bool):= bnd (g289 a i j) fun⟨⟨k,l,⟨m,o,p,q,b,c⟩,d,e⟩,f,g⟩=>qy (XV n a g289) n (f,g,k,l,m,o,p,q,b,c,d,e)
abbrev fx (_:List qk) (_:Int) (_:Bool) (r:qf×Int×Bool):FV:=.p ((PV.agg (uj.cells r.1)))
abbrev fw (a:List qk) (_:Int) (_:Bool) (r:qf×Int×Bool):List AObj:=[.box 117 [pK a,.p (.int .i64 r.2.1),.p (.bool r.2.2)]]
def tn (n:Nat) (b:List qk) (g308:vJ):LK (Int×Bool×Int×SS×Int×Bool×Int×SS×List Val×List SS×List SS×List qf) (qf×Int×Bool):=fun q (a,c,d,e,f,g,i,j,k,l,m,o)=>bnd (xQ n ([42]:SS) b a c) fun p=>bif !p then bnd (xQ n ([47]:SS) b a c) fun s=>bif !(bif p then true else s) then bnd (xQ n ([37]:SS) b a c) fun a0=>bif bif bif p then true else s then true else a0 then bnd (idx b a) fun⟨_,a1,_,_⟩=>bnd (g308 b (kwr .i64 (a+1)) c) fun⟨⟨a2,a3,⟨a4,a5,a6,a7,a8,a9⟩,b0,b1⟩,b2,b3⟩=>bnd (fU n a1 (qf.mk d e (Val.mk f g i j k l) m o) (qf.mk a2 a3 (Val.mk a4 a5 a6 a7 a8 a9) b0 b1)) fun⟨b4,b5,⟨b6,b7,b8,b9,c0,c1⟩,c2,c3⟩=>q (b2,b3,b4,b5,b6,b7,b8,b9,c0,c1,c2,c3) else some (qf.mk d e (Val.mk f g i j k l) m o,a,c) else bif bif bif p then true else s then true else false then bnd (idx b a) fun⟨_,c4,_,_⟩=>bnd (g308 b (kwr .i64 (a+1)) c) fun⟨⟨c5,c6,⟨c7,c8,c9,d0,d1,d2⟩,d3,d4⟩,d5,d6⟩=>bnd (fU n c4 (qf.mk d e (Val.mk f g i j k l) m o) (qf.mk c5 c6 (Val.mk c7 c8 c9 d0 d1 d2) d3 d4)) fun⟨d7,d8,⟨d9,e0,e1,e2,e3,e4⟩,e5,e6⟩=>q (d5,d6,d7,d8,d9,e0,e1,e2,e3,e4,e5,e6) else some (qf.mk d e (Val.mk f g i j k l) m o,a,c) else bif !(bif p then true else false) then bnd (xQ n ([37]:SS) b a c) fun e7=>bif bif bif p then true else false then true else e7 then bnd (idx b a) fun⟨_,e8,_,_⟩=>bnd (g308 b (kwr .i64 (a+1)) c) fun⟨⟨e9,f0,⟨f1,f2,f3,f4,f5,f6⟩,f7,f8⟩,f9,g0⟩=>bnd (fU n e8 (qf.mk d e (Val.mk f g i j k l) m o) (qf.mk e9 f0 (Val.mk f1 f2 f3 f4 f5 f6) f7 f8)) fun⟨t,u,⟨v,w,x,y,z,A⟩,B,C⟩=>q (f9,g0,t,u,v,w,x,y,z,A,B,C) else some (qf.mk d e (Val.mk f g i j k l) m o,a,c) else bif bif bif p then true else false then true else false then bnd (idx b a) fun⟨_,D,_,_⟩=>bnd (g308 b (kwr .i64 (a+1)) c) fun⟨⟨E,F,⟨G,H,I,J,K,L⟩,M,N⟩,O,P⟩=>bnd (fU n D (qf.mk d e (Val.mk f g i j k l) m o) (qf.mk E F (Val.mk G H I J K L) M N)) fun⟨Q,R,⟨S,T,U,V,W,X⟩,Y,Z⟩=>q (O,P,Q,R,S,T,U,V,W,X,Y,Z) else some (qf.mk d e (Val.mk f g i j k l) m o,a,c)
def pn (n:Nat) (g140:Fb) (g88 g136:vJ) (g172 g201:vJ) (g234 g271:vJ) (g289 g308 g311:vJ) (g313:Fc) (g314:Fe) (a:List qk) (i:Int) (j:Bool):Option (qf×Int×Bool):= bnd (g308 a i j) fun⟨⟨k,l,⟨m,o,p,q,b,c⟩,d,e⟩,f,g⟩=>qy (tn n a g308) n (f,g,k,l,m,o,p,q,b,c,d,e)
abbrev cR (_:List qk) (_:Int) (_:Bool) (r:qf×Int×Bool):FV:=.p ((PV.agg (uj.cells r.1)))
abbrev cP (a:List qk) (_:Int) (_:Bool) (r:qf×Int×Bool):List AObj:=[.box 117 [pK a,.p (.int .i64 r.2.1),.p (.bool r.2.2)]]
def Zf (n:Nat) (b:List qk) (g88:vJ):LK (Int×Bool×Int×SS×Int×Bool×Int×SS×List Val×List SS×List SS×List qf) (qf×Int×Bool):=fun o (t,a,c,d,e,f,g,i,j,k,l,m)=>bnd (qm n ([46]:SS) b t a) fun⟨u,q⟩=>bif u then bnd (nS n 4 (qf.mk c d (Val.mk e f g i j k) l m)) fun⟨v,_,⟨w,x,y,z,A,B⟩,C,D⟩=>bnd (gT n b q a) fun⟨E,F,G⟩=>o (F,G,v,E,w,x,y,z,A,B,C,D) else bnd (qm n ([91]:SS) b q a) fun⟨H,p⟩=>bif H then bnd (g88 b p a) fun⟨⟨I,J,⟨K,L,M,N,O,P⟩,Q,R⟩,S,T⟩=>bnd (qX n ([93]:SS) b S T) fun⟨U,V⟩=>o (U,V,7,([]:SS),0,false,0,([]:SS),([]:List _),([]:List _),([]:List _),[qf.mk c d (Val.mk e f g i j k) l m,qf.mk I J (Val.mk K L M N O P) Q R]) else bif c==2 then bnd (qm n ([58]:SS) b p a) fun⟨W,s⟩=>bif bif c==2 then W else false then bnd (nS n 15 (qf.mk c d (Val.mk e f g i j k) l m)) fun⟨X,_,⟨Y,Z,a0,a1,a2,a3⟩,a4,a5⟩=>bnd (gT n b s a) fun⟨a6,a7,a8⟩=>o (a7,a8,X,a6,Y,Z,a0,a1,a2,a3,a4,a5) else some (qf.mk c d (Val.mk e f g i j k) l m,s,a) else some (qf.mk c d (Val.mk e f g i j k) l m,p,a)
def tH (n:Nat) (g140:Fb) (g88 g136:vJ) (g172 g201:vJ) (g234 g271:vJ) (g289 g308 g311:vJ) (g313:Fc) (g314:Fe) (a:List qk) (p:Int) (b:Bool):Option (qf×Int×Bool):= bnd (qm n ([45]:SS) a p b) fun⟨L,c⟩=>bif L then bnd (g308 a c b) fun⟨⟨M,N,⟨O,P,d,e,f,g⟩,i,j⟩,k,l⟩=>bnd (nS n 8 (qf.mk M N (Val.mk O P d e f g) i j)) fun⟨m,o,⟨q,s,t,u,v,w⟩,x,y⟩=>some (qf.mk m o (Val.mk q s t u v w) x y,k,l) else bnd (g311 a c b) fun⟨⟨z,A,⟨B,C,D,E,F,G⟩,H,I⟩,J,K⟩=>qy (Zf n a g88) n (J,K,z,A,B,C,D,E,F,G,H,I)
abbrev bg (_:List qk) (_:Int) (_:Bool) (r:qf×Int×Bool):FV:=.p ((PV.agg (uj.cells r.1)))
abbrev dX (a:List qk) (_:Int) (_:Bool) (r:qf×Int×Bool):List AObj:=[.box 117 [pK a,.p (.int .i64 r.2.1),.p (.bool r.2.2)]]
def Qw (n:Nat) (g140:Fb) (g88 g136:vJ) (g172 g201:vJ) (g234 g271:vJ) (g289 g308 g311:vJ) (g313:Fc) (g314:Fe) (b:List qk) (c:Int) (a:Bool):Option (qf×Int×Bool):= bif a then some (qf.mk 0 ([]:SS) (Val.mk 0 false 0 ([]:SS) ([]:List Val) ([]:List SS)) ([]:List SS) ([]:List qf),c,a) else bnd (idx b c) fun⟨e,f,a6,_⟩=>bif e==3 then some (qf.mk 1 ([]:SS) (Val.mk 2 false a6 ([]:SS) ([]:List Val) ([]:List SS)) ([]:List SS) ([]:List qf),kwr .i64 (c+1),a) else bif e==4 then some (qf.mk 1 ([]:SS) (Val.mk 3 false 0 f ([]:List Val) ([]:List SS)) ([]:List SS) ([]:List qf),kwr .i64 (c+1),a) else bif e==1 then bnd (qm n ([40]:SS) b (kwr .i64 (c+1)) a) fun⟨a7,m⟩=>bif a7 then bnd (g313 f b m a) fun⟨⟨o,p,⟨q,s,t,u,v,w⟩,x,y⟩,z,A⟩=>some (qf.mk o p (Val.mk q s t u v w) x y,z,A) else some (qf.mk 2 f (Val.mk 0 false 0 ([]:SS) ([]:List Val) ([]:List SS)) ([]:List SS) ([]:List qf),m,a) else bnd (qm n ([78,85,76,76]:SS) b c a) fun⟨B,g⟩=>bif B then some (qf.mk 1 ([]:SS) (Val.mk 0 false 0 ([]:SS) ([]:List Val) ([]:List SS)) ([]:List SS) ([]:List qf),g,a) else bnd (qm n ([84,82,85,69]:SS) b g a) fun⟨C,i⟩=>bif C then some (qf.mk 1 ([]:SS) (Val.mk 1 true 0 ([]:SS) ([]:List Val) ([]:List SS)) ([]:List SS) ([]:List qf),i,a) else bnd (qm n ([70,65,76,83,69]:SS) b i a) fun⟨D,j⟩=>bif D then some (qf.mk 1 ([]:SS) (Val.mk 1 false 0 ([]:SS) ([]:List Val) ([]:List SS)) ([]:List SS) ([]:List qf),j,a) else bnd (qm n ([36]:SS) b j a) fun⟨E,k⟩=>bif E then bnd (uO n b k a) fun⟨F,G,H⟩=>some (qf.mk 3 F (Val.mk 0 false 0 ([]:SS) ([]:List Val) ([]:List SS)) ([]:List SS) ([]:List qf),G,H) else bnd (qm n ([40]:SS) b k a) fun⟨I,l⟩=>bif I then bnd (g88 b l a) fun⟨⟨J,K,⟨L,M,N,O,P,Q⟩,R,S⟩,T,U⟩=>bnd (qX n ([41]:SS) b T U) fun⟨V,W⟩=>some (qf.mk J K (Val.mk L M N O P Q) R S,V,W) else bnd (qm n ([91]:SS) b l a) fun⟨X,d⟩=>bif X then bnd (g314 ([93]:SS) b d a) fun⟨Y,Z,a0⟩=>some (qf.mk 5 ([]:SS) (Val.mk 0 false 0 ([]:SS) ([]:List Val) ([]:List SS)) ([]:List SS) Y,Z,a0) else bnd (xQ n ([123]:SS) b d a) fun a1=>bif a1 then bnd (g140 b d a) fun⟨a2,a3,a4,a5⟩=>some (qf.mk 6 ([]:SS) (Val.mk 0 false 0 ([]:SS) ([]:List Val) ([]:List SS)) a2 a3,a4,a5) else some (qf.mk 0 ([]:SS) (Val.mk 0 false 0 ([]:SS) ([]:List Val) ([]:List SS)) ([]:List SS) ([]:List qf),d,true)
abbrev bh (_:List qk) (_:Int) (_:Bool) (r:qf×Int×Bool):FV:=.p ((PV.agg (uj.cells r.1)))
abbrev dY (a:List qk) (_:Int) (_:Bool) (r:qf×Int×Bool):List AObj:=[.box 117 [pK a,.p (.int .i64 r.2.1),.p (.bool r.2.2)]]
def Qx (n:Nat) (g140:Fb) (g88 g136:vJ) (g172 g201:vJ) (g234 g271:vJ) (g289 g308 g311:vJ) (g313:Fc) (g314:Fe) (a:SS) (b:List qk) (d:Int) (c:Bool):Option (qf×Int×Bool):= bnd (cz n a) fun M=>bif !M then bnd (g314 ([41]:SS) b d c) fun⟨N,O,P⟩=>some (qf.mk 13 a (Val.mk 0 false 0 ([]:SS) ([]:List Val) ([]:List SS)) ([]:List SS) N,O,P) else bif a==([99,111,117,110,116]:SS) then bnd (qm n ([42]:SS) b d c) fun⟨Q,e⟩=>bif bif a==([99,111,117,110,116]:SS) then Q else false then bnd (qX n ([41]:SS) b e c) fun⟨f,g⟩=>some (qf.mk 14 a (Val.mk 0 false 0 ([]:SS) ([]:List Val) ([]:List SS)) ([]:List SS) ([]:List qf),f,g) else bnd (g88 b e c) fun⟨⟨i,j,⟨k,l,m,o,p,q⟩,s,t⟩,u,v⟩=>bnd (qX n ([41]:SS) b u v) fun⟨w,x⟩=>some (qf.mk 14 a (Val.mk 0 false 0 ([]:SS) ([]:List Val) ([]:List SS)) ([]:List SS) [qf.mk i j (Val.mk k l m o p q) s t],w,x) else bnd (g88 b d c) fun⟨⟨y,z,⟨A,B,C,D,E,F⟩,G,H⟩,I,J⟩=>bnd (qX n ([41]:SS) b I J) fun⟨K,L⟩=>some (qf.mk 14 a (Val.mk 0 false 0 ([]:SS) ([]:List Val) ([]:List SS)) ([]:List SS) [qf.mk y z (Val.mk A B C D E F) G H],K,L)
abbrev bj (_:List qk) (_:Int) (_:Bool) (r:(List qf)×Int×Bool):FV:=.p (.sl (qf.rows r.1))
abbrev dZ (a:List qk) (_:Int) (_:Bool) (r:(List qf)×Int×Bool):List AObj:=[.box 117 [pK a,.p (.int .i64 r.2.1),.p (.bool r.2.2)]]
def ZF (n:Nat) (g88:vJ) (l:List qk) (s:SS):LK (List qf×Int×Bool) ((List qf)×Int×Bool):=fun q (o,x,y)=>bnd (g88 l x y) fun⟨⟨a,b,⟨c,d,e,f,g,i⟩,j,k⟩,t,m⟩=>chk ((qf.rows (o++[qf.mk a b (Val.mk c d e f g i) j k])).length * 160<=140737488355328) (bnd (qm n ([44]:SS) l t m) fun⟨u,p⟩=>bif !u then bnd (qX n s l p m) fun⟨v,w⟩=>some (o++[qf.mk a b (Val.mk c d e f g i) j k],v,w) else q (o++[qf.mk a b (Val.mk c d e f g i) j k],p,m))
def Qy (n:Nat) (g140:Fb) (g88 g136:vJ) (g172 g201:vJ) (g234 g271:vJ) (g289 g308 g311:vJ) (g313:Fc) (g314:Fe) (b:SS) (c:List qk) (e:Int) (a:Bool):Option ((List qf)×Int×Bool):= bnd (qm n b c e a) fun⟨f,d⟩=>bif f then some (([]:List qf),d,a) else qy (ZF n g88 c b) n (([]:List _),d,a)
instance (n c g88):LL (Zh n c g88) [0] (fun(a,b,d,e)=>[(4,.tsl 1 (qv a)),(5,.tsl 2 (qf.rows b))]) [0,0,0] (fun(a,b,d,e)=>[(0,.box 117 [pK c,pI d,pB e]),(1,.tail 9 1 (qv a).length),(2,.tail 42 10 (qf.rows b).length)]):=⟨⟩
abbrev RA (g140:Fb):Prop:=∀(a:List qk) (b:Int) (c:Bool) (r:(List SS)×(List qf)×Int×Bool),g140 a b c=some r->zw TP 140 [.ptr 0 0] [.box 117 [pK a,pI b,pB c]] 1 (fun v lo=>v=cS a b c r/\lo=cQ a b c r)
abbrev RB (g88:vJ):Prop:=∀(a:List qk) (b:Int) (c:Bool) (r:qf×Int×Bool),g88 a b c=some r->zw TP 88 [.ptr 0 0] [.box 117 [pK a,pI b,pB c]] 1 (fun v lo=>v=bf a b c r/\lo=dW a b c r)
abbrev RC (g136:vJ):Prop:=∀(a:List qk) (b:Int) (c:Bool) (r:qf×Int×Bool),g136 a b c=some r->zw TP 136 [.ptr 0 0] [.box 117 [pK a,pI b,pB c]] 1 (fun v lo=>v=mR a b c r/\lo=mM a b c r)
abbrev RD (g172:vJ):Prop:=∀(a:List qk) (b:Int) (c:Bool) (r:qf×Int×Bool),g172 a b c=some r->zw TP 172 [.ptr 0 0] [.box 117 [pK a,pI b,pB c]] 1 (fun v lo=>v=mO a b c r/\lo=mJ a b c r)
abbrev RE (g201:vJ):Prop:=∀(a:List qk) (b:Int) (c:Bool) (r:qf×Int×Bool),g201 a b c=some r->zw TP 201 [.ptr 0 0] [.box 117 [pK a,pI b,pB c]] 1 (fun v lo=>v=mP a b c r/\lo=mK a b c r)
abbrev RF (g234:vJ):Prop:=∀(a:List qk) (b:Int) (c:Bool) (r:qf×Int×Bool),g234 a b c=some r->zw TP 234 [.ptr 0 0] [.box 117 [pK a,pI b,pB c]] 1 (fun v lo=>v=bl a b c r/\lo=bc a b c r)
abbrev RG (g271:vJ):Prop:=∀(a:List qk) (b:Int) (c:Bool) (r:qf×Int×Bool),g271 a b c=some r->zw TP 271 [.ptr 0 0] [.box 117 [pK a,pI b,pB c]] 1 (fun v lo=>v=mQ a b c r/\lo=mL a b c r)
abbrev RH (g289:vJ):Prop:=∀(a:List qk) (b:Int) (c:Bool) (r:qf×Int×Bool),g289 a b c=some r->zw TP 289 [.ptr 0 0] [.box 117 [pK a,pI b,pB c]] 1 (fun v lo=>v=fx a b c r/\lo=fw a b c r)
abbrev RI (g308:vJ):Prop:=∀(a:List qk) (b:Int) (c:Bool) (r:qf×Int×Bool),g308 a b c=some r->zw TP 308 [.ptr 0 0] [.box 117 [pK a,pI b,pB c]] 1 (fun v lo=>v=cR a b c r/\lo=cP a b c r)
abbrev RJ (g311:vJ):Prop:=∀(a:List qk) (b:Int) (c:Bool) (r:qf×Int×Bool),g311 a b c=some r->zw TP 311 [.ptr 0 0] [.box 117 [pK a,pI b,pB c]] 1 (fun v lo=>v=bg a b c r/\lo=dX a b c r)
abbrev GZ (g313:Fc):Prop:=∀(d:SS) (a:List qk) (b:Int) (c:Bool) (r:qf×Int×Bool),g313 d a b c=some r->zw TP 313 [.ptr 0 0,.p (PV.str d)] [.box 117 [pK a,pI b,pB c]] 1 (fun v lo=>v=bh a b c r/\lo=dY a b c r)
abbrev Fa (g314:Fe):Prop:=∀(d:SS) (a:List qk) (b:Int) (c:Bool) (r:(List qf)×Int×Bool),g314 d a b c=some r->zw TP 314 [.ptr 0 0,.p (PV.str d)] [.box 117 [pK a,pI b,pB c]] 1 (fun v lo=>v=bj a b c r/\lo=dZ a b c r)
theorem UA (n:Nat) (g140:Fb) (g88 g136:vJ) (g172 g201:vJ) (g234 g271:vJ) (g289 g308 g311:vJ) (g313:Fc) (g314:Fe) (g140_ok:RA g140) (g88_ok:RB g88) (g136_ok:RC g136) (g172_ok:RD g172) (g201_ok:RE g201) (g234_ok:RF g234) (g271_ok:RG g271) (g289_ok:RH g289) (g308_ok:RI g308) (g311_ok:RJ g311) (g313_ok:GZ g313) (g314_ok:Fa g314):∀(a:List qk) (b:Int) (c:Bool) (r:(List SS)×(List qf)×Int×Bool),tI n g140 g88 g136 g172 g201 g234 g271 g289 g308 g311 g313 g314 a b c=some r->zw TP 140 [.ptr 0 0] [.box 117 [pK a,pI b,pB c]] 1 (fun v lo=>v=cS a b c r/\lo=cQ a b c r):=by
 have:=fun a b c=>CO.mk (g140_ok a b c);have:=fun a b c=>CO.mk (g88_ok a b c);have:=fun a b c=>CO.mk (g136_ok a b c);have:=fun a b c=>CO.mk (g172_ok a b c);have:=fun a b c=>CO.mk (g201_ok a b c);have:=fun a b c=>CO.mk (g234_ok a b c);have:=fun a b c=>CO.mk (g271_ok a b c);have:=fun a b c=>CO.mk (g289_ok a b c);have:=fun a b c=>CO.mk (g308_ok a b c);have:=fun a b c=>CO.mk (g311_ok a b c);have:=fun a b c d=>CO.mk (g313_ok a b c d);have:=fun a b c d=>CO.mk (g314_ok a b c d);intro a b c r h;unfold tI at h;exact zO Tryz.call140 Tryz.func140 [85,88,89,139,1000000] au
instance (n a g136):LL (ZE n a g136) [0,2,3] (fun(b,c,d,e,f,g,i,j,k,l,m,o)=>[]) [0,1,2] (fun(b,c,d,e,f,g,i,j,k,l,m,o)=>[(0,.box 117 [pK a,pI b,pB c]),(2,.box 42 [pI d,pS e,pI f,pB g,pI i,pS j,pV k,pT l,pT m,pE o])]):=⟨⟩
theorem GI (n:Nat) (g140:Fb) (g88 g136:vJ) (g172 g201:vJ) (g234 g271:vJ) (g289 g308 g311:vJ) (g313:Fc) (g314:Fe) (g140_ok:RA g140) (g88_ok:RB g88) (g136_ok:RC g136) (g172_ok:RD g172) (g201_ok:RE g201) (g234_ok:RF g234) (g271_ok:RG g271) (g289_ok:RH g289) (g308_ok:RI g308) (g311_ok:RJ g311) (g313_ok:GZ g313) (g314_ok:Fa g314):∀(a:List qk) (b:Int) (c:Bool) (r:qf×Int×Bool),Qv n g140 g88 g136 g172 g201 g234 g271 g289 g308 g311 g313 g314 a b c=some r->zw TP 88 [.ptr 0 0] [.box 117 [pK a,pI b,pB c]] 1 (fun v lo=>v=bf a b c r/\lo=dW a b c r):=by
 have:=fun a b c=>CO.mk (g140_ok a b c);have:=fun a b c=>CO.mk (g88_ok a b c);have:=fun a b c=>CO.mk (g136_ok a b c);have:=fun a b c=>CO.mk (g172_ok a b c);have:=fun a b c=>CO.mk (g201_ok a b c);have:=fun a b c=>CO.mk (g234_ok a b c);have:=fun a b c=>CO.mk (g271_ok a b c);have:=fun a b c=>CO.mk (g289_ok a b c);have:=fun a b c=>CO.mk (g308_ok a b c);have:=fun a b c=>CO.mk (g311_ok a b c);have:=fun a b c d=>CO.mk (g313_ok a b c d);have:=fun a b c d=>CO.mk (g314_ok a b c d);intro a b c r h;unfold Qv at h;exact zO Tryz.call88 Tryz.func88 [85,136,1000000] au
instance (n a g172):LL (XW n a g172) [0,2,3] (fun(b,c,d,e,f,g,i,j,k,l,m,o)=>[]) [0,1,2] (fun(b,c,d,e,f,g,i,j,k,l,m,o)=>[(0,.box 117 [pK a,pI b,pB c]),(2,.box 42 [pI d,pS e,pI f,pB g,pI i,pS j,pV k,pT l,pT m,pE o])]):=⟨⟩
theorem FF (n:Nat) (g140:Fb) (g88 g136:vJ) (g172 g201:vJ) (g234 g271:vJ) (g289 g308 g311:vJ) (g313:Fc) (g314:Fe) (g140_ok:RA g140) (g88_ok:RB g88) (g136_ok:RC g136) (g172_ok:RD g172) (g201_ok:RE g201) (g234_ok:RF g234) (g271_ok:RG g271) (g289_ok:RH g289) (g308_ok:RI g308) (g311_ok:RJ g311) (g313_ok:GZ g313) (g314_ok:Fa g314):∀(a:List qk) (b:Int) (c:Bool) (r:qf×Int×Bool),Zu n g140 g88 g136 g172 g201 g234 g271 g289 g308 g311 g313 g314 a b c=some r->zw TP 136 [.ptr 0 0] [.box 117 [pK a,pI b,pB c]] 1 (fun v lo=>v=mR a b c r/\lo=mM a b c r):=by
 have:=fun a b c=>CO.mk (g140_ok a b c);have:=fun a b c=>CO.mk (g88_ok a b c);have:=fun a b c=>CO.mk (g136_ok a b c);have:=fun a b c=>CO.mk (g172_ok a b c);have:=fun a b c=>CO.mk (g201_ok a b c);have:=fun a b c=>CO.mk (g234_ok a b c);have:=fun a b c=>CO.mk (g271_ok a b c);have:=fun a b c=>CO.mk (g289_ok a b c);have:=fun a b c=>CO.mk (g308_ok a b c);have:=fun a b c=>CO.mk (g311_ok a b c);have:=fun a b c d=>CO.mk (g313_ok a b c d);have:=fun a b c d=>CO.mk (g314_ok a b c d);intro a b c r h;unfold Zu at h;exact zO Tryz.call136 Tryz.func136 [85,172,1000000] au
instance (n a g201):LL (XU n a g201) [0,2,3] (fun(b,c,d,e,f,g,i,j,k,l,m,o)=>[]) [0,1,2] (fun(b,c,d,e,f,g,i,j,k,l,m,o)=>[(0,.box 117 [pK a,pI b,pB c]),(2,.box 42 [pI d,pS e,pI f,pB g,pI i,pS j,pV k,pT l,pT m,pE o])]):=⟨⟩
theorem FC (n:Nat) (g140:Fb) (g88 g136:vJ) (g172 g201:vJ) (g234 g271:vJ) (g289 g308 g311:vJ) (g313:Fc) (g314:Fe) (g140_ok:RA g140) (g88_ok:RB g88) (g136_ok:RC g136) (g172_ok:RD g172) (g201_ok:RE g201) (g234_ok:RF g234) (g271_ok:RG g271) (g289_ok:RH g289) (g308_ok:RI g308) (g311_ok:RJ g311) (g313_ok:GZ g313) (g314_ok:Fa g314):∀(a:List qk) (b:Int) (c:Bool) (r:qf×Int×Bool),Zr n g140 g88 g136 g172 g201 g234 g271 g289 g308 g311 g313 g314 a b c=some r->zw TP 172 [.ptr 0 0] [.box 117 [pK a,pI b,pB c]] 1 (fun v lo=>v=mO a b c r/\lo=mJ a b c r):=by
 have:=fun a b c=>CO.mk (g140_ok a b c);have:=fun a b c=>CO.mk (g88_ok a b c);have:=fun a b c=>CO.mk (g136_ok a b c);have:=fun a b c=>CO.mk (g172_ok a b c);have:=fun a b c=>CO.mk (g201_ok a b c);have:=fun a b c=>CO.mk (g234_ok a b c);have:=fun a b c=>CO.mk (g271_ok a b c);have:=fun a b c=>CO.mk (g289_ok a b c);have:=fun a b c=>CO.mk (g308_ok a b c);have:=fun a b c=>CO.mk (g311_ok a b c);have:=fun a b c d=>CO.mk (g313_ok a b c d);have:=fun a b c d=>CO.mk (g314_ok a b c d);intro a b c r h;unfold Zr at h;exact zO Tryz.call172 Tryz.func172 [85,201,1000000] au
theorem FD (n:Nat) (g140:Fb) (g88 g136:vJ) (g172 g201:vJ) (g234 g271:vJ) (g289 g308 g311:vJ) (g313:Fc) (g314:Fe) (g140_ok:RA g140) (g88_ok:RB g88) (g136_ok:RC g136) (g172_ok:RD g172) (g201_ok:RE g201) (g234_ok:RF g234) (g271_ok:RG g271) (g289_ok:RH g289) (g308_ok:RI g308) (g311_ok:RJ g311) (g313_ok:GZ g313) (g314_ok:Fa g314):∀(a:List qk) (b:Int) (c:Bool) (r:qf×Int×Bool),Zs n g140 g88 g136 g172 g201 g234 g271 g289 g308 g311 g313 g314 a b c=some r->zw TP 201 [.ptr 0 0] [.box 117 [pK a,pI b,pB c]] 1 (fun v lo=>v=mP a b c r/\lo=mK a b c r):=by
 have:=fun a b c=>CO.mk (g140_ok a b c);have:=fun a b c=>CO.mk (g88_ok a b c);have:=fun a b c=>CO.mk (g136_ok a b c);have:=fun a b c=>CO.mk (g172_ok a b c);have:=fun a b c=>CO.mk (g201_ok a b c);have:=fun a b c=>CO.mk (g234_ok a b c);have:=fun a b c=>CO.mk (g271_ok a b c);have:=fun a b c=>CO.mk (g289_ok a b c);have:=fun a b c=>CO.mk (g308_ok a b c);have:=fun a b c=>CO.mk (g311_ok a b c);have:=fun a b c d=>CO.mk (g313_ok a b c d);have:=fun a b c d=>CO.mk (g314_ok a b c d);intro a b c r h;unfold Zs at h;exact zO Tryz.call201 Tryz.func201 [85,201,234,1000000] au
instance (n a b g271 j k l m o p e f g i):LL (ZL n a b g271 j k l m o p e f g i) [0,2,3,5] (fun(c,d)=>[(6,pI c)]) [0,1,2] (fun(c,d)=>[(0,.box 117 [pK a,pI d,pB b])]):=⟨⟩
theorem GM (n:Nat) (g140:Fb) (g88 g136:vJ) (g172 g201:vJ) (g234 g271:vJ) (g289 g308 g311:vJ) (g313:Fc) (g314:Fe) (g140_ok:RA g140) (g88_ok:RB g88) (g136_ok:RC g136) (g172_ok:RD g172) (g201_ok:RE g201) (g234_ok:RF g234) (g271_ok:RG g271) (g289_ok:RH g289) (g308_ok:RI g308) (g311_ok:RJ g311) (g313_ok:GZ g313) (g314_ok:Fa g314):∀(a:List qk) (b:Int) (c:Bool) (r:qf×Int×Bool),Qz n g140 g88 g136 g172 g201 g234 g271 g289 g308 g311 g313 g314 a b c=some r->zw TP 234 [.ptr 0 0] [.box 117 [pK a,pI b,pB c]] 1 (fun v lo=>v=bl a b c r/\lo=bc a b c r):=by
 have:=fun a b c=>CO.mk (g140_ok a b c);have:=fun a b c=>CO.mk (g88_ok a b c);have:=fun a b c=>CO.mk (g136_ok a b c);have:=fun a b c=>CO.mk (g172_ok a b c);have:=fun a b c=>CO.mk (g201_ok a b c);have:=fun a b c=>CO.mk (g234_ok a b c);have:=fun a b c=>CO.mk (g271_ok a b c);have:=fun a b c=>CO.mk (g289_ok a b c);have:=fun a b c=>CO.mk (g308_ok a b c);have:=fun a b c=>CO.mk (g311_ok a b c);have:=fun a b c d=>CO.mk (g313_ok a b c d);have:=fun a b c d=>CO.mk (g314_ok a b c d);intro a b c r h;unfold Qz at h;exact zO Tryz.call234 Tryz.func234 [85,89,271,1000000] au
instance (n a g289):LL (XV n a g289) [0,2,3] (fun(b,c,d,e,f,g,i,j,k,l,m,o)=>[]) [0,1,2] (fun(b,c,d,e,f,g,i,j,k,l,m,o)=>[(0,.box 117 [pK a,pI b,pB c]),(2,.box 42 [pI d,pS e,pI f,pB g,pI i,pS j,pV k,pT l,pT m,pE o])]):=⟨⟩
theorem FE (n:Nat) (g140:Fb) (g88 g136:vJ) (g172 g201:vJ) (g234 g271:vJ) (g289 g308 g311:vJ) (g313:Fc) (g314:Fe) (g140_ok:RA g140) (g88_ok:RB g88) (g136_ok:RC g136) (g172_ok:RD g172) (g201_ok:RE g201) (g234_ok:RF g234) (g271_ok:RG g271) (g289_ok:RH g289) (g308_ok:RI g308) (g311_ok:RJ g311) (g313_ok:GZ g313) (g314_ok:Fa g314):∀(a:List qk) (b:Int) (c:Bool) (r:qf×Int×Bool),Zt n g140 g88 g136 g172 g201 g234 g271 g289 g308 g311 g313 g314 a b c=some r->zw TP 271 [.ptr 0 0] [.box 117 [pK a,pI b,pB c]] 1 (fun v lo=>v=mQ a b c r/\lo=mL a b c r):=by
 have:=fun a b c=>CO.mk (g140_ok a b c);have:=fun a b c=>CO.mk (g88_ok a b c);have:=fun a b c=>CO.mk (g136_ok a b c);have:=fun a b c=>CO.mk (g172_ok a b c);have:=fun a b c=>CO.mk (g201_ok a b c);have:=fun a b c=>CO.mk (g234_ok a b c);have:=fun a b c=>CO.mk (g271_ok a b c);have:=fun a b c=>CO.mk (g289_ok a b c);have:=fun a b c=>CO.mk (g308_ok a b c);have:=fun a b c=>CO.mk (g311_ok a b c);have:=fun a b c d=>CO.mk (g313_ok a b c d);have:=fun a b c d=>CO.mk (g314_ok a b c d);intro a b c r h;unfold Zt at h;exact zO Tryz.call271 Tryz.func271 [94,289,1000000] au
instance (n a g308):LL (tn n a g308) [0,2,3] (fun(b,c,d,e,f,g,i,j,k,l,m,o)=>[]) [0,1,2] (fun(b,c,d,e,f,g,i,j,k,l,m,o)=>[(0,.box 117 [pK a,pI b,pB c]),(2,.box 42 [pI d,pS e,pI f,pB g,pI i,pS j,pV k,pT l,pT m,pE o])]):=⟨⟩
theorem Vh (n:Nat) (g140:Fb) (g88 g136:vJ) (g172 g201:vJ) (g234 g271:vJ) (g289 g308 g311:vJ) (g313:Fc) (g314:Fe) (g140_ok:RA g140) (g88_ok:RB g88) (g136_ok:RC g136) (g172_ok:RD g172) (g201_ok:RE g201) (g234_ok:RF g234) (g271_ok:RG g271) (g289_ok:RH g289) (g308_ok:RI g308) (g311_ok:RJ g311) (g313_ok:GZ g313) (g314_ok:Fa g314):∀(a:List qk) (b:Int) (c:Bool) (r:qf×Int×Bool),pn n g140 g88 g136 g172 g201 g234 g271 g289 g308 g311 g313 g314 a b c=some r->zw TP 289 [.ptr 0 0] [.box 117 [pK a,pI b,pB c]] 1 (fun v lo=>v=fx a b c r/\lo=fw a b c r):=by
 have:=fun a b c=>CO.mk (g140_ok a b c);have:=fun a b c=>CO.mk (g88_ok a b c);have:=fun a b c=>CO.mk (g136_ok a b c);have:=fun a b c=>CO.mk (g172_ok a b c);have:=fun a b c=>CO.mk (g201_ok a b c);have:=fun a b c=>CO.mk (g234_ok a b c);have:=fun a b c=>CO.mk (g271_ok a b c);have:=fun a b c=>CO.mk (g289_ok a b c);have:=fun a b c=>CO.mk (g308_ok a b c);have:=fun a b c=>CO.mk (g311_ok a b c);have:=fun a b c d=>CO.mk (g313_ok a b c d);have:=fun a b c d=>CO.mk (g314_ok a b c d);intro a b c r h;unfold pn at h;exact zO Tryz.call289 Tryz.func289 [94,308,1000000] au
instance (n a g88):LL (Zf n a g88) [0,2,4] (fun(b,c,d,e,f,g,i,j,k,l,m,o)=>[]) [0,1,2] (fun(b,c,d,e,f,g,i,j,k,l,m,o)=>[(0,.box 117 [pK a,pI b,pB c]),(2,.box 42 [pI d,pS e,pI f,pB g,pI i,pS j,pV k,pT l,pT m,pE o])]):=⟨⟩
theorem Uz (n:Nat) (g140:Fb) (g88 g136:vJ) (g172 g201:vJ) (g234 g271:vJ) (g289 g308 g311:vJ) (g313:Fc) (g314:Fe) (g140_ok:RA g140) (g88_ok:RB g88) (g136_ok:RC g136) (g172_ok:RD g172) (g201_ok:RE g201) (g234_ok:RF g234) (g271_ok:RG g271) (g289_ok:RH g289) (g308_ok:RI g308) (g311_ok:RJ g311) (g313_ok:GZ g313) (g314_ok:Fa g314):∀(a:List qk) (b:Int) (c:Bool) (r:qf×Int×Bool),tH n g140 g88 g136 g172 g201 g234 g271 g289 g308 g311 g313 g314 a b c=some r->zw TP 308 [.ptr 0 0] [.box 117 [pK a,pI b,pB c]] 1 (fun v lo=>v=cR a b c r/\lo=cP a b c r):=by
 have:=fun a b c=>CO.mk (g140_ok a b c);have:=fun a b c=>CO.mk (g88_ok a b c);have:=fun a b c=>CO.mk (g136_ok a b c);have:=fun a b c=>CO.mk (g172_ok a b c);have:=fun a b c=>CO.mk (g201_ok a b c);have:=fun a b c=>CO.mk (g234_ok a b c);have:=fun a b c=>CO.mk (g271_ok a b c);have:=fun a b c=>CO.mk (g289_ok a b c);have:=fun a b c=>CO.mk (g308_ok a b c);have:=fun a b c=>CO.mk (g311_ok a b c);have:=fun a b c d=>CO.mk (g313_ok a b c d);have:=fun a b c d=>CO.mk (g314_ok a b c d);intro a b c r h;unfold tH at h;exact zO Tryz.call308 Tryz.func308 [85,88,89,139,308,311,1000000] au
theorem GJ (n:Nat) (g140:Fb) (g88 g136:vJ) (g172 g201:vJ) (g234 g271:vJ) (g289 g308 g311:vJ) (g313:Fc) (g314:Fe) (g140_ok:RA g140) (g88_ok:RB g88) (g136_ok:RC g136) (g172_ok:RD g172) (g201_ok:RE g201) (g234_ok:RF g234) (g271_ok:RG g271) (g289_ok:RH g289) (g308_ok:RI g308) (g311_ok:RJ g311) (g313_ok:GZ g313) (g314_ok:Fa g314):∀(a:List qk) (b:Int) (c:Bool) (r:qf×Int×Bool),Qw n g140 g88 g136 g172 g201 g234 g271 g289 g308 g311 g313 g314 a b c=some r->zw TP 311 [.ptr 0 0] [.box 117 [pK a,pI b,pB c]] 1 (fun v lo=>v=bg a b c r/\lo=dX a b c r):=by
 have:=fun a b c=>CO.mk (g140_ok a b c);have:=fun a b c=>CO.mk (g88_ok a b c);have:=fun a b c=>CO.mk (g136_ok a b c);have:=fun a b c=>CO.mk (g172_ok a b c);have:=fun a b c=>CO.mk (g201_ok a b c);have:=fun a b c=>CO.mk (g234_ok a b c);have:=fun a b c=>CO.mk (g271_ok a b c);have:=fun a b c=>CO.mk (g289_ok a b c);have:=fun a b c=>CO.mk (g308_ok a b c);have:=fun a b c=>CO.mk (g311_ok a b c);have:=fun a b c d=>CO.mk (g313_ok a b c d);have:=fun a b c d=>CO.mk (g314_ok a b c d);intro a b c r h;unfold Qw at h;exact zO Tryz.call311 Tryz.func311 [85,88,89,90,94,140,313,314,40000003,1000000] au
theorem GK (n:Nat) (g140:Fb) (g88 g136:vJ) (g172 g201:vJ) (g234 g271:vJ) (g289 g308 g311:vJ) (g313:Fc) (g314:Fe) (g140_ok:RA g140) (g88_ok:RB g88) (g136_ok:RC g136) (g172_ok:RD g172) (g201_ok:RE g201) (g234_ok:RF g234) (g271_ok:RG g271) (g289_ok:RH g289) (g308_ok:RI g308) (g311_ok:RJ g311) (g313_ok:GZ g313) (g314_ok:Fa g314):∀(c:SS) (a:List qk) (b:Int) (d:Bool) (r:qf×Int×Bool),Qx n g140 g88 g136 g172 g201 g234 g271 g289 g308 g311 g313 g314 c a b d=some r->zw TP 313 [.ptr 0 0,.p (PV.str c)] [.box 117 [pK a,pI b,pB d]] 1 (fun v lo=>v=bh a b d r/\lo=dY a b d r):=by
 have:=fun c a b=>CO.mk (g140_ok c a b);have:=fun c a b=>CO.mk (g88_ok c a b);have:=fun c a b=>CO.mk (g136_ok c a b);have:=fun c a b=>CO.mk (g172_ok c a b);have:=fun c a b=>CO.mk (g201_ok c a b);have:=fun c a b=>CO.mk (g234_ok c a b);have:=fun c a b=>CO.mk (g271_ok c a b);have:=fun c a b=>CO.mk (g289_ok c a b);have:=fun c a b=>CO.mk (g308_ok c a b);have:=fun c a b=>CO.mk (g311_ok c a b);have:=fun c a b d=>CO.mk (g313_ok c a b d);have:=fun c a b d=>CO.mk (g314_ok c a b d);intro c a b d r h;unfold Qx at h;exact zO Tryz.call313 Tryz.func313 [85,88,89,314,1000000] au
instance (n g88 b e):LL (ZF n g88 b e) [0,1] (fun(a,c,d)=>[(5,.tsl 1 (qf.rows a))]) [0,0] (fun(a,c,d)=>[(0,.box 117 [pK b,pI c,pB d]),(1,.tail 42 10 (qf.rows a).length)]):=⟨⟩
theorem GL (n:Nat) (g140:Fb) (g88 g136:vJ) (g172 g201:vJ) (g234 g271:vJ) (g289 g308 g311:vJ) (g313:Fc) (g314:Fe) (g140_ok:RA g140) (g88_ok:RB g88) (g136_ok:RC g136) (g172_ok:RD g172) (g201_ok:RE g201) (g234_ok:RF g234) (g271_ok:RG g271) (g289_ok:RH g289) (g308_ok:RI g308) (g311_ok:RJ g311) (g313_ok:GZ g313) (g314_ok:Fa g314):∀(c:SS) (a:List qk) (b:Int) (d:Bool) (r:(List qf)×Int×Bool),Qy n g140 g88 g136 g172 g201 g234 g271 g289 g308 g311 g313 g314 c a b d=some r->zw TP 314 [.ptr 0 0,.p (PV.str c)] [.box 117 [pK a,pI b,pB d]] 1 (fun v lo=>v=bj a b d r/\lo=dZ a b d r):=by
 have:=fun c a b=>CO.mk (g140_ok c a b);have:=fun c a b=>CO.mk (g88_ok c a b);have:=fun c a b=>CO.mk (g136_ok c a b);have:=fun c a b=>CO.mk (g172_ok c a b);have:=fun c a b=>CO.mk (g201_ok c a b);have:=fun c a b=>CO.mk (g234_ok c a b);have:=fun c a b=>CO.mk (g271_ok c a b);have:=fun c a b=>CO.mk (g289_ok c a b);have:=fun c a b=>CO.mk (g308_ok c a b);have:=fun c a b=>CO.mk (g311_ok c a b);have:=fun c a b d=>CO.mk (g313_ok c a b d);have:=fun c a b d=>CO.mk (g314_ok c a b d);intro c a b d r h;unfold Qy at h;exact zO Tryz.call314 Tryz.func314 [85,88,89,1000000] au
mutual
def qM:Nat->(List qk)->Int->Bool->Option ((List SS)×(List qf)×Int×Bool)
 | 0=>fun _ _ _=>none
 | n+1=>tI n (qM n) (qP n) (zq n) (zn n) (zo n) (zf n) (zp n) (qF n) (qS n) (zc n) (zd n) (ze n)

def qP:Nat->(List qk)->Int->Bool->Option (qf×Int×Bool)
 | 0=>fun _ _ _=>none
 | n+1=>Qv n (qM n) (qP n) (zq n) (zn n) (zo n) (zf n) (zp n) (qF n) (qS n) (zc n) (zd n) (ze n)

def zq:Nat->(List qk)->Int->Bool->Option (qf×Int×Bool)
 | 0=>fun _ _ _=>none
 | n+1=>Zu n (qM n) (qP n) (zq n) (zn n) (zo n) (zf n) (zp n) (qF n) (qS n) (zc n) (zd n) (ze n)

def zn:Nat->(List qk)->Int->Bool->Option (qf×Int×Bool)
 | 0=>fun _ _ _=>none
 | n+1=>Zr n (qM n) (qP n) (zq n) (zn n) (zo n) (zf n) (zp n) (qF n) (qS n) (zc n) (zd n) (ze n)

def zo:Nat->(List qk)->Int->Bool->Option (qf×Int×Bool)
 | 0=>fun _ _ _=>none
 | n+1=>Zs n (qM n) (qP n) (zq n) (zn n) (zo n) (zf n) (zp n) (qF n) (qS n) (zc n) (zd n) (ze n)

def zf:Nat->(List qk)->Int->Bool->Option (qf×Int×Bool)
 | 0=>fun _ _ _=>none
 | n+1=>Qz n (qM n) (qP n) (zq n) (zn n) (zo n) (zf n) (zp n) (qF n) (qS n) (zc n) (zd n) (ze n)

def zp:Nat->(List qk)->Int->Bool->Option (qf×Int×Bool)
 | 0=>fun _ _ _=>none
 | n+1=>Zt n (qM n) (qP n) (zq n) (zn n) (zo n) (zf n) (zp n) (qF n) (qS n) (zc n) (zd n) (ze n)

def qF:Nat->(List qk)->Int->Bool->Option (qf×Int×Bool)
 | 0=>fun _ _ _=>none
 | n+1=>pn n (qM n) (qP n) (zq n) (zn n) (zo n) (zf n) (zp n) (qF n) (qS n) (zc n) (zd n) (ze n)

def qS:Nat->(List qk)->Int->Bool->Option (qf×Int×Bool)
 | 0=>fun _ _ _=>none
 | n+1=>tH n (qM n) (qP n) (zq n) (zn n) (zo n) (zf n) (zp n) (qF n) (qS n) (zc n) (zd n) (ze n)

def zc:Nat->(List qk)->Int->Bool->Option (qf×Int×Bool)
 | 0=>fun _ _ _=>none
 | n+1=>Qw n (qM n) (qP n) (zq n) (zn n) (zo n) (zf n) (zp n) (qF n) (qS n) (zc n) (zd n) (ze n)

def zd:Nat->SS->(List qk)->Int->Bool->Option (qf×Int×Bool)
 | 0=>fun _ _ _ _=>none
 | n+1=>Qx n (qM n) (qP n) (zq n) (zn n) (zo n) (zf n) (zp n) (qF n) (qS n) (zc n) (zd n) (ze n)

def ze:Nat->SS->(List qk)->Int->Bool->Option ((List qf)×Int×Bool)
 | 0=>fun _ _ _ _=>none
 | n+1=>Qy n (qM n) (qP n) (zq n) (zn n) (zo n) (zf n) (zp n) (qF n) (qS n) (zc n) (zd n) (ze n)

end
theorem zQ (n:Nat):(∀(c:List qk) (a:Int) (b:Bool) (r:(List SS)×(List qf)×Int×Bool),qM n c a b=some r->zw TP 140 [.ptr 0 0] [.box 117 [pK c,pI a,pB b]] 1 (fun v lo=>v=cS c a b r/\lo=cQ c a b r))/\(∀(c:List qk) (a:Int) (b:Bool) (r:qf×Int×Bool),qP n c a b=some r->zw TP 88 [.ptr 0 0] [.box 117 [pK c,pI a,pB b]] 1 (fun v lo=>v=bf c a b r/\lo=dW c a b r))/\(∀(c:List qk) (a:Int) (b:Bool) (r:qf×Int×Bool),zq n c a b=some r->zw TP 136 [.ptr 0 0] [.box 117 [pK c,pI a,pB b]] 1 (fun v lo=>v=mR c a b r/\lo=mM c a b r))/\(∀(c:List qk) (a:Int) (b:Bool) (r:qf×Int×Bool),zn n c a b=some r->zw TP 172 [.ptr 0 0] [.box 117 [pK c,pI a,pB b]] 1 (fun v lo=>v=mO c a b r/\lo=mJ c a b r))/\(∀(c:List qk) (a:Int) (b:Bool) (r:qf×Int×Bool),zo n c a b=some r->zw TP 201 [.ptr 0 0] [.box 117 [pK c,pI a,pB b]] 1 (fun v lo=>v=mP c a b r/\lo=mK c a b r))/\(∀(c:List qk) (a:Int) (b:Bool) (r:qf×Int×Bool),zf n c a b=some r->zw TP 234 [.ptr 0 0] [.box 117 [pK c,pI a,pB b]] 1 (fun v lo=>v=bl c a b r/\lo=bc c a b r))/\(∀(c:List qk) (a:Int) (b:Bool) (r:qf×Int×Bool),zp n c a b=some r->zw TP 271 [.ptr 0 0] [.box 117 [pK c,pI a,pB b]] 1 (fun v lo=>v=mQ c a b r/\lo=mL c a b r))/\(∀(c:List qk) (a:Int) (b:Bool) (r:qf×Int×Bool),qF n c a b=some r->zw TP 289 [.ptr 0 0] [.box 117 [pK c,pI a,pB b]] 1 (fun v lo=>v=fx c a b r/\lo=fw c a b r))/\(∀(c:List qk) (a:Int) (b:Bool) (r:qf×Int×Bool),qS n c a b=some r->zw TP 308 [.ptr 0 0] [.box 117 [pK c,pI a,pB b]] 1 (fun v lo=>v=cR c a b r/\lo=cP c a b r))/\(∀(c:List qk) (a:Int) (b:Bool) (r:qf×Int×Bool),zc n c a b=some r->zw TP 311 [.ptr 0 0] [.box 117 [pK c,pI a,pB b]] 1 (fun v lo=>v=bg c a b r/\lo=dX c a b r))/\(∀(c:SS) (a:List qk) (b:Int) (t:Bool) (r:qf×Int×Bool),zd n c a b t=some r->zw TP 313 [.ptr 0 0,.p (PV.str c)] [.box 117 [pK a,pI b,pB t]] 1 (fun v lo=>v=bh a b t r/\lo=dY a b t r))/\(∀(c:SS) (a:List qk) (b:Int) (t:Bool) (r:(List qf)×Int×Bool),ze n c a b t=some r->zw TP 314 [.ptr 0 0,.p (PV.str c)] [.box 117 [pK a,pI b,pB t]] 1 (fun v lo=>v=bj a b t r/\lo=dZ a b t r)):=by
 induction n with
 | zero=>exact⟨(by intros; rename_i h; cases h),(by intros; rename_i h; cases h),(by intros; rename_i h; cases h),(by intros; rename_i h; cases h),(by intros; rename_i h; cases h),(by intros; rename_i h; cases h),(by intros; rename_i h; cases h),(by intros; rename_i h; cases h),(by intros; rename_i h; cases h),(by intros; rename_i h; cases h),(by intros; rename_i h; cases h),(by intros; rename_i h; cases h)⟩
 | succ n ih=>
  obtain⟨d,e,i,j,k,l,m,o,q,s,f,g⟩:=ih;exact⟨UA n (qM n) (qP n) (zq n) (zn n) (zo n) (zf n) (zp n) (qF n) (qS n) (zc n) (zd n) (ze n) d e i j k l m o q s f g,GI n (qM n) (qP n) (zq n) (zn n) (zo n) (zf n) (zp n) (qF n) (qS n) (zc n) (zd n) (ze n) d e i j k l m o q s f g,FF n (qM n) (qP n) (zq n) (zn n) (zo n) (zf n) (zp n) (qF n) (qS n) (zc n) (zd n) (ze n) d e i j k l m o q s f g,FC n (qM n) (qP n) (zq n) (zn n) (zo n) (zf n) (zp n) (qF n) (qS n) (zc n) (zd n) (ze n) d e i j k l m o q s f g,FD n (qM n) (qP n) (zq n) (zn n) (zo n) (zf n) (zp n) (qF n) (qS n) (zc n) (zd n) (ze n) d e i j k l m o q s f g,GM n (qM n) (qP n) (zq n) (zn n) (zo n) (zf n) (zp n) (qF n) (qS n) (zc n) (zd n) (ze n) d e i j k l m o q s f g,FE n (qM n) (qP n) (zq n) (zn n) (zo n) (zf n) (zp n) (qF n) (qS n) (zc n) (zd n) (ze n) d e i j k l m o q s f g,Vh n (qM n) (qP n) (zq n) (zn n) (zo n) (zf n) (zp n) (qF n) (qS n) (zc n) (zd n) (ze n) d e i j k l m o q s f g,Uz n (qM n) (qP n) (zq n) (zn n) (zo n) (zf n) (zp n) (qF n) (qS n) (zc n) (zd n) (ze n) d e i j k l m o q s f g,GJ n (qM n) (qP n) (zq n) (zn n) (zo n) (zf n) (zp n) (qF n) (qS n) (zc n) (zd n) (ze n) d e i j k l m o q s f g,GK n (qM n) (qP n) (zq n) (zn n) (zo n) (zf n) (zp n) (qF n) (qS n) (zc n) (zd n) (ze n) d e i j k l m o q s f g,GL n (qM n) (qP n) (zq n) (zn n) (zo n) (zf n) (zp n) (qF n) (qS n) (zc n) (zd n) (ze n) d e i j k l m o q s f g⟩
theorem GR (n:Nat):∀(a:List qk) (b:Int) (c:Bool) (r:(List SS)×(List qf)×Int×Bool),qM n a b c=some r->zw TP 140 [.ptr 0 0] [.box 117 [pK a,pI b,pB c]] 1 (fun v lo=>v=cS a b c r/\lo=cQ a b c r):=(zQ n).1
instance (n:Nat) (a:List qk) (b:Int) (c:Bool):CO TP (qM n a b c) 140 [.ptr 0 0] [.box 117 [pK a,pI b,pB c]] 1 (cS a b c) (cQ a b c):=⟨GR n a b c⟩
theorem FP (n:Nat):∀(a:List qk) (b:Int) (c:Bool) (r:qf×Int×Bool),qP n a b c=some r->zw TP 88 [.ptr 0 0] [.box 117 [pK a,pI b,pB c]] 1 (fun v lo=>v=bf a b c r/\lo=dW a b c r):=(zQ n).2.1
instance (n:Nat) (a:List qk) (b:Int) (c:Bool):CO TP (qP n a b c) 88 [.ptr 0 0] [.box 117 [pK a,pI b,pB c]] 1 (bf a b c) (dW a b c):=⟨FP n a b c⟩
theorem Bm (n:Nat):∀(a:List qk) (b:Int) (c:Bool) (r:qf×Int×Bool),zq n a b c=some r->zw TP 136 [.ptr 0 0] [.box 117 [pK a,pI b,pB c]] 1 (fun v lo=>v=mR a b c r/\lo=mM a b c r):=(zQ n).2.2.1
instance (n:Nat) (a:List qk) (b:Int) (c:Bool):CO TP (zq n a b c) 136 [.ptr 0 0] [.box 117 [pK a,pI b,pB c]] 1 (mR a b c) (mM a b c):=⟨Bm n a b c⟩
theorem Bj (n:Nat):∀(a:List qk) (b:Int) (c:Bool) (r:qf×Int×Bool),zn n a b c=some r->zw TP 172 [.ptr 0 0] [.box 117 [pK a,pI b,pB c]] 1 (fun v lo=>v=mO a b c r/\lo=mJ a b c r):=(zQ n).2.2.2.1
instance (n:Nat) (a:List qk) (b:Int) (c:Bool):CO TP (zn n a b c) 172 [.ptr 0 0] [.box 117 [pK a,pI b,pB c]] 1 (mO a b c) (mJ a b c):=⟨Bj n a b c⟩
theorem Bk (n:Nat):∀(a:List qk) (b:Int) (c:Bool) (r:qf×Int×Bool),zo n a b c=some r->zw TP 201 [.ptr 0 0] [.box 117 [pK a,pI b,pB c]] 1 (fun v lo=>v=mP a b c r/\lo=mK a b c r):=(zQ n).2.2.2.2.1
instance (n:Nat) (a:List qk) (b:Int) (c:Bool):CO TP (zo n a b c) 201 [.ptr 0 0] [.box 117 [pK a,pI b,pB c]] 1 (mP a b c) (mK a b c):=⟨Bk n a b c⟩
theorem FU (n:Nat):∀(a:List qk) (b:Int) (c:Bool) (r:qf×Int×Bool),zf n a b c=some r->zw TP 234 [.ptr 0 0] [.box 117 [pK a,pI b,pB c]] 1 (fun v lo=>v=bl a b c r/\lo=bc a b c r):=(zQ n).2.2.2.2.2.1
instance (n:Nat) (a:List qk) (b:Int) (c:Bool):CO TP (zf n a b c) 234 [.ptr 0 0] [.box 117 [pK a,pI b,pB c]] 1 (bl a b c) (bc a b c):=⟨FU n a b c⟩
theorem Bl (n:Nat):∀(a:List qk) (b:Int) (c:Bool) (r:qf×Int×Bool),zp n a b c=some r->zw TP 271 [.ptr 0 0] [.box 117 [pK a,pI b,pB c]] 1 (fun v lo=>v=mQ a b c r/\lo=mL a b c r):=(zQ n).2.2.2.2.2.2.1
instance (n:Nat) (a:List qk) (b:Int) (c:Bool):CO TP (zp n a b c) 271 [.ptr 0 0] [.box 117 [pK a,pI b,pB c]] 1 (mQ a b c) (mL a b c):=⟨Bl n a b c⟩
theorem VT (n:Nat):∀(a:List qk) (b:Int) (c:Bool) (r:qf×Int×Bool),qF n a b c=some r->zw TP 289 [.ptr 0 0] [.box 117 [pK a,pI b,pB c]] 1 (fun v lo=>v=fx a b c r/\lo=fw a b c r):=(zQ n).2.2.2.2.2.2.2.1
instance (n:Nat) (a:List qk) (b:Int) (c:Bool):CO TP (qF n a b c) 289 [.ptr 0 0] [.box 117 [pK a,pI b,pB c]] 1 (fx a b c) (fw a b c):=⟨VT n a b c⟩
theorem GQ (n:Nat):∀(a:List qk) (b:Int) (c:Bool) (r:qf×Int×Bool),qS n a b c=some r->zw TP 308 [.ptr 0 0] [.box 117 [pK a,pI b,pB c]] 1 (fun v lo=>v=cR a b c r/\lo=cP a b c r):=(zQ n).2.2.2.2.2.2.2.2.1
instance (n:Nat) (a:List qk) (b:Int) (c:Bool):CO TP (qS n a b c) 308 [.ptr 0 0] [.box 117 [pK a,pI b,pB c]] 1 (cR a b c) (cP a b c):=⟨GQ n a b c⟩
theorem FQ (n:Nat):∀(a:List qk) (b:Int) (c:Bool) (r:qf×Int×Bool),zc n a b c=some r->zw TP 311 [.ptr 0 0] [.box 117 [pK a,pI b,pB c]] 1 (fun v lo=>v=bg a b c r/\lo=dX a b c r):=(zQ n).2.2.2.2.2.2.2.2.2.1
instance (n:Nat) (a:List qk) (b:Int) (c:Bool):CO TP (zc n a b c) 311 [.ptr 0 0] [.box 117 [pK a,pI b,pB c]] 1 (bg a b c) (dX a b c):=⟨FQ n a b c⟩
theorem FR (n:Nat):∀(d:SS) (a:List qk) (b:Int) (c:Bool) (r:qf×Int×Bool),zd n d a b c=some r->zw TP 313 [.ptr 0 0,.p (PV.str d)] [.box 117 [pK a,pI b,pB c]] 1 (fun v lo=>v=bh a b c r/\lo=dY a b c r):=(zQ n).2.2.2.2.2.2.2.2.2.2.1
instance (n:Nat) (d:SS) (a:List qk) (b:Int) (c:Bool):CO TP (zd n d a b c) 313 [.ptr 0 0,.p (PV.str d)] [.box 117 [pK a,pI b,pB c]] 1 (bh a b c) (dY a b c):=⟨FR n d a b c⟩
theorem FT (n:Nat):∀(d:SS) (a:List qk) (b:Int) (c:Bool) (r:(List qf)×Int×Bool),ze n d a b c=some r->zw TP 314 [.ptr 0 0,.p (PV.str d)] [.box 117 [pK a,pI b,pB c]] 1 (fun v lo=>v=bj a b c r/\lo=dZ a b c r):=(zQ n).2.2.2.2.2.2.2.2.2.2.2
instance (n:Nat) (d:SS) (a:List qk) (b:Int) (c:Bool):CO TP (ze n d a b c) 314 [.ptr 0 0,.p (PV.str d)] [.box 117 [pK a,pI b,pB c]] 1 (bj a b c) (dZ a b c):=⟨FT n d a b c⟩
end W
end
section
set_option maxRecDepth 100000
set_option maxHeartbeats 20000000
open Go Go.Proofs Ax
attribute [local irreducible] zh rI uh
namespace W
abbrev BA (_:List qk) (_:Int) (_:Bool) (r:ql×Int×Bool):FV:=.p ((PV.agg (bA.cells r.1)))
abbrev Bu (a:List qk) (_:Int) (_:Bool) (r:ql×Int×Bool):List AObj:=[.box 117 [pK a,.p (.int .i64 r.2.1),.p (.bool r.2.2)]]
def sd (n:Nat) (a:List qk) (j:SS) (b:List SS):Int×Bool×List SS×List qf->Option (ql×Int×Bool):=fun(c,d,e,f)=>bnd (qX n ([41]:SS) a c d) fun⟨g,i⟩=>some (ql.mk j b e f,g,i)
def ZG (n:Nat) (a:List qk) (f:SS):LK (Int×Bool×List SS) (ql×Int×Bool):=fun g (s,b,c)=>bnd (qm n ([58]:SS) a s b) fun⟨i,d⟩=>bif i then bnd (gT n a d b) fun⟨e,j,k⟩=>chk ((qv (c++[e])).length * 16<=140737488355328) (g (j,k,c++[e])) else bnd (xQ n ([123]:SS) a d b) fun l=>bif l then bnd (qM n a d b) fun⟨m,o,p,q⟩=>sd n a f c (p,q,m,o) else sd n a f c (d,b,([]:List _),([]:List _))
def bR (n:Nat) (a:List qk) (b:Int) (c:Bool):Option (ql×Int×Bool):= bnd (qX n ([40]:SS) a b c) fun⟨d,e⟩=>bnd (fT n a d e) fun⟨f,g,i⟩=>qy (ZG n a f) n (g,i,([]:List _))
instance (n b d):LL (ZG n b d) [0,2,3] (fun(e,c,a)=>[]) [0,1,2,0] (fun(e,c,a)=>[(0,.box 117 [pK b,pI e,pB c]),(2,.box 102 [pS d,.tsl 3 (qv a),zq2,zq2]),(3,.tail 9 1 (qv a).length)]):=⟨⟩
instance (n a g b):LJ (sd n a g b) [0,2,3] (fun(c,d,e,f)=>[]) [0,1,2,3] (fun(c,d,e,f)=>[(0,.box 117 [pK a,pI c,pB d]),(2,.box 102 [pS g,.tsl 3 (qv b),pT e,pE f])]):=⟨⟩
instance (n a b c):CO TP (bR n a b c) 92 [.ptr 0 0] [.box 117 [pK a,pI b,pB c]] 1 (BA a b c) (Bu a b c):=⟨fun r h=>by
 unfold bR at h;exact zO Tryz.call92 Tryz.func92 [85,89,94,138,139,140,1000000] au⟩
end W
end
