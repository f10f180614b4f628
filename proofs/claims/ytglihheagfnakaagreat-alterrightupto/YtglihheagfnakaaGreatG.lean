/- A part of the proof: contracts, printed by program. -/
import Derived.Test.YtglihheagfnakaaGreatB
import Derived.Test.YtglihheagfnakaaGreatC
import Derived.Test.YtglihheagfnakaaGreatF
set_option linter.unusedVariables false
set_option linter.unusedSimpArgs false
set_option linter.unnecessarySimpa false
set_option linter.deprecated false
set_option linter.unusedSectionVars false
set_option linter.constructorNameAsVariable false
open Go.IntKind renaming wrap->kwr,bits->kbt
open BitVec renaming ofInt->jr
section
set_option maxRecDepth 100000
set_option maxHeartbeats 20000000
open Go Go.Proofs Ax
attribute [local irreducible] zh rI uh
namespace W
abbrev qeq:Type:=Val->Val->Option (Int)
def pQ (n:Nat) (v:List Val) (a:Int) (d:List Val) (g279:qeq) (c:Int->Option (Int)):Int->Option (Int):=fun e=>bnd (idx v a) fun⟨f,g,i,j,k,l⟩=>bnd (idx d a) fun⟨m,o,p,q,s,t⟩=>bnd (g279 (Val.mk f g i j k l) (Val.mk m o p q s t)) fun u=>bnd (gf n [e,u]) fun b=>bif b != 0 then some b else c (kwr .i64 (a+1))
def pR (n:Nat) (c b:List Val) (e:Int) (x g:List SS) (g279:qeq) (i y:Bool) (j z:Int) (u f:SS):LK (Int) (Int):=fun d a=>bif bif a<((Val.rows c).length:Int) then a<((Val.rows b).length:Int) else false then bif e==5 then bnd (idx x a) fun k=>bnd (idx g a) fun l=>bnd (vE n k l) fun m=>pQ n c a b g279 d m else pQ n c a b g279 d 0 else bnd (vP n ((Val.rows c).length:Int) ((Val.rows b).length:Int)) fun o=>bnd (cn n i) fun p=>bnd (cn n y) fun q=>bnd (vP n p q) fun s=>bnd (xh n j z) fun t=>bnd (vE n u f) fun v=>bnd (gf n [o,s,t,v]) fun w=>some w
def dy (n:Nat) (g279:qeq) (c d:Val):Option (Int):= match c,d with | ⟨a,l,m,o,p,q⟩,⟨b,s,t,e,f,g⟩=>bif a != b then bnd (rq n (kwr .i64 ((jr IntKind.i64.bits a &&& jr IntKind.i64.bits 7).toNat:Int))) fun i=>bnd (rq n (kwr .i64 ((jr IntKind.i64.bits b &&& jr IntKind.i64.bits 7).toNat:Int))) fun j=>bnd (vP n i j) fun k=>some k else qy (pR n p f a q g g279 l s m t o e) n 0
instance (n j c a k d g279 f l g m i b):LL (pR n j c a k d g279 f l g m i b) [2,3] (fun e=>[(5,pI e)]) [0,1]:=⟨⟩
instance (n e c b g279 a):LJ (pQ n e c b g279 a) [2,3,5] (fun d=>[(6,pI d)]) [0,1]:=⟨⟩
theorem UC (n:Nat) (g279:qeq) (g279_ok:∀(a b:Val) (r:Int),g279 a b=some r->qh TP 279 [PV.agg (zx.cells a),PV.agg (zx.cells b)] (RA2 r)):∀(a b:Val) (r:Int),dy n g279 a b=some r->qh TP 279 [PV.agg (zx.cells a),PV.agg (zx.cells b)] (RA2 r):=by
 have:=fun a b=>CC.mk (g279_ok a b);intro a b r h;obtain⟨_,_,_,_,_,_⟩:=a;obtain⟨_,_,_,_,_,_⟩:=b;unfold dy at h;exact zN Tryz.call279 Tryz.func279 [1000000] au
def fO:Nat->Val->Val->Option (Int)
 | 0=>fun _ _=>none
 | n+1=>dy n (fO n)

theorem UP (n:Nat):(∀(a b:Val) (r:Int),fO n a b=some r->qh TP 279 [PV.agg (zx.cells a),PV.agg (zx.cells b)] (RA2 r)):=by
 induction n with
 | zero=>exact(by intros; rename_i h; cases h)
 | succ n ih=>
  have hg279:=ih;exact UC n (fO n) hg279
theorem GV (n:Nat):∀(a b:Val) (r:Int),fO n a b=some r->qh TP 279 [PV.agg (zx.cells a),PV.agg (zx.cells b)] (RA2 r):=(UP n)
instance (n:Nat) (a:Val) (b:Val):CC TP (fO n a b) 279 [PV.agg (zx.cells a),PV.agg (zx.cells b)] RA2:=⟨GV n a b⟩
def uS (n:Nat) (c d:Val):Option (Int):= match c,d with | ⟨a,k,l,m,o,p⟩,⟨b,q,s,e,f,g⟩=>bif bif bif a != b then true else a<1 then true else a>3 then some 2 else bnd (fO n (Val.mk a k l m o p) (Val.mk b q s e f g)) fun i=>bnd (bU n (i<0)) fun j=>some j
instance (n a b):CC TP (uS n a b) 246 [PV.agg (zx.cells a),PV.agg (zx.cells b)] RA2:=⟨fun r h=>by
 obtain⟨_,_,_,_,_,_⟩:=a;obtain⟨_,_,_,_,_,_⟩:=b;unfold uS at h;exact zN Tryz.call246 Tryz.func246 [1000000] au⟩
def sn (n:Nat) (b:Any) (e:Int) (k:Bool) (x:Int) (y:SS) (z:List Val) (A:List SS):LK (Int×Int) (Val×Int):=fun d (c,a)=>bif a<((Val.rows (Any.get_l b)).length:Int) then bnd (idx (Any.get_l b) a) fun⟨f,g,i,j,l,m⟩=>bnd (vB n (Val.mk e k x y z A) (Val.mk f g i j l m)) fun o=>bnd (rG n c o) fun p=>d (p,kwr .i64 (a+1)) else bnd (zT n c) fun⟨q,s,t,u,v,w⟩=>some (Val.mk q s t u v w,0)
def nV (n:Nat) (i j:Val):Option (Val×Int):= match i,j with | ⟨k,l,m,o,p,q⟩,⟨a,f,g,b,c,d⟩=>bif a==0 then some (Val.mk a f g b c d,0) else bnd (za n (Val.mk a f g b c d)) fun e=>bif !(Any.is_l e) then some (Val.mk 0 false 0 ([]:SS) ([]:List Val) ([]:List SS),3) else qy (sn n e k l m o p q) n (0,0)
instance (n b a e f g i j):LL (sn n b a e f g i j) [2,24,25] (fun(c,d)=>[(8,pI c),(26,pI d),(4,.ptr 1 0)]) [0,2]:=⟨⟩
instance (n a b):CC TP (nV n a b) 247 [PV.agg (zx.cells a),PV.agg (zx.cells b)] rH:=⟨fun r h=>by
 obtain⟨_,_,_,_,_,_⟩:=a;obtain⟨_,_,_,_,_,_⟩:=b;unfold nV at h;exact zN Tryz.call247 Tryz.func247 [1000000] au⟩
def gY (n:Nat) (a:SS):Option (Val):= some (Val.mk 3 false 0 a ([]:List Val) ([]:List SS))
instance (n a):CC TP (gY n a) 280 [PV.str a] lL:=⟨fun r h=>by
 unfold gY at h;exact zN Tryz.call280 Tryz.func280 [1000000] au⟩
def xH (n:Nat) (c:List (List Val)):LK (List Val×Int) (List Val):=fun e (a,b)=>bif b<((pj zx c).length:Int) then bnd (idx c b) fun d=>chk ((Val.rows (a++d)).length * 88<=140737488355328) (e (a++d,kwr .i64 (b+1))) else some a
def xG (n:Nat) (a:List (List Val)):LK (Int×Int) (List Val):=fun e (b,c)=>bif c<((pj zx a).length:Int) then bnd (idx a c) fun d=>bif kwr .i64 (b+((Val.rows d).length:Int))<0 then none else e (kwr .i64 (b+((Val.rows d).length:Int)),kwr .i64 (c+1)) else bnd (pY b) fun f=>chk (f * 88<=140737488355328) (qy (xH n a) n (([]:List Val),0))
def zJ (n:Nat) (a:List (List Val)):Option (List Val):= qy (xG n a) n (0,0)
instance (n a):LL (xG n a) [0,9,10] (fun(b,c)=>[(3,pI b),(11,pI c)]):=⟨⟩
instance (n c):LL (xH n c) [25,26] (fun(a,b)=>[(6,.tsl 0 (Val.rows a)),(27,pI b)]) [0] (fun(a,b)=>[(0,.tail 35 6 (Val.rows a).length)]):=⟨⟩
instance (n a):CC TP (zJ n a) 281 [PV.sl (pj zx a)] qgw:=⟨fun r h=>by
 unfold zJ at h;exact zN Tryz.call281 Tryz.func281 [307,1000000] au⟩
def ZU (n:Nat) (a b:Int):Option (Int×Int):= bif bif decide (a<0)==decide (b<0) then !(decide (kwr .i64 (a+b)<0)==decide (a<0)) else false then some (0,4) else some (kwr .i64 (a+b),0)
instance (n a b):CC TP (ZU n a b) 282 [PV.int .i64 a,PV.int .i64 b] RA7:=⟨fun r h=>by
 unfold ZU at h;exact zN Tryz.call282 Tryz.func282 [1000000] au⟩
def xD (n:Nat) (f g:Val):Option (Val×Int):= match f,g with | ⟨a,q,v,w,x,y⟩,⟨e,z,A,i,j,k⟩=>bif bif a==0 then true else e==0 then some (Val.mk 0 false 0 ([]:SS) ([]:List Val) ([]:List SS),0) else bnd (za n (Val.mk a q v w x y)) fun b=>bnd (za n (Val.mk e z A i j k)) fun c=>bif bif !(Any.is_i b) then true else !(Any.is_i c) then some (Val.mk 0 false 0 ([]:SS) ([]:List Val) ([]:List SS),3) else bnd (ZU n (Any.get_i b) (Any.get_i c)) fun⟨l,d⟩=>bif d != 0 then some (Val.mk 0 false 0 ([]:SS) ([]:List Val) ([]:List SS),d) else bnd (zF n l) fun⟨m,o,p,s,t,u⟩=>some (Val.mk m o p s t u,0)
instance (n a b):CC TP (xD n a b) 212 [PV.agg (zx.cells a),PV.agg (zx.cells b),PV.fn 282] rH:=⟨fun r h=>by
 obtain⟨_,_,_,_,_,_⟩:=a;obtain⟨_,_,_,_,_,_⟩:=b;unfold xD at h;exact zN Tryz.call212 Tryz.func212 [1000000] au⟩
def dN (n:Nat) (a:Int) (m:Bool) (o:Int) (p:SS) (q:List Val) (s:List SS) (t:Int) (u:Bool) (v:Int) (b:SS) (c:List Val) (d:List SS):Unit->Option (Val×Int):=fun _=>bnd (xD n (Val.mk a m o p q s) (Val.mk t u v b c d)) fun⟨⟨e,f,g,i,j,k⟩,l⟩=>some (Val.mk e f g i j k,l)
def dM (n:Nat) (a:Int) (e:Bool) (f:Int) (g:SS) (i:List Val) (j:List SS) (k:Int) (l:Bool) (m:Int) (b:SS) (c:List Val) (d:List SS):Unit->Option (Val×Int):=fun _=>bnd (za n (Val.mk a e f g i j)) fun o=>bif Any.is_l o then bnd (za n (Val.mk k l m b c d)) fun p=>bif Any.is_l p then bnd (zJ n [Any.get_l o,Any.get_l p]) fun q=>bnd (gW n q) fun⟨s,t,u,v,w,x⟩=>bnd (gX n (Val.mk s t u v w x)) fun⟨⟨y,z,A,B,C,D⟩,E⟩=>some (Val.mk y z A B C D,E) else dN n a e f g i j k l m b c d () else dN n a e f g i j k l m b c d ()
def su (n:Nat) (q s:Val):Option (Val×Int):= match q,s with | ⟨a,e,f,j,k,l⟩,⟨m,o,p,b,c,d⟩=>bnd (za n (Val.mk a e f j k l)) fun g=>bif Any.is_s g then bnd (za n (Val.mk m o p b c d)) fun i=>bif Any.is_s i then chk ((((Any.get_s g).length+(Any.get_s i).length:Nat):Int)<=te) (bnd (gY n (Any.get_s g++Any.get_s i)) fun⟨t,u,v,w,x,y⟩=>bnd (gX n (Val.mk t u v w x y)) fun⟨⟨z,A,B,C,D,E⟩,F⟩=>some (Val.mk z A B C D E,F)) else dM n a e f j k l m o p b c d () else dM n a e f j k l m o p b c d ()
instance (n a e f g i j k l m b c d):LJ (dM n a e f g i j k l m b c d) [2,3,4] (fun _=>[]) [0,1,2]:=⟨⟩
instance (n a e f g i j k l m b c d):LJ (dN n a e f g i j k l m b c d) [2,3,4] (fun _=>[]) [0,1,2]:=⟨⟩
instance (n a b):CC TP (su n a b) 248 [PV.agg (zx.cells a),PV.agg (zx.cells b)] rH:=⟨fun r h=>by
 obtain⟨_,_,_,_,_,_⟩:=a;obtain⟨_,_,_,_,_,_⟩:=b;unfold su at h;exact zN Tryz.call248 Tryz.func248 [1000000] au⟩
def gF (n:Nat) (a:Int):Option (Int):= bif a<0 then some (kwr .u64 (0 - kwr .u64 a)) else some (kwr .u64 a)
instance (n a):CC TP (gF n a) 98 [PV.int .i64 a] qgx:=⟨fun r h=>by
 unfold gF at h;exact zN Tryz.call98 Tryz.func98 [1000000] au⟩
def dj (n:Nat) (a b:Int):Option (Int×Int):= some (kwr .u64 (kwr .u64 (kwr .u64 (Int.fdiv a (2 ^ (min (Int.toNat 32) IntKind.u64.bits)) * Int.fdiv b (2 ^ (min (Int.toNat 32) IntKind.u64.bits)))+Int.fdiv (kwr .u64 (kwr .u64 (Int.fdiv a (2 ^ (min (Int.toNat 32) IntKind.u64.bits)) * kwr .u64 ((jr IntKind.u64.bits b &&& jr IntKind.u64.bits 4294967295).toNat:Int))+Int.fdiv (kwr .u64 (kwr .u64 ((jr IntKind.u64.bits a &&& jr IntKind.u64.bits 4294967295).toNat:Int) * kwr .u64 ((jr IntKind.u64.bits b &&& jr IntKind.u64.bits 4294967295).toNat:Int))) (2 ^ (min (Int.toNat 32) IntKind.u64.bits)))) (2 ^ (min (Int.toNat 32) IntKind.u64.bits)))+Int.fdiv (kwr .u64 (kwr .u64 ((jr IntKind.u64.bits (kwr .u64 (kwr .u64 (Int.fdiv a (2 ^ (min (Int.toNat 32) IntKind.u64.bits)) * kwr .u64 ((jr IntKind.u64.bits b &&& jr IntKind.u64.bits 4294967295).toNat:Int))+Int.fdiv (kwr .u64 (kwr .u64 ((jr IntKind.u64.bits a &&& jr IntKind.u64.bits 4294967295).toNat:Int) * kwr .u64 ((jr IntKind.u64.bits b &&& jr IntKind.u64.bits 4294967295).toNat:Int))) (2 ^ (min (Int.toNat 32) IntKind.u64.bits)))) &&& jr IntKind.u64.bits 4294967295).toNat:Int)+kwr .u64 (kwr .u64 ((jr IntKind.u64.bits a &&& jr IntKind.u64.bits 4294967295).toNat:Int) * Int.fdiv b (2 ^ (min (Int.toNat 32) IntKind.u64.bits))))) (2 ^ (min (Int.toNat 32) IntKind.u64.bits))),kwr .u64 (a * b))
instance (n a b):CC TP (dj n a b) 283 [PV.int .u64 a,PV.int .u64 b] qgy:=⟨fun r h=>by
 unfold dj at h;exact zN Tryz.call283 Tryz.func283 [1000000] au⟩
def cM (n:Nat) (a:Int) (b:Bool):Option (Int×Int):= bif bif b then a<=9223372036854775808 else false then some (kwr .i64 (kwr .u64 (0 - a)),0) else bif bif !b then a<9223372036854775808 else false then some (kwr .i64 a,0) else some (0,4)
instance (n a b):CC TP (cM n a b) 284 [PV.int .u64 a,PV.bool b] RA7:=⟨fun r h=>by
 unfold cM at h;exact zN Tryz.call284 Tryz.func284 [1000000] au⟩
def ZX (n:Nat) (a b:Int):Option (Int×Int):= bnd (gF n a) fun c=>bnd (gF n b) fun d=>bnd (dj n c d) fun⟨e,f⟩=>bif e>0 then some (0,4) else bnd (cM n f (!(decide (a<0)==decide (b<0)))) fun⟨g,i⟩=>some (g,i)
instance (n a b):CC TP (ZX n a b) 249 [PV.int .i64 a,PV.int .i64 b] RA7:=⟨fun r h=>by
 unfold ZX at h;exact zN Tryz.call249 Tryz.func249 [1000000] au⟩
def vx (n:Nat) (f g:Val):Option (Val×Int):= match f,g with | ⟨a,q,v,w,x,y⟩,⟨e,z,A,i,j,k⟩=>bif bif a==0 then true else e==0 then some (Val.mk 0 false 0 ([]:SS) ([]:List Val) ([]:List SS),0) else bnd (za n (Val.mk a q v w x y)) fun b=>bnd (za n (Val.mk e z A i j k)) fun c=>bif bif !(Any.is_i b) then true else !(Any.is_i c) then some (Val.mk 0 false 0 ([]:SS) ([]:List Val) ([]:List SS),3) else bnd (ZX n (Any.get_i b) (Any.get_i c)) fun⟨l,d⟩=>bif d != 0 then some (Val.mk 0 false 0 ([]:SS) ([]:List Val) ([]:List SS),d) else bnd (zF n l) fun⟨m,o,p,s,t,u⟩=>some (Val.mk m o p s t u,0)
instance (n a b):CC TP (vx n a b) 212 [PV.agg (zx.cells a),PV.agg (zx.cells b),PV.fn 249] rH:=⟨fun r h=>by
 obtain⟨_,_,_,_,_,_⟩:=a;obtain⟨_,_,_,_,_,_⟩:=b;unfold vx at h;exact zN Tryz.call212 Tryz.func212 [1000000] au⟩
def ZV (n:Nat) (b a:Int):Option (Int×Int):= bif a==0 then some (0,4) else bnd (gF n b) fun d=>bnd (gF n a) fun c=>chk (decide (c≠0)) (bnd (cM n (kwr .u64 (Int.tdiv d c)) (!(decide (b<0)==decide (a<0)))) fun⟨e,f⟩=>some (e,f))
instance (n a b):CC TP (ZV n a b) 250 [PV.int .i64 a,PV.int .i64 b] RA7:=⟨fun r h=>by
 unfold ZV at h;exact zN Tryz.call250 Tryz.func250 [1000000] au⟩
def vu (n:Nat) (f g:Val):Option (Val×Int):= match f,g with | ⟨a,q,v,w,x,y⟩,⟨e,z,A,i,j,k⟩=>bif bif a==0 then true else e==0 then some (Val.mk 0 false 0 ([]:SS) ([]:List Val) ([]:List SS),0) else bnd (za n (Val.mk a q v w x y)) fun b=>bnd (za n (Val.mk e z A i j k)) fun c=>bif bif !(Any.is_i b) then true else !(Any.is_i c) then some (Val.mk 0 false 0 ([]:SS) ([]:List Val) ([]:List SS),3) else bnd (ZV n (Any.get_i b) (Any.get_i c)) fun⟨l,d⟩=>bif d != 0 then some (Val.mk 0 false 0 ([]:SS) ([]:List Val) ([]:List SS),d) else bnd (zF n l) fun⟨m,o,p,s,t,u⟩=>some (Val.mk m o p s t u,0)
instance (n a b):CC TP (vu n a b) 212 [PV.agg (zx.cells a),PV.agg (zx.cells b),PV.fn 250] rH:=⟨fun r h=>by
 obtain⟨_,_,_,_,_,_⟩:=a;obtain⟨_,_,_,_,_,_⟩:=b;unfold vu at h;exact zN Tryz.call212 Tryz.func212 [1000000] au⟩
def ZW (n:Nat) (a b:Int):Option (Int×Int):= bif b==0 then some (0,4) else bnd (gF n a) fun d=>bnd (gF n b) fun c=>chk (decide (c≠0)) (bnd (cM n (Int.tmod d c) (a<0)) fun⟨e,f⟩=>some (e,f))
instance (n a b):CC TP (ZW n a b) 251 [PV.int .i64 a,PV.int .i64 b] RA7:=⟨fun r h=>by
 unfold ZW at h;exact zN Tryz.call251 Tryz.func251 [1000000] au⟩
def vw (n:Nat) (f g:Val):Option (Val×Int):= match f,g with | ⟨a,q,v,w,x,y⟩,⟨e,z,A,i,j,k⟩=>bif bif a==0 then true else e==0 then some (Val.mk 0 false 0 ([]:SS) ([]:List Val) ([]:List SS),0) else bnd (za n (Val.mk a q v w x y)) fun b=>bnd (za n (Val.mk e z A i j k)) fun c=>bif bif !(Any.is_i b) then true else !(Any.is_i c) then some (Val.mk 0 false 0 ([]:SS) ([]:List Val) ([]:List SS),3) else bnd (ZW n (Any.get_i b) (Any.get_i c)) fun⟨l,d⟩=>bif d != 0 then some (Val.mk 0 false 0 ([]:SS) ([]:List Val) ([]:List SS),d) else bnd (zF n l) fun⟨m,o,p,s,t,u⟩=>some (Val.mk m o p s t u,0)
instance (n a b):CC TP (vw n a b) 212 [PV.agg (zx.cells a),PV.agg (zx.cells b),PV.fn 251] rH:=⟨fun r h=>by
 obtain⟨_,_,_,_,_,_⟩:=a;obtain⟨_,_,_,_,_,_⟩:=b;unfold vw at h;exact zN Tryz.call212 Tryz.func212 [1000000] au⟩
end W
end
section
set_option maxRecDepth 100000
set_option maxHeartbeats 20000000
open Go Go.Proofs Ax
attribute [local irreducible] zh rI uh
namespace W
def so (n:Nat) (o:SS) (p q:Val):Option (Val×Int):= match p,q with | ⟨e,f,g,i,j,k⟩,⟨l,m,a,b,c,d⟩=>bif o==([65,78,68]:SS) then bnd (vd n (Val.mk e f g i j k) (Val.mk l m a b c d)) fun⟨⟨O,P,Q,R,S,T⟩,U⟩=>some (Val.mk O P Q R S T,U) else bif o==([79,82]:SS) then bnd (vz n (Val.mk e f g i j k) (Val.mk l m a b c d)) fun⟨⟨V,W,X,Y,Z,a0⟩,a1⟩=>some (Val.mk V W X Y Z a0,a1) else bif o==([88,79,82]:SS) then bnd (ve n (Val.mk e f g i j k) (Val.mk l m a b c d)) fun⟨⟨a2,a3,a4,a5,a6,a7⟩,a8⟩=>some (Val.mk a2 a3 a4 a5 a6 a7,a8) else bif o==([61]:SS) then bnd (vB n (Val.mk e f g i j k) (Val.mk l m a b c d)) fun a9=>bnd (zT n a9) fun⟨b0,b1,b2,b3,b4,b5⟩=>some (Val.mk b0 b1 b2 b3 b4 b5,0) else bif o==([60,62]:SS) then bnd (vB n (Val.mk e f g i j k) (Val.mk l m a b c d)) fun b6=>bnd (vS n b6) fun b7=>bnd (zT n b7) fun⟨b8,b9,c0,c1,c2,c3⟩=>some (Val.mk b8 b9 c0 c1 c2 c3,0) else bif o==([60]:SS) then bnd (uS n (Val.mk e f g i j k) (Val.mk l m a b c d)) fun c4=>bnd (zT n c4) fun⟨c5,c6,c7,c8,c9,d0⟩=>some (Val.mk c5 c6 c7 c8 c9 d0,0) else bif o==([62]:SS) then bnd (uS n (Val.mk l m a b c d) (Val.mk e f g i j k)) fun d1=>bnd (zT n d1) fun⟨d2,d3,d4,d5,d6,d7⟩=>some (Val.mk d2 d3 d4 d5 d6 d7,0) else bif o==([60,61]:SS) then bnd (uS n (Val.mk l m a b c d) (Val.mk e f g i j k)) fun d8=>bnd (vS n d8) fun d9=>bnd (zT n d9) fun⟨e0,e1,e2,e3,e4,e5⟩=>some (Val.mk e0 e1 e2 e3 e4 e5,0) else bif o==([62,61]:SS) then bnd (uS n (Val.mk e f g i j k) (Val.mk l m a b c d)) fun e6=>bnd (vS n e6) fun e7=>bnd (zT n e7) fun⟨e8,e9,f0,f1,f2,f3⟩=>some (Val.mk e8 e9 f0 f1 f2 f3,0) else bif o==([73,78]:SS) then bnd (nV n (Val.mk e f g i j k) (Val.mk l m a b c d)) fun⟨⟨f4,f5,f6,f7,f8,f9⟩,g0⟩=>some (Val.mk f4 f5 f6 f7 f8 f9,g0) else bif o==([43]:SS) then bnd (su n (Val.mk e f g i j k) (Val.mk l m a b c d)) fun⟨⟨g1,g2,g3,g4,g5,g6⟩,g7⟩=>some (Val.mk g1 g2 g3 g4 g5 g6,g7) else bif o==([45]:SS) then bnd (xF n (Val.mk e f g i j k) (Val.mk l m a b c d)) fun⟨⟨g8,g9,i0,i1,i2,i3⟩,s⟩=>some (Val.mk g8 g9 i0 i1 i2 i3,s) else bif o==([42]:SS) then bnd (vx n (Val.mk e f g i j k) (Val.mk l m a b c d)) fun⟨⟨t,u,v,w,x,y⟩,z⟩=>some (Val.mk t u v w x y,z) else bif o==([47]:SS) then bnd (vu n (Val.mk e f g i j k) (Val.mk l m a b c d)) fun⟨⟨A,B,C,D,E,F⟩,G⟩=>some (Val.mk A B C D E F,G) else bnd (vw n (Val.mk e f g i j k) (Val.mk l m a b c d)) fun⟨⟨H,I,J,K,L,M⟩,N⟩=>some (Val.mk H I J K L M,N)
instance (n c a b):CC TP (so n c a b) 219 [PV.str c,PV.agg (zx.cells a),PV.agg (zx.cells b)] rH:=⟨fun r h=>by
 obtain⟨_,_,_,_,_,_⟩:=a;obtain⟨_,_,_,_,_,_⟩:=b;unfold so at h;exact zN Tryz.call219 Tryz.func219 [1000000] au⟩
def ff (n:Nat) (a:Val):Option (Bool):= match a with | ⟨b,_,_,_,_,_⟩=>some (b==0)
instance (n a):CC TP (ff n a) 252 [PV.agg (zx.cells a)] RA0:=⟨fun r h=>by
 obtain⟨_,_,_,_,_,_⟩:=a;unfold ff at h;exact zN Tryz.call252 Tryz.func252 [1000000] au⟩
def zk (n:Nat) (b:List Val):LK (Int) (Int):=fun c a=>bif a<((Val.rows b).length:Int) then bnd (idx b a) fun⟨d,e,f,g,i,j⟩=>bnd (ff n (Val.mk d e f g i j)) fun k=>bif k then some a else c (kwr .i64 (a+1)) else some (-1)
def qH (n:Nat) (a:List Val):Option (Int):= qy (zk n a) n 0
instance (n a):LL (zk n a) [0,1,7] (fun b=>[(8,pI b)]):=⟨⟩
instance (n a):CC TP (qH n a) 196 [PV.sl (Val.rows a),PV.fn 252] RA2:=⟨fun r h=>by
 unfold qH at h;exact zN Tryz.call196 Tryz.func196 [1000000] au⟩
def qB (n:Nat) (a:List Val):Option (Bool):= bnd (qH n a) fun b=>some (b≥0)
theorem zP (n:Nat):∀(a:List Val) (r:Bool),qB n a=some r->qh TP 160 [PV.sl (Val.rows a),PV.fn 252] (RA0 r):=by
 intro a r h;unfold qB at h;exact zN Tryz.call160 Tryz.func160 [1000000] au
instance (n:Nat) (a:List Val):CC TP (qB n a) 160 [PV.sl (Val.rows a),PV.fn 252] RA0:=⟨zP n a⟩
def fg (n:Nat) (a:Val):Option (Bool):= match a with | ⟨b,_,_,_,_,_⟩=>some (b != 0)
instance (n a):CC TP (fg n a) 253 [PV.agg (zx.cells a)] RA0:=⟨fun r h=>by
 obtain⟨_,_,_,_,_,_⟩:=a;unfold fg at h;exact zN Tryz.call253 Tryz.func253 [1000000] au⟩
def zl (n:Nat) (b:List Val):LK (Int) (Int):=fun c a=>bif a<((Val.rows b).length:Int) then bnd (idx b a) fun⟨d,e,f,g,i,j⟩=>bnd (fg n (Val.mk d e f g i j)) fun k=>bif k then some a else c (kwr .i64 (a+1)) else some (-1)
def qw (n:Nat) (a:List Val):Option (Int):= qy (zl n a) n 0
instance (n a):LL (zl n a) [0,1,7] (fun b=>[(8,pI b)]):=⟨⟩
theorem zZ (n:Nat):∀(a:List Val) (r:Int),qw n a=some r->qh TP 196 [PV.sl (Val.rows a),PV.fn 253] (RA2 r):=by
 intro a r h;unfold qw at h;exact zN Tryz.call196 Tryz.func196 [1000000] au
instance (n:Nat) (a:List Val):CC TP (qw n a) 196 [PV.sl (Val.rows a),PV.fn 253] RA2:=⟨zZ n a⟩
def dO (n:Nat):List Val->Option (Val×Int):=fun a=>bnd (gW n a) fun⟨b,c,d,e,f,g⟩=>some (Val.mk b c d e f g,0)
def tO (n:Nat) (j:Any):LK (List Val×Int) (Val×Int):=fun k (a,b)=>bif b<=Any.get_i j then bif ((Val.rows a).length:Int)≥4095 then some (Val.mk 0 false 0 ([]:SS) ([]:List Val) ([]:List SS),8) else bnd (zF n b) fun⟨c,d,e,f,g,i⟩=>chk ((Val.rows (a++[Val.mk c d e f g i])).length * 88<=140737488355328) (bif b==Any.get_i j then dO n (a++[Val.mk c d e f g i]) else k (a++[Val.mk c d e f g i],kwr .i64 (b+1))) else dO n a
def nt (n:Nat) (c d:Val):Option (Val×Int):= match c,d with | ⟨e,j,k,l,m,o⟩,⟨p,q,s,f,g,i⟩=>bnd (za n (Val.mk e j k l m o)) fun a=>bnd (za n (Val.mk p q s f g i)) fun b=>bif bif !(Any.is_i a) then true else !(Any.is_i b) then some (Val.mk 0 false 0 ([]:SS) ([]:List Val) ([]:List SS),3) else qy (tO n b) n (([]:List _),Any.get_i a)
instance (n):LJ (dO n) [4] (fun a=>[(10,.tsl 1 (Val.rows a))]) [0,2] (fun a=>[(1,.tail 35 6 (Val.rows a).length)]):=⟨⟩
instance (n c):LL (tO n c) [8] (fun(a,b)=>[(10,.tsl 1 (Val.rows a)),(11,pI b),(4,.ptr 0 0)]) [2,0] (fun(a,b)=>[(1,.tail 35 6 (Val.rows a).length)]):=⟨⟩
theorem XZ (n:Nat):∀(a b:Val) (r:Val×Int),nt n a b=some r->qh TP 254 [PV.agg (zx.cells a),PV.agg (zx.cells b)] (rH r):=by
 intro a b r h;obtain⟨_,_,_,_,_,_⟩:=a;obtain⟨_,_,_,_,_,_⟩:=b;unfold nt at h;exact zN Tryz.call254 Tryz.func254 [1000000] au
instance (n:Nat) (a:Val) (b:Val):CC TP (nt n a b) 254 [PV.agg (zx.cells a),PV.agg (zx.cells b)] rH:=⟨XZ n a b⟩
def sq (n:Nat) (b:SS):LK (Int×Nat) (Int):=fun d (c,a)=>bif a<b.length then d (kwr .i64 (c+1),(bif a<b.length then zY b a else a)) else some c
def nX (n:Nat) (a:SS):Option (Int):= qy (sq n a) n (0,0)
instance (n a):LL (sq n a) [5] (fun(b,c)=>[(3,pI b)]) [0] (fun(b,c)=>[(0,.sit a c)]):=⟨⟩
instance (n a):CC TP (nX n a) 285 [PV.str a] RA2:=⟨fun r h=>by
 unfold nX at h;exact zN Tryz.call285 Tryz.func285 [1000000] au⟩
def nr (n:Nat) (d:Val):Option (Val×Int):= match d with | ⟨a,q,t,u,b,v⟩=>bnd (za n (Val.mk a q t u b v)) fun c=>bif Any.is_s c then bnd (nX n (Any.get_s c)) fun w=>bnd (zF n w) fun⟨x,e,f,g,i,j⟩=>some (Val.mk x e f g i j,0) else bif bif a==4 then true else a==5 then bnd (zF n ((Val.rows b).length:Int)) fun⟨k,l,m,o,p,s⟩=>some (Val.mk k l m o p s,0) else some (Val.mk 0 false 0 ([]:SS) ([]:List Val) ([]:List SS),3)
theorem XY (n:Nat):∀(a:Val) (r:Val×Int),nr n a=some r->qh TP 255 [PV.agg (zx.cells a)] (rH r):=by
 intro a r h;obtain⟨_,_,_,_,_,_⟩:=a;unfold nr at h;exact zN Tryz.call255 Tryz.func255 [1000000] au
instance (n:Nat) (a:Val):CC TP (nr n a) 255 [PV.agg (zx.cells a)] rH:=⟨XY n a⟩
def vy (n:Nat) (a _:Int):Option (Int×Int):= bnd (Qd n (bif decide (0>a)then0else a) (bif decide (0<a)then0else a)) fun⟨b,c⟩=>some (b,c)
instance (n a b):CC TP (vy n a b) 257 [PV.int .i64 a,PV.int .i64 b] RA7:=⟨fun r h=>by
 unfold vy at h;exact zN Tryz.call257 Tryz.func257 [1000000] au⟩
def zD (n:Nat) (f g:Val):Option (Val×Int):= match f,g with | ⟨a,q,v,w,x,y⟩,⟨e,z,A,i,j,k⟩=>bif bif a==0 then true else e==0 then some (Val.mk 0 false 0 ([]:SS) ([]:List Val) ([]:List SS),0) else bnd (za n (Val.mk a q v w x y)) fun b=>bnd (za n (Val.mk e z A i j k)) fun c=>bif bif !(Any.is_i b) then true else !(Any.is_i c) then some (Val.mk 0 false 0 ([]:SS) ([]:List Val) ([]:List SS),3) else bnd (vy n (Any.get_i b) (Any.get_i c)) fun⟨l,d⟩=>bif d != 0 then some (Val.mk 0 false 0 ([]:SS) ([]:List Val) ([]:List SS),d) else bnd (zF n l) fun⟨m,o,p,s,t,u⟩=>some (Val.mk m o p s t u,0)
instance (n a b):CC TP (zD n a b) 212 [PV.agg (zx.cells a),PV.agg (zx.cells b),PV.fn 257] rH:=⟨fun r h=>by
 obtain⟨_,_,_,_,_,_⟩:=a;obtain⟨_,_,_,_,_,_⟩:=b;unfold zD at h;exact zN Tryz.call212 Tryz.func212 [1000000] au⟩
def vF (n:Nat) (g:Val):Option (Val×Int):= match g with | ⟨a,b,c,d,e,f⟩=>bnd (zD n (Val.mk a b c d e f) (Val.mk a b c d e f)) fun⟨⟨m,o,p,i,j,k⟩,l⟩=>some (Val.mk m o p i j k,l)
theorem mw (n:Nat):∀(a:Val) (r:Val×Int),vF n a=some r->qh TP 256 [PV.agg (zx.cells a)] (rH r):=by
 intro a r h;obtain⟨_,_,_,_,_,_⟩:=a;unfold vF at h;exact zN Tryz.call256 Tryz.func256 [1000000] au
instance (n:Nat) (a:Val):CC TP (vF n a) 256 [PV.agg (zx.cells a)] rH:=⟨mw n a⟩
def sv (n:Nat) (c:List SS):LK (List Val×Int) (Val):=fun k (a,b)=>bif b<((qv c).length:Int) then bnd (idx c b) fun t=>bnd (gY n t) fun⟨e,f,g,i,j,d⟩=>chk ((Val.rows (a++[Val.mk e f g i j d])).length * 88<=140737488355328) (k (a++[Val.mk e f g i j d],kwr .i64 (b+1))) else bnd (gW n a) fun⟨l,m,o,p,q,s⟩=>some (Val.mk l m o p q s)
def cI (n:Nat) (a:List SS):Option (Val):= qy (sv n a) n (([]:List _),0)
instance (n c):LL (sv n c) [2,6,7] (fun(a,b)=>[(3,.tsl 1 (Val.rows a)),(8,pI b)]) [0,0] (fun(a,b)=>[(1,.tail 35 6 (Val.rows a).length)]):=⟨⟩
instance (n a):CC TP (cI n a) 286 [PV.sl (qv a)] lL:=⟨fun r h=>by
 unfold cI at h;exact zN Tryz.call286 Tryz.func286 [1000000] au⟩
def uE (n:Nat) (a:List SS) (j:List Val) (s:List Node) (w:List Edge) (x:Int) (y:Bool) (z:Int) (A:SS) (B:List Val) (b:List SS) (c:Int) (d:Bool) (e:Int) (f:SS) (g:List Val) (i:List SS):Bool->Option (Val×Int):=fun k=>bif k then bnd (ur n (xu.mk (Env.mk a j) (Graph.mk s w) (Val.mk x y z A B b)) (Val.mk c d e f g i)) fun⟨l,_,m⟩=>bif !m then some (Val.mk 0 false 0 ([]:SS) ([]:List Val) ([]:List SS),0) else bnd (cI n l) fun⟨o,p,q,t,u,v⟩=>some (Val.mk o p q t u v,0) else some (Val.mk 0 false 0 ([]:SS) ([]:List Val) ([]:List SS),3)
def uY (n:Nat) (t:xu) (u:Val):Option (Val×Int):= match t,u with | ⟨⟨c,j⟩,⟨k,l⟩,⟨m,o,p,q,s,d⟩⟩,⟨a,e,f,g,i,b⟩=>bif a==5 then bnd (cI n b) fun⟨v,w,x,y,z,A⟩=>some (Val.mk v w x y z A,0) else bif a==6 then uE n c j k l m o p q s d a e f g i b (a==6) else uE n c j k l m o p q s d a e f g i b (a==7)
instance (n a j l m o p q s t b c d e f g i):LJ (uE n a j l m o p q s t b c d e f g i) [0,3,4] (fun k=>[(16,pB k)]) [0,1]:=⟨⟩
theorem re (n:Nat):∀(a:xu) (b:Val) (r:Val×Int),uY n a b=some r->qh TP 258 [(PV.hp (gA.cells a)),PV.agg (zx.cells b)] (rH r):=by
 intro a b r h;obtain⟨⟨_,_⟩,⟨_,_⟩,⟨_,_,_,_,_,_⟩⟩:=a;obtain⟨_,_,_,_,_,_⟩:=b;unfold uY at h;exact zN Tryz.call258 Tryz.func258 [1000000] au
instance (n:Nat) (a:xu) (b:Val):CC TP (uY n a b) 258 [(PV.hp (gA.cells a)),PV.agg (zx.cells b)] rH:=⟨re n a b⟩
def vQ (n:Nat) (e:xu) (f:Val) (b:Int):Option (Val×Int):= match e,f with | ⟨⟨_,_⟩,⟨c,d⟩,⟨_,_,_,_,_,_⟩⟩,⟨g,_,a,_,_,_⟩=>bif g != b then some (Val.mk 0 false 0 ([]:SS) ([]:List Val) ([]:List SS),3) else bif b==6 then bnd (vg n (Graph.mk c d) a) fun⟨⟨_,i,_,_⟩,j⟩=>bif !j then some (Val.mk 0 false 0 ([]:SS) ([]:List Val) ([]:List SS),0) else bnd (cI n i) fun⟨k,l,m,o,p,q⟩=>some (Val.mk k l m o p q,0) else bnd (cJ n (Graph.mk c d) a) fun⟨⟨_,_,_,s,_,_⟩,t⟩=>bif !t then some (Val.mk 0 false 0 ([]:SS) ([]:List Val) ([]:List SS),0) else bnd (gY n s) fun⟨u,v,w,x,y,z⟩=>some (Val.mk u v w x y z,0)
instance (n a b c):CC TP (vQ n a b c) 260 [(PV.hp (gA.cells a)),PV.agg (zx.cells b),PV.int .i64 c] rH:=⟨fun r h=>by
 obtain⟨⟨_,_⟩,⟨_,_⟩,⟨_,_,_,_,_,_⟩⟩:=a;obtain⟨_,_,_,_,_,_⟩:=b;unfold vQ at h;exact zN Tryz.call260 Tryz.func260 [40000004,40000008,1000000] au⟩
def uz (n:Nat) (a:Val) (b:xu):Option (Val×Int):= match a,b with | ⟨c,p,v,w,x,y⟩,⟨⟨z,A⟩,⟨B,d⟩,⟨e,f,g,i,j,k⟩⟩=>bnd (vQ n (xu.mk (Env.mk z A) (Graph.mk B d) (Val.mk e f g i j k)) (Val.mk c p v w x y) 6) fun⟨⟨l,m,o,q,s,t⟩,u⟩=>some (Val.mk l m o q s t,u)
theorem my (n:Nat):∀(a:Val) (b:xu) (r:Val×Int),uz n a b=some r->qh TP 259 [PV.agg (zx.cells a),PV.hp [(PV.hp (gA.cells b))]] (rH r):=by
 intro a b r h;obtain⟨_,_,_,_,_,_⟩:=a;obtain⟨⟨_,_⟩,⟨_,_⟩,⟨_,_,_,_,_,_⟩⟩:=b;unfold uz at h;exact zN Tryz.call259 Tryz.func259 [1000000] au
instance (n:Nat) (a:Val) (b:xu):CC TP (uz n a b) 259 [PV.agg (zx.cells a),PV.hp [(PV.hp (gA.cells b))]] rH:=⟨my n a b⟩
def uA (n:Nat) (a:Val) (b:xu):Option (Val×Int):= match a,b with | ⟨c,p,v,w,x,y⟩,⟨⟨z,A⟩,⟨B,d⟩,⟨e,f,g,i,j,k⟩⟩=>bnd (vQ n (xu.mk (Env.mk z A) (Graph.mk B d) (Val.mk e f g i j k)) (Val.mk c p v w x y) 7) fun⟨⟨l,m,o,q,s,t⟩,u⟩=>some (Val.mk l m o q s t,u)
theorem mz (n:Nat):∀(a:Val) (b:xu) (r:Val×Int),uA n a b=some r->qh TP 261 [PV.agg (zx.cells a),PV.hp [(PV.hp (gA.cells b))]] (rH r):=by
 intro a b r h;obtain⟨_,_,_,_,_,_⟩:=a;obtain⟨⟨_,_⟩,⟨_,_⟩,⟨_,_,_,_,_,_⟩⟩:=b;unfold uA at h;exact zN Tryz.call261 Tryz.func261 [1000000] au
instance (n:Nat) (a:Val) (b:xu):CC TP (uA n a b) 261 [PV.agg (zx.cells a),PV.hp [(PV.hp (gA.cells b))]] rH:=⟨mz n a b⟩
end W
end
section
set_option maxRecDepth 100000
set_option maxHeartbeats 20000000
open Go Go.Proofs Ax
attribute [local irreducible] zh rI uh
namespace W
def rF (n:Nat) (b:Val) (w:Bool):Option (Val×Int):= match b with | ⟨c,p,s,t,u,v⟩=>bnd (za n (Val.mk c p s t u v)) fun a=>bif !(Any.is_l a) then some (Val.mk 0 false 0 ([]:SS) ([]:List Val) ([]:List SS),3) else bif ((Val.rows (Any.get_l a)).length:Int)==0 then some (Val.mk 0 false 0 ([]:SS) ([]:List Val) ([]:List SS),0) else bif w then bnd (idx (Any.get_l a) (kwr .i64 (((Val.rows (Any.get_l a)).length:Int) - 1))) fun⟨x,d,e,f,g,i⟩=>some (Val.mk x d e f g i,0) else bnd (idx (Any.get_l a) 0) fun⟨j,k,l,m,o,q⟩=>some (Val.mk j k l m o q,0)
instance (n a b):CC TP (rF n a b) 263 [PV.agg (zx.cells a),PV.bool b] rH:=⟨fun r h=>by
 obtain⟨_,_,_,_,_,_⟩:=a;unfold rF at h;exact zN Tryz.call263 Tryz.func263 [1000000] au⟩
def uB (n:Nat) (a:Val):Option (Val×Int):= match a with | ⟨b,g,i,j,k,l⟩=>bnd (rF n (Val.mk b g i j k l) false) fun⟨⟨m,o,p,c,d,e⟩,f⟩=>some (Val.mk m o p c d e,f)
theorem mA (n:Nat):∀(a:Val) (r:Val×Int),uB n a=some r->qh TP 262 [PV.agg (zx.cells a)] (rH r):=by
 intro a r h;obtain⟨_,_,_,_,_,_⟩:=a;unfold uB at h;exact zN Tryz.call262 Tryz.func262 [1000000] au
instance (n:Nat) (a:Val):CC TP (uB n a) 262 [PV.agg (zx.cells a)] rH:=⟨mA n a⟩
def uC (n:Nat) (a:Val):Option (Val×Int):= match a with | ⟨b,g,i,j,k,l⟩=>bnd (rF n (Val.mk b g i j k l) true) fun⟨⟨m,o,p,c,d,e⟩,f⟩=>some (Val.mk m o p c d e,f)
theorem mB (n:Nat):∀(a:Val) (r:Val×Int),uC n a=some r->qh TP 264 [PV.agg (zx.cells a)] (rH r):=by
 intro a r h;obtain⟨_,_,_,_,_,_⟩:=a;unfold uC at h;exact zN Tryz.call264 Tryz.func264 [1000000] au
instance (n:Nat) (a:Val):CC TP (uC n a) 264 [PV.agg (zx.cells a)] rH:=⟨mB n a⟩
def mF (n:Nat):Int×SS->Option SS:=fun(c,b)=>bnd (pY c) fun a=>chk (a<20) (chk (a+(20 - a)<=b.length) (some ((b.drop a).take (20 - a))))
def mG (n:Nat) (j:Int):(Int×Int×SS->Option SS)->Int×Int×SS->Option SS:=fun i (b,f,c)=>bnd (pY (Int.tmod f 10)) fun g=>chk (g<10) (bnd (([48,49,50,51,52,53,54,55,56,57]:SS)[g]?) fun l=>bnd (pY (kwr .i64 (b - 1))) fun a=>chk (a<20) (bnd (u8I (l.toNat:Int)) fun d=>chk (a<c.length) (bif f<10 then bif j<0 then bnd (pY (kwr .i64 (kwr .i64 (b - 1) - 1))) fun e=>chk (e<20) (bnd (u8I 45) fun k=>chk (e<(c.set a d).length) (mF n (kwr .i64 (kwr .i64 (b - 1) - 1),(c.set a d).set e k))) else mF n (kwr .i64 (b - 1),c.set a d) else i (kwr .i64 (b - 1),kwr .u64 (Int.tdiv f 10),c.set a d))))
def uZ (n:Nat) (a:Int):Option SS:= bnd (gF n a) fun b=>qy (mG n a) n (20,b,(List.replicate 20 0:SS))
instance (n d):LL (mG n d) [0,3,4] (fun(a,b,c)=>[(5,pI a),(6,.p (.int .u64 b))]) [0,1] (fun(a,b,c)=>[(1,.bv c)]):=⟨⟩
instance (n):LJ (mF n) [] (fun(a,b)=>[(5,pI a),(4,.eptr 0 1 0 0)]) [1] (fun(a,b)=>[(0,.bv b)]):=⟨⟩
theorem mH (n:Nat):∀(a:Int) (r:SS),uZ n a=some r->qh TP 50 [PV.int .i64 a] (RA5 r):=by
 intro a r h;unfold uZ at h;exact zN Tryz.call50 Tryz.func50 [10000003,10000004,1000000] au
instance (n:Nat) (a:Int):CC TP (uZ n a) 50 [PV.int .i64 a] RA5:=⟨mH n a⟩
def xw (n:Nat) (a b:SS):Option (Bool):= bnd (qz ((a.length:Int)≥(b.length:Int)) (pY (b.length:Int))) fun c=>chk (bif (a.length:Int)≥(b.length:Int) then decide (c<=a.length)else true) (some (bif (a.length:Int)≥(b.length:Int) then a.take c==b else false))
instance (n a b):CC TP (xw n a b) 174 [PV.str a,PV.str b] RA0:=⟨fun r h=>by
 unfold xw at h;exact zN Tryz.call174 Tryz.func174 [1000000] au⟩
def vT (n:Nat) (a b:SS):Option (Bool):= bnd (xw n a b) fun c=>some c
instance (n a b):CC TP (vT n a b) 143 [PV.str a,PV.str b] RA0:=⟨fun r h=>by
 unfold vT at h;exact zN Tryz.call143 Tryz.func143 [1000000] au⟩
end W
end
