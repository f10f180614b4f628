/- A part of the proof: contracts, printed by program. -/
import Derived.Test.YtglihheagfnakaaGreatB
import Derived.Test.YtglihheagfnakaaGreatC
import Derived.Test.YtglihheagfnakaaGreatD
import Derived.Test.YtglihheagfnakaaGreatE
set_option linter.unusedVariables false
set_option linter.unusedSimpArgs false
set_option linter.unnecessarySimpa false
set_option linter.deprecated false
set_option linter.unusedSectionVars false
set_option linter.constructorNameAsVariable false
open Go.IntKind renaming wrap->kwr,bits->kbt
section
set_option maxRecDepth 100000
set_option maxHeartbeats 20000000
open Go Go.Proofs Ax
attribute [local irreducible] zh rI uh
namespace W
def tN (n:Nat) (d:List qk):Int×Bool×List qE->Option (ZZ×Int×Int):=fun(e,f,a)=>bif f then bnd (idx d e) fun⟨_,_,_,b⟩=>some (ZZ.mk ([]:List qE),b,1) else bnd (tZ n (ZZ.mk a)) fun c=>bif !c then some (ZZ.mk ([]:List qE),0,8) else some (ZZ.mk a,0,0)
def XX (n:Nat) (d:List qk):LK (Int×Int×Bool×List qE) (ZZ×Int×Int):=fun F (e,b,a,c)=>bnd (qz (!a) (idx d b)) fun⟨g,_,_,_⟩=>bnd (qz ((!a)&&(!(g != 6))) (tk n e)) fun G=>bif bif !a then bif g != 6 then true else bif !G then e != 9 else false else false then bif e==9 then tN n d (b,true,c) else bnd (nI n d b a) fun⟨⟨f,i,j,⟨k,l,⟨m,o,p,q,s,t⟩,u,v⟩,w,x,y,z,A,B,C,D,E⟩,H,I⟩=>chk ((qE.rows (c++[qE.mk f i j (qf.mk k l (Val.mk m o p q s t) u v) w x y z A B C D E])).length * 392<=140737488355328) (F (f,H,I,c++[qE.mk f i j (qf.mk k l (Val.mk m o p q s t) u v) w x y z A B C D E])) else tN n d (b,a,c)
def Vj (n:Nat) (b:SS):Option (ZZ×Int×Int):= bnd (UG n b) fun⟨c,d,a⟩=>bif a != 0 then some (ZZ.mk ([]:List qE),d,a) else qy (XX n c) n (0,0,false,([]:List _))
instance (n b):LJ (tN n b) [2,8,9] (fun(c,d,a)=>[]) [0,1,2,3] (fun(c,d,a)=>[(1,.box 117 [pK b,pI c,pB d]),(2,.box 67 [.tsl 3 (qE.rows a)]),(3,.tail 47 22 (qE.rows a).length)]):=⟨⟩
instance (n e):LL (XX n e) [2,8,9] (fun(b,c,d,a)=>[(10,pI b)]) [0,1,2,0] (fun(b,c,d,a)=>[(1,.box 117 [pK e,pI c,pB d]),(2,.box 67 [.tsl 3 (qE.rows a)]),(3,.tail 47 22 (qE.rows a).length)]):=⟨⟩
instance (n a):CC TP (Vj n a) 21 [PV.str a] qgo:=⟨fun r h=>by
 unfold Vj at h;exact zN Tryz.call21 Tryz.func21 [45,40000014,50000002,60004000,1000000] au⟩
def ft (n d:Nat) (g176:Val->Option (Val)) (f:List SS) (i:Int) (u:Bool) (y:Int) (z:SS):LK (Int×List Val) (Val):=fun g (a,b)=>bif a<(((Val.rows (List.replicate d (Val.mk 0 false 0 ([]:SS) ([]:List Val) ([]:List SS)))).length):Int) then bnd (pY a) fun e=>chk (e<(Val.rows (List.replicate d (Val.mk 0 false 0 ([]:SS) ([]:List Val) ([]:List SS)))).length) (bnd (b[e]?) fun⟨j,k,l,m,o,p⟩=>bnd (g176 (Val.mk j k l m o p)) fun⟨q,s,t,v,w,x⟩=>bnd (pY a) fun c=>chk (c<(Val.rows (List.replicate d (Val.mk 0 false 0 ([]:SS) ([]:List Val) ([]:List SS)))).length) (bnd (b[c]?) fun⟨_,_,_,_,_,_⟩=>g (kwr .i64 (a+1),b.set c (Val.mk q s t v w x)))) else chk ((qv f).length * 16<=140737488355328) (some (Val.mk i u y z b f))
def rh (n:Nat) (g176:Val->Option (Val)) (c:Val):Option (Val):= match c with | ⟨d,e,f,g,a,i⟩=>bnd (pY ((Val.rows a).length:Int)) fun b=>chk (b * 88<=140737488355328) (chk ((Val.rows a).length=(Val.rows (List.replicate b (Val.mk 0 false 0 ([]:SS) ([]:List Val) ([]:List SS)))).length) (qy (ft n b g176 i d e f g) n (0,a)))
theorem GN (n:Nat) (g176:Val->Option (Val)) (g176_ok:∀(a r:Val),g176 a=some r->qh TP 176 [PV.agg (zx.cells a)] (lL r)):∀(a r:Val),rh n g176 a=some r->qh TP 176 [PV.agg (zx.cells a)] (lL r):=by
 intro a r h;obtain⟨g,i,k,l,w,d⟩:=a;unfold rh at h;refine zN Tryz.call176 Tryz.func176 [56,10000008,1000000] ?_;conv=>whnf
 refine bq h fun b y h=>?_;have c:=cV y;conv=>whnf
 obtain⟨m,h⟩:=qu h;refine⟨b,Val.rows (List.replicate b (Val.mk (0:Int) false (0:Int) ([]:SS) ([]:List Val) ([]:List SS))),⟨c,c,kod m,xY m (by decide),Codec.madeN zx (Val.mk (0:Int) false (0:Int) ([]:SS) ([]:List Val) ([]:List SS)) b (by try exact fin),rfl,by decide,rfl⟩,?_⟩;conv=>whnf
 obtain⟨H,h⟩:=qu h;refine⟨⟨rfl,kod H,Codec.wide zx w⟩,?_⟩;conv=>whnf
 refine uh.fn [56,10000008,1000000] (S:=Int×List Val) (fun(f,e)=>[(1,.ptr 0 0),(2,.ptr 1 0),(3,.vsl 2 ((Val.rows (List.replicate b (Val.mk (0:Int) false (0:Int) ([]:SS) ([]:List Val) ([]:List SS)))).length)),(14,.p (.int .i64 ((((Val.rows (List.replicate b (Val.mk (0:Int) false (0:Int) ([]:SS) ([]:List Val) ([]:List SS)))).length):Nat):Int))),(15,pI f)]) (fun(f,e)=>[.box 35 [pI g,pB i,pI k,pS l,pV w,pT d],zq4,.vec 35 6 (Val.rows e)]) (B:=ft n b g176 d g i k l) h (wk [0,1,2] []) ?_;intro _ st h;obtain⟨f,e⟩:=st;unfold ft at h;conv=>whnf
 apply ifc h<;>intro _ h
 ·conv=>whnf
  refine bq h fun I F h=>?_;have c:=cV F;conv=>whnf
  obtain⟨E,h⟩:=qu h;refine⟨I,⟨c,kod E⟩,?_⟩;conv=>whnf
  refine bq h fun⟨_,_,_,_,_,_⟩ D h=>⟨_,⟨rfl,Codec.getN zx D⟩,?_⟩;conv=>whnf
  refine bq h fun⟨o,q,s,t,u,v⟩ C h=>⟨_,(g176_ok _ _ C),?_⟩;conv=>whnf
  refine bq h fun j A h=>?_;have c:=cV A;conv=>whnf
  obtain⟨z,h⟩:=qu h;refine⟨j,⟨c,kod z⟩,?_⟩;conv=>whnf
  refine bq h fun⟨_,_,_,_,_,_⟩ x h=>⟨_,⟨rfl,Codec.getN zx x,rfl⟩,?_⟩;conv=>whnf
  refine⟨_,Codec.setN zx e j (Val.mk o q s t u v),?_⟩;conv=>whnf
  exact⟨((kwr .i64 (f+1)),(e.set j (Val.mk o q s t u v))),h,wk [0,1,2] []⟩
 conv=>whnf
 obtain⟨G,h⟩:=qu h;refine tB (Fo d (kod G)) [] [] ?_;rintro _ _ ⟨rfl,rfl⟩;refine⟨.tsl 3 (qv d),[.box 35 [pI g,pB i,pI k,pS l,.vsl 2 ((Val.rows (List.replicate b (Val.mk (0:Int) false (0:Int) ([]:SS) ([]:List Val) ([]:List SS)))).length),pT d],zq4,.vec 35 6 (Val.rows e),.tail 9 1 (qv d).length],rfl,rfl,?_⟩;obtain rfl:=sj h;conv=>whnf
 try exact fin
def zG:Nat->Val->Option (Val)
 | 0=>fun _=>none
 | n+1=>rh n (zG n)

theorem GS (n:Nat):(∀(a r:Val),zG n a=some r->qh TP 176 [PV.agg (zx.cells a)] (lL r)):=by
 induction n with
 | zero=>exact(by intros; rename_i h; cases h)
 | succ n ih=>
  have hg176:=ih;exact GN n (zG n) hg176
theorem fu (n:Nat):∀(a r:Val),zG n a=some r->qh TP 176 [PV.agg (zx.cells a)] (lL r):=(GS n)
instance (n:Nat) (a:Val):CC TP (zG n a) 176 [PV.agg (zx.cells a)] lL:=⟨fu n a⟩
def vR (n:Nat) (k:List Val) (c:List SS):LK (List Val×Int) (List SS×List Val):=fun l (a,b)=>bif b<((Val.rows k).length:Int) then bnd (idx k b) fun⟨p,q,s,t,m,o⟩=>bnd (zG n (Val.mk p q s t m o)) fun⟨d,e,f,g,i,j⟩=>chk ((Val.rows (a++[Val.mk d e f g i j])).length * 88<=140737488355328) (l (a++[Val.mk d e f g i j],kwr .i64 (b+1))) else chk ((qv c).length * 16<=140737488355328) (some (c,a))
def uQ (n:Nat) (b:List SS) (a:List Val):Option (List SS×List Val):= bnd (pY ((Val.rows a).length:Int)) fun c=>chk (c * 88<=140737488355328) (qy (vR n a b) n (([]:List Val),0))
instance (n d c):LL (vR n d c) [0,12,13] (fun(a,b)=>[(6,.tsl 0 (Val.rows a)),(14,pI b)]) [0] (fun(a,b)=>[(0,.tail 35 6 (Val.rows a).length)]):=⟨⟩
instance (n a b):CC TP (uQ n a b) 147 [PV.sl (qv a),PV.sl (Val.rows b)] qgp:=⟨fun r h=>by
 unfold uQ at h;exact zN Tryz.call147 Tryz.func147 [56,1000000] au⟩
def vG (n:Nat) (b:Node):Option (Node):= match b with | ⟨c,a,d,e⟩=>chk ((qv a).length * 16<=140737488355328) (bnd (uQ n d e) fun⟨f,g⟩=>some (Node.mk c a f g))
instance (n a):CC TP (vG n a) 101 [PV.agg (me.cells a)] qgq:=⟨fun r h=>by
 cases a;unfold vG at h;exact zN Tryz.call101 Tryz.func101 [56,1000000] au⟩
def xV (n:Nat) (a:Edge):Option (Edge):= match a with | ⟨b,c,d,e,f,g⟩=>bnd (uQ n f g) fun⟨i,j⟩=>some (Edge.mk b c d e i j)
instance (n a):CC TP (xV n a) 102 [PV.agg (mc.cells a)] qgr:=⟨fun r h=>by
 cases a;unfold xV at h;exact zN Tryz.call102 Tryz.func102 [1000000] au⟩
def sy (n:Nat) (c:List Edge) (t:List Node):LK (Int×List Edge) (Graph):=fun k (a,b)=>bif a<((Edge.rows c).length:Int) then bnd (idx c a) fun⟨l,m,o,p,q,s⟩=>bnd (xV n (Edge.mk l m o p q s)) fun⟨d,e,f,g,i,j⟩=>chk ((Edge.rows (b++[Edge.mk d e f g i j])).length * 88<=140737488355328) (k (kwr .i64 (a+1),b++[Edge.mk d e f g i j])) else some (Graph.mk t b)
def sw (n:Nat) (c:List Node) (j:List Edge):LK (Int×List Node) (Graph):=fun i (a,b)=>bif a<((Node.rows c).length:Int) then bnd (idx c a) fun⟨k,l,m,o⟩=>bnd (vG n (Node.mk k l m o)) fun⟨g,d,e,f⟩=>chk ((Node.rows (b++[Node.mk g d e f])).length * 80<=140737488355328) (i (kwr .i64 (a+1),b++[Node.mk g d e f])) else qy (sy n j b) n (0,([]:List _))
def uc (n:Nat) (a:Graph):Option (Graph):= match a with | ⟨b,c⟩=>qy (sw n b c) n (0,([]:List _))
instance (n c d):LL (sw n c d) [1,2,3,9,10] (fun(b,a)=>[(11,pI b)]) [0,1,2,0] (fun(b,a)=>[(2,.box 29 [.tsl 3 (Node.rows a),zq2]),(3,.tail 88 4 (Node.rows a).length)]):=⟨⟩
instance (n d c):LL (sy n d c) [24,25] (fun(b,a)=>[(26,pI b),(2,.ptr 0 0),(3,.ptr 1 0)]) [1,2,3,0] (fun(b,a)=>[(1,.box 29 [.tsl 2 (Node.rows c),.tsl 3 (Edge.rows a)]),(3,.tail 86 6 (Edge.rows a).length)]):=⟨⟩
theorem sz (n:Nat):∀(a r:Graph),uc n a=some r->qh TP 55 [PV.agg (uI.cells a)] (qfz r):=by
 intro a r h;obtain⟨_,_⟩:=a;unfold uc at h;exact zN Tryz.call55 Tryz.func55 [1000000] au
instance (n:Nat) (a:Graph):CC TP (uc n a) 55 [PV.agg (uI.cells a)] qfz:=⟨sz n a⟩
def xL (n:Nat) (b:List SS) (d:SS):LK (Int) (Int):=fun c a=>bif a<((qv b).length:Int) then bnd (idx b a) fun e=>bif d==e then some a else c (kwr .i64 (a+1)) else some (-1)
def zg (n:Nat) (a:List SS) (b:SS):Option (Int):= qy (xL n a b) n 0
instance (n a b):LL (xL n a b) [0,1,7] (fun c=>[(8,pI c)]):=⟨⟩
instance (n a b):CC TP (zg n a b) 58 [PV.sl (qv a),PV.str b] RA2:=⟨fun r h=>by
 unfold zg at h;exact zN Tryz.call58 Tryz.func58 [1000000] au⟩
def xd (n:Nat) (a:SS):Option (Bool):= some (!(a==a))
instance (n a):CC TP (xd n a) 231 [PV.str a] RA0:=⟨fun r h=>by
 unfold xd at h;exact zN Tryz.call231 Tryz.func231 [1000000] au⟩
def xC (n:Nat) (a b:SS):Option (Bool):= bnd (xd n a) fun c=>bnd (qz c (xd n b)) fun d=>some (bif bif c then !d else false then true else Op.bytesLess a b)
instance (n a b):CC TP (xC n a b) 191 [PV.str a,PV.str b] RA0:=⟨fun r h=>by
 unfold xC at h;exact zN Tryz.call191 Tryz.func191 [1000000] au⟩
def vh (n:Nat) (a:SS):Option (Bool):= some (!(a==a))
instance (n a):CC TP (vh n a) 221 [PV.str a] RA0:=⟨fun r h=>by
 unfold vh at h;exact zN Tryz.call221 Tryz.func221 [1000000] au⟩
def qT (n:Nat) (b:List SS) (c:SS):LK (Int×Int) (Int×Bool):=fun f (a,d)=>bif a<d then bnd (idx b (kwr .i64 (Int.fdiv (kwr .u64 (kwr .i64 (a+d))) (2 ^ (min (Int.toNat 1) IntKind.u64.bits))))) fun j=>bnd (xC n j c) fun k=>bif k then f (kwr .i64 (kwr .i64 (Int.fdiv (kwr .u64 (kwr .i64 (a+d))) (2 ^ (min (Int.toNat 1) IntKind.u64.bits)))+1),d) else f (a,kwr .i64 (Int.fdiv (kwr .u64 (kwr .i64 (a+d))) (2 ^ (min (Int.toNat 1) IntKind.u64.bits)))) else bnd (qz (a<((qv b).length:Int)) (idx b a)) fun e=>bnd (qz ((a<((qv b).length:Int))&&(!(e==c))) (idx b a)) fun l=>bnd (qz ((a<((qv b).length:Int))&&(!(e==c))) (vh n l)) fun g=>bnd (qz (((a<((qv b).length:Int))&&(!(e==c)))&&g) (vh n c)) fun i=>some (a,(bif a<((qv b).length:Int) then bif e==c then true else bif g then i else false else false))
def qg (n:Nat) (a:List SS) (b:SS):Option (Int×Bool):= qy (qT n a b) n (0,((qv a).length:Int))
instance (n a b):LL (qT n a b) [0,1,6] (fun(c,d)=>[(7,pI c),(8,pI d)]):=⟨⟩
theorem uu (n:Nat):∀(a:List SS) (b:SS) (r:Int×Bool),qg n a b=some r->qh TP 180 [PV.sl (qv a),PV.str b] (RA1 r):=by
 intro a b r h;unfold qg at h;exact zN Tryz.call180 Tryz.func180 [1000000] au
instance (n:Nat) (a:List SS) (b:SS):CC TP (qg n a b) 180 [PV.sl (qv a),PV.str b] RA1:=⟨uu n a b⟩
def cO (n:Nat) (c:Val) (u:SS):Option (Val×Bool):= match c with | ⟨d,_,_,_,a,t⟩=>bnd (qg n t u) fun⟨b,v⟩=>bif bif bif !v then true else d != 5 then true else b≥((Val.rows a).length:Int) then some (Val.mk 0 false 0 ([]:SS) ([]:List Val) ([]:List SS),false) else bnd (idx a b) fun⟨e,f,g,i,j,k⟩=>bnd (zG n (Val.mk e f g i j k)) fun⟨l,m,o,p,q,s⟩=>some (Val.mk l m o p q s,true)
instance (n a b):CC TP (cO n a b) 204 [PV.agg (zx.cells a),PV.str b] qgs:=⟨fun r h=>by
 obtain⟨_,_,_,_,_,_⟩:=a;unfold cO at h;exact zN Tryz.call204 Tryz.func204 [1000000] au⟩
def gW (n:Nat) (a:List Val):Option (Val):= some (Val.mk 4 false 0 ([]:SS) a ([]:List SS))
instance (n a):CC TP (gW n a) 207 [PV.sl (Val.rows a)] lL:=⟨fun r h=>by
 unfold gW at h;exact zN Tryz.call207 Tryz.func207 [1000000] au⟩
def uT (n:Nat) (b:Val):Option (Bool):= match b with | ⟨a,c,d,e,f,g⟩=>some (bif bif bif bif bif a==1 then true else !c then bif bif a==2 then true else a≥6 then true else d==0 else false then bif a==3 then true else e==([]:SS) else false then bif bif a==4 then true else a==5 then true else ((Val.rows f).length:Int)==0 else false then bif a==5 then true else ((qv g).length:Int)==0 else false)
instance (n a):CC TP (uT n a) 269 [PV.agg (zx.cells a)] RA0:=⟨fun r h=>by
 obtain⟨_,_,_,_,_,_⟩:=a;unfold uT at h;exact zN Tryz.call269 Tryz.func269 [1000000] au⟩
def uf (n:Nat) (c:List SS):LK (Int) (Bool):=fun d a=>bif a<((qv c).length:Int) then bnd (idx c a) fun b=>bnd (qz ((!(bif b==([]:SS) then true else (b.length:Int)>64))&&(a>0)) (idx c (kwr .i64 (a - 1)))) fun e=>bif bif bif b==([]:SS) then true else (b.length:Int)>64 then true else bif a>0 then !(Op.bytesLess e b) else false then some false else d (kwr .i64 (a+1)) else some true
def ue (n:Nat) (a:List SS):Option (Bool):= qy (uf n a) n 0
instance (n a):LL (uf n a) [0,5,6] (fun b=>[(7,pI b)]):=⟨⟩
instance (n a):CC TP (ue n a) 270 [PV.sl (qv a)] RA0:=⟨fun r h=>by
 unfold ue at h;exact zN Tryz.call270 Tryz.func270 [1000000] au⟩
def ug (n:Nat) (d:List Val) (g232:Val->Int->Int->Option (Int×Bool)) (p:Int):LK (Int×Bool×Int) (Int×Bool):=fun e (b,c,a)=>bif bif a<((Val.rows d).length:Int) then c else false then bnd (idx d a) fun⟨f,g,i,j,k,l⟩=>bnd (g232 (Val.mk f g i j k l) (kwr .i64 (p - 1)) b) fun⟨m,o⟩=>e (m,o,kwr .i64 (a+1)) else some (b,c)
def cZ (n:Nat) (g232:Val->Int->Int->Option (Int×Bool)) (i:Val) (e b:Int):Option (Int×Bool):= match i with | ⟨a,k,f,l,c,d⟩=>bnd (qz (!(bif bif bif e<1 then true else kwr .i64 (b+1)>4096 then true else a<0 then true else a>7)) (uT n (Val.mk a k f l c d))) fun g=>bnd (qz (((!(bif bif bif bif bif e<1 then true else kwr .i64 (b+1)>4096 then true else a<0 then true else a>7 then true else !g then true else bif a≥6 then f<1 else false))&&(a==5))&&(!(((qv d).length:Int) != ((Val.rows c).length:Int)))) (ue n d)) fun j=>bif bif bif bif bif bif bif e<1 then true else kwr .i64 (b+1)>4096 then true else a<0 then true else a>7 then true else !g then true else bif a≥6 then f<1 else false then true else bif a==5 then bif ((qv d).length:Int) != ((Val.rows c).length:Int) then true else !j else false then some (kwr .i64 (b+1),false) else qy (ug n c g232 e) n (kwr .i64 (b+1),true,0)
instance (n d g232 e):LL (ug n d g232 e) [1,3] (fun(a,b,c)=>[(2,pI a),(8,pB b),(9,pI c)]) [0]:=⟨⟩
theorem GP (n:Nat) (g232:Val->Int->Int->Option (Int×Bool)) (g232_ok:∀(a:Val) (b c:Int) (r:Int×Bool),g232 a b c=some r->qh TP 232 [PV.agg (zx.cells a),PV.int .i64 b,PV.int .i64 c] (RA1 r)):∀(a:Val) (b c:Int) (r:Int×Bool),cZ n g232 a b c=some r->qh TP 232 [PV.agg (zx.cells a),PV.int .i64 b,PV.int .i64 c] (RA1 r):=by
 have:=fun a b c=>CC.mk (g232_ok a b c);intro a b c r h;obtain⟨_,_,_,_,_,_⟩:=a;unfold cZ at h;exact zN Tryz.call232 Tryz.func232 [1000000] au
def xP:Nat->Val->Int->Int->Option (Int×Bool)
 | 0=>fun _ _ _=>none
 | n+1=>cZ n (xP n)

theorem GX (n:Nat):(∀(a:Val) (b c:Int) (r:Int×Bool),xP n a b c=some r->qh TP 232 [PV.agg (zx.cells a),PV.int .i64 b,PV.int .i64 c] (RA1 r)):=by
 induction n with
 | zero=>exact(by intros; rename_i h; cases h)
 | succ n ih=>
  have hg232:=ih;exact GP n (xP n) hg232
theorem Cc (n:Nat):∀(a:Val) (b c:Int) (r:Int×Bool),xP n a b c=some r->qh TP 232 [PV.agg (zx.cells a),PV.int .i64 b,PV.int .i64 c] (RA1 r):=(GX n)
instance (n:Nat) (a:Val) (b:Int) (c:Int):CC TP (xP n a b c) 232 [PV.agg (zx.cells a),PV.int .i64 b,PV.int .i64 c] RA1:=⟨Cc n a b c⟩
def xW (n:Nat) (a:Val):Option (Int):= match a with | ⟨b,c,d,e,f,g⟩=>bnd (xP n (Val.mk b c d e f g) 32 0) fun⟨_,i⟩=>bif !i then some 20 else some 0
theorem Zi (n:Nat):∀(a:Val) (r:Int),xW n a=some r->qh TP 197 [PV.agg (zx.cells a)] (RA2 r):=by
 intro a r h;obtain⟨_,_,_,_,_,_⟩:=a;unfold xW at h;exact zN Tryz.call197 Tryz.func197 [1000000] au
instance (n:Nat) (a:Val):CC TP (xW n a) 197 [PV.agg (zx.cells a)] RA2:=⟨Zi n a⟩
def gX (n:Nat) (g:Val):Option (Val×Int):= match g with | ⟨b,c,d,a,e,f⟩=>bnd (qz (!((a.length:Int)>16384)) (xW n (Val.mk b c d a e f))) fun i=>bif bif (a.length:Int)>16384 then true else i != 0 then some (Val.mk 0 false 0 ([]:SS) ([]:List Val) ([]:List SS),8) else some (Val.mk b c d a e f,0)
instance (n a):CC TP (gX n a) 206 [PV.agg (zx.cells a)] rH:=⟨fun r h=>by
 obtain⟨_,_,_,_,_,_⟩:=a;unfold gX at h;exact zN Tryz.call206 Tryz.func206 [1000000] au⟩
end W
end
section
set_option maxRecDepth 100000
set_option maxHeartbeats 20000000
open Go Go.Proofs Ax
attribute [local irreducible] zh rI uh
namespace W
def nM (n p:Nat) (A:List Int) (s:List SS) (t:List Val):LK (Int×List Val×List SS) (Val×Int):=fun q (c,a,b)=>bif c<(((xZ .i64 (List.replicate p 0)).length):Int) then bnd (pY c) fun d=>chk (d<(xZ .i64 (List.replicate p 0)).length) (bnd (A[d]?) fun e=>bnd (idx s e) fun f=>chk ((qv (b++[f])).length * 16<=140737488355328) (bnd (idx t e) fun⟨g,i,j,k,l,m⟩=>chk ((Val.rows (a++[Val.mk g i j k l m])).length * 88<=140737488355328) (q (kwr .i64 (c+1),a++[Val.mk g i j k l m],b++[f])))) else bnd (xW n (Val.mk 5 false 0 ([]:SS) a b)) fun o=>bif o != 0 then some (Val.mk 0 false 0 ([]:SS) ([]:List Val) ([]:List SS),o) else bnd (zG n (Val.mk 5 false 0 ([]:SS) a b)) fun⟨u,v,w,x,y,z⟩=>some (Val.mk u v w x y z,0)
def nL (n b:Nat) (e:List SS) (g:List Val):LK (Int×List Int) (Val×Int):=fun f (a,c)=>bif a<(((xZ .i64 (List.replicate b 0)).length):Int) then bnd (pY a) fun d=>chk (d<(xZ .i64 (List.replicate b 0)).length) (bnd (c[d]?) fun _=>f (kwr .i64 (a+1),c.set d a)) else bnd (iX e c) fun i=>qy (nM n b i e g) n (0,([]:List _),([]:List _))
def bG (n:Nat) (a:List SS) (c:List Val):Option (Val×Int):= bif ((qv a).length:Int) != ((Val.rows c).length:Int) then some (Val.mk 0 false 0 ([]:SS) ([]:List Val) ([]:List SS),20) else bnd (pY ((qv a).length:Int)) fun b=>chk (b * 8<=140737488355328) (qy (nL n b a c) n (0,List.replicate b 0))
theorem Br (n:Nat):∀(d:List SS) (m:List Val) (r:Val×Int),bG n d m=some r->qh TP 208 [PV.sl (qv d),PV.sl (Val.rows m)] (rH r):=by
 intro d m r h;unfold bG at h;refine zN Tryz.call208 Tryz.func208 [235,10000020,1000000] ?_;conv=>whnf
 apply ifc h<;>intro v h
 ·obtain rfl:=sj h
  conv=>whnf
  try exact fin
 conv=>whnf
 refine bq h fun a H h=>?_;have q:=cV H;conv=>whnf
 obtain⟨y,h⟩:=qu h;refine⟨a,xZ .i64 (List.replicate a (0:Int)),⟨q,q,kod y,xY y (by decide),Codec.made (qa5 .i64) (0:Int) a rfl,rfl,by decide,rfl⟩,?_⟩;conv=>whnf
 refine uh.fn [235,10000020,1000000] (S:=Int×List Int) (fun(s,t)=>[(1,pV m),(2,.ptr 0 0),(4,.ptr 1 0),(6,.ptr 2 0),(22,.p (.int .i64 ((((xZ .i64 (List.replicate a (0:Int))).length):Nat):Int))),(23,pI s)]) (fun(s,t)=>[.box 22 [pT d],zq4,.box 289 [.vsl 3 ((xZ .i64 (List.replicate a (0:Int))).length)],.vec 3 1 (xZ .i64 t)]) (B:=nL n a d m) h (wk [0,1,3,2] []) ?_;intro _ st h;obtain⟨s,t⟩:=st;unfold nL at h;conv=>whnf
 apply ifc h<;>intro v h
 ·conv=>whnf
  refine bq h fun w J h=>?_;have q:=cV J;conv=>whnf
  obtain⟨I,h⟩:=qu h;refine⟨w,⟨q,kod I⟩,?_⟩;conv=>whnf
  refine bq h fun _ C h=>⟨_,⟨rfl,Codec.getN (qa5 .i64) C,rfl⟩,?_⟩;conv=>whnf
  refine⟨_,Codec.setN (qa5 .i64) t w s,?_⟩;conv=>whnf
  exact⟨((kwr .i64 (s+1)),(t.set w s)),h,wk [0,1,2,3] []⟩
 conv=>whnf
 refine bq h fun x G h=>?_;refine qb4 (k:=3) (kn:=0) (ka:=2) rfl rfl rfl G (lo':=[.box 22 [pT d],zq4,.box 289 [.vsl 3 ((xZ .i64 (List.replicate a (0:Int))).length)],.vec 3 1 (xZ .i64 x)]) rfl ?_;conv=>whnf
 refine uh.fn [235,10000020,1000000] (S:=Int×List Val×List SS) (fun(u,b,c)=>[(1,pV m),(2,.ptr 0 0),(4,.ptr 1 0),(8,.ptr 2 0),(36,.vsl 3 ((xZ .i64 (List.replicate a (0:Int))).length)),(37,.p (.int .i64 ((((xZ .i64 (List.replicate a (0:Int))).length):Nat):Int))),(38,pI u)]) (fun(u,b,c)=>[.box 22 [pT d],zq4,.box 35 [.p (.int .i64 (5:Int)),pB false,zq0,zq1,.tsl 4 (Val.rows b),.tsl 5 (qv c)],.vec 3 1 (xZ .i64 x),.tail 35 6 (Val.rows b).length,.tail 9 1 (qv c).length]) (B:=nM n a x d m) h (wk [0,1,4,3,0,0] [4,5]) ?_;intro _ st h;obtain⟨u,b,c⟩:=st;unfold nM at h;conv=>whnf
 apply ifc h<;>intro v h
 ·conv=>whnf
  refine bq h fun O D h=>?_;have q:=cV D;conv=>whnf
  obtain⟨N,h⟩:=qu h;refine⟨O,⟨q,kod N⟩,?_⟩;conv=>whnf
  refine bq h fun _ M h=>⟨_,⟨rfl,Codec.getN (qa5 .i64) M⟩,?_⟩;conv=>whnf
  refine bq h fun e L h=>⟨_,Codec.at_ CZ L,?_⟩;conv=>whnf
  refine⟨Codec.one CZ [e],qv [e],.inl rfl,?_⟩;conv=>whnf
  rw[show qv c++qv [e]=qv (c++[e])from Codec.append CZ c [e]];conv=>whnf
  obtain⟨A,h⟩:=qu h;refine⟨⟨Codec.wide CZ (c++[e]),kod A,xY A (by decide)⟩,?_⟩;conv=>whnf
  refine⟨⟨rfl,rfl,rfl⟩,?_⟩;conv=>whnf
  refine bq h fun⟨f,g,i,j,l,o⟩ K h=>⟨_,Codec.at_ zx K,?_⟩;conv=>whnf
  refine⟨Codec.one zx [Val.mk f g i j l o],Val.rows [Val.mk f g i j l o],.inl rfl,?_⟩;conv=>whnf
  rw[show Val.rows b++Val.rows [Val.mk f g i j l o]=Val.rows (b++[Val.mk f g i j l o])from Codec.append zx b [Val.mk f g i j l o]];conv=>whnf
  obtain⟨z,h⟩:=qu h;refine⟨⟨Codec.wide zx (b++[Val.mk f g i j l o]),kod z,xY z (by decide)⟩,?_⟩;conv=>whnf
  refine⟨⟨rfl,rfl,rfl⟩,?_⟩;conv=>whnf
  exact⟨((kwr .i64 (u+1)),(b++[Val.mk f g i j l o]),(c++[e])),h,wk [0,1,2,3,7,6] []⟩
 conv=>whnf
 refine bq h fun _ F h=>⟨_,(Zi n _ _ F),?_⟩;conv=>whnf
 apply ifc h<;>intro v h
 ·obtain rfl:=sj h
  conv=>whnf
  try exact fin
 conv=>whnf
 refine bq h fun⟨_,_,_,_,_,_⟩ E h=>⟨_,(fu n _ _ E),?_⟩;obtain rfl:=sj h;conv=>whnf
 try exact fin
instance (n:Nat) (a:List SS) (b:List Val):CC TP (bG n a b) 208 [PV.sl (qv a),PV.sl (Val.rows b)] rH:=⟨Br n a b⟩
def uW (n:Nat) (a:Int):Option (Bool):= some (a != a)
instance (n a):CC TP (uW n a) 177 [PV.int .i64 a] RA0:=⟨fun r h=>by
 unfold uW at h;exact zN Tryz.call177 Tryz.func177 [1000000] au⟩
def xh (n:Nat) (a b:Int):Option (Int):= bnd (uW n a) fun d=>bnd (uW n b) fun c=>bif d then bif c then some 0 else some (-1) else bif c then some 1 else bif a<b then some (-1) else bif a>b then some 1 else some 0
instance (n a b):CC TP (xh n a b) 150 [PV.int .i64 a,PV.int .i64 b] RA2:=⟨fun r h=>by
 unfold xh at h;exact zN Tryz.call150 Tryz.func150 [1000000] au⟩
def dR (n:Nat) (a:Node):Option (Int):= match a with | ⟨b,_,_,_⟩=>some b
instance (n a):CC TP (dR n a) 106 [PV.agg (me.cells a)] RA2:=⟨fun r h=>by
 cases a;unfold dR at h;exact zN Tryz.call106 Tryz.func106 [1000000] au⟩
def zt (n:Nat) (a:Node) (f:Int) (_:Unit):Option (Int):= match a with | ⟨b,c,d,e⟩=>bnd (dR n (Node.mk b c d e)) fun g=>bnd (xh n g f) fun i=>some i
theorem uK (n:Nat):∀(a:Node) (b:Int) (c:Unit) (r:Int),zt n a b c=some r->qh TP 152 [PV.agg (me.cells a),PV.int .i64 b,PV.hp [PV.fn 106]] (RA2 r):=by
 intro a b c r h;obtain⟨_,_,_,_⟩:=a;unfold zt at h;exact zN Tryz.call152 Tryz.func152 [1000000] au
instance (n:Nat) (a:Node) (b:Int) (c:Unit):CC TP (zt n a b c) 152 [PV.agg (me.cells a),PV.int .i64 b,PV.hp [PV.fn 106]] RA2:=⟨uK n a b c⟩
def qd (n:Nat) (b:List Node) (e:Int):LK (Int×Int) (Int×Bool):=fun d (a,c)=>bif a<c then bnd (idx b (kwr .i64 (Int.fdiv (kwr .u64 (kwr .i64 (a+c))) (2 ^ (min (Int.toNat 1) IntKind.u64.bits))))) fun⟨m,o,p,q⟩=>bnd (zt n (Node.mk m o p q) e ()) fun f=>bif f<0 then d (kwr .i64 (kwr .i64 (Int.fdiv (kwr .u64 (kwr .i64 (a+c))) (2 ^ (min (Int.toNat 1) IntKind.u64.bits)))+1),c) else d (a,kwr .i64 (Int.fdiv (kwr .u64 (kwr .i64 (a+c))) (2 ^ (min (Int.toNat 1) IntKind.u64.bits)))) else bnd (qz (a<((Node.rows b).length:Int)) (idx b a)) fun⟨g,i,j,k⟩=>bnd (qz (a<((Node.rows b).length:Int)) (zt n (Node.mk g i j k) e ())) fun l=>some (a,(bif a<((Node.rows b).length:Int) then l==0 else false))
def qj (n:Nat) (a:List Node) (b:Int) (_:Unit):Option (Int×Bool):= qy (qd n a b) n (0,((Node.rows a).length:Int))
theorem xp (n:Nat):∀(a:List Node) (d:Int) (f:Unit) (r:Int×Bool),qj n a d f=some r->qh TP 151 [PV.sl (Node.rows a),PV.int .i64 d,PV.clo 152 [PV.hp [PV.fn 106]]] (RA1 r):=by
 intro a d f r h;unfold qj at h;refine zN Tryz.call151 Tryz.func151 [1000000] ?_;conv=>whnf
 refine uh.fn [1000000] (S:=Int×Int) (fun(b,c)=>[(0,.p (.sl (Node.rows a))),(1,pI d),(2,.p (.clo 152 [PV.hp [PV.fn 106]])),(8,.p (.int .i64 ((Node.rows a).length:Int))),(9,pI b),(10,pI c)]) (fun(b,c)=>[]) (B:=qd n a d) h (wk [] []) ?_;intro _ st h;obtain⟨b,c⟩:=st;unfold qd at h;conv=>whnf
 apply ifc h<;>intro l h
 ·conv=>whnf
  refine⟨by unfold gI; decide,?_⟩;conv=>whnf
  refine bq h fun⟨_,_,_,_⟩ i h=>⟨_,Codec.at_ me i,?_⟩;conv=>whnf
  refine bq h fun _ g h=>⟨_,(uK n _ _ _ _ g),?_⟩;conv=>whnf
  apply ifc h<;>intro l h
  ·conv=>whnf
   exact⟨((kwr .i64 ((kwr .i64 (Int.fdiv (kwr .u64 (kwr .i64 (b+c))) (2 ^ (min (Int.toNat (1:Int)) IntKind.u64.bits))))+1)),c),h,wk [] []⟩
  conv=>whnf
  exact⟨(b,(kwr .i64 (Int.fdiv (kwr .u64 (kwr .i64 (b+c))) (2 ^ (min (Int.toNat (1:Int)) IntKind.u64.bits))))),h,wk [] []⟩
 conv=>whnf
 refine⟨id,id,?_⟩;conv=>whnf
 refine bq h fun⟨_,_,_,_⟩ k h=>⟨_,fun e=>Codec.at_ me (fC k e),?_⟩;conv=>whnf
 refine⟨id,id,id,id,?_⟩;conv=>whnf
 refine bq h fun _ j h=>⟨_,fun e=>(uK n _ _ _ _ (fC j e)),?_⟩;conv=>whnf
 refine⟨id,id,?_⟩;obtain rfl:=sj h;conv=>whnf
 try exact fin
instance (n:Nat) (a:List Node) (b:Int) (c:Unit):CC TP (qj n a b c) 151 [PV.sl (Node.rows a),PV.int .i64 b,PV.clo 152 [PV.hp [PV.fn 106]]] RA1:=⟨xp n a b c⟩
def qx (n:Nat) (a:List Node) (b:Int):Option (Int×Bool):= bnd (qj n a b ()) fun⟨c,d⟩=>some (c,d)
instance (n a b):CC TP (qx n a b) 105 [PV.sl (Node.rows a),PV.int .i64 b,PV.fn 106] RA1:=⟨fun r h=>by
 unfold qx at h;exact zN Tryz.call105 Tryz.func105 [10000005,1000000] au⟩
def vg (n:Nat) (b:Graph) (g:Int):Option (Node×Bool):= match b with | ⟨a,_⟩=>bnd (qx n a g) fun⟨i,j⟩=>bif !j then some (Node.mk 0 ([]:List SS) ([]:List SS) ([]:List Val),false) else bnd (idx a i) fun⟨k,l,m,o⟩=>bnd (vG n (Node.mk k l m o)) fun⟨c,d,e,f⟩=>some (Node.mk c d e f,true)
theorem ZT (n:Nat):∀(a:Graph) (b:Int) (r:Node×Bool),vg n a b=some r->qh TP 108 [PV.agg (uI.cells a),PV.int .i64 b] (qf0 r):=by
 intro a b r h;obtain⟨_,_⟩:=a;unfold vg at h;exact zN Tryz.call108 Tryz.func108 [1000000] au
instance (n:Nat) (a:Graph) (b:Int):CC TP (vg n a b) 108 [PV.agg (uI.cells a),PV.int .i64 b] qf0:=⟨ZT n a b⟩
def dQ (n:Nat) (a:Edge):Option (Int):= match a with | ⟨b,_,_,_,_,_⟩=>some b
instance (n a):CC TP (dQ n a) 104 [PV.agg (mc.cells a)] RA2:=⟨fun r h=>by
 cases a;unfold dQ at h;exact zN Tryz.call104 Tryz.func104 [1000000] au⟩
def zr (n:Nat) (a:Edge) (j:Int) (_:Unit):Option (Int):= match a with | ⟨b,d,e,f,g,i⟩=>bnd (dQ n (Edge.mk b d e f g i)) fun k=>bnd (xh n k j) fun c=>some c
theorem uJ (n:Nat):∀(a:Edge) (b:Int) (c:Unit) (r:Int),zr n a b c=some r->qh TP 149 [PV.agg (mc.cells a),PV.int .i64 b,PV.hp [PV.fn 104]] (RA2 r):=by
 intro a b c r h;obtain⟨_,_,_,_,_,_⟩:=a;unfold zr at h;exact zN Tryz.call149 Tryz.func149 [1000000] au
instance (n:Nat) (a:Edge) (b:Int) (c:Unit):CC TP (zr n a b c) 149 [PV.agg (mc.cells a),PV.int .i64 b,PV.hp [PV.fn 104]] RA2:=⟨uJ n a b c⟩
def qc (n:Nat) (b:List Edge) (e:Int):LK (Int×Int) (Int×Bool):=fun d (a,c)=>bif a<c then bnd (idx b (kwr .i64 (Int.fdiv (kwr .u64 (kwr .i64 (a+c))) (2 ^ (min (Int.toNat 1) IntKind.u64.bits))))) fun⟨s,t,u,v,f,g⟩=>bnd (zr n (Edge.mk s t u v f g) e ()) fun i=>bif i<0 then d (kwr .i64 (kwr .i64 (Int.fdiv (kwr .u64 (kwr .i64 (a+c))) (2 ^ (min (Int.toNat 1) IntKind.u64.bits)))+1),c) else d (a,kwr .i64 (Int.fdiv (kwr .u64 (kwr .i64 (a+c))) (2 ^ (min (Int.toNat 1) IntKind.u64.bits)))) else bnd (qz (a<((Edge.rows b).length:Int)) (idx b a)) fun⟨j,k,l,m,o,p⟩=>bnd (qz (a<((Edge.rows b).length:Int)) (zr n (Edge.mk j k l m o p) e ())) fun q=>some (a,(bif a<((Edge.rows b).length:Int) then q==0 else false))
def qi (n:Nat) (a:List Edge) (b:Int) (_:Unit):Option (Int×Bool):= qy (qc n a b) n (0,((Edge.rows a).length:Int))
theorem xo (n:Nat):∀(a:List Edge) (d:Int) (f:Unit) (r:Int×Bool),qi n a d f=some r->qh TP 148 [PV.sl (Edge.rows a),PV.int .i64 d,PV.clo 149 [PV.hp [PV.fn 104]]] (RA1 r):=by
 intro a d f r h;unfold qi at h;refine zN Tryz.call148 Tryz.func148 [1000000] ?_;conv=>whnf
 refine uh.fn [1000000] (S:=Int×Int) (fun(b,c)=>[(0,.p (.sl (Edge.rows a))),(1,pI d),(2,.p (.clo 149 [PV.hp [PV.fn 104]])),(8,.p (.int .i64 ((Edge.rows a).length:Int))),(9,pI b),(10,pI c)]) (fun(b,c)=>[]) (B:=qc n a d) h (wk [] []) ?_;intro _ st h;obtain⟨b,c⟩:=st;unfold qc at h;conv=>whnf
 apply ifc h<;>intro l h
 ·conv=>whnf
  refine⟨by unfold gI; decide,?_⟩;conv=>whnf
  refine bq h fun⟨_,_,_,_,_,_⟩ i h=>⟨_,Codec.at_ mc i,?_⟩;conv=>whnf
  refine bq h fun _ g h=>⟨_,(uJ n _ _ _ _ g),?_⟩;conv=>whnf
  apply ifc h<;>intro l h
  ·conv=>whnf
   exact⟨((kwr .i64 ((kwr .i64 (Int.fdiv (kwr .u64 (kwr .i64 (b+c))) (2 ^ (min (Int.toNat (1:Int)) IntKind.u64.bits))))+1)),c),h,wk [] []⟩
  conv=>whnf
  exact⟨(b,(kwr .i64 (Int.fdiv (kwr .u64 (kwr .i64 (b+c))) (2 ^ (min (Int.toNat (1:Int)) IntKind.u64.bits))))),h,wk [] []⟩
 conv=>whnf
 refine⟨id,id,?_⟩;conv=>whnf
 refine bq h fun⟨_,_,_,_,_,_⟩ k h=>⟨_,fun e=>Codec.at_ mc (fC k e),?_⟩;conv=>whnf
 refine⟨id,id,id,id,?_⟩;conv=>whnf
 refine bq h fun _ j h=>⟨_,fun e=>(uJ n _ _ _ _ (fC j e)),?_⟩;conv=>whnf
 refine⟨id,id,?_⟩;obtain rfl:=sj h;conv=>whnf
 try exact fin
instance (n:Nat) (a:List Edge) (b:Int) (c:Unit):CC TP (qi n a b c) 148 [PV.sl (Edge.rows a),PV.int .i64 b,PV.clo 149 [PV.hp [PV.fn 104]]] RA1:=⟨xo n a b c⟩
def qA (n:Nat) (a:List Edge) (b:Int):Option (Int×Bool):= bnd (qi n a b ()) fun⟨c,d⟩=>some (c,d)
instance (n a b):CC TP (qA n a b) 103 [PV.sl (Edge.rows a),PV.int .i64 b,PV.fn 104] RA1:=⟨fun r h=>by
 unfold qA at h;exact zN Tryz.call103 Tryz.func103 [10000005,1000000] au⟩
def cJ (n:Nat) (b:Graph) (l:Int):Option (Edge×Bool):= match b with | ⟨_,a⟩=>bnd (qA n a l) fun⟨m,o⟩=>bif !o then some (Edge.mk 0 0 0 ([]:SS) ([]:List SS) ([]:List Val),false) else bnd (idx a m) fun⟨p,q,s,t,c,d⟩=>bnd (xV n (Edge.mk p q s t c d)) fun⟨e,f,g,i,j,k⟩=>some (Edge.mk e f g i j k,true)
instance (n a b):CC TP (cJ n a b) 276 [PV.agg (uI.cells a),PV.int .i64 b] qgt:=⟨fun r h=>by
 cases a;unfold cJ at h;exact zN Tryz.call276 Tryz.func276 [1000000] au⟩
def ur (n:Nat) (d:xu) (e:Val):Option (List SS×List Val×Bool):= match d,e with | ⟨⟨_,_⟩,⟨b,c⟩,⟨_,_,_,_,_,_⟩⟩,⟨f,_,a,_,_,_⟩=>bif f==6 then bnd (vg n (Graph.mk b c) a) fun⟨⟨_,_,g,i⟩,j⟩=>some (g,i,j) else bnd (cJ n (Graph.mk b c) a) fun⟨⟨_,_,_,_,k,l⟩,m⟩=>some (k,l,m)
instance (n a b):CC TP (ur n a b) 237 [(PV.hp (gA.cells a)),PV.agg (zx.cells b)] qgu:=⟨fun r h=>by
 obtain⟨⟨_,_⟩,⟨_,_⟩,⟨_,_,_,_,_,_⟩⟩:=a;obtain⟨_,_,_,_,_,_⟩:=b;unfold ur at h;exact zN Tryz.call237 Tryz.func237 [40000002,40000004,1000000] au⟩
def dt (n:Nat):Unit->Option (Val×Int):=fun _=>some (Val.mk 0 false 0 ([]:SS) ([]:List Val) ([]:List SS),0)
def uF (n:Nat) (a:List SS) (k:List Val) (q:List Node) (z:List Edge) (A:Int) (B:Bool) (C:Int) (D:SS) (E:List Val) (b:List SS) (c:Int) (d:Bool) (e:Int) (f:SS) (g:List Val) (i:List SS) (j:SS):Bool->Option (Val×Int):=fun l=>bif l then bnd (ur n (xu.mk (Env.mk a k) (Graph.mk q z) (Val.mk A B C D E b)) (Val.mk c d e f g i)) fun⟨m,o,_⟩=>bnd (qg n m j) fun⟨p,s⟩=>bif s then bnd (idx o p) fun⟨t,u,v,w,x,y⟩=>some (Val.mk t u v w x y,0) else dt n () else some (Val.mk 0 false 0 ([]:SS) ([]:List Val) ([]:List SS),3)
def fo (n:Nat) (u:xu) (v:Val) (g:SS):Option (Val×Int):= match u,v with | ⟨⟨i,k⟩,⟨l,m⟩,⟨o,p,q,s,t,j⟩⟩,⟨a,b,c,d,e,f⟩=>bif a==0 then some (Val.mk a b c d e f,0) else bif a==5 then bnd (cO n (Val.mk a b c d e f) g) fun⟨⟨w,x,y,z,A,B⟩,_⟩=>some (Val.mk w x y z A B,0) else bif a==6 then uF n i k l m o p q s t j a b c d e f g (a==6) else uF n i k l m o p q s t j a b c d e f g (a==7)
instance (n a k m o p q s t u b c d e f g i j):LJ (uF n a k m o p q s t u b c d e f g i j) [0,2,4,6] (fun l=>[(29,pB l)]) [0,1]:=⟨⟩
instance (n):LJ (dt n) [] (fun _=>[(6,.ptr 0 0)]) [1]:=⟨⟩
instance (n a b c):CC TP (fo n a b c) 209 [(PV.hp (gA.cells a)),PV.agg (zx.cells b),PV.str c] rH:=⟨fun r h=>by
 obtain⟨⟨_,_⟩,⟨_,_⟩,⟨_,_,_,_,_,_⟩⟩:=a;obtain⟨_,_,_,_,_,_⟩:=b;unfold fo at h;exact zN Tryz.call209 Tryz.func209 [1000001,1000000] au⟩
def xI (n:Nat) (a:List SS) (b:SS):Option (Bool):= bnd (zg n a b) fun c=>some (c≥0)
instance (n a b):CC TP (xI n a b) 238 [PV.sl (qv a),PV.str b] RA0:=⟨fun r h=>by
 unfold xI at h;exact zN Tryz.call238 Tryz.func238 [1000000] au⟩
def bU (n:Nat) (a:Bool):Option (Int):= bif a then some 1 else some 0
instance (n a):CC TP (bU n a) 218 [PV.bool a] RA2:=⟨fun r h=>by
 unfold bU at h;exact zN Tryz.call218 Tryz.func218 [1000000] au⟩
def zT (n:Nat) (a:Int):Option (Val):= bif a==2 then some (Val.mk 0 false 0 ([]:SS) ([]:List Val) ([]:List SS)) else some (Val.mk 1 (a==1) 0 ([]:SS) ([]:List Val) ([]:List SS))
instance (n a):CC TP (zT n a) 216 [PV.int .i64 a] lL:=⟨fun r h=>by
 unfold zT at h;exact zN Tryz.call216 Tryz.func216 [1000000] au⟩
def fW (n:Nat) (b:xu) (c:Val) (e:SS):Option (Val×Int):= match b,c with | ⟨⟨_,_⟩,⟨q,t⟩,⟨_,_,_,_,_,_⟩⟩,⟨a,_,d,_,_,_⟩=>bif bif a != 6 then a != 0 else false then some (Val.mk 0 false 0 ([]:SS) ([]:List Val) ([]:List SS),3) else bnd (vg n (Graph.mk q t) d) fun⟨⟨_,f,_,_⟩,g⟩=>bif !g then some (Val.mk 0 false 0 ([]:SS) ([]:List Val) ([]:List SS),0) else bnd (xI n f e) fun i=>bnd (bU n i) fun j=>bnd (zT n j) fun⟨k,l,m,o,p,s⟩=>some (Val.mk k l m o p s,0)
instance (n a b c):CC TP (fW n a b c) 210 [(PV.hp (gA.cells a)),PV.agg (zx.cells b),PV.str c] rH:=⟨fun r h=>by
 obtain⟨⟨_,_⟩,⟨_,_⟩,⟨_,_,_,_,_,_⟩⟩:=a;obtain⟨_,_,_,_,_,_⟩:=b;unfold fW at h;exact zN Tryz.call210 Tryz.func210 [40000003,1000000] au⟩
def za (n:Nat) (g:Val):Option (Any):= match g with | ⟨a,c,d,e,f,j⟩=>bif a==0 then some Any.nul else bif a==1 then some (Any.b c) else bif a==2 then some (Any.i d) else bif a==3 then some (Any.s e) else bif a==4 then some (Any.l f) else some (Any.v (Val.mk a c d e f j))
instance (n a):CC TP (za n a) 239 [PV.agg (zx.cells a)] qgv:=⟨fun r h=>by
 obtain⟨_,_,_,_,_,_⟩:=a;unfold za at h;exact zN Tryz.call239 Tryz.func239 [1000000] au⟩
def nW (n:Nat) (b:Any):Int->Option (Val×Int):=fun a=>bif bif a<0 then true else a≥((Val.rows (Any.get_l b)).length:Int) then some (Val.mk 0 false 0 ([]:SS) ([]:List Val) ([]:List SS),0) else bnd (idx (Any.get_l b) a) fun⟨c,d,e,f,g,i⟩=>some (Val.mk c d e f g i,0)
def ZQ (n:Nat) (s t:Val):Option (Val×Int):= match s,t with | ⟨a,j,k,l,m,o⟩,⟨d,p,q,e,f,g⟩=>bif bif a==0 then true else d==0 then some (Val.mk 0 false 0 ([]:SS) ([]:List Val) ([]:List SS),0) else bnd (za n (Val.mk d p q e f g)) fun i=>bif bif Any.is_s i then a==5 else false then bnd (cO n (Val.mk a j k l m o) (Any.get_s i)) fun⟨⟨u,v,w,x,y,z⟩,_⟩=>some (Val.mk u v w x y z,0) else bnd (za n (Val.mk a j k l m o)) fun b=>bnd (za n (Val.mk d p q e f g)) fun c=>bif bif !(Any.is_l b) then true else !(Any.is_i c) then some (Val.mk 0 false 0 ([]:SS) ([]:List Val) ([]:List SS),3) else bif Any.get_i c<0 then nW n b (kwr .i64 (Any.get_i c+((Val.rows (Any.get_l b)).length:Int))) else nW n b (Any.get_i c)
instance (n a):LJ (nW n a) [10] (fun b=>[(12,pI b),(4,.ptr 0 0)]) [2]:=⟨⟩
instance (n a b):CC TP (ZQ n a b) 211 [PV.agg (zx.cells a),PV.agg (zx.cells b)] rH:=⟨fun r h=>by
 obtain⟨_,_,_,_,_,_⟩:=a;obtain⟨_,_,_,_,_,_⟩:=b;unfold ZQ at h;exact zN Tryz.call211 Tryz.func211 [1000000] au⟩
def zF (n:Nat) (a:Int):Option (Val):= some (Val.mk 2 false a ([]:SS) ([]:List Val) ([]:List SS))
instance (n a):CC TP (zF n a) 213 [PV.int .i64 a] lL:=⟨fun r h=>by
 unfold zF at h;exact zN Tryz.call213 Tryz.func213 [1000000] au⟩
end W
end
section
set_option maxRecDepth 100000
set_option maxHeartbeats 20000000
open Go Go.Proofs Ax
attribute [local irreducible] zh rI uh
namespace W
def Qd (n:Nat) (a b:Int):Option (Int×Int):= bif bif !(decide (a<0)==decide (b<0)) then !(decide (kwr .i64 (a - b)<0)==decide (a<0)) else false then some (0,4) else some (kwr .i64 (a - b),0)
instance (n a b):CC TP (Qd n a b) 214 [PV.int .i64 a,PV.int .i64 b] RA7:=⟨fun r h=>by
 unfold Qd at h;exact zN Tryz.call214 Tryz.func214 [1000000] au⟩
def xF (n:Nat) (f g:Val):Option (Val×Int):= match f,g with | ⟨a,q,v,w,x,y⟩,⟨e,z,A,i,j,k⟩=>bif bif a==0 then true else e==0 then some (Val.mk 0 false 0 ([]:SS) ([]:List Val) ([]:List SS),0) else bnd (za n (Val.mk a q v w x y)) fun b=>bnd (za n (Val.mk e z A i j k)) fun c=>bif bif !(Any.is_i b) then true else !(Any.is_i c) then some (Val.mk 0 false 0 ([]:SS) ([]:List Val) ([]:List SS),3) else bnd (Qd n (Any.get_i b) (Any.get_i c)) fun⟨l,d⟩=>bif d != 0 then some (Val.mk 0 false 0 ([]:SS) ([]:List Val) ([]:List SS),d) else bnd (zF n l) fun⟨m,o,p,s,t,u⟩=>some (Val.mk m o p s t u,0)
instance (n a b):CC TP (xF n a b) 212 [PV.agg (zx.cells a),PV.agg (zx.cells b),PV.fn 214] rH:=⟨fun r h=>by
 obtain⟨_,_,_,_,_,_⟩:=a;obtain⟨_,_,_,_,_,_⟩:=b;unfold xF at h;exact zN Tryz.call212 Tryz.func212 [1000000] au⟩
def ub (n:Nat) (c:Val):Option (Int×Int):= match c with | ⟨a,d,e,f,g,i⟩=>bif a==0 then some (2,0) else bnd (za n (Val.mk a d e f g i)) fun b=>bif !(Any.is_b b) then some (0,3) else bnd (bU n (Any.get_b b)) fun j=>some (j,0)
instance (n a):CC TP (ub n a) 215 [PV.agg (zx.cells a)] RA7:=⟨fun r h=>by
 obtain⟨_,_,_,_,_,_⟩:=a;unfold ub at h;exact zN Tryz.call215 Tryz.func215 [1000000] au⟩
def di (n:Nat) (a:Int):Option (Int):= bif bif a==0 then true else a==1 then some a else some 2
theorem pL (n:Nat):∀(a r:Int),di n a=some r->qh TP 240 [PV.int .i64 a] (RA2 r):=by
 intro a r h;unfold di at h;exact zN Tryz.call240 Tryz.func240 [1000000] au
instance (n:Nat) (a:Int):CC TP (di n a) 240 [PV.int .i64 a] RA2:=⟨pL n a⟩
def vS (n:Nat) (a:Int):Option (Int):= bnd (di n a) fun b=>bnd (idx [1,0,2] b) fun c=>some c
instance (n a):CC TP (vS n a) 217 [PV.int .i64 a] RA2:=⟨fun r h=>by
 unfold vS at h;exact zN Tryz.call217 Tryz.func217 [1000000] au⟩
def fN (n:Nat) (c d:Int):Option (Int):= bnd (di n c) fun b=>bnd (di n d) fun a=>bif b==0 then bif a==0 then some 0 else bif a==1 then some 0 else bif a==2 then some 0 else none else bif b==1 then bif a==0 then some 0 else bif a==1 then some 1 else bif a==2 then some 2 else none else bif b==2 then bif a==0 then some 0 else bif a==1 then some 2 else bif a==2 then some 2 else none else none
theorem Bp (n:Nat):∀(d e r:Int),fN n d e=some r->qh TP 242 [PV.int .i64 d,PV.int .i64 e] (RA2 r):=by
 intro d e r h;unfold fN at h;refine zN Tryz.call242 Tryz.func242 [1000000] ?_;conv=>whnf
 refine⟨rfl,DQ rfl,?_⟩;conv=>whnf
 refine⟨rfl,DQ rfl,?_⟩;conv=>whnf
 refine⟨rfl,DQ rfl,?_⟩;conv=>whnf
 refine⟨by repeat (first|exact List.forall_mem_nil _|refine List.forall_mem_cons.2 ⟨rfl,?_⟩),rfl,?_⟩;conv=>whnf
 replace h:=qQ h;obtain⟨c,g,h⟩:=h;refine⟨_,(pL n _ _ g),?_⟩;conv=>whnf
 replace h:=qQ h;obtain⟨b,f,h⟩:=h;refine⟨_,(pL n _ _ f),?_⟩;by_cases a:(c==0)=true
 ·replace h:=uw h a
  obtain rfl:c=(0:Int):=by simpa using a
  conv=>whnf
  refine⟨by first|exact⟨by decide,by decide⟩|decide|(intro _; decide),?_⟩;by_cases a:(b==0)=true
  ·replace h:=uw h a
   obtain rfl:b=(0:Int):=by simpa using a
   conv=>whnf
   refine⟨by first|exact⟨by decide,by decide⟩|decide|(intro _; decide),?_⟩;obtain rfl:=sj h;conv=>whnf
   try exact fin
  replace h:=uv h (by simpa using a);by_cases a:(b==1)=true
  ·replace h:=uw h a
   obtain rfl:b=(1:Int):=by simpa using a
   conv=>whnf
   refine⟨by first|exact⟨by decide,by decide⟩|decide|(intro _; decide),?_⟩;obtain rfl:=sj h;conv=>whnf
   try exact fin
  replace h:=uv h (by simpa using a);by_cases a:(b==2)=true
  ·replace h:=uw h a
   obtain rfl:b=(2:Int):=by simpa using a
   conv=>whnf
   refine⟨by first|exact⟨by decide,by decide⟩|decide|(intro _; decide),?_⟩;obtain rfl:=sj h;conv=>whnf
   try exact fin
  replace h:=uv h (by simpa using a);cases h
 ·replace h:=uv h (by simpa using a)
  by_cases a:(c==1)=true
  ·replace h:=uw h a
   obtain rfl:c=(1:Int):=by simpa using a
   conv=>whnf
   refine⟨by first|exact⟨by decide,by decide⟩|decide|(intro _; decide),?_⟩;by_cases a:(b==0)=true
   ·replace h:=uw h a
    obtain rfl:b=(0:Int):=by simpa using a
    (conv=>whnf);refine⟨by first|exact⟨by decide,by decide⟩|decide|(intro _; decide),?_⟩
    obtain rfl:=sj h;conv=>whnf
    try exact fin
   replace h:=uv h (by simpa using a);by_cases a:(b==1)=true
   ·replace h:=uw h a
    obtain rfl:b=(1:Int):=by simpa using a
    (conv=>whnf);refine⟨by first|exact⟨by decide,by decide⟩|decide|(intro _; decide),?_⟩
    obtain rfl:=sj h;conv=>whnf
    try exact fin
   replace h:=uv h (by simpa using a);by_cases a:(b==2)=true
   ·replace h:=uw h a
    obtain rfl:b=(2:Int):=by simpa using a
    (conv=>whnf);refine⟨by first|exact⟨by decide,by decide⟩|decide|(intro _; decide),?_⟩
    obtain rfl:=sj h;conv=>whnf
    try exact fin
   replace h:=uv h (by simpa using a);cases h
  ·replace h:=uv h (by simpa using a)
   by_cases a:(c==2)=true
   ·replace h:=uw h a
    obtain rfl:c=(2:Int):=by simpa using a
    (conv=>whnf);refine⟨by first|exact⟨by decide,by decide⟩|decide|(intro _; decide),?_⟩
    by_cases a:(b==0)=true
    ·replace h:=uw h a
     obtain rfl:b=(0:Int):=by simpa using a
     (conv=>whnf);refine⟨by first|exact⟨by decide,by decide⟩|decide|(intro _; decide),?_⟩
     obtain rfl:=sj h;conv=>whnf
     try exact fin
    replace h:=uv h (by simpa using a);by_cases a:(b==1)=true
    ·replace h:=uw h a
     obtain rfl:b=(1:Int):=by simpa using a
     (conv=>whnf);refine⟨by first|exact⟨by decide,by decide⟩|decide|(intro _; decide),?_⟩
     obtain rfl:=sj h;conv=>whnf
     try exact fin
    replace h:=uv h (by simpa using a);by_cases a:(b==2)=true
    ·replace h:=uw h a
     obtain rfl:b=(2:Int):=by simpa using a
     (conv=>whnf);refine⟨by first|exact⟨by decide,by decide⟩|decide|(intro _; decide),?_⟩
     obtain rfl:=sj h;conv=>whnf
     try exact fin
    replace h:=uv h (by simpa using a);cases h
   ·replace h:=uv h (by simpa using a)
    cases h
instance (n:Nat) (a:Int) (b:Int):CC TP (fN n a b) 242 [PV.int .i64 a,PV.int .i64 b] RA2:=⟨Bp n a b⟩
def vd (n:Nat) (c d:Val):Option (Val×Int):= match c,d with | ⟨e,p,v,w,x,y⟩,⟨z,A,B,f,g,i⟩=>bnd (ub n (Val.mk e p v w x y)) fun⟨j,a⟩=>bif a != 0 then some (Val.mk 0 false 0 ([]:SS) ([]:List Val) ([]:List SS),a) else bnd (ub n (Val.mk z A B f g i)) fun⟨k,b⟩=>bif b != 0 then some (Val.mk 0 false 0 ([]:SS) ([]:List Val) ([]:List SS),b) else bnd (fN n j k) fun l=>bnd (zT n l) fun⟨m,o,q,s,t,u⟩=>some (Val.mk m o q s t u,0)
instance (n a b):CC TP (vd n a b) 241 [PV.agg (zx.cells a),PV.agg (zx.cells b),PV.fn 242] rH:=⟨fun r h=>by
 obtain⟨_,_,_,_,_,_⟩:=a;obtain⟨_,_,_,_,_,_⟩:=b;unfold vd at h;exact zN Tryz.call241 Tryz.func241 [1000000] au⟩
def rG (n:Nat) (a b:Int):Option (Int):= bnd (vS n a) fun c=>bnd (vS n b) fun d=>bnd (fN n c d) fun e=>bnd (vS n e) fun f=>some f
instance (n a b):CC TP (rG n a b) 243 [PV.int .i64 a,PV.int .i64 b] RA2:=⟨fun r h=>by
 unfold rG at h;exact zN Tryz.call243 Tryz.func243 [1000000] au⟩
def vz (n:Nat) (c d:Val):Option (Val×Int):= match c,d with | ⟨e,p,v,w,x,y⟩,⟨z,A,B,f,g,i⟩=>bnd (ub n (Val.mk e p v w x y)) fun⟨j,a⟩=>bif a != 0 then some (Val.mk 0 false 0 ([]:SS) ([]:List Val) ([]:List SS),a) else bnd (ub n (Val.mk z A B f g i)) fun⟨k,b⟩=>bif b != 0 then some (Val.mk 0 false 0 ([]:SS) ([]:List Val) ([]:List SS),b) else bnd (rG n j k) fun l=>bnd (zT n l) fun⟨m,o,q,s,t,u⟩=>some (Val.mk m o q s t u,0)
instance (n a b):CC TP (vz n a b) 241 [PV.agg (zx.cells a),PV.agg (zx.cells b),PV.fn 243] rH:=⟨fun r h=>by
 obtain⟨_,_,_,_,_,_⟩:=a;obtain⟨_,_,_,_,_,_⟩:=b;unfold vz at h;exact zN Tryz.call241 Tryz.func241 [1000000] au⟩
def QG (n:Nat) (a b:Int):Option (Int):= bnd (vS n b) fun c=>bnd (fN n a c) fun d=>bnd (vS n a) fun e=>bnd (fN n e b) fun f=>bnd (rG n d f) fun g=>some g
instance (n a b):CC TP (QG n a b) 244 [PV.int .i64 a,PV.int .i64 b] RA2:=⟨fun r h=>by
 unfold QG at h;exact zN Tryz.call244 Tryz.func244 [1000000] au⟩
def ve (n:Nat) (c d:Val):Option (Val×Int):= match c,d with | ⟨e,p,v,w,x,y⟩,⟨z,A,B,f,g,i⟩=>bnd (ub n (Val.mk e p v w x y)) fun⟨j,a⟩=>bif a != 0 then some (Val.mk 0 false 0 ([]:SS) ([]:List Val) ([]:List SS),a) else bnd (ub n (Val.mk z A B f g i)) fun⟨k,b⟩=>bif b != 0 then some (Val.mk 0 false 0 ([]:SS) ([]:List Val) ([]:List SS),b) else bnd (QG n j k) fun l=>bnd (zT n l) fun⟨m,o,q,s,t,u⟩=>some (Val.mk m o q s t u,0)
instance (n a b):CC TP (ve n a b) 241 [PV.agg (zx.cells a),PV.agg (zx.cells b),PV.fn 244] rH:=⟨fun r h=>by
 obtain⟨_,_,_,_,_,_⟩:=a;obtain⟨_,_,_,_,_,_⟩:=b;unfold ve at h;exact zN Tryz.call241 Tryz.func241 [1000000] au⟩
def xK (n:Nat) (b d:List SS):LK (Int) (Bool):=fun c a=>bif a<((qv b).length:Int) then bnd (idx b a) fun e=>bnd (idx d a) fun f=>bif !(e==f) then some false else c (kwr .i64 (a+1)) else some true
def zm (n:Nat) (a b:List SS):Option (Bool):= bif ((qv a).length:Int) != ((qv b).length:Int) then some false else qy (xK n a b) n 0
instance (n a b):LL (xK n a b) [0,1,12] (fun c=>[(13,pI c)]):=⟨⟩
instance (n a b):CC TP (zm n a b) 277 [PV.sl (qv a),PV.sl (qv b)] RA0:=⟨fun r h=>by
 unfold zm at h;exact zN Tryz.call277 Tryz.func277 [1000000] au⟩
abbrev qcw:Type:=Val->Val->Option (Bool)
def ri (n:Nat) (g278:qcw) (g301z278:(List Val)->(List Val)->Option (Bool)) (k l:Val):Option (Bool):= match k,l with | ⟨a,c,d,e,q,s⟩,⟨f,g,i,b,m,o⟩=>bnd (qz (bif bif bif a==f then c==g else false then d==i else false then e==b else false) (zm n s o)) fun j=>bnd (qz (bif bif bif bif a==f then c==g else false then d==i else false then e==b else false then j else false) (g301z278 q m)) fun p=>some (bif bif bif bif bif a==f then c==g else false then d==i else false then e==b else false then j else false then p else false)
def qt (n:Nat) (b l:List Val) (g278:qcw):LK (Int) (Bool):=fun c a=>bif a<((Val.rows b).length:Int) then bnd (idx b a) fun⟨m,o,p,q,s,t⟩=>bnd (idx l a) fun⟨d,e,f,g,i,j⟩=>bnd (g278 (Val.mk m o p q s t) (Val.mk d e f g i j)) fun k=>bif !k then some false else c (kwr .i64 (a+1)) else some true
def qC (n:Nat) (g278:qcw) (g301z278:(List Val)->(List Val)->Option (Bool)) (a b:List Val):Option (Bool):= bif ((Val.rows a).length:Int) != ((Val.rows b).length:Int) then some false else qy (qt n a b g278) n 0
theorem GO (n:Nat) (g278:qcw) (g301z278:(List Val)->(List Val)->Option (Bool)) (g278_ok:∀(a b:Val) (r:Bool),g278 a b=some r->qh TP 278 [PV.agg (zx.cells a),PV.agg (zx.cells b)] (RA0 r)) (g301_278_ok:∀(c d:List Val) (r:Bool),g301z278 c d=some r->qh TP 301 [PV.sl (Val.rows c),PV.sl (Val.rows d),PV.fn 278] (RA0 r)):∀(a b:Val) (r:Bool),ri n g278 g301z278 a b=some r->qh TP 278 [PV.agg (zx.cells a),PV.agg (zx.cells b)] (RA0 r):=by
 have:=fun a b=>CC.mk (g278_ok a b);have:=fun c d=>CC.mk (g301_278_ok c d);intro a b r h;obtain⟨c,d,_,_,_,_⟩:=a;obtain⟨_,_,_,_,_,_⟩:=b;unfold ri at h;exact zN Tryz.call278 Tryz.func278 [1000000] au
theorem xB (n:Nat) (g278:qcw) (g301z278:(List Val)->(List Val)->Option (Bool)) (g278_ok:∀(d e:Val) (r:Bool),g278 d e=some r->qh TP 278 [PV.agg (zx.cells d),PV.agg (zx.cells e)] (RA0 r)) (g301_278_ok:∀(a b:List Val) (r:Bool),g301z278 a b=some r->qh TP 301 [PV.sl (Val.rows a),PV.sl (Val.rows b),PV.fn 278] (RA0 r)):∀(a b:List Val) (r:Bool),qC n g278 g301z278 a b=some r->qh TP 301 [PV.sl (Val.rows a),PV.sl (Val.rows b),PV.fn 278] (RA0 r):=by
 intro a b r h;unfold qC at h;refine zN Tryz.call301 Tryz.func301 [1000000] ?_;conv=>whnf
 apply ifc h<;>intro f h
 ·obtain rfl:=sj h
  conv=>whnf
  try exact fin
 conv=>whnf
 refine uh.fn [1000000] (S:=Int) (fun c=>[(1,pV b),(2,.p (.fn 278)),(15,pV a),(16,.p (.int .i64 ((Val.rows a).length:Int))),(17,pI c)]) (fun c=>[]) (B:=qt n a b g278) h (wk [] []) ?_;intro _ c h;unfold qt at h;conv=>whnf
 apply ifc h<;>intro f h
 ·conv=>whnf
  refine bq h fun⟨_,_,_,_,_,_⟩ j h=>⟨_,Codec.at_ zx j,?_⟩;conv=>whnf
  refine bq h fun⟨_,_,_,_,_,_⟩ i h=>⟨_,Codec.at_ zx i,?_⟩;conv=>whnf
  refine bq h fun _ g h=>⟨_,(g278_ok _ _ _ g),?_⟩;conv=>whnf
  apply ifc h<;>intro f h
  ·obtain rfl:=sj h
   conv=>whnf
   try exact fin
  conv=>whnf
  exact⟨(kwr .i64 (c+1)),h,wk [] []⟩
 obtain rfl:=sj h;conv=>whnf
 try exact fin
mutual
def vH:Nat->Val->Val->Option (Bool)
 | 0=>fun _ _=>none
 | n+1=>ri n (vH n) (qe n)

def qe:Nat->(List Val)->(List Val)->Option (Bool)
 | 0=>fun _ _=>none
 | n+1=>qC n (vH n) (qe n)

end
theorem Zj (n:Nat):(∀(a b:Val) (r:Bool),vH n a b=some r->qh TP 278 [PV.agg (zx.cells a),PV.agg (zx.cells b)] (RA0 r))/\(∀(c d:List Val) (r:Bool),qe n c d=some r->qh TP 301 [PV.sl (Val.rows c),PV.sl (Val.rows d),PV.fn 278] (RA0 r)):=by
 induction n with
 | zero=>exact⟨(by intros; rename_i h; cases h),(by intros; rename_i h; cases h)⟩
 | succ n ih=>
  obtain⟨hg278,hg301_278⟩:=ih;exact⟨GO n (vH n) (qe n) hg278 hg301_278,xB n (vH n) (qe n) hg278 hg301_278⟩
theorem Cb (n:Nat):∀(a b:Val) (r:Bool),vH n a b=some r->qh TP 278 [PV.agg (zx.cells a),PV.agg (zx.cells b)] (RA0 r):=(Zj n).1
instance (n:Nat) (a:Val) (b:Val):CC TP (vH n a b) 278 [PV.agg (zx.cells a),PV.agg (zx.cells b)] RA0:=⟨Cb n a b⟩
theorem xJ (n:Nat):∀(a b:List Val) (r:Bool),qe n a b=some r->qh TP 301 [PV.sl (Val.rows a),PV.sl (Val.rows b),PV.fn 278] (RA0 r):=(Zj n).2
instance (n:Nat) (a:List Val) (b:List Val):CC TP (qe n a b) 301 [PV.sl (Val.rows a),PV.sl (Val.rows b),PV.fn 278] RA0:=⟨xJ n a b⟩
def pM (n:Nat) (c e:List Val) (g245:Val->Val->Option (Int)):LK (Int×Int) (Int):=fun d (b,a)=>bif a<((Val.rows c).length:Int) then bnd (idx c a) fun⟨f,g,i,j,k,l⟩=>bnd (idx e a) fun⟨m,o,p,q,s,t⟩=>bnd (g245 (Val.mk f g i j k l) (Val.mk m o p q s t)) fun u=>bnd (fN n b u) fun v=>d (v,kwr .i64 (a+1)) else some b
def dx (n:Nat) (g245:Val->Val->Option (Int)) (g i:Val):Option (Int):= match g,i with | ⟨a,l,m,q,c,f⟩,⟨d,s,t,j,b,e⟩=>bif bif a==0 then true else d==0 then some 2 else bnd (qz (!(bif a != d then true else ((Val.rows c).length:Int) != ((Val.rows b).length:Int))) (zm n f e)) fun k=>bif bif bif a != d then true else ((Val.rows c).length:Int) != ((Val.rows b).length:Int) then true else !k then some 0 else bif bif a==4 then true else a==5 then qy (pM n c b g245) n (1,0) else bnd (vH n (Val.mk a l m q c f) (Val.mk d s t j b e)) fun o=>bnd (bU n o) fun p=>some p
instance (n d a g245):LL (pM n d a g245) [50,51] (fun(b,c)=>[(5,pI b),(52,pI c),(3,.ptr 0 0)]) [1]:=⟨⟩
theorem UB (n:Nat) (g245:Val->Val->Option (Int)) (g245_ok:∀(a b:Val) (r:Int),g245 a b=some r->qh TP 245 [PV.agg (zx.cells a),PV.agg (zx.cells b)] (RA2 r)):∀(a b:Val) (r:Int),dx n g245 a b=some r->qh TP 245 [PV.agg (zx.cells a),PV.agg (zx.cells b)] (RA2 r):=by
 have:=fun a b=>CC.mk (g245_ok a b);intro a b r h;obtain⟨_,_,_,_,_,_⟩:=a;obtain⟨_,_,_,_,_,_⟩:=b;unfold dx at h;exact zN Tryz.call245 Tryz.func245 [1000000] au
def vB:Nat->Val->Val->Option (Int)
 | 0=>fun _ _=>none
 | n+1=>dx n (vB n)

theorem UO (n:Nat):(∀(a b:Val) (r:Int),vB n a b=some r->qh TP 245 [PV.agg (zx.cells a),PV.agg (zx.cells b)] (RA2 r)):=by
 induction n with
 | zero=>exact(by intros; rename_i h; cases h)
 | succ n ih=>
  have hg245:=ih;exact UB n (vB n) hg245
theorem GU (n:Nat):∀(a b:Val) (r:Int),vB n a b=some r->qh TP 245 [PV.agg (zx.cells a),PV.agg (zx.cells b)] (RA2 r):=(UO n)
instance (n:Nat) (a:Val) (b:Val):CC TP (vB n a b) 245 [PV.agg (zx.cells a),PV.agg (zx.cells b)] RA2:=⟨GU n a b⟩
def rq (n:Nat) (a:Int):Option (Int):= bnd (idx [7,5,6,4,3,0,1,2] a) fun b=>some b
instance (n a):CC TP (rq n a) 303 [PV.int .i64 a] RA2:=⟨fun r h=>by
 unfold rq at h;exact zN Tryz.call303 Tryz.func303 [1000000] au⟩
def cH (n:Nat) (a:Int):Option (Bool):= some (a != a)
instance (n a):CC TP (cH n a) 310 [PV.int .i64 a] RA0:=⟨fun r h=>by
 unfold cH at h;exact zN Tryz.call310 Tryz.func310 [1000000] au⟩
def vP (n:Nat) (a b:Int):Option (Int):= bnd (cH n a) fun d=>bnd (cH n b) fun c=>bif d then bif c then some 0 else some (-1) else bif c then some 1 else bif a<b then some (-1) else bif a>b then some 1 else some 0
instance (n a b):CC TP (vP n a b) 302 [PV.int .i64 a,PV.int .i64 b] RA2:=⟨fun r h=>by
 unfold vP at h;exact zN Tryz.call302 Tryz.func302 [1000000] au⟩
def vE (n:Nat) (a b:SS):Option (Int):= bnd (xd n a) fun d=>bnd (xd n b) fun c=>bif d then bif c then some 0 else some (-1) else bif c then some 1 else bif Op.bytesLess a b then some (-1) else bif !(Op.bytesLess a b||a==b) then some 1 else some 0
instance (n a b):CC TP (vE n a b) 304 [PV.str a,PV.str b] RA2:=⟨fun r h=>by
 unfold vE at h;exact zN Tryz.call304 Tryz.func304 [1000000] au⟩
def du (n:Nat) (b:List Int):LK (Int) (Int):=fun d a=>bif a<((xZ .i64 b).length:Int) then bnd (idx b a) fun c=>bif c != 0 then some c else d (kwr .i64 (a+1)) else some 0
def gf (n:Nat) (a:List Int):Option (Int):= qy (du n a) n 0
instance (n a):LL (du n a) [3,6,7] (fun b=>[(8,pI b)]):=⟨⟩
instance (n a):CC TP (gf n a) 305 [PV.sl (xZ .i64 a)] RA2:=⟨fun r h=>by
 unfold gf at h;exact zN Tryz.call305 Tryz.func305 [1000000] au⟩
def cn (n:Nat) (a:Bool):Option (Int):= bif a then some 1 else some 0
instance (n a):CC TP (cn n a) 306 [PV.bool a] RA2:=⟨fun r h=>by
 unfold cn at h;exact zN Tryz.call306 Tryz.func306 [1000000] au⟩
end W
end
