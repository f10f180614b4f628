/- A part of the proof: contracts, printed by program. -/
import Derived.Test.YtglihheagfnakaaGreatB
import Derived.Test.YtglihheagfnakaaGreatC
import Derived.Test.YtglihheagfnakaaGreatD
set_option linter.unusedVariables false
set_option linter.unusedSimpArgs false
set_option linter.unnecessarySimpa false
set_option linter.deprecated false
set_option linter.unusedSectionVars false
set_option linter.constructorNameAsVariable false
section
set_option maxRecDepth 100000
set_option maxHeartbeats 20000000
open Go Go.Proofs Ax
attribute [local irreducible] zh rI uh
namespace W
abbrev BB (_:List qk) (_:Int) (_:Bool) (r:zL×Int×Bool):FV:=.p ((PV.agg (Gf.cells r.1)))
abbrev Bv (a:List qk) (_:Int) (_:Bool) (r:zL×Int×Bool):List AObj:=[.box 117 [pK a,.p (.int .i64 r.2.1),.p (.bool r.2.2)]]
def bp (n:Nat) (o:List qk) (p:Bool) (b:List qp) (c d:SS) (e:List SS) (f:List qf) (a:List ql) (m:Int×Bool×List ql×List qp->Option (zL×Int×Bool)):Int×Int->Option (zL×Int×Bool):=fun(q,g)=>bnd (bR n o q p) fun⟨⟨i,j,k,l⟩,s,t⟩=>chk ((qp.rows (b++[qp.mk c d g e f])).length * 88<=140737488355328) (chk ((ql.rows (a++[ql.mk i j k l])).length * 88<=140737488355328) (m (s,t,a++[ql.mk i j k l],b++[qp.mk c d g e f])))
def pt (n:Nat) (a:List qk) (m:Bool) (e:List qp) (d:List ql) (c:Int×Bool×List ql×List qp->Option (zL×Int×Bool)):Int×Bool×SS×SS×List SS×List qf->Option (zL×Int×Bool):=fun(o,p,f,g,i,j)=>bnd (qX n ([45]:SS) a o p) fun⟨k,b⟩=>bif m then bp n a b e f g i j d c (k,1) else bnd (qm n ([62]:SS) a k b) fun⟨q,l⟩=>bif q then bp n a b e f g i j d c (l,0) else bp n a b e f g i j d c (l,2)
def px (n:Nat) (a:List qk) (e:Bool) (d:List qp) (c:List ql) (b:Int×Bool×List ql×List qp->Option (zL×Int×Bool)) (f g:SS):Int×Bool×List SS×List qf->Option (zL×Int×Bool):=fun(i,j,k,l)=>bnd (qX n ([93]:SS) a i j) fun⟨m,o⟩=>pt n a e d c b (m,o,f,g,k,l)
def pw (n:Nat) (a:List qk) (g:Bool) (f:List qp) (e:List ql) (d:Int×Bool×List ql×List qp->Option (zL×Int×Bool)) (i:SS):Int×Bool×SS->Option (zL×Int×Bool):=fun(b,c,j)=>bnd (xQ n ([123]:SS) a b c) fun k=>bif k then bnd (qM n a b c) fun⟨l,m,o,p⟩=>px n a g f e d i j (o,p,l,m) else px n a g f e d i j (b,c,([]:List _),([]:List _))
def br (n:Nat) (o:List qk) (p:Bool) (b:List qp) (c d:SS) (e:List SS) (f:List qf) (a:List ql) (m:Int×Bool×List ql×List qp->Option (zL×Int×Bool)):Int×Int->Option (zL×Int×Bool):=fun(q,g)=>bnd (bR n o q p) fun⟨⟨i,j,k,l⟩,s,t⟩=>chk ((qp.rows (b++[qp.mk c d g e f])).length * 88<=140737488355328) (chk ((ql.rows (a++[ql.mk i j k l])).length * 88<=140737488355328) (m (s,t,a++[ql.mk i j k l],b++[qp.mk c d g e f])))
def py (n:Nat) (a:List qk) (m:Bool) (e:List qp) (d:List ql) (c:Int×Bool×List ql×List qp->Option (zL×Int×Bool)):Int×Bool×SS×SS×List SS×List qf->Option (zL×Int×Bool):=fun(o,p,f,g,i,j)=>bnd (qX n ([45]:SS) a o p) fun⟨k,b⟩=>bif m then br n a b e f g i j d c (k,1) else bnd (qm n ([62]:SS) a k b) fun⟨q,l⟩=>bif q then br n a b e f g i j d c (l,0) else br n a b e f g i j d c (l,2)
def pD (n:Nat) (a:List qk) (e:Bool) (d:List qp) (c:List ql) (b:Int×Bool×List ql×List qp->Option (zL×Int×Bool)) (f g:SS):Int×Bool×List SS×List qf->Option (zL×Int×Bool):=fun(i,j,k,l)=>bnd (qX n ([93]:SS) a i j) fun⟨m,o⟩=>py n a e d c b (m,o,f,g,k,l)
def pz (n:Nat) (a:List qk) (g:Bool) (f:List qp) (e:List ql) (d:Int×Bool×List ql×List qp->Option (zL×Int×Bool)) (i:SS):Int×Bool×SS->Option (zL×Int×Bool):=fun(b,c,j)=>bnd (xQ n ([123]:SS) a b c) fun o=>bif o then bnd (qM n a b c) fun⟨p,k,l,m⟩=>pD n a g f e d i j (l,m,p,k) else pD n a g f e d i j (b,c,([]:List _),([]:List _))
def ZI (n:Nat) (a:List qk):LK (Int×Bool×List ql×List qp) (zL×Int×Bool):=fun e (f,b,c,d)=>bnd (xQ n ([45]:SS) a f b) fun g=>bif !g then bnd (xQ n ([60]:SS) a f b) fun A=>bif bif g then true else A then bnd (qm n ([60]:SS) a f b) fun⟨i,B⟩=>bnd (qX n ([45]:SS) a B b) fun⟨C,j⟩=>bnd (qm n ([91]:SS) a C j) fun⟨D,q⟩=>bif D then bnd (fT n a q j) fun⟨s,E,k⟩=>bnd (qm n ([58]:SS) a E k) fun⟨F,t⟩=>bif F then bnd (gT n a t k) fun⟨G,H,I⟩=>pw n a i d c e s (H,I,G) else pw n a i d c e s (t,k,([]:SS)) else pt n a i d c e (q,j,([]:SS),([]:SS),([]:List _),([]:List _)) else some (zL.mk c d,f,b) else bif bif g then true else false then bnd (qm n ([60]:SS) a f b) fun⟨l,J⟩=>bnd (qX n ([45]:SS) a J b) fun⟨K,m⟩=>bnd (qm n ([91]:SS) a K m) fun⟨L,u⟩=>bif L then bnd (fT n a u m) fun⟨v,M,o⟩=>bnd (qm n ([58]:SS) a M o) fun⟨w,p⟩=>bif w then bnd (gT n a p o) fun⟨x,y,z⟩=>pz n a l d c e v (y,z,x) else pz n a l d c e v (p,o,([]:SS)) else py n a l d c e (u,m,([]:SS),([]:SS),([]:List _),([]:List _)) else some (zL.mk c d,f,b)
def ZH (n:Nat) (a:List qk) (f:Int) (g:Bool):Option (zL×Int×Bool):= bnd (bR n a f g) fun⟨⟨b,c,d,e⟩,i,j⟩=>chk ((ql.rows [ql.mk b c d e]).length * 88<=140737488355328) (qy (ZI n a) n (i,j,[ql.mk b c d e],([]:List _)))
instance (n c):LL (ZI n c) [] (fun(d,e,a,b)=>[(0,.ptr 0 0),(2,.ptr 1 0),(3,.ptr 2 0)]) [0,1,2,4,0] (fun(d,e,a,b)=>[(0,.box 117 [pK c,pI d,pB e]),(1,.box 100 [zq2,zq2]),(2,.box 100 [.tsl 3 (ql.rows a),.tsl 4 (qp.rows b)]),(3,.tail 102 4 (ql.rows a).length),(4,.tail 104 5 (qp.rows b).length)]):=⟨⟩
instance (n c l b a k):LJ (pt n c l b a k) [6] (fun(d,e,f,g,i,j)=>[(0,.ptr 0 0),(2,.ptr 1 0),(3,.ptr 2 0),(5,.ptr 3 0)]) [0,1,2,3,4,5] (fun(d,e,f,g,i,j)=>[(0,.box 117 [pK c,pI d,pB e]),(1,.box 100 [zq2,zq2]),(2,.box 100 [.tsl 4 (ql.rows a),.tsl 5 (qp.rows b)]),(3,.box 104 [pS f,pS g,zq0,pT i,pE j]),(4,.tail 102 4 (ql.rows a).length),(5,.tail 104 5 (qp.rows b).length)]):=⟨⟩
instance (n c i b d e f g a l):LJ (bp n c i b d e f g a l) [] (fun(j,k)=>[(0,.ptr 0 0),(2,.ptr 1 0),(3,.ptr 2 0),(5,.ptr 3 0)]) [0,1,2,3,4,5] (fun(j,k)=>[(0,.box 117 [pK c,pI j,pB i]),(1,.box 100 [zq2,zq2]),(2,.box 100 [.tsl 4 (ql.rows a),.tsl 5 (qp.rows b)]),(3,.box 104 [pS d,pS e,pI k,pT f,pE g]),(4,.tail 102 4 (ql.rows a).length),(5,.tail 104 5 (qp.rows b).length)]):=⟨⟩
instance (n c j b a i d):LJ (pw n c j b a i d) [6] (fun(e,f,g)=>[(0,.ptr 0 0),(2,.ptr 1 0),(3,.ptr 2 0),(5,.ptr 3 0)]) [0,1,2,5,3,4] (fun(e,f,g)=>[(0,.box 117 [pK c,pI e,pB f]),(1,.box 100 [zq2,zq2]),(2,.box 100 [.tsl 4 (ql.rows a),.tsl 5 (qp.rows b)]),(3,.box 104 [pS d,pS g,zq0,zq2,zq2]),(4,.tail 102 4 (ql.rows a).length),(5,.tail 104 5 (qp.rows b).length)]):=⟨⟩
instance (n c l b a k d e):LJ (px n c l b a k d e) [6] (fun(f,g,i,j)=>[(0,.ptr 0 0),(2,.ptr 1 0),(3,.ptr 2 0),(5,.ptr 3 0)]) [0,1,2,3,4,5] (fun(f,g,i,j)=>[(0,.box 117 [pK c,pI f,pB g]),(1,.box 100 [zq2,zq2]),(2,.box 100 [.tsl 4 (ql.rows a),.tsl 5 (qp.rows b)]),(3,.box 104 [pS d,pS e,zq0,pT i,pE j]),(4,.tail 102 4 (ql.rows a).length),(5,.tail 104 5 (qp.rows b).length)]):=⟨⟩
instance (n c l b a k):LJ (py n c l b a k) [6] (fun(d,e,f,g,i,j)=>[(0,.ptr 0 0),(2,.ptr 1 0),(3,.ptr 2 0),(5,.ptr 3 0)]) [0,1,2,3,4,5] (fun(d,e,f,g,i,j)=>[(0,.box 117 [pK c,pI d,pB e]),(1,.box 100 [zq2,zq2]),(2,.box 100 [.tsl 4 (ql.rows a),.tsl 5 (qp.rows b)]),(3,.box 104 [pS f,pS g,zq0,pT i,pE j]),(4,.tail 102 4 (ql.rows a).length),(5,.tail 104 5 (qp.rows b).length)]):=⟨⟩
instance (n c i b d e f g a l):LJ (br n c i b d e f g a l) [] (fun(j,k)=>[(0,.ptr 0 0),(2,.ptr 1 0),(3,.ptr 2 0),(5,.ptr 3 0)]) [0,1,2,3,4,5] (fun(j,k)=>[(0,.box 117 [pK c,pI j,pB i]),(1,.box 100 [zq2,zq2]),(2,.box 100 [.tsl 4 (ql.rows a),.tsl 5 (qp.rows b)]),(3,.box 104 [pS d,pS e,pI k,pT f,pE g]),(4,.tail 102 4 (ql.rows a).length),(5,.tail 104 5 (qp.rows b).length)]):=⟨⟩
instance (n c j b a i d):LJ (pz n c j b a i d) [6] (fun(e,f,g)=>[(0,.ptr 0 0),(2,.ptr 1 0),(3,.ptr 2 0),(5,.ptr 3 0)]) [0,1,2,5,3,4] (fun(e,f,g)=>[(0,.box 117 [pK c,pI e,pB f]),(1,.box 100 [zq2,zq2]),(2,.box 100 [.tsl 4 (ql.rows a),.tsl 5 (qp.rows b)]),(3,.box 104 [pS d,pS g,zq0,zq2,zq2]),(4,.tail 102 4 (ql.rows a).length),(5,.tail 104 5 (qp.rows b).length)]):=⟨⟩
instance (n c l b a k d e):LJ (pD n c l b a k d e) [6] (fun(f,g,i,j)=>[(0,.ptr 0 0),(2,.ptr 1 0),(3,.ptr 2 0),(5,.ptr 3 0)]) [0,1,2,3,4,5] (fun(f,g,i,j)=>[(0,.box 117 [pK c,pI f,pB g]),(1,.box 100 [zq2,zq2]),(2,.box 100 [.tsl 4 (ql.rows a),.tsl 5 (qp.rows b)]),(3,.box 104 [pS d,pS e,zq0,pT i,pE j]),(4,.tail 102 4 (ql.rows a).length),(5,.tail 104 5 (qp.rows b).length)]):=⟨⟩
instance (n a b c):CO TP (ZH n a b c) 135 [.ptr 0 0] [.box 117 [pK a,pI b,pB c]] 1 (BB a b c) (Bv a b c):=⟨fun r h=>by
 unfold ZH at h;exact zO Tryz.call135 Tryz.func135 [85,89,92,94,138,139,140,1000000] au⟩
end W
end
section
set_option maxRecDepth 100000
set_option maxHeartbeats 20000000
open Go Go.Proofs Ax
attribute [local irreducible] zh rI uh
namespace W
abbrev Cf (_:List qk) (_:Int) (_:Bool) (r:(List zL)×Int×Bool):FV:=.p (.sl (zL.rows r.1))
abbrev Cd (a:List qk) (_:Int) (_:Bool) (r:(List zL)×Int×Bool):List AObj:=[.box 117 [pK a,.p (.int .i64 r.2.1),.p (.bool r.2.2)]]
def Zg (n:Nat) (e:List qk):LK (List zL×Int×Bool) ((List zL)×Int×Bool):=fun g (b,j,k)=>bnd (ZH n e j k) fun⟨⟨c,d⟩,l,a⟩=>chk ((zL.rows (b++[zL.mk c d])).length * 48<=140737488355328) (bnd (qm n ([44]:SS) e l a) fun⟨i,f⟩=>bif !i then some (b++[zL.mk c d],f,a) else g (b++[zL.mk c d],f,a))
def rj (n:Nat) (a:List qk) (b:Int) (c:Bool):Option ((List zL)×Int×Bool):= qy (Zg n a) n (([]:List _),b,c)
instance (n b):LL (Zg n b) [0] (fun(a,c,d)=>[(3,.tsl 1 (zL.rows a))]) [0,0] (fun(a,c,d)=>[(0,.box 117 [pK b,pI c,pB d]),(1,.tail 100 2 (zL.rows a).length)]):=⟨⟩
instance (n a b c):CO TP (rj n a b c) 86 [.ptr 0 0] [.box 117 [pK a,pI b,pB c]] 1 (Cf a b c) (Cd a b c):=⟨fun r h=>by
 unfold rj at h;exact zO Tryz.call86 Tryz.func86 [85,135,1000000] au⟩
abbrev Ff (_:List qk) (_:Int) (_:Bool) (r:(List qf)×Int×Bool):FV:=.p (.sl (qf.rows r.1))
abbrev GY (a:List qk) (_:Int) (_:Bool) (r:(List qf)×Int×Bool):List AObj:=[.box 117 [pK a,.p (.int .i64 r.2.1),.p (.bool r.2.2)]]
def ch (n:Nat) (d:SS) (b:List qk) (p:Int) (a:Bool):Option ((List qf)×Int×Bool):= bnd (qm n d b p a) fun⟨q,c⟩=>bif !q then some (([]:List qf),c,a) else bnd (qP n b c a) fun⟨⟨s,t,⟨u,e,f,g,i,j⟩,k,l⟩,m,o⟩=>some ([qf.mk s t (Val.mk u e f g i j) k l],m,o)
instance (n d a b c):CO TP (ch n d a b c) 87 [.ptr 0 0,.p (PV.str d)] [.box 117 [pK a,pI b,pB c]] 1 (Ff a b c) (GY a b c):=⟨fun r h=>by
 unfold ch at h;exact zO Tryz.call87 Tryz.func87 [85,88,1000000] au⟩
end W
end
section
set_option maxRecDepth 100000
set_option maxHeartbeats 20000000
open Go Go.Proofs Ax
attribute [local irreducible] zh rI uh
namespace W
abbrev BC (_:List qk) (_:Int) (_:Bool) (r:qE×Int×Bool):FV:=.p ((PV.agg (dv.cells r.1)))
abbrev Bw (a:List qk) (_:Int) (_:Bool) (r:qE×Int×Bool):List AObj:=[.box 117 [pK a,.p (.int .i64 r.2.1),.p (.bool r.2.2)]]
def se (n:Nat) (a:List qk) (b:Int) (k:List zL) (q:List qf) (B:Int) (H:SS) (N:Int) (O:Bool) (P:Int) (Q:SS) (c:List Val) (d e:List SS) (f:List qf) (g:SS) (o:List gO) (p:Int) (s:SS) (t:Int) (u:Bool) (v:Int) (w:SS) (x:List Val) (y z:List SS) (A:List qf) (C:SS) (m:Bool) (i:List qD) (j:List SS) (l:Bool):Int×Bool×List xf->Option (qE×Int×Bool):=fun(D,E,F)=>bnd (ch n ([83,75,73,80]:SS) a D E) fun⟨G,I,J⟩=>bnd (ch n ([76,73,77,73,84]:SS) a I J) fun⟨K,L,M⟩=>some (qE.mk b k q (qf.mk B H (Val.mk N O P Q c d) e f) g (o++[gO.mk (qf.mk p s (Val.mk t u v w x y) z A) C]) m F G K i j l,L,M)
def pF (n:Nat) (a:List xf) (b:Int) (c:SS) (d:Int) (e:Bool) (f:Int) (g:SS) (i:List Val) (j k:List SS) (l:List qf) (p:List qk) (m:Bool) (t:Int) (B:List zL) (G:List qf) (Q:Int) (S:SS) (T:Int) (U:Bool) (X:Int) (Y:SS) (u:List Val) (v w:List SS) (x:List qf) (y:SS) (E:List gO) (F:Int) (H:SS) (I:Int) (J:Bool) (K:Int) (L:SS) (M:List Val) (N O:List SS) (P:List qf) (R:SS) (D:Bool) (z:List qD) (A:List SS) (C:Bool) (s:Int×Bool×List xf->Option (qE×Int×Bool)):Int×Bool->Option (qE×Int×Bool):=fun(V,o)=>chk ((xf.rows (a++[xf.mk (qf.mk b c (Val.mk d e f g i j) k l) o])).length * 168<=140737488355328) (bnd (qm n ([44]:SS) p V m) fun⟨W,q⟩=>bif !W then se n p t B G Q S T U X Y u v w x y E F H I J K L M N O P R D z A C (q,m,a++[xf.mk (qf.mk b c (Val.mk d e f g i j) k l) o]) else s (q,m,a++[xf.mk (qf.mk b c (Val.mk d e f g i j) k l) o]))
def ZK (n:Nat) (a:List qk) (d:Int) (m:List zL) (t:List qf) (D:Int) (F:SS) (G:Int) (Q:Bool) (U:Int) (V:SS) (e:List Val) (f g:List SS) (i:List qf) (j:SS) (q:List gO) (s:Int) (u:SS) (v:Int) (w:Bool) (x:Int) (y:SS) (z:List Val) (A B:List SS) (C:List qf) (E:SS) (p:Bool) (k:List qD) (l:List SS) (o:Bool):LK (Int×Bool×List xf) (qE×Int×Bool):=fun c (W,X,H)=>bnd (qP n a W X) fun⟨⟨I,J,⟨K,L,M,N,O,P⟩,R,S⟩,Y,b⟩=>bnd (qm n ([65,83,67]:SS) a Y b) fun⟨Z,T⟩=>bif !Z then bnd (qm n ([68,69,83,67]:SS) a T b) fun⟨a0,a1⟩=>pF n H I J K L M N O P R S a b d m t D F G Q U V e f g i j q s u v w x y z A B C E p k l o c (a1,a0) else pF n H I J K L M N O P R S a b d m t D F G Q U V e f g i j q s u v w x y z A B C E p k l o c (T,false)
def cB (n:Nat) (c:List gO) (d:Int) (e:SS) (f:Int) (g:Bool) (i:Int) (j:SS) (k:List Val) (l m:List SS) (o:List qf) (a:List qk) (q:Int) (z:List zL) (C:List qf) (D:Int) (F:SS) (H:Int) (I:Bool) (J:Int) (K:SS) (s:List Val) (t u:List SS) (v:List qf) (w:SS) (B:Bool) (x:List qD) (y:List SS) (A:Bool) (L:Int×Bool×List gO->Option (qE×Int×Bool)):Int×Bool×SS->Option (qE×Int×Bool):=fun(M,b,p)=>chk ((gO.rows (c++[gO.mk (qf.mk d e (Val.mk f g i j k l) m o) p])).length * 176<=140737488355328) (bnd (qm n ([44]:SS) a M b) fun⟨N,E⟩=>bif !N then bnd (qm n ([79,82,68,69,82]:SS) a E b) fun⟨O,G⟩=>bif O then bnd (qX n ([66,89]:SS) a G b) fun⟨P,Q⟩=>qy (ZK n a q z C D F H I J K s t u v w c d e f g i j k l m o p B x y A) n (P,Q,([]:List _)) else se n a q z C D F H I J K s t u v w c d e f g i j k l m o p B x y A (G,b,([]:List _)) else L (E,b,c++[gO.mk (qf.mk d e (Val.mk f g i j k l) m o) p]))
def ZJ (n:Nat) (a:List qk) (g:Int) (q:List zL) (v:List qf) (E:Int) (F:SS) (G:Int) (H:Bool) (I:Int) (J:SS) (i:List Val) (j k:List SS) (l:List qf) (m:SS) (t:Bool) (o:List qD) (p:List SS) (s:Bool):LK (Int×Bool×List gO) (qE×Int×Bool):=fun f (K,L,u)=>bnd (qP n a K L) fun⟨⟨b,c,⟨w,x,y,z,A,B⟩,C,D⟩,d,e⟩=>bif !(b != 2) then bnd (xQ n ([65,83]:SS) a d e) fun M=>bif bif b != 2 then true else M then bnd (qX n ([65,83]:SS) a d e) fun⟨N,O⟩=>bnd (uO n a N O) fun⟨P,Q,R⟩=>cB n u b c w x y z A B C D a g q v E F G H I J i j k l m t o p s f (Q,R,P) else cB n u b c w x y z A B C D a g q v E F G H I J i j k l m t o p s f (d,e,c) else bif bif b != 2 then true else false then bnd (qX n ([65,83]:SS) a d e) fun⟨S,T⟩=>bnd (uO n a S T) fun⟨U,V,W⟩=>cB n u b c w x y z A B C D a g q v E F G H I J i j k l m t o p s f (V,W,U) else cB n u b c w x y z A B C D a g q v E F G H I J i j k l m t o p s f (d,e,c)
def tp (n:Nat) (c:Int) (l:List zL) (s:List qf) (t:Int) (u:SS) (v:Int) (w:Bool) (x:Int) (y:SS) (d:List Val) (e f:List SS) (g:List qf) (i:SS) (_:Bool) (_ _:List qf) (j:List qD) (k:List SS) (m:Bool) (a:List qk) (o:Int) (b:Bool):Option (qE×Int×Bool):= bnd (qm n ([68,73,83,84,73,78,67,84]:SS) a o b) fun⟨p,q⟩=>qy (ZJ n a c l s t u v w x y d e f g i p j k m) n (q,b,([]:List _))
instance (n m b k s t u v w x y c d e f g o i j l):LL (ZJ n m b k s t u v w x y c d e f g o i j l) [0,3,4] (fun(p,q,a)=>[]) [0,1,2,0] (fun(p,q,a)=>[(0,.box 117 [pK m,pI p,pB q]),(1,.box 47 [pI b,pP k,pE s,pI t,pS u,pI v,pB w,pI x,pS y,pV c,pT d,pT e,pE f,pS g,.tsl 3 (gO.rows a),pB o,zq2,kc,kc,pU i,pT j,pB l]),(3,.tail 106 11 (gO.rows a).length)]):=⟨⟩
instance (n o p s t u v w x y z A l a j q B F G H I J b c d e f m g i k K):LJ (cB n o p s t u v w x y z A l a j q B F G H I J b c d e f m g i k K) [0,3,4] (fun(C,D,E)=>[(5,.ptr 3 0)]) [0,1,2,4,3] (fun(C,D,E)=>[(0,.box 117 [pK l,pI C,pB D]),(1,.box 47 [pI a,pP j,pE q,pI B,pS F,pI G,pB H,pI I,pS J,pV b,pT c,pT d,pE e,pS f,.tsl 4 (gO.rows o),pB m,zq2,kc,kc,pU g,pT i,pB k]),(3,.box 106 [pI p,pS s,pI t,pB u,pI v,pS w,pV x,pT y,pT z,pE A,pS E])]):=⟨⟩
instance (n m b k s C G H I J K c d e f g p q t u v w x y z A B D o i j l):LJ (se n m b k s C G H I J K c d e f g p q t u v w x y z A B D o i j l) [0,3,4] (fun(E,F,a)=>[]) [0,1,2,4,6] (fun(E,F,a)=>[(0,.box 117 [pK m,pI E,pB F]),(1,.box 47 [pI b,pP k,pE s,pI C,pS G,pI H,pB I,pI J,pS K,pV c,pT d,pT e,pE f,pS g,.tsl 3 (gO.rows (p++[gO.mk (qf.mk q t (Val.mk u v w x y z) A B) D])),pB o,.tsl 4 (xf.rows a),kc,kc,pU i,pT j,pB l]),(4,.tail 108 11 (xf.rows a).length)]):=⟨⟩
instance (n m b k s C E G I J K c d e f g p q t u v w x y z A B D o i j l):LL (ZK n m b k s C E G I J K c d e f g p q t u v w x y z A B D o i j l) [0,3,4] (fun(F,H,a)=>[]) [0,1,2,5,0] (fun(F,H,a)=>[(0,.box 117 [pK m,pI F,pB H]),(1,.box 47 [pI b,pP k,pE s,pI C,pS E,pI G,pB I,pI J,pS K,pV c,pT d,pT e,pE f,pS g,.tsl 3 (gO.rows (p++[gO.mk (qf.mk q t (Val.mk u v w x y z) A B) D])),pB o,.tsl 4 (xf.rows a),kc,kc,pU i,pT j,pB l]),(4,.tail 108 11 (xf.rows a).length)]):=⟨⟩
instance (n F G H I J K L M N P Q l R a j q B D E O U V b c d e f o p s t u v w x y z A C m g i k W):LJ (pF n F G H I J K L M N P Q l R a j q B D E O U V b c d e f o p s t u v w x y z A C m g i k W) [0,3,4] (fun(S,T)=>[(6,.ptr 3 0)]) [0,1,2,5,3,4] (fun(S,T)=>[(0,.box 117 [pK l,pI S,pB R]),(1,.box 47 [pI a,pP j,pE q,pI B,pS D,pI E,pB O,pI U,pS V,pV b,pT c,pT d,pE e,pS f,.tsl 4 (gO.rows (o++[gO.mk (qf.mk p s (Val.mk t u v w x y) z A) C])),pB m,.tsl 5 (xf.rows F),kc,kc,pU g,pT i,pB k]),(3,.box 108 [pI G,pS H,pI I,pB J,pI K,pS L,pV M,pT N,pT P,pE Q,pB T])]):=⟨⟩
instance (n d s u v w x y z A e f g i j k l m o q t a b c):CO TP (tp n d s u v w x y z A e f g i j k l m o q t a b c) 91 [.ptr 0 0,.p (.agg [.int .i64 d,.sl (zL.rows s),.sl (qf.rows u),.int .i64 v,.str w,.int .i64 x,.bool y,.int .i64 z,.str A,.sl (Val.rows e),.sl (qv f),.sl (qv g),.sl (qf.rows i),.str j,.nilsl,.bool k,.nilsl,.sl (qf.rows l),.sl (qf.rows m),.sl (qD.rows o),.sl (qv q),.bool t])] [.box 117 [pK a,pI b,pB c]] 1 (BC a b c) (Bw a b c):=⟨fun r h=>by
 unfold tp at h;exact zO Tryz.call91 Tryz.func91 [85,87,88,89,90,94,1000000] au⟩
end W
end
section
set_option maxRecDepth 100000
set_option maxHeartbeats 20000000
open Go Go.Proofs Ax
attribute [local irreducible] zh rI uh
namespace W
abbrev BD (_:List qk) (_:Int) (_:Bool) (r:qE×Int×Bool):FV:=.p ((PV.agg (dv.cells r.1)))
abbrev Bx (a:List qk) (_:Int) (_:Bool) (r:qE×Int×Bool):List AObj:=[.box 117 [pK a,.p (.int .i64 r.2.1),.p (.bool r.2.2)]]
def mr (n:Nat) (a:List qD) (b:SS) (I:List qk) (u:Int) (F:List zL) (J:List qf) (L:Int) (N:SS) (O:Int) (P:Bool) (Q:Int) (R:SS) (v:List Val) (w x:List SS) (y:List qf) (z:SS) (A:List gO) (B:Bool) (C:List xf) (D E:List qf) (G:List SS) (H:Bool) (t:Int×Bool×List qD->Option (qE×Int×Bool)):Int×Bool×SS×SS×Int×SS×Int×Bool×Int×SS×List Val×List SS×List SS×List qf->Option (qE×Int×Bool):=fun(K,c,d,e,f,g,i,j,k,l,m,o,p,q)=>chk ((qD.rows (a++[qD.mk b d e (qf.mk f g (Val.mk i j k l m o) p q)])).length * 208<=140737488355328) (bnd (qm n ([44]:SS) I K c) fun⟨M,s⟩=>bif !M then some (qE.mk u F J (qf.mk L N (Val.mk O P Q R v w) x y) z A B C D E (a++[qD.mk b d e (qf.mk f g (Val.mk i j k l m o) p q)]) G H,s,c) else t (s,c,a++[qD.mk b d e (qf.mk f g (Val.mk i j k l m o) p q)]))
def ZM (n:Nat) (a:List qk) (b:Int) (p:List zL) (v:List qf) (x:Int) (y:SS) (z:Int) (A:Bool) (B:Int) (C:SS) (d:List Val) (e f:List SS) (g:List qf) (i:SS) (j:List gO) (k:Bool) (l:List xf) (m o:List qf) (q:List SS) (s:Bool):LK (Int×Bool×List qD) (qE×Int×Bool):=fun c (H,I,t)=>bnd (uO n a H I) fun⟨u,J,w⟩=>bnd (qm n ([58]:SS) a J w) fun⟨K,D⟩=>bif K then bnd (gT n a D w) fun⟨L,M,N⟩=>mr n t u a b p v x y z A B C d e f g i j k l m o q s c (M,N,([]:SS),L,0,([]:SS),0,false,0,([]:SS),([]:List _),([]:List _),([]:List _),([]:List _)) else bnd (qX n ([46]:SS) a D w) fun⟨O,P⟩=>bnd (gT n a O P) fun⟨E,F,G⟩=>bif b==6 then bnd (qX n ([61]:SS) a F G) fun⟨Q,R⟩=>bnd (qP n a Q R) fun⟨⟨S,T,⟨U,V,W,X,Y,Z⟩,a0,a1⟩,a2,a3⟩=>mr n t u a b p v x y z A B C d e f g i j k l m o q s c (a2,a3,E,([]:SS),S,T,U,V,W,X,Y,Z,a0,a1) else mr n t u a b p v x y z A B C d e f g i j k l m o q s c (F,G,E,([]:SS),0,([]:SS),0,false,0,([]:SS),([]:List _),([]:List _),([]:List _),([]:List _))
def tq (n:Nat) (a:Int) (m:List zL) (u:List qf) (v:Int) (w:SS) (x:Int) (y:Bool) (z:Int) (A:SS) (b:List Val) (c d:List SS) (e:List qf) (f:SS) (g:List gO) (i:Bool) (j:List xf) (k l:List qf) (o:List SS) (p:Bool) (q:List qk) (s:Int) (t:Bool):Option (qE×Int×Bool):= qy (ZM n q a m u v w x y z A b c d e f g i j k l o p) n (s,t,([]:List _))
instance (n s b o v w x y z A B c d e f g i j k l m p q):LL (ZM n s b o v w x y z A B c d e f g i j k l m p q) [0,3,4] (fun(t,u,a)=>[]) [0,1,2,0] (fun(t,u,a)=>[(0,.box 117 [pK s,pI t,pB u]),(1,.box 47 [pI b,pP o,pE v,pI w,pS x,pI y,pB z,pI A,pS B,pV c,pT d,pT e,pE f,pS g,pA i,pB j,pO k,pE l,pE m,.tsl 3 (qD.rows a),pT p,pB q]),(3,.tail 110 13 (qD.rows a).length)]):=⟨⟩
instance (n s t q a m u E K L M N O b c d e f g i j k l o p P):LJ (mr n s t q a m u E K L M N O b c d e f g i j k l o p P) [0,3,4] (fun(v,w,x,y,z,A,B,C,D,F,G,H,I,J)=>[(5,.ptr 3 0)]) [0,1,2,4,3] (fun(v,w,x,y,z,A,B,C,D,F,G,H,I,J)=>[(0,.box 117 [pK q,pI v,pB w]),(1,.box 47 [pI a,pP m,pE u,pI E,pS K,pI L,pB M,pI N,pS O,pV b,pT c,pT d,pE e,pS f,pA g,pB i,pO j,pE k,pE l,.tsl 4 (qD.rows s),pT o,pB p]),(3,.box 110 [pS t,pS x,pS y,pI z,pS A,pI B,pB C,pI D,pS F,pV G,pT H,pT I,pE J])]):=⟨⟩
instance (n d s v w x y z A B e f g i j k l m o q t u a b c):CO TP (tq n d s v w x y z A B e f g i j k l m o q t u a b c) 93 [.ptr 0 0,.p (.agg [.int .i64 d,.sl (zL.rows s),.sl (qf.rows v),.int .i64 w,.str x,.int .i64 y,.bool z,.int .i64 A,.str B,.sl (Val.rows e),.sl (qv f),.sl (qv g),.sl (qf.rows i),.str j,.sl (gO.rows k),.bool l,.sl (xf.rows m),.sl (qf.rows o),.sl (qf.rows q),.nilsl,.sl (qv t),.bool u])] [.box 117 [pK a,pI b,pB c]] 1 (BD a b c) (Bx a b c):=⟨fun r h=>by
 unfold tq at h;exact zO Tryz.call93 Tryz.func93 [85,88,89,90,139,1000000] au⟩
end W
end
section
set_option maxRecDepth 100000
set_option maxHeartbeats 20000000
open Go Go.Proofs Ax
attribute [local irreducible] zh rI uh
namespace W
abbrev Zl (_:List qk) (_:Int) (_:Bool) (r:qE×Int×Bool):FV:=.p ((PV.agg (dv.cells r.1)))
abbrev Zk (a:List qk) (_:Int) (_:Bool) (r:qE×Int×Bool):List AObj:=[.box 117 [pK a,.p (.int .i64 r.2.1),.p (.bool r.2.2)]]
def xk (n:Nat):Int×Bool×Int×List zL×List qf×Int×SS×Int×Bool×Int×SS×List Val×List SS×List SS×List qf×SS×List gO×Bool×List xf×List qf×List qf×List qD×List SS×Bool->Option (qE×Int×Bool):=fun(v,w,x,y,z,A,a,b,c,d,e,f,g,i,j,k,l,m,o,p,q,s,t,u)=>some (qE.mk x y z (qf.mk A a (Val.mk b c d e f g) i j) k l m o p q s t u,v,w)
def nj (n:Nat) (d:List qk) (g:Bool):LK (Int×Bool×List SS) (qE×Int×Bool):=fun f (i,j,a)=>bnd (uO n d i j) fun⟨b,k,c⟩=>chk ((qv (a++[b])).length * 16<=140737488355328) (bnd (qm n ([44]:SS) d k c) fun⟨l,e⟩=>bif !l then some (qE.mk 8 ([]:List zL) ([]:List qf) (qf.mk 0 ([]:SS) (Val.mk 0 false 0 ([]:SS) ([]:List Val) ([]:List SS)) ([]:List SS) ([]:List qf)) ([]:SS) ([]:List gO) false ([]:List xf) ([]:List qf) ([]:List qf) ([]:List qD) (a++[b]) g,e,c) else f (e,c,a++[b]))
def nk (n:Nat) (d:List qk) (g:Bool):LK (Int×Bool×List SS) (qE×Int×Bool):=fun f (i,j,a)=>bnd (uO n d i j) fun⟨b,k,c⟩=>chk ((qv (a++[b])).length * 16<=140737488355328) (bnd (qm n ([44]:SS) d k c) fun⟨l,e⟩=>bif !l then some (qE.mk 8 ([]:List zL) ([]:List qf) (qf.mk 0 ([]:SS) (Val.mk 0 false 0 ([]:SS) ([]:List Val) ([]:List SS)) ([]:List SS) ([]:List qf)) ([]:SS) ([]:List gO) false ([]:List xf) ([]:List qf) ([]:List qf) ([]:List qD) (a++[b]) g,e,c) else f (e,c,a++[b]))
def nI (n:Nat) (a:List qk) (e2:Int) (b:Bool):Option (qE×Int×Bool):= bnd (qm n ([77,65,84,67,72]:SS) a e2 b) fun⟨e3,i⟩=>bif e3 then bnd (rj n a i b) fun⟨e4,e5,e6⟩=>bnd (ch n ([87,72,69,82,69]:SS) a e5 e6) fun⟨e7,e8,e9⟩=>xk n (e8,e9,1,e4,e7,0,([]:SS),0,false,0,([]:SS),([]:List _),([]:List _),([]:List _),([]:List _),([]:SS),([]:List _),false,([]:List _),([]:List _),([]:List _),([]:List _),([]:List _),false) else bnd (qm n ([85,78,87,73,78,68]:SS) a i b) fun⟨f0,j⟩=>bif f0 then bnd (qP n a j b) fun⟨⟨f1,f2,⟨f3,f4,f5,f6,f7,f8⟩,f9,g0⟩,g1,g2⟩=>bnd (qX n ([65,83]:SS) a g1 g2) fun⟨g3,g4⟩=>bnd (uO n a g3 g4) fun⟨g5,g6,g7⟩=>xk n (g6,g7,2,([]:List _),([]:List _),f1,f2,f3,f4,f5,f6,f7,f8,f9,g0,g5,([]:List _),false,([]:List _),([]:List _),([]:List _),([]:List _),([]:List _),false) else bnd (qm n ([87,73,84,72]:SS) a j b) fun⟨g8,k⟩=>bif g8 then bnd (tp n 3 ([]:List zL) ([]:List qf) 0 ([]:SS) 0 false 0 ([]:SS) ([]:List Val) ([]:List SS) ([]:List SS) ([]:List qf) ([]:SS) false ([]:List qf) ([]:List qf) ([]:List qD) ([]:List SS) false a k b) fun⟨⟨g9,i0,_,⟨i1,i2,⟨i3,i4,i5,i6,i7,i8⟩,i9,j0⟩,j1,j2,j3,j4,j5,j6,j7,j8,j9⟩,k0,k1⟩=>bnd (ch n ([87,72,69,82,69]:SS) a k0 k1) fun⟨k2,k3,k4⟩=>xk n (k3,k4,g9,i0,k2,i1,i2,i3,i4,i5,i6,i7,i8,i9,j0,j1,j2,j3,j4,j5,j6,j7,j8,j9) else bnd (qm n ([82,69,84,85,82,78]:SS) a k b) fun⟨k5,l⟩=>bif k5 then bnd (tp n 9 ([]:List zL) ([]:List qf) 0 ([]:SS) 0 false 0 ([]:SS) ([]:List Val) ([]:List SS) ([]:List SS) ([]:List qf) ([]:SS) false ([]:List qf) ([]:List qf) ([]:List qD) ([]:List SS) false a l b) fun⟨⟨k6,k7,k8,⟨k9,l0,⟨l1,l2,l3,l4,l5,l6⟩,l7,l8⟩,l9,m,o,p,q,s,t,u,v⟩,w,x⟩=>xk n (w,x,k6,k7,k8,k9,l0,l1,l2,l3,l4,l5,l6,l7,l8,l9,m,o,p,q,s,t,u,v) else bnd (qm n ([67,82,69,65,84,69]:SS) a l b) fun⟨y,e⟩=>bif y then bnd (rj n a e b) fun⟨z,A,B⟩=>xk n (A,B,4,z,([]:List _),0,([]:SS),0,false,0,([]:SS),([]:List _),([]:List _),([]:List _),([]:List _),([]:SS),([]:List _),false,([]:List _),([]:List _),([]:List _),([]:List _),([]:List _),false) else bnd (qm n ([77,69,82,71,69]:SS) a e b) fun⟨C,f⟩=>bif C then bnd (bR n a f b) fun⟨⟨D,E,F,G⟩,H,I⟩=>xk n (H,I,5,[zL.mk [ql.mk D E F G] ([]:List qp)],([]:List _),0,([]:SS),0,false,0,([]:SS),([]:List _),([]:List _),([]:List _),([]:List _),([]:SS),([]:List _),false,([]:List _),([]:List _),([]:List _),([]:List _),([]:List _),false) else bnd (qm n ([83,69,84]:SS) a f b) fun⟨J,g⟩=>bif J then bnd (tq n 6 ([]:List zL) ([]:List qf) 0 ([]:SS) 0 false 0 ([]:SS) ([]:List Val) ([]:List SS) ([]:List SS) ([]:List qf) ([]:SS) ([]:List gO) false ([]:List xf) ([]:List qf) ([]:List qf) ([]:List SS) false a g b) fun⟨⟨K,L,M,⟨N,O,⟨P,Q,R,S,T,U⟩,V,W⟩,X,Y,Z,a0,a1,a2,a3,a4,a5⟩,a6,a7⟩=>some (qE.mk K L M (qf.mk N O (Val.mk P Q R S T U) V W) X Y Z a0 a1 a2 a3 a4 a5,a6,a7) else bnd (qm n ([82,69,77,79,86,69]:SS) a g b) fun⟨a8,c⟩=>bif a8 then bnd (tq n 7 ([]:List zL) ([]:List qf) 0 ([]:SS) 0 false 0 ([]:SS) ([]:List Val) ([]:List SS) ([]:List SS) ([]:List qf) ([]:SS) ([]:List gO) false ([]:List xf) ([]:List qf) ([]:List qf) ([]:List SS) false a c b) fun⟨⟨a9,b0,b1,⟨b2,b3,⟨b4,b5,b6,b7,b8,b9⟩,c0,c1⟩,c2,c3,c4,c5,c6,c7,c8,c9,d0⟩,d1,d2⟩=>some (qE.mk a9 b0 b1 (qf.mk b2 b3 (Val.mk b4 b5 b6 b7 b8 b9) c0 c1) c2 c3 c4 c5 c6 c7 c8 c9 d0,d1,d2) else bnd (xQ n ([68,69,84,65,67,72]:SS) a c b) fun d=>bif !d then bnd (xQ n ([68,69,76,69,84,69]:SS) a c b) fun d3=>bif bif d then true else d3 then bnd (qm n ([68,69,84,65,67,72]:SS) a c b) fun⟨d4,d5⟩=>bnd (qX n ([68,69,76,69,84,69]:SS) a d5 b) fun⟨d6,d7⟩=>qy (nj n a d4) n (d6,d7,([]:List _)) else xk n (c,true,0,([]:List _),([]:List _),0,([]:SS),0,false,0,([]:SS),([]:List _),([]:List _),([]:List _),([]:List _),([]:SS),([]:List _),false,([]:List _),([]:List _),([]:List _),([]:List _),([]:List _),false) else bif bif d then true else false then bnd (qm n ([68,69,84,65,67,72]:SS) a c b) fun⟨d8,d9⟩=>bnd (qX n ([68,69,76,69,84,69]:SS) a d9 b) fun⟨e0,e1⟩=>qy (nk n a d8) n (e0,e1,([]:List _)) else xk n (c,true,0,([]:List _),([]:List _),0,([]:SS),0,false,0,([]:SS),([]:List _),([]:List _),([]:List _),([]:List _),([]:SS),([]:List _),false,([]:List _),([]:List _),([]:List _),([]:List _),([]:List _),false)
theorem UK (n:Nat):∀(a:List qk) (s:Int) (b:Bool) (r:qE×Int×Bool),nI n a s b=some r->zw TP 45 [.ptr 0 0] [.box 117 [pK a,pI s,pB b]] 1 (fun v lo=>v=Zl a s b r/\lo=Zk a s b r):=by
 intro a s b r h;unfold nI at h;refine zO Tryz.call45 Tryz.func45 [85,86,87,88,89,90,91,92,93,94,1000000] ?_;conv=>whnf
 refine rI.cut (S:=Int×Bool×Int×List zL×List qf×Int×SS×Int×Bool×Int×SS×List Val×List SS×List SS×List qf×SS×List gO×Bool×List xf×List qf×List qf×List qD×List SS×Bool) (fun(a6,a7,b0,c1,d1,d2,G,H,I,J,K,L,M,N,O,T,X,Y,Z,a0,a1,a2,a3,a4)=>[(2,.ptr 1 0),(3,.ptr 2 0)]) (fun(a6,a7,b0,c1,d1,d2,G,H,I,J,K,L,M,N,O,T,X,Y,Z,a0,a1,a2,a3,a4)=>[.box 117 [pK a,pI a6,pB a7],zq3,.box 47 [pI b0,pP c1,pE d1,pI d2,pS G,pI H,pB I,pI J,pS K,pV L,pT M,pT N,pE O,pS T,pA X,pB Y,pO Z,pE a0,pE a1,pU a2,pT a3,pB a4]]) (xk n) (r:=r) ?_ ?_
 ·intro st h
  obtain⟨a6,a7,b0,c1,d1,d2,G,H,I,J,K,L,M,N,O,T,X,Y,Z,a0,a1,a2,a3,a4⟩:=st;unfold xk at h;obtain rfl:=sj h;conv=>whnf
  refine⟨_,_,⟨rfl,rfl⟩,wk [0] []⟩
 conv=>whnf
 refine bq h fun⟨s3,s4⟩ i6 h=>?_;refine tB (CO.ok _ i6) [0] [] ?_;rintro _ _ ⟨rfl,rfl⟩;refine⟨pB s3,[.box 117 [pK a,pI s4,pB b],zq3,zq3],rfl,rfl,?_⟩;conv=>whnf
 apply ifc h<;>intro e h
 ·conv=>whnf
  refine bq h fun⟨a5,s5,s6⟩ j7 h=>?_;refine tB (CO.ok _ j7) [0] [] ?_;rintro _ _ ⟨rfl,rfl⟩;refine⟨pP a5,[.box 117 [pK a,pI s5,pB s6],zq3,.box 47 [.p (.int .i64 (1:Int)),zq2,zq2,zq0,zq1,zq0,pB false,zq0,zq1,zq2,zq2,zq2,zq2,zq1,zq2,pB false,zq2,zq2,zq2,zq2,zq2,pB false]],rfl,rfl,?_⟩;conv=>whnf
  refine bq h fun⟨f2,f3,f4⟩ k7 h=>?_;refine tB (CO.ok _ k7) [0] [] ?_;rintro _ _ ⟨rfl,rfl⟩;refine⟨pE f2,[.box 117 [pK a,pI f3,pB f4],zq3,.box 47 [.p (.int .i64 (1:Int)),pP a5,zq2,zq0,zq1,zq0,pB false,zq0,zq1,zq2,zq2,zq2,zq2,zq1,zq2,pB false,zq2,zq2,zq2,zq2,zq2,pB false]],rfl,rfl,?_⟩;conv=>whnf
  exact⟨(f3,f4,(1:Int),a5,f2,(0:Int),([]:SS),(0:Int),false,(0:Int),([]:SS),([]:List _),([]:List _),([]:List _),([]:List _),([]:SS),([]:List _),false,([]:List _),([]:List _),([]:List _),([]:List _),([]:List _),false),h,wk [0,1,2] []⟩
 conv=>whnf
 refine bq h fun⟨s7,s8⟩ l0 h=>?_;refine tB (CO.ok _ l0) [0] [] ?_;rintro _ _ ⟨rfl,rfl⟩;refine⟨pB s7,[.box 117 [pK a,pI s8,pB b],zq3,zq3],rfl,rfl,?_⟩;conv=>whnf
 apply ifc h<;>intro e h
 ·conv=>whnf
  refine bq h fun⟨⟨t,u,⟨w,x,y,z,A,C⟩,D,E⟩,s9,t0⟩ l1 h=>?_;refine tB (CO.ok _ l1) [0] [] ?_;rintro _ _ ⟨rfl,rfl⟩;refine⟨.p (.agg [.int .i64 t,.str u,.int .i64 w,.bool x,.int .i64 y,.str z,.sl (Val.rows A),.sl (qv C),.sl (qv D),.sl (qf.rows E)]),[.box 117 [pK a,pI s9,pB t0],zq3,.box 47 [.p (.int .i64 (2:Int)),zq2,zq2,zq0,zq1,zq0,pB false,zq0,zq1,zq2,zq2,zq2,zq2,zq1,zq2,pB false,zq2,zq2,zq2,zq2,zq2,pB false]],rfl,rfl,?_⟩;conv=>whnf
  refine bq h fun⟨t1,t2⟩ l2 h=>?_;refine tB (CO.ok _ l2) [0] [] ?_;rintro _ _ ⟨rfl,rfl⟩;refine⟨.p (.tup []),[.box 117 [pK a,pI t1,pB t2],zq3,.box 47 [.p (.int .i64 (2:Int)),zq2,zq2,pI t,pS u,pI w,pB x,pI y,pS z,pV A,pT C,pT D,pE E,zq1,zq2,pB false,zq2,zq2,zq2,zq2,zq2,pB false]],rfl,rfl,?_⟩;conv=>whnf
  refine bq h fun⟨f5,f6,f7⟩ l3 h=>?_;refine tB (CO.ok _ l3) [0] [] ?_;rintro _ _ ⟨rfl,rfl⟩;refine⟨pS f5,[.box 117 [pK a,pI f6,pB f7],zq3,.box 47 [.p (.int .i64 (2:Int)),zq2,zq2,pI t,pS u,pI w,pB x,pI y,pS z,pV A,pT C,pT D,pE E,zq1,zq2,pB false,zq2,zq2,zq2,zq2,zq2,pB false]],rfl,rfl,?_⟩;conv=>whnf
  exact⟨(f6,f7,(2:Int),([]:List _),([]:List _),t,u,w,x,y,z,A,C,D,E,f5,([]:List _),false,([]:List _),([]:List _),([]:List _),([]:List _),([]:List _),false),h,wk [0,1,2] []⟩
 conv=>whnf
 refine bq h fun⟨t3,t4⟩ l4 h=>?_;refine tB (CO.ok _ l4) [0] [] ?_;rintro _ _ ⟨rfl,rfl⟩;refine⟨pB t3,[.box 117 [pK a,pI t4,pB b],zq3,zq3],rfl,rfl,?_⟩;conv=>whnf
 apply ifc h<;>intro e h
 ·conv=>whnf
  refine bq h fun⟨⟨a8,a9,f8,⟨b1,b2,⟨b3,b4,b5,b6,b7,b8⟩,b9,c0⟩,c2,c3,c4,c5,c6,c7,c8,c9,d0⟩,t5,t6⟩ l5 h=>?_;refine tB (CO.ok _ l5) [0] [] ?_;rintro _ _ ⟨rfl,rfl⟩;refine⟨.p (.agg [.int .i64 a8,.sl (zL.rows a9),.sl (qf.rows f8),.int .i64 b1,.str b2,.int .i64 b3,.bool b4,.int .i64 b5,.str b6,.sl (Val.rows b7),.sl (qv b8),.sl (qv b9),.sl (qf.rows c0),.str c2,.sl (gO.rows c3),.bool c4,.sl (xf.rows c5),.sl (qf.rows c6),.sl (qf.rows c7),.sl (qD.rows c8),.sl (qv c9),.bool d0]),[.box 117 [pK a,pI t5,pB t6],zq3,.box 47 [.p (.int .i64 (3:Int)),zq2,zq2,zq0,zq1,zq0,pB false,zq0,zq1,zq2,zq2,zq2,zq2,zq1,zq2,pB false,zq2,zq2,zq2,zq2,zq2,pB false]],rfl,rfl,?_⟩;conv=>whnf
  refine bq h fun⟨f9,g0,g1⟩ i7 h=>?_;refine tB (CO.ok _ i7) [0] [] ?_;rintro _ _ ⟨rfl,rfl⟩;refine⟨pE f9,[.box 117 [pK a,pI g0,pB g1],zq3,.box 47 [pI a8,pP a9,pE f8,pI b1,pS b2,pI b3,pB b4,pI b5,pS b6,pV b7,pT b8,pT b9,pE c0,pS c2,pA c3,pB c4,pO c5,pE c6,pE c7,pU c8,pT c9,pB d0]],rfl,rfl,?_⟩;conv=>whnf
  exact⟨(g0,g1,a8,a9,f9,b1,b2,b3,b4,b5,b6,b7,b8,b9,c0,c2,c3,c4,c5,c6,c7,c8,c9,d0),h,wk [0,1,2] []⟩
 conv=>whnf
 refine bq h fun⟨t7,t8⟩ i8 h=>?_;refine tB (CO.ok _ i8) [0] [] ?_;rintro _ _ ⟨rfl,rfl⟩;refine⟨pB t7,[.box 117 [pK a,pI t8,pB b],zq3,zq3],rfl,rfl,?_⟩;conv=>whnf
 apply ifc h<;>intro e h
 ·conv=>whnf
  refine bq h fun⟨⟨g2,g3,g4,⟨g5,g6,⟨g7,g8,g9,i0,i1,i2⟩,i3,i4⟩,i5,d5,d6,d7,d8,d9,e0,e1,e2⟩,e3,e4⟩ i9 h=>?_;refine tB (CO.ok _ i9) [0] [] ?_;rintro _ _ ⟨rfl,rfl⟩;refine⟨.p (.agg [.int .i64 g2,.sl (zL.rows g3),.sl (qf.rows g4),.int .i64 g5,.str g6,.int .i64 g7,.bool g8,.int .i64 g9,.str i0,.sl (Val.rows i1),.sl (qv i2),.sl (qv i3),.sl (qf.rows i4),.str i5,.sl (gO.rows d5),.bool d6,.sl (xf.rows d7),.sl (qf.rows d8),.sl (qf.rows d9),.sl (qD.rows e0),.sl (qv e1),.bool e2]),[.box 117 [pK a,pI e3,pB e4],zq3,.box 47 [.p (.int .i64 (9:Int)),zq2,zq2,zq0,zq1,zq0,pB false,zq0,zq1,zq2,zq2,zq2,zq2,zq1,zq2,pB false,zq2,zq2,zq2,zq2,zq2,pB false]],rfl,rfl,?_⟩;conv=>whnf
  exact⟨(e3,e4,g2,g3,g4,g5,g6,g7,g8,g9,i0,i1,i2,i3,i4,i5,d5,d6,d7,d8,d9,e0,e1,e2),h,wk [0,1,2] []⟩
 conv=>whnf
 refine bq h fun⟨l6,l7⟩ j0 h=>?_;refine tB (CO.ok _ j0) [0] [] ?_;rintro _ _ ⟨rfl,rfl⟩;refine⟨pB l6,[.box 117 [pK a,pI l7,pB b],zq3,zq3],rfl,rfl,?_⟩;conv=>whnf
 apply ifc h<;>intro e h
 ·conv=>whnf
  refine bq h fun⟨e5,e6,e7⟩ j1 h=>?_;refine tB (CO.ok _ j1) [0] [] ?_;rintro _ _ ⟨rfl,rfl⟩;refine⟨pP e5,[.box 117 [pK a,pI e6,pB e7],zq3,.box 47 [.p (.int .i64 (4:Int)),zq2,zq2,zq0,zq1,zq0,pB false,zq0,zq1,zq2,zq2,zq2,zq2,zq1,zq2,pB false,zq2,zq2,zq2,zq2,zq2,pB false]],rfl,rfl,?_⟩;conv=>whnf
  exact⟨(e6,e7,(4:Int),e5,([]:List _),(0:Int),([]:SS),(0:Int),false,(0:Int),([]:SS),([]:List _),([]:List _),([]:List _),([]:List _),([]:SS),([]:List _),false,([]:List _),([]:List _),([]:List _),([]:List _),([]:List _),false),h,wk [0,1,2] []⟩
 conv=>whnf
 refine bq h fun⟨l8,l9⟩ j2 h=>?_;refine tB (CO.ok _ j2) [0] [] ?_;rintro _ _ ⟨rfl,rfl⟩;refine⟨pB l8,[.box 117 [pK a,pI l9,pB b],zq3,zq3],rfl,rfl,?_⟩;conv=>whnf
 apply ifc h<;>intro e h
 ·conv=>whnf
  refine bq h fun⟨⟨k,l,m,o⟩,e8,e9⟩ j3 h=>?_;refine tB (CO.ok _ j3) [0] [] ?_;rintro _ _ ⟨rfl,rfl⟩;refine⟨.p (.agg [.str k,.sl (qv l),.sl (qv m),.sl (qf.rows o)]),[.box 117 [pK a,pI e8,pB e9],zq3,.box 47 [.p (.int .i64 (5:Int)),zq2,zq2,zq0,zq1,zq0,pB false,zq0,zq1,zq2,zq2,zq2,zq2,zq1,zq2,pB false,zq2,zq2,zq2,zq2,zq2,pB false]],rfl,rfl,?_⟩;conv=>whnf
  refine⟨Codec.one bA [ql.mk k l m o],ql.rows [ql.mk k l m o],.inl rfl,?_⟩;conv=>whnf
  refine⟨by repeat (first|exact List.forall_mem_nil _|refine List.forall_mem_cons.2 ⟨⟨rfl,rfl⟩,?_⟩),zL.rows [zL.mk [ql.mk k l m o] ([]:List qp)],.inr (by try exact fin),?_⟩;conv=>whnf
  exact⟨(e8,e9,(5:Int),[zL.mk [ql.mk k l m o] ([]:List qp)],([]:List _),(0:Int),([]:SS),(0:Int),false,(0:Int),([]:SS),([]:List _),([]:List _),([]:List _),([]:List _),([]:SS),([]:List _),false,([]:List _),([]:List _),([]:List _),([]:List _),([]:List _),false),h,wk [0,1,2] []⟩
 conv=>whnf
 refine bq h fun⟨m0,m1⟩ j4 h=>?_;refine tB (CO.ok _ j4) [0] [] ?_;rintro _ _ ⟨rfl,rfl⟩;refine⟨pB m0,[.box 117 [pK a,pI m1,pB b],zq3,zq3],rfl,rfl,?_⟩;conv=>whnf
 apply ifc h<;>intro e h
 ·conv=>whnf
  refine bq h fun⟨⟨m2,m3,m4,⟨m5,m6,⟨m7,m8,m9,n0,n1,n2⟩,n3,n4⟩,n5,n6,n7,n8,n9,o0,o1,o2,o3⟩,o4,o5⟩ j5 h=>?_;refine tB (CO.ok _ j5) [0] [] ?_;rintro _ _ ⟨rfl,rfl⟩;refine⟨.p (.agg [.int .i64 m2,.sl (zL.rows m3),.sl (qf.rows m4),.int .i64 m5,.str m6,.int .i64 m7,.bool m8,.int .i64 m9,.str n0,.sl (Val.rows n1),.sl (qv n2),.sl (qv n3),.sl (qf.rows n4),.str n5,.sl (gO.rows n6),.bool n7,.sl (xf.rows n8),.sl (qf.rows n9),.sl (qf.rows o0),.sl (qD.rows o1),.sl (qv o2),.bool o3]),[.box 117 [pK a,pI o4,pB o5],zq3,.box 47 [.p (.int .i64 (6:Int)),zq2,zq2,zq0,zq1,zq0,pB false,zq0,zq1,zq2,zq2,zq2,zq2,zq1,zq2,pB false,zq2,zq2,zq2,zq2,zq2,pB false]],rfl,rfl,?_⟩;obtain rfl:=sj h;conv=>whnf
  refine⟨_,_,⟨rfl,rfl⟩,wk [0] []⟩
 conv=>whnf
 refine bq h fun⟨o6,q⟩ j6 h=>?_;refine tB (CO.ok _ j6) [0] [] ?_;rintro _ _ ⟨rfl,rfl⟩;refine⟨pB o6,[.box 117 [pK a,pI q,pB b],zq3,zq3],rfl,rfl,?_⟩;conv=>whnf
 apply ifc h<;>intro e h
 ·conv=>whnf
  refine bq h fun⟨⟨o7,o8,o9,⟨p0,p1,⟨p2,p3,p4,p5,p6,p7⟩,p8,p9⟩,q0,q1,q2,q3,q4,q5,q6,q7,q8⟩,q9,r0⟩ j8 h=>?_;refine tB (CO.ok _ j8) [0] [] ?_;rintro _ _ ⟨rfl,rfl⟩;refine⟨.p (.agg [.int .i64 o7,.sl (zL.rows o8),.sl (qf.rows o9),.int .i64 p0,.str p1,.int .i64 p2,.bool p3,.int .i64 p4,.str p5,.sl (Val.rows p6),.sl (qv p7),.sl (qv p8),.sl (qf.rows p9),.str q0,.sl (gO.rows q1),.bool q2,.sl (xf.rows q3),.sl (qf.rows q4),.sl (qf.rows q5),.sl (qD.rows q6),.sl (qv q7),.bool q8]),[.box 117 [pK a,pI q9,pB r0],zq3,.box 47 [.p (.int .i64 (7:Int)),zq2,zq2,zq0,zq1,zq0,pB false,zq0,zq1,zq2,zq2,zq2,zq2,zq1,zq2,pB false,zq2,zq2,zq2,zq2,zq2,pB false]],rfl,rfl,?_⟩;obtain rfl:=sj h;conv=>whnf
  refine⟨_,_,⟨rfl,rfl⟩,wk [0] []⟩
 conv=>whnf
 refine bq h fun r1 j9 h=>?_;refine tB (CO.ok _ j9) [0] [] ?_;rintro _ _ ⟨rfl,rfl⟩;refine⟨pB r1,[.box 117 [pK a,pI q,pB b],zq3,zq3],rfl,rfl,?_⟩;conv=>whnf
 refine⟨fun F=>?_,fun F=>?_⟩
 ·replace h:=uw h F
  conv=>whnf
  refine⟨id,?_⟩;conv=>whnf
  refine bq h fun r2 k0 h=>?_;refine tB (CO.ok _ k0) [0] [] ?_;rintro _ _ ⟨rfl,rfl⟩;refine⟨pB r2,[.box 117 [pK a,pI q,pB b],zq3,zq3],rfl,rfl,?_⟩;conv=>whnf
  refine⟨id,?_⟩;conv=>whnf
  apply ifc h<;>intro e h
  ·conv=>whnf
   refine bq h fun⟨i,r3⟩ k1 h=>?_;refine tB (CO.ok _ k1) [0] [] ?_;rintro _ _ ⟨rfl,rfl⟩;refine⟨pB i,[.box 117 [pK a,pI r3,pB b],zq3,zq5],rfl,rfl,?_⟩;conv=>whnf
   refine bq h fun⟨r4,r5⟩ k2 h=>?_;refine tB (CO.ok _ k2) [0] [] ?_;rintro _ _ ⟨rfl,rfl⟩;refine⟨.p (.tup []),[.box 117 [pK a,pI r4,pB r5],zq3,.box 47 [.p (.int .i64 (8:Int)),zq2,zq2,zq0,zq1,zq0,pB false,zq0,zq1,zq2,zq2,zq2,zq2,zq1,zq2,pB false,zq2,zq2,zq2,zq2,zq2,pB i]],rfl,rfl,?_⟩;conv=>whnf
   refine uh.fn [85,86,87,88,89,90,91,92,93,94,1000000] (S:=Int×Bool×List SS) (fun(P,Q,c)=>[(0,.ptr 0 0),(2,.ptr 1 0),(3,.ptr 2 0)]) (fun(P,Q,c)=>[.box 117 [pK a,pI P,pB Q],zq3,.box 47 [.p (.int .i64 (8:Int)),zq2,zq2,zq0,zq1,zq0,pB false,zq0,zq1,zq2,zq2,zq2,zq2,zq1,zq2,pB false,zq2,zq2,zq2,zq2,.tsl 3 (qv c),pB i],.tail 9 1 (qv c).length]) (B:=nj n a i) h (wk [0,1,2,0] [3]) ?_;intro _ st h;obtain⟨P,Q,c⟩:=st;unfold nj at h;conv=>whnf
   refine bq h fun⟨f,r6,R⟩ k3 h=>?_;refine tB (CO.ok _ k3) [0] [] ?_;rintro _ _ ⟨rfl,rfl⟩;refine⟨pS f,[.box 117 [pK a,pI r6,pB R],zq3,.box 47 [.p (.int .i64 (8:Int)),zq2,zq2,zq0,zq1,zq0,pB false,zq0,zq1,zq2,zq2,zq2,zq2,zq1,zq2,pB false,zq2,zq2,zq2,zq2,.tsl 3 (qv c),pB i],.tail 9 1 (qv c).length],rfl,rfl,?_⟩;conv=>whnf
   refine⟨Codec.one CZ [f],qv [f],.inl rfl,?_⟩;conv=>whnf
   rw[show qv c++qv [f]=qv (c++[f])from Codec.append CZ c [f]];conv=>whnf
   obtain⟨d3,h⟩:=qu h;refine⟨⟨Codec.wide CZ (c++[f]),kod d3,xY d3 (by decide)⟩,?_⟩;conv=>whnf
   refine⟨⟨rfl,rfl,rfl⟩,?_⟩;conv=>whnf
   refine bq h fun⟨r7,f0⟩ k4 h=>?_;refine tB (CO.ok _ k4) [0] [] ?_;rintro _ _ ⟨rfl,rfl⟩;refine⟨pB r7,[.box 117 [pK a,pI f0,pB R],zq3,.box 47 [.p (.int .i64 (8:Int)),zq2,zq2,zq0,zq1,zq0,pB false,zq0,zq1,zq2,zq2,zq2,zq2,zq1,zq2,pB false,zq2,zq2,zq2,zq2,.tsl 4 (qv (c++[f])),pB i],.dead,.tail 9 1 (qv (c++[f])).length],rfl,rfl,?_⟩;conv=>whnf
   apply ifc h<;>intro e h
   ·obtain rfl:=sj h
    (conv=>whnf);refine⟨_,_,⟨rfl,rfl⟩,wk [0] []⟩
   conv=>whnf
   exact⟨(f0,R,(c++[f])),h,wk [0,1,2,4] []⟩
  conv=>whnf
  exact⟨(q,true,(0:Int),([]:List _),([]:List _),(0:Int),([]:SS),(0:Int),false,(0:Int),([]:SS),([]:List _),([]:List _),([]:List _),([]:List _),([]:SS),([]:List _),false,([]:List _),([]:List _),([]:List _),([]:List _),([]:List _),false),h,wk [0,1,2] []⟩
 replace h:=uv h F;refine⟨pB false,?_⟩;conv=>whnf
 refine⟨id,?_⟩;conv=>whnf
 apply ifc h<;>intro e h
 ·conv=>whnf
  refine bq h fun⟨j,r8⟩ k5 h=>?_;refine tB (CO.ok _ k5) [0] [] ?_;rintro _ _ ⟨rfl,rfl⟩;refine⟨pB j,[.box 117 [pK a,pI r8,pB b],zq3,zq5],rfl,rfl,?_⟩;conv=>whnf
  refine bq h fun⟨r9,s0⟩ k6 h=>?_;refine tB (CO.ok _ k6) [0] [] ?_;rintro _ _ ⟨rfl,rfl⟩;refine⟨.p (.tup []),[.box 117 [pK a,pI r9,pB s0],zq3,.box 47 [.p (.int .i64 (8:Int)),zq2,zq2,zq0,zq1,zq0,pB false,zq0,zq1,zq2,zq2,zq2,zq2,zq1,zq2,pB false,zq2,zq2,zq2,zq2,zq2,pB j]],rfl,rfl,?_⟩;conv=>whnf
  refine uh.fn [85,86,87,88,89,90,91,92,93,94,1000000] (S:=Int×Bool×List SS) (fun(U,V,d)=>[(0,.ptr 0 0),(2,.ptr 1 0),(3,.ptr 2 0)]) (fun(U,V,d)=>[.box 117 [pK a,pI U,pB V],zq3,.box 47 [.p (.int .i64 (8:Int)),zq2,zq2,zq0,zq1,zq0,pB false,zq0,zq1,zq2,zq2,zq2,zq2,zq1,zq2,pB false,zq2,zq2,zq2,zq2,.tsl 3 (qv d),pB j],.tail 9 1 (qv d).length]) (B:=nk n a j) h (wk [0,1,2,0] [3]) ?_;intro _ st h;obtain⟨U,V,d⟩:=st;unfold nk at h;conv=>whnf
  refine bq h fun⟨g,s1,W⟩ k8 h=>?_;refine tB (CO.ok _ k8) [0] [] ?_;rintro _ _ ⟨rfl,rfl⟩;refine⟨pS g,[.box 117 [pK a,pI s1,pB W],zq3,.box 47 [.p (.int .i64 (8:Int)),zq2,zq2,zq0,zq1,zq0,pB false,zq0,zq1,zq2,zq2,zq2,zq2,zq1,zq2,pB false,zq2,zq2,zq2,zq2,.tsl 3 (qv d),pB j],.tail 9 1 (qv d).length],rfl,rfl,?_⟩;conv=>whnf
  refine⟨Codec.one CZ [g],qv [g],.inl rfl,?_⟩;conv=>whnf
  rw[show qv d++qv [g]=qv (d++[g])from Codec.append CZ d [g]];conv=>whnf
  obtain⟨d4,h⟩:=qu h;refine⟨⟨Codec.wide CZ (d++[g]),kod d4,xY d4 (by decide)⟩,?_⟩;conv=>whnf
  refine⟨⟨rfl,rfl,rfl⟩,?_⟩;conv=>whnf
  refine bq h fun⟨s2,f1⟩ k9 h=>?_;refine tB (CO.ok _ k9) [0] [] ?_;rintro _ _ ⟨rfl,rfl⟩;refine⟨pB s2,[.box 117 [pK a,pI f1,pB W],zq3,.box 47 [.p (.int .i64 (8:Int)),zq2,zq2,zq0,zq1,zq0,pB false,zq0,zq1,zq2,zq2,zq2,zq2,zq1,zq2,pB false,zq2,zq2,zq2,zq2,.tsl 4 (qv (d++[g])),pB j],.dead,.tail 9 1 (qv (d++[g])).length],rfl,rfl,?_⟩;conv=>whnf
  apply ifc h<;>intro e h
  ·obtain rfl:=sj h
   conv=>whnf
   refine⟨_,_,⟨rfl,rfl⟩,wk [0] []⟩
  conv=>whnf
  exact⟨(f1,W,(d++[g])),h,wk [0,1,2,4] []⟩
 conv=>whnf
 exact⟨(q,true,(0:Int),([]:List _),([]:List _),(0:Int),([]:SS),(0:Int),false,(0:Int),([]:SS),([]:List _),([]:List _),([]:List _),([]:List _),([]:SS),([]:List _),false,([]:List _),([]:List _),([]:List _),([]:List _),([]:List _),false),h,wk [0,1,2] []⟩
instance (n:Nat) (a:List qk) (b:Int) (c:Bool):CO TP (nI n a b c) 45 [.ptr 0 0] [.box 117 [pK a,pI b,pB c]] 1 (Zl a b c) (Zk a b c):=⟨UK n a b c⟩
end W
end
