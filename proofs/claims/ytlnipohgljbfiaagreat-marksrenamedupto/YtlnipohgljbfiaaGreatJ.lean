/- A part of the proof: contracts, printed by program. -/
import Derived.Test.YtlnipohgljbfiaaGreatB
import Derived.Test.YtlnipohgljbfiaaGreatC
import Derived.Test.YtlnipohgljbfiaaGreatI
set_option linter.unusedVariables false
set_option linter.unusedSimpArgs false
set_option linter.unnecessarySimpa false
set_option linter.deprecated false
set_option linter.unusedSectionVars false
set_option linter.constructorNameAsVariable false
open Go.IntKind renaming wrap->kwr,bits->kbt
section
set_option maxRecDepth 100000
set_option maxHeartbeats 4000000
open Go Go.Proofs Ax
namespace W
abbrev SJ (r:Bool):PV:=PV.bool r
def gP (n:Nat):Option (Bool):=
 bnd (CH n ([77,65,84,67,72,32,40,110,58,65,32,123,107,58,32,49,125,41,45,91,58,84,93,45,62,40,109,58,66,41,32,82,69,84,85,82,78,32,110,46,107,32,65,83,32,120]:SS)) fun⟨⟨g⟩,_,_⟩=>
 bnd (fh n (bu.mk g) (Val.mk (5:Int) false (0:Int) ([]:SS) ([]:List Val) ([]:List SS))) fun⟨c,a⟩=>
 bnd (ur n (Graph.mk ([]:List Node) ([]:List Edge)) (Graph.mk [Node.mk (1:Int) [([66]:SS)] ([]:List SS) ([]:List Val)] ([]:List Edge))) fun e=>
 bnd (qD (a==0) (qY n c [([73,58,65,46,107,61,49]:SS),([76,58,66]:SS),([84,58,84]:SS)])) fun b=>
 bnd (qD (bif(a==0)then b else false) (qY n e [([65]:SS),([76,58,66]:SS)])) fun d=>
 bnd (qD (bif(bif(a==0)then b else false)then d else false) (Xz n c e)) fun f=>
 bnd (qD (bif(bif(bif(a==0)then b else false)then d else false)then f else false) (Xz n c [([65]:SS)])) fun i=>
 some (bif(bif(bif(bif(a==0)then b else false)then d else false)then f else false)then(!i)else false)
theorem dj (n:Nat):∀ (r:Bool),gP n=some r->qb TP 8 [] (SJ r):=by
 intro r h;unfold gP at h;refine zN Tryz.call8 Tryz.func8 [1000000] ?_;conv=>whnf
 refine bq h fun⟨⟨_⟩,_,_⟩ i h=>⟨_,(PA n _ _ i),?_⟩;conv=>whnf
 refine bq h fun⟨_,_⟩ g h=>⟨_,(qb.leArgs (sw n _ _ _ g) (by try exact fin)),?_⟩;conv=>whnf
 refine⟨Codec.one cc [([66]:SS)],qi [([66]:SS)],.inl rfl,?_⟩;conv=>whnf
 refine⟨by repeat (first|exact List.forall_mem_nil _|refine List.forall_mem_cons.2 ⟨⟨rfl,rfl⟩,?_⟩),Node.rows [Node.mk (1:Int) [([66]:SS)] ([]:List SS) ([]:List Val)],.inr (by try exact fin),?_⟩;conv=>whnf
 refine bq h fun _ f h=>⟨_,(qb.leArgs (tA n _ _ _ f) (by try exact fin)),?_⟩;conv=>whnf
 refine⟨Codec.one cc [([73,58,65,46,107,61,49]:SS),([76,58,66]:SS),([84,58,84]:SS)],qi [([73,58,65,46,107,61,49]:SS),([76,58,66]:SS),([84,58,84]:SS)],.inl rfl,?_⟩;conv=>whnf
 refine⟨id,id,?_⟩;conv=>whnf
 refine bq h fun _ e h=>⟨_,fun a=>(zs n _ _ _ (qa e a)),?_⟩;conv=>whnf
 refine⟨id,?_⟩;conv=>whnf
 refine⟨Codec.one cc [([65]:SS),([76,58,66]:SS)],qi [([65]:SS),([76,58,66]:SS)],.inl rfl,?_⟩;conv=>whnf
 refine⟨id,id,?_⟩;conv=>whnf
 refine bq h fun _ d h=>⟨_,fun a=>(zs n _ _ _ (qa d a)),?_⟩;conv=>whnf
 refine⟨id,id,id,?_⟩;conv=>whnf
 refine bq h fun _ c h=>⟨_,fun a=>(Gi n _ _ _ (qa c a)),?_⟩;conv=>whnf
 refine⟨id,?_⟩;conv=>whnf
 refine⟨Codec.one cc [([65]:SS)],qi [([65]:SS)],.inl rfl,?_⟩;conv=>whnf
 refine⟨id,id,?_⟩;conv=>whnf
 refine bq h fun _ b h=>⟨_,fun a=>(Gi n _ _ _ (qa b a)),?_⟩;conv=>whnf
 refine⟨id,id,?_⟩;obtain rfl:=sj h;conv=>whnf
 try exact fin
abbrev eH (r:qd):PV:=PV.agg (xN.cells r)
def uH (n:Nat) (a:Int):List zx×List qe×Int×SS×Int×Bool×Int×SS×List Val×List SS×List SS×List qe×SS×List xM×Bool×List qS×List qe×List qe×List qj×List SS×Bool->Option (qd):=fun(b,c,d,e,f,g,i,j,k,l,m,o,p,q,s,t,u,v,w,x,y)=>
 some (qd.mk a b c (qe.mk d e (Val.mk f g i j k l) m o) p q s t u v w x y)
def sW (n:Nat) (a:Int) (b:List qj) (c:List SS) (d:Bool):Bool->Option (qd):=fun e=>
 bif e then(
 uH n a (([]:List _),([]:List _),(0:Int),([]:SS),(0:Int),false,(0:Int),([]:SS),([]:List _),([]:List _),([]:List _),([]:List _),([]:SS),([]:List _),false,([]:List _),([]:List _),([]:List _),b,([]:List _),false))
 else(
 bif(a==8)then(
 uH n a (([]:List _),([]:List _),(0:Int),([]:SS),(0:Int),false,(0:Int),([]:SS),([]:List _),([]:List _),([]:List _),([]:List _),([]:SS),([]:List _),false,([]:List _),([]:List _),([]:List _),([]:List _),c,d))
 else(
 uH n a (([]:List _),([]:List _),(0:Int),([]:SS),(0:Int),false,(0:Int),([]:SS),([]:List _),([]:List _),([]:List _),([]:List _),([]:SS),([]:List _),false,([]:List _),([]:List _),([]:List _),([]:List _),([]:List _),false)))
def sV (n:Nat) (a:Int) (e:List zx) (b:List qj) (c:List SS) (d:Bool):Bool->Option (qd):=fun f=>
 bif f then(
 uH n a (e,([]:List _),(0:Int),([]:SS),(0:Int),false,(0:Int),([]:SS),([]:List _),([]:List _),([]:List _),([]:List _),([]:SS),([]:List _),false,([]:List _),([]:List _),([]:List _),([]:List _),([]:List _),false))
 else(
 bif(a==6)then(
 sW n a b c d (a==6))
 else(
 sW n a b c d (a==7)))
def sU (n:Nat) (a:Int) (l:List qe) (b:List xM) (c:Bool) (d:List qS) (e f:List qe) (g:List zx) (i:List qj) (j:List SS) (k:Bool):Bool->Option (qd):=fun m=>
 bif m then(
 bif(a==3)then(
 uH n a (([]:List _),l,(0:Int),([]:SS),(0:Int),false,(0:Int),([]:SS),([]:List _),([]:List _),([]:List _),([]:List _),([]:SS),b,c,d,e,f,([]:List _),([]:List _),false))
 else(
 uH n a (([]:List _),([]:List _),(0:Int),([]:SS),(0:Int),false,(0:Int),([]:SS),([]:List _),([]:List _),([]:List _),([]:List _),([]:SS),b,c,d,e,f,([]:List _),([]:List _),false)))
 else(
 bif(a==4)then(
 sV n a g i j k (a==4))
 else(
 sV n a g i j k (a==5)))
def ZU (n:Nat) (m:qd):Option (qd):=
 match m with
 | ⟨a,b,c,⟨u,v,⟨w,x,y,z,o,p⟩,q,s⟩,t,d,e,f,g,i,j,k,l⟩=>
 bif(a==1)then(
 uH n a (b,c,(0:Int),([]:SS),(0:Int),false,(0:Int),([]:SS),([]:List _),([]:List _),([]:List _),([]:List _),([]:SS),([]:List _),false,([]:List _),([]:List _),([]:List _),([]:List _),([]:List _),false))
 else(
 bif(a==2)then(
 uH n a (([]:List _),([]:List _),u,v,w,x,y,z,o,p,q,s,t,([]:List _),false,([]:List _),([]:List _),([]:List _),([]:List _),([]:List _),false))
 else(
 bif(a==3)then(
 sU n a c d e f g i b j k l (a==3))
 else(
 sU n a c d e f g i b j k l (a==9))))
theorem iI (n:Nat):∀ (o r:qd),ZU n o=some r->qb TP 80 [PV.agg (xN.cells o)] (eH r):=by
 intro o r h;obtain⟨a,c,m,⟨v,w,⟨x,y,z,A,p,q⟩,s,t⟩,u,g,i,j,k,l,d,e,f⟩:=o;unfold ZU at h;refine zN Tryz.call80 Tryz.func80 [1000000] ?_;conv=>whnf
 refine cY.cut (S:=List zx×List qe×Int×SS×Int×Bool×Int×SS×List Val×List SS×List SS×List qe×SS×List xM×Bool×List qS×List qe×List qe×List qj×List SS×Bool) (fun(B,C,D,E,F,G,H,I,J,K,L,M,N,O,P,Q,R,T,U,V,W)=>[(2,.ptr 0 0),(3,.ptr 1 0)]) (fun(B,C,D,E,F,G,H,I,J,K,L,M,N,O,P,Q,R,T,U,V,W)=>[zq6,.box 54 [pI a,pP B,pE C,pI D,pS E,pI F,pB G,pI H,pS I,pV J,pT K,pT L,pE M,pS N,pA O,pB P,pO Q,pE R,pE T,pU U,pT V,pB W]]) (uH n a) (r:=r) ?_ ?_
 ·intro st h
  obtain⟨B,C,D,E,F,G,H,I,J,K,L,M,N,O,P,Q,R,T,U,V,W⟩:=st;unfold uH at h;obtain rfl:=sj h;conv=>whnf
  try exact fin
 conv=>whnf
 apply ifc h<;>intro b h
 ·conv=>whnf
  exact⟨(c,m,(0:Int),([]:SS),(0:Int),false,(0:Int),([]:SS),([]:List _),([]:List _),([]:List _),([]:List _),([]:SS),([]:List _),false,([]:List _),([]:List _),([]:List _),([]:List _),([]:List _),false),h,wk [1,2] []⟩
 conv=>whnf
 apply ifc h<;>intro b h
 ·conv=>whnf
  exact⟨(([]:List _),([]:List _),v,w,x,y,z,A,p,q,s,t,u,([]:List _),false,([]:List _),([]:List _),([]:List _),([]:List _),([]:List _),false),h,wk [1,2] []⟩
 conv=>whnf
 refine cY.cut (S:=Bool) (fun X=>[(1,.ptr 0 0),(2,.ptr 1 0),(3,.ptr 2 0),(8,pI a),(25,pB X)]) (fun X=>[.box 54 [pI a,pP c,pE m,pI v,pS w,pI x,pB y,pI z,pS A,pV p,pT q,pT s,pE t,pS u,pA g,pB i,pO j,pE k,pE l,pU d,pT e,pB f],zq6,.box 54 [pI a,zq2,zq2,zq0,zq1,zq0,pB false,zq0,zq1,zq2,zq2,zq2,zq2,zq1,zq2,pB false,zq2,zq2,zq2,zq2,zq2,pB false]]) (sU n a m g i j k l c d e f) (r:=r) ?_ ?_
 ·intro X h
  unfold sU at h;conv=>whnf
  apply ifc h<;>intro b h
  ·conv=>whnf
   apply ifc h<;>intro b h
   ·conv=>whnf
    exact⟨(([]:List _),m,(0:Int),([]:SS),(0:Int),false,(0:Int),([]:SS),([]:List _),([]:List _),([]:List _),([]:List _),([]:SS),g,i,j,k,l,([]:List _),([]:List _),false),h,wk [1,2] []⟩
   conv=>whnf
   exact⟨(([]:List _),([]:List _),(0:Int),([]:SS),(0:Int),false,(0:Int),([]:SS),([]:List _),([]:List _),([]:List _),([]:List _),([]:SS),g,i,j,k,l,([]:List _),([]:List _),false),h,wk [1,2] []⟩
  conv=>whnf
  refine cY.cut (S:=Bool) (fun Y=>[(1,.ptr 0 0),(2,.ptr 1 0),(3,.ptr 2 0),(8,pI a),(49,pB Y)]) (fun Y=>[.box 54 [pI a,pP c,pE m,pI v,pS w,pI x,pB y,pI z,pS A,pV p,pT q,pT s,pE t,pS u,pA g,pB i,pO j,pE k,pE l,pU d,pT e,pB f],zq6,.box 54 [pI a,zq2,zq2,zq0,zq1,zq0,pB false,zq0,zq1,zq2,zq2,zq2,zq2,zq1,zq2,pB false,zq2,zq2,zq2,zq2,zq2,pB false]]) (sV n a c d e f) (r:=r) ?_ ?_
  ·intro Y h
   unfold sV at h;conv=>whnf
   apply ifc h<;>intro b h
   ·conv=>whnf
    exact⟨(c,([]:List _),(0:Int),([]:SS),(0:Int),false,(0:Int),([]:SS),([]:List _),([]:List _),([]:List _),([]:List _),([]:SS),([]:List _),false,([]:List _),([]:List _),([]:List _),([]:List _),([]:List _),false),h,wk [1,2] []⟩
   conv=>whnf
   refine cY.cut (S:=Bool) (fun Z=>[(1,.ptr 0 0),(2,.ptr 1 0),(3,.ptr 2 0),(8,pI a),(55,pB Z)]) (fun Z=>[.box 54 [pI a,pP c,pE m,pI v,pS w,pI x,pB y,pI z,pS A,pV p,pT q,pT s,pE t,pS u,pA g,pB i,pO j,pE k,pE l,pU d,pT e,pB f],zq6,.box 54 [pI a,zq2,zq2,zq0,zq1,zq0,pB false,zq0,zq1,zq2,zq2,zq2,zq2,zq1,zq2,pB false,zq2,zq2,zq2,zq2,zq2,pB false]]) (sW n a d e f) (r:=r) ?_ ?_
   ·intro Z h
    unfold sW at h;(conv=>whnf);apply ifc h<;>intro b h
    ·conv=>whnf
     exact⟨(([]:List _),([]:List _),(0:Int),([]:SS),(0:Int),false,(0:Int),([]:SS),([]:List _),([]:List _),([]:List _),([]:List _),([]:SS),([]:List _),false,([]:List _),([]:List _),([]:List _),d,([]:List _),false),h,wk [1,2] []⟩
    (conv=>whnf);apply ifc h<;>intro b h
    ·conv=>whnf
     exact⟨(([]:List _),([]:List _),(0:Int),([]:SS),(0:Int),false,(0:Int),([]:SS),([]:List _),([]:List _),([]:List _),([]:List _),([]:SS),([]:List _),false,([]:List _),([]:List _),([]:List _),([]:List _),e,f),h,wk [1,2] []⟩
    (conv=>whnf);exact⟨(([]:List _),([]:List _),(0:Int),([]:SS),(0:Int),false,(0:Int),([]:SS),([]:List _),([]:List _),([]:List _),([]:List _),([]:SS),([]:List _),false,([]:List _),([]:List _),([]:List _),([]:List _),([]:List _),false),h,wk [1,2] []⟩
   conv=>whnf
   apply ifc h<;>intro b h
   ·conv=>whnf
    exact⟨(a==6),h,wk [0,1,2] []⟩
   conv=>whnf
   exact⟨(a==7),h,wk [0,1,2] []⟩
  conv=>whnf
  apply ifc h<;>intro b h
  ·conv=>whnf
   exact⟨(a==4),h,wk [0,1,2] []⟩
  conv=>whnf
  exact⟨(a==5),h,wk [0,1,2] []⟩
 conv=>whnf
 apply ifc h<;>intro b h
 ·conv=>whnf
  exact⟨(a==3),h,wk [0,1,2] []⟩
 conv=>whnf
 exact⟨(a==9),h,wk [0,1,2] []⟩
abbrev QQ (r:Bool):PV:=PV.bool r
abbrev qoq:Type:=Val->Val->Option (Bool)
abbrev qp6:Type:=(List Val)->(List Val)->Option (Bool)
def VU (n:Nat) (g136:qoq) (g77:qp6) (k l:Val):Option (Bool):=
 match k,l with
 | ⟨a,c,d,e,q,s⟩,⟨f,g,i,b,m,o⟩=>
 bnd (qD (bif(bif(bif(a==f)then(c==g)else false)then(d==i)else false)then(e==b)else false) (qY n s o)) fun j=>
 bnd (qD (bif(bif(bif(bif(a==f)then(c==g)else false)then(d==i)else false)then(e==b)else false)then j else false) (g77 q m)) fun p=>
 some (bif(bif(bif(bif(bif(a==f)then(c==g)else false)then(d==i)else false)then(e==b)else false)then j else false)then p else false)
abbrev mg (r:Bool):PV:=PV.bool r
def dG (n:Nat) (b l:List Val) (g136:qoq):LK (Int) (Bool):=fun c a=>
 bif(decide (a<((Val.rows b).length:Int)))then(
 bnd (idx b a) fun⟨m,o,p,q,s,t⟩=>
 bnd (idx l a) fun⟨d,e,f,g,i,j⟩=>
 bnd (g136 (Val.mk m o p q s t) (Val.mk d e f g i j)) fun k=>
 bif(!k)then(
 some false)
 else(
 c (kwr .i64 (a+1))))
 else(
 some true)
def tn (n:Nat) (g136:qoq) (g77:qp6) (a b:List Val):Option (Bool):=
 bif(((Val.rows a).length:Int) != ((Val.rows b).length:Int))then(
 some false)
 else(
 qo (dG n a b g136) n (0:Int))
theorem Pk (n:Nat) (g136:qoq) (g77:qp6) (g136_ok:∀ (a b:Val) (r:Bool),g136 a b=some r->qb TP 136 [PV.agg (gM.cells a),PV.agg (gM.cells b)] (QQ r)) (g77_ok:∀ (d e:List Val) (r:Bool),g77 d e=some r->qb TP 77 [PV.sl (Val.rows d),PV.sl (Val.rows e)] (mg r)):∀ (a b:Val) (r:Bool),VU n g136 g77 a b=some r->qb TP 136 [PV.agg (gM.cells a),PV.agg (gM.cells b)] (QQ r):=by
 intro a b r h;obtain⟨d,e,_,_,_,_⟩:=a;obtain⟨_,_,_,_,_,_⟩:=b;unfold VU at h;refine zN Tryz.call136 Tryz.func136 [1000000] ?_;conv=>whnf
 iterate 19 refine⟨id,?_⟩
 conv=>whnf
 refine bq h fun _ g h=>⟨_,fun c=>(zs n _ _ _ (qa g c)),?_⟩;conv=>whnf
 refine⟨id,id,id,id,id,?_⟩;conv=>whnf
 refine bq h fun _ f h=>⟨_,fun c=>(g77_ok _ _ _ (qa f c)),?_⟩;conv=>whnf
 refine⟨id,?_⟩;obtain rfl:=sj h;conv=>whnf
 try exact fin
theorem BD (n:Nat) (g136:qoq) (g77:qp6) (g136_ok:∀ (d e:Val) (r:Bool),g136 d e=some r->qb TP 136 [PV.agg (gM.cells d),PV.agg (gM.cells e)] (QQ r)) (g77_ok:∀ (a b:List Val) (r:Bool),g77 a b=some r->qb TP 77 [PV.sl (Val.rows a),PV.sl (Val.rows b)] (mg r)):∀ (a b:List Val) (r:Bool),tn n g136 g77 a b=some r->qb TP 77 [PV.sl (Val.rows a),PV.sl (Val.rows b)] (mg r):=by
 intro a b r h;unfold tn at h;refine zN Tryz.call77 Tryz.func77 [1000000] ?_;conv=>whnf
 apply ifc h<;>intro f h
 ·obtain rfl:=sj h
  conv=>whnf
  try exact fin
 conv=>whnf
 refine qX.fn [1000000] (S:=Int) (fun c=>[(0,pV a),(1,pV b),(5,pI c)]) (fun c=>[]) (B:=dG n a b g136) h (wk [] []) ?_;intro _ c h;unfold dG at h;conv=>whnf
 apply ifc h<;>intro f h
 ·conv=>whnf
  refine bq h fun⟨_,_,_,_,_,_⟩ j h=>⟨_,Codec.at_ gM j,?_⟩;conv=>whnf
  refine bq h fun⟨_,_,_,_,_,_⟩ i h=>⟨_,Codec.at_ gM i,?_⟩;conv=>whnf
  refine bq h fun _ g h=>⟨_,(g136_ok _ _ _ g),?_⟩;conv=>whnf
  apply ifc h<;>intro f h
  ·obtain rfl:=sj h
   conv=>whnf
   try exact fin
  conv=>whnf
  exact⟨(kwr .i64 (c+1)),h,wk [] []⟩
 obtain rfl:=sj h;conv=>whnf
 try exact fin
mutual
def dF:Nat->Val->Val->Option (Bool)
 | 0=>fun _ _=>none
 | n+1=>VU n (dF n) (ug n)
def ug:Nat->(List Val)->(List Val)->Option (Bool)
 | 0=>fun _ _=>none
 | n+1=>tn n (dF n) (ug n)
end
theorem Cq (n:Nat):(∀ (a b:Val) (r:Bool),dF n a b=some r->qb TP 136 [PV.agg (gM.cells a),PV.agg (gM.cells b)] (QQ r))/\(∀ (c d:List Val) (r:Bool),ug n c d=some r->qb TP 77 [PV.sl (Val.rows c),PV.sl (Val.rows d)] (mg r)):=by
 induction n with
 | zero=>exact⟨(by intros; rename_i h; cases h),(by intros; rename_i h; cases h)⟩
 | succ n ih=>
  obtain⟨hg136,hg77⟩:=ih;exact⟨Pk n (dF n) (ug n) hg136 hg77,BD n (dF n) (ug n) hg136 hg77⟩
theorem Ua (n:Nat):∀ (a b:Val) (r:Bool),dF n a b=some r->qb TP 136 [PV.agg (gM.cells a),PV.agg (gM.cells b)] (QQ r):=(Cq n).1
abbrev bj (r:Bool):PV:=PV.bool r
abbrev qor:Type:=qe->qe->Option (Bool)
def cz (n:Nat) (b p:List qe) (g138:qor):LK (Int) (Bool):=fun c a=>
 bif(decide (a<((qe.rows b).length:Int)))then(
 bnd (idx b a) fun⟨w,x,⟨y,z,A,B,d,e⟩,f,g⟩=>
 bnd (idx p a) fun⟨i,j,⟨k,l,m,o,q,s⟩,t,u⟩=>
 bnd (g138 (qe.mk w x (Val.mk y z A B d e) f g) (qe.mk i j (Val.mk k l m o q s) t u)) fun v=>
 bif(!v)then(
 some false)
 else(
 c (kwr .i64 (a+1))))
 else(
 some true)
abbrev qp7:Type:=(List qe)->(List qe)->Option (Bool)
def sh (n:Nat) (g137:qp7) (g138:qor) (a b:List qe):Option (Bool):=
 bif(((qe.rows a).length:Int) != ((qe.rows b).length:Int))then(
 some false)
 else(
 qo (cz n a b g138) n (0:Int))
abbrev mh (r:Bool):PV:=PV.bool r
def tp (n:Nat) (g137:qp7) (g138:qor) (g i:qe):Option (Bool):=
 match g,i with
 | ⟨a,d,⟨v,w,x,y,z,A⟩,B,j⟩,⟨b,c,⟨k,l,m,o,p,q⟩,s,t⟩=>
 bnd (qD (bif(a==b)then(d==c)else false) (dF n (Val.mk v w x y z A) (Val.mk k l m o p q))) fun e=>
 bnd (qD (bif(bif(a==b)then(d==c)else false)then e else false) (qY n B s)) fun f=>
 bnd (qD (bif(bif(bif(a==b)then(d==c)else false)then e else false)then f else false) (g137 j t)) fun u=>
 some (bif(bif(bif(bif(a==b)then(d==c)else false)then e else false)then f else false)then u else false)
theorem CE (n:Nat) (g137:qp7) (g138:qor) (g137_ok:∀ (a b:List qe) (r:Bool),g137 a b=some r->qb TP 137 [PV.sl (qe.rows a),PV.sl (qe.rows b)] (bj r)) (g138_ok:∀ (d e:qe) (r:Bool),g138 d e=some r->qb TP 138 [PV.agg (zX.cells d),PV.agg (zX.cells e)] (mh r)):∀ (a b:List qe) (r:Bool),sh n g137 g138 a b=some r->qb TP 137 [PV.sl (qe.rows a),PV.sl (qe.rows b)] (bj r):=by
 intro a b r h;unfold sh at h;refine zN Tryz.call137 Tryz.func137 [1000000] ?_;conv=>whnf
 apply ifc h<;>intro f h
 ·obtain rfl:=sj h
  conv=>whnf
  try exact fin
 conv=>whnf
 refine qX.fn [1000000] (S:=Int) (fun c=>[(0,pE a),(1,pE b),(5,pI c)]) (fun c=>[]) (B:=cz n a b g138) h (wk [] []) ?_;intro _ c h;unfold cz at h;conv=>whnf
 apply ifc h<;>intro f h
 ·conv=>whnf
  refine bq h fun⟨_,_,⟨_,_,_,_,_,_⟩,_,_⟩ j h=>⟨_,Codec.at_ zX j,?_⟩;conv=>whnf
  refine bq h fun⟨_,_,⟨_,_,_,_,_,_⟩,_,_⟩ i h=>⟨_,Codec.at_ zX i,?_⟩;conv=>whnf
  refine bq h fun _ g h=>⟨_,(g138_ok _ _ _ g),?_⟩;conv=>whnf
  apply ifc h<;>intro f h
  ·obtain rfl:=sj h
   conv=>whnf
   try exact fin
  conv=>whnf
  exact⟨(kwr .i64 (c+1)),h,wk [] []⟩
 obtain rfl:=sj h;conv=>whnf
 try exact fin
theorem BE (n:Nat) (g137:qp7) (g138:qor) (g137_ok:∀ (d e:List qe) (r:Bool),g137 d e=some r->qb TP 137 [PV.sl (qe.rows d),PV.sl (qe.rows e)] (bj r)) (g138_ok:∀ (a b:qe) (r:Bool),g138 a b=some r->qb TP 138 [PV.agg (zX.cells a),PV.agg (zX.cells b)] (mh r)):∀ (a b:qe) (r:Bool),tp n g137 g138 a b=some r->qb TP 138 [PV.agg (zX.cells a),PV.agg (zX.cells b)] (mh r):=by
 intro a b r h;obtain⟨d,e,⟨_,_,_,_,_,_⟩,_,_⟩:=a;obtain⟨_,_,⟨_,_,_,_,_,_⟩,_,_⟩:=b;unfold tp at h;refine zN Tryz.call138 Tryz.func138 [1000000] ?_;conv=>whnf
 iterate 9 refine⟨id,?_⟩
 conv=>whnf
 refine bq h fun _ i h=>⟨_,fun c=>(Ua n _ _ _ (qa i c)),?_⟩;conv=>whnf
 refine⟨id,id,id,id,id,?_⟩;conv=>whnf
 refine bq h fun _ g h=>⟨_,fun c=>(zs n _ _ _ (qa g c)),?_⟩;conv=>whnf
 refine⟨id,id,id,id,id,?_⟩;conv=>whnf
 refine bq h fun _ f h=>⟨_,fun c=>(g137_ok _ _ _ (qa f c)),?_⟩;conv=>whnf
 refine⟨id,?_⟩;obtain rfl:=sj h;conv=>whnf
 try exact fin
mutual
def xm:Nat->(List qe)->(List qe)->Option (Bool)
 | 0=>fun _ _=>none
 | n+1=>sh n (xm n) (vp n)
def vp:Nat->qe->qe->Option (Bool)
 | 0=>fun _ _=>none
 | n+1=>tp n (xm n) (vp n)
end
theorem ZT (n:Nat):(∀ (c d:List qe) (r:Bool),xm n c d=some r->qb TP 137 [PV.sl (qe.rows c),PV.sl (qe.rows d)] (bj r))/\(∀ (a b:qe) (r:Bool),vp n a b=some r->qb TP 138 [PV.agg (zX.cells a),PV.agg (zX.cells b)] (mh r)):=by
 induction n with
 | zero=>exact⟨(by intros; rename_i h; cases h),(by intros; rename_i h; cases h)⟩
 | succ n ih=>
  obtain⟨hg137,hg138⟩:=ih;exact⟨CE n (xm n) (vp n) hg137 hg138,BE n (xm n) (vp n) hg137 hg138⟩
theorem cA (n:Nat):∀ (a b:List qe) (r:Bool),xm n a b=some r->qb TP 137 [PV.sl (qe.rows a),PV.sl (qe.rows b)] (bj r):=(ZT n).1
theorem pn (n:Nat):∀ (a b:qe) (r:Bool),vp n a b=some r->qb TP 138 [PV.agg (zX.cells a),PV.agg (zX.cells b)] (mh r):=(ZT n).2
abbrev Lc (r:Bool):PV:=PV.bool r
def fz (n:Nat) (i s:List qy):LK (Int) (Bool):=fun k a=>
 bif(decide (a<((qy.rows i).length:Int)))then(
 bnd (idx i a) fun⟨b,c,d,l,m⟩=>
 bnd (idx s a) fun⟨e,f,g,o,p⟩=>
 bnd (qD (!(bif(bif(!(b==e))then true else(!(c==f)))then true else(d != g))) (qY n l o)) fun j=>
 bnd (qD (!(bif(bif(bif(!(b==e))then true else(!(c==f)))then true else(d != g))then true else(!j))) (xm n m p)) fun q=>
 bif(bif(bif(bif(bif(!(b==e))then true else(!(c==f)))then true else(d != g))then true else(!j))then true else(!q))then(
 some false)
 else(
 k (kwr .i64 (a+1))))
 else(
 some true)
def dH (n:Nat) (e o:List qt) (m p:List qy):LK (Int) (Bool):=fun g b=>
 bif(decide (b<((qt.rows e).length:Int)))then(
 bnd (idx e b) fun⟨c,q,s,t⟩=>
 bnd (idx o b) fun⟨a,i,j,k⟩=>
 bnd (qD (!(!(c==a))) (qY n q i)) fun d=>
 bnd (qD (!(bif(!(c==a))then true else(!d))) (qY n s j)) fun f=>
 bnd (qD (!(bif(bif(!(c==a))then true else(!d))then true else(!f))) (xm n t k)) fun l=>
 bif(bif(bif(bif(!(c==a))then true else(!d))then true else(!f))then true else(!l))then(
 some false)
 else(
 g (kwr .i64 (b+1))))
 else(
 qo (fz n m p) n (0:Int))
def rU (n:Nat) (e f:zx):Option (Bool):=
 match e,f with
 | ⟨a,b⟩,⟨c,d⟩=>
 bif(bif(((qt.rows a).length:Int) != ((qt.rows c).length:Int))then true else(((qy.rows b).length:Int) != ((qy.rows d).length:Int)))then(
 some false)
 else(
 qo (dH n a c b d) n (0:Int))
theorem DU (n:Nat):∀ (b c:zx) (r:Bool),rU n b c=some r->qb TP 139 [PV.agg (pb.cells b),PV.agg (pb.cells c)] (Lc r):=by
 intro b c r h;obtain⟨j,f⟩:=b;obtain⟨k,g⟩:=c;unfold rU at h;refine zN Tryz.call139 Tryz.func139 [1000000] ?_;conv=>whnf
 iterate 7 refine⟨id,?_⟩
 conv=>whnf
 apply ifc h<;>intro d h
 ·obtain rfl:=sj h
  conv=>whnf
  try exact fin
 conv=>whnf
 refine qX.fn [1000000] (S:=Int) (fun i=>[(2,.ptr 0 0),(3,.ptr 1 0),(5,pI i)]) (fun i=>[.box 60 [pN j,pG f],.box 60 [pN k,pG g]]) (B:=dH n j k f g) h (wk [0,1] []) ?_;intro _ i h;unfold dH at h;conv=>whnf
 apply ifc h<;>intro d h
 ·conv=>whnf
  refine bq h fun⟨_,_,_,_⟩ q h=>⟨_,Codec.at_ gO q,?_⟩;conv=>whnf
  refine bq h fun⟨_,_,_,_⟩ p h=>⟨_,Codec.at_ gO p,?_⟩;conv=>whnf
  refine⟨id,id,id,id,?_⟩;conv=>whnf
  refine bq h fun _ o h=>⟨_,fun a=>(zs n _ _ _ (qa o a)),?_⟩;conv=>whnf
  iterate 6 refine⟨id,?_⟩
  conv=>whnf
  refine bq h fun _ m h=>⟨_,fun a=>(zs n _ _ _ (qa m a)),?_⟩;conv=>whnf
  iterate 6 refine⟨id,?_⟩
  conv=>whnf
  refine bq h fun _ l h=>⟨_,fun a=>(cA n _ _ _ (qa l a)),?_⟩;conv=>whnf
  refine⟨id,id,?_⟩;conv=>whnf
  apply ifc h<;>intro d h
  ·obtain rfl:=sj h
   conv=>whnf
   try exact fin
  conv=>whnf
  exact⟨(kwr .i64 (i+1)),h,wk [0,1] []⟩
 conv=>whnf
 refine qX.fn [1000000] (S:=Int) (fun e=>[(2,.ptr 0 0),(3,.ptr 1 0),(8,pI e)]) (fun e=>[.box 60 [pN j,pG f],.box 60 [pN k,pG g]]) (B:=fz n f g) h (wk [0,1] []) ?_;intro _ e h;unfold fz at h;conv=>whnf
 apply ifc h<;>intro d h
 ·conv=>whnf
  refine bq h fun⟨_,_,_,_,_⟩ v h=>⟨_,Codec.at_ cZ v,?_⟩;conv=>whnf
  refine bq h fun⟨_,_,_,_,_⟩ u h=>⟨_,Codec.at_ cZ u,?_⟩;conv=>whnf
  iterate 14 refine⟨id,?_⟩
  conv=>whnf
  refine bq h fun _ t h=>⟨_,fun a=>(zs n _ _ _ (qa t a)),?_⟩;conv=>whnf
  iterate 6 refine⟨id,?_⟩
  conv=>whnf
  refine bq h fun _ s h=>⟨_,fun a=>(cA n _ _ _ (qa s a)),?_⟩;conv=>whnf
  refine⟨id,id,?_⟩;conv=>whnf
  apply ifc h<;>intro d h
  ·obtain rfl:=sj h
   conv=>whnf
   try exact fin
  conv=>whnf
  exact⟨(kwr .i64 (e+1)),h,wk [0,1] []⟩
 obtain rfl:=sj h;conv=>whnf
 try exact fin
abbrev BU (r:Bool):PV:=PV.bool r
def vT (n:Nat) (i H:List qj):LK (Int) (Bool):=fun j a=>
 bif(decide (a<((qj.rows i).length:Int)))then(
 bnd (idx i a) fun⟨b,c,d,⟨k,l,⟨m,o,p,q,s,t⟩,u,v⟩⟩=>
 bnd (idx H a) fun⟨e,f,g,⟨w,x,⟨y,z,A,B,C,D⟩,E,F⟩⟩=>
 bnd (qD (!(bif(bif(!(b==e))then true else(!(c==f)))then true else(!(d==g)))) (vp n (qe.mk k l (Val.mk m o p q s t) u v) (qe.mk w x (Val.mk y z A B C D) E F))) fun G=>
 bif(bif(bif(bif(!(b==e))then true else(!(c==f)))then true else(!(d==g)))then true else(!G))then(
 some false)
 else(
 j (kwr .i64 (a+1))))
 else(
 some true)
def vS (n:Nat) (d e:List qS) (E F:List qj):LK (Int) (Bool):=fun f a=>
 bif(decide (a<((qS.rows d).length:Int)))then(
 bnd (idx d a) fun⟨⟨_,_,⟨_,_,_,_,_,_⟩,_,_⟩,b⟩=>
 bnd (idx e a) fun⟨⟨_,_,⟨_,_,_,_,_,_⟩,_,_⟩,c⟩=>
 bnd (qD (!(!(b==c))) (idx d a)) fun⟨⟨g,i,⟨j,k,l,m,o,p⟩,q,s⟩,_⟩=>
 bnd (qD (!(!(b==c))) (idx e a)) fun⟨⟨t,u,⟨v,w,x,y,z,A⟩,B,C⟩,_⟩=>
 bnd (qD (!(!(b==c))) (vp n (qe.mk g i (Val.mk j k l m o p) q s) (qe.mk t u (Val.mk v w x y z A) B C))) fun D=>
 bif(bif(!(b==c))then true else(!D))then(
 some false)
 else(
 f (kwr .i64 (a+1))))
 else(
 qo (vT n E F) n (0:Int))
def vR (n:Nat) (d e:List xM) (i k:List qS) (j l:List qj):LK (Int) (Bool):=fun f a=>
 bif(decide (a<((xM.rows d).length:Int)))then(
 bnd (idx d a) fun⟨⟨_,_,⟨_,_,_,_,_,_⟩,_,_⟩,b⟩=>
 bnd (idx e a) fun⟨⟨_,_,⟨_,_,_,_,_,_⟩,_,_⟩,c⟩=>
 bnd (qD (!(!(b==c))) (idx d a)) fun⟨⟨m,o,⟨p,q,s,t,u,v⟩,w,x⟩,_⟩=>
 bnd (qD (!(!(b==c))) (idx e a)) fun⟨⟨y,z,⟨A,B,C,D,E,F⟩,G,H⟩,_⟩=>
 bnd (qD (!(!(b==c))) (vp n (qe.mk m o (Val.mk p q s t u v) w x) (qe.mk y z (Val.mk A B C D E F) G H))) fun g=>
 bif(bif(!(b==c))then true else(!g))then(
 some false)
 else(
 f (kwr .i64 (a+1))))
 else(
 qo (vS n i k j l) n (0:Int))
def uV (n:Nat) (b g:List zx) (d i:List xM) (e j:List qS) (f k:List qj):LK (Int) (Bool):=fun c a=>
 bif(decide (a<((zx.rows b).length:Int)))then(
 bnd (idx b a) fun⟨l,m⟩=>
 bnd (idx g a) fun⟨o,p⟩=>
 bnd (rU n (zx.mk l m) (zx.mk o p)) fun q=>
 bif(!q)then(
 some false)
 else(
 c (kwr .i64 (a+1))))
 else(
 qo (vR n d i e j f k) n (0:Int))
def gS (n:Nat) (v w:qd):Option (Bool):=
 match v,w with
 | ⟨c,a,K,⟨R,X,⟨Y,Z,a0,a1,x,y⟩,z,A⟩,k,e,l,f,B,C,q,D,E⟩,⟨d,b,F,⟨G,H,⟨I,J,L,M,N,O⟩,P,Q⟩,m,g,o,i,S,T,s,U,V⟩=>
 bnd (qD (!(bif(c != d)then true else(((zx.rows a).length:Int) != ((zx.rows b).length:Int)))) (xm n K F)) fun j=>
 bnd (qD (!(bif(bif(c != d)then true else(((zx.rows a).length:Int) != ((zx.rows b).length:Int)))then true else(!j))) (vp n (qe.mk R X (Val.mk Y Z a0 a1 x y) z A) (qe.mk G H (Val.mk I J L M N O) P Q))) fun p=>
 bnd (qD (!(bif(bif(bif(bif(bif(bif(bif(c != d)then true else(((zx.rows a).length:Int) != ((zx.rows b).length:Int)))then true else(!j))then true else(!p))then true else(!(k==m)))then true else(((xM.rows e).length:Int) != ((xM.rows g).length:Int)))then true else(!(l==o)))then true else(((qS.rows f).length:Int) != ((qS.rows i).length:Int)))) (xm n B S)) fun t=>
 bnd (qD (!(bif(bif(bif(bif(bif(bif(bif(bif(c != d)then true else(((zx.rows a).length:Int) != ((zx.rows b).length:Int)))then true else(!j))then true else(!p))then true else(!(k==m)))then true else(((xM.rows e).length:Int) != ((xM.rows g).length:Int)))then true else(!(l==o)))then true else(((qS.rows f).length:Int) != ((qS.rows i).length:Int)))then true else(!t))) (xm n C T)) fun u=>
 bnd (qD (!(bif(bif(bif(bif(bif(bif(bif(bif(bif(bif(c != d)then true else(((zx.rows a).length:Int) != ((zx.rows b).length:Int)))then true else(!j))then true else(!p))then true else(!(k==m)))then true else(((xM.rows e).length:Int) != ((xM.rows g).length:Int)))then true else(!(l==o)))then true else(((qS.rows f).length:Int) != ((qS.rows i).length:Int)))then true else(!t))then true else(!u))then true else(((qj.rows q).length:Int) != ((qj.rows s).length:Int)))) (qY n D U)) fun W=>
 bif(bif(bif(bif(bif(bif(bif(bif(bif(bif(bif(bif(bif(c != d)then true else(((zx.rows a).length:Int) != ((zx.rows b).length:Int)))then true else(!j))then true else(!p))then true else(!(k==m)))then true else(((xM.rows e).length:Int) != ((xM.rows g).length:Int)))then true else(!(l==o)))then true else(((qS.rows f).length:Int) != ((qS.rows i).length:Int)))then true else(!t))then true else(!u))then true else(((qj.rows q).length:Int) != ((qj.rows s).length:Int)))then true else(!W))then true else(!(E==V)))then(
 some false)
 else(
 qo (uV n a b e g f i q s) n (0:Int))
theorem CG (n:Nat):∀ (l m:qd) (r:Bool),gS n l m=some r->qb TP 79 [PV.agg (xN.cells l),PV.agg (xN.cells m)] (BU r):=by
 intro l m r h;obtain⟨o,j,J,⟨T,Y,⟨a1,a2,a3,a4,p,s⟩,t,u⟩,v,g,x,e,y,z,c,A,C⟩:=l;obtain⟨D,k,E,⟨F,G,⟨H,I,K,L,M,N⟩,O,P⟩,Q,i,R,f,U,V,d,W,X⟩:=m;unfold gS at h;refine zN Tryz.call79 Tryz.func79 [1000000] ?_;conv=>whnf
 iterate 11 refine⟨id,?_⟩
 conv=>whnf
 refine bq h fun _ b8 h=>⟨_,fun a=>(cA n _ _ _ (qa b8 a)),?_⟩;conv=>whnf
 iterate 6 refine⟨id,?_⟩
 conv=>whnf
 refine bq h fun _ b7 h=>⟨_,fun a=>(pn n _ _ _ (qa b7 a)),?_⟩;conv=>whnf
 iterate 30 refine⟨id,?_⟩
 conv=>whnf
 refine bq h fun _ b5 h=>⟨_,fun a=>(cA n _ _ _ (qa b5 a)),?_⟩;conv=>whnf
 iterate 6 refine⟨id,?_⟩
 conv=>whnf
 refine bq h fun _ b4 h=>⟨_,fun a=>(cA n _ _ _ (qa b4 a)),?_⟩;conv=>whnf
 iterate 13 refine⟨id,?_⟩
 conv=>whnf
 refine bq h fun _ b3 h=>⟨_,fun a=>(zs n _ _ _ (qa b3 a)),?_⟩;conv=>whnf
 iterate 7 refine⟨id,?_⟩
 conv=>whnf
 apply ifc h<;>intro b h
 ·obtain rfl:=sj h
  conv=>whnf
  try exact fin
 conv=>whnf
 refine qX.fn [1000000] (S:=Int) (fun Z=>[(2,.ptr 0 0),(3,.ptr 1 0),(5,pI Z)]) (fun Z=>[.box 54 [pI o,pP j,pE J,pI T,pS Y,pI a1,pB a2,pI a3,pS a4,pV p,pT s,pT t,pE u,pS v,pA g,pB x,pO e,pE y,pE z,pU c,pT A,pB C],.box 54 [pI D,pP k,pE E,pI F,pS G,pI H,pB I,pI K,pS L,pV M,pT N,pT O,pE P,pS Q,pA i,pB R,pO f,pE U,pE V,pU d,pT W,pB X]]) (B:=uV n j k g i e f c d) h (wk [0,1] []) ?_;intro _ Z h;unfold uV at h;conv=>whnf
 apply ifc h<;>intro b h
 ·conv=>whnf
  refine bq h fun⟨_,_⟩ b9 h=>⟨_,Codec.at_ pb b9,?_⟩;conv=>whnf
  refine bq h fun⟨_,_⟩ b6 h=>⟨_,Codec.at_ pb b6,?_⟩;conv=>whnf
  refine bq h fun _ a5 h=>⟨_,(DU n _ _ _ a5),?_⟩;conv=>whnf
  apply ifc h<;>intro b h
  ·obtain rfl:=sj h
   conv=>whnf
   try exact fin
  conv=>whnf
  exact⟨(kwr .i64 (Z+1)),h,wk [0,1] []⟩
 conv=>whnf
 refine qX.fn [1000000] (S:=Int) (fun a0=>[(2,.ptr 0 0),(3,.ptr 1 0),(6,pI a0)]) (fun a0=>[.box 54 [pI o,pP j,pE J,pI T,pS Y,pI a1,pB a2,pI a3,pS a4,pV p,pT s,pT t,pE u,pS v,pA g,pB x,pO e,pE y,pE z,pU c,pT A,pB C],.box 54 [pI D,pP k,pE E,pI F,pS G,pI H,pB I,pI K,pS L,pV M,pT N,pT O,pE P,pS Q,pA i,pB R,pO f,pE U,pE V,pU d,pT W,pB X]]) (B:=vR n g i e f c d) h (wk [0,1] []) ?_;intro _ a0 h;unfold vR at h;conv=>whnf
 apply ifc h<;>intro b h
 ·conv=>whnf
  refine bq h fun⟨⟨_,_,⟨_,_,_,_,_,_⟩,_,_⟩,_⟩ c4 h=>⟨_,Codec.at_ VE c4,?_⟩;conv=>whnf
  refine bq h fun⟨⟨_,_,⟨_,_,_,_,_,_⟩,_,_⟩,_⟩ c3 h=>⟨_,Codec.at_ VE c3,?_⟩;conv=>whnf
  refine⟨id,id,id,?_⟩;conv=>whnf
  refine bq h fun⟨⟨_,_,⟨_,_,_,_,_,_⟩,_,_⟩,_⟩ c2 h=>⟨_,fun a=>Codec.at_ VE (qa c2 a),?_⟩;conv=>whnf
  refine⟨id,id,id,id,id,?_⟩;conv=>whnf
  refine bq h fun⟨⟨_,_,⟨_,_,_,_,_,_⟩,_,_⟩,_⟩ c1 h=>⟨_,fun a=>Codec.at_ VE (qa c1 a),?_⟩;conv=>whnf
  refine⟨id,id,id,id,?_⟩;conv=>whnf
  refine bq h fun _ c0 h=>⟨_,fun a=>(pn n _ _ _ (qa c0 a)),?_⟩;conv=>whnf
  refine⟨id,id,?_⟩;conv=>whnf
  apply ifc h<;>intro b h
  ·obtain rfl:=sj h
   conv=>whnf
   try exact fin
  conv=>whnf
  exact⟨(kwr .i64 (a0+1)),h,wk [0,1] []⟩
 conv=>whnf
 refine qX.fn [1000000] (S:=Int) (fun q=>[(2,.ptr 0 0),(3,.ptr 1 0),(7,pI q)]) (fun q=>[.box 54 [pI o,pP j,pE J,pI T,pS Y,pI a1,pB a2,pI a3,pS a4,pV p,pT s,pT t,pE u,pS v,pA g,pB x,pO e,pE y,pE z,pU c,pT A,pB C],.box 54 [pI D,pP k,pE E,pI F,pS G,pI H,pB I,pI K,pS L,pV M,pT N,pT O,pE P,pS Q,pA i,pB R,pO f,pE U,pE V,pU d,pT W,pB X]]) (B:=vS n e f c d) h (wk [0,1] []) ?_;intro _ q h;unfold vS at h;conv=>whnf
 apply ifc h<;>intro b h
 ·conv=>whnf
  refine bq h fun⟨⟨_,_,⟨_,_,_,_,_,_⟩,_,_⟩,_⟩ a9 h=>⟨_,Codec.at_ Za a9,?_⟩;conv=>whnf
  refine bq h fun⟨⟨_,_,⟨_,_,_,_,_,_⟩,_,_⟩,_⟩ a8 h=>⟨_,Codec.at_ Za a8,?_⟩;conv=>whnf
  refine⟨id,id,id,?_⟩;conv=>whnf
  refine bq h fun⟨⟨_,_,⟨_,_,_,_,_,_⟩,_,_⟩,_⟩ a7 h=>⟨_,fun a=>Codec.at_ Za (qa a7 a),?_⟩;conv=>whnf
  refine⟨id,id,id,id,id,?_⟩;conv=>whnf
  refine bq h fun⟨⟨_,_,⟨_,_,_,_,_,_⟩,_,_⟩,_⟩ a6 h=>⟨_,fun a=>Codec.at_ Za (qa a6 a),?_⟩;conv=>whnf
  refine⟨id,id,id,id,?_⟩;conv=>whnf
  refine bq h fun _ c5 h=>⟨_,fun a=>(pn n _ _ _ (qa c5 a)),?_⟩;conv=>whnf
  refine⟨id,id,?_⟩;conv=>whnf
  apply ifc h<;>intro b h
  ·obtain rfl:=sj h
   conv=>whnf
   try exact fin
  conv=>whnf
  exact⟨(kwr .i64 (q+1)),h,wk [0,1] []⟩
 conv=>whnf
 refine qX.fn [1000000] (S:=Int) (fun w=>[(2,.ptr 0 0),(3,.ptr 1 0),(8,pI w)]) (fun w=>[.box 54 [pI o,pP j,pE J,pI T,pS Y,pI a1,pB a2,pI a3,pS a4,pV p,pT s,pT t,pE u,pS v,pA g,pB x,pO e,pE y,pE z,pU c,pT A,pB C],.box 54 [pI D,pP k,pE E,pI F,pS G,pI H,pB I,pI K,pS L,pV M,pT N,pT O,pE P,pS Q,pA i,pB R,pO f,pE U,pE V,pU d,pT W,pB X]]) (B:=vT n c d) h (wk [0,1] []) ?_;intro _ w h;unfold vT at h;conv=>whnf
 apply ifc h<;>intro b h
 ·conv=>whnf
  refine bq h fun⟨_,_,_,⟨_,_,⟨_,_,_,_,_,_⟩,_,_⟩⟩ b2 h=>⟨_,Codec.at_ nr b2,?_⟩;conv=>whnf
  refine bq h fun⟨_,_,_,⟨_,_,⟨_,_,_,_,_,_⟩,_,_⟩⟩ b1 h=>⟨_,Codec.at_ nr b1,?_⟩;conv=>whnf
  iterate 14 refine⟨id,?_⟩
  conv=>whnf
  refine bq h fun _ b0 h=>⟨_,fun a=>(pn n _ _ _ (qa b0 a)),?_⟩;conv=>whnf
  refine⟨id,id,?_⟩;conv=>whnf
  apply ifc h<;>intro b h
  ·obtain rfl:=sj h
   conv=>whnf
   try exact fin
  conv=>whnf
  exact⟨(kwr .i64 (w+1)),h,wk [0,1] []⟩
 obtain rfl:=sj h;conv=>whnf
 try exact fin
abbrev eF (r:Bool):PV:=PV.bool r
def gx (n:Nat) (a:SS):Option (Bool):=
 some (bif(decide (((a.length:Nat):Int)≥1))then(decide (((a.length:Nat):Int)<=64))else false)
theorem fm (n:Nat):∀ (a:SS) (r:Bool),gx n a=some r->qb TP 67 [PV.str a] (eF r):=by
 intro a r h;unfold gx at h;refine zN Tryz.call67 Tryz.func67 [1000000] ?_;conv=>whnf
 refine⟨id,id,id,?_⟩;obtain rfl:=sj h;conv=>whnf
 try exact fin
abbrev SO (r:List SS):PV:=PV.sl (qi r)
def Uc (n:Nat):Option (List SS):=
 some [([77,65,84,67,72]:SS),([87,72,69,82,69]:SS),([85,78,87,73,78,68]:SS),([65,83]:SS),([87,73,84,72]:SS),([67,82,69,65,84,69]:SS),([77,69,82,71,69]:SS),([83,69,84]:SS),([82,69,77,79,86,69]:SS),([68,69,76,69,84,69]:SS),([68,69,84,65,67,72]:SS),([82,69,84,85,82,78]:SS),([68,73,83,84,73,78,67,84]:SS),([79,82,68,69,82]:SS),([66,89]:SS),([65,83,67]:SS),([68,69,83,67]:SS),([83,75,73,80]:SS),([76,73,77,73,84]:SS),([65,78,68]:SS),([79,82]:SS),([88,79,82]:SS),([78,79,84]:SS),([73,78]:SS),([73,83]:SS),([78,85,76,76]:SS),([84,82,85,69]:SS),([70,65,76,83,69]:SS)]
theorem Pw (n:Nat):∀ (r:List SS),Uc n=some r->qb TP 211 [] (SO r):=by
 intro r h;unfold Uc at h;refine zN Tryz.call211 Tryz.func211 [1000000] ?_;conv=>whnf
 refine⟨Codec.one cc [([77,65,84,67,72]:SS),([87,72,69,82,69]:SS),([85,78,87,73,78,68]:SS),([65,83]:SS),([87,73,84,72]:SS),([67,82,69,65,84,69]:SS),([77,69,82,71,69]:SS),([83,69,84]:SS),([82,69,77,79,86,69]:SS),([68,69,76,69,84,69]:SS),([68,69,84,65,67,72]:SS),([82,69,84,85,82,78]:SS),([68,73,83,84,73,78,67,84]:SS),([79,82,68,69,82]:SS),([66,89]:SS),([65,83,67]:SS),([68,69,83,67]:SS),([83,75,73,80]:SS),([76,73,77,73,84]:SS),([65,78,68]:SS),([79,82]:SS),([88,79,82]:SS),([78,79,84]:SS),([73,78]:SS),([73,83]:SS),([78,85,76,76]:SS),([84,82,85,69]:SS),([70,65,76,83,69]:SS)],qi [([77,65,84,67,72]:SS),([87,72,69,82,69]:SS),([85,78,87,73,78,68]:SS),([65,83]:SS),([87,73,84,72]:SS),([67,82,69,65,84,69]:SS),([77,69,82,71,69]:SS),([83,69,84]:SS),([82,69,77,79,86,69]:SS),([68,69,76,69,84,69]:SS),([68,69,84,65,67,72]:SS),([82,69,84,85,82,78]:SS),([68,73,83,84,73,78,67,84]:SS),([79,82,68,69,82]:SS),([66,89]:SS),([65,83,67]:SS),([68,69,83,67]:SS),([83,75,73,80]:SS),([76,73,77,73,84]:SS),([65,78,68]:SS),([79,82]:SS),([88,79,82]:SS),([78,79,84]:SS),([73,78]:SS),([73,83]:SS),([78,85,76,76]:SS),([84,82,85,69]:SS),([70,65,76,83,69]:SS)],.inl rfl,?_⟩;obtain rfl:=sj h;conv=>whnf
 try exact fin
abbrev SM (r:SS):PV:=PV.str r
def mq (n:Nat) (a:SS) (c:SS×Int->Option SS) (d:Int):Int->Option SS:=fun e=>
 bnd (u8I e) fun b=>
 chk (decide ((qT (a++[b])).length * 1<=140737488355328)) (
 c ((a++[b]),(kwr .i64 (d+1))))
def mu (n:Nat) (e:SS):(SS×Int->Option SS)->SS×Int->Option SS:=fun d (c,a)=>
 bif(decide (a<((e.length:Nat):Int)))then(
 bnd (idx e a) fun b=>
 bif(bif(decide (((b.toNat:Nat):Int)≥97))then(decide (((b.toNat:Nat):Int)<=122))else false)then(
 mq n c d a (kwr .u8 (((b.toNat:Nat):Int) - 32)))
 else(
 mq n c d a ((b.toNat:Nat):Int)))
 else(
 some c)
def ZR (n:Nat) (a:SS):Option SS:=
 qo (mu n a) n (([]:List _),(0:Int))
theorem Pv (n:Nat):∀ (c r:SS),ZR n c=some r->qb TP 212 [PV.str c] (SM r):=by
 intro c r h;unfold ZR at h;refine zN Tryz.call212 Tryz.func212 [1000000] ?_;conv=>whnf
 refine qX.fn [1000000] (S:=SS×Int) (fun(a,d)=>[(0,pS c),(3,.tsl 0 (qT a)),(4,pI d)]) (fun(a,d)=>[.tail 5 1 (qT a).length]) (B:=mu n c) h (wk [0] [0]) ?_;intro l st h;obtain⟨a,d⟩:=st;unfold mu at h;conv=>whnf
 apply ifc h<;>intro k h
 ·conv=>whnf
  refine bq h fun g j h=>⟨_,bX j,?_⟩;conv=>whnf
  refine cY.cut (S:=Int) (fun e=>[(0,pS c),(3,.tsl 0 (qT a)),(4,pI d),(5,.p (.int .u8 e))]) (fun e=>[.tail 5 1 (qT a).length]) (mq n a l d) (r:=r) ?_ ?_
  ·intro e h
   unfold mq at h;conv=>whnf
   refine bq h fun b i h=>?_;rw[show([[PV.int .u8 e]]:List (List PV))=qT [b]from by rw[vQ i]; rfl];refine⟨Codec.one uN [b],_,.inl rfl,?_⟩;conv=>whnf
   rw[show qT a++qT [b]=qT (a++[b])from Codec.append uN a [b]];conv=>whnf
   obtain⟨f,h⟩:=qg h;refine⟨⟨Codec.wide uN (a++[b]),kod f,xj f (by decide)⟩,?_⟩;conv=>whnf
   refine⟨⟨rfl,rfl,rfl⟩,?_⟩;conv=>whnf
   exact⟨((a++[b]),(kwr .i64 (d+1))),h,wk [1] []⟩
  conv=>whnf
  refine⟨id,?_⟩;conv=>whnf
  refine⟨id,?_⟩;conv=>whnf
  apply ifc h<;>intro k h
  ·conv=>whnf
   exact⟨(kwr .u8 (((g.toNat:Nat):Int) - 32)),h,wk [0] []⟩
  conv=>whnf
  exact⟨((g.toNat:Nat):Int),h,wk [0] []⟩
 conv=>whnf
 refine⟨_,rfl,?_⟩;obtain rfl:=sj h;conv=>whnf
 try exact fin
abbrev iN (r:SS×Bool):PV:=PV.tup [PV.str r.1,PV.bool r.2]
def ph (n:Nat) (b:List SS) (c:SS):LK (Int) (SS×Bool):=fun d a=>
 bif(decide (a<((qi b).length:Int)))then(
 bnd (idx b a) fun e=>
 bif(e==c)then(
 some (c,true))
 else(
 d (kwr .i64 (a+1))))
 else(
 some (([]:SS),false))
def Vm (n:Nat) (a:SS):Option (SS×Bool):=
 bnd (Uc n) fun b=>
 bnd (ZR n a) fun c=>
 qo (ph n b c) n (0:Int)
theorem Sq (n:Nat):∀ (b:SS) (r:SS×Bool),Vm n b=some r->qb TP 142 [PV.str b] (iN r):=by
 intro b r h;unfold Vm at h;refine zN Tryz.call142 Tryz.func142 [1000000] ?_;conv=>whnf
 refine bq h fun c g h=>⟨_,(Pw n _ g),?_⟩;conv=>whnf
 refine bq h fun d f h=>⟨_,(Pv n _ _ f),?_⟩;conv=>whnf
 refine qX.fn [1000000] (S:=Int) (fun a=>[(4,pT c),(5,pS d),(6,pI a)]) (fun a=>[]) (B:=ph n c d) h (wk [] []) ?_;intro _ a h;unfold ph at h;conv=>whnf
 apply ifc h<;>intro i h
 ·conv=>whnf
  refine bq h fun _ e h=>⟨_,Codec.at_ cc e,?_⟩;conv=>whnf
  apply ifc h<;>intro i h
  ·obtain rfl:=sj h
   conv=>whnf
   try exact fin
  conv=>whnf
  exact⟨(kwr .i64 (a+1)),h,wk [] []⟩
 obtain rfl:=sj h;conv=>whnf
 try exact fin
abbrev PQ (r:Bool):PV:=PV.bool r
def ny (n:Nat) (a:Int):Option (Bool):=
 some (bif(bif(bif(decide (a≥97))then(decide (a<=122))else false)then true else(bif(decide (a≥65))then(decide (a<=90))else false))then true else(a==95))
theorem Gd (n:Nat):∀ (a:Int) (r:Bool),ny n a=some r->qb TP 145 [PV.int .u8 a] (PQ r):=by
 intro a r h;unfold ny at h;refine zN Tryz.call145 Tryz.func145 [1000000] ?_;conv=>whnf
 iterate 10 refine⟨id,?_⟩
 obtain rfl:=sj h;conv=>whnf
 try exact fin
abbrev SK (r:Bool):PV:=PV.bool r
def ZP (n:Nat) (a:Int):Option (Bool):=
 some (bif(decide (a≥48))then(decide (a<=57))else false)
theorem Ps (n:Nat):∀ (a:Int) (r:Bool),ZP n a=some r->qb TP 146 [PV.int .u8 a] (SK r):=by
 intro a r h;unfold ZP at h;refine zN Tryz.call146 Tryz.func146 [1000000] ?_;conv=>whnf
 refine⟨id,id,?_⟩;obtain rfl:=sj h;conv=>whnf
 try exact fin
abbrev iK (r:Bool):PV:=PV.bool r
def pf (n:Nat) (b:SS):LK (Int) (Bool):=fun d a=>
 bif(decide (a<((b.length:Nat):Int)))then(
 bnd (idx b a) fun e=>
 bnd (ny n ((e.toNat:Nat):Int)) fun c=>
 bnd (qD (!c) (idx b a)) fun f=>
 bnd (qD (!c) (ZP n ((f.toNat:Nat):Int))) fun g=>
 bif(bif(!c)then(!g)else false)then(
 some false)
 else(
 d (kwr .i64 (a+1))))
 else(
 some true)
def ZE (n:Nat) (a:SS):Option (Bool):=
 bnd (qD (!(bif(decide (((a.length:Nat):Int)<1))then true else(decide (((a.length:Nat):Int)>64)))) (idx a (0:Int))) fun b=>
 bnd (qD (!(bif(decide (((a.length:Nat):Int)<1))then true else(decide (((a.length:Nat):Int)>64)))) (ny n ((b.toNat:Nat):Int))) fun c=>
 bif(bif(bif(decide (((a.length:Nat):Int)<1))then true else(decide (((a.length:Nat):Int)>64)))then true else(!c))then(
 some false)
 else(
 qo (pf n a) n (0:Int))
theorem BG (n:Nat):∀ (b:SS) (r:Bool),ZE n b=some r->qb TP 143 [PV.str b] (iK r):=by
 intro b r h;unfold ZE at h;refine zN Tryz.call143 Tryz.func143 [1000000] ?_;conv=>whnf
 refine⟨id,id,id,id,?_⟩;conv=>whnf
 refine bq h fun _ k h=>⟨_,fun a=>bX (qa k a),?_⟩;conv=>whnf
 refine⟨id,?_⟩;conv=>whnf
 refine bq h fun _ j h=>⟨_,fun a=>(Gd n _ _ (qa j a)),?_⟩;conv=>whnf
 refine⟨id,id,?_⟩;conv=>whnf
 apply ifc h<;>intro d h
 ·obtain rfl:=sj h
  conv=>whnf
  try exact fin
 conv=>whnf
 refine qX.fn [1000000] (S:=Int) (fun c=>[(0,pS b),(3,pI c)]) (fun c=>[]) (B:=pf n b) h (wk [] []) ?_;intro _ c h;unfold pf at h;conv=>whnf
 apply ifc h<;>intro d h
 ·conv=>whnf
  refine bq h fun _ i h=>⟨_,bX i,?_⟩;conv=>whnf
  refine bq h fun _ g h=>⟨_,(Gd n _ _ g),?_⟩;conv=>whnf
  refine⟨id,id,?_⟩;conv=>whnf
  refine bq h fun _ f h=>⟨_,fun a=>bX (qa f a),?_⟩;conv=>whnf
  refine⟨id,?_⟩;conv=>whnf
  refine bq h fun _ e h=>⟨_,fun a=>(Ps n _ _ (qa e a)),?_⟩;conv=>whnf
  refine⟨id,id,?_⟩;conv=>whnf
  apply ifc h<;>intro d h
  ·obtain rfl:=sj h
   conv=>whnf
   try exact fin
  conv=>whnf
  exact⟨(kwr .i64 (c+1)),h,wk [] []⟩
 obtain rfl:=sj h;conv=>whnf
 try exact fin
abbrev SN (r:Bool):PV:=PV.bool r
def uU (n:Nat) (a:SS):Option (Bool):=
 bnd (Vm n a) fun⟨_,b⟩=>
 bnd (ZE n a) fun c=>
 some (bif c then(!b)else false)
theorem gr (n:Nat):∀ (a:SS) (r:Bool),uU n a=some r->qb TP 84 [PV.str a] (SN r):=by
 intro a r h;unfold uU at h;refine zN Tryz.call84 Tryz.func84 [1000000] ?_;conv=>whnf
 refine bq h fun⟨_,_⟩ c h=>⟨_,(Sq n _ _ c),?_⟩;conv=>whnf
 refine bq h fun _ b h=>⟨_,(BG n _ _ b),?_⟩;conv=>whnf
 refine⟨id,id,?_⟩;obtain rfl:=sj h;conv=>whnf
 try exact fin
abbrev SQ (r:Int):PV:=PV.int .i64 r
def mA (n:Nat):Bool->Option (Int):=fun a=>
 bif a then(
 some (7:Int))
 else(
 some (0:Int))
def rT (n:Nat) (a:SS):Bool->Option (Int):=fun b=>
 bif b then(
 some (6:Int))
 else(
 bif(a==([42]:SS))then(
 mA n (a==([42]:SS)))
 else(
 bif(a==([47]:SS))then(
 mA n (a==([47]:SS)))
 else(
 mA n (a==([37]:SS)))))
def ui (n:Nat) (a:SS):Bool->Option (Int):=fun b=>
 bif b then(
 some (5:Int))
 else(
 bif(a==([43]:SS))then(
 rT n a (a==([43]:SS)))
 else(
 rT n a (a==([45]:SS))))
def ZS (n:Nat) (a:SS):Option (Int):=
 bif(a==([79,82]:SS))then(
 some (1:Int))
 else(
 bif(a==([88,79,82]:SS))then(
 some (2:Int))
 else(
 bif(a==([65,78,68]:SS))then(
 some (3:Int))
 else(
 bif(a==([61]:SS))then(
 ui n a (a==([61]:SS)))
 else(
 bif(a==([60,62]:SS))then(
 ui n a (a==([60,62]:SS)))
 else(
 bif(a==([60]:SS))then(
 ui n a (a==([60]:SS)))
 else(
 bif(a==([60,61]:SS))then(
 ui n a (a==([60,61]:SS)))
 else(
 bif(a==([62]:SS))then(
 ui n a (a==([62]:SS)))
 else(
 bif(a==([62,61]:SS))then(
 ui n a (a==([62,61]:SS)))
 else(
 ui n a (a==([73,78]:SS)))))))))))
theorem Py (n:Nat):∀ (a:SS) (r:Int),ZS n a=some r->qb TP 246 [PV.str a] (SQ r):=by
 intro a r h;unfold ZS at h;refine zN Tryz.call246 Tryz.func246 [1000000] ?_;conv=>whnf
 apply ifc h<;>intro b h
 ·obtain rfl:=sj h
  conv=>whnf
  try exact fin
 conv=>whnf
 apply ifc h<;>intro b h
 ·obtain rfl:=sj h
  conv=>whnf
  try exact fin
 conv=>whnf
 apply ifc h<;>intro b h
 ·obtain rfl:=sj h
  conv=>whnf
  try exact fin
 conv=>whnf
 refine cY.cut (S:=Bool) (fun c=>[(3,pS a),(10,pB c)]) (fun c=>[]) (ui n a) (r:=r) ?_ ?_
 ·intro c h
  unfold ui at h;conv=>whnf
  apply ifc h<;>intro b h
  ·obtain rfl:=sj h
   conv=>whnf
   try exact fin
  conv=>whnf
  refine cY.cut (S:=Bool) (fun d=>[(3,pS a),(18,pB d)]) (fun d=>[]) (rT n a) (r:=r) ?_ ?_
  ·intro d h
   unfold rT at h;conv=>whnf
   apply ifc h<;>intro b h
   ·obtain rfl:=sj h
    conv=>whnf
    try exact fin
   conv=>whnf
   refine cY.cut (S:=Bool) (fun e=>[(21,pB e)]) (fun e=>[]) (mA n) (r:=r) ?_ ?_
   ·intro e h
    unfold mA at h;(conv=>whnf);apply ifc h<;>intro b h
    ·obtain rfl:=sj h
     conv=>whnf
     try exact fin
    obtain rfl:=sj h;conv=>whnf
    try exact fin
   conv=>whnf
   apply ifc h<;>intro b h
   ·conv=>whnf
    exact⟨(a==([42]:SS)),h,wk [] []⟩
   conv=>whnf
   apply ifc h<;>intro b h
   ·conv=>whnf
    exact⟨(a==([47]:SS)),h,wk [] []⟩
   conv=>whnf
   exact⟨(a==([37]:SS)),h,wk [] []⟩
  conv=>whnf
  apply ifc h<;>intro b h
  ·conv=>whnf
   exact⟨(a==([43]:SS)),h,wk [] []⟩
  conv=>whnf
  exact⟨(a==([45]:SS)),h,wk [] []⟩
 conv=>whnf
 apply ifc h<;>intro b h
 ·conv=>whnf
  exact⟨(a==([61]:SS)),h,wk [] []⟩
 conv=>whnf
 apply ifc h<;>intro b h
 ·conv=>whnf
  exact⟨(a==([60,62]:SS)),h,wk [] []⟩
 conv=>whnf
 apply ifc h<;>intro b h
 ·conv=>whnf
  exact⟨(a==([60]:SS)),h,wk [] []⟩
 conv=>whnf
 apply ifc h<;>intro b h
 ·conv=>whnf
  exact⟨(a==([60,61]:SS)),h,wk [] []⟩
 conv=>whnf
 apply ifc h<;>intro b h
 ·conv=>whnf
  exact⟨(a==([62]:SS)),h,wk [] []⟩
 conv=>whnf
 apply ifc h<;>intro b h
 ·conv=>whnf
  exact⟨(a==([62,61]:SS)),h,wk [] []⟩
 conv=>whnf
 exact⟨(a==([73,78]:SS)),h,wk [] []⟩
abbrev Ei (r:Bool):PV:=PV.bool r
def nA (n:Nat) (a:SS):Option (Bool):=
 some (bif(bif(bif(bif(a==([99,111,117,110,116]:SS))then true else(a==([115,117,109]:SS)))then true else(a==([109,105,110]:SS)))then true else(a==([109,97,120]:SS)))then true else(a==([99,111,108,108,101,99,116]:SS)))
theorem Xy (n:Nat):∀ (a:SS) (r:Bool),nA n a=some r->qb TP 247 [PV.str a] (Ei r):=by
 intro a r h;unfold nA at h;refine zN Tryz.call247 Tryz.func247 [1000000] ?_;conv=>whnf
 iterate 8 refine⟨id,?_⟩
 obtain rfl:=sj h;conv=>whnf
 try exact fin
end W
end
