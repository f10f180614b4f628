/- A part of the proof: contracts, printed by program. -/
import Derived.Test.YtlnipohgljbfiaaGreatB
import Derived.Test.YtlnipohgljbfiaaGreatC
import Derived.Test.YtlnipohgljbfiaaGreatI
set_option linter.unusedVariables false
set_option linter.unusedSimpArgs false
set_option linter.unnecessarySimpa false
set_option linter.deprecated false
set_option linter.unusedSectionVars false
set_option linter.constructorNameAsVariable false
open Go.IntKind renaming wrap->kwr,bits->kbt
section
set_option maxRecDepth 100000
set_option maxHeartbeats 4000000
open Go Go.Proofs Ax
namespace W
abbrev SJ (r:Bool):PV:=PV.bool r
def gP (n:Nat):Option (Bool):=
 bnd (CH n ([77,65,84,67,72,32,40,110,58,65,32,123,107,58,32,49,125,41,45,91,58,84,93,45,62,40,109,58,66,41,32,82,69,84,85,82,78,32,110,46,107,32,65,83,32,120]:SS)) fun⟨⟨g⟩,_,_⟩=>
 bnd (fh n (bu.mk g) (Val.mk (5:Int) false (0:Int) ([]:SS) ([]:List Val) ([]:List SS))) fun⟨c,a⟩=>
 bnd (ur n (Graph.mk ([]:List Node) ([]:List Edge)) (Graph.mk [Node.mk (1:Int) [([66]:SS)] ([]:List SS) ([]:List Val)] ([]:List Edge))) fun e=>
 bnd (qD (a==0) (qY n c [([73,58,65,46,107,61,49]:SS),([76,58,66]:SS),([84,58,84]:SS)])) fun b=>
 bnd (qD (bif(a==0)then b else false) (qY n e [([65]:SS),([76,58,66]:SS)])) fun d=>
 bnd (qD (bif(bif(a==0)then b else false)then d else false) (Xz n c e)) fun f=>
 bnd (qD (bif(bif(bif(a==0)then b else false)then d else false)then f else false) (Xz n c [([65]:SS)])) fun i=>
 some (bif(bif(bif(bif(a==0)then b else false)then d else false)then f else false)then(!i)else false)
theorem dj (n:Nat):∀ (r:Bool),gP n=some r->qb TP 8 [] (SJ r):=by
 intro r h;unfold gP at h;refine zN Tryz.call8 Tryz.func8 [1000000] ?_;conv=>whnf
 refine bq h fun⟨⟨_⟩,_,_⟩ i h=>⟨_,(PA n _ _ i),?_⟩;conv=>whnf
 refine bq h fun⟨_,_⟩ g h=>⟨_,(qb.leArgs (sw n _ _ _ g) (by try exact fin)),?_⟩;conv=>whnf
 refine⟨Codec.one cc [([66]:SS)],qi [([66]:SS)],.inl rfl,?_⟩;conv=>whnf
 refine⟨by repeat (first|exact List.forall_mem_nil _|refine List.forall_mem_cons.2 ⟨⟨rfl,rfl⟩,?_⟩),Node.rows [Node.mk (1:Int) [([66]:SS)] ([]:List SS) ([]:List Val)],.inr (by try exact fin),?_⟩;conv=>whnf
 refine bq h fun _ f h=>⟨_,(qb.leArgs (tA n _ _ _ f) (by try exact fin)),?_⟩;conv=>whnf
 refine⟨Codec.one cc [([73,58,65,46,107,61,49]:SS),([76,58,66]:SS),([84,58,84]:SS)],qi [([73,58,65,46,107,61,49]:SS),([76,58,66]:SS),([84,58,84]:SS)],.inl rfl,?_⟩;conv=>whnf
 refine⟨id,id,?_⟩;conv=>whnf
 refine bq h fun _ e h=>⟨_,fun a=>(zs n _ _ _ (qa e a)),?_⟩;conv=>whnf
 refine⟨id,?_⟩;conv=>whnf
 refine⟨Codec.one cc [([65]:SS),([76,58,66]:SS)],qi [([65]:SS),([76,58,66]:SS)],.inl rfl,?_⟩;conv=>whnf
 refine⟨id,id,?_⟩;conv=>whnf
 refine bq h fun _ d h=>⟨_,fun a=>(zs n _ _ _ (qa d a)),?_⟩;conv=>whnf
 refine⟨id,id,id,?_⟩;conv=>whnf
 refine bq h fun _ c h=>⟨_,fun a=>(Gi n _ _ _ (qa c a)),?_⟩;conv=>whnf
 refine⟨id,?_⟩;conv=>whnf
 refine⟨Codec.one cc [([65]:SS)],qi [([65]:SS)],.inl rfl,?_⟩;conv=>whnf
 refine⟨id,id,?_⟩;conv=>whnf
 refine bq h fun _ b h=>⟨_,fun a=>(Gi n _ _ _ (qa b a)),?_⟩;conv=>whnf
 refine⟨id,id,?_⟩;obtain rfl:=sj h;conv=>whnf
 try exact fin
def uH (n:Nat) (a:Int):List zx×List qe×Int×SS×Int×Bool×Int×SS×List Val×List SS×List SS×List qe×SS×List xM×Bool×List qS×List qe×List qe×List qj×List SS×Bool->Option (qd):=fun(b,c,d,e,f,g,i,j,k,l,m,o,p,q,s,t,u,v,w,x,y)=>
 some (qd.mk a b c (qe.mk d e (Val.mk f g i j k l) m o) p q s t u v w x y)
def sW (n:Nat) (a:Int) (b:List qj) (c:List SS) (d:Bool):Bool->Option (qd):=fun e=>
 bif e then(
 uH n a (([]:List _),([]:List _),(0:Int),([]:SS),(0:Int),false,(0:Int),([]:SS),([]:List _),([]:List _),([]:List _),([]:List _),([]:SS),([]:List _),false,([]:List _),([]:List _),([]:List _),b,([]:List _),false))
 else(
 bif(a==8)then(
 uH n a (([]:List _),([]:List _),(0:Int),([]:SS),(0:Int),false,(0:Int),([]:SS),([]:List _),([]:List _),([]:List _),([]:List _),([]:SS),([]:List _),false,([]:List _),([]:List _),([]:List _),([]:List _),c,d))
 else(
 uH n a (([]:List _),([]:List _),(0:Int),([]:SS),(0:Int),false,(0:Int),([]:SS),([]:List _),([]:List _),([]:List _),([]:List _),([]:SS),([]:List _),false,([]:List _),([]:List _),([]:List _),([]:List _),([]:List _),false)))
def sV (n:Nat) (a:Int) (e:List zx) (b:List qj) (c:List SS) (d:Bool):Bool->Option (qd):=fun f=>
 bif f then(
 uH n a (e,([]:List _),(0:Int),([]:SS),(0:Int),false,(0:Int),([]:SS),([]:List _),([]:List _),([]:List _),([]:List _),([]:SS),([]:List _),false,([]:List _),([]:List _),([]:List _),([]:List _),([]:List _),false))
 else(
 bif(a==6)then(
 sW n a b c d (a==6))
 else(
 sW n a b c d (a==7)))
def sU (n:Nat) (a:Int) (l:List qe) (b:List xM) (c:Bool) (d:List qS) (e f:List qe) (g:List zx) (i:List qj) (j:List SS) (k:Bool):Bool->Option (qd):=fun m=>
 bif m then(
 bif(a==3)then(
 uH n a (([]:List _),l,(0:Int),([]:SS),(0:Int),false,(0:Int),([]:SS),([]:List _),([]:List _),([]:List _),([]:List _),([]:SS),b,c,d,e,f,([]:List _),([]:List _),false))
 else(
 uH n a (([]:List _),([]:List _),(0:Int),([]:SS),(0:Int),false,(0:Int),([]:SS),([]:List _),([]:List _),([]:List _),([]:List _),([]:SS),b,c,d,e,f,([]:List _),([]:List _),false)))
 else(
 bif(a==4)then(
 sV n a g i j k (a==4))
 else(
 sV n a g i j k (a==5)))
def ZU (n:Nat) (m:qd):Option (qd):=
 match m with
 | ⟨a,b,c,⟨u,v,⟨w,x,y,z,o,p⟩,q,s⟩,t,d,e,f,g,i,j,k,l⟩=>
 bif(a==1)then(
 uH n a (b,c,(0:Int),([]:SS),(0:Int),false,(0:Int),([]:SS),([]:List _),([]:List _),([]:List _),([]:List _),([]:SS),([]:List _),false,([]:List _),([]:List _),([]:List _),([]:List _),([]:List _),false))
 else(
 bif(a==2)then(
 uH n a (([]:List _),([]:List _),u,v,w,x,y,z,o,p,q,s,t,([]:List _),false,([]:List _),([]:List _),([]:List _),([]:List _),([]:List _),false))
 else(
 bif(a==3)then(
 sU n a c d e f g i b j k l (a==3))
 else(
 sU n a c d e f g i b j k l (a==9))))
abbrev QQ (r:Bool):PV:=PV.bool r
abbrev qoq:Type:=Val->Val->Option (Bool)
abbrev qp6:Type:=(List Val)->(List Val)->Option (Bool)
def VU (n:Nat) (g136:qoq) (g77:qp6) (k l:Val):Option (Bool):=
 match k,l with
 | ⟨a,c,d,e,q,s⟩,⟨f,g,i,b,m,o⟩=>
 bnd (qD (bif(bif(bif(a==f)then(c==g)else false)then(d==i)else false)then(e==b)else false) (qY n s o)) fun j=>
 bnd (qD (bif(bif(bif(bif(a==f)then(c==g)else false)then(d==i)else false)then(e==b)else false)then j else false) (g77 q m)) fun p=>
 some (bif(bif(bif(bif(bif(a==f)then(c==g)else false)then(d==i)else false)then(e==b)else false)then j else false)then p else false)
abbrev mg (r:Bool):PV:=PV.bool r
def dG (n:Nat) (b l:List Val) (g136:qoq):LK (Int) (Bool):=fun c a=>
 bif(decide (a<((Val.rows b).length:Int)))then(
 bnd (idx b a) fun⟨m,o,p,q,s,t⟩=>
 bnd (idx l a) fun⟨d,e,f,g,i,j⟩=>
 bnd (g136 (Val.mk m o p q s t) (Val.mk d e f g i j)) fun k=>
 bif(!k)then(
 some false)
 else(
 c (kwr .i64 (a+1))))
 else(
 some true)
def tn (n:Nat) (g136:qoq) (g77:qp6) (a b:List Val):Option (Bool):=
 bif(((Val.rows a).length:Int) != ((Val.rows b).length:Int))then(
 some false)
 else(
 qo (dG n a b g136) n (0:Int))
theorem Pk (n:Nat) (g136:qoq) (g77:qp6) (g136_ok:∀ (a b:Val) (r:Bool),g136 a b=some r->qb TP 136 [PV.agg (gM.cells a),PV.agg (gM.cells b)] (QQ r)) (g77_ok:∀ (d e:List Val) (r:Bool),g77 d e=some r->qb TP 77 [PV.sl (Val.rows d),PV.sl (Val.rows e)] (mg r)):∀ (a b:Val) (r:Bool),VU n g136 g77 a b=some r->qb TP 136 [PV.agg (gM.cells a),PV.agg (gM.cells b)] (QQ r):=by
 intro a b r h;obtain⟨d,e,_,_,_,_⟩:=a;obtain⟨_,_,_,_,_,_⟩:=b;unfold VU at h;refine zN Tryz.call136 Tryz.func136 [1000000] ?_;conv=>whnf
 iterate 19 refine⟨id,?_⟩
 conv=>whnf
 refine bq h fun _ g h=>⟨_,fun c=>(zs n _ _ _ (qa g c)),?_⟩;conv=>whnf
 refine⟨id,id,id,id,id,?_⟩;conv=>whnf
 refine bq h fun _ f h=>⟨_,fun c=>(g77_ok _ _ _ (qa f c)),?_⟩;conv=>whnf
 refine⟨id,?_⟩;obtain rfl:=sj h;conv=>whnf
 try exact fin
theorem BD (n:Nat) (g136:qoq) (g77:qp6) (g136_ok:∀ (d e:Val) (r:Bool),g136 d e=some r->qb TP 136 [PV.agg (gM.cells d),PV.agg (gM.cells e)] (QQ r)) (g77_ok:∀ (a b:List Val) (r:Bool),g77 a b=some r->qb TP 77 [PV.sl (Val.rows a),PV.sl (Val.rows b)] (mg r)):∀ (a b:List Val) (r:Bool),tn n g136 g77 a b=some r->qb TP 77 [PV.sl (Val.rows a),PV.sl (Val.rows b)] (mg r):=by
 intro a b r h;unfold tn at h;refine zN Tryz.call77 Tryz.func77 [1000000] ?_;conv=>whnf
 apply ifc h<;>intro f h
 ·obtain rfl:=sj h
  conv=>whnf
  try exact fin
 conv=>whnf
 refine qX.fn [1000000] (S:=Int) (fun c=>[(0,pV a),(1,pV b),(5,pI c)]) (fun c=>[]) (B:=dG n a b g136) h (wk [] []) ?_;intro _ c h;unfold dG at h;conv=>whnf
 apply ifc h<;>intro f h
 ·conv=>whnf
  refine bq h fun⟨_,_,_,_,_,_⟩ j h=>⟨_,Codec.at_ gM j,?_⟩;conv=>whnf
  refine bq h fun⟨_,_,_,_,_,_⟩ i h=>⟨_,Codec.at_ gM i,?_⟩;conv=>whnf
  refine bq h fun _ g h=>⟨_,(g136_ok _ _ _ g),?_⟩;conv=>whnf
  apply ifc h<;>intro f h
  ·obtain rfl:=sj h
   conv=>whnf
   try exact fin
  conv=>whnf
  exact⟨(kwr .i64 (c+1)),h,wk [] []⟩
 obtain rfl:=sj h;conv=>whnf
 try exact fin
mutual
def dF:Nat->Val->Val->Option (Bool)
 | 0=>fun _ _=>none
 | n+1=>VU n (dF n) (ug n)
def ug:Nat->(List Val)->(List Val)->Option (Bool)
 | 0=>fun _ _=>none
 | n+1=>tn n (dF n) (ug n)
end
theorem Cq (n:Nat):(∀ (a b:Val) (r:Bool),dF n a b=some r->qb TP 136 [PV.agg (gM.cells a),PV.agg (gM.cells b)] (QQ r))/\(∀ (c d:List Val) (r:Bool),ug n c d=some r->qb TP 77 [PV.sl (Val.rows c),PV.sl (Val.rows d)] (mg r)):=by
 induction n with
 | zero=>exact⟨(by intros; rename_i h; cases h),(by intros; rename_i h; cases h)⟩
 | succ n ih=>
  obtain⟨hg136,hg77⟩:=ih;exact⟨Pk n (dF n) (ug n) hg136 hg77,BD n (dF n) (ug n) hg136 hg77⟩
theorem Vj (n:Nat):∀ (a b:List Val) (r:Bool),ug n a b=some r->qb TP 77 [PV.sl (Val.rows a),PV.sl (Val.rows b)] (mg r):=(Cq n).2
abbrev eF (r:Bool):PV:=PV.bool r
def gx (n:Nat) (a:SS):Option (Bool):=
 some (bif(decide (((a.length:Nat):Int)≥1))then(decide (((a.length:Nat):Int)<=64))else false)
theorem fm (n:Nat):∀ (a:SS) (r:Bool),gx n a=some r->qb TP 67 [PV.str a] (eF r):=by
 intro a r h;unfold gx at h;refine zN Tryz.call67 Tryz.func67 [1000000] ?_;conv=>whnf
 refine⟨id,id,id,?_⟩;obtain rfl:=sj h;conv=>whnf
 try exact fin
abbrev SO (r:List SS):PV:=PV.sl (qi r)
def Uc (n:Nat):Option (List SS):=
 some [([77,65,84,67,72]:SS),([87,72,69,82,69]:SS),([85,78,87,73,78,68]:SS),([65,83]:SS),([87,73,84,72]:SS),([67,82,69,65,84,69]:SS),([77,69,82,71,69]:SS),([83,69,84]:SS),([82,69,77,79,86,69]:SS),([68,69,76,69,84,69]:SS),([68,69,84,65,67,72]:SS),([82,69,84,85,82,78]:SS),([68,73,83,84,73,78,67,84]:SS),([79,82,68,69,82]:SS),([66,89]:SS),([65,83,67]:SS),([68,69,83,67]:SS),([83,75,73,80]:SS),([76,73,77,73,84]:SS),([65,78,68]:SS),([79,82]:SS),([88,79,82]:SS),([78,79,84]:SS),([73,78]:SS),([73,83]:SS),([78,85,76,76]:SS),([84,82,85,69]:SS),([70,65,76,83,69]:SS)]
theorem Pw (n:Nat):∀ (r:List SS),Uc n=some r->qb TP 211 [] (SO r):=by
 intro r h;unfold Uc at h;refine zN Tryz.call211 Tryz.func211 [1000000] ?_;conv=>whnf
 refine⟨Codec.one cc [([77,65,84,67,72]:SS),([87,72,69,82,69]:SS),([85,78,87,73,78,68]:SS),([65,83]:SS),([87,73,84,72]:SS),([67,82,69,65,84,69]:SS),([77,69,82,71,69]:SS),([83,69,84]:SS),([82,69,77,79,86,69]:SS),([68,69,76,69,84,69]:SS),([68,69,84,65,67,72]:SS),([82,69,84,85,82,78]:SS),([68,73,83,84,73,78,67,84]:SS),([79,82,68,69,82]:SS),([66,89]:SS),([65,83,67]:SS),([68,69,83,67]:SS),([83,75,73,80]:SS),([76,73,77,73,84]:SS),([65,78,68]:SS),([79,82]:SS),([88,79,82]:SS),([78,79,84]:SS),([73,78]:SS),([73,83]:SS),([78,85,76,76]:SS),([84,82,85,69]:SS),([70,65,76,83,69]:SS)],qi [([77,65,84,67,72]:SS),([87,72,69,82,69]:SS),([85,78,87,73,78,68]:SS),([65,83]:SS),([87,73,84,72]:SS),([67,82,69,65,84,69]:SS),([77,69,82,71,69]:SS),([83,69,84]:SS),([82,69,77,79,86,69]:SS),([68,69,76,69,84,69]:SS),([68,69,84,65,67,72]:SS),([82,69,84,85,82,78]:SS),([68,73,83,84,73,78,67,84]:SS),([79,82,68,69,82]:SS),([66,89]:SS),([65,83,67]:SS),([68,69,83,67]:SS),([83,75,73,80]:SS),([76,73,77,73,84]:SS),([65,78,68]:SS),([79,82]:SS),([88,79,82]:SS),([78,79,84]:SS),([73,78]:SS),([73,83]:SS),([78,85,76,76]:SS),([84,82,85,69]:SS),([70,65,76,83,69]:SS)],.inl rfl,?_⟩;obtain rfl:=sj h;conv=>whnf
 try exact fin
abbrev SM (r:SS):PV:=PV.str r
def mq (n:Nat) (a:SS) (c:SS×Int->Option SS) (d:Int):Int->Option SS:=fun e=>
 bnd (u8I e) fun b=>
 chk (decide ((qT (a++[b])).length * 1<=140737488355328)) (
 c ((a++[b]),(kwr .i64 (d+1))))
def mu (n:Nat) (e:SS):(SS×Int->Option SS)->SS×Int->Option SS:=fun d (c,a)=>
 bif(decide (a<((e.length:Nat):Int)))then(
 bnd (idx e a) fun b=>
 bif(bif(decide (((b.toNat:Nat):Int)≥97))then(decide (((b.toNat:Nat):Int)<=122))else false)then(
 mq n c d a (kwr .u8 (((b.toNat:Nat):Int) - 32)))
 else(
 mq n c d a ((b.toNat:Nat):Int)))
 else(
 some c)
def ZR (n:Nat) (a:SS):Option SS:=
 qo (mu n a) n (([]:List _),(0:Int))
theorem Pv (n:Nat):∀ (c r:SS),ZR n c=some r->qb TP 212 [PV.str c] (SM r):=by
 intro c r h;unfold ZR at h;refine zN Tryz.call212 Tryz.func212 [1000000] ?_;conv=>whnf
 refine qX.fn [1000000] (S:=SS×Int) (fun(a,d)=>[(0,pS c),(3,.tsl 0 (qT a)),(4,pI d)]) (fun(a,d)=>[.tail 5 1 (qT a).length]) (B:=mu n c) h (wk [0] [0]) ?_;intro l st h;obtain⟨a,d⟩:=st;unfold mu at h;conv=>whnf
 apply ifc h<;>intro k h
 ·conv=>whnf
  refine bq h fun g j h=>⟨_,bX j,?_⟩;conv=>whnf
  refine cY.cut (S:=Int) (fun e=>[(0,pS c),(3,.tsl 0 (qT a)),(4,pI d),(5,.p (.int .u8 e))]) (fun e=>[.tail 5 1 (qT a).length]) (mq n a l d) (r:=r) ?_ ?_
  ·intro e h
   unfold mq at h;conv=>whnf
   refine bq h fun b i h=>?_;rw[show([[PV.int .u8 e]]:List (List PV))=qT [b]from by rw[vQ i]; rfl];refine⟨Codec.one uN [b],_,.inl rfl,?_⟩;conv=>whnf
   rw[show qT a++qT [b]=qT (a++[b])from Codec.append uN a [b]];conv=>whnf
   obtain⟨f,h⟩:=qg h;refine⟨⟨Codec.wide uN (a++[b]),kod f,xj f (by decide)⟩,?_⟩;conv=>whnf
   refine⟨⟨rfl,rfl,rfl⟩,?_⟩;conv=>whnf
   exact⟨((a++[b]),(kwr .i64 (d+1))),h,wk [1] []⟩
  conv=>whnf
  refine⟨id,?_⟩;conv=>whnf
  refine⟨id,?_⟩;conv=>whnf
  apply ifc h<;>intro k h
  ·conv=>whnf
   exact⟨(kwr .u8 (((g.toNat:Nat):Int) - 32)),h,wk [0] []⟩
  conv=>whnf
  exact⟨((g.toNat:Nat):Int),h,wk [0] []⟩
 conv=>whnf
 refine⟨_,rfl,?_⟩;obtain rfl:=sj h;conv=>whnf
 try exact fin
abbrev iN (r:SS×Bool):PV:=PV.tup [PV.str r.1,PV.bool r.2]
def ph (n:Nat) (b:List SS) (c:SS):LK (Int) (SS×Bool):=fun d a=>
 bif(decide (a<((qi b).length:Int)))then(
 bnd (idx b a) fun e=>
 bif(e==c)then(
 some (c,true))
 else(
 d (kwr .i64 (a+1))))
 else(
 some (([]:SS),false))
def Vm (n:Nat) (a:SS):Option (SS×Bool):=
 bnd (Uc n) fun b=>
 bnd (ZR n a) fun c=>
 qo (ph n b c) n (0:Int)
theorem Sq (n:Nat):∀ (b:SS) (r:SS×Bool),Vm n b=some r->qb TP 142 [PV.str b] (iN r):=by
 intro b r h;unfold Vm at h;refine zN Tryz.call142 Tryz.func142 [1000000] ?_;conv=>whnf
 refine bq h fun c g h=>⟨_,(Pw n _ g),?_⟩;conv=>whnf
 refine bq h fun d f h=>⟨_,(Pv n _ _ f),?_⟩;conv=>whnf
 refine qX.fn [1000000] (S:=Int) (fun a=>[(4,pT c),(5,pS d),(6,pI a)]) (fun a=>[]) (B:=ph n c d) h (wk [] []) ?_;intro _ a h;unfold ph at h;conv=>whnf
 apply ifc h<;>intro i h
 ·conv=>whnf
  refine bq h fun _ e h=>⟨_,Codec.at_ cc e,?_⟩;conv=>whnf
  apply ifc h<;>intro i h
  ·obtain rfl:=sj h
   conv=>whnf
   try exact fin
  conv=>whnf
  exact⟨(kwr .i64 (a+1)),h,wk [] []⟩
 obtain rfl:=sj h;conv=>whnf
 try exact fin
abbrev PQ (r:Bool):PV:=PV.bool r
def ny (n:Nat) (a:Int):Option (Bool):=
 some (bif(bif(bif(decide (a≥97))then(decide (a<=122))else false)then true else(bif(decide (a≥65))then(decide (a<=90))else false))then true else(a==95))
theorem Gd (n:Nat):∀ (a:Int) (r:Bool),ny n a=some r->qb TP 145 [PV.int .u8 a] (PQ r):=by
 intro a r h;unfold ny at h;refine zN Tryz.call145 Tryz.func145 [1000000] ?_;conv=>whnf
 iterate 10 refine⟨id,?_⟩
 obtain rfl:=sj h;conv=>whnf
 try exact fin
abbrev SK (r:Bool):PV:=PV.bool r
def ZP (n:Nat) (a:Int):Option (Bool):=
 some (bif(decide (a≥48))then(decide (a<=57))else false)
theorem Ps (n:Nat):∀ (a:Int) (r:Bool),ZP n a=some r->qb TP 146 [PV.int .u8 a] (SK r):=by
 intro a r h;unfold ZP at h;refine zN Tryz.call146 Tryz.func146 [1000000] ?_;conv=>whnf
 refine⟨id,id,?_⟩;obtain rfl:=sj h;conv=>whnf
 try exact fin
abbrev iK (r:Bool):PV:=PV.bool r
def pf (n:Nat) (b:SS):LK (Int) (Bool):=fun d a=>
 bif(decide (a<((b.length:Nat):Int)))then(
 bnd (idx b a) fun e=>
 bnd (ny n ((e.toNat:Nat):Int)) fun c=>
 bnd (qD (!c) (idx b a)) fun f=>
 bnd (qD (!c) (ZP n ((f.toNat:Nat):Int))) fun g=>
 bif(bif(!c)then(!g)else false)then(
 some false)
 else(
 d (kwr .i64 (a+1))))
 else(
 some true)
def ZE (n:Nat) (a:SS):Option (Bool):=
 bnd (qD (!(bif(decide (((a.length:Nat):Int)<1))then true else(decide (((a.length:Nat):Int)>64)))) (idx a (0:Int))) fun b=>
 bnd (qD (!(bif(decide (((a.length:Nat):Int)<1))then true else(decide (((a.length:Nat):Int)>64)))) (ny n ((b.toNat:Nat):Int))) fun c=>
 bif(bif(bif(decide (((a.length:Nat):Int)<1))then true else(decide (((a.length:Nat):Int)>64)))then true else(!c))then(
 some false)
 else(
 qo (pf n a) n (0:Int))
theorem BG (n:Nat):∀ (b:SS) (r:Bool),ZE n b=some r->qb TP 143 [PV.str b] (iK r):=by
 intro b r h;unfold ZE at h;refine zN Tryz.call143 Tryz.func143 [1000000] ?_;conv=>whnf
 refine⟨id,id,id,id,?_⟩;conv=>whnf
 refine bq h fun _ k h=>⟨_,fun a=>bX (qa k a),?_⟩;conv=>whnf
 refine⟨id,?_⟩;conv=>whnf
 refine bq h fun _ j h=>⟨_,fun a=>(Gd n _ _ (qa j a)),?_⟩;conv=>whnf
 refine⟨id,id,?_⟩;conv=>whnf
 apply ifc h<;>intro d h
 ·obtain rfl:=sj h
  conv=>whnf
  try exact fin
 conv=>whnf
 refine qX.fn [1000000] (S:=Int) (fun c=>[(0,pS b),(3,pI c)]) (fun c=>[]) (B:=pf n b) h (wk [] []) ?_;intro _ c h;unfold pf at h;conv=>whnf
 apply ifc h<;>intro d h
 ·conv=>whnf
  refine bq h fun _ i h=>⟨_,bX i,?_⟩;conv=>whnf
  refine bq h fun _ g h=>⟨_,(Gd n _ _ g),?_⟩;conv=>whnf
  refine⟨id,id,?_⟩;conv=>whnf
  refine bq h fun _ f h=>⟨_,fun a=>bX (qa f a),?_⟩;conv=>whnf
  refine⟨id,?_⟩;conv=>whnf
  refine bq h fun _ e h=>⟨_,fun a=>(Ps n _ _ (qa e a)),?_⟩;conv=>whnf
  refine⟨id,id,?_⟩;conv=>whnf
  apply ifc h<;>intro d h
  ·obtain rfl:=sj h
   conv=>whnf
   try exact fin
  conv=>whnf
  exact⟨(kwr .i64 (c+1)),h,wk [] []⟩
 obtain rfl:=sj h;conv=>whnf
 try exact fin
abbrev SN (r:Bool):PV:=PV.bool r
def uU (n:Nat) (a:SS):Option (Bool):=
 bnd (Vm n a) fun⟨_,b⟩=>
 bnd (ZE n a) fun c=>
 some (bif c then(!b)else false)
theorem gr (n:Nat):∀ (a:SS) (r:Bool),uU n a=some r->qb TP 84 [PV.str a] (SN r):=by
 intro a r h;unfold uU at h;refine zN Tryz.call84 Tryz.func84 [1000000] ?_;conv=>whnf
 refine bq h fun⟨_,_⟩ c h=>⟨_,(Sq n _ _ c),?_⟩;conv=>whnf
 refine bq h fun _ b h=>⟨_,(BG n _ _ b),?_⟩;conv=>whnf
 refine⟨id,id,?_⟩;obtain rfl:=sj h;conv=>whnf
 try exact fin
end W
end
