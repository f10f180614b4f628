/- A part of the proof: contracts, printed by program. -/
import Derived.Test.YtlbjambmfdlniaaGreatC
set_option linter.unusedVariables false
set_option linter.unusedSimpArgs false
set_option linter.unnecessarySimpa false
set_option linter.deprecated false
set_option linter.unusedSectionVars false
set_option linter.constructorNameAsVariable false
open Go.IntKind renaming wrap->kwr,bits->kbt
section
set_option maxRecDepth 100000
set_option maxHeartbeats 20000000
open Go Go.Proofs Ax
namespace W
abbrev Ue (r:Bool):PV:=PV.bool r
def gU (n:Nat) (a:Int):Option (Bool):=
 some (bif(bif(bif(decide (a≥97))then(decide (a<=122))else false)then true else(bif(decide (a≥65))then(decide (a<=90))else false))then true else(a==95))
theorem fi (n:Nat):∀ (a:Int) (r:Bool),gU n a=some r->qi TP 91 [PV.int .u8 a] (Ue r):=by
 intro a r h;unfold gU at h;refine zN Tryz.call91 Tryz.func91 [1000000] ?_;conv=>whnf
 iterate 10 refine⟨id,?_⟩
 obtain rfl:=sj h;conv=>whnf
 try exact Sk
abbrev Gy (r:Bool):PV:=PV.bool r
def gJ (n:Nat) (a:Int):Option (Bool):=
 some (bif(decide (a≥48))then(decide (a<=57))else false)
theorem gi (n:Nat):∀ (a:Int) (r:Bool),gJ n a=some r->qi TP 92 [PV.int .u8 a] (Gy r):=by
 intro a r h;unfold gJ at h;refine zN Tryz.call92 Tryz.func92 [1000000] ?_;conv=>whnf
 refine⟨id,id,?_⟩;obtain rfl:=sj h;conv=>whnf
 try exact Sk
abbrev GB (r:List SS):PV:=PV.sl (qy r)
def tl (n:Nat):Option (List SS):=
 some [([77,65,84,67,72]:SS),([87,72,69,82,69]:SS),([85,78,87,73,78,68]:SS),([65,83]:SS),([87,73,84,72]:SS),([67,82,69,65,84,69]:SS),([77,69,82,71,69]:SS),([83,69,84]:SS),([82,69,77,79,86,69]:SS),([68,69,76,69,84,69]:SS),([68,69,84,65,67,72]:SS),([82,69,84,85,82,78]:SS),([68,73,83,84,73,78,67,84]:SS),([79,82,68,69,82]:SS),([66,89]:SS),([65,83,67]:SS),([68,69,83,67]:SS),([83,75,73,80]:SS),([76,73,77,73,84]:SS),([65,78,68]:SS),([79,82]:SS),([88,79,82]:SS),([78,79,84]:SS),([73,78]:SS),([73,83]:SS),([78,85,76,76]:SS),([84,82,85,69]:SS),([70,65,76,83,69]:SS)]
theorem VN (n:Nat):∀ (r:List SS),tl n=some r->qi TP 89 [] (GB r):=by
 intro r h;unfold tl at h;refine zN Tryz.call89 Tryz.func89 [1000000] ?_;conv=>whnf
 refine⟨Codec.one rE [([77,65,84,67,72]:SS),([87,72,69,82,69]:SS),([85,78,87,73,78,68]:SS),([65,83]:SS),([87,73,84,72]:SS),([67,82,69,65,84,69]:SS),([77,69,82,71,69]:SS),([83,69,84]:SS),([82,69,77,79,86,69]:SS),([68,69,76,69,84,69]:SS),([68,69,84,65,67,72]:SS),([82,69,84,85,82,78]:SS),([68,73,83,84,73,78,67,84]:SS),([79,82,68,69,82]:SS),([66,89]:SS),([65,83,67]:SS),([68,69,83,67]:SS),([83,75,73,80]:SS),([76,73,77,73,84]:SS),([65,78,68]:SS),([79,82]:SS),([88,79,82]:SS),([78,79,84]:SS),([73,78]:SS),([73,83]:SS),([78,85,76,76]:SS),([84,82,85,69]:SS),([70,65,76,83,69]:SS)],qy [([77,65,84,67,72]:SS),([87,72,69,82,69]:SS),([85,78,87,73,78,68]:SS),([65,83]:SS),([87,73,84,72]:SS),([67,82,69,65,84,69]:SS),([77,69,82,71,69]:SS),([83,69,84]:SS),([82,69,77,79,86,69]:SS),([68,69,76,69,84,69]:SS),([68,69,84,65,67,72]:SS),([82,69,84,85,82,78]:SS),([68,73,83,84,73,78,67,84]:SS),([79,82,68,69,82]:SS),([66,89]:SS),([65,83,67]:SS),([68,69,83,67]:SS),([83,75,73,80]:SS),([76,73,77,73,84]:SS),([65,78,68]:SS),([79,82]:SS),([88,79,82]:SS),([78,79,84]:SS),([73,78]:SS),([73,83]:SS),([78,85,76,76]:SS),([84,82,85,69]:SS),([70,65,76,83,69]:SS)],.inl rfl,?_⟩;obtain rfl:=sj h;conv=>whnf
 try exact Sk
abbrev Gz (r:SS):PV:=PV.str r
def cJ (n:Nat) (a:SS) (c:SS×Int->Option SS) (d:Int):Int->Option SS:=fun e=>
 bnd (SI e) fun b=>
 chk (decide ((zu (a++[b])).length * 1<=140737488355328)) (
 c ((a++[b]),(kwr .i64 (d+1))))
def mH (n:Nat) (e:SS):(SS×Int->Option SS)->SS×Int->Option SS:=fun d (c,a)=>
 bif(decide (a<((e.length:Nat):Int)))then(
 bnd (idx e a) fun b=>
 bif(bif(decide (((b.toNat:Nat):Int)≥97))then(decide (((b.toNat:Nat):Int)<=122))else false)then(
 cJ n c d a (kwr .u8 (((b.toNat:Nat):Int) - 32)))
 else(
 cJ n c d a ((b.toNat:Nat):Int)))
 else(
 some c)
def tk (n:Nat) (a:SS):Option SS:=
 qU (mH n a) n (([]:List _),(0:Int))
theorem VM (n:Nat):∀ (c r:SS),tk n c=some r->qi TP 90 [PV.str c] (Gz r):=by
 intro c r h;unfold tk at h;refine zN Tryz.call90 Tryz.func90 [1000000] ?_;conv=>whnf
 refine zd.fn [1000000] (S:=SS×Int) (fun(a,d)=>[(0,pS c),(3,.tsl 0 (zu a)),(4,pI d)]) (fun(a,d)=>[.tail 5 1 (zu a).length]) (B:=mH n c) h (wk [0] [0]) ?_;intro l st h;obtain⟨a,d⟩:=st;unfold mH at h;conv=>whnf
 apply ifc h<;>intro k h
 ·conv=>whnf
  refine bq h fun g j h=>⟨_,zq j,?_⟩;conv=>whnf
  refine nu.cut (S:=Int) (fun e=>[(0,pS c),(3,.tsl 0 (zu a)),(4,pI d),(5,.p (.int .u8 e))]) (fun e=>[.tail 5 1 (zu a).length]) (cJ n a l d) (r:=r) ?_ ?_
  ·intro e h
   unfold cJ at h;conv=>whnf
   refine bq h fun b i h=>?_;rw[show([[PV.int .u8 e]]:List (List PV))=zu [b]from by rw[Ef i]; rfl];refine⟨Codec.one nO [b],_,.inl rfl,?_⟩;conv=>whnf
   rw[show zu a++zu [b]=zu (a++[b])from Codec.append nO a [b]];conv=>whnf
   obtain⟨f,h⟩:=qL h;refine⟨⟨Codec.wide nO (a++[b]),kod f,xK f (by decide)⟩,?_⟩;conv=>whnf
   refine⟨⟨rfl,rfl,rfl⟩,?_⟩;conv=>whnf
   exact⟨((a++[b]),(kwr .i64 (d+1))),h,wk [1] []⟩
  conv=>whnf
  refine⟨id,?_⟩;conv=>whnf
  refine⟨id,?_⟩;conv=>whnf
  apply ifc h<;>intro k h
  ·conv=>whnf
   exact⟨(kwr .u8 (((g.toNat:Nat):Int) - 32)),h,wk [0] []⟩
  conv=>whnf
  exact⟨((g.toNat:Nat):Int),h,wk [0] []⟩
 conv=>whnf
 refine⟨_,rfl,?_⟩;obtain rfl:=sj h;conv=>whnf
 try exact Sk
abbrev FQ (r:SS×Bool):PV:=PV.tup [PV.str r.1,PV.bool r.2]
def px (n:Nat) (b:List SS) (c:SS):LK (Int) (SS×Bool):=fun d a=>
 bif(decide (a<((qy b).length:Int)))then(
 bnd (idx b a) fun e=>
 bif(e==c)then(
 some (c,true))
 else(
 d (kwr .i64 (a+1))))
 else(
 some (([]:SS),false))
def sI (n:Nat) (a:SS):Option (SS×Bool):=
 bnd (tl n) fun b=>
 bnd (tk n a) fun c=>
 qU (px n b c) n (0:Int)
theorem tM (n:Nat):∀ (b:SS) (r:SS×Bool),sI n b=some r->qi TP 62 [PV.str b] (FQ r):=by
 intro b r h;unfold sI at h;refine zN Tryz.call62 Tryz.func62 [1000000] ?_;conv=>whnf
 refine bq h fun c g h=>⟨_,(VN n _ g),?_⟩;conv=>whnf
 refine bq h fun d f h=>⟨_,(VM n _ _ f),?_⟩;conv=>whnf
 refine zd.fn [1000000] (S:=Int) (fun a=>[(4,pT c),(5,pS d),(6,pI a)]) (fun a=>[]) (B:=px n c d) h (wk [] []) ?_;intro _ a h;unfold px at h;conv=>whnf
 apply ifc h<;>intro i h
 ·conv=>whnf
  refine bq h fun _ e h=>⟨_,Codec.at_ rE e,?_⟩;conv=>whnf
  apply ifc h<;>intro i h
  ·obtain rfl:=sj h
   conv=>whnf
   try exact Sk
  conv=>whnf
  exact⟨(kwr .i64 (a+1)),h,wk [] []⟩
 obtain rfl:=sj h;conv=>whnf
 try exact Sk
abbrev Uc (r:Bool):PV:=PV.bool r
def bj (n:Nat) (a:SS):LK (Int) (Bool):=fun d b=>
 bif(decide (b<((a.length:Nat):Int)))then(
 bnd (idx a b) fun c=>
 bnd (qG (!(decide (((c.toNat:Nat):Int)<48))) (idx a b)) fun e=>
 bif(bif(decide (((c.toNat:Nat):Int)<48))then true else(decide (((e.toNat:Nat):Int)>57)))then(
 some false)
 else(
 d (kwr .i64 (b+1))))
 else(
 some (decide (((a.length:Nat):Int)>0)))
def rX (n:Nat) (a:SS):Option (Bool):=
 qU (bj n a) n (0:Int)
theorem Xr (n:Nat):∀ (a:SS) (r:Bool),rX n a=some r->qi TP 158 [PV.str a] (Uc r):=by
 intro a r h;unfold rX at h;refine zN Tryz.call158 Tryz.func158 [1000000] ?_;conv=>whnf
 refine zd.fn [1000000] (S:=Int) (fun b=>[(0,pS a),(3,pI b)]) (fun b=>[]) (B:=bj n a) h (wk [] []) ?_;intro _ b h;unfold bj at h;conv=>whnf
 apply ifc h<;>intro e h
 ·conv=>whnf
  refine bq h fun _ d h=>⟨_,zq d,?_⟩;conv=>whnf
  refine⟨id,id,?_⟩;conv=>whnf
  refine bq h fun _ c h=>⟨_,fun f=>zq (qa c f),?_⟩;conv=>whnf
  refine⟨id,id,?_⟩;conv=>whnf
  apply ifc h<;>intro e h
  ·obtain rfl:=sj h
   conv=>whnf
   try exact Sk
  conv=>whnf
  exact⟨(kwr .i64 (b+1)),h,wk [] []⟩
 obtain rfl:=sj h;conv=>whnf
 try exact Sk
abbrev Bj (r:Int×Int):PV:=PV.tup [PV.int .i64 r.1,PV.int .i64 r.2]
def Xs (n:Nat) (b a:Int):Option (Int×Int):=
 bif(bif(b==0)then true else(a==0))then(
 some ((0:Int),(0:Int)))
 else(
 bif(bif(bif(b==(-1:Int))then(a==(-9223372036854775808:Int))else false)then true else(bif(a==(-1:Int))then(b==(-9223372036854775808:Int))else false))then(
 some ((0:Int),(4:Int)))
 else(
 chk (decide (a≠0)) (
 bif((kwr .i64 (Int.tdiv (kwr .i64 (b * a)) a)) != b)then(
 some ((0:Int),(4:Int)))
 else(
 some ((kwr .i64 (b * a)),(0:Int))))))
theorem FC (n:Nat):∀ (b a:Int) (r:Int×Int),Xs n b a=some r->qi TP 146 [PV.int .i64 b,PV.int .i64 a] (Bj r):=by
 intro b a r h;unfold Xs at h;refine zN Tryz.call146 Tryz.func146 [1000000] ?_;conv=>whnf
 refine⟨id,id,?_⟩;conv=>whnf
 apply ifc h<;>intro c h
 ·obtain rfl:=sj h
  conv=>whnf
  try exact Sk
 conv=>whnf
 iterate 8 refine⟨id,?_⟩
 conv=>whnf
 apply ifc h<;>intro c h
 ·obtain rfl:=sj h
  conv=>whnf
  try exact Sk
 conv=>whnf
 obtain⟨d,h⟩:=qL h;refine⟨(kod d:a≠0),?_⟩;conv=>whnf
 apply ifc h<;>intro c h
 ·obtain rfl:=sj h
  conv=>whnf
  try exact Sk
 obtain rfl:=sj h;conv=>whnf
 try exact Sk
abbrev Bi (r:Int×Int):PV:=PV.tup [PV.int .i64 r.1,PV.int .i64 r.2]
def Xq (n:Nat) (b a:Int):Option (Int×Int):=
 bif(bif(bif(decide (a>0))then(decide (b>(kwr .i64 ((9223372036854775807:Int) - a))))else false)then true else(bif(decide (a<0))then(decide (b<(kwr .i64 ((-9223372036854775808:Int) - a))))else false))then(
 some ((0:Int),(4:Int)))
 else(
 some ((kwr .i64 (b+a)),(0:Int)))
theorem FB (n:Nat):∀ (a b:Int) (r:Int×Int),Xq n a b=some r->qi TP 144 [PV.int .i64 a,PV.int .i64 b] (Bi r):=by
 intro a b r h;unfold Xq at h;refine zN Tryz.call144 Tryz.func144 [1000000] ?_;conv=>whnf
 iterate 12 refine⟨id,?_⟩
 conv=>whnf
 apply ifc h<;>intro _ h
 ·obtain rfl:=sj h
  conv=>whnf
  try exact Sk
 obtain rfl:=sj h;conv=>whnf
 try exact Sk
abbrev Gx (r:Int×Int):PV:=PV.tup [PV.int .i64 r.1,PV.int .i64 r.2]
def cH (n:Nat) (f:Int) (b:Int×Int->Option (Int×Int)) (e:Int):Int->Option (Int×Int):=fun c=>
 bnd (Xq n f c) fun⟨d,a⟩=>
 bif(a != 0)then(
 some ((0:Int),a))
 else(
 b (d,(kwr .i64 (e+1))))
def mF (n:Nat) (b i:SS):LK (Int×Int) (Int×Int):=fun c (d,a)=>
 bif(decide (a<((b.length:Nat):Int)))then(
 bnd (Xs n d (10:Int)) fun⟨e,f⟩=>
 bif(f != 0)then(
 some ((0:Int),f))
 else(
 bnd (idx b a) fun g=>
 bif(decide (((b.length:Nat):Int)<((i.length:Nat):Int)))then(
 cH n e c a (kwr .i64 ((0:Int) - (kwr .i64 (kwr .u8 (((g.toNat:Nat):Int) - 48))))))
 else(
 cH n e c a (kwr .i64 (kwr .u8 (((g.toNat:Nat):Int) - 48))))))
 else(
 some (d,(0:Int)))
def cG (n:Nat) (b:SS):SS->Option (Int×Int):=fun a=>
 bnd (rX n a) fun c=>
 bnd (qG (!(!c)) (idx a (0:Int))) fun d=>
 bif(bif(!c)then true else(bif(((d.toNat:Nat):Int)==48)then(!(b==([48]:SS)))else false))then(
 some ((0:Int),(1:Int)))
 else(
 qU (mF n a b) n ((0:Int),(0:Int)))
def tj (n:Nat) (a:SS):Option (Int×Int):=
 bnd (qG (decide (((a.length:Nat):Int)>0)) (idx a (0:Int))) fun b=>
 bif(bif(decide (((a.length:Nat):Int)>0))then(((b.toNat:Nat):Int)==45)else false)then(
 chk (decide (1<=a.length)) (
 cG n a (a.drop 1)))
 else(
 cG n a a)
theorem VJ (n:Nat):∀ (a:SS) (r:Int×Int),tj n a=some r->qi TP 117 [PV.str a] (Gx r):=by
 intro a r h;unfold tj at h;refine zN Tryz.call117 Tryz.func117 [1000000] ?_;conv=>whnf
 refine nu.cut (S:=SS) (fun b=>[(0,pS a),(4,pS b)]) (fun b=>[]) (cG n a) (r:=r) ?_ ?_
 ·intro b h
  unfold cG at h;conv=>whnf
  refine bq h fun _ p h=>⟨_,(Xr n _ _ p),?_⟩;conv=>whnf
  refine⟨id,?_⟩;conv=>whnf
  refine bq h fun _ o h=>⟨_,fun e=>zq (qa o e),?_⟩;conv=>whnf
  iterate 6 refine⟨id,?_⟩
  conv=>whnf
  apply ifc h<;>intro d h
  ·obtain rfl:=sj h
   conv=>whnf
   try exact Sk
  conv=>whnf
  refine zd.fn [1000000] (S:=Int×Int) (fun(g,c)=>[(0,pS a),(4,pS b),(5,pI g),(6,pI c)]) (fun(g,c)=>[]) (B:=mF n b a) h (wk [] []) ?_;intro t st h;obtain⟨g,c⟩:=st;unfold mF at h;conv=>whnf
  apply ifc h<;>intro d h
  ·conv=>whnf
   refine bq h fun⟨i,_⟩ m h=>⟨_,(FC n _ _ _ m),?_⟩;conv=>whnf
   apply ifc h<;>intro d h
   ·obtain rfl:=sj h
    conv=>whnf
    try exact Sk
   conv=>whnf
   refine bq h fun j l h=>⟨_,zq l,?_⟩;conv=>whnf
   refine nu.cut (S:=Int) (fun f=>[(0,pS a),(4,pS b),(6,pI c),(7,pI i),(9,pI f)]) (fun f=>[]) (cH n i t c) (r:=r) ?_ ?_
   ·intro f h
    unfold cH at h;(conv=>whnf);refine bq h fun⟨u,_⟩ k h=>⟨_,(FB n _ _ _ k),?_⟩;(conv=>whnf);apply ifc h<;>intro d h
    ·obtain rfl:=sj h
     conv=>whnf
     try exact Sk
    (conv=>whnf);exact⟨(u,(kwr .i64 (c+1))),h,wk [] []⟩
   conv=>whnf
   apply ifc h<;>intro d h
   ·conv=>whnf
    exact⟨(kwr .i64 ((0:Int) - (kwr .i64 (kwr .u8 (((j.toNat:Nat):Int) - 48))))),h,wk [] []⟩
   conv=>whnf
   exact⟨(kwr .i64 (kwr .u8 (((j.toNat:Nat):Int) - 48))),h,wk [] []⟩
  obtain rfl:=sj h;conv=>whnf
  try exact Sk
 conv=>whnf
 refine⟨id,?_⟩;conv=>whnf
 refine bq h fun _ s h=>⟨_,fun e=>zq (qa s e),?_⟩;conv=>whnf
 refine⟨id,id,?_⟩;conv=>whnf
 apply ifc h<;>intro d h
 ·conv=>whnf
  refine⟨1,rfl,?_⟩;conv=>whnf
  obtain⟨q,h⟩:=qL h;refine⟨⟨(kod q:(1<=a.length)),Nat.le_refl _⟩,?_⟩;rw[show List.drop 1 (List.take a.length a)=(a.drop 1)from by rw[List.take_length]];conv=>whnf
  exact⟨(a.drop 1),h,wk [] []⟩
 conv=>whnf
 exact⟨a,h,wk [] []⟩
abbrev FO (r:Bool):PV:=PV.bool r
def nH (n:Nat) (a:SS) (b:Int):Option (Bool):=
 bnd (qG (decide (b<((a.length:Nat):Int))) (idx a b)) fun c=>
 bnd (qG (bif(decide (b<((a.length:Nat):Int)))then(decide (((c.toNat:Nat):Int)≥128))else false) (idx a b)) fun d=>
 some (bif(bif(decide (b<((a.length:Nat):Int)))then(decide (((c.toNat:Nat):Int)≥128))else false)then(decide (((d.toNat:Nat):Int)<192))else false)
theorem pr (n:Nat):∀ (b:SS) (c:Int) (r:Bool),nH n b c=some r->qi TP 196 [PV.str b,PV.int .i64 c] (FO r):=by
 intro b c r h;unfold nH at h;refine zN Tryz.call196 Tryz.func196 [1000000] ?_;conv=>whnf
 refine⟨id,id,?_⟩;conv=>whnf
 refine bq h fun _ e h=>⟨_,fun a=>zq (qa e a),?_⟩;conv=>whnf
 refine⟨id,id,id,id,?_⟩;conv=>whnf
 refine bq h fun _ d h=>⟨_,fun a=>zq (qa d a),?_⟩;conv=>whnf
 refine⟨id,id,?_⟩;obtain rfl:=sj h;conv=>whnf
 try exact Sk
abbrev FN (r:Int):PV:=PV.int .i64 r
def Qv (n:Nat) (b:SS) (c:Int):Option (Int):=
 bif(decide (c≥((b.length:Nat):Int)))then(
 some (0:Int))
 else(
 bnd (idx b c) fun a=>
 bif(decide (((a.toNat:Nat):Int)<128))then(
 some (1:Int))
 else(
 bnd (qG (!(bif(decide (((a.toNat:Nat):Int)<194))then true else(decide (((a.toNat:Nat):Int)>244)))) (nH n b (kwr .i64 (c+1)))) fun e=>
 bif(bif(bif(decide (((a.toNat:Nat):Int)<194))then true else(decide (((a.toNat:Nat):Int)>244)))then true else(!e))then(
 some (0:Int))
 else(
 bif(decide (((a.toNat:Nat):Int)<224))then(
 some (2:Int))
 else(
 bnd (idx b (kwr .i64 (c+1))) fun d=>
 bnd (nH n b (kwr .i64 (c+2))) fun f=>
 bif(bif(bif(!f)then true else(bif(((a.toNat:Nat):Int)==224)then(decide (((d.toNat:Nat):Int)<160))else false))then true else(bif(((a.toNat:Nat):Int)==237)then(decide (((d.toNat:Nat):Int)≥160))else false))then(
 some (0:Int))
 else(
 bif(decide (((a.toNat:Nat):Int)<240))then(
 some (3:Int))
 else(
 bnd (nH n b (kwr .i64 (c+3))) fun g=>
 bif(bif(bif(!g)then true else(bif(((a.toNat:Nat):Int)==240)then(decide (((d.toNat:Nat):Int)<144))else false))then true else(bif(((a.toNat:Nat):Int)==244)then(decide (((d.toNat:Nat):Int)≥144))else false))then(
 some (0:Int))
 else(
 some (4:Int))))))))
theorem Gj (n:Nat):∀ (b:SS) (c r:Int),Qv n b c=some r->qi TP 159 [PV.str b,PV.int .i64 c] (FN r):=by
 intro b c r h;unfold Qv at h;refine zN Tryz.call159 Tryz.func159 [1000000] ?_;conv=>whnf
 apply ifc h<;>intro a h
 ·obtain rfl:=sj h
  conv=>whnf
  try exact Sk
 conv=>whnf
 refine bq h fun _ i h=>⟨_,zq i,?_⟩;conv=>whnf
 apply ifc h<;>intro a h
 ·obtain rfl:=sj h
  conv=>whnf
  try exact Sk
 conv=>whnf
 refine⟨id,id,id,id,id,?_⟩;conv=>whnf
 refine bq h fun _ g h=>⟨_,fun j=>(pr n _ _ _ (qa g j)),?_⟩;conv=>whnf
 refine⟨id,id,?_⟩;conv=>whnf
 apply ifc h<;>intro a h
 ·obtain rfl:=sj h
  conv=>whnf
  try exact Sk
 conv=>whnf
 apply ifc h<;>intro a h
 ·obtain rfl:=sj h
  conv=>whnf
  try exact Sk
 conv=>whnf
 refine bq h fun _ f h=>⟨_,zq f,?_⟩;conv=>whnf
 refine bq h fun _ e h=>⟨_,(pr n _ _ _ e),?_⟩;conv=>whnf
 iterate 12 refine⟨id,?_⟩
 conv=>whnf
 apply ifc h<;>intro a h
 ·obtain rfl:=sj h
  conv=>whnf
  try exact Sk
 conv=>whnf
 apply ifc h<;>intro a h
 ·obtain rfl:=sj h
  conv=>whnf
  try exact Sk
 conv=>whnf
 refine bq h fun _ d h=>⟨_,(pr n _ _ _ d),?_⟩;conv=>whnf
 iterate 12 refine⟨id,?_⟩
 conv=>whnf
 apply ifc h<;>intro a h
 ·obtain rfl:=sj h
  conv=>whnf
  try exact Sk
 obtain rfl:=sj h;conv=>whnf
 try exact Sk
abbrev Bl (r:Int):PV:=PV.int .i64 r
def nG (n:Nat) (a:Int):Option (Int):=
 bnd (gJ n a) fun b=>
 bif b then(
 some (kwr .i64 (kwr .u8 (a - 48))))
 else(
 bif(bif(decide (a≥97))then(decide (a<=102))else false)then(
 some (kwr .i64 ((kwr .i64 (kwr .u8 (a - 97)))+10)))
 else(
 bif(bif(decide (a≥65))then(decide (a<=70))else false)then(
 some (kwr .i64 ((kwr .i64 (kwr .u8 (a - 65)))+10)))
 else(
 some (-1:Int))))
theorem bZ (n:Nat):∀ (a r:Int),nG n a=some r->qi TP 160 [PV.int .u8 a] (Bl r):=by
 intro a r h;unfold nG at h;refine zN Tryz.call160 Tryz.func160 [1000000] ?_;conv=>whnf
 refine bq h fun _ c h=>⟨_,(gi n _ _ c),?_⟩;conv=>whnf
 apply ifc h<;>intro b h
 ·obtain rfl:=sj h
  conv=>whnf
  try exact Sk
 conv=>whnf
 refine⟨id,id,?_⟩;conv=>whnf
 apply ifc h<;>intro b h
 ·obtain rfl:=sj h
  conv=>whnf
  try exact Sk
 conv=>whnf
 refine⟨id,id,?_⟩;conv=>whnf
 apply ifc h<;>intro b h
 ·obtain rfl:=sj h
  conv=>whnf
  try exact Sk
 obtain rfl:=sj h;conv=>whnf
 try exact Sk
abbrev Uf (r:SS×Int×Bool):PV:=PV.tup [PV.str r.1,PV.int .i64 r.2.1,PV.bool r.2.2]
def fk (n:Nat) (b:SS) (d:UInt8) (e:SS×Int->Option (SS×Int×Bool)) (a:Int) (c:SS):Bool->Option (SS×Int×Bool):=fun i=>
 bif i then(
 chk (decide ((zu (b++[d])).length * 1<=140737488355328)) (
 e ((b++[d]),(kwr .i64 (a+2)))))
 else(
 bif(((d.toNat:Nat):Int)==110)then(
 chk (decide ((zu (b++[(10:UInt8)])).length * 1<=140737488355328)) (
 e ((b++[(10:UInt8)]),(kwr .i64 (a+2)))))
 else(
 bif(((d.toNat:Nat):Int)==116)then(
 chk (decide ((zu (b++[(9:UInt8)])).length * 1<=140737488355328)) (
 e ((b++[(9:UInt8)]),(kwr .i64 (a+2)))))
 else(
 bif(((d.toNat:Nat):Int)==114)then(
 chk (decide ((zu (b++[(13:UInt8)])).length * 1<=140737488355328)) (
 e ((b++[(13:UInt8)]),(kwr .i64 (a+2)))))
 else(
 bif(((d.toNat:Nat):Int)==120)then(
 bnd (qG (!(decide ((kwr .i64 ((kwr .i64 (a+2))+1))≥((c.length:Nat):Int)))) (idx c (kwr .i64 (a+2)))) fun j=>
 bnd (qG (!(decide ((kwr .i64 ((kwr .i64 (a+2))+1))≥((c.length:Nat):Int)))) (nG n ((j.toNat:Nat):Int))) fun f=>
 bnd (qG (!(bif(decide ((kwr .i64 ((kwr .i64 (a+2))+1))≥((c.length:Nat):Int)))then true else(decide (f<0)))) (idx c (kwr .i64 ((kwr .i64 (a+2))+1)))) fun k=>
 bnd (qG (!(bif(decide ((kwr .i64 ((kwr .i64 (a+2))+1))≥((c.length:Nat):Int)))then true else(decide (f<0)))) (nG n ((k.toNat:Nat):Int))) fun l=>
 bif(bif(bif(decide ((kwr .i64 ((kwr .i64 (a+2))+1))≥((c.length:Nat):Int)))then true else(decide (f<0)))then true else(decide (l<0)))then(
 some (([]:SS),(0:Int),false))
 else(
 bnd (idx c (kwr .i64 (a+2))) fun m=>
 bnd (nG n ((m.toNat:Nat):Int)) fun o=>
 bnd (idx c (kwr .i64 ((kwr .i64 (a+2))+1))) fun p=>
 bnd (nG n ((p.toNat:Nat):Int)) fun q=>
 bnd (SI (kwr .u8 (kwr .i64 ((kwr .i64 (o * (16:Int)))+q)))) fun g=>
 chk (decide ((zu (b++[g])).length * 1<=140737488355328)) (
 e ((b++[g]),(kwr .i64 ((kwr .i64 (a+2))+2))))))
 else(
 some (([]:SS),(0:Int),false))))))
def bo (n:Nat) (b:SS):LK (SS×Int) (SS×Int×Bool):=fun g (d,a)=>
 bif(decide (a<((b.length:Nat):Int)))then(
 bnd (idx b a) fun e=>
 bnd (Qv n b a) fun i=>
 bif(((e.toNat:Nat):Int)==39)then(
 some (d,(kwr .i64 (a+1)),true))
 else(
 bif(bif(bif(i==0)then true else(decide (((e.toNat:Nat):Int)<32)))then true else(((e.toNat:Nat):Int)==127))then(
 some (([]:SS),(0:Int),false))
 else(
 bif(((e.toNat:Nat):Int) != 92)then(
 bnd (Xe (kwr .i64 (a+i))) fun f=>
 bnd (Xe a) fun j=>
 chk (decide (j<=f/\f<=b.length)) (
 chk (decide ((zu (d++((b.take f).drop j))).length * 1<=140737488355328)) (
 g ((d++((b.take f).drop j)),(kwr .i64 (a+i))))))
 else(
 bif(decide ((kwr .i64 (a+1))≥((b.length:Nat):Int)))then(
 some (([]:SS),(0:Int),false))
 else(
 bnd (idx b (kwr .i64 (a+1))) fun c=>
 bif(((c.toNat:Nat):Int)==92)then(
 fk n d c g a b (((c.toNat:Nat):Int)==92))
 else(
 fk n d c g a b (((c.toNat:Nat):Int)==39)))))))
 else(
 some (([]:SS),(0:Int),false))
def rY (n:Nat) (a:SS) (b:Int):Option (SS×Int×Bool):=
 bnd (qG (!(decide (b≥((a.length:Nat):Int)))) (idx a b)) fun c=>
 bif(bif(decide (b≥((a.length:Nat):Int)))then true else(((c.toNat:Nat):Int) != 39))then(
 some (([]:SS),(0:Int),false))
 else(
 qU (bo n a) n (([]:List _),(kwr .i64 (b+1))))
theorem Xw (n:Nat):∀ (b:SS) (l:Int) (r:SS×Int×Bool),rY n b l=some r->qi TP 118 [PV.str b,PV.int .i64 l] (Uf r):=by
 intro b l r h;unfold rY at h;refine zN Tryz.call118 Tryz.func118 [1000000] ?_;conv=>whnf
 refine⟨id,id,?_⟩;conv=>whnf
 refine bq h fun _ I h=>⟨_,fun f=>zq (qa I f),?_⟩;conv=>whnf
 refine⟨id,id,?_⟩;conv=>whnf
 apply ifc h<;>intro c h
 ·obtain rfl:=sj h
  conv=>whnf
  try exact Sk
 conv=>whnf
 refine zd.fn [1000000] (S:=SS×Int) (fun(a,e)=>[(0,pS b),(7,.tsl 0 (zu a)),(8,pI e)]) (fun(a,e)=>[.tail 5 1 (zu a).length]) (B:=bo n b) h (wk [0] [0]) ?_;intro M st h;obtain⟨a,e⟩:=st;unfold bo at h;conv=>whnf
 apply ifc h<;>intro c h
 ·conv=>whnf
  refine bq h fun _ H h=>⟨_,zq H,?_⟩;conv=>whnf
  refine bq h fun P G h=>⟨_,(Gj n _ _ _ G),?_⟩;conv=>whnf
  apply ifc h<;>intro c h
  ·conv=>whnf
   refine⟨_,rfl,?_⟩;obtain rfl:=sj h;conv=>whnf
   try exact Sk
  conv=>whnf
  refine⟨id,id,id,id,?_⟩;conv=>whnf
  apply ifc h<;>intro c h
  ·obtain rfl:=sj h
   conv=>whnf
   try exact Sk
  conv=>whnf
  apply ifc h<;>intro c h
  ·conv=>whnf
   refine bq h fun g K h=>⟨_,zX K,?_⟩;conv=>whnf
   refine bq h fun j J h=>⟨_,zX J,?_⟩;conv=>whnf
   obtain⟨q,h⟩:=qL h;refine⟨⟨(kod q:(j<=g/\g<=b.length)).1,(kod q:(j<=g/\g<=b.length)).2⟩,?_⟩;conv=>whnf
   rw[show zu a++zu ((b.take g).drop j)=zu (a++((b.take g).drop j))from Codec.append nO a ((b.take g).drop j)];conv=>whnf
   obtain⟨m,h⟩:=qL h;refine⟨⟨Codec.wide nO a,kod m,xK m (by decide)⟩,?_⟩;conv=>whnf
   refine⟨⟨rfl,rfl,rfl⟩,?_⟩;conv=>whnf
   exact⟨((a++((b.take g).drop j)),(kwr .i64 (e+P))),h,wk [1] []⟩
  conv=>whnf
  apply ifc h<;>intro c h
  ·obtain rfl:=sj h
   conv=>whnf
   try exact Sk
  conv=>whnf
  refine bq h fun d F h=>⟨_,zq F,?_⟩;conv=>whnf
  refine nu.cut (S:=Bool) (fun k=>[(0,pS b),(7,.tsl 0 (zu a)),(8,.p (.int .i64 (kwr .i64 (e+2)))),(11,.p (.int .u8 ((d.toNat:Nat):Int))),(74,.p (.int .u8 ((d.toNat:Nat):Int))),(75,pB k)]) (fun k=>[.tail 5 1 (zu a).length]) (fk n a d M e b) (r:=r) ?_ ?_
  ·intro k h
   unfold fk at h;conv=>whnf
   apply ifc h<;>intro c h
   ·conv=>whnf
    refine⟨Codec.one nO [d],zu [d],.inl rfl,?_⟩;(conv=>whnf);rw[show zu a++zu [d]=zu (a++[d])from Codec.append nO a [d]];(conv=>whnf);obtain⟨s,h⟩:=qL h;refine⟨⟨Codec.wide nO (a++[d]),kod s,xK s (by decide)⟩,?_⟩;(conv=>whnf);refine⟨⟨rfl,rfl,rfl⟩,?_⟩;(conv=>whnf);exact⟨((a++[d]),(kwr .i64 (e+2))),h,wk [1] []⟩
   conv=>whnf
   apply ifc h<;>intro c h
   ·conv=>whnf
    refine⟨Codec.one nO [(10:UInt8)],zu [(10:UInt8)],.inl rfl,?_⟩;(conv=>whnf);rw[show zu a++zu [(10:UInt8)]=zu (a++[(10:UInt8)])from Codec.append nO a [(10:UInt8)]];(conv=>whnf);obtain⟨t,h⟩:=qL h;refine⟨⟨Codec.wide nO (a++[(10:UInt8)]),kod t,xK t (by decide)⟩,?_⟩;(conv=>whnf);refine⟨⟨rfl,rfl,rfl⟩,?_⟩;(conv=>whnf);exact⟨((a++[(10:UInt8)]),(kwr .i64 (e+2))),h,wk [1] []⟩
   conv=>whnf
   apply ifc h<;>intro c h
   ·conv=>whnf
    refine⟨Codec.one nO [(9:UInt8)],zu [(9:UInt8)],.inl rfl,?_⟩;(conv=>whnf);rw[show zu a++zu [(9:UInt8)]=zu (a++[(9:UInt8)])from Codec.append nO a [(9:UInt8)]];(conv=>whnf);obtain⟨u,h⟩:=qL h;refine⟨⟨Codec.wide nO (a++[(9:UInt8)]),kod u,xK u (by decide)⟩,?_⟩;(conv=>whnf);refine⟨⟨rfl,rfl,rfl⟩,?_⟩;(conv=>whnf);exact⟨((a++[(9:UInt8)]),(kwr .i64 (e+2))),h,wk [1] []⟩
   conv=>whnf
   apply ifc h<;>intro c h
   ·conv=>whnf
    refine⟨Codec.one nO [(13:UInt8)],zu [(13:UInt8)],.inl rfl,?_⟩;(conv=>whnf);rw[show zu a++zu [(13:UInt8)]=zu (a++[(13:UInt8)])from Codec.append nO a [(13:UInt8)]];(conv=>whnf);obtain⟨v,h⟩:=qL h;refine⟨⟨Codec.wide nO (a++[(13:UInt8)]),kod v,xK v (by decide)⟩,?_⟩;(conv=>whnf);refine⟨⟨rfl,rfl,rfl⟩,?_⟩;(conv=>whnf);exact⟨((a++[(13:UInt8)]),(kwr .i64 (e+2))),h,wk [1] []⟩
   conv=>whnf
   apply ifc h<;>intro c h
   ·conv=>whnf
    refine⟨id,id,?_⟩;(conv=>whnf);refine bq h fun _ E h=>⟨_,fun f=>zq (qa E f),?_⟩;(conv=>whnf);refine⟨id,?_⟩;(conv=>whnf);refine bq h fun _ D h=>⟨_,fun f=>(bZ n _ _ (qa D f)),?_⟩;(conv=>whnf);refine⟨id,id,id,id,id,?_⟩;(conv=>whnf);refine bq h fun _ C h=>⟨_,fun f=>zq (qa C f),?_⟩;(conv=>whnf);refine⟨id,?_⟩;(conv=>whnf);refine bq h fun _ A h=>⟨_,fun f=>(bZ n _ _ (qa A f)),?_⟩;(conv=>whnf);refine⟨id,id,?_⟩;(conv=>whnf);apply ifc h<;>intro c h
    ·obtain rfl:=sj h
     conv=>whnf
     try exact Sk
    (conv=>whnf);refine bq h fun _ z h=>?_
    refine⟨_,zq z,?_⟩;(conv=>whnf);refine bq h fun N y h=>⟨_,(bZ n _ _ y),?_⟩;(conv=>whnf);refine bq h fun _ x h=>⟨_,zq x,?_⟩;(conv=>whnf);refine bq h fun O w h=>⟨_,(bZ n _ _ w),?_⟩;(conv=>whnf);refine bq h fun i L h=>?_;rw[show([[PV.int .u8 (kwr .u8 (kwr .i64 ((kwr .i64 (N * (16:Int)))+O)))]]:List (List PV))=zu [i]from by rw[Ef L]; rfl];refine⟨Codec.one nO [i],_,.inl rfl,?_⟩;(conv=>whnf);rw[show zu a++zu [i]=zu (a++[i])from Codec.append nO a [i]];(conv=>whnf);obtain⟨o,h⟩:=qL h;refine⟨⟨Codec.wide nO (a++[i]),kod o,xK o (by decide)⟩,?_⟩;(conv=>whnf);refine⟨⟨rfl,rfl,rfl⟩,?_⟩;(conv=>whnf);exact⟨((a++[i]),(kwr .i64 ((kwr .i64 (e+2))+2))),h,wk [1] []⟩
   obtain rfl:=sj h;conv=>whnf
   try exact Sk
  conv=>whnf
  apply ifc h<;>intro c h
  ·conv=>whnf
   exact⟨(((d.toNat:Nat):Int)==92),h,wk [0] []⟩
  conv=>whnf
  exact⟨(((d.toNat:Nat):Int)==39),h,wk [0] []⟩
 obtain rfl:=sj h;conv=>whnf
 try exact Sk
end W
end
section
set_option maxRecDepth 100000
set_option maxHeartbeats 20000000
open Go Go.Proofs Ax
namespace W
abbrev FR (r:SS):PV:=PV.str r
def py (n:Nat) (c:SS) (d e:Nat):(Int->Option SS)->Int->Option SS:=fun g a=>
 bif(decide (a<((([40,41,91,93,123,125,44,58,46,43,45,42,47,37,61,60,62,36]:SS).length:Nat):Int)))then(
 bnd (Xe (kwr .i64 (a+1))) fun b=>
 bnd (Xe a) fun f=>
 chk (decide (f<=b/\b<=([40,41,91,93,123,125,44,58,46,43,45,42,47,37,61,60,62,36]:SS).length)) (
 bif(((([40,41,91,93,123,125,44,58,46,43,45,42,47,37,61,60,62,36]:SS).take b).drop f)==((c.take d).drop e))then(
 some ((c.take d).drop e))
 else(
 g (kwr .i64 (a+1)))))
 else(
 some ([]:SS))
def dH (n:Nat) (d:Int) (c:SS):SS->Option SS:=fun a=>
 bif(bif(bif(a==([60,61]:SS))then true else(a==([62,61]:SS)))then true else(a==([60,62]:SS)))then(
 some a)
 else(
 bnd (Xe (kwr .i64 (d+1))) fun b=>
 bnd (Xe d) fun e=>
 chk (decide (e<=b/\b<=c.length)) (
 qU (py n c b e) n (0:Int)))
def Qx (n:Nat) (a:SS) (b:Int):Option SS:=
 bif(decide ((kwr .i64 (b+1))<((a.length:Nat):Int)))then(
 bnd (Xe (kwr .i64 (b+2))) fun c=>
 bnd (Xe b) fun d=>
 chk (decide (d<=c/\c<=a.length)) (
 dH n b a ((a.take c).drop d)))
 else(
 dH n b a ([]:SS))
theorem Gl (n:Nat):∀ (a:SS) (c:Int) (r:SS),Qx n a c=some r->qi TP 119 [PV.str a,PV.int .i64 c] (FR r):=by
 intro a c r h;unfold Qx at h;refine zN Tryz.call119 Tryz.func119 [1000000] ?_;conv=>whnf
 refine nu.cut (S:=SS) (fun k=>[(0,pS a),(1,pI c),(5,pS k)]) (fun k=>[]) (dH n c a) (r:=r) ?_ ?_
 ·intro k h
  unfold dH at h;conv=>whnf
  refine⟨id,id,id,id,?_⟩;conv=>whnf
  apply ifc h<;>intro i h
  ·obtain rfl:=sj h
   conv=>whnf
   try exact Sk
  conv=>whnf
  refine bq h fun b v h=>⟨_,zX v,?_⟩;conv=>whnf
  refine bq h fun e u h=>⟨_,zX u,?_⟩;conv=>whnf
  obtain⟨m,h⟩:=qL h;refine⟨⟨(kod m:(e<=b/\b<=a.length)).1,(kod m:(e<=b/\b<=a.length)).2⟩,?_⟩;conv=>whnf
  refine zd.fn [1000000] (S:=Int) (fun f=>[(6,.p (.str ((a.take b).drop e))),(7,.p (.str ([40,41,91,93,123,125,44,58,46,43,45,42,47,37,61,60,62,36]:SS))),(8,pI f)]) (fun f=>[]) (B:=py n a b e) h (wk [] []) ?_;intro _ f h;unfold py at h;conv=>whnf
  apply ifc h<;>intro i h
  ·conv=>whnf
   refine bq h fun g t h=>⟨_,zX t,?_⟩;conv=>whnf
   refine bq h fun q s h=>⟨_,zX s,?_⟩;conv=>whnf
   obtain⟨l,h⟩:=qL h;refine⟨⟨(kod l:(q<=g/\g<=([40,41,91,93,123,125,44,58,46,43,45,42,47,37,61,60,62,36]:SS).length)).1,(kod l:(q<=g/\g<=([40,41,91,93,123,125,44,58,46,43,45,42,47,37,61,60,62,36]:SS).length)).2⟩,?_⟩;conv=>whnf
   apply ifc h<;>intro i h
   ·obtain rfl:=sj h
    conv=>whnf
    try exact Sk
   conv=>whnf
   exact⟨(kwr .i64 (f+1)),h,wk [] []⟩
  obtain rfl:=sj h;conv=>whnf
  try exact Sk
 conv=>whnf
 apply ifc h<;>intro i h
 ·conv=>whnf
  refine bq h fun d x h=>⟨_,zX x,?_⟩;conv=>whnf
  refine bq h fun j w h=>⟨_,zX w,?_⟩;conv=>whnf
  obtain⟨o,h⟩:=qL h;refine⟨⟨(kod o:(j<=d/\d<=a.length)).1,(kod o:(j<=d/\d<=a.length)).2⟩,?_⟩;conv=>whnf
  exact⟨((a.take d).drop j),h,wk [] []⟩
 conv=>whnf
 exact⟨([]:SS),h,wk [] []⟩
abbrev Bm (r:qk×Int×Int):PV:=PV.tup [PV.agg (dj.cells r.1),PV.int .i64 r.2.1,PV.int .i64 r.2.2]
def uu (n:Nat) (a:Int):Int×Int×SS×Int->Option (qk×Int×Int):=fun(b,c,d,e)=>
 some (qk.mk c d e a,b,(0:Int))
def rZ (n:Nat) (b:SS) (c:Int):LK (Int) (qk×Int×Int):=fun j a=>
 bnd (qG (decide (a<((b.length:Nat):Int))) (idx b a)) fun k=>
 bnd (qG (decide (a<((b.length:Nat):Int))) (gU n ((k.toNat:Nat):Int))) fun d=>
 bnd (qG ((decide (a<((b.length:Nat):Int)))&&(!d)) (idx b a)) fun l=>
 bnd (qG ((decide (a<((b.length:Nat):Int)))&&(!d)) (gJ n ((l.toNat:Nat):Int))) fun m=>
 bif(bif(decide (a<((b.length:Nat):Int)))then(bif d then true else m)else false)then(
 j (kwr .i64 (a+1)))
 else(
 bif(decide ((kwr .i64 (a - c))>64))then(
 some (qk.mk (0:Int) ([]:SS) (0:Int) c,(0:Int),(1:Int)))
 else(
 bnd (Xe a) fun e=>
 bnd (Xe c) fun g=>
 chk (decide (g<=e/\e<=b.length)) (
 bnd (sI n ((b.take e).drop g)) fun⟨o,p⟩=>
 bnd (Xe a) fun f=>
 bnd (Xe c) fun i=>
 chk (decide (i<=f/\f<=b.length)) (
 bif p then(
 uu n c (a,(2:Int),o,(0:Int)))
 else(
 uu n c (a,(1:Int),((b.take f).drop i),(0:Int)))))))
def sa (n:Nat) (b:SS) (c:Int):LK (Int) (qk×Int×Int):=fun g a=>
 bnd (qG (decide (a<((b.length:Nat):Int))) (idx b a)) fun i=>
 bnd (qG (decide (a<((b.length:Nat):Int))) (gJ n ((i.toNat:Nat):Int))) fun j=>
 bif(bif(decide (a<((b.length:Nat):Int)))then j else false)then(
 g (kwr .i64 (a+1)))
 else(
 bnd (Xe a) fun d=>
 bnd (Xe c) fun e=>
 chk (decide (e<=d/\d<=b.length)) (
 bnd (tj n ((b.take d).drop e)) fun⟨k,f⟩=>
 bif(f != 0)then(
 some (qk.mk (0:Int) ([]:SS) (0:Int) c,(0:Int),f))
 else(
 uu n c (a,(3:Int),([]:SS),k))))
def Xx (n:Nat) (b:SS) (a:Int):Option (qk×Int×Int):=
 bnd (idx b a) fun d=>
 bnd (gU n ((d.toNat:Nat):Int)) fun j=>
 bif j then(
 qU (rZ n b a) n (kwr .i64 (a+1)))
 else(
 bnd (gJ n ((d.toNat:Nat):Int)) fun e=>
 bif e then(
 qU (sa n b a) n (kwr .i64 (a+1)))
 else(
 bif(((d.toNat:Nat):Int)==39)then(
 bnd (rY n b a) fun⟨f,g,i⟩=>
 bif(!i)then(
 some (qk.mk (0:Int) ([]:SS) (0:Int) a,(0:Int),(1:Int)))
 else(
 uu n a (g,(4:Int),f,(0:Int))))
 else(
 bnd (Qx n b a) fun c=>
 bif(c==([]:SS))then(
 some (qk.mk (5:Int) c (0:Int) a,(0:Int),(1:Int)))
 else(
 uu n a ((kwr .i64 (a+((c.length:Nat):Int))),(5:Int),c,(0:Int))))))
theorem FE (n:Nat):∀ (a:SS) (b:Int) (r:qk×Int×Int),Xx n a b=some r->qi TP 76 [PV.str a,PV.int .i64 b] (Bm r):=by
 intro a b r h;unfold Xx at h;refine zN Tryz.call76 Tryz.func76 [1000000] ?_;conv=>whnf
 refine bq h fun _ K h=>⟨_,zq K,?_⟩;conv=>whnf
 refine nu.cut (S:=Int×Int×SS×Int) (fun(l,m,o,p)=>[(4,.ptr 0 0),(7,.ptr 1 0),(9,pI l)]) (fun(l,m,o,p)=>[.box 137 [SR,SU,SR,SR],.box 137 [pI m,pS o,pI p,pI b]]) (uu n b) (r:=r) ?_ ?_
 ·intro st h
  obtain⟨l,m,o,p⟩:=st;unfold uu at h;obtain rfl:=sj h;conv=>whnf
  try exact Sk
 conv=>whnf
 refine bq h fun _ J h=>⟨_,(fi n _ _ J),?_⟩;conv=>whnf
 apply ifc h<;>intro d h
 ·conv=>whnf
  refine zd.fn [1000000] (S:=Int) (fun e=>[(0,pS a),(1,pI b),(4,.ptr 0 0),(7,.ptr 1 0),(9,pI e)]) (fun e=>[.box 137 [SR,SU,SR,SR],.box 137 [SR,SU,SR,pI b]]) (B:=rZ n a b) h (wk [0,1] []) ?_;intro _ e h;unfold rZ at h;conv=>whnf
  refine⟨id,id,?_⟩;conv=>whnf
  refine bq h fun _ y h=>⟨_,fun c=>zq (qa y c),?_⟩;conv=>whnf
  refine⟨id,?_⟩;conv=>whnf
  refine bq h fun _ x h=>⟨_,fun c=>(fi n _ _ (qa x c)),?_⟩;conv=>whnf
  refine⟨id,id,id,?_⟩;conv=>whnf
  refine bq h fun _ Q h=>⟨_,fun c=>zq (qa Q c),?_⟩;conv=>whnf
  refine⟨id,?_⟩;conv=>whnf
  refine bq h fun _ P h=>⟨_,fun c=>(gi n _ _ (qa P c)),?_⟩;conv=>whnf
  refine⟨id,id,id,?_⟩;conv=>whnf
  apply ifc h<;>intro d h
  ·conv=>whnf
   exact⟨(kwr .i64 (e+1)),h,wk [0,1] []⟩
  conv=>whnf
  apply ifc h<;>intro d h
  ·obtain rfl:=sj h
   conv=>whnf
   try exact Sk
  conv=>whnf
  refine bq h fun i O h=>⟨_,zX O,?_⟩;conv=>whnf
  refine bq h fun u N h=>⟨_,zX N,?_⟩;conv=>whnf
  obtain⟨t,h⟩:=qL h;refine⟨⟨(kod t:(u<=i/\i<=a.length)).1,(kod t:(u<=i/\i<=a.length)).2⟩,?_⟩;conv=>whnf
  refine bq h fun⟨R,_⟩ M h=>⟨_,(tM n _ _ M),?_⟩;conv=>whnf
  refine bq h fun f L h=>⟨_,zX L,?_⟩;conv=>whnf
  refine bq h fun k H h=>⟨_,zX H,?_⟩;conv=>whnf
  obtain⟨q,h⟩:=qL h;refine⟨⟨(kod q:(k<=f/\f<=a.length)).1,(kod q:(k<=f/\f<=a.length)).2⟩,?_⟩;conv=>whnf
  apply ifc h<;>intro d h
  ·conv=>whnf
   exact⟨(e,(2:Int),R,(0:Int)),h,wk [0,1] []⟩
  conv=>whnf
  exact⟨(e,(1:Int),((a.take f).drop k),(0:Int)),h,wk [0,1] []⟩
 conv=>whnf
 refine bq h fun _ I h=>⟨_,(gi n _ _ I),?_⟩;conv=>whnf
 apply ifc h<;>intro d h
 ·conv=>whnf
  refine zd.fn [1000000] (S:=Int) (fun g=>[(0,pS a),(1,pI b),(4,.ptr 0 0),(7,.ptr 1 0),(9,pI g)]) (fun g=>[.box 137 [SR,SU,SR,SR],.box 137 [SR,SU,SR,pI b]]) (B:=sa n a b) h (wk [0,1] []) ?_;intro _ g h;unfold sa at h;conv=>whnf
  refine⟨id,id,?_⟩;conv=>whnf
  refine bq h fun _ E h=>⟨_,fun c=>zq (qa E c),?_⟩;conv=>whnf
  refine⟨id,?_⟩;conv=>whnf
  refine bq h fun _ D h=>⟨_,fun c=>(gi n _ _ (qa D c)),?_⟩;conv=>whnf
  refine⟨id,?_⟩;conv=>whnf
  apply ifc h<;>intro d h
  ·conv=>whnf
   exact⟨(kwr .i64 (g+1)),h,wk [0,1] []⟩
  conv=>whnf
  refine bq h fun j C h=>⟨_,zX C,?_⟩;conv=>whnf
  refine bq h fun v A h=>⟨_,zX A,?_⟩;conv=>whnf
  obtain⟨s,h⟩:=qL h;refine⟨⟨(kod s:(v<=j/\j<=a.length)).1,(kod s:(v<=j/\j<=a.length)).2⟩,?_⟩;conv=>whnf
  refine bq h fun⟨T,_⟩ z h=>⟨_,(VJ n _ _ z),?_⟩;conv=>whnf
  apply ifc h<;>intro d h
  ·obtain rfl:=sj h
   conv=>whnf
   try exact Sk
  conv=>whnf
  exact⟨(g,(3:Int),([]:SS),T),h,wk [0,1] []⟩
 conv=>whnf
 apply ifc h<;>intro d h
 ·conv=>whnf
  refine bq h fun⟨U,V,_⟩ F h=>⟨_,(Xw n _ _ _ F),?_⟩;conv=>whnf
  apply ifc h<;>intro d h
  ·obtain rfl:=sj h
   conv=>whnf
   try exact Sk
  conv=>whnf
  exact⟨(V,(4:Int),U,(0:Int)),h,wk [0,1] []⟩
 conv=>whnf
 refine bq h fun w G h=>⟨_,(Gl n _ _ _ G),?_⟩;conv=>whnf
 apply ifc h<;>intro d h
 ·obtain rfl:=sj h
  conv=>whnf
  try exact Sk
 conv=>whnf
 exact⟨((kwr .i64 (b+((w.length:Nat):Int))),(5:Int),w,(0:Int)),h,wk [0,1] []⟩
abbrev FP (r:List qk×Int×Int):PV:=PV.tup [PV.sl (qk.rows r.1),PV.int .i64 r.2.1,PV.int .i64 r.2.2]
def dG (n:Nat) (b:List qk) (g:Int) (f:List qk×Int->Option (List qk×Int×Int)):Int×Int×SS×Int×Int->Option (List qk×Int×Int):=fun(i,a,c,d,e)=>
 bif(decide (((qk.rows b).length:Int)≥4096))then(
 some (([]:List qk),g,(8:Int)))
 else(
 chk (decide ((qk.rows (b++[qk.mk a c d e])).length * 40<=140737488355328)) (
 bif(a==6)then(
 some ((b++[qk.mk a c d e]),(0:Int),(0:Int)))
 else(
 f ((b++[qk.mk a c d e]),i))))
def pw (n:Nat) (b:SS) (g:List qk) (e:List qk×Int->Option (List qk×Int×Int)):LK (Int) (List qk×Int×Int):=fun j a=>
 bnd (qG (decide (a<((b.length:Nat):Int))) (idx b a)) fun c=>
 bnd (qG ((decide (a<((b.length:Nat):Int)))&&(!(((c.toNat:Nat):Int)==32))) (idx b a)) fun d=>
 bnd (qG ((decide (a<((b.length:Nat):Int)))&&(!(bif(((c.toNat:Nat):Int)==32)then true else(((d.toNat:Nat):Int)==9)))) (idx b a)) fun i=>
 bnd (qG ((decide (a<((b.length:Nat):Int)))&&(!(bif(bif(((c.toNat:Nat):Int)==32)then true else(((d.toNat:Nat):Int)==9))then true else(((i.toNat:Nat):Int)==10)))) (idx b a)) fun q=>
 bif(bif(decide (a<((b.length:Nat):Int)))then(bif(bif(bif(((c.toNat:Nat):Int)==32)then true else(((d.toNat:Nat):Int)==9))then true else(((i.toNat:Nat):Int)==10))then true else(((q.toNat:Nat):Int)==13))else false)then(
 j (kwr .i64 (a+1)))
 else(
 bif(decide (a<((b.length:Nat):Int)))then(
 bnd (Xx n b a) fun⟨⟨k,l,m,o⟩,p,f⟩=>
 bif(f != 0)then(
 some (([]:List qk),a,f))
 else(
 dG n g a e (p,k,l,m,o)))
 else(
 dG n g a e (a,(6:Int),([]:SS),(0:Int),a)))
def pt (n:Nat) (b:SS):LK (List qk×Int) (List qk×Int×Int):=fun a (c,d)=>
 qU (pw n b c a) n d
def Qw (n:Nat) (a:SS):Option (List qk×Int×Int):=
 bif(decide (((a.length:Nat):Int)>16384))then(
 some (([]:List qk),(0:Int),(8:Int)))
 else(
 qU (pt n a) n (([]:List _),(0:Int)))
theorem Gk (n:Nat):∀ (f:SS) (r:List qk×Int×Int),Qw n f=some r->qi TP 55 [PV.str f] (FP r):=by
 intro f r h;unfold Qw at h;refine zN Tryz.call55 Tryz.func55 [1000000] ?_;conv=>whnf
 apply ifc h<;>intro j h
 ·obtain rfl:=sj h
  conv=>whnf
  try exact Sk
 conv=>whnf
 refine zd.fn [1000000] (S:=List qk×Int) (fun(a,l)=>[(0,pS f),(5,.tsl 0 (qk.rows a)),(6,pI l)]) (fun(a,l)=>[.tail 137 4 (qk.rows a).length]) (B:=pt n f) h (wk [0] [0]) ?_;intro o st h;obtain⟨a,l⟩:=st;unfold pt at h;conv=>whnf
 refine zd.fn [1000000] (S:=Int) (fun g=>[(0,pS f),(5,.tsl 0 (qk.rows a)),(6,pI g)]) (fun g=>[.tail 137 4 (qk.rows a).length]) (B:=pw n f a o) h (wk [0] []) ?_;intro _ g h;unfold pw at h;conv=>whnf
 refine⟨id,id,?_⟩;conv=>whnf
 refine bq h fun _ u h=>⟨_,fun i=>zq (qa u i),?_⟩;conv=>whnf
 refine⟨id,id,id,id,?_⟩;conv=>whnf
 refine bq h fun _ t h=>⟨_,fun i=>zq (qa t i),?_⟩;conv=>whnf
 iterate 6 refine⟨id,?_⟩
 conv=>whnf
 refine bq h fun _ s h=>⟨_,fun i=>zq (qa s i),?_⟩;conv=>whnf
 iterate 6 refine⟨id,?_⟩
 conv=>whnf
 refine bq h fun _ q h=>⟨_,fun i=>zq (qa q i),?_⟩;conv=>whnf
 refine⟨id,id,id,id,?_⟩;conv=>whnf
 apply ifc h<;>intro j h
 ·conv=>whnf
  exact⟨(kwr .i64 (g+1)),h,wk [0] []⟩
 conv=>whnf
 refine nu.cut (S:=Int×Int×SS×Int×Int) (fun(k,b,c,d,e)=>[(0,pS f),(5,.tsl 0 (qk.rows a)),(6,pI g),(7,.ptr 1 0),(8,pI k)]) (fun(k,b,c,d,e)=>[.tail 137 4 (qk.rows a).length,.box 137 [pI b,pS c,pI d,pI e]]) (dG n a g o) (r:=r) ?_ ?_
 ·intro st h
  obtain⟨k,b,c,d,e⟩:=st;unfold dG at h;conv=>whnf
  apply ifc h<;>intro j h
  ·obtain rfl:=sj h
   conv=>whnf
   try exact Sk
  conv=>whnf
  refine⟨Codec.one dj [qk.mk b c d e],qk.rows [qk.mk b c d e],.inl rfl,?_⟩;conv=>whnf
  rw[show qk.rows a++qk.rows [qk.mk b c d e]=qk.rows (a++[qk.mk b c d e])from Codec.append dj a [qk.mk b c d e]];conv=>whnf
  obtain⟨m,h⟩:=qL h;refine⟨⟨Codec.wide dj (a++[qk.mk b c d e]),kod m,xK m (by decide)⟩,?_⟩;conv=>whnf
  refine⟨⟨rfl,rfl,rfl⟩,?_⟩;conv=>whnf
  apply ifc h<;>intro j h
  ·obtain rfl:=sj h
   conv=>whnf
   try exact Sk
  conv=>whnf
  exact⟨((a++[qk.mk b c d e]),k),h,wk [2] []⟩
 conv=>whnf
 apply ifc h<;>intro j h
 ·conv=>whnf
  refine bq h fun⟨⟨v,w,x,y⟩,z,_⟩ p h=>⟨_,(FE n _ _ _ p),?_⟩;conv=>whnf
  apply ifc h<;>intro j h
  ·obtain rfl:=sj h
   conv=>whnf
   try exact Sk
  conv=>whnf
  exact⟨(z,v,w,x,y),h,wk [0,1] []⟩
 conv=>whnf
 exact⟨(g,(6:Int),([]:SS),(0:Int),g),h,wk [0,1] []⟩
abbrev Ug (r:Bool):PV:=PV.bool r
def ma (n:Nat) (a:Int):Option (Bool):=
 some (bif(bif(bif(bif(a==4)then true else(a==5))then true else(a==6))then true else(a==7))then true else(a==8))
theorem sd (n:Nat):∀ (a:Int) (r:Bool),ma n a=some r->qi TP 56 [PV.int .i64 a] (Ug r):=by
 intro a r h;unfold ma at h;refine zN Tryz.call56 Tryz.func56 [1000000] ?_;conv=>whnf
 iterate 8 refine⟨id,?_⟩
 obtain rfl:=sj h;conv=>whnf
 try exact Sk
abbrev FW (_:List qk) (_:Int) (_ r:Bool):FV:=pB r
abbrev FJ (a:List qk) (b:Int) (c r:Bool):List AObj:=[.box 135 [pK a,pI b,pB c]]
def zE (n:Nat) (b:SS) (c:List qk) (d:Int) (e:Bool):Option (Bool):=
 bnd (idx c d) fun⟨a,f,_,_⟩=>
 some (bif(bif(!e)then(bif(a==5)then true else(a==2))else false)then(f==b)else false)
theorem zi (n:Nat):∀ (d:SS) (a:List qk) (b:Int) (c r:Bool),zE n d a b c=some r->zb TP 86 [.ptr 0 0,.p (PV.str d)] [.box 135 [pK a,pI b,pB c]] 1 (fun v lo=>v=FW a b c r/\lo=FJ a b c r):=by
 intro d a b c r h;unfold zE at h;refine zO Tryz.call86 Tryz.func86 [40000001,1000000] ?_;conv=>whnf
 refine bq h fun⟨_,_,_,_⟩ e h=>⟨_,Codec.at_ dj e,?_⟩;conv=>whnf
 iterate 12 refine⟨id,?_⟩
 obtain rfl:=sj h;conv=>whnf
 refine⟨_,_,⟨rfl,rfl⟩,wk [0] []⟩
abbrev GH (_:List qk) (_:Int) (_:Bool) (r:Bool×Int):FV:=.p (.bool r.1)
abbrev Gs (a:List qk) (_:Int) (b:Bool) (r:Bool×Int):List AObj:=[.box 135 [pK a,.p (.int .i64 r.2),pB b]]
def ql (n:Nat) (b:SS) (c:List qk) (a:Int) (d:Bool):Option (Bool×Int):=
 bnd (zE n b c a d) fun e=>
 bif(!e)then(
 some (false,a))
 else(
 some (true,(kwr .i64 (a+1))))
theorem qg (n:Nat):∀ (d:SS) (a:List qk) (b:Int) (c:Bool) (r:Bool×Int),ql n d a b c=some r->zb TP 77 [.ptr 0 0,.p (PV.str d)] [.box 135 [pK a,pI b,pB c]] 1 (fun v lo=>v=GH a b c r/\lo=Gs a b c r):=by
 intro d a b c r h;unfold ql at h;refine zO Tryz.call77 Tryz.func77 [86,1000000] ?_;conv=>whnf
 refine bq h fun f e h=>?_;refine zg (zi n _ _ _ _ _ e) [0] [] ?_;rintro _ _ ⟨rfl,rfl⟩;refine⟨pB f,[.box 135 [pK a,pI b,pB c]],rfl,rfl,?_⟩;conv=>whnf
 apply ifc h<;>intro _ h
 ·obtain rfl:=sj h
  conv=>whnf
  refine⟨_,_,⟨rfl,rfl⟩,wk [0] []⟩
 obtain rfl:=sj h;conv=>whnf
 refine⟨_,_,⟨rfl,rfl⟩,wk [0] []⟩
abbrev Ui (_:List qk) (_:Int) (_:Bool) (r:Int×Bool):FV:=.p (.tup [])
abbrev VW (a:List qk) (_:Int) (_:Bool) (r:Int×Bool):List AObj:=[.box 135 [pK a,.p (.int .i64 r.1),.p (.bool r.2)]]
def qH (n:Nat) (c:SS) (d:List qk) (e:Int) (a:Bool):Option (Int×Bool):=
 bnd (ql n c d e a) fun⟨f,b⟩=>
 bif(!f)then(
 some (b,true))
 else(
 some (b,a))
theorem qv (n:Nat):∀ (d:SS) (a:List qk) (c:Int) (b:Bool) (r:Int×Bool),qH n d a c b=some r->zb TP 81 [.ptr 0 0,.p (PV.str d)] [.box 135 [pK a,pI c,pB b]] 1 (fun v lo=>v=Ui a c b r/\lo=VW a c b r):=by
 intro d a c b r h;unfold qH at h;refine zO Tryz.call81 Tryz.func81 [77,1000000] ?_;conv=>whnf
 refine bq h fun⟨f,g⟩ e h=>?_;refine zg (qg n _ _ _ _ _ e) [0] [] ?_;rintro _ _ ⟨rfl,rfl⟩;refine⟨pB f,[.box 135 [pK a,pI g,pB b]],rfl,rfl,?_⟩;conv=>whnf
 apply ifc h<;>intro _ h
 ·obtain rfl:=sj h
  conv=>whnf
  refine⟨_,_,⟨rfl,rfl⟩,wk [0] []⟩
 obtain rfl:=sj h;conv=>whnf
 refine⟨_,_,⟨rfl,rfl⟩,wk [0] []⟩
abbrev Uj (_:List qk) (_:Int) (_:Bool) (r:SS×Int×Bool):FV:=.p (.str r.1)
abbrev VX (a:List qk) (_:Int) (_:Bool) (r:SS×Int×Bool):List AObj:=[.box 135 [pK a,.p (.int .i64 r.2.1),.p (.bool r.2.2)]]
def xw (n:Nat) (c:List qk) (a:Int) (b:Bool):Option (SS×Int×Bool):=
 bnd (idx c a) fun⟨d,e,_,_⟩=>
 bif(bif b then true else(d != 1))then(
 some (([]:SS),a,true))
 else(
 some (e,(kwr .i64 (a+1)),b))
theorem xh (n:Nat):∀ (a:List qk) (b:Int) (c:Bool) (r:SS×Int×Bool),xw n a b c=some r->zb TP 82 [.ptr 0 0] [.box 135 [pK a,pI b,pB c]] 1 (fun v lo=>v=Uj a b c r/\lo=VX a b c r):=by
 intro a b c r h;unfold xw at h;refine zO Tryz.call82 Tryz.func82 [40000001,1000000] ?_;conv=>whnf
 refine bq h fun⟨_,_,_,_⟩ d h=>⟨_,Codec.at_ dj d,?_⟩;conv=>whnf
 refine⟨id,id,id,?_⟩;conv=>whnf
 apply ifc h<;>intro _ h
 ·obtain rfl:=sj h
  conv=>whnf
  refine⟨_,_,⟨rfl,rfl⟩,wk [0] []⟩
 obtain rfl:=sj h;conv=>whnf
 refine⟨_,_,⟨rfl,rfl⟩,wk [0] []⟩
abbrev tT (_:List qk) (_:Int) (_:Bool) (r:SS×Int×Bool):FV:=.p (.str r.1)
abbrev tR (a:List qk) (_:Int) (_:Bool) (r:SS×Int×Bool):List AObj:=[.box 135 [pK a,.p (.int .i64 r.2.1),.p (.bool r.2.2)]]
def vM (n:Nat) (c:List qk) (b:Int) (a:Bool):Option (SS×Int×Bool):=
 bnd (qG (!a) (idx c b)) fun⟨e,_,_,_⟩=>
 bif(bif a then true else(e != 1))then(
 some (([]:SS),b,a))
 else(
 bnd (xw n c b a) fun⟨f,g,d⟩=>
 some (f,g,d))
theorem gO (n:Nat):∀ (a:List qk) (b:Int) (c:Bool) (r:SS×Int×Bool),vM n a b c=some r->zb TP 123 [.ptr 0 0] [.box 135 [pK a,pI b,pB c]] 1 (fun v lo=>v=tT a b c r/\lo=tR a b c r):=by
 intro a b c r h;unfold vM at h;refine zO Tryz.call123 Tryz.func123 [82,1000000] ?_;conv=>whnf
 iterate 8 refine⟨id,?_⟩
 conv=>whnf
 refine bq h fun⟨_,_,_,_⟩ e h=>⟨_,fun f=>Codec.at_ dj (qa e f),?_⟩;conv=>whnf
 refine⟨id,id,id,id,?_⟩;conv=>whnf
 apply ifc h<;>intro _ h
 ·obtain rfl:=sj h
  conv=>whnf
  refine⟨_,_,⟨rfl,rfl⟩,wk [0] []⟩
 conv=>whnf
 refine bq h fun⟨i,j,g⟩ d h=>?_;refine zg (xh n _ _ _ _ d) [0] [] ?_;rintro _ _ ⟨rfl,rfl⟩;refine⟨pS i,[.box 135 [pK a,pI j,pB g]],rfl,rfl,?_⟩;obtain rfl:=sj h;conv=>whnf
 refine⟨_,_,⟨rfl,rfl⟩,wk [0] []⟩
abbrev Bn (r:Bool):PV:=PV.bool r
def vh (n:Nat) (a:SS):Option (Bool):=
 some (bif(decide (((a.length:Nat):Int)≥1))then(decide (((a.length:Nat):Int)<=64))else false)
theorem xg (n:Nat):∀ (a:SS) (r:Bool),vh n a=some r->qi TP 40 [PV.str a] (Bn r):=by
 intro a r h;unfold vh at h;refine zN Tryz.call40 Tryz.func40 [1000000] ?_;conv=>whnf
 refine⟨id,id,id,?_⟩;obtain rfl:=sj h;conv=>whnf
 try exact Sk
abbrev GI (_:List qk) (_:Int) (_:Bool) (r:SS×Int×Bool):FV:=.p (.str r.1)
abbrev Gt (a:List qk) (_:Int) (_:Bool) (r:SS×Int×Bool):List AObj:=[.box 135 [pK a,.p (.int .i64 r.2.1),.p (.bool r.2.2)]]
def xY (n:Nat) (e:List qk) (b:Int) (c:Bool):Option (SS×Int×Bool):=
 bnd (idx e b) fun⟨a,d,_,_⟩=>
 bnd (qG (((!c)&&(a != 1))&&(!(a != 4))) (vh n d)) fun f=>
 bif(bif c then true else(bif(a != 1)then(bif(a != 4)then true else(!f))else false))then(
 some (([]:SS),b,true))
 else(
 some (d,(kwr .i64 (b+1)),c))
theorem xu (n:Nat):∀ (a:List qk) (b:Int) (c:Bool) (r:SS×Int×Bool),xY n a b c=some r->zb TP 124 [.ptr 0 0] [.box 135 [pK a,pI b,pB c]] 1 (fun v lo=>v=GI a b c r/\lo=Gt a b c r):=by
 intro a b c r h;unfold xY at h;refine zO Tryz.call124 Tryz.func124 [40000001,1000000] ?_;conv=>whnf
 refine bq h fun⟨_,_,_,_⟩ e h=>⟨_,Codec.at_ dj e,?_⟩;conv=>whnf
 iterate 8 refine⟨id,?_⟩
 conv=>whnf
 refine bq h fun _ d h=>⟨_,fun f=>(xg n _ _ (qa d f)),?_⟩;conv=>whnf
 iterate 6 refine⟨id,?_⟩
 conv=>whnf
 apply ifc h<;>intro _ h
 ·obtain rfl:=sj h
  conv=>whnf
  refine⟨_,_,⟨rfl,rfl⟩,wk [0] []⟩
 obtain rfl:=sj h;conv=>whnf
 refine⟨_,_,⟨rfl,rfl⟩,wk [0] []⟩
abbrev Bq (r:qb):PV:=PV.agg (zU.cells r)
def da (n:Nat) (b:Int) (a:qb):Option (qb):=
 match a with
 | ⟨e,f,⟨g,i,j,k,l,m⟩,c,d⟩=>
 some (qb.mk b ([]:SS) (Val.mk (0:Int) false (0:Int) ([]:SS) ([]:List Val) ([]:List SS)) ([]:List SS) [qb.mk e f (Val.mk g i j k l m) c d])
theorem gW (n:Nat):∀ (b:Int) (a r:qb),da n b a=some r->qi TP 236 [PV.int .i64 b,PV.agg (zU.cells a)] (Bq r):=by
 intro b a r h;obtain⟨e,f,⟨g,i,j,k,l,m⟩,c,d⟩:=a;unfold da at h;refine zN Tryz.call236 Tryz.func236 [1000000] ?_;conv=>whnf
 refine⟨Codec.one zU [qb.mk e f (Val.mk g i j k l m) c d],qb.rows [qb.mk e f (Val.mk g i j k l m) c d],.inl rfl,?_⟩;obtain rfl:=sj h;conv=>whnf
 try exact Sk
abbrev QJ (r:Bool):PV:=PV.bool r
def uw (n:Nat) (a:SS):Option (Bool):=
 some (bif(bif(bif(bif(a==([99,111,117,110,116]:SS))then true else(a==([115,117,109]:SS)))then true else(a==([109,105,110]:SS)))then true else(a==([109,97,120]:SS)))then true else(a==([99,111,108,108,101,99,116]:SS)))
theorem fq (n:Nat):∀ (a:SS) (r:Bool),uw n a=some r->qi TP 167 [PV.str a] (QJ r):=by
 intro a r h;unfold uw at h;refine zN Tryz.call167 Tryz.func167 [1000000] ?_;conv=>whnf
 iterate 8 refine⟨id,?_⟩
 obtain rfl:=sj h;conv=>whnf
 try exact Sk
abbrev Br (r:qb):PV:=PV.agg (zU.cells r)
def vN (n:Nat) (c:SS) (a b:qb):Option (qb):=
 match a,b with
 | ⟨p,t,⟨u,v,w,x,y,z⟩,d,e⟩,⟨f,g,⟨i,j,k,l,m,o⟩,q,s⟩=>
 some (qb.mk (10:Int) c (Val.mk (0:Int) false (0:Int) ([]:SS) ([]:List Val) ([]:List SS)) ([]:List SS) [qb.mk p t (Val.mk u v w x y z) d e,qb.mk f g (Val.mk i j k l m o) q s])
theorem xy (n:Nat):∀ (c:SS) (a b r:qb),vN n c a b=some r->qi TP 122 [PV.str c,PV.agg (zU.cells a),PV.agg (zU.cells b)] (Br r):=by
 intro c a b r h;obtain⟨p,t,⟨u,v,w,x,y,z⟩,d,e⟩:=a;obtain⟨f,g,⟨i,j,k,l,m,o⟩,q,s⟩:=b;unfold vN at h;refine zN Tryz.call122 Tryz.func122 [1000000] ?_;conv=>whnf
 refine⟨Codec.one zU [qb.mk p t (Val.mk u v w x y z) d e,qb.mk f g (Val.mk i j k l m o) q s],qb.rows [qb.mk p t (Val.mk u v w x y z) d e,qb.mk f g (Val.mk i j k l m o) q s],.inl rfl,?_⟩;obtain rfl:=sj h;conv=>whnf
 try exact Sk
end W
end
section
set_option maxRecDepth 100000
set_option maxHeartbeats 20000000
open Go Go.Proofs Ax
namespace W
abbrev fJ (_:List qk) (_:Int) (_:Bool) (r:(List SS)×(List qb)×Int×Bool):FV:=.p (.tup [.sl (qy r.1),.sl (qb.rows r.2.1)])
abbrev fH (a:List qk) (_:Int) (_:Bool) (r:(List SS)×(List qb)×Int×Bool):List AObj:=[.box 135 [pK a,.p (.int .i64 r.2.2.1),.p (.bool r.2.2.2)]]
abbrev zW:Type:=(List qk)->Int->Bool->Option (qb×Int×Bool)
def dw (n:Nat) (a:List qk) (g80:zW):LK (List SS×List qb×Int×Bool) ((List SS)×(List qb)×Int×Bool):=fun v (b,c,t,d)=>
 bif(!d)then(
 bnd (xY n a t d) fun⟨e,w,x⟩=>
 bnd (qH n ([58]:SS) a w x) fun⟨y,z⟩=>
 bnd (g80 a y z) fun⟨⟨f,g,⟨i,j,k,l,m,o⟩,p,q⟩,A,s⟩=>
 chk (decide ((qy (b++[e])).length * 16<=140737488355328)) (
 chk (decide ((qb.rows (c++[qb.mk f g (Val.mk i j k l m o) p q])).length * 160<=140737488355328)) (
 bnd (ql n ([44]:SS) a A s) fun⟨B,u⟩=>
 bif(!B)then(
 bnd (qH n ([125]:SS) a u s) fun⟨C,D⟩=>
 some ((b++[e]),(c++[qb.mk f g (Val.mk i j k l m o) p q]),C,D))
 else(
 v ((b++[e]),(c++[qb.mk f g (Val.mk i j k l m o) p q]),u,s)))))
 else(
 some (b,c,t,d))
abbrev ZJ:Type:=(List qk)->Int->Bool->Option ((List SS)×(List qb)×Int×Bool)
abbrev ZK:Type:=SS->(List qk)->Int->Bool->Option (qb×Int×Bool)
abbrev ZL:Type:=SS->(List qk)->Int->Bool->Option ((List qb)×Int×Bool)
def mD (n:Nat) (g125:ZJ) (g80 g121:zW) (g161 g197:zW) (g237 g256:zW) (g282 g295 g301:zW) (g305:ZK) (g306:ZL) (a:List qk) (d:Int) (e:Bool):Option ((List SS)×(List qb)×Int×Bool):=
 bnd (qH n ([123]:SS) a d e) fun⟨f,b⟩=>
 bnd (ql n ([125]:SS) a f b) fun⟨g,c⟩=>
 bif g then(
 some (([]:List SS),([]:List qb),c,b))
 else(
 qU (dw n a g80) n (([]:List _),([]:List _),c,b))
abbrev cV (_:List qk) (_:Int) (_:Bool) (r:qb×Int×Bool):FV:=.p ((PV.agg (zU.cells r.1)))
abbrev cU (a:List qk) (_:Int) (_:Bool) (r:qb×Int×Bool):List AObj:=[.box 135 [pK a,.p (.int .i64 r.2.1),.p (.bool r.2.2)]]
def bw (n:Nat) (b:List qk) (g121:zW):LK (Int×Bool×Int×SS×Int×Bool×Int×SS×List Val×List SS×List SS×List qb) (qb×Int×Bool):=fun p (q,a,c,d,e,f,g,i,j,k,l,m)=>
 bnd (ql n ([79,82]:SS) b q a) fun⟨s,o⟩=>
 bif s then(
 bnd (g121 b o a) fun⟨⟨t,u,⟨v,w,x,y,z,A⟩,B,C⟩,D,E⟩=>
 bnd (vN n ([79,82]:SS) (qb.mk c d (Val.mk e f g i j k) l m) (qb.mk t u (Val.mk v w x y z A) B C)) fun⟨F,G,⟨H,I,J,K,L,M⟩,N,O⟩=>
 p (D,E,F,G,H,I,J,K,L,M,N,O))
 else(
 some (qb.mk c d (Val.mk e f g i j k) l m,o,a))
def pf (n:Nat) (g125:ZJ) (g80 g121:zW) (g161 g197:zW) (g237 g256:zW) (g282 g295 g301:zW) (g305:ZK) (g306:ZL) (a:List qk) (i:Int) (j:Bool):Option (qb×Int×Bool):=
 bnd (g121 a i j) fun⟨⟨k,l,⟨m,o,p,q,b,c⟩,d,e⟩,f,g⟩=>
 qU (bw n a g121) n (f,g,k,l,m,o,p,q,b,c,d,e)
abbrev pZ (_:List qk) (_:Int) (_:Bool) (r:qb×Int×Bool):FV:=.p ((PV.agg (zU.cells r.1)))
abbrev pM (a:List qk) (_:Int) (_:Bool) (r:qb×Int×Bool):List AObj:=[.box 135 [pK a,.p (.int .i64 r.2.1),.p (.bool r.2.2)]]
def mW (n:Nat) (b:List qk) (g161:zW):LK (Int×Bool×Int×SS×Int×Bool×Int×SS×List Val×List SS×List SS×List qb) (qb×Int×Bool):=fun p (q,a,c,d,e,f,g,i,j,k,l,m)=>
 bnd (ql n ([88,79,82]:SS) b q a) fun⟨s,o⟩=>
 bif s then(
 bnd (g161 b o a) fun⟨⟨t,u,⟨v,w,x,y,z,A⟩,B,C⟩,D,E⟩=>
 bnd (vN n ([88,79,82]:SS) (qb.mk c d (Val.mk e f g i j k) l m) (qb.mk t u (Val.mk v w x y z A) B C)) fun⟨F,G,⟨H,I,J,K,L,M⟩,N,O⟩=>
 p (D,E,F,G,H,I,J,K,L,M,N,O))
 else(
 some (qb.mk c d (Val.mk e f g i j k) l m,o,a))
def rW (n:Nat) (g125:ZJ) (g80 g121:zW) (g161 g197:zW) (g237 g256:zW) (g282 g295 g301:zW) (g305:ZK) (g306:ZL) (a:List qk) (i:Int) (j:Bool):Option (qb×Int×Bool):=
 bnd (g161 a i j) fun⟨⟨k,l,⟨m,o,p,q,b,c⟩,d,e⟩,f,g⟩=>
 qU (mW n a g161) n (f,g,k,l,m,o,p,q,b,c,d,e)
abbrev pW (_:List qk) (_:Int) (_:Bool) (r:qb×Int×Bool):FV:=.p ((PV.agg (zU.cells r.1)))
abbrev pH (a:List qk) (_:Int) (_:Bool) (r:qb×Int×Bool):List AObj:=[.box 135 [pK a,.p (.int .i64 r.2.1),.p (.bool r.2.2)]]
def mT (n:Nat) (b:List qk) (g197:zW):LK (Int×Bool×Int×SS×Int×Bool×Int×SS×List Val×List SS×List SS×List qb) (qb×Int×Bool):=fun p (q,a,c,d,e,f,g,i,j,k,l,m)=>
 bnd (ql n ([65,78,68]:SS) b q a) fun⟨s,o⟩=>
 bif s then(
 bnd (g197 b o a) fun⟨⟨t,u,⟨v,w,x,y,z,A⟩,B,C⟩,D,E⟩=>
 bnd (vN n ([65,78,68]:SS) (qb.mk c d (Val.mk e f g i j k) l m) (qb.mk t u (Val.mk v w x y z A) B C)) fun⟨F,G,⟨H,I,J,K,L,M⟩,N,O⟩=>
 p (D,E,F,G,H,I,J,K,L,M,N,O))
 else(
 some (qb.mk c d (Val.mk e f g i j k) l m,o,a))
def rT (n:Nat) (g125:ZJ) (g80 g121:zW) (g161 g197:zW) (g237 g256:zW) (g282 g295 g301:zW) (g305:ZK) (g306:ZL) (a:List qk) (i:Int) (j:Bool):Option (qb×Int×Bool):=
 bnd (g197 a i j) fun⟨⟨k,l,⟨m,o,p,q,b,c⟩,d,e⟩,f,g⟩=>
 qU (mT n a g197) n (f,g,k,l,m,o,p,q,b,c,d,e)
abbrev pX (_:List qk) (_:Int) (_:Bool) (r:qb×Int×Bool):FV:=.p ((PV.agg (zU.cells r.1)))
abbrev pJ (a:List qk) (_:Int) (_:Bool) (r:qb×Int×Bool):List AObj:=[.box 135 [pK a,.p (.int .i64 r.2.1),.p (.bool r.2.2)]]
def rU (n:Nat) (g125:ZJ) (g80 g121:zW) (g161 g197:zW) (g237 g256:zW) (g282 g295 g301:zW) (g305:ZK) (g306:ZL) (a:List qk) (p:Int) (b:Bool):Option (qb×Int×Bool):=
 bnd (ql n ([78,79,84]:SS) a p b) fun⟨L,c⟩=>
 bif L then(
 bnd (g197 a c b) fun⟨⟨M,N,⟨O,P,d,e,f,g⟩,i,j⟩,k,l⟩=>
 bnd (da n (9:Int) (qb.mk M N (Val.mk O P d e f g) i j)) fun⟨m,o,⟨q,s,t,u,v,w⟩,x,y⟩=>
 some (qb.mk m o (Val.mk q s t u v w) x y,k,l))
 else(
 bnd (g237 a c b) fun⟨⟨z,A,⟨B,C,D,E,F,G⟩,H,I⟩,J,K⟩=>
 some (qb.mk z A (Val.mk B C D E F G) H I,J,K))
abbrev nr (_:List qk) (_:Int) (_:Bool) (r:qb×Int×Bool):FV:=.p ((PV.agg (zU.cells r.1)))
abbrev nh (a:List qk) (_:Int) (_:Bool) (r:qb×Int×Bool):List AObj:=[.box 135 [pK a,.p (.int .i64 r.2.1),.p (.bool r.2.2)]]
def bE (n:Nat) (c:List qk) (b:Bool) (g256:zW) (i:Int) (l:SS) (m:Int) (o:Bool) (p:Int) (q:SS) (d:List Val) (e f:List SS) (g:List qb):LK (Int×Int) (qb×Int×Bool):=fun s (a,j)=>
 bif(decide (a<(((qy [([61]:SS),([60,62]:SS),([60,61]:SS),([60]:SS),([62,61]:SS),([62]:SS),([73,78]:SS)]).length:Nat):Int)))then(
 bnd (idx [([61]:SS),([60,62]:SS),([60,61]:SS),([60]:SS),([62,61]:SS),([62]:SS),([73,78]:SS)] a) fun t=>
 bnd (ql n t c j b) fun⟨u,k⟩=>
 bif u then(
 bnd (g256 c k b) fun⟨⟨v,w,⟨x,y,z,A,B,C⟩,D,E⟩,F,G⟩=>
 bnd (idx [([61]:SS),([60,62]:SS),([60,61]:SS),([60]:SS),([62,61]:SS),([62]:SS),([73,78]:SS)] a) fun H=>
 bnd (vN n H (qb.mk i l (Val.mk m o p q d e) f g) (qb.mk v w (Val.mk x y z A B C) D E)) fun⟨I,J,⟨K,L,M,N,O,P⟩,Q,R⟩=>
 some (qb.mk I J (Val.mk K L M N O P) Q R,F,G))
 else(
 s ((kwr .i64 (a+1)),k)))
 else(
 some (qb.mk i l (Val.mk m o p q d e) f g,j,b))
def pk (n:Nat) (g125:ZJ) (g80 g121:zW) (g161 g197:zW) (g237 g256:zW) (g282 g295 g301:zW) (g305:ZK) (g306:ZL) (a:List qk) (w:Int) (F:Bool):Option (qb×Int×Bool):=
 bnd (g256 a w F) fun⟨⟨g,i,⟨j,k,l,m,c,d⟩,e,f⟩,s,b⟩=>
 bnd (ql n ([73,83]:SS) a s b) fun⟨t,o⟩=>
 bif t then(
 bnd (ql n ([78,79,84]:SS) a o b) fun⟨u,v⟩=>
 bnd (qH n ([78,85,76,76]:SS) a v b) fun⟨p,q⟩=>
 bif u then(
 bnd (da n (12:Int) (qb.mk g i (Val.mk j k l m c d) e f)) fun⟨x,y,⟨z,A,B,C,D,E⟩,G,H⟩=>
 some (qb.mk x y (Val.mk z A B C D E) G H,p,q))
 else(
 bnd (da n (11:Int) (qb.mk g i (Val.mk j k l m c d) e f)) fun⟨I,J,⟨K,L,M,N,O,P⟩,Q,R⟩=>
 some (qb.mk I J (Val.mk K L M N O P) Q R,p,q)))
 else(
 qU (bE n a b g256 g i j k l m c d e f) n ((0:Int),o))
abbrev pY (_:List qk) (_:Int) (_:Bool) (r:qb×Int×Bool):FV:=.p ((PV.agg (zU.cells r.1)))
abbrev pL (a:List qk) (_:Int) (_:Bool) (r:qb×Int×Bool):List AObj:=[.box 135 [pK a,.p (.int .i64 r.2.1),.p (.bool r.2.2)]]
def mV (n:Nat) (b:List qk) (g282:zW):LK (Int×Bool×Int×SS×Int×Bool×Int×SS×List Val×List SS×List SS×List qb) (qb×Int×Bool):=fun q (a,c,d,e,f,g,i,j,k,l,m,o)=>
 bnd (zE n ([43]:SS) b a c) fun p=>
 bif(!p)then(
 bnd (zE n ([45]:SS) b a c) fun s=>
 bif(bif p then true else s)then(
 bnd (idx b a) fun⟨_,t,_,_⟩=>
 bnd (g282 b (kwr .i64 (a+1)) c) fun⟨⟨u,v,⟨w,x,y,z,A,B⟩,C,D⟩,E,F⟩=>
 bnd (vN n t (qb.mk d e (Val.mk f g i j k l) m o) (qb.mk u v (Val.mk w x y z A B) C D)) fun⟨G,H,⟨I,J,K,L,M,N⟩,O,P⟩=>
 q (E,F,G,H,I,J,K,L,M,N,O,P))
 else(
 some (qb.mk d e (Val.mk f g i j k l) m o,a,c)))
 else(
 bif(bif p then true else false)then(
 bnd (idx b a) fun⟨_,Q,_,_⟩=>
 bnd (g282 b (kwr .i64 (a+1)) c) fun⟨⟨R,S,⟨T,U,V,W,X,Y⟩,Z,a0⟩,a1,a2⟩=>
 bnd (vN n Q (qb.mk d e (Val.mk f g i j k l) m o) (qb.mk R S (Val.mk T U V W X Y) Z a0)) fun⟨a3,a4,⟨a5,a6,a7,a8,a9,b0⟩,b1,b2⟩=>
 q (a1,a2,a3,a4,a5,a6,a7,a8,a9,b0,b1,b2))
 else(
 some (qb.mk d e (Val.mk f g i j k l) m o,a,c)))
def rV (n:Nat) (g125:ZJ) (g80 g121:zW) (g161 g197:zW) (g237 g256:zW) (g282 g295 g301:zW) (g305:ZK) (g306:ZL) (a:List qk) (i:Int) (j:Bool):Option (qb×Int×Bool):=
 bnd (g282 a i j) fun⟨⟨k,l,⟨m,o,p,q,b,c⟩,d,e⟩,f,g⟩=>
 qU (mV n a g282) n (f,g,k,l,m,o,p,q,b,c,d,e)
abbrev cw (_:List qk) (_:Int) (_:Bool) (r:qb×Int×Bool):FV:=.p ((PV.agg (zU.cells r.1)))
abbrev cv (a:List qk) (_:Int) (_:Bool) (r:qb×Int×Bool):List AObj:=[.box 135 [pK a,.p (.int .i64 r.2.1),.p (.bool r.2.2)]]
def fA (n:Nat) (b:List qk) (g295:zW):LK (Int×Bool×Int×SS×Int×Bool×Int×SS×List Val×List SS×List SS×List qb) (qb×Int×Bool):=fun q (a,c,d,e,f,g,i,j,k,l,m,o)=>
 bnd (zE n ([42]:SS) b a c) fun p=>
 bif(!p)then(
 bnd (zE n ([47]:SS) b a c) fun s=>
 bif(!(bif p then true else s))then(
 bnd (zE n ([37]:SS) b a c) fun a0=>
 bif(bif(bif p then true else s)then true else a0)then(
 bnd (idx b a) fun⟨_,a1,_,_⟩=>
 bnd (g295 b (kwr .i64 (a+1)) c) fun⟨⟨a2,a3,⟨a4,a5,a6,a7,a8,a9⟩,b0,b1⟩,b2,b3⟩=>
 bnd (vN n a1 (qb.mk d e (Val.mk f g i j k l) m o) (qb.mk a2 a3 (Val.mk a4 a5 a6 a7 a8 a9) b0 b1)) fun⟨b4,b5,⟨b6,b7,b8,b9,c0,c1⟩,c2,c3⟩=>
 q (b2,b3,b4,b5,b6,b7,b8,b9,c0,c1,c2,c3))
 else(
 some (qb.mk d e (Val.mk f g i j k l) m o,a,c)))
 else(
 bif(bif(bif p then true else s)then true else false)then(
 bnd (idx b a) fun⟨_,c4,_,_⟩=>
 bnd (g295 b (kwr .i64 (a+1)) c) fun⟨⟨c5,c6,⟨c7,c8,c9,d0,d1,d2⟩,d3,d4⟩,d5,d6⟩=>
 bnd (vN n c4 (qb.mk d e (Val.mk f g i j k l) m o) (qb.mk c5 c6 (Val.mk c7 c8 c9 d0 d1 d2) d3 d4)) fun⟨d7,d8,⟨d9,e0,e1,e2,e3,e4⟩,e5,e6⟩=>
 q (d5,d6,d7,d8,d9,e0,e1,e2,e3,e4,e5,e6))
 else(
 some (qb.mk d e (Val.mk f g i j k l) m o,a,c))))
 else(
 bif(!(bif p then true else false))then(
 bnd (zE n ([37]:SS) b a c) fun e7=>
 bif(bif(bif p then true else false)then true else e7)then(
 bnd (idx b a) fun⟨_,e8,_,_⟩=>
 bnd (g295 b (kwr .i64 (a+1)) c) fun⟨⟨e9,f0,⟨f1,f2,f3,f4,f5,f6⟩,f7,f8⟩,f9,g0⟩=>
 bnd (vN n e8 (qb.mk d e (Val.mk f g i j k l) m o) (qb.mk e9 f0 (Val.mk f1 f2 f3 f4 f5 f6) f7 f8)) fun⟨t,u,⟨v,w,x,y,z,A⟩,B,C⟩=>
 q (f9,g0,t,u,v,w,x,y,z,A,B,C))
 else(
 some (qb.mk d e (Val.mk f g i j k l) m o,a,c)))
 else(
 bif(bif(bif p then true else false)then true else false)then(
 bnd (idx b a) fun⟨_,D,_,_⟩=>
 bnd (g295 b (kwr .i64 (a+1)) c) fun⟨⟨E,F,⟨G,H,I,J,K,L⟩,M,N⟩,O,P⟩=>
 bnd (vN n D (qb.mk d e (Val.mk f g i j k l) m o) (qb.mk E F (Val.mk G H I J K L) M N)) fun⟨Q,R,⟨S,T,U,V,W,X⟩,Y,Z⟩=>
 q (O,P,Q,R,S,T,U,V,W,X,Y,Z))
 else(
 some (qb.mk d e (Val.mk f g i j k l) m o,a,c))))
def dn (n:Nat) (g125:ZJ) (g80 g121:zW) (g161 g197:zW) (g237 g256:zW) (g282 g295 g301:zW) (g305:ZK) (g306:ZL) (a:List qk) (i:Int) (j:Bool):Option (qb×Int×Bool):=
 bnd (g295 a i j) fun⟨⟨k,l,⟨m,o,p,q,b,c⟩,d,e⟩,f,g⟩=>
 qU (fA n a g295) n (f,g,k,l,m,o,p,q,b,c,d,e)
abbrev bK (_:List qk) (_:Int) (_:Bool) (r:qb×Int×Bool):FV:=.p ((PV.agg (zU.cells r.1)))
abbrev bI (a:List qk) (_:Int) (_:Bool) (r:qb×Int×Bool):List AObj:=[.box 135 [pK a,.p (.int .i64 r.2.1),.p (.bool r.2.2)]]
def du (n:Nat) (b:List qk) (g80:zW):LK (Int×Bool×Int×SS×Int×Bool×Int×SS×List Val×List SS×List SS×List qb) (qb×Int×Bool):=fun o (t,a,c,d,e,f,g,i,j,k,l,m)=>
 bnd (ql n ([46]:SS) b t a) fun⟨u,q⟩=>
 bif u then(
 bnd (da n (4:Int) (qb.mk c d (Val.mk e f g i j k) l m)) fun⟨v,_,⟨w,x,y,z,A,B⟩,C,D⟩=>
 bnd (xY n b q a) fun⟨E,F,G⟩=>
 o (F,G,v,E,w,x,y,z,A,B,C,D))
 else(
 bnd (ql n ([91]:SS) b q a) fun⟨H,p⟩=>
 bif H then(
 bnd (g80 b p a) fun⟨⟨I,J,⟨K,L,M,N,O,P⟩,Q,R⟩,S,T⟩=>
 bnd (qH n ([93]:SS) b S T) fun⟨U,V⟩=>
 o (U,V,(7:Int),([]:SS),(0:Int),false,(0:Int),([]:SS),([]:List _),([]:List _),([]:List _),[qb.mk c d (Val.mk e f g i j k) l m,qb.mk I J (Val.mk K L M N O P) Q R]))
 else(
 bif(c==2)then(
 bnd (ql n ([58]:SS) b p a) fun⟨W,s⟩=>
 bif(bif(c==2)then W else false)then(
 bnd (da n (15:Int) (qb.mk c d (Val.mk e f g i j k) l m)) fun⟨X,_,⟨Y,Z,a0,a1,a2,a3⟩,a4,a5⟩=>
 bnd (xY n b s a) fun⟨a6,a7,a8⟩=>
 o (a7,a8,X,a6,Y,Z,a0,a1,a2,a3,a4,a5))
 else(
 some (qb.mk c d (Val.mk e f g i j k) l m,s,a)))
 else(
 some (qb.mk c d (Val.mk e f g i j k) l m,p,a))))
def mC (n:Nat) (g125:ZJ) (g80 g121:zW) (g161 g197:zW) (g237 g256:zW) (g282 g295 g301:zW) (g305:ZK) (g306:ZL) (a:List qk) (p:Int) (b:Bool):Option (qb×Int×Bool):=
 bnd (ql n ([45]:SS) a p b) fun⟨L,c⟩=>
 bif L then(
 bnd (g295 a c b) fun⟨⟨M,N,⟨O,P,d,e,f,g⟩,i,j⟩,k,l⟩=>
 bnd (da n (8:Int) (qb.mk M N (Val.mk O P d e f g) i j)) fun⟨m,o,⟨q,s,t,u,v,w⟩,x,y⟩=>
 some (qb.mk m o (Val.mk q s t u v w) x y,k,l))
 else(
 bnd (g301 a c b) fun⟨⟨z,A,⟨B,C,D,E,F,G⟩,H,I⟩,J,K⟩=>
 qU (du n a g80) n (J,K,z,A,B,C,D,E,F,G,H,I))
abbrev ni (_:List qk) (_:Int) (_:Bool) (r:qb×Int×Bool):FV:=.p ((PV.agg (zU.cells r.1)))
abbrev mY (a:List qk) (_:Int) (_:Bool) (r:qb×Int×Bool):List AObj:=[.box 135 [pK a,.p (.int .i64 r.2.1),.p (.bool r.2.2)]]
def pg (n:Nat) (g125:ZJ) (g80 g121:zW) (g161 g197:zW) (g237 g256:zW) (g282 g295 g301:zW) (g305:ZK) (g306:ZL) (b:List qk) (c:Int) (a:Bool):Option (qb×Int×Bool):=
 bif a then(
 some (qb.mk (0:Int) ([]:SS) (Val.mk (0:Int) false (0:Int) ([]:SS) ([]:List Val) ([]:List SS)) ([]:List SS) ([]:List qb),c,a))
 else(
 bnd (idx b c) fun⟨e,f,a6,_⟩=>
 bif(e==3)then(
 some (qb.mk (1:Int) ([]:SS) (Val.mk (2:Int) false a6 ([]:SS) ([]:List Val) ([]:List SS)) ([]:List SS) ([]:List qb),(kwr .i64 (c+1)),a))
 else(
 bif(e==4)then(
 some (qb.mk (1:Int) ([]:SS) (Val.mk (3:Int) false (0:Int) f ([]:List Val) ([]:List SS)) ([]:List SS) ([]:List qb),(kwr .i64 (c+1)),a))
 else(
 bif(e==1)then(
 bnd (ql n ([40]:SS) b (kwr .i64 (c+1)) a) fun⟨a7,m⟩=>
 bif a7 then(
 bnd (g305 f b m a) fun⟨⟨o,p,⟨q,s,t,u,v,w⟩,x,y⟩,z,A⟩=>
 some (qb.mk o p (Val.mk q s t u v w) x y,z,A))
 else(
 some (qb.mk (2:Int) f (Val.mk (0:Int) false (0:Int) ([]:SS) ([]:List Val) ([]:List SS)) ([]:List SS) ([]:List qb),m,a)))
 else(
 bnd (ql n ([78,85,76,76]:SS) b c a) fun⟨B,g⟩=>
 bif B then(
 some (qb.mk (1:Int) ([]:SS) (Val.mk (0:Int) false (0:Int) ([]:SS) ([]:List Val) ([]:List SS)) ([]:List SS) ([]:List qb),g,a))
 else(
 bnd (ql n ([84,82,85,69]:SS) b g a) fun⟨C,i⟩=>
 bif C then(
 some (qb.mk (1:Int) ([]:SS) (Val.mk (1:Int) true (0:Int) ([]:SS) ([]:List Val) ([]:List SS)) ([]:List SS) ([]:List qb),i,a))
 else(
 bnd (ql n ([70,65,76,83,69]:SS) b i a) fun⟨D,j⟩=>
 bif D then(
 some (qb.mk (1:Int) ([]:SS) (Val.mk (1:Int) false (0:Int) ([]:SS) ([]:List Val) ([]:List SS)) ([]:List SS) ([]:List qb),j,a))
 else(
 bnd (ql n ([36]:SS) b j a) fun⟨E,k⟩=>
 bif E then(
 bnd (xw n b k a) fun⟨F,G,H⟩=>
 some (qb.mk (3:Int) F (Val.mk (0:Int) false (0:Int) ([]:SS) ([]:List Val) ([]:List SS)) ([]:List SS) ([]:List qb),G,H))
 else(
 bnd (ql n ([40]:SS) b k a) fun⟨I,l⟩=>
 bif I then(
 bnd (g80 b l a) fun⟨⟨J,K,⟨L,M,N,O,P,Q⟩,R,S⟩,T,U⟩=>
 bnd (qH n ([41]:SS) b T U) fun⟨V,W⟩=>
 some (qb.mk J K (Val.mk L M N O P Q) R S,V,W))
 else(
 bnd (ql n ([91]:SS) b l a) fun⟨X,d⟩=>
 bif X then(
 bnd (g306 ([93]:SS) b d a) fun⟨Y,Z,a0⟩=>
 some (qb.mk (5:Int) ([]:SS) (Val.mk (0:Int) false (0:Int) ([]:SS) ([]:List Val) ([]:List SS)) ([]:List SS) Y,Z,a0))
 else(
 bnd (zE n ([123]:SS) b d a) fun a1=>
 bif a1 then(
 bnd (g125 b d a) fun⟨a2,a3,a4,a5⟩=>
 some (qb.mk (6:Int) ([]:SS) (Val.mk (0:Int) false (0:Int) ([]:SS) ([]:List Val) ([]:List SS)) a2 a3,a4,a5))
 else(
 some (qb.mk (0:Int) ([]:SS) (Val.mk (0:Int) false (0:Int) ([]:SS) ([]:List Val) ([]:List SS)) ([]:List SS) ([]:List qb),d,true))))))))))))
abbrev nk (_:List qk) (_:Int) (_:Bool) (r:qb×Int×Bool):FV:=.p ((PV.agg (zU.cells r.1)))
abbrev mZ (a:List qk) (_:Int) (_:Bool) (r:qb×Int×Bool):List AObj:=[.box 135 [pK a,.p (.int .i64 r.2.1),.p (.bool r.2.2)]]
def ph (n:Nat) (g125:ZJ) (g80 g121:zW) (g161 g197:zW) (g237 g256:zW) (g282 g295 g301:zW) (g305:ZK) (g306:ZL) (a:SS) (b:List qk) (d:Int) (c:Bool):Option (qb×Int×Bool):=
 bnd (uw n a) fun M=>
 bif(!M)then(
 bnd (g306 ([41]:SS) b d c) fun⟨N,O,P⟩=>
 some (qb.mk (13:Int) a (Val.mk (0:Int) false (0:Int) ([]:SS) ([]:List Val) ([]:List SS)) ([]:List SS) N,O,P))
 else(
 bif(a==([99,111,117,110,116]:SS))then(
 bnd (ql n ([42]:SS) b d c) fun⟨Q,e⟩=>
 bif(bif(a==([99,111,117,110,116]:SS))then Q else false)then(
 bnd (qH n ([41]:SS) b e c) fun⟨f,g⟩=>
 some (qb.mk (14:Int) a (Val.mk (0:Int) false (0:Int) ([]:SS) ([]:List Val) ([]:List SS)) ([]:List SS) ([]:List qb),f,g))
 else(
 bnd (g80 b e c) fun⟨⟨i,j,⟨k,l,m,o,p,q⟩,s,t⟩,u,v⟩=>
 bnd (qH n ([41]:SS) b u v) fun⟨w,x⟩=>
 some (qb.mk (14:Int) a (Val.mk (0:Int) false (0:Int) ([]:SS) ([]:List Val) ([]:List SS)) ([]:List SS) [qb.mk i j (Val.mk k l m o p q) s t],w,x)))
 else(
 bnd (g80 b d c) fun⟨⟨y,z,⟨A,B,C,D,E,F⟩,G,H⟩,I,J⟩=>
 bnd (qH n ([41]:SS) b I J) fun⟨K,L⟩=>
 some (qb.mk (14:Int) a (Val.mk (0:Int) false (0:Int) ([]:SS) ([]:List Val) ([]:List SS)) ([]:List SS) [qb.mk y z (Val.mk A B C D E F) G H],K,L)))
abbrev nq (_:List qk) (_:Int) (_:Bool) (r:(List qb)×Int×Bool):FV:=.p (.sl (qb.rows r.1))
abbrev ng (a:List qk) (_:Int) (_:Bool) (r:(List qb)×Int×Bool):List AObj:=[.box 135 [pK a,.p (.int .i64 r.2.1),.p (.bool r.2.2)]]
def bz (n:Nat) (g80:zW) (l:List qk) (s:SS):LK (List qb×Int×Bool) ((List qb)×Int×Bool):=fun q (o,x,y)=>
 bnd (g80 l x y) fun⟨⟨a,b,⟨c,d,e,f,g,i⟩,j,k⟩,t,m⟩=>
 chk (decide ((qb.rows (o++[qb.mk a b (Val.mk c d e f g i) j k])).length * 160<=140737488355328)) (
 bnd (ql n ([44]:SS) l t m) fun⟨u,p⟩=>
 bif(!u)then(
 bnd (qH n s l p m) fun⟨v,w⟩=>
 some ((o++[qb.mk a b (Val.mk c d e f g i) j k]),v,w))
 else(
 q ((o++[qb.mk a b (Val.mk c d e f g i) j k]),p,m)))
def pj (n:Nat) (g125:ZJ) (g80 g121:zW) (g161 g197:zW) (g237 g256:zW) (g282 g295 g301:zW) (g305:ZK) (g306:ZL) (b:SS) (c:List qk) (e:Int) (a:Bool):Option ((List qb)×Int×Bool):=
 bnd (ql n b c e a) fun⟨f,d⟩=>
 bif f then(
 some (([]:List qb),d,a))
 else(
 qU (bz n g80 c b) n (([]:List _),d,a))
abbrev EN (g125:ZJ):Prop:=∀ (a:List qk) (b:Int) (c:Bool) (r:(List SS)×(List qb)×Int×Bool),g125 a b c=some r->zb TP 125 [.ptr 0 0] [.box 135 [pK a,pI b,pB c]] 1 (fun v lo=>v=fJ a b c r/\lo=fH a b c r)
abbrev EO (g80:zW):Prop:=∀ (a:List qk) (b:Int) (c:Bool) (r:qb×Int×Bool),g80 a b c=some r->zb TP 80 [.ptr 0 0] [.box 135 [pK a,pI b,pB c]] 1 (fun v lo=>v=cV a b c r/\lo=cU a b c r)
abbrev EP (g121:zW):Prop:=∀ (a:List qk) (b:Int) (c:Bool) (r:qb×Int×Bool),g121 a b c=some r->zb TP 121 [.ptr 0 0] [.box 135 [pK a,pI b,pB c]] 1 (fun v lo=>v=pZ a b c r/\lo=pM a b c r)
abbrev ER (g161:zW):Prop:=∀ (a:List qk) (b:Int) (c:Bool) (r:qb×Int×Bool),g161 a b c=some r->zb TP 161 [.ptr 0 0] [.box 135 [pK a,pI b,pB c]] 1 (fun v lo=>v=pW a b c r/\lo=pH a b c r)
abbrev ES (g197:zW):Prop:=∀ (a:List qk) (b:Int) (c:Bool) (r:qb×Int×Bool),g197 a b c=some r->zb TP 197 [.ptr 0 0] [.box 135 [pK a,pI b,pB c]] 1 (fun v lo=>v=pX a b c r/\lo=pJ a b c r)
abbrev ET (g237:zW):Prop:=∀ (a:List qk) (b:Int) (c:Bool) (r:qb×Int×Bool),g237 a b c=some r->zb TP 237 [.ptr 0 0] [.box 135 [pK a,pI b,pB c]] 1 (fun v lo=>v=nr a b c r/\lo=nh a b c r)
abbrev EU (g256:zW):Prop:=∀ (a:List qk) (b:Int) (c:Bool) (r:qb×Int×Bool),g256 a b c=some r->zb TP 256 [.ptr 0 0] [.box 135 [pK a,pI b,pB c]] 1 (fun v lo=>v=pY a b c r/\lo=pL a b c r)
abbrev EW (g282:zW):Prop:=∀ (a:List qk) (b:Int) (c:Bool) (r:qb×Int×Bool),g282 a b c=some r->zb TP 282 [.ptr 0 0] [.box 135 [pK a,pI b,pB c]] 1 (fun v lo=>v=cw a b c r/\lo=cv a b c r)
abbrev EX (g295:zW):Prop:=∀ (a:List qk) (b:Int) (c:Bool) (r:qb×Int×Bool),g295 a b c=some r->zb TP 295 [.ptr 0 0] [.box 135 [pK a,pI b,pB c]] 1 (fun v lo=>v=bK a b c r/\lo=bI a b c r)
abbrev EY (g301:zW):Prop:=∀ (a:List qk) (b:Int) (c:Bool) (r:qb×Int×Bool),g301 a b c=some r->zb TP 301 [.ptr 0 0] [.box 135 [pK a,pI b,pB c]] 1 (fun v lo=>v=ni a b c r/\lo=mY a b c r)
abbrev ZH (g305:ZK):Prop:=∀ (d:SS) (a:List qk) (b:Int) (c:Bool) (r:qb×Int×Bool),g305 d a b c=some r->zb TP 305 [.ptr 0 0,.p (PV.str d)] [.box 135 [pK a,pI b,pB c]] 1 (fun v lo=>v=nk a b c r/\lo=mZ a b c r)
abbrev ZI (g306:ZL):Prop:=∀ (d:SS) (a:List qk) (b:Int) (c:Bool) (r:(List qb)×Int×Bool),g306 d a b c=some r->zb TP 306 [.ptr 0 0,.p (PV.str d)] [.box 135 [pK a,pI b,pB c]] 1 (fun v lo=>v=nq a b c r/\lo=ng a b c r)
theorem Qr (n:Nat) (g125:ZJ) (g80 g121:zW) (g161 g197:zW) (g237 g256:zW) (g282 g295 g301:zW) (g305:ZK) (g306:ZL) (g125_ok:EN g125) (g80_ok:EO g80) (g121_ok:EP g121) (g161_ok:ER g161) (g197_ok:ES g197) (g237_ok:ET g237) (g256_ok:EU g256) (g282_ok:EW g282) (g295_ok:EX g295) (g301_ok:EY g301) (g305_ok:ZH g305) (g306_ok:ZI g306):∀ (a:List qk) (s:Int) (t:Bool) (r:(List SS)×(List qb)×Int×Bool),mD n g125 g80 g121 g161 g197 g237 g256 g282 g295 g301 g305 g306 a s t=some r->zb TP 125 [.ptr 0 0] [.box 135 [pK a,pI s,pB t]] 1 (fun v lo=>v=fJ a s t r/\lo=fH a s t r):=by
 intro a s t r h;unfold mD at h;refine zO Tryz.call125 Tryz.func125 [77,80,81,124,1000000] ?_;conv=>whnf
 refine bq h fun⟨U,D⟩ E h=>?_;refine zg (qv n _ _ _ _ _ E) [0] [] ?_;rintro _ _ ⟨rfl,rfl⟩;refine⟨.p (.tup []),[.box 135 [pK a,pI U,pB D]],rfl,rfl,?_⟩;conv=>whnf
 refine bq h fun⟨V,W⟩ F h=>?_;refine zg (qg n _ _ _ _ _ F) [0] [] ?_;rintro _ _ ⟨rfl,rfl⟩;refine⟨pB V,[.box 135 [pK a,pI W,pB D]],rfl,rfl,?_⟩;conv=>whnf
 apply ifc h<;>intro A h
 ·obtain rfl:=sj h
  conv=>whnf
  refine⟨_,_,⟨rfl,rfl⟩,wk [0] []⟩
 conv=>whnf
 refine zd.fn [77,80,81,124,1000000] (S:=List SS×List qb×Int×Bool) (fun(b,c,u,w)=>[(0,.ptr 0 0),(4,.tsl 1 (qy b)),(5,.tsl 2 (qb.rows c))]) (fun(b,c,u,w)=>[.box 135 [pK a,pI u,pB w],.tail 9 1 (qy b).length,.tail 60 10 (qb.rows c).length]) (B:=dw n a g80) h (wk [0,0,0] [1,2]) ?_;intro _ st h;obtain⟨b,c,u,w⟩:=st;unfold dw at h;conv=>whnf
 apply ifc h<;>intro A h
 ·conv=>whnf
  refine bq h fun⟨q,L,M⟩ G h=>?_;refine zg (xu n _ _ _ _ G) [0] [] ?_;rintro _ _ ⟨rfl,rfl⟩;refine⟨pS q,[.box 135 [pK a,pI L,pB M],.tail 9 1 (qy b).length,.tail 60 10 (qb.rows c).length],rfl,rfl,?_⟩;conv=>whnf
  refine bq h fun⟨N,O⟩ H h=>?_;refine zg (qv n _ _ _ _ _ H) [0] [] ?_;rintro _ _ ⟨rfl,rfl⟩;refine⟨.p (.tup []),[.box 135 [pK a,pI N,pB O],.tail 9 1 (qy b).length,.tail 60 10 (qb.rows c).length],rfl,rfl,?_⟩;conv=>whnf
  refine bq h fun⟨⟨d,e,⟨f,g,i,j,k,l⟩,m,o⟩,P,x⟩ I h=>?_;refine zg (g80_ok _ _ _ _ I) [0] [] ?_;rintro _ _ ⟨rfl,rfl⟩;refine⟨.p (.agg [.int .i64 d,.str e,.int .i64 f,.bool g,.int .i64 i,.str j,.sl (Val.rows k),.sl (qy l),.sl (qy m),.sl (qb.rows o)]),[.box 135 [pK a,pI P,pB x],.tail 9 1 (qy b).length,.tail 60 10 (qb.rows c).length],rfl,rfl,?_⟩;conv=>whnf
  refine⟨Codec.one rE [q],qy [q],.inl rfl,?_⟩;conv=>whnf
  rw[show qy b++qy [q]=qy (b++[q])from Codec.append rE b [q]];conv=>whnf
  obtain⟨z,h⟩:=qL h;refine⟨⟨Codec.wide rE (b++[q]),kod z,xK z (by decide)⟩,?_⟩;conv=>whnf
  refine⟨⟨rfl,rfl,rfl⟩,?_⟩;conv=>whnf
  refine⟨Codec.one zU [qb.mk d e (Val.mk f g i j k l) m o],qb.rows [qb.mk d e (Val.mk f g i j k l) m o],.inl rfl,?_⟩;conv=>whnf
  rw[show qb.rows c++qb.rows [qb.mk d e (Val.mk f g i j k l) m o]=qb.rows (c++[qb.mk d e (Val.mk f g i j k l) m o])from Codec.append zU c [qb.mk d e (Val.mk f g i j k l) m o]];conv=>whnf
  obtain⟨y,h⟩:=qL h;refine⟨⟨Codec.wide zU (c++[qb.mk d e (Val.mk f g i j k l) m o]),kod y,xK y (by decide)⟩,?_⟩;conv=>whnf
  refine⟨⟨rfl,rfl,rfl⟩,?_⟩;conv=>whnf
  refine bq h fun⟨Q,C⟩ J h=>?_;refine zg (qg n _ _ _ _ _ J) [0] [] ?_;rintro _ _ ⟨rfl,rfl⟩;refine⟨pB Q,[.box 135 [pK a,pI C,pB x],.dead,.dead,.box 60 [pI d,pS e,pI f,pB g,pI i,pS j,pV k,pT l,pT m,pE o],.tail 9 1 (qy (b++[q])).length,.tail 60 10 (qb.rows (c++[qb.mk d e (Val.mk f g i j k l) m o])).length],rfl,rfl,?_⟩;conv=>whnf
  apply ifc h<;>intro A h
  ·conv=>whnf
   refine bq h fun⟨R,T⟩ K h=>?_;refine zg (qv n _ _ _ _ _ K) [0] [] ?_;rintro _ _ ⟨rfl,rfl⟩;refine⟨.p (.tup []),[.box 135 [pK a,pI R,pB T],.dead,.dead,.box 60 [pI d,pS e,pI f,pB g,pI i,pS j,pV k,pT l,pT m,pE o],.tail 9 1 (qy (b++[q])).length,.tail 60 10 (qb.rows (c++[qb.mk d e (Val.mk f g i j k l) m o])).length],rfl,rfl,?_⟩;obtain rfl:=sj h;conv=>whnf
   refine⟨_,_,⟨rfl,rfl⟩,wk [0] []⟩
  conv=>whnf
  exact⟨((b++[q]),(c++[qb.mk d e (Val.mk f g i j k l) m o]),C,x),h,wk [0,4,5] []⟩
 obtain rfl:=sj h;conv=>whnf
 refine⟨_,_,⟨rfl,rfl⟩,wk [0] []⟩
theorem Zt (n:Nat) (g125:ZJ) (g80 g121:zW) (g161 g197:zW) (g237 g256:zW) (g282 g295 g301:zW) (g305:ZK) (g306:ZL) (g125_ok:EN g125) (g80_ok:EO g80) (g121_ok:EP g121) (g161_ok:ER g161) (g197_ok:ES g197) (g237_ok:ET g237) (g256_ok:EU g256) (g282_ok:EW g282) (g295_ok:EX g295) (g301_ok:EY g301) (g305_ok:ZH g305) (g306_ok:ZI g306):∀ (a:List qk) (d:Int) (o:Bool) (r:qb×Int×Bool),pf n g125 g80 g121 g161 g197 g237 g256 g282 g295 g301 g305 g306 a d o=some r->zb TP 80 [.ptr 0 0] [.box 135 [pK a,pI d,pB o]] 1 (fun v lo=>v=cV a d o r/\lo=cU a d o r):=by
 intro a d o r h;unfold pf at h;refine zO Tryz.call80 Tryz.func80 [77,121,1000000] ?_;conv=>whnf
 refine bq h fun⟨⟨U,a3,⟨a6,a7,a8,a9,A,C⟩,D,E⟩,F,G⟩ w h=>?_;refine zg (g121_ok _ _ _ _ w) [0] [] ?_;rintro _ _ ⟨rfl,rfl⟩;refine⟨.p (.agg [.int .i64 U,.str a3,.int .i64 a6,.bool a7,.int .i64 a8,.str a9,.sl (Val.rows A),.sl (qy C),.sl (qy D),.sl (qb.rows E)]),[.box 135 [pK a,pI F,pB G],SX],rfl,rfl,?_⟩;conv=>whnf
 refine zd.fn [77,121,1000000] (S:=Int×Bool×Int×SS×Int×Bool×Int×SS×List Val×List SS×List SS×List qb) (fun(s,q,b,c,e,f,g,i,j,k,l,m)=>[(0,.ptr 0 0),(2,.ptr 1 0),(3,.ptr 2 0)]) (fun(s,q,b,c,e,f,g,i,j,k,l,m)=>[.box 135 [pK a,pI s,pB q],SX,.box 60 [pI b,pS c,pI e,pB f,pI g,pS i,pV j,pT k,pT l,pE m]]) (B:=bw n a g121) h (wk [0,1,2] []) ?_;intro _ st h;obtain⟨s,q,b,c,e,f,g,i,j,k,l,m⟩:=st;unfold bw at h;conv=>whnf
 refine bq h fun⟨H,I⟩ x h=>?_;refine zg (qg n _ _ _ _ _ x) [0] [] ?_;rintro _ _ ⟨rfl,rfl⟩;refine⟨pB H,[.box 135 [pK a,pI I,pB q],SX,.box 60 [pI b,pS c,pI e,pB f,pI g,pS i,pV j,pT k,pT l,pE m]],rfl,rfl,?_⟩;conv=>whnf
 apply ifc h<;>intro _ h
 ·conv=>whnf
  refine bq h fun⟨⟨J,K,⟨L,M,N,O,P,Q⟩,R,T⟩,t,u⟩ y h=>?_;refine zg (g121_ok _ _ _ _ y) [0] [] ?_;rintro _ _ ⟨rfl,rfl⟩;refine⟨.p (.agg [.int .i64 J,.str K,.int .i64 L,.bool M,.int .i64 N,.str O,.sl (Val.rows P),.sl (qy Q),.sl (qy R),.sl (qb.rows T)]),[.box 135 [pK a,pI t,pB u],SX,.box 60 [pI b,pS c,pI e,pB f,pI g,pS i,pV j,pT k,pT l,pE m]],rfl,rfl,?_⟩;conv=>whnf
  refine bq h fun⟨V,W,⟨X,Y,Z,a0,a1,a2⟩,a4,a5⟩ z h=>⟨_,(xy n _ _ _ _ z),?_⟩;conv=>whnf
  exact⟨(t,u,V,W,X,Y,Z,a0,a1,a2,a4,a5),h,wk [0,1,2] []⟩
 obtain rfl:=sj h;conv=>whnf
 refine⟨_,_,⟨rfl,rfl⟩,wk [0] []⟩
theorem Xo (n:Nat) (g125:ZJ) (g80 g121:zW) (g161 g197:zW) (g237 g256:zW) (g282 g295 g301:zW) (g305:ZK) (g306:ZL) (g125_ok:EN g125) (g80_ok:EO g80) (g121_ok:EP g121) (g161_ok:ER g161) (g197_ok:ES g197) (g237_ok:ET g237) (g256_ok:EU g256) (g282_ok:EW g282) (g295_ok:EX g295) (g301_ok:EY g301) (g305_ok:ZH g305) (g306_ok:ZI g306):∀ (a:List qk) (d:Int) (o:Bool) (r:qb×Int×Bool),rW n g125 g80 g121 g161 g197 g237 g256 g282 g295 g301 g305 g306 a d o=some r->zb TP 121 [.ptr 0 0] [.box 135 [pK a,pI d,pB o]] 1 (fun v lo=>v=pZ a d o r/\lo=pM a d o r):=by
 intro a d o r h;unfold rW at h;refine zO Tryz.call121 Tryz.func121 [77,161,1000000] ?_;conv=>whnf
 refine bq h fun⟨⟨U,a3,⟨a6,a7,a8,a9,A,C⟩,D,E⟩,F,G⟩ w h=>?_;refine zg (g161_ok _ _ _ _ w) [0] [] ?_;rintro _ _ ⟨rfl,rfl⟩;refine⟨.p (.agg [.int .i64 U,.str a3,.int .i64 a6,.bool a7,.int .i64 a8,.str a9,.sl (Val.rows A),.sl (qy C),.sl (qy D),.sl (qb.rows E)]),[.box 135 [pK a,pI F,pB G],SX],rfl,rfl,?_⟩;conv=>whnf
 refine zd.fn [77,161,1000000] (S:=Int×Bool×Int×SS×Int×Bool×Int×SS×List Val×List SS×List SS×List qb) (fun(s,q,b,c,e,f,g,i,j,k,l,m)=>[(0,.ptr 0 0),(2,.ptr 1 0),(3,.ptr 2 0)]) (fun(s,q,b,c,e,f,g,i,j,k,l,m)=>[.box 135 [pK a,pI s,pB q],SX,.box 60 [pI b,pS c,pI e,pB f,pI g,pS i,pV j,pT k,pT l,pE m]]) (B:=mW n a g161) h (wk [0,1,2] []) ?_;intro _ st h;obtain⟨s,q,b,c,e,f,g,i,j,k,l,m⟩:=st;unfold mW at h;conv=>whnf
 refine bq h fun⟨H,I⟩ x h=>?_;refine zg (qg n _ _ _ _ _ x) [0] [] ?_;rintro _ _ ⟨rfl,rfl⟩;refine⟨pB H,[.box 135 [pK a,pI I,pB q],SX,.box 60 [pI b,pS c,pI e,pB f,pI g,pS i,pV j,pT k,pT l,pE m]],rfl,rfl,?_⟩;conv=>whnf
 apply ifc h<;>intro _ h
 ·conv=>whnf
  refine bq h fun⟨⟨J,K,⟨L,M,N,O,P,Q⟩,R,T⟩,t,u⟩ y h=>?_;refine zg (g161_ok _ _ _ _ y) [0] [] ?_;rintro _ _ ⟨rfl,rfl⟩;refine⟨.p (.agg [.int .i64 J,.str K,.int .i64 L,.bool M,.int .i64 N,.str O,.sl (Val.rows P),.sl (qy Q),.sl (qy R),.sl (qb.rows T)]),[.box 135 [pK a,pI t,pB u],SX,.box 60 [pI b,pS c,pI e,pB f,pI g,pS i,pV j,pT k,pT l,pE m]],rfl,rfl,?_⟩;conv=>whnf
  refine bq h fun⟨V,W,⟨X,Y,Z,a0,a1,a2⟩,a4,a5⟩ z h=>⟨_,(xy n _ _ _ _ z),?_⟩;conv=>whnf
  exact⟨(t,u,V,W,X,Y,Z,a0,a1,a2,a4,a5),h,wk [0,1,2] []⟩
 obtain rfl:=sj h;conv=>whnf
 refine⟨_,_,⟨rfl,rfl⟩,wk [0] []⟩
theorem Xl (n:Nat) (g125:ZJ) (g80 g121:zW) (g161 g197:zW) (g237 g256:zW) (g282 g295 g301:zW) (g305:ZK) (g306:ZL) (g125_ok:EN g125) (g80_ok:EO g80) (g121_ok:EP g121) (g161_ok:ER g161) (g197_ok:ES g197) (g237_ok:ET g237) (g256_ok:EU g256) (g282_ok:EW g282) (g295_ok:EX g295) (g301_ok:EY g301) (g305_ok:ZH g305) (g306_ok:ZI g306):∀ (a:List qk) (d:Int) (o:Bool) (r:qb×Int×Bool),rT n g125 g80 g121 g161 g197 g237 g256 g282 g295 g301 g305 g306 a d o=some r->zb TP 161 [.ptr 0 0] [.box 135 [pK a,pI d,pB o]] 1 (fun v lo=>v=pW a d o r/\lo=pH a d o r):=by
 intro a d o r h;unfold rT at h;refine zO Tryz.call161 Tryz.func161 [77,197,1000000] ?_;conv=>whnf
 refine bq h fun⟨⟨U,a3,⟨a6,a7,a8,a9,A,C⟩,D,E⟩,F,G⟩ w h=>?_;refine zg (g197_ok _ _ _ _ w) [0] [] ?_;rintro _ _ ⟨rfl,rfl⟩;refine⟨.p (.agg [.int .i64 U,.str a3,.int .i64 a6,.bool a7,.int .i64 a8,.str a9,.sl (Val.rows A),.sl (qy C),.sl (qy D),.sl (qb.rows E)]),[.box 135 [pK a,pI F,pB G],SX],rfl,rfl,?_⟩;conv=>whnf
 refine zd.fn [77,197,1000000] (S:=Int×Bool×Int×SS×Int×Bool×Int×SS×List Val×List SS×List SS×List qb) (fun(s,q,b,c,e,f,g,i,j,k,l,m)=>[(0,.ptr 0 0),(2,.ptr 1 0),(3,.ptr 2 0)]) (fun(s,q,b,c,e,f,g,i,j,k,l,m)=>[.box 135 [pK a,pI s,pB q],SX,.box 60 [pI b,pS c,pI e,pB f,pI g,pS i,pV j,pT k,pT l,pE m]]) (B:=mT n a g197) h (wk [0,1,2] []) ?_;intro _ st h;obtain⟨s,q,b,c,e,f,g,i,j,k,l,m⟩:=st;unfold mT at h;conv=>whnf
 refine bq h fun⟨H,I⟩ x h=>?_;refine zg (qg n _ _ _ _ _ x) [0] [] ?_;rintro _ _ ⟨rfl,rfl⟩;refine⟨pB H,[.box 135 [pK a,pI I,pB q],SX,.box 60 [pI b,pS c,pI e,pB f,pI g,pS i,pV j,pT k,pT l,pE m]],rfl,rfl,?_⟩;conv=>whnf
 apply ifc h<;>intro _ h
 ·conv=>whnf
  refine bq h fun⟨⟨J,K,⟨L,M,N,O,P,Q⟩,R,T⟩,t,u⟩ y h=>?_;refine zg (g197_ok _ _ _ _ y) [0] [] ?_;rintro _ _ ⟨rfl,rfl⟩;refine⟨.p (.agg [.int .i64 J,.str K,.int .i64 L,.bool M,.int .i64 N,.str O,.sl (Val.rows P),.sl (qy Q),.sl (qy R),.sl (qb.rows T)]),[.box 135 [pK a,pI t,pB u],SX,.box 60 [pI b,pS c,pI e,pB f,pI g,pS i,pV j,pT k,pT l,pE m]],rfl,rfl,?_⟩;conv=>whnf
  refine bq h fun⟨V,W,⟨X,Y,Z,a0,a1,a2⟩,a4,a5⟩ z h=>⟨_,(xy n _ _ _ _ z),?_⟩;conv=>whnf
  exact⟨(t,u,V,W,X,Y,Z,a0,a1,a2,a4,a5),h,wk [0,1,2] []⟩
 obtain rfl:=sj h;conv=>whnf
 refine⟨_,_,⟨rfl,rfl⟩,wk [0] []⟩
theorem Xm (n:Nat) (g125:ZJ) (g80 g121:zW) (g161 g197:zW) (g237 g256:zW) (g282 g295 g301:zW) (g305:ZK) (g306:ZL) (g125_ok:EN g125) (g80_ok:EO g80) (g121_ok:EP g121) (g161_ok:ER g161) (g197_ok:ES g197) (g237_ok:ET g237) (g256_ok:EU g256) (g282_ok:EW g282) (g295_ok:EX g295) (g301_ok:EY g301) (g305_ok:ZH g305) (g306_ok:ZI g306):∀ (a:List qk) (c:Int) (b:Bool) (r:qb×Int×Bool),rU n g125 g80 g121 g161 g197 g237 g256 g282 g295 g301 g305 g306 a c b=some r->zb TP 197 [.ptr 0 0] [.box 135 [pK a,pI c,pB b]] 1 (fun v lo=>v=pX a c b r/\lo=pJ a c b r):=by
 intro a c b r h;unfold rU at h;refine zO Tryz.call197 Tryz.func197 [77,197,237,1000000] ?_;conv=>whnf
 refine bq h fun⟨G,H⟩ d h=>?_;refine zg (qg n _ _ _ _ _ d) [0] [] ?_;rintro _ _ ⟨rfl,rfl⟩;refine⟨pB G,[.box 135 [pK a,pI H,pB b],SX],rfl,rfl,?_⟩;conv=>whnf
 apply ifc h<;>intro _ h
 ·conv=>whnf
  refine bq h fun⟨⟨I,J,⟨K,L,i,j,k,l⟩,m,o⟩,q,s⟩ e h=>?_;refine zg (g197_ok _ _ _ _ e) [0] [] ?_;rintro _ _ ⟨rfl,rfl⟩;refine⟨.p (.agg [.int .i64 I,.str J,.int .i64 K,.bool L,.int .i64 i,.str j,.sl (Val.rows k),.sl (qy l),.sl (qy m),.sl (qb.rows o)]),[.box 135 [pK a,pI q,pB s],SX],rfl,rfl,?_⟩;conv=>whnf
  refine bq h fun⟨_,_,⟨_,_,_,_,_,_⟩,_,_⟩ f h=>⟨_,(gW n _ _ _ f),?_⟩;obtain rfl:=sj h;conv=>whnf
  refine⟨_,_,⟨rfl,rfl⟩,wk [0] []⟩
 conv=>whnf
 refine bq h fun⟨⟨t,u,⟨w,x,y,z,A,B⟩,C,D⟩,E,F⟩ g h=>?_;refine zg (g237_ok _ _ _ _ g) [0] [] ?_;rintro _ _ ⟨rfl,rfl⟩;refine⟨.p (.agg [.int .i64 t,.str u,.int .i64 w,.bool x,.int .i64 y,.str z,.sl (Val.rows A),.sl (qy B),.sl (qy C),.sl (qb.rows D)]),[.box 135 [pK a,pI E,pB F],SX],rfl,rfl,?_⟩;obtain rfl:=sj h;conv=>whnf
 refine⟨_,_,⟨rfl,rfl⟩,wk [0] []⟩
theorem Zx (n:Nat) (g125:ZJ) (g80 g121:zW) (g161 g197:zW) (g237 g256:zW) (g282 g295 g301:zW) (g305:ZK) (g306:ZL) (g125_ok:EN g125) (g80_ok:EO g80) (g121_ok:EP g121) (g161_ok:ER g161) (g197_ok:ES g197) (g237_ok:ET g237) (g256_ok:EU g256) (g282_ok:EW g282) (g295_ok:EX g295) (g301_ok:EY g301) (g305_ok:ZH g305) (g306_ok:ZI g306):∀ (a:List qk) (o:Int) (q:Bool) (r:qb×Int×Bool),pk n g125 g80 g121 g161 g197 g237 g256 g282 g295 g301 g305 g306 a o q=some r->zb TP 237 [.ptr 0 0] [.box 135 [pK a,pI o,pB q]] 1 (fun v lo=>v=nr a o q r/\lo=nh a o q r):=by
 intro a o q r h;unfold pk at h;refine zO Tryz.call237 Tryz.func237 [77,81,256,1000000] ?_;conv=>whnf
 refine bq h fun⟨⟨f,g,⟨i,j,k,l,b,c⟩,d,e⟩,J,m⟩ x h=>?_;refine zg (g256_ok _ _ _ _ x) [0] [] ?_;rintro _ _ ⟨rfl,rfl⟩;refine⟨.p (.agg [.int .i64 f,.str g,.int .i64 i,.bool j,.int .i64 k,.str l,.sl (Val.rows b),.sl (qy c),.sl (qy d),.sl (qb.rows e)]),[.box 135 [pK a,pI J,pB m],SX],rfl,rfl,?_⟩;conv=>whnf
 refine bq h fun⟨K,L⟩ A h=>?_;refine zg (qg n _ _ _ _ _ A) [0] [] ?_;rintro _ _ ⟨rfl,rfl⟩;refine⟨pB K,[.box 135 [pK a,pI L,pB m],SX,.box 60 [pI f,pS g,pI i,pB j,pI k,pS l,pV b,pT c,pT d,pE e]],rfl,rfl,?_⟩;conv=>whnf
 apply ifc h<;>intro t h
 ·conv=>whnf
  refine bq h fun⟨M,N⟩ C h=>?_;refine zg (qg n _ _ _ _ _ C) [0] [] ?_;rintro _ _ ⟨rfl,rfl⟩;refine⟨pB M,[.box 135 [pK a,pI N,pB m],SX,.box 60 [pI f,pS g,pI i,pB j,pI k,pS l,pV b,pT c,pT d,pE e]],rfl,rfl,?_⟩;conv=>whnf
  refine bq h fun⟨O,P⟩ D h=>?_;refine zg (qv n _ _ _ _ _ D) [0] [] ?_;rintro _ _ ⟨rfl,rfl⟩;refine⟨.p (.tup []),[.box 135 [pK a,pI O,pB P],SX,.box 60 [pI f,pS g,pI i,pB j,pI k,pS l,pV b,pT c,pT d,pE e]],rfl,rfl,?_⟩;conv=>whnf
  apply ifc h<;>intro t h
  ·conv=>whnf
   refine bq h fun⟨_,_,⟨_,_,_,_,_,_⟩,_,_⟩ E h=>⟨_,(gW n _ _ _ E),?_⟩;obtain rfl:=sj h;conv=>whnf
   refine⟨_,_,⟨rfl,rfl⟩,wk [0] []⟩
  conv=>whnf
  refine bq h fun⟨_,_,⟨_,_,_,_,_,_⟩,_,_⟩ F h=>⟨_,(gW n _ _ _ F),?_⟩;obtain rfl:=sj h;conv=>whnf
  refine⟨_,_,⟨rfl,rfl⟩,wk [0] []⟩
 conv=>whnf
 refine⟨Codec.one rE [([61]:SS),([60,62]:SS),([60,61]:SS),([60]:SS),([62,61]:SS),([62]:SS),([73,78]:SS)],qy [([61]:SS),([60,62]:SS),([60,61]:SS),([60]:SS),([62,61]:SS),([62]:SS),([73,78]:SS)],.inl rfl,?_⟩;conv=>whnf
 refine zd.fn [77,81,256,1000000] (S:=Int×Int) (fun(s,u)=>[(0,.ptr 0 0),(2,.ptr 1 0),(3,.ptr 2 0),(5,.p (.sl (qy [([61]:SS),([60,62]:SS),([60,61]:SS),([60]:SS),([62,61]:SS),([62]:SS),([73,78]:SS)]))),(6,pI s)]) (fun(s,u)=>[.box 135 [pK a,pI u,pB m],SX,.box 60 [pI f,pS g,pI i,pB j,pI k,pS l,pV b,pT c,pT d,pE e]]) (B:=bE n a m g256 f g i j k l b c d e) h (wk [0,1,2] []) ?_;intro _ st h;obtain⟨s,u⟩:=st;unfold bE at h;conv=>whnf
 apply ifc h<;>intro t h
 ·conv=>whnf
  refine bq h fun _ z h=>⟨_,Codec.at_ rE z,?_⟩;conv=>whnf
  refine bq h fun⟨Q,w⟩ G h=>?_;refine zg (qg n _ _ _ _ _ G) [0] [] ?_;rintro _ _ ⟨rfl,rfl⟩;refine⟨pB Q,[.box 135 [pK a,pI w,pB m],SX,.box 60 [pI f,pS g,pI i,pB j,pI k,pS l,pV b,pT c,pT d,pE e]],rfl,rfl,?_⟩;conv=>whnf
  apply ifc h<;>intro t h
  ·conv=>whnf
   refine bq h fun⟨⟨R,T,⟨U,V,W,X,Y,Z⟩,a0,a1⟩,a2,a3⟩ H h=>?_;refine zg (g256_ok _ _ _ _ H) [0] [] ?_;rintro _ _ ⟨rfl,rfl⟩;refine⟨.p (.agg [.int .i64 R,.str T,.int .i64 U,.bool V,.int .i64 W,.str X,.sl (Val.rows Y),.sl (qy Z),.sl (qy a0),.sl (qb.rows a1)]),[.box 135 [pK a,pI a2,pB a3],SX,.box 60 [pI f,pS g,pI i,pB j,pI k,pS l,pV b,pT c,pT d,pE e]],rfl,rfl,?_⟩;conv=>whnf
   refine bq h fun _ y h=>⟨_,Codec.at_ rE y,?_⟩;conv=>whnf
   refine bq h fun⟨_,_,⟨_,_,_,_,_,_⟩,_,_⟩ I h=>⟨_,(xy n _ _ _ _ I),?_⟩;obtain rfl:=sj h;conv=>whnf
   refine⟨_,_,⟨rfl,rfl⟩,wk [0] []⟩
  conv=>whnf
  exact⟨((kwr .i64 (s+1)),w),h,wk [0,1,2] []⟩
 obtain rfl:=sj h;conv=>whnf
 refine⟨_,_,⟨rfl,rfl⟩,wk [0] []⟩
theorem Xn (n:Nat) (g125:ZJ) (g80 g121:zW) (g161 g197:zW) (g237 g256:zW) (g282 g295 g301:zW) (g305:ZK) (g306:ZL) (g125_ok:EN g125) (g80_ok:EO g80) (g121_ok:EP g121) (g161_ok:ER g161) (g197_ok:ES g197) (g237_ok:ET g237) (g256_ok:EU g256) (g282_ok:EW g282) (g295_ok:EX g295) (g301_ok:EY g301) (g305_ok:ZH g305) (g306_ok:ZI g306):∀ (a:List qk) (q:Int) (s:Bool) (r:qb×Int×Bool),rV n g125 g80 g121 g161 g197 g237 g256 g282 g295 g301 g305 g306 a q s=some r->zb TP 256 [.ptr 0 0] [.box 135 [pK a,pI q,pB s]] 1 (fun v lo=>v=pY a q s r/\lo=pL a q s r):=by
 intro a q s r h;unfold rV at h;refine zO Tryz.call256 Tryz.func256 [86,282,1000000] ?_;conv=>whnf
 refine bq h fun⟨⟨Z,a8,⟨b5,c6,d5,d8,K,L⟩,M,N⟩,O,P⟩ z h=>?_;refine zg (g282_ok _ _ _ _ z) [0] [] ?_;rintro _ _ ⟨rfl,rfl⟩;refine⟨.p (.agg [.int .i64 Z,.str a8,.int .i64 b5,.bool c6,.int .i64 d5,.str d8,.sl (Val.rows K),.sl (qy L),.sl (qy M),.sl (qb.rows N)]),[.box 135 [pK a,pI O,pB P],SX],rfl,rfl,?_⟩;conv=>whnf
 refine zd.fn [86,282,1000000] (S:=Int×Bool×Int×SS×Int×Bool×Int×SS×List Val×List SS×List SS×List qb) (fun(m,o,b,c,d,e,f,g,i,j,k,l)=>[(0,.ptr 0 0),(2,.ptr 1 0),(3,.ptr 2 0)]) (fun(m,o,b,c,d,e,f,g,i,j,k,l)=>[.box 135 [pK a,pI m,pB o],SX,.box 60 [pI b,pS c,pI d,pB e,pI f,pS g,pV i,pT j,pT k,pE l]]) (B:=mV n a g282) h (wk [0,1,2] []) ?_;intro _ st h;obtain⟨m,o,b,c,d,e,f,g,i,j,k,l⟩:=st;unfold mV at h;conv=>whnf
 refine bq h fun Q A h=>?_;refine zg (zi n _ _ _ _ _ A) [0] [] ?_;rintro _ _ ⟨rfl,rfl⟩;refine⟨pB Q,[.box 135 [pK a,pI m,pB o],SX,.box 60 [pI b,pS c,pI d,pB e,pI f,pS g,pV i,pT j,pT k,pE l]],rfl,rfl,?_⟩;conv=>whnf
 refine⟨fun t=>?_,fun t=>?_⟩
 ·replace h:=uU h t
  conv=>whnf
  refine⟨id,?_⟩;conv=>whnf
  refine bq h fun R C h=>?_;refine zg (zi n _ _ _ _ _ C) [0] [] ?_;rintro _ _ ⟨rfl,rfl⟩;refine⟨pB R,[.box 135 [pK a,pI m,pB o],SX,.box 60 [pI b,pS c,pI d,pB e,pI f,pS g,pV i,pT j,pT k,pE l]],rfl,rfl,?_⟩;conv=>whnf
  refine⟨id,?_⟩;conv=>whnf
  apply ifc h<;>intro J h
  ·conv=>whnf
   refine bq h fun⟨_,_,_,_⟩ F h=>⟨_,Codec.at_ dj F,?_⟩;conv=>whnf
   refine bq h fun⟨⟨T,U,⟨V,W,X,Y,a0,a1⟩,a2,a3⟩,u,w⟩ D h=>?_;refine zg (g282_ok _ _ _ _ D) [0] [] ?_;rintro _ _ ⟨rfl,rfl⟩;refine⟨.p (.agg [.int .i64 T,.str U,.int .i64 V,.bool W,.int .i64 X,.str Y,.sl (Val.rows a0),.sl (qy a1),.sl (qy a2),.sl (qb.rows a3)]),[.box 135 [pK a,pI u,pB w],SX,.box 60 [pI b,pS c,pI d,pB e,pI f,pS g,pV i,pT j,pT k,pE l]],rfl,rfl,?_⟩;conv=>whnf
   refine bq h fun⟨a4,a5,⟨a6,a7,a9,b0,b1,b2⟩,b3,b4⟩ E h=>⟨_,(xy n _ _ _ _ E),?_⟩;conv=>whnf
   exact⟨(u,w,a4,a5,a6,a7,a9,b0,b1,b2,b3,b4),h,wk [0,1,2] []⟩
  obtain rfl:=sj h;conv=>whnf
  refine⟨_,_,⟨rfl,rfl⟩,wk [0] []⟩
 replace h:=uT h t;refine⟨pB false,?_⟩;conv=>whnf
 refine⟨id,?_⟩;conv=>whnf
 apply ifc h<;>intro J h
 ·conv=>whnf
  refine bq h fun⟨_,_,_,_⟩ I h=>⟨_,Codec.at_ dj I,?_⟩;conv=>whnf
  refine bq h fun⟨⟨b6,b7,⟨b8,b9,c0,c1,c2,c3⟩,c4,c5⟩,x,y⟩ G h=>?_;refine zg (g282_ok _ _ _ _ G) [0] [] ?_;rintro _ _ ⟨rfl,rfl⟩;refine⟨.p (.agg [.int .i64 b6,.str b7,.int .i64 b8,.bool b9,.int .i64 c0,.str c1,.sl (Val.rows c2),.sl (qy c3),.sl (qy c4),.sl (qb.rows c5)]),[.box 135 [pK a,pI x,pB y],SX,.box 60 [pI b,pS c,pI d,pB e,pI f,pS g,pV i,pT j,pT k,pE l]],rfl,rfl,?_⟩;conv=>whnf
  refine bq h fun⟨c7,c8,⟨c9,d0,d1,d2,d3,d4⟩,d6,d7⟩ H h=>⟨_,(xy n _ _ _ _ H),?_⟩;conv=>whnf
  exact⟨(x,y,c7,c8,c9,d0,d1,d2,d3,d4,d6,d7),h,wk [0,1,2] []⟩
 obtain rfl:=sj h;conv=>whnf
 refine⟨_,_,⟨rfl,rfl⟩,wk [0] []⟩
theorem th (n:Nat) (g125:ZJ) (g80 g121:zW) (g161 g197:zW) (g237 g256:zW) (g282 g295 g301:zW) (g305:ZK) (g306:ZL) (g125_ok:EN g125) (g80_ok:EO g80) (g121_ok:EP g121) (g161_ok:ER g161) (g197_ok:ES g197) (g237_ok:ET g237) (g256_ok:EU g256) (g282_ok:EW g282) (g295_ok:EX g295) (g301_ok:EY g301) (g305_ok:ZH g305) (g306_ok:ZI g306):∀ (a:List qk) (s:Int) (t:Bool) (r:qb×Int×Bool),dn n g125 g80 g121 g161 g197 g237 g256 g282 g295 g301 g305 g306 a s t=some r->zb TP 282 [.ptr 0 0] [.box 135 [pK a,pI s,pB t]] 1 (fun v lo=>v=cw a s t r/\lo=cv a s t r):=by
 intro a s t r h;unfold dn at h;refine zO Tryz.call282 Tryz.func282 [86,295,1000000] ?_;conv=>whnf
 refine bq h fun⟨⟨e1,f0,⟨f8,g8,i7,j4,X,a8⟩,b5,c4⟩,d1,d2⟩ F h=>?_;refine zg (g295_ok _ _ _ _ F) [0] [] ?_;rintro _ _ ⟨rfl,rfl⟩;refine⟨.p (.agg [.int .i64 e1,.str f0,.int .i64 f8,.bool g8,.int .i64 i7,.str j4,.sl (Val.rows X),.sl (qy a8),.sl (qy b5),.sl (qb.rows c4)]),[.box 135 [pK a,pI d1,pB d2],SX],rfl,rfl,?_⟩;conv=>whnf
 refine zd.fn [86,295,1000000] (S:=Int×Bool×Int×SS×Int×Bool×Int×SS×List Val×List SS×List SS×List qb) (fun(o,q,c,d,e,f,g,i,j,k,l,m)=>[(0,.ptr 0 0),(2,.ptr 1 0),(3,.ptr 2 0)]) (fun(o,q,c,d,e,f,g,i,j,k,l,m)=>[.box 135 [pK a,pI o,pB q],SX,.box 60 [pI c,pS d,pI e,pB f,pI g,pS i,pV j,pT k,pT l,pE m]]) (B:=fA n a g295) h (wk [0,1,2] []) ?_;intro _ st h;obtain⟨o,q,c,d,e,f,g,i,j,k,l,m⟩:=st;unfold fA at h;conv=>whnf
 refine bq h fun d3 O h=>?_;refine zg (zi n _ _ _ _ _ O) [0] [] ?_;rintro _ _ ⟨rfl,rfl⟩;refine⟨pB d3,[.box 135 [pK a,pI o,pB q],SX,.box 60 [pI c,pS d,pI e,pB f,pI g,pS i,pV j,pT k,pT l,pE m]],rfl,rfl,?_⟩;conv=>whnf
 refine⟨fun b=>?_,fun b=>?_⟩
 ·replace h:=uU h b
  conv=>whnf
  refine⟨id,?_⟩;conv=>whnf
  refine bq h fun d4 P h=>?_;refine zg (zi n _ _ _ _ _ P) [0] [] ?_;rintro _ _ ⟨rfl,rfl⟩;refine⟨pB d4,[.box 135 [pK a,pI o,pB q],SX,.box 60 [pI c,pS d,pI e,pB f,pI g,pS i,pV j,pT k,pT l,pE m]],rfl,rfl,?_⟩;conv=>whnf
  refine⟨id,?_⟩;conv=>whnf
  refine⟨fun b=>?_,fun b=>?_⟩
  ·replace h:=uU h b
   conv=>whnf
   refine⟨id,?_⟩;conv=>whnf
   refine bq h fun d5 Q h=>?_;refine zg (zi n _ _ _ _ _ Q) [0] [] ?_;rintro _ _ ⟨rfl,rfl⟩;refine⟨pB d5,[.box 135 [pK a,pI o,pB q],SX,.box 60 [pI c,pS d,pI e,pB f,pI g,pS i,pV j,pT k,pT l,pE m]],rfl,rfl,?_⟩;conv=>whnf
   refine⟨id,?_⟩;conv=>whnf
   apply ifc h<;>intro u h
   ·conv=>whnf
    refine bq h fun⟨_,_,_,_⟩ U h=>⟨_,Codec.at_ dj U,?_⟩;(conv=>whnf);refine bq h fun⟨⟨d6,d7,⟨d8,d9,e0,e2,e3,e4⟩,e5,e6⟩,y,z⟩ R h=>?_;refine zg (g295_ok _ _ _ _ R) [0] [] ?_;rintro _ _ ⟨rfl,rfl⟩;refine⟨.p (.agg [.int .i64 d6,.str d7,.int .i64 d8,.bool d9,.int .i64 e0,.str e2,.sl (Val.rows e3),.sl (qy e4),.sl (qy e5),.sl (qb.rows e6)]),[.box 135 [pK a,pI y,pB z],SX,.box 60 [pI c,pS d,pI e,pB f,pI g,pS i,pV j,pT k,pT l,pE m]],rfl,rfl,?_⟩;(conv=>whnf);refine bq h fun⟨e7,e8,⟨e9,f1,f2,f3,f4,f5⟩,f6,f7⟩ T h=>⟨_,(xy n _ _ _ _ T),?_⟩;(conv=>whnf);exact⟨(y,z,e7,e8,e9,f1,f2,f3,f4,f5,f6,f7),h,wk [0,1,2] []⟩
   obtain rfl:=sj h;conv=>whnf
   refine⟨_,_,⟨rfl,rfl⟩,wk [0] []⟩
  replace h:=uT h b;refine⟨pB false,?_⟩;conv=>whnf
  refine⟨id,?_⟩;conv=>whnf
  apply ifc h<;>intro u h
  ·conv=>whnf
   refine bq h fun⟨_,_,_,_⟩ G h=>⟨_,Codec.at_ dj G,?_⟩;conv=>whnf
   refine bq h fun⟨⟨f9,g0,⟨g1,g2,g3,g4,g5,g6⟩,g7,g9⟩,A,C⟩ V h=>?_;refine zg (g295_ok _ _ _ _ V) [0] [] ?_;rintro _ _ ⟨rfl,rfl⟩;refine⟨.p (.agg [.int .i64 f9,.str g0,.int .i64 g1,.bool g2,.int .i64 g3,.str g4,.sl (Val.rows g5),.sl (qy g6),.sl (qy g7),.sl (qb.rows g9)]),[.box 135 [pK a,pI A,pB C],SX,.box 60 [pI c,pS d,pI e,pB f,pI g,pS i,pV j,pT k,pT l,pE m]],rfl,rfl,?_⟩;conv=>whnf
   refine bq h fun⟨i0,i1,⟨i2,i3,i4,i5,i6,i8⟩,i9,j0⟩ W h=>⟨_,(xy n _ _ _ _ W),?_⟩;conv=>whnf
   exact⟨(A,C,i0,i1,i2,i3,i4,i5,i6,i8,i9,j0),h,wk [0,1,2] []⟩
  obtain rfl:=sj h;conv=>whnf
  refine⟨_,_,⟨rfl,rfl⟩,wk [0] []⟩
 replace h:=uT h b;refine⟨pB false,?_⟩;conv=>whnf
 refine⟨id,?_⟩;conv=>whnf
 refine⟨fun b=>?_,fun b=>?_⟩
 ·replace h:=uU h b
  conv=>whnf
  refine⟨id,?_⟩;conv=>whnf
  refine bq h fun j1 H h=>?_;refine zg (zi n _ _ _ _ _ H) [0] [] ?_;rintro _ _ ⟨rfl,rfl⟩;refine⟨pB j1,[.box 135 [pK a,pI o,pB q],SX,.box 60 [pI c,pS d,pI e,pB f,pI g,pS i,pV j,pT k,pT l,pE m]],rfl,rfl,?_⟩;conv=>whnf
  refine⟨id,?_⟩;conv=>whnf
  apply ifc h<;>intro u h
  ·conv=>whnf
   refine bq h fun⟨_,_,_,_⟩ K h=>⟨_,Codec.at_ dj K,?_⟩;conv=>whnf
   refine bq h fun⟨⟨j2,j3,⟨j5,j6,j7,j8,j9,k0⟩,k1,k2⟩,D,E⟩ I h=>?_;refine zg (g295_ok _ _ _ _ I) [0] [] ?_;rintro _ _ ⟨rfl,rfl⟩;refine⟨.p (.agg [.int .i64 j2,.str j3,.int .i64 j5,.bool j6,.int .i64 j7,.str j8,.sl (Val.rows j9),.sl (qy k0),.sl (qy k1),.sl (qb.rows k2)]),[.box 135 [pK a,pI D,pB E],SX,.box 60 [pI c,pS d,pI e,pB f,pI g,pS i,pV j,pT k,pT l,pE m]],rfl,rfl,?_⟩;conv=>whnf
   refine bq h fun⟨Y,Z,⟨a0,a1,a2,a3,a4,a5⟩,a6,a7⟩ J h=>⟨_,(xy n _ _ _ _ J),?_⟩;conv=>whnf
   exact⟨(D,E,Y,Z,a0,a1,a2,a3,a4,a5,a6,a7),h,wk [0,1,2] []⟩
  obtain rfl:=sj h;conv=>whnf
  refine⟨_,_,⟨rfl,rfl⟩,wk [0] []⟩
 replace h:=uT h b;refine⟨pB false,?_⟩;conv=>whnf
 refine⟨id,?_⟩;conv=>whnf
 apply ifc h<;>intro u h
 ·conv=>whnf
  refine bq h fun⟨_,_,_,_⟩ N h=>⟨_,Codec.at_ dj N,?_⟩;conv=>whnf
  refine bq h fun⟨⟨a9,b0,⟨b1,b2,b3,b4,b6,b7⟩,b8,b9⟩,w,x⟩ L h=>?_;refine zg (g295_ok _ _ _ _ L) [0] [] ?_;rintro _ _ ⟨rfl,rfl⟩;refine⟨.p (.agg [.int .i64 a9,.str b0,.int .i64 b1,.bool b2,.int .i64 b3,.str b4,.sl (Val.rows b6),.sl (qy b7),.sl (qy b8),.sl (qb.rows b9)]),[.box 135 [pK a,pI w,pB x],SX,.box 60 [pI c,pS d,pI e,pB f,pI g,pS i,pV j,pT k,pT l,pE m]],rfl,rfl,?_⟩;conv=>whnf
  refine bq h fun⟨c0,c1,⟨c2,c3,c5,c6,c7,c8⟩,c9,d0⟩ M h=>⟨_,(xy n _ _ _ _ M),?_⟩;conv=>whnf
  exact⟨(w,x,c0,c1,c2,c3,c5,c6,c7,c8,c9,d0),h,wk [0,1,2] []⟩
 obtain rfl:=sj h;conv=>whnf
 refine⟨_,_,⟨rfl,rfl⟩,wk [0] []⟩
theorem Qq (n:Nat) (g125:ZJ) (g80 g121:zW) (g161 g197:zW) (g237 g256:zW) (g282 g295 g301:zW) (g305:ZK) (g306:ZL) (g125_ok:EN g125) (g80_ok:EO g80) (g121_ok:EP g121) (g161_ok:ER g161) (g197_ok:ES g197) (g237_ok:ET g237) (g256_ok:EU g256) (g282_ok:EW g282) (g295_ok:EX g295) (g301_ok:EY g301) (g305_ok:ZH g305) (g306_ok:ZI g306):∀ (a:List qk) (q:Int) (m:Bool) (r:qb×Int×Bool),mC n g125 g80 g121 g161 g197 g237 g256 g282 g295 g301 g305 g306 a q m=some r->zb TP 295 [.ptr 0 0] [.box 135 [pK a,pI q,pB m]] 1 (fun v lo=>v=bK a q m r/\lo=bI a q m r):=by
 intro a q m r h;unfold mC at h;refine zO Tryz.call295 Tryz.func295 [77,80,81,124,295,301,1000000] ?_;conv=>whnf
 refine bq h fun⟨e1,e2⟩ a8 h=>?_;refine zg (qg n _ _ _ _ _ a8) [0] [] ?_;rintro _ _ ⟨rfl,rfl⟩;refine⟨pB e1,[.box 135 [pK a,pI e2,pB m],SX],rfl,rfl,?_⟩;conv=>whnf
 apply ifc h<;>intro E h
 ·conv=>whnf
  refine bq h fun⟨⟨e6,e9,⟨f1,f6,c1,c2,c3,c4⟩,c5,c6⟩,c7,c8⟩ b3 h=>?_;refine zg (g295_ok _ _ _ _ b3) [0] [] ?_;rintro _ _ ⟨rfl,rfl⟩;refine⟨.p (.agg [.int .i64 e6,.str e9,.int .i64 f1,.bool f6,.int .i64 c1,.str c2,.sl (Val.rows c3),.sl (qy c4),.sl (qy c5),.sl (qb.rows c6)]),[.box 135 [pK a,pI c7,pB c8],SX],rfl,rfl,?_⟩;conv=>whnf
  refine bq h fun⟨_,_,⟨_,_,_,_,_,_⟩,_,_⟩ b4 h=>⟨_,(gW n _ _ _ b4),?_⟩;obtain rfl:=sj h;conv=>whnf
  refine⟨_,_,⟨rfl,rfl⟩,wk [0] []⟩
 conv=>whnf
 refine bq h fun⟨⟨c9,d0,⟨d1,d2,d3,d4,d5,d6⟩,d7,d8⟩,d9,e0⟩ b5 h=>?_;refine zg (g301_ok _ _ _ _ b5) [0] [] ?_;rintro _ _ ⟨rfl,rfl⟩;refine⟨.p (.agg [.int .i64 c9,.str d0,.int .i64 d1,.bool d2,.int .i64 d3,.str d4,.sl (Val.rows d5),.sl (qy d6),.sl (qy d7),.sl (qb.rows d8)]),[.box 135 [pK a,pI d9,pB e0],SX],rfl,rfl,?_⟩;conv=>whnf
 refine zd.fn [77,80,81,124,295,301,1000000] (S:=Int×Bool×Int×SS×Int×Bool×Int×SS×List Val×List SS×List SS×List qb) (fun(G,o,b,c,d,e,f,g,i,j,k,l)=>[(0,.ptr 0 0),(2,.ptr 1 0),(4,.ptr 2 0)]) (fun(G,o,b,c,d,e,f,g,i,j,k,l)=>[.box 135 [pK a,pI G,pB o],SX,.box 60 [pI b,pS c,pI d,pB e,pI f,pS g,pV i,pT j,pT k,pE l]]) (B:=du n a g80) h (wk [0,1,2] []) ?_;intro _ st h;obtain⟨G,o,b,c,d,e,f,g,i,j,k,l⟩:=st;unfold du at h;conv=>whnf
 refine bq h fun⟨e3,e4⟩ b6 h=>?_;refine zg (qg n _ _ _ _ _ b6) [0] [] ?_;rintro _ _ ⟨rfl,rfl⟩;refine⟨pB e3,[.box 135 [pK a,pI e4,pB o],SX,.box 60 [pI b,pS c,pI d,pB e,pI f,pS g,pV i,pT j,pT k,pE l]],rfl,rfl,?_⟩;conv=>whnf
 apply ifc h<;>intro E h
 ·conv=>whnf
  refine bq h fun⟨H,e5,⟨I,J,K,L,M,N⟩,O,P⟩ b8 h=>⟨_,(gW n _ _ _ b8),?_⟩;conv=>whnf
  refine bq h fun⟨Q,R,T⟩ b7 h=>?_;refine zg (xu n _ _ _ _ b7) [0] [] ?_;rintro _ _ ⟨rfl,rfl⟩;refine⟨pS Q,[.box 135 [pK a,pI R,pB T],SX,.box 60 [pI H,pS e5,pI I,pB J,pI K,pS L,pV M,pT N,pT O,pE P]],rfl,rfl,?_⟩;conv=>whnf
  exact⟨(R,T,H,Q,I,J,K,L,M,N,O,P),h,wk [0,1,2] []⟩
 conv=>whnf
 refine bq h fun⟨e7,e8⟩ b9 h=>?_;refine zg (qg n _ _ _ _ _ b9) [0] [] ?_;rintro _ _ ⟨rfl,rfl⟩;refine⟨pB e7,[.box 135 [pK a,pI e8,pB o],SX,.box 60 [pI b,pS c,pI d,pB e,pI f,pS g,pV i,pT j,pT k,pE l]],rfl,rfl,?_⟩;conv=>whnf
 apply ifc h<;>intro E h
 ·conv=>whnf
  refine bq h fun⟨⟨s,t,⟨u,w,x,y,z,A⟩,C,D⟩,f0,f2⟩ c0 h=>?_;refine zg (g80_ok _ _ _ _ c0) [0] [] ?_;rintro _ _ ⟨rfl,rfl⟩;refine⟨.p (.agg [.int .i64 s,.str t,.int .i64 u,.bool w,.int .i64 x,.str y,.sl (Val.rows z),.sl (qy A),.sl (qy C),.sl (qb.rows D)]),[.box 135 [pK a,pI f0,pB f2],SX,.box 60 [pI b,pS c,pI d,pB e,pI f,pS g,pV i,pT j,pT k,pE l]],rfl,rfl,?_⟩;conv=>whnf
  refine bq h fun⟨U,V⟩ a9 h=>?_;refine zg (qv n _ _ _ _ _ a9) [0] [] ?_;rintro _ _ ⟨rfl,rfl⟩;refine⟨.p (.tup []),[.box 135 [pK a,pI U,pB V],SX,.box 60 [pI b,pS c,pI d,pB e,pI f,pS g,pV i,pT j,pT k,pE l],.box 60 [pI s,pS t,pI u,pB w,pI x,pS y,pV z,pT A,pT C,pE D]],rfl,rfl,?_⟩;conv=>whnf
  refine⟨Codec.one zU [qb.mk b c (Val.mk d e f g i j) k l,qb.mk s t (Val.mk u w x y z A) C D],qb.rows [qb.mk b c (Val.mk d e f g i j) k l,qb.mk s t (Val.mk u w x y z A) C D],.inl rfl,?_⟩;conv=>whnf
  exact⟨(U,V,(7:Int),([]:SS),(0:Int),false,(0:Int),([]:SS),([]:List _),([]:List _),([]:List _),[qb.mk b c (Val.mk d e f g i j) k l,qb.mk s t (Val.mk u w x y z A) C D]),h,wk [0,1,2] []⟩
 conv=>whnf
 refine⟨fun F=>?_,fun F=>?_⟩
 ·replace h:=uU h F
  conv=>whnf
  refine⟨id,?_⟩;conv=>whnf
  refine bq h fun⟨f3,f4⟩ b0 h=>?_;refine zg (qg n _ _ _ _ _ b0) [0] [] ?_;rintro _ _ ⟨rfl,rfl⟩;refine⟨pB f3,[.box 135 [pK a,pI f4,pB o],SX,.box 60 [pI b,pS c,pI d,pB e,pI f,pS g,pV i,pT j,pT k,pE l]],rfl,rfl,?_⟩;conv=>whnf
  refine⟨id,?_⟩;conv=>whnf
  apply ifc h<;>intro E h
  ·conv=>whnf
   refine bq h fun⟨W,f5,⟨X,Y,Z,a0,a1,a2⟩,a3,a4⟩ b2 h=>⟨_,(gW n _ _ _ b2),?_⟩;conv=>whnf
   refine bq h fun⟨a5,a6,a7⟩ b1 h=>?_;refine zg (xu n _ _ _ _ b1) [0] [] ?_;rintro _ _ ⟨rfl,rfl⟩;refine⟨pS a5,[.box 135 [pK a,pI a6,pB a7],SX,.box 60 [pI W,pS f5,pI X,pB Y,pI Z,pS a0,pV a1,pT a2,pT a3,pE a4]],rfl,rfl,?_⟩;conv=>whnf
   exact⟨(a6,a7,W,a5,X,Y,Z,a0,a1,a2,a3,a4),h,wk [0,1,2] []⟩
  obtain rfl:=sj h;conv=>whnf
  refine⟨_,_,⟨rfl,rfl⟩,wk [0] []⟩
 replace h:=uT h F;refine⟨pB false,?_⟩;conv=>whnf
 refine⟨id,?_⟩;conv=>whnf
 refine⟨fun hf=>absurd hf (by first|decide|simp),fun _=>?_⟩;obtain rfl:=sj h;conv=>whnf
 refine⟨_,_,⟨rfl,rfl⟩,wk [0] []⟩
theorem Zu (n:Nat) (g125:ZJ) (g80 g121:zW) (g161 g197:zW) (g237 g256:zW) (g282 g295 g301:zW) (g305:ZK) (g306:ZL) (g125_ok:EN g125) (g80_ok:EO g80) (g121_ok:EP g121) (g161_ok:ER g161) (g197_ok:ES g197) (g237_ok:ET g237) (g256_ok:EU g256) (g282_ok:EW g282) (g295_ok:EX g295) (g301_ok:EY g301) (g305_ok:ZH g305) (g306_ok:ZI g306):∀ (a:List qk) (i:Int) (f:Bool) (r:qb×Int×Bool),pg n g125 g80 g121 g161 g197 g237 g256 g282 g295 g301 g305 g306 a i f=some r->zb TP 301 [.ptr 0 0] [.box 135 [pK a,pI i,pB f]] 1 (fun v lo=>v=ni a i f r/\lo=mY a i f r):=by
 intro a i f r h;unfold pg at h;refine zO Tryz.call301 Tryz.func301 [77,80,81,82,86,125,305,306,40000003,1000000] ?_;conv=>whnf
 apply ifc h<;>intro g h
 ·obtain rfl:=sj h
  conv=>whnf
  refine⟨_,_,⟨rfl,rfl⟩,wk [0] []⟩
 conv=>whnf
 refine bq h fun⟨b,c,d,e⟩ E h=>⟨_,Codec.at_ dj E,?_⟩;conv=>whnf
 apply ifc h<;>intro g h
 ·obtain rfl:=sj h
  conv=>whnf
  refine⟨_,_,⟨rfl,rfl⟩,wk [0] []⟩
 conv=>whnf
 apply ifc h<;>intro g h
 ·obtain rfl:=sj h
  conv=>whnf
  refine⟨_,_,⟨rfl,rfl⟩,wk [0] []⟩
 conv=>whnf
 apply ifc h<;>intro g h
 ·conv=>whnf
  refine bq h fun⟨c5,c6⟩ y h=>?_;refine zg (qg n _ _ _ _ _ y) [0] [] ?_;rintro _ _ ⟨rfl,rfl⟩;refine⟨pB c5,[.box 135 [pK a,pI c6,pB f],SX,.box 137 [pI b,pS c,pI d,pI e]],rfl,rfl,?_⟩;conv=>whnf
  apply ifc h<;>intro g h
  ·conv=>whnf
   refine bq h fun⟨⟨N,O,⟨P,Q,R,S,T,U⟩,V,W⟩,X,Y⟩ F h=>?_;refine zg (g305_ok _ _ _ _ _ F) [0] [] ?_;rintro _ _ ⟨rfl,rfl⟩;refine⟨.p (.agg [.int .i64 N,.str O,.int .i64 P,.bool Q,.int .i64 R,.str S,.sl (Val.rows T),.sl (qy U),.sl (qy V),.sl (qb.rows W)]),[.box 135 [pK a,pI X,pB Y],SX,.box 137 [pI b,pS c,pI d,pI e]],rfl,rfl,?_⟩;obtain rfl:=sj h;conv=>whnf
   refine⟨_,_,⟨rfl,rfl⟩,wk [0] []⟩
  obtain rfl:=sj h;conv=>whnf
  refine⟨_,_,⟨rfl,rfl⟩,wk [0] []⟩
 conv=>whnf
 refine bq h fun⟨Z,a0⟩ G h=>?_;refine zg (qg n _ _ _ _ _ G) [0] [] ?_;rintro _ _ ⟨rfl,rfl⟩;refine⟨pB Z,[.box 135 [pK a,pI a0,pB f],SX,.box 137 [pI b,pS c,pI d,pI e]],rfl,rfl,?_⟩;conv=>whnf
 apply ifc h<;>intro g h
 ·obtain rfl:=sj h
  conv=>whnf
  refine⟨_,_,⟨rfl,rfl⟩,wk [0] []⟩
 conv=>whnf
 refine bq h fun⟨a1,a2⟩ H h=>?_;refine zg (qg n _ _ _ _ _ H) [0] [] ?_;rintro _ _ ⟨rfl,rfl⟩;refine⟨pB a1,[.box 135 [pK a,pI a2,pB f],SX,.box 137 [pI b,pS c,pI d,pI e]],rfl,rfl,?_⟩;conv=>whnf
 apply ifc h<;>intro g h
 ·obtain rfl:=sj h
  conv=>whnf
  refine⟨_,_,⟨rfl,rfl⟩,wk [0] []⟩
 conv=>whnf
 refine bq h fun⟨a3,a4⟩ I h=>?_;refine zg (qg n _ _ _ _ _ I) [0] [] ?_;rintro _ _ ⟨rfl,rfl⟩;refine⟨pB a3,[.box 135 [pK a,pI a4,pB f],SX,.box 137 [pI b,pS c,pI d,pI e]],rfl,rfl,?_⟩;conv=>whnf
 apply ifc h<;>intro g h
 ·obtain rfl:=sj h
  conv=>whnf
  refine⟨_,_,⟨rfl,rfl⟩,wk [0] []⟩
 conv=>whnf
 refine bq h fun⟨a5,a6⟩ J h=>?_;refine zg (qg n _ _ _ _ _ J) [0] [] ?_;rintro _ _ ⟨rfl,rfl⟩;refine⟨pB a5,[.box 135 [pK a,pI a6,pB f],SX,.box 137 [pI b,pS c,pI d,pI e]],rfl,rfl,?_⟩;conv=>whnf
 apply ifc h<;>intro g h
 ·conv=>whnf
  refine bq h fun⟨a7,a8,a9⟩ K h=>?_;refine zg (xh n _ _ _ _ K) [0] [] ?_;rintro _ _ ⟨rfl,rfl⟩;refine⟨pS a7,[.box 135 [pK a,pI a8,pB a9],SX,.box 137 [pI b,pS c,pI d,pI e]],rfl,rfl,?_⟩;obtain rfl:=sj h;conv=>whnf
  refine⟨_,_,⟨rfl,rfl⟩,wk [0] []⟩
 conv=>whnf
 refine bq h fun⟨b0,b1⟩ L h=>?_;refine zg (qg n _ _ _ _ _ L) [0] [] ?_;rintro _ _ ⟨rfl,rfl⟩;refine⟨pB b0,[.box 135 [pK a,pI b1,pB f],SX,.box 137 [pI b,pS c,pI d,pI e]],rfl,rfl,?_⟩;conv=>whnf
 apply ifc h<;>intro g h
 ·conv=>whnf
  refine bq h fun⟨⟨j,k,⟨l,m,o,q,s,t⟩,u,w⟩,b2,b3⟩ M h=>?_;refine zg (g80_ok _ _ _ _ M) [0] [] ?_;rintro _ _ ⟨rfl,rfl⟩;refine⟨.p (.agg [.int .i64 j,.str k,.int .i64 l,.bool m,.int .i64 o,.str q,.sl (Val.rows s),.sl (qy t),.sl (qy u),.sl (qb.rows w)]),[.box 135 [pK a,pI b2,pB b3],SX,.box 137 [pI b,pS c,pI d,pI e]],rfl,rfl,?_⟩;conv=>whnf
  refine bq h fun⟨b4,b5⟩ z h=>?_;refine zg (qv n _ _ _ _ _ z) [0] [] ?_;rintro _ _ ⟨rfl,rfl⟩;refine⟨.p (.tup []),[.box 135 [pK a,pI b4,pB b5],SX,.box 137 [pI b,pS c,pI d,pI e],.box 60 [pI j,pS k,pI l,pB m,pI o,pS q,pV s,pT t,pT u,pE w]],rfl,rfl,?_⟩;obtain rfl:=sj h;conv=>whnf
  refine⟨_,_,⟨rfl,rfl⟩,wk [0] []⟩
 conv=>whnf
 refine bq h fun⟨b6,x⟩ A h=>?_;refine zg (qg n _ _ _ _ _ A) [0] [] ?_;rintro _ _ ⟨rfl,rfl⟩;refine⟨pB b6,[.box 135 [pK a,pI x,pB f],SX,.box 137 [pI b,pS c,pI d,pI e]],rfl,rfl,?_⟩;conv=>whnf
 apply ifc h<;>intro g h
 ·conv=>whnf
  refine bq h fun⟨b7,b8,b9⟩ B h=>?_;refine zg (g306_ok _ _ _ _ _ B) [0] [] ?_;rintro _ _ ⟨rfl,rfl⟩;refine⟨pE b7,[.box 135 [pK a,pI b8,pB b9],SX,.box 137 [pI b,pS c,pI d,pI e]],rfl,rfl,?_⟩;obtain rfl:=sj h;conv=>whnf
  refine⟨_,_,⟨rfl,rfl⟩,wk [0] []⟩
 conv=>whnf
 refine bq h fun c0 C h=>?_;refine zg (zi n _ _ _ _ _ C) [0] [] ?_;rintro _ _ ⟨rfl,rfl⟩;refine⟨pB c0,[.box 135 [pK a,pI x,pB f],SX,.box 137 [pI b,pS c,pI d,pI e]],rfl,rfl,?_⟩;conv=>whnf
 apply ifc h<;>intro g h
 ·conv=>whnf
  refine bq h fun⟨c1,c2,c3,c4⟩ D h=>?_;refine zg (g125_ok _ _ _ _ D) [0] [] ?_;rintro _ _ ⟨rfl,rfl⟩;refine⟨.p (.tup [.sl (qy c1),.sl (qb.rows c2)]),[.box 135 [pK a,pI c3,pB c4],SX,.box 137 [pI b,pS c,pI d,pI e]],rfl,rfl,?_⟩;obtain rfl:=sj h;conv=>whnf
  refine⟨_,_,⟨rfl,rfl⟩,wk [0] []⟩
 obtain rfl:=sj h;conv=>whnf
 refine⟨_,_,⟨rfl,rfl⟩,wk [0] []⟩
theorem Zv (n:Nat) (g125:ZJ) (g80 g121:zW) (g161 g197:zW) (g237 g256:zW) (g282 g295 g301:zW) (g305:ZK) (g306:ZL) (g125_ok:EN g125) (g80_ok:EO g80) (g121_ok:EP g121) (g161_ok:ER g161) (g197_ok:ES g197) (g237_ok:ET g237) (g256_ok:EU g256) (g282_ok:EW g282) (g295_ok:EX g295) (g301_ok:EY g301) (g305_ok:ZH g305) (g306_ok:ZI g306):∀ (b:SS) (a:List qk) (d:Int) (c:Bool) (r:qb×Int×Bool),ph n g125 g80 g121 g161 g197 g237 g256 g282 g295 g301 g305 g306 b a d c=some r->zb TP 305 [.ptr 0 0,.p (PV.str b)] [.box 135 [pK a,pI d,pB c]] 1 (fun v lo=>v=nk a d c r/\lo=mZ a d c r):=by
 intro b a d c r h;unfold ph at h;refine zO Tryz.call305 Tryz.func305 [77,80,81,306,1000000] ?_;conv=>whnf
 refine bq h fun _ L h=>⟨_,(fq n _ _ L),?_⟩;conv=>whnf
 apply ifc h<;>intro M h
 ·conv=>whnf
  refine bq h fun⟨Y,Z,a0⟩ E h=>?_;refine zg (g306_ok _ _ _ _ _ E) [0] [] ?_;rintro _ _ ⟨rfl,rfl⟩;refine⟨pE Y,[.box 135 [pK a,pI Z,pB a0],SX],rfl,rfl,?_⟩;obtain rfl:=sj h;conv=>whnf
  refine⟨_,_,⟨rfl,rfl⟩,wk [0] []⟩
 conv=>whnf
 refine⟨fun D=>?_,fun D=>?_⟩
 ·replace h:=uU h D
  conv=>whnf
  refine⟨id,?_⟩;conv=>whnf
  refine bq h fun⟨a1,N⟩ F h=>?_;refine zg (qg n _ _ _ _ _ F) [0] [] ?_;rintro _ _ ⟨rfl,rfl⟩;refine⟨pB a1,[.box 135 [pK a,pI N,pB c],SX,.box 60 [.p (.int .i64 (14:Int)),pS b,SR,pB false,SR,SU,SV,SV,SV,SV]],rfl,rfl,?_⟩;conv=>whnf
  refine⟨id,?_⟩;conv=>whnf
  apply ifc h<;>intro M h
  ·conv=>whnf
   refine bq h fun⟨O,P⟩ G h=>?_;refine zg (qv n _ _ _ _ _ G) [0] [] ?_;rintro _ _ ⟨rfl,rfl⟩;refine⟨.p (.tup []),[.box 135 [pK a,pI O,pB P],SX,.box 60 [.p (.int .i64 (14:Int)),pS b,SR,pB false,SR,SU,SV,SV,SV,SV]],rfl,rfl,?_⟩;obtain rfl:=sj h;conv=>whnf
   refine⟨_,_,⟨rfl,rfl⟩,wk [0] []⟩
  conv=>whnf
  refine bq h fun⟨⟨e,f,⟨g,i,j,k,l,m⟩,o,q⟩,Q,R⟩ H h=>?_;refine zg (g80_ok _ _ _ _ H) [0] [] ?_;rintro _ _ ⟨rfl,rfl⟩;refine⟨.p (.agg [.int .i64 e,.str f,.int .i64 g,.bool i,.int .i64 j,.str k,.sl (Val.rows l),.sl (qy m),.sl (qy o),.sl (qb.rows q)]),[.box 135 [pK a,pI Q,pB R],SX,.box 60 [.p (.int .i64 (14:Int)),pS b,SR,pB false,SR,SU,SV,SV,SV,SV]],rfl,rfl,?_⟩;conv=>whnf
  refine bq h fun⟨S,T⟩ I h=>?_;refine zg (qv n _ _ _ _ _ I) [0] [] ?_;rintro _ _ ⟨rfl,rfl⟩;refine⟨.p (.tup []),[.box 135 [pK a,pI S,pB T],SX,.box 60 [.p (.int .i64 (14:Int)),pS b,SR,pB false,SR,SU,SV,SV,SV,SV],.box 60 [pI e,pS f,pI g,pB i,pI j,pS k,pV l,pT m,pT o,pE q]],rfl,rfl,?_⟩;conv=>whnf
  refine⟨Codec.one zU [qb.mk e f (Val.mk g i j k l m) o q],qb.rows [qb.mk e f (Val.mk g i j k l m) o q],.inl rfl,?_⟩;obtain rfl:=sj h;conv=>whnf
  refine⟨_,_,⟨rfl,rfl⟩,wk [0] []⟩
 replace h:=uT h D;refine⟨pB false,?_⟩;conv=>whnf
 refine⟨id,?_⟩;conv=>whnf
 refine⟨fun hf=>absurd hf (by first|decide|simp),fun _=>?_⟩;conv=>whnf
 refine bq h fun⟨⟨s,t,⟨u,w,x,y,z,A⟩,B,C⟩,U,V⟩ J h=>?_;refine zg (g80_ok _ _ _ _ J) [0] [] ?_;rintro _ _ ⟨rfl,rfl⟩;refine⟨.p (.agg [.int .i64 s,.str t,.int .i64 u,.bool w,.int .i64 x,.str y,.sl (Val.rows z),.sl (qy A),.sl (qy B),.sl (qb.rows C)]),[.box 135 [pK a,pI U,pB V],SX,.box 60 [.p (.int .i64 (14:Int)),pS b,SR,pB false,SR,SU,SV,SV,SV,SV]],rfl,rfl,?_⟩;conv=>whnf
 refine bq h fun⟨W,X⟩ K h=>?_;refine zg (qv n _ _ _ _ _ K) [0] [] ?_;rintro _ _ ⟨rfl,rfl⟩;refine⟨.p (.tup []),[.box 135 [pK a,pI W,pB X],SX,.box 60 [.p (.int .i64 (14:Int)),pS b,SR,pB false,SR,SU,SV,SV,SV,SV],.box 60 [pI s,pS t,pI u,pB w,pI x,pS y,pV z,pT A,pT B,pE C]],rfl,rfl,?_⟩;conv=>whnf
 refine⟨Codec.one zU [qb.mk s t (Val.mk u w x y z A) B C],qb.rows [qb.mk s t (Val.mk u w x y z A) B C],.inl rfl,?_⟩;obtain rfl:=sj h;conv=>whnf
 refine⟨_,_,⟨rfl,rfl⟩,wk [0] []⟩
theorem Zw (n:Nat) (g125:ZJ) (g80 g121:zW) (g161 g197:zW) (g237 g256:zW) (g282 g295 g301:zW) (g305:ZK) (g306:ZL) (g125_ok:EN g125) (g80_ok:EO g80) (g121_ok:EP g121) (g161_ok:ER g161) (g197_ok:ES g197) (g237_ok:ET g237) (g256_ok:EU g256) (g282_ok:EW g282) (g295_ok:EX g295) (g301_ok:EY g301) (g305_ok:ZH g305) (g306_ok:ZI g306):∀ (q:SS) (m:List qk) (s:Int) (o:Bool) (r:(List qb)×Int×Bool),pj n g125 g80 g121 g161 g197 g237 g256 g282 g295 g301 g305 g306 q m s o=some r->zb TP 306 [.ptr 0 0,.p (PV.str q)] [.box 135 [pK m,pI s,pB o]] 1 (fun v lo=>v=nq m s o r/\lo=ng m s o r):=by
 intro q m s o r h;unfold pj at h;refine zO Tryz.call306 Tryz.func306 [77,80,81,1000000] ?_;conv=>whnf
 refine bq h fun⟨J,K⟩ z h=>?_;refine zg (qg n _ _ _ _ _ z) [0] [] ?_;rintro _ _ ⟨rfl,rfl⟩;refine⟨pB J,[.box 135 [pK m,pI K,pB o]],rfl,rfl,?_⟩;conv=>whnf
 apply ifc h<;>intro E h
 ·obtain rfl:=sj h
  conv=>whnf
  refine⟨_,_,⟨rfl,rfl⟩,wk [0] []⟩
 conv=>whnf
 refine zd.fn [77,80,81,1000000] (S:=List qb×Int×Bool) (fun(l,u,w)=>[(0,.ptr 0 0),(1,pS q),(5,.tsl 1 (qb.rows l))]) (fun(l,u,w)=>[.box 135 [pK m,pI u,pB w],.tail 60 10 (qb.rows l).length]) (B:=bz n g80 m q) h (wk [0,0] [1]) ?_;intro _ st h;obtain⟨l,u,w⟩:=st;unfold bz at h;conv=>whnf
 refine bq h fun⟨⟨a,b,⟨c,d,e,f,g,i⟩,j,k⟩,F,t⟩ A h=>?_;refine zg (g80_ok _ _ _ _ A) [0] [] ?_;rintro _ _ ⟨rfl,rfl⟩;refine⟨.p (.agg [.int .i64 a,.str b,.int .i64 c,.bool d,.int .i64 e,.str f,.sl (Val.rows g),.sl (qy i),.sl (qy j),.sl (qb.rows k)]),[.box 135 [pK m,pI F,pB t],.tail 60 10 (qb.rows l).length],rfl,rfl,?_⟩;conv=>whnf
 refine⟨Codec.one zU [qb.mk a b (Val.mk c d e f g i) j k],qb.rows [qb.mk a b (Val.mk c d e f g i) j k],.inl rfl,?_⟩;conv=>whnf
 rw[show qb.rows l++qb.rows [qb.mk a b (Val.mk c d e f g i) j k]=qb.rows (l++[qb.mk a b (Val.mk c d e f g i) j k])from Codec.append zU l [qb.mk a b (Val.mk c d e f g i) j k]];conv=>whnf
 obtain⟨x,h⟩:=qL h;refine⟨⟨Codec.wide zU (l++[qb.mk a b (Val.mk c d e f g i) j k]),kod x,xK x (by decide)⟩,?_⟩;conv=>whnf
 refine⟨⟨rfl,rfl,rfl⟩,?_⟩;conv=>whnf
 refine bq h fun⟨G,y⟩ C h=>?_;refine zg (qg n _ _ _ _ _ C) [0] [] ?_;rintro _ _ ⟨rfl,rfl⟩;refine⟨pB G,[.box 135 [pK m,pI y,pB t],.dead,.box 60 [pI a,pS b,pI c,pB d,pI e,pS f,pV g,pT i,pT j,pE k],.tail 60 10 (qb.rows (l++[qb.mk a b (Val.mk c d e f g i) j k])).length],rfl,rfl,?_⟩;conv=>whnf
 apply ifc h<;>intro E h
 ·conv=>whnf
  refine bq h fun⟨H,I⟩ D h=>?_;refine zg (qv n _ _ _ _ _ D) [0] [] ?_;rintro _ _ ⟨rfl,rfl⟩;refine⟨.p (.tup []),[.box 135 [pK m,pI H,pB I],.dead,.box 60 [pI a,pS b,pI c,pB d,pI e,pS f,pV g,pT i,pT j,pE k],.tail 60 10 (qb.rows (l++[qb.mk a b (Val.mk c d e f g i) j k])).length],rfl,rfl,?_⟩;obtain rfl:=sj h;conv=>whnf
  refine⟨_,_,⟨rfl,rfl⟩,wk [0] []⟩
 conv=>whnf
 exact⟨((l++[qb.mk a b (Val.mk c d e f g i) j k]),y,t),h,wk [0,3] []⟩
mutual
def qx:Nat->(List qk)->Int->Bool->Option ((List SS)×(List qb)×Int×Bool)
 | 0=>fun _ _ _=>none
 | n+1=>mD n (qx n) (qB n) (qZ n) (qW n) (qX n) (qT n) (qY n) (qw n) (qI n) (qP n) (qQ n) (qS n)
def qB:Nat->(List qk)->Int->Bool->Option (qb×Int×Bool)
 | 0=>fun _ _ _=>none
 | n+1=>pf n (qx n) (qB n) (qZ n) (qW n) (qX n) (qT n) (qY n) (qw n) (qI n) (qP n) (qQ n) (qS n)
def qZ:Nat->(List qk)->Int->Bool->Option (qb×Int×Bool)
 | 0=>fun _ _ _=>none
 | n+1=>rW n (qx n) (qB n) (qZ n) (qW n) (qX n) (qT n) (qY n) (qw n) (qI n) (qP n) (qQ n) (qS n)
def qW:Nat->(List qk)->Int->Bool->Option (qb×Int×Bool)
 | 0=>fun _ _ _=>none
 | n+1=>rT n (qx n) (qB n) (qZ n) (qW n) (qX n) (qT n) (qY n) (qw n) (qI n) (qP n) (qQ n) (qS n)
def qX:Nat->(List qk)->Int->Bool->Option (qb×Int×Bool)
 | 0=>fun _ _ _=>none
 | n+1=>rU n (qx n) (qB n) (qZ n) (qW n) (qX n) (qT n) (qY n) (qw n) (qI n) (qP n) (qQ n) (qS n)
def qT:Nat->(List qk)->Int->Bool->Option (qb×Int×Bool)
 | 0=>fun _ _ _=>none
 | n+1=>pk n (qx n) (qB n) (qZ n) (qW n) (qX n) (qT n) (qY n) (qw n) (qI n) (qP n) (qQ n) (qS n)
def qY:Nat->(List qk)->Int->Bool->Option (qb×Int×Bool)
 | 0=>fun _ _ _=>none
 | n+1=>rV n (qx n) (qB n) (qZ n) (qW n) (qX n) (qT n) (qY n) (qw n) (qI n) (qP n) (qQ n) (qS n)
def qw:Nat->(List qk)->Int->Bool->Option (qb×Int×Bool)
 | 0=>fun _ _ _=>none
 | n+1=>dn n (qx n) (qB n) (qZ n) (qW n) (qX n) (qT n) (qY n) (qw n) (qI n) (qP n) (qQ n) (qS n)
def qI:Nat->(List qk)->Int->Bool->Option (qb×Int×Bool)
 | 0=>fun _ _ _=>none
 | n+1=>mC n (qx n) (qB n) (qZ n) (qW n) (qX n) (qT n) (qY n) (qw n) (qI n) (qP n) (qQ n) (qS n)
def qP:Nat->(List qk)->Int->Bool->Option (qb×Int×Bool)
 | 0=>fun _ _ _=>none
 | n+1=>pg n (qx n) (qB n) (qZ n) (qW n) (qX n) (qT n) (qY n) (qw n) (qI n) (qP n) (qQ n) (qS n)
def qQ:Nat->SS->(List qk)->Int->Bool->Option (qb×Int×Bool)
 | 0=>fun _ _ _ _=>none
 | n+1=>ph n (qx n) (qB n) (qZ n) (qW n) (qX n) (qT n) (qY n) (qw n) (qI n) (qP n) (qQ n) (qS n)
def qS:Nat->SS->(List qk)->Int->Bool->Option ((List qb)×Int×Bool)
 | 0=>fun _ _ _ _=>none
 | n+1=>pj n (qx n) (qB n) (qZ n) (qW n) (qX n) (qT n) (qY n) (qw n) (qI n) (qP n) (qQ n) (qS n)
end
theorem nK (n:Nat):(∀ (c:List qk) (a:Int) (b:Bool) (r:(List SS)×(List qb)×Int×Bool),qx n c a b=some r->zb TP 125 [.ptr 0 0] [.box 135 [pK c,pI a,pB b]] 1 (fun v lo=>v=fJ c a b r/\lo=fH c a b r))/\(∀ (c:List qk) (a:Int) (b:Bool) (r:qb×Int×Bool),qB n c a b=some r->zb TP 80 [.ptr 0 0] [.box 135 [pK c,pI a,pB b]] 1 (fun v lo=>v=cV c a b r/\lo=cU c a b r))/\(∀ (c:List qk) (a:Int) (b:Bool) (r:qb×Int×Bool),qZ n c a b=some r->zb TP 121 [.ptr 0 0] [.box 135 [pK c,pI a,pB b]] 1 (fun v lo=>v=pZ c a b r/\lo=pM c a b r))/\(∀ (c:List qk) (a:Int) (b:Bool) (r:qb×Int×Bool),qW n c a b=some r->zb TP 161 [.ptr 0 0] [.box 135 [pK c,pI a,pB b]] 1 (fun v lo=>v=pW c a b r/\lo=pH c a b r))/\(∀ (c:List qk) (a:Int) (b:Bool) (r:qb×Int×Bool),qX n c a b=some r->zb TP 197 [.ptr 0 0] [.box 135 [pK c,pI a,pB b]] 1 (fun v lo=>v=pX c a b r/\lo=pJ c a b r))/\(∀ (c:List qk) (a:Int) (b:Bool) (r:qb×Int×Bool),qT n c a b=some r->zb TP 237 [.ptr 0 0] [.box 135 [pK c,pI a,pB b]] 1 (fun v lo=>v=nr c a b r/\lo=nh c a b r))/\(∀ (c:List qk) (a:Int) (b:Bool) (r:qb×Int×Bool),qY n c a b=some r->zb TP 256 [.ptr 0 0] [.box 135 [pK c,pI a,pB b]] 1 (fun v lo=>v=pY c a b r/\lo=pL c a b r))/\(∀ (c:List qk) (a:Int) (b:Bool) (r:qb×Int×Bool),qw n c a b=some r->zb TP 282 [.ptr 0 0] [.box 135 [pK c,pI a,pB b]] 1 (fun v lo=>v=cw c a b r/\lo=cv c a b r))/\(∀ (c:List qk) (a:Int) (b:Bool) (r:qb×Int×Bool),qI n c a b=some r->zb TP 295 [.ptr 0 0] [.box 135 [pK c,pI a,pB b]] 1 (fun v lo=>v=bK c a b r/\lo=bI c a b r))/\(∀ (c:List qk) (a:Int) (b:Bool) (r:qb×Int×Bool),qP n c a b=some r->zb TP 301 [.ptr 0 0] [.box 135 [pK c,pI a,pB b]] 1 (fun v lo=>v=ni c a b r/\lo=mY c a b r))/\(∀ (c:SS) (a:List qk) (b:Int) (t:Bool) (r:qb×Int×Bool),qQ n c a b t=some r->zb TP 305 [.ptr 0 0,.p (PV.str c)] [.box 135 [pK a,pI b,pB t]] 1 (fun v lo=>v=nk a b t r/\lo=mZ a b t r))/\(∀ (c:SS) (a:List qk) (b:Int) (t:Bool) (r:(List qb)×Int×Bool),qS n c a b t=some r->zb TP 306 [.ptr 0 0,.p (PV.str c)] [.box 135 [pK a,pI b,pB t]] 1 (fun v lo=>v=nq a b t r/\lo=ng a b t r)):=by
 induction n with
 | zero=>exact⟨(by intros; rename_i h; cases h),(by intros; rename_i h; cases h),(by intros; rename_i h; cases h),(by intros; rename_i h; cases h),(by intros; rename_i h; cases h),(by intros; rename_i h; cases h),(by intros; rename_i h; cases h),(by intros; rename_i h; cases h),(by intros; rename_i h; cases h),(by intros; rename_i h; cases h),(by intros; rename_i h; cases h),(by intros; rename_i h; cases h)⟩
 | succ n ih=>
  obtain⟨d,e,i,j,k,l,m,o,q,s,f,g⟩:=ih;exact⟨Qr n (qx n) (qB n) (qZ n) (qW n) (qX n) (qT n) (qY n) (qw n) (qI n) (qP n) (qQ n) (qS n) d e i j k l m o q s f g,Zt n (qx n) (qB n) (qZ n) (qW n) (qX n) (qT n) (qY n) (qw n) (qI n) (qP n) (qQ n) (qS n) d e i j k l m o q s f g,Xo n (qx n) (qB n) (qZ n) (qW n) (qX n) (qT n) (qY n) (qw n) (qI n) (qP n) (qQ n) (qS n) d e i j k l m o q s f g,Xl n (qx n) (qB n) (qZ n) (qW n) (qX n) (qT n) (qY n) (qw n) (qI n) (qP n) (qQ n) (qS n) d e i j k l m o q s f g,Xm n (qx n) (qB n) (qZ n) (qW n) (qX n) (qT n) (qY n) (qw n) (qI n) (qP n) (qQ n) (qS n) d e i j k l m o q s f g,Zx n (qx n) (qB n) (qZ n) (qW n) (qX n) (qT n) (qY n) (qw n) (qI n) (qP n) (qQ n) (qS n) d e i j k l m o q s f g,Xn n (qx n) (qB n) (qZ n) (qW n) (qX n) (qT n) (qY n) (qw n) (qI n) (qP n) (qQ n) (qS n) d e i j k l m o q s f g,th n (qx n) (qB n) (qZ n) (qW n) (qX n) (qT n) (qY n) (qw n) (qI n) (qP n) (qQ n) (qS n) d e i j k l m o q s f g,Qq n (qx n) (qB n) (qZ n) (qW n) (qX n) (qT n) (qY n) (qw n) (qI n) (qP n) (qQ n) (qS n) d e i j k l m o q s f g,Zu n (qx n) (qB n) (qZ n) (qW n) (qX n) (qT n) (qY n) (qw n) (qI n) (qP n) (qQ n) (qS n) d e i j k l m o q s f g,Zv n (qx n) (qB n) (qZ n) (qW n) (qX n) (qT n) (qY n) (qw n) (qI n) (qP n) (qQ n) (qS n) d e i j k l m o q s f g,Zw n (qx n) (qB n) (qZ n) (qW n) (qX n) (qT n) (qY n) (qw n) (qI n) (qP n) (qQ n) (qS n) d e i j k l m o q s f g⟩
theorem dx (n:Nat):∀ (a:List qk) (b:Int) (c:Bool) (r:(List SS)×(List qb)×Int×Bool),qx n a b c=some r->zb TP 125 [.ptr 0 0] [.box 135 [pK a,pI b,pB c]] 1 (fun v lo=>v=fJ a b c r/\lo=fH a b c r):=(nK n).1
theorem ux (n:Nat):∀ (a:List qk) (b:Int) (c:Bool) (r:qb×Int×Bool),qB n a b c=some r->zb TP 80 [.ptr 0 0] [.box 135 [pK a,pI b,pB c]] 1 (fun v lo=>v=cV a b c r/\lo=cU a b c r):=(nK n).2.1
end W
end
section
set_option maxRecDepth 100000
set_option maxHeartbeats 20000000
open Go Go.Proofs Ax
namespace W
abbrev Uk (_:List qk) (_:Int) (_:Bool) (r:qd×Int×Bool):FV:=.p ((PV.agg (vd.cells r.1)))
abbrev VY (a:List qk) (_:Int) (_:Bool) (r:qd×Int×Bool):List AObj:=[.box 135 [pK a,.p (.int .i64 r.2.1),.p (.bool r.2.2)]]
def fy (n:Nat) (a:List qk) (j:SS) (b:List SS):Int×Bool×List SS×List qb->Option (qd×Int×Bool):=fun(c,d,e,f)=>
 bnd (qH n ([41]:SS) a c d) fun⟨g,i⟩=>
 some (qd.mk j b e f,g,i)
def bA (n:Nat) (a:List qk) (f:SS):LK (Int×Bool×List SS) (qd×Int×Bool):=fun g (s,b,c)=>
 bnd (ql n ([58]:SS) a s b) fun⟨i,d⟩=>
 bif i then(
 bnd (xY n a d b) fun⟨e,j,k⟩=>
 chk (decide ((qy (c++[e])).length * 16<=140737488355328)) (
 g (j,k,(c++[e]))))
 else(
 bnd (zE n ([123]:SS) a d b) fun l=>
 bif l then(
 bnd (qx n a d b) fun⟨m,o,p,q⟩=>
 fy n a f c (p,q,m,o))
 else(
 fy n a f c (d,b,([]:List _),([]:List _))))
def gV (n:Nat) (a:List qk) (b:Int) (c:Bool):Option (qd×Int×Bool):=
 bnd (qH n ([40]:SS) a b c) fun⟨d,e⟩=>
 bnd (vM n a d e) fun⟨f,g,i⟩=>
 qU (bA n a f) n (g,i,([]:List _))
theorem fz (n:Nat):∀ (b:List qk) (f:Int) (g:Bool) (r:qd×Int×Bool),gV n b f g=some r->zb TP 84 [.ptr 0 0] [.box 135 [pK b,pI f,pB g]] 1 (fun v lo=>v=Uk b f g r/\lo=VY b f g r):=by
 intro b f g r h;unfold gV at h;refine zO Tryz.call84 Tryz.func84 [77,81,86,123,124,125,1000000] ?_;conv=>whnf
 refine bq h fun⟨M,N⟩ z h=>?_;refine zg (qv n _ _ _ _ _ z) [0] [] ?_;rintro _ _ ⟨rfl,rfl⟩;refine⟨.p (.tup []),[.box 135 [pK b,pI M,pB N],SZ],rfl,rfl,?_⟩;conv=>whnf
 refine bq h fun⟨c,O,P⟩ A h=>?_;refine zg (gO n _ _ _ _ A) [0] [] ?_;rintro _ _ ⟨rfl,rfl⟩;refine⟨pS c,[.box 135 [pK b,pI O,pB P],SZ,SZ],rfl,rfl,?_⟩;conv=>whnf
 refine zd.fn [77,81,86,123,124,125,1000000] (S:=Int×Bool×List SS) (fun(o,e,a)=>[(0,.ptr 0 0),(2,.ptr 1 0),(3,.ptr 2 0)]) (fun(o,e,a)=>[.box 135 [pK b,pI o,pB e],SZ,.box 85 [pS c,.tsl 3 (qy a),SV,SV],.tail 9 1 (qy a).length]) (B:=bA n b c) h (wk [0,1,2,0] [3]) ?_;intro _ st h;obtain⟨o,e,a⟩:=st;unfold bA at h;conv=>whnf
 refine bq h fun⟨I,k⟩ C h=>?_;refine zg (qg n _ _ _ _ _ C) [0] [] ?_;rintro _ _ ⟨rfl,rfl⟩;refine⟨pB I,[.box 135 [pK b,pI k,pB e],SZ,.box 85 [pS c,.tsl 3 (qy a),SV,SV],.tail 9 1 (qy a).length],rfl,rfl,?_⟩;conv=>whnf
 apply ifc h<;>intro H h
 ·conv=>whnf
  refine bq h fun⟨d,s,t⟩ D h=>?_;refine zg (xu n _ _ _ _ D) [0] [] ?_;rintro _ _ ⟨rfl,rfl⟩;refine⟨pS d,[.box 135 [pK b,pI s,pB t],SZ,.box 85 [pS c,.tsl 3 (qy a),SV,SV],.tail 9 1 (qy a).length],rfl,rfl,?_⟩;conv=>whnf
  refine⟨Codec.one rE [d],qy [d],.inl rfl,?_⟩;conv=>whnf
  rw[show qy a++qy [d]=qy (a++[d])from Codec.append rE a [d]];conv=>whnf
  obtain⟨q,h⟩:=qL h;refine⟨⟨Codec.wide rE (a++[d]),kod q,xK q (by decide)⟩,?_⟩;conv=>whnf
  refine⟨⟨rfl,rfl,rfl⟩,?_⟩;conv=>whnf
  exact⟨(s,t,(a++[d])),h,wk [0,1,2,4] []⟩
 conv=>whnf
 refine nu.cut (S:=Int×Bool×List SS×List qb) (fun(l,m,i,j)=>[(0,.ptr 0 0),(2,.ptr 1 0),(3,.ptr 2 0)]) (fun(l,m,i,j)=>[.box 135 [pK b,pI l,pB m],SZ,.box 85 [pS c,.tsl 3 (qy a),pT i,pE j],.tail 9 1 (qy a).length]) (fy n b c a) (r:=r) ?_ ?_
 ·intro st h
  obtain⟨l,m,i,j⟩:=st;unfold fy at h;conv=>whnf
  refine bq h fun⟨J,K⟩ E h=>?_;refine zg (qv n _ _ _ _ _ E) [0] [] ?_;rintro _ _ ⟨rfl,rfl⟩;refine⟨.p (.tup []),[.box 135 [pK b,pI J,pB K],SZ,.box 85 [pS c,.tsl 3 (qy a),pT i,pE j],.tail 9 1 (qy a).length],rfl,rfl,?_⟩;obtain rfl:=sj h;conv=>whnf
  refine⟨_,_,⟨rfl,rfl⟩,wk [0] []⟩
 conv=>whnf
 refine bq h fun L F h=>?_;refine zg (zi n _ _ _ _ _ F) [0] [] ?_;rintro _ _ ⟨rfl,rfl⟩;refine⟨pB L,[.box 135 [pK b,pI k,pB e],SZ,.box 85 [pS c,.tsl 3 (qy a),SV,SV],.tail 9 1 (qy a).length],rfl,rfl,?_⟩;conv=>whnf
 apply ifc h<;>intro H h
 ·conv=>whnf
  refine bq h fun⟨u,w,x,y⟩ G h=>?_;refine zg (dx n _ _ _ _ G) [0] [] ?_;rintro _ _ ⟨rfl,rfl⟩;refine⟨.p (.tup [.sl (qy u),.sl (qb.rows w)]),[.box 135 [pK b,pI x,pB y],SZ,.box 85 [pS c,.tsl 3 (qy a),SV,SV],.tail 9 1 (qy a).length],rfl,rfl,?_⟩;conv=>whnf
  exact⟨(x,y,u,w),h,wk [0,1,2,3] []⟩
 conv=>whnf
 exact⟨(k,e,([]:List _),([]:List _)),h,wk [0,1,2,3] []⟩
end W
end
