/- A part of the proof: contracts, printed by program. -/
import Derived.Test.YtglihheagfnakaaGreatC
import Derived.Test.YtglihheagfnakaaGreatD
set_option linter.unusedVariables false
set_option linter.unusedSimpArgs false
set_option linter.unnecessarySimpa false
set_option linter.deprecated false
set_option linter.unusedSectionVars false
set_option linter.constructorNameAsVariable false
open Go.IntKind renaming wrap->kwr,bits->kbt
section
set_option maxRecDepth 100000
set_option maxHeartbeats 20000000
open Go Go.Proofs Ax
namespace W
abbrev Dk (r:Int×Int):PV:=PV.tup [PV.int .i64 r.1,PV.int .i64 r.2]
def bx (n:Nat) (f:Int) (b:Int×Int->Option (Int×Int)) (e:Int):Int->Option (Int×Int):=fun c=>
 bnd (Gz n f c) fun⟨d,a⟩=>
 bif(a != 0)then(
 some ((0:Int),a))
 else(
 b (d,(kwr .i64 (e+1))))
def pZ (n:Nat) (b i:SS):LK (Int×Int) (Int×Int):=fun c (d,a)=>
 bif(decide (a<((b.length:Nat):Int)))then(
 bnd (GB n d (10:Int)) fun⟨e,f⟩=>
 bif(f != 0)then(
 some ((0:Int),f))
 else(
 bnd (idx b a) fun g=>
 bif(decide (((b.length:Nat):Int)<((i.length:Nat):Int)))then(
 bx n e c a (kwr .i64 ((0:Int) - (kwr .i64 (kwr .u8 (((g.toNat:Nat):Int) - 48))))))
 else(
 bx n e c a (kwr .i64 (kwr .u8 (((g.toNat:Nat):Int) - 48))))))
 else(
 some (d,(0:Int)))
def bw (n:Nat) (b:SS):SS->Option (Int×Int):=fun a=>
 bnd (Ql n a) fun c=>
 bnd (qE (!(!c)) (idx a (0:Int))) fun d=>
 bif(bif(!c)then true else(bif(((d.toNat:Nat):Int)==48)then(!(b==([48]:SS)))else false))then(
 some ((0:Int),(1:Int)))
 else(
 qC (pZ n a b) n ((0:Int),(0:Int)))
def ZM (n:Nat) (a:SS):Option (Int×Int):=
 bnd (qE (decide (((a.length:Nat):Int)>0)) (idx a (0:Int))) fun b=>
 bif(bif(decide (((a.length:Nat):Int)>0))then(((b.toNat:Nat):Int)==45)else false)then(
 chk (decide (1<=a.length)) (
 bw n a (a.drop 1)))
 else(
 bw n a a)
theorem Cj (n:Nat):∀ (a:SS) (r:Int×Int),ZM n a=some r->qc TP 132 [PV.str a] (Dk r):=by
 intro a r h;unfold ZM at h;refine zN Tryz.call132 Tryz.func132 [1000000] ?_;conv=>whnf
 refine gW.cut (S:=SS) (fun b=>[(0,pS a),(4,pS b)]) (fun b=>[]) (bw n a) (r:=r) ?_ ?_
 ·intro b h
  unfold bw at h;conv=>whnf
  refine bq h fun _ p h=>⟨_,(GA n _ _ p),?_⟩;conv=>whnf
  refine⟨id,?_⟩;conv=>whnf
  refine bq h fun _ o h=>⟨_,fun e=>zM (qa o e),?_⟩;conv=>whnf
  iterate 6 refine⟨id,?_⟩
  conv=>whnf
  apply ifc h<;>intro d h
  ·obtain rfl:=sj h
   conv=>whnf
   try exact oX
  conv=>whnf
  refine qP.fn [1000000] (S:=Int×Int) (fun(g,c)=>[(0,pS a),(4,pS b),(5,pI g),(6,pI c)]) (fun(g,c)=>[]) (B:=pZ n b a) h (wk [] []) ?_;intro t st h;obtain⟨g,c⟩:=st;unfold pZ at h;conv=>whnf
  apply ifc h<;>intro d h
  ·conv=>whnf
   refine bq h fun⟨i,_⟩ m h=>⟨_,(Es n _ _ _ m),?_⟩;conv=>whnf
   apply ifc h<;>intro d h
   ·obtain rfl:=sj h
    conv=>whnf
    try exact oX
   conv=>whnf
   refine bq h fun j l h=>⟨_,zM l,?_⟩;conv=>whnf
   refine gW.cut (S:=Int) (fun f=>[(0,pS a),(4,pS b),(6,pI c),(7,pI i),(9,pI f)]) (fun f=>[]) (bx n i t c) (r:=r) ?_ ?_
   ·intro f h
    unfold bx at h;(conv=>whnf);refine bq h fun⟨u,_⟩ k h=>⟨_,(Er n _ _ _ k),?_⟩;(conv=>whnf);apply ifc h<;>intro d h
    ·obtain rfl:=sj h
     conv=>whnf
     try exact oX
    (conv=>whnf);exact⟨(u,(kwr .i64 (c+1))),h,wk [] []⟩
   conv=>whnf
   apply ifc h<;>intro d h
   ·conv=>whnf
    exact⟨(kwr .i64 ((0:Int) - (kwr .i64 (kwr .u8 (((j.toNat:Nat):Int) - 48))))),h,wk [] []⟩
   conv=>whnf
   exact⟨(kwr .i64 (kwr .u8 (((j.toNat:Nat):Int) - 48))),h,wk [] []⟩
  obtain rfl:=sj h;conv=>whnf
  try exact oX
 conv=>whnf
 refine⟨id,?_⟩;conv=>whnf
 refine bq h fun _ s h=>⟨_,fun e=>zM (qa s e),?_⟩;conv=>whnf
 refine⟨id,id,?_⟩;conv=>whnf
 apply ifc h<;>intro d h
 ·conv=>whnf
  refine⟨1,rfl,?_⟩;conv=>whnf
  obtain⟨q,h⟩:=qb h;refine⟨⟨(kod q:(1<=a.length)),Nat.le_refl _⟩,?_⟩;rw[show List.drop 1 (List.take a.length a)=(a.drop 1)from by rw[List.take_length]];conv=>whnf
  exact⟨(a.drop 1),h,wk [] []⟩
 conv=>whnf
 exact⟨a,h,wk [] []⟩
abbrev ED (r:Bool):PV:=PV.bool r
def se (n:Nat) (a:SS) (b:Int):Option (Bool):=
 bnd (qE (decide (b<((a.length:Nat):Int))) (idx a b)) fun c=>
 bnd (qE (bif(decide (b<((a.length:Nat):Int)))then(decide (((c.toNat:Nat):Int)≥128))else false) (idx a b)) fun d=>
 some (bif(bif(decide (b<((a.length:Nat):Int)))then(decide (((c.toNat:Nat):Int)≥128))else false)then(decide (((d.toNat:Nat):Int)<192))else false)
theorem sX (n:Nat):∀ (b:SS) (c:Int) (r:Bool),se n b c=some r->qc TP 200 [PV.str b,PV.int .i64 c] (ED r):=by
 intro b c r h;unfold se at h;refine zN Tryz.call200 Tryz.func200 [1000000] ?_;conv=>whnf
 refine⟨id,id,?_⟩;conv=>whnf
 refine bq h fun _ e h=>⟨_,fun a=>zM (qa e a),?_⟩;conv=>whnf
 refine⟨id,id,id,id,?_⟩;conv=>whnf
 refine bq h fun _ d h=>⟨_,fun a=>zM (qa d a),?_⟩;conv=>whnf
 refine⟨id,id,?_⟩;obtain rfl:=sj h;conv=>whnf
 try exact oX
abbrev EC (r:Int):PV:=PV.int .i64 r
def Vg (n:Nat) (b:SS) (c:Int):Option (Int):=
 bif(decide (c≥((b.length:Nat):Int)))then(
 some (0:Int))
 else(
 bnd (idx b c) fun a=>
 bif(decide (((a.toNat:Nat):Int)<128))then(
 some (1:Int))
 else(
 bnd (qE (!(bif(decide (((a.toNat:Nat):Int)<194))then true else(decide (((a.toNat:Nat):Int)>244)))) (se n b (kwr .i64 (c+1)))) fun e=>
 bif(bif(bif(decide (((a.toNat:Nat):Int)<194))then true else(decide (((a.toNat:Nat):Int)>244)))then true else(!e))then(
 some (0:Int))
 else(
 bif(decide (((a.toNat:Nat):Int)<224))then(
 some (2:Int))
 else(
 bnd (idx b (kwr .i64 (c+1))) fun d=>
 bnd (se n b (kwr .i64 (c+2))) fun f=>
 bif(bif(bif(!f)then true else(bif(((a.toNat:Nat):Int)==224)then(decide (((d.toNat:Nat):Int)<160))else false))then true else(bif(((a.toNat:Nat):Int)==237)then(decide (((d.toNat:Nat):Int)≥160))else false))then(
 some (0:Int))
 else(
 bif(decide (((a.toNat:Nat):Int)<240))then(
 some (3:Int))
 else(
 bnd (se n b (kwr .i64 (c+3))) fun g=>
 bif(bif(bif(!g)then true else(bif(((a.toNat:Nat):Int)==240)then(decide (((d.toNat:Nat):Int)<144))else false))then true else(bif(((a.toNat:Nat):Int)==244)then(decide (((d.toNat:Nat):Int)≥144))else false))then(
 some (0:Int))
 else(
 some (4:Int))))))))
theorem BU (n:Nat):∀ (b:SS) (c r:Int),Vg n b c=some r->qc TP 170 [PV.str b,PV.int .i64 c] (EC r):=by
 intro b c r h;unfold Vg at h;refine zN Tryz.call170 Tryz.func170 [1000000] ?_;conv=>whnf
 apply ifc h<;>intro a h
 ·obtain rfl:=sj h
  conv=>whnf
  try exact oX
 conv=>whnf
 refine bq h fun _ i h=>⟨_,zM i,?_⟩;conv=>whnf
 apply ifc h<;>intro a h
 ·obtain rfl:=sj h
  conv=>whnf
  try exact oX
 conv=>whnf
 refine⟨id,id,id,id,id,?_⟩;conv=>whnf
 refine bq h fun _ g h=>⟨_,fun j=>(sX n _ _ _ (qa g j)),?_⟩;conv=>whnf
 refine⟨id,id,?_⟩;conv=>whnf
 apply ifc h<;>intro a h
 ·obtain rfl:=sj h
  conv=>whnf
  try exact oX
 conv=>whnf
 apply ifc h<;>intro a h
 ·obtain rfl:=sj h
  conv=>whnf
  try exact oX
 conv=>whnf
 refine bq h fun _ f h=>⟨_,zM f,?_⟩;conv=>whnf
 refine bq h fun _ e h=>⟨_,(sX n _ _ _ e),?_⟩;conv=>whnf
 iterate 12 refine⟨id,?_⟩
 conv=>whnf
 apply ifc h<;>intro a h
 ·obtain rfl:=sj h
  conv=>whnf
  try exact oX
 conv=>whnf
 apply ifc h<;>intro a h
 ·obtain rfl:=sj h
  conv=>whnf
  try exact oX
 conv=>whnf
 refine bq h fun _ d h=>⟨_,(sX n _ _ _ d),?_⟩;conv=>whnf
 iterate 12 refine⟨id,?_⟩
 conv=>whnf
 apply ifc h<;>intro a h
 ·obtain rfl:=sj h
  conv=>whnf
  try exact oX
 obtain rfl:=sj h;conv=>whnf
 try exact oX
abbrev Lt (r:Int):PV:=PV.int .i64 r
def sc (n:Nat) (a:Int):Option (Int):=
 bnd (uZ n a) fun b=>
 bif b then(
 some (kwr .i64 (kwr .u8 (a - 48))))
 else(
 bif(bif(decide (a≥97))then(decide (a<=102))else false)then(
 some (kwr .i64 ((kwr .i64 (kwr .u8 (a - 97)))+10)))
 else(
 bif(bif(decide (a≥65))then(decide (a<=70))else false)then(
 some (kwr .i64 ((kwr .i64 (kwr .u8 (a - 65)))+10)))
 else(
 some (-1:Int))))
theorem pa (n:Nat):∀ (a r:Int),sc n a=some r->qc TP 171 [PV.int .u8 a] (Lt r):=by
 intro a r h;unfold sc at h;refine zN Tryz.call171 Tryz.func171 [1000000] ?_;conv=>whnf
 refine bq h fun _ c h=>⟨_,(fT n _ _ c),?_⟩;conv=>whnf
 apply ifc h<;>intro b h
 ·obtain rfl:=sj h
  conv=>whnf
  try exact oX
 conv=>whnf
 refine⟨id,id,?_⟩;conv=>whnf
 apply ifc h<;>intro b h
 ·obtain rfl:=sj h
  conv=>whnf
  try exact oX
 conv=>whnf
 refine⟨id,id,?_⟩;conv=>whnf
 apply ifc h<;>intro b h
 ·obtain rfl:=sj h
  conv=>whnf
  try exact oX
 obtain rfl:=sj h;conv=>whnf
 try exact oX
abbrev CH (r:SS×Int×Bool):PV:=PV.tup [PV.str r.1,PV.int .i64 r.2.1,PV.bool r.2.2]
def cY (n:Nat) (b:SS) (d:UInt8) (e:SS×Int->Option (SS×Int×Bool)) (a:Int) (c:SS):Bool->Option (SS×Int×Bool):=fun i=>
 bif i then(
 chk (decide ((qp (b++[d])).length * 1<=140737488355328)) (
 e ((b++[d]),(kwr .i64 (a+2)))))
 else(
 bif(((d.toNat:Nat):Int)==110)then(
 chk (decide ((qp (b++[(10:UInt8)])).length * 1<=140737488355328)) (
 e ((b++[(10:UInt8)]),(kwr .i64 (a+2)))))
 else(
 bif(((d.toNat:Nat):Int)==116)then(
 chk (decide ((qp (b++[(9:UInt8)])).length * 1<=140737488355328)) (
 e ((b++[(9:UInt8)]),(kwr .i64 (a+2)))))
 else(
 bif(((d.toNat:Nat):Int)==114)then(
 chk (decide ((qp (b++[(13:UInt8)])).length * 1<=140737488355328)) (
 e ((b++[(13:UInt8)]),(kwr .i64 (a+2)))))
 else(
 bif(((d.toNat:Nat):Int)==120)then(
 bnd (qE (!(decide ((kwr .i64 ((kwr .i64 (a+2))+1))≥((c.length:Nat):Int)))) (idx c (kwr .i64 (a+2)))) fun j=>
 bnd (qE (!(decide ((kwr .i64 ((kwr .i64 (a+2))+1))≥((c.length:Nat):Int)))) (sc n ((j.toNat:Nat):Int))) fun f=>
 bnd (qE (!(bif(decide ((kwr .i64 ((kwr .i64 (a+2))+1))≥((c.length:Nat):Int)))then true else(decide (f<0)))) (idx c (kwr .i64 ((kwr .i64 (a+2))+1)))) fun k=>
 bnd (qE (!(bif(decide ((kwr .i64 ((kwr .i64 (a+2))+1))≥((c.length:Nat):Int)))then true else(decide (f<0)))) (sc n ((k.toNat:Nat):Int))) fun l=>
 bif(bif(bif(decide ((kwr .i64 ((kwr .i64 (a+2))+1))≥((c.length:Nat):Int)))then true else(decide (f<0)))then true else(decide (l<0)))then(
 some (([]:SS),(0:Int),false))
 else(
 bnd (idx c (kwr .i64 (a+2))) fun m=>
 bnd (sc n ((m.toNat:Nat):Int)) fun o=>
 bnd (idx c (kwr .i64 ((kwr .i64 (a+2))+1))) fun p=>
 bnd (sc n ((p.toNat:Nat):Int)) fun q=>
 bnd (u8I (kwr .u8 (kwr .i64 ((kwr .i64 (o * (16:Int)))+q)))) fun g=>
 chk (decide ((qp (b++[g])).length * 1<=140737488355328)) (
 e ((b++[g]),(kwr .i64 ((kwr .i64 (a+2))+2))))))
 else(
 some (([]:SS),(0:Int),false))))))
def nq (n:Nat) (b:SS):LK (SS×Int) (SS×Int×Bool):=fun g (d,a)=>
 bif(decide (a<((b.length:Nat):Int)))then(
 bnd (idx b a) fun e=>
 bnd (Vg n b a) fun i=>
 bif(((e.toNat:Nat):Int)==39)then(
 some (d,(kwr .i64 (a+1)),true))
 else(
 bif(bif(bif(i==0)then true else(decide (((e.toNat:Nat):Int)<32)))then true else(((e.toNat:Nat):Int)==127))then(
 some (([]:SS),(0:Int),false))
 else(
 bif(((e.toNat:Nat):Int) != 92)then(
 bnd (rZ (kwr .i64 (a+i))) fun f=>
 bnd (rZ a) fun j=>
 chk (decide (j<=f/\f<=b.length)) (
 chk (decide ((qp (d++((b.take f).drop j))).length * 1<=140737488355328)) (
 g ((d++((b.take f).drop j)),(kwr .i64 (a+i))))))
 else(
 bif(decide ((kwr .i64 (a+1))≥((b.length:Nat):Int)))then(
 some (([]:SS),(0:Int),false))
 else(
 bnd (idx b (kwr .i64 (a+1))) fun c=>
 bif(((c.toNat:Nat):Int)==92)then(
 cY n d c g a b (((c.toNat:Nat):Int)==92))
 else(
 cY n d c g a b (((c.toNat:Nat):Int)==39)))))))
 else(
 some (([]:SS),(0:Int),false))
def Qn (n:Nat) (a:SS) (b:Int):Option (SS×Int×Bool):=
 bnd (qE (!(decide (b≥((a.length:Nat):Int)))) (idx a b)) fun c=>
 bif(bif(decide (b≥((a.length:Nat):Int)))then true else(((c.toNat:Nat):Int) != 39))then(
 some (([]:SS),(0:Int),false))
 else(
 qC (nq n a) n (([]:List _),(kwr .i64 (b+1))))
theorem GG (n:Nat):∀ (b:SS) (l:Int) (r:SS×Int×Bool),Qn n b l=some r->qc TP 133 [PV.str b,PV.int .i64 l] (CH r):=by
 intro b l r h;unfold Qn at h;refine zN Tryz.call133 Tryz.func133 [1000000] ?_;conv=>whnf
 refine⟨id,id,?_⟩;conv=>whnf
 refine bq h fun _ I h=>⟨_,fun f=>zM (qa I f),?_⟩;conv=>whnf
 refine⟨id,id,?_⟩;conv=>whnf
 apply ifc h<;>intro c h
 ·obtain rfl:=sj h
  conv=>whnf
  try exact oX
 conv=>whnf
 refine qP.fn [1000000] (S:=SS×Int) (fun(a,e)=>[(0,pS b),(7,.tsl 0 (qp a)),(8,pI e)]) (fun(a,e)=>[.tail 5 1 (qp a).length]) (B:=nq n b) h (wk [0] [0]) ?_;intro M st h;obtain⟨a,e⟩:=st;unfold nq at h;conv=>whnf
 apply ifc h<;>intro c h
 ·conv=>whnf
  refine bq h fun _ H h=>⟨_,zM H,?_⟩;conv=>whnf
  refine bq h fun P G h=>⟨_,(BU n _ _ _ G),?_⟩;conv=>whnf
  apply ifc h<;>intro c h
  ·conv=>whnf
   refine⟨_,rfl,?_⟩;obtain rfl:=sj h;conv=>whnf
   try exact oX
  conv=>whnf
  refine⟨id,id,id,id,?_⟩;conv=>whnf
  apply ifc h<;>intro c h
  ·obtain rfl:=sj h
   conv=>whnf
   try exact oX
  conv=>whnf
  apply ifc h<;>intro c h
  ·conv=>whnf
   refine bq h fun g K h=>⟨_,qM K,?_⟩;conv=>whnf
   refine bq h fun j J h=>⟨_,qM J,?_⟩;conv=>whnf
   obtain⟨q,h⟩:=qb h;refine⟨⟨(kod q:(j<=g/\g<=b.length)).1,(kod q:(j<=g/\g<=b.length)).2⟩,?_⟩;conv=>whnf
   rw[show qp a++qp ((b.take g).drop j)=qp (a++((b.take g).drop j))from Codec.append zu a ((b.take g).drop j)];conv=>whnf
   obtain⟨m,h⟩:=qb h;refine⟨⟨Codec.wide zu a,kod m,qO m (by decide)⟩,?_⟩;conv=>whnf
   refine⟨⟨rfl,rfl,rfl⟩,?_⟩;conv=>whnf
   exact⟨((a++((b.take g).drop j)),(kwr .i64 (e+P))),h,wk [1] []⟩
  conv=>whnf
  apply ifc h<;>intro c h
  ·obtain rfl:=sj h
   conv=>whnf
   try exact oX
  conv=>whnf
  refine bq h fun d F h=>⟨_,zM F,?_⟩;conv=>whnf
  refine gW.cut (S:=Bool) (fun k=>[(0,pS b),(7,.tsl 0 (qp a)),(8,.p (.int .i64 (kwr .i64 (e+2)))),(11,.p (.int .u8 ((d.toNat:Nat):Int))),(74,.p (.int .u8 ((d.toNat:Nat):Int))),(75,pB k)]) (fun k=>[.tail 5 1 (qp a).length]) (cY n a d M e b) (r:=r) ?_ ?_
  ·intro k h
   unfold cY at h;conv=>whnf
   apply ifc h<;>intro c h
   ·conv=>whnf
    refine⟨Codec.one zu [d],qp [d],.inl rfl,?_⟩;(conv=>whnf);rw[show qp a++qp [d]=qp (a++[d])from Codec.append zu a [d]];(conv=>whnf);obtain⟨s,h⟩:=qb h;refine⟨⟨Codec.wide zu (a++[d]),kod s,qO s (by decide)⟩,?_⟩;(conv=>whnf);refine⟨⟨rfl,rfl,rfl⟩,?_⟩;(conv=>whnf);exact⟨((a++[d]),(kwr .i64 (e+2))),h,wk [1] []⟩
   conv=>whnf
   apply ifc h<;>intro c h
   ·conv=>whnf
    refine⟨Codec.one zu [(10:UInt8)],qp [(10:UInt8)],.inl rfl,?_⟩;(conv=>whnf);rw[show qp a++qp [(10:UInt8)]=qp (a++[(10:UInt8)])from Codec.append zu a [(10:UInt8)]];(conv=>whnf);obtain⟨t,h⟩:=qb h;refine⟨⟨Codec.wide zu (a++[(10:UInt8)]),kod t,qO t (by decide)⟩,?_⟩;(conv=>whnf);refine⟨⟨rfl,rfl,rfl⟩,?_⟩;(conv=>whnf);exact⟨((a++[(10:UInt8)]),(kwr .i64 (e+2))),h,wk [1] []⟩
   conv=>whnf
   apply ifc h<;>intro c h
   ·conv=>whnf
    refine⟨Codec.one zu [(9:UInt8)],qp [(9:UInt8)],.inl rfl,?_⟩;(conv=>whnf);rw[show qp a++qp [(9:UInt8)]=qp (a++[(9:UInt8)])from Codec.append zu a [(9:UInt8)]];(conv=>whnf);obtain⟨u,h⟩:=qb h;refine⟨⟨Codec.wide zu (a++[(9:UInt8)]),kod u,qO u (by decide)⟩,?_⟩;(conv=>whnf);refine⟨⟨rfl,rfl,rfl⟩,?_⟩;(conv=>whnf);exact⟨((a++[(9:UInt8)]),(kwr .i64 (e+2))),h,wk [1] []⟩
   conv=>whnf
   apply ifc h<;>intro c h
   ·conv=>whnf
    refine⟨Codec.one zu [(13:UInt8)],qp [(13:UInt8)],.inl rfl,?_⟩;(conv=>whnf);rw[show qp a++qp [(13:UInt8)]=qp (a++[(13:UInt8)])from Codec.append zu a [(13:UInt8)]];(conv=>whnf);obtain⟨v,h⟩:=qb h;refine⟨⟨Codec.wide zu (a++[(13:UInt8)]),kod v,qO v (by decide)⟩,?_⟩;(conv=>whnf);refine⟨⟨rfl,rfl,rfl⟩,?_⟩;(conv=>whnf);exact⟨((a++[(13:UInt8)]),(kwr .i64 (e+2))),h,wk [1] []⟩
   conv=>whnf
   apply ifc h<;>intro c h
   ·conv=>whnf
    refine⟨id,id,?_⟩;(conv=>whnf);refine bq h fun _ E h=>⟨_,fun f=>zM (qa E f),?_⟩;(conv=>whnf);refine⟨id,?_⟩;(conv=>whnf);refine bq h fun _ D h=>⟨_,fun f=>(pa n _ _ (qa D f)),?_⟩;(conv=>whnf);refine⟨id,id,id,id,id,?_⟩;(conv=>whnf);refine bq h fun _ C h=>⟨_,fun f=>zM (qa C f),?_⟩;(conv=>whnf);refine⟨id,?_⟩;(conv=>whnf);refine bq h fun _ A h=>⟨_,fun f=>(pa n _ _ (qa A f)),?_⟩;(conv=>whnf);refine⟨id,id,?_⟩;(conv=>whnf);apply ifc h<;>intro c h
    ·obtain rfl:=sj h
     conv=>whnf
     try exact oX
    (conv=>whnf);refine bq h fun _ z h=>?_
    refine⟨_,zM z,?_⟩;(conv=>whnf);refine bq h fun N y h=>⟨_,(pa n _ _ y),?_⟩;(conv=>whnf);refine bq h fun _ x h=>⟨_,zM x,?_⟩;(conv=>whnf);refine bq h fun O w h=>⟨_,(pa n _ _ w),?_⟩;(conv=>whnf);refine bq h fun i L h=>?_;rw[show([[PV.int .u8 (kwr .u8 (kwr .i64 ((kwr .i64 (N * (16:Int)))+O)))]]:List (List PV))=qp [i]from by rw[xN L]; rfl];refine⟨Codec.one zu [i],_,.inl rfl,?_⟩;(conv=>whnf);rw[show qp a++qp [i]=qp (a++[i])from Codec.append zu a [i]];(conv=>whnf);obtain⟨o,h⟩:=qb h;refine⟨⟨Codec.wide zu (a++[i]),kod o,qO o (by decide)⟩,?_⟩;(conv=>whnf);refine⟨⟨rfl,rfl,rfl⟩,?_⟩;(conv=>whnf);exact⟨((a++[i]),(kwr .i64 ((kwr .i64 (e+2))+2))),h,wk [1] []⟩
   obtain rfl:=sj h;conv=>whnf
   try exact oX
  conv=>whnf
  apply ifc h<;>intro c h
  ·conv=>whnf
   exact⟨(((d.toNat:Nat):Int)==92),h,wk [0] []⟩
  conv=>whnf
  exact⟨(((d.toNat:Nat):Int)==39),h,wk [0] []⟩
 obtain rfl:=sj h;conv=>whnf
 try exact oX
abbrev EG (r:SS):PV:=PV.str r
def ta (n:Nat) (c:SS) (d e:Nat):(Int->Option SS)->Int->Option SS:=fun g a=>
 bif(decide (a<((([40,41,91,93,123,125,44,58,46,43,45,42,47,37,61,60,62,36]:SS).length:Nat):Int)))then(
 bnd (rZ (kwr .i64 (a+1))) fun b=>
 bnd (rZ a) fun f=>
 chk (decide (f<=b/\b<=([40,41,91,93,123,125,44,58,46,43,45,42,47,37,61,60,62,36]:SS).length)) (
 bif(((([40,41,91,93,123,125,44,58,46,43,45,42,47,37,61,60,62,36]:SS).take b).drop f)==((c.take d).drop e))then(
 some ((c.take d).drop e))
 else(
 g (kwr .i64 (a+1)))))
 else(
 some ([]:SS))
def mJ (n:Nat) (d:Int) (c:SS):SS->Option SS:=fun a=>
 bif(bif(bif(a==([60,61]:SS))then true else(a==([62,61]:SS)))then true else(a==([60,62]:SS)))then(
 some a)
 else(
 bnd (rZ (kwr .i64 (d+1))) fun b=>
 bnd (rZ d) fun e=>
 chk (decide (e<=b/\b<=c.length)) (
 qC (ta n c b e) n (0:Int)))
def Vi (n:Nat) (a:SS) (b:Int):Option SS:=
 bif(decide ((kwr .i64 (b+1))<((a.length:Nat):Int)))then(
 bnd (rZ (kwr .i64 (b+2))) fun c=>
 bnd (rZ b) fun d=>
 chk (decide (d<=c/\c<=a.length)) (
 mJ n b a ((a.take c).drop d)))
 else(
 mJ n b a ([]:SS))
theorem BX (n:Nat):∀ (a:SS) (c:Int) (r:SS),Vi n a c=some r->qc TP 134 [PV.str a,PV.int .i64 c] (EG r):=by
 intro a c r h;unfold Vi at h;refine zN Tryz.call134 Tryz.func134 [1000000] ?_;conv=>whnf
 refine gW.cut (S:=SS) (fun k=>[(0,pS a),(1,pI c),(5,pS k)]) (fun k=>[]) (mJ n c a) (r:=r) ?_ ?_
 ·intro k h
  unfold mJ at h;conv=>whnf
  refine⟨id,id,id,id,?_⟩;conv=>whnf
  apply ifc h<;>intro i h
  ·obtain rfl:=sj h
   conv=>whnf
   try exact oX
  conv=>whnf
  refine bq h fun b v h=>⟨_,qM v,?_⟩;conv=>whnf
  refine bq h fun e u h=>⟨_,qM u,?_⟩;conv=>whnf
  obtain⟨m,h⟩:=qb h;refine⟨⟨(kod m:(e<=b/\b<=a.length)).1,(kod m:(e<=b/\b<=a.length)).2⟩,?_⟩;conv=>whnf
  refine qP.fn [1000000] (S:=Int) (fun f=>[(6,.p (.str ((a.take b).drop e))),(7,.p (.str ([40,41,91,93,123,125,44,58,46,43,45,42,47,37,61,60,62,36]:SS))),(8,pI f)]) (fun f=>[]) (B:=ta n a b e) h (wk [] []) ?_;intro _ f h;unfold ta at h;conv=>whnf
  apply ifc h<;>intro i h
  ·conv=>whnf
   refine bq h fun g t h=>⟨_,qM t,?_⟩;conv=>whnf
   refine bq h fun q s h=>⟨_,qM s,?_⟩;conv=>whnf
   obtain⟨l,h⟩:=qb h;refine⟨⟨(kod l:(q<=g/\g<=([40,41,91,93,123,125,44,58,46,43,45,42,47,37,61,60,62,36]:SS).length)).1,(kod l:(q<=g/\g<=([40,41,91,93,123,125,44,58,46,43,45,42,47,37,61,60,62,36]:SS).length)).2⟩,?_⟩;conv=>whnf
   apply ifc h<;>intro i h
   ·obtain rfl:=sj h
    conv=>whnf
    try exact oX
   conv=>whnf
   exact⟨(kwr .i64 (f+1)),h,wk [] []⟩
  obtain rfl:=sj h;conv=>whnf
  try exact oX
 conv=>whnf
 apply ifc h<;>intro i h
 ·conv=>whnf
  refine bq h fun d x h=>⟨_,qM x,?_⟩;conv=>whnf
  refine bq h fun j w h=>⟨_,qM w,?_⟩;conv=>whnf
  obtain⟨o,h⟩:=qb h;refine⟨⟨(kod o:(j<=d/\d<=a.length)).1,(kod o:(j<=d/\d<=a.length)).2⟩,?_⟩;conv=>whnf
  exact⟨((a.take d).drop j),h,wk [] []⟩
 conv=>whnf
 exact⟨([]:SS),h,wk [] []⟩
end W
end
section
set_option maxRecDepth 100000
set_option maxHeartbeats 20000000
open Go Go.Proofs Ax
namespace W
abbrev Lu (r:qo×Int×Int):PV:=PV.tup [PV.agg (mf.cells r.1),PV.int .i64 r.2.1,PV.int .i64 r.2.2]
def fb (n:Nat) (a:Int):Int×Int×SS×Int->Option (qo×Int×Int):=fun(b,c,d,e)=>
 some (qo.mk c d e a,b,(0:Int))
def Qo (n:Nat) (b:SS) (c:Int):LK (Int) (qo×Int×Int):=fun j a=>
 bnd (qE (decide (a<((b.length:Nat):Int))) (idx b a)) fun k=>
 bnd (qE (decide (a<((b.length:Nat):Int))) (uU n ((k.toNat:Nat):Int))) fun d=>
 bnd (qE ((decide (a<((b.length:Nat):Int)))&&(!d)) (idx b a)) fun l=>
 bnd (qE ((decide (a<((b.length:Nat):Int)))&&(!d)) (uZ n ((l.toNat:Nat):Int))) fun m=>
 bif(bif(decide (a<((b.length:Nat):Int)))then(bif d then true else m)else false)then(
 j (kwr .i64 (a+1)))
 else(
 bif(decide ((kwr .i64 (a - c))>64))then(
 some (qo.mk (0:Int) ([]:SS) (0:Int) c,(0:Int),(1:Int)))
 else(
 bnd (rZ a) fun e=>
 bnd (rZ c) fun g=>
 chk (decide (g<=e/\e<=b.length)) (
 bnd (na n ((b.take e).drop g)) fun⟨o,p⟩=>
 bnd (rZ a) fun f=>
 bnd (rZ c) fun i=>
 chk (decide (i<=f/\f<=b.length)) (
 bif p then(
 fb n c (a,(2:Int),o,(0:Int)))
 else(
 fb n c (a,(1:Int),((b.take f).drop i),(0:Int)))))))
def Qp (n:Nat) (b:SS) (c:Int):LK (Int) (qo×Int×Int):=fun g a=>
 bnd (qE (decide (a<((b.length:Nat):Int))) (idx b a)) fun i=>
 bnd (qE (decide (a<((b.length:Nat):Int))) (uZ n ((i.toNat:Nat):Int))) fun j=>
 bif(bif(decide (a<((b.length:Nat):Int)))then j else false)then(
 g (kwr .i64 (a+1)))
 else(
 bnd (rZ a) fun d=>
 bnd (rZ c) fun e=>
 chk (decide (e<=d/\d<=b.length)) (
 bnd (ZM n ((b.take d).drop e)) fun⟨k,f⟩=>
 bif(f != 0)then(
 some (qo.mk (0:Int) ([]:SS) (0:Int) c,(0:Int),f))
 else(
 fb n c (a,(3:Int),([]:SS),k))))
def GH (n:Nat) (b:SS) (a:Int):Option (qo×Int×Int):=
 bnd (idx b a) fun d=>
 bnd (uU n ((d.toNat:Nat):Int)) fun j=>
 bif j then(
 qC (Qo n b a) n (kwr .i64 (a+1)))
 else(
 bnd (uZ n ((d.toNat:Nat):Int)) fun e=>
 bif e then(
 qC (Qp n b a) n (kwr .i64 (a+1)))
 else(
 bif(((d.toNat:Nat):Int)==39)then(
 bnd (Qn n b a) fun⟨f,g,i⟩=>
 bif(!i)then(
 some (qo.mk (0:Int) ([]:SS) (0:Int) a,(0:Int),(1:Int)))
 else(
 fb n a (g,(4:Int),f,(0:Int))))
 else(
 bnd (Vi n b a) fun c=>
 bif(c==([]:SS))then(
 some (qo.mk (5:Int) c (0:Int) a,(0:Int),(1:Int)))
 else(
 fb n a ((kwr .i64 (a+((c.length:Nat):Int))),(5:Int),c,(0:Int))))))
theorem Eu (n:Nat):∀ (a:SS) (b:Int) (r:qo×Int×Int),GH n a b=some r->qc TP 84 [PV.str a,PV.int .i64 b] (Lu r):=by
 intro a b r h;unfold GH at h;refine zN Tryz.call84 Tryz.func84 [1000000] ?_;conv=>whnf
 refine bq h fun _ K h=>⟨_,zM K,?_⟩;conv=>whnf
 refine gW.cut (S:=Int×Int×SS×Int) (fun(l,m,o,p)=>[(4,.ptr 0 0),(7,.ptr 1 0),(9,pI l)]) (fun(l,m,o,p)=>[.box 119 [zq0,zq1,zq0,zq0],.box 119 [pI m,pS o,pI p,pI b]]) (fb n b) (r:=r) ?_ ?_
 ·intro st h
  obtain⟨l,m,o,p⟩:=st;unfold fb at h;obtain rfl:=sj h;conv=>whnf
  try exact oX
 conv=>whnf
 refine bq h fun _ J h=>⟨_,(cX n _ _ J),?_⟩;conv=>whnf
 apply ifc h<;>intro d h
 ·conv=>whnf
  refine qP.fn [1000000] (S:=Int) (fun e=>[(0,pS a),(1,pI b),(4,.ptr 0 0),(7,.ptr 1 0),(9,pI e)]) (fun e=>[.box 119 [zq0,zq1,zq0,zq0],.box 119 [zq0,zq1,zq0,pI b]]) (B:=Qo n a b) h (wk [0,1] []) ?_;intro _ e h;unfold Qo at h;conv=>whnf
  refine⟨id,id,?_⟩;conv=>whnf
  refine bq h fun _ y h=>⟨_,fun c=>zM (qa y c),?_⟩;conv=>whnf
  refine⟨id,?_⟩;conv=>whnf
  refine bq h fun _ x h=>⟨_,fun c=>(cX n _ _ (qa x c)),?_⟩;conv=>whnf
  refine⟨id,id,id,?_⟩;conv=>whnf
  refine bq h fun _ Q h=>⟨_,fun c=>zM (qa Q c),?_⟩;conv=>whnf
  refine⟨id,?_⟩;conv=>whnf
  refine bq h fun _ P h=>⟨_,fun c=>(fT n _ _ (qa P c)),?_⟩;conv=>whnf
  refine⟨id,id,id,?_⟩;conv=>whnf
  apply ifc h<;>intro d h
  ·conv=>whnf
   exact⟨(kwr .i64 (e+1)),h,wk [0,1] []⟩
  conv=>whnf
  apply ifc h<;>intro d h
  ·obtain rfl:=sj h
   conv=>whnf
   try exact oX
  conv=>whnf
  refine bq h fun i O h=>⟨_,qM O,?_⟩;conv=>whnf
  refine bq h fun u N h=>⟨_,qM N,?_⟩;conv=>whnf
  obtain⟨t,h⟩:=qb h;refine⟨⟨(kod t:(u<=i/\i<=a.length)).1,(kod t:(u<=i/\i<=a.length)).2⟩,?_⟩;conv=>whnf
  refine bq h fun⟨R,_⟩ M h=>⟨_,(Xu n _ _ M),?_⟩;conv=>whnf
  refine bq h fun f L h=>⟨_,qM L,?_⟩;conv=>whnf
  refine bq h fun k H h=>⟨_,qM H,?_⟩;conv=>whnf
  obtain⟨q,h⟩:=qb h;refine⟨⟨(kod q:(k<=f/\f<=a.length)).1,(kod q:(k<=f/\f<=a.length)).2⟩,?_⟩;conv=>whnf
  apply ifc h<;>intro d h
  ·conv=>whnf
   exact⟨(e,(2:Int),R,(0:Int)),h,wk [0,1] []⟩
  conv=>whnf
  exact⟨(e,(1:Int),((a.take f).drop k),(0:Int)),h,wk [0,1] []⟩
 conv=>whnf
 refine bq h fun _ I h=>⟨_,(fT n _ _ I),?_⟩;conv=>whnf
 apply ifc h<;>intro d h
 ·conv=>whnf
  refine qP.fn [1000000] (S:=Int) (fun g=>[(0,pS a),(1,pI b),(4,.ptr 0 0),(7,.ptr 1 0),(9,pI g)]) (fun g=>[.box 119 [zq0,zq1,zq0,zq0],.box 119 [zq0,zq1,zq0,pI b]]) (B:=Qp n a b) h (wk [0,1] []) ?_;intro _ g h;unfold Qp at h;conv=>whnf
  refine⟨id,id,?_⟩;conv=>whnf
  refine bq h fun _ E h=>⟨_,fun c=>zM (qa E c),?_⟩;conv=>whnf
  refine⟨id,?_⟩;conv=>whnf
  refine bq h fun _ D h=>⟨_,fun c=>(fT n _ _ (qa D c)),?_⟩;conv=>whnf
  refine⟨id,?_⟩;conv=>whnf
  apply ifc h<;>intro d h
  ·conv=>whnf
   exact⟨(kwr .i64 (g+1)),h,wk [0,1] []⟩
  conv=>whnf
  refine bq h fun j C h=>⟨_,qM C,?_⟩;conv=>whnf
  refine bq h fun v A h=>⟨_,qM A,?_⟩;conv=>whnf
  obtain⟨s,h⟩:=qb h;refine⟨⟨(kod s:(v<=j/\j<=a.length)).1,(kod s:(v<=j/\j<=a.length)).2⟩,?_⟩;conv=>whnf
  refine bq h fun⟨T,_⟩ z h=>⟨_,(Cj n _ _ z),?_⟩;conv=>whnf
  apply ifc h<;>intro d h
  ·obtain rfl:=sj h
   conv=>whnf
   try exact oX
  conv=>whnf
  exact⟨(g,(3:Int),([]:SS),T),h,wk [0,1] []⟩
 conv=>whnf
 apply ifc h<;>intro d h
 ·conv=>whnf
  refine bq h fun⟨U,V,_⟩ F h=>⟨_,(GG n _ _ _ F),?_⟩;conv=>whnf
  apply ifc h<;>intro d h
  ·obtain rfl:=sj h
   conv=>whnf
   try exact oX
  conv=>whnf
  exact⟨(V,(4:Int),U,(0:Int)),h,wk [0,1] []⟩
 conv=>whnf
 refine bq h fun w G h=>⟨_,(BX n _ _ _ G),?_⟩;conv=>whnf
 apply ifc h<;>intro d h
 ·obtain rfl:=sj h
  conv=>whnf
  try exact oX
 conv=>whnf
 exact⟨((kwr .i64 (b+((w.length:Nat):Int))),(5:Int),w,(0:Int)),h,wk [0,1] []⟩
abbrev EE (r:List qo×Int×Int):PV:=PV.tup [PV.sl (qo.rows r.1),PV.int .i64 r.2.1,PV.int .i64 r.2.2]
def mI (n:Nat) (b:List qo) (g:Int) (f:List qo×Int->Option (List qo×Int×Int)):Int×Int×SS×Int×Int->Option (List qo×Int×Int):=fun(i,a,c,d,e)=>
 bif(decide (((qo.rows b).length:Int)≥4096))then(
 some (([]:List qo),g,(8:Int)))
 else(
 chk (decide ((qo.rows (b++[qo.mk a c d e])).length * 40<=140737488355328)) (
 bif(a==6)then(
 some ((b++[qo.mk a c d e]),(0:Int),(0:Int)))
 else(
 f ((b++[qo.mk a c d e]),i))))
def sZ (n:Nat) (b:SS) (g:List qo) (e:List qo×Int->Option (List qo×Int×Int)):LK (Int) (List qo×Int×Int):=fun j a=>
 bnd (qE (decide (a<((b.length:Nat):Int))) (idx b a)) fun c=>
 bnd (qE ((decide (a<((b.length:Nat):Int)))&&(!(((c.toNat:Nat):Int)==32))) (idx b a)) fun d=>
 bnd (qE ((decide (a<((b.length:Nat):Int)))&&(!(bif(((c.toNat:Nat):Int)==32)then true else(((d.toNat:Nat):Int)==9)))) (idx b a)) fun i=>
 bnd (qE ((decide (a<((b.length:Nat):Int)))&&(!(bif(bif(((c.toNat:Nat):Int)==32)then true else(((d.toNat:Nat):Int)==9))then true else(((i.toNat:Nat):Int)==10)))) (idx b a)) fun q=>
 bif(bif(decide (a<((b.length:Nat):Int)))then(bif(bif(bif(((c.toNat:Nat):Int)==32)then true else(((d.toNat:Nat):Int)==9))then true else(((i.toNat:Nat):Int)==10))then true else(((q.toNat:Nat):Int)==13))else false)then(
 j (kwr .i64 (a+1)))
 else(
 bif(decide (a<((b.length:Nat):Int)))then(
 bnd (GH n b a) fun⟨⟨k,l,m,o⟩,p,f⟩=>
 bif(f != 0)then(
 some (([]:List qo),a,f))
 else(
 mI n g a e (p,k,l,m,o)))
 else(
 mI n g a e (a,(6:Int),([]:SS),(0:Int),a)))
def sY (n:Nat) (b:SS):LK (List qo×Int) (List qo×Int×Int):=fun a (c,d)=>
 qC (sZ n b c a) n d
def Vh (n:Nat) (a:SS):Option (List qo×Int×Int):=
 bif(decide (((a.length:Nat):Int)>16384))then(
 some (([]:List qo),(0:Int),(8:Int)))
 else(
 qC (sY n a) n (([]:List _),(0:Int)))
theorem BV (n:Nat):∀ (f:SS) (r:List qo×Int×Int),Vh n f=some r->qc TP 44 [PV.str f] (EE r):=by
 intro f r h;unfold Vh at h;refine zN Tryz.call44 Tryz.func44 [1000000] ?_;conv=>whnf
 apply ifc h<;>intro j h
 ·obtain rfl:=sj h
  conv=>whnf
  try exact oX
 conv=>whnf
 refine qP.fn [1000000] (S:=List qo×Int) (fun(a,l)=>[(0,pS f),(5,.tsl 0 (qo.rows a)),(6,pI l)]) (fun(a,l)=>[.tail 119 4 (qo.rows a).length]) (B:=sY n f) h (wk [0] [0]) ?_;intro o st h;obtain⟨a,l⟩:=st;unfold sY at h;conv=>whnf
 refine qP.fn [1000000] (S:=Int) (fun g=>[(0,pS f),(5,.tsl 0 (qo.rows a)),(6,pI g)]) (fun g=>[.tail 119 4 (qo.rows a).length]) (B:=sZ n f a o) h (wk [0] []) ?_;intro _ g h;unfold sZ at h;conv=>whnf
 refine⟨id,id,?_⟩;conv=>whnf
 refine bq h fun _ u h=>⟨_,fun i=>zM (qa u i),?_⟩;conv=>whnf
 refine⟨id,id,id,id,?_⟩;conv=>whnf
 refine bq h fun _ t h=>⟨_,fun i=>zM (qa t i),?_⟩;conv=>whnf
 iterate 6 refine⟨id,?_⟩
 conv=>whnf
 refine bq h fun _ s h=>⟨_,fun i=>zM (qa s i),?_⟩;conv=>whnf
 iterate 6 refine⟨id,?_⟩
 conv=>whnf
 refine bq h fun _ q h=>⟨_,fun i=>zM (qa q i),?_⟩;conv=>whnf
 refine⟨id,id,id,id,?_⟩;conv=>whnf
 apply ifc h<;>intro j h
 ·conv=>whnf
  exact⟨(kwr .i64 (g+1)),h,wk [0] []⟩
 conv=>whnf
 refine gW.cut (S:=Int×Int×SS×Int×Int) (fun(k,b,c,d,e)=>[(0,pS f),(5,.tsl 0 (qo.rows a)),(6,pI g),(7,.ptr 1 0),(8,pI k)]) (fun(k,b,c,d,e)=>[.tail 119 4 (qo.rows a).length,.box 119 [pI b,pS c,pI d,pI e]]) (mI n a g o) (r:=r) ?_ ?_
 ·intro st h
  obtain⟨k,b,c,d,e⟩:=st;unfold mI at h;conv=>whnf
  apply ifc h<;>intro j h
  ·obtain rfl:=sj h
   conv=>whnf
   try exact oX
  conv=>whnf
  refine⟨Codec.one mf [qo.mk b c d e],qo.rows [qo.mk b c d e],.inl rfl,?_⟩;conv=>whnf
  rw[show qo.rows a++qo.rows [qo.mk b c d e]=qo.rows (a++[qo.mk b c d e])from Codec.append mf a [qo.mk b c d e]];conv=>whnf
  obtain⟨m,h⟩:=qb h;refine⟨⟨Codec.wide mf (a++[qo.mk b c d e]),kod m,qO m (by decide)⟩,?_⟩;conv=>whnf
  refine⟨⟨rfl,rfl,rfl⟩,?_⟩;conv=>whnf
  apply ifc h<;>intro j h
  ·obtain rfl:=sj h
   conv=>whnf
   try exact oX
  conv=>whnf
  exact⟨((a++[qo.mk b c d e]),k),h,wk [2] []⟩
 conv=>whnf
 apply ifc h<;>intro j h
 ·conv=>whnf
  refine bq h fun⟨⟨v,w,x,y⟩,z,_⟩ p h=>⟨_,(Eu n _ _ _ p),?_⟩;conv=>whnf
  apply ifc h<;>intro j h
  ·obtain rfl:=sj h
   conv=>whnf
   try exact oX
  conv=>whnf
  exact⟨(z,v,w,x,y),h,wk [0,1] []⟩
 conv=>whnf
 exact⟨(g,(6:Int),([]:SS),(0:Int),g),h,wk [0,1] []⟩
abbrev EJ (_:List qo) (_:Int) (_ r:Bool):FV:=pB r
abbrev Ez (a:List qo) (b:Int) (c r:Bool):List AObj:=[.box 117 [pK a,pI b,pB c]]
def xz (n:Nat) (b:SS) (c:List qo) (d:Int) (e:Bool):Option (Bool):=
 bnd (idx c d) fun⟨a,f,_,_⟩=>
 some (bif(bif(!e)then(bif(a==5)then true else(a==2))else false)then(f==b)else false)
theorem zH (n:Nat):∀ (d:SS) (a:List qo) (b:Int) (c r:Bool),xz n d a b c=some r->qS TP 94 [.ptr 0 0,.p (PV.str d)] [.box 117 [pK a,pI b,pB c]] 1 (fun v lo=>v=EJ a b c r/\lo=Ez a b c r):=by
 intro d a b c r h;unfold xz at h;refine zO Tryz.call94 Tryz.func94 [40000001,1000000] ?_;conv=>whnf
 refine bq h fun⟨_,_,_,_⟩ e h=>⟨_,Codec.at_ mf e,?_⟩;conv=>whnf
 iterate 12 refine⟨id,?_⟩
 obtain rfl:=sj h;conv=>whnf
 refine⟨_,_,⟨rfl,rfl⟩,wk [0] []⟩
abbrev Du (_:List qo) (_:Int) (_:Bool) (r:Bool×Int):FV:=.p (.bool r.1)
abbrev Dg (a:List qo) (_:Int) (b:Bool) (r:Bool×Int):List AObj:=[.box 117 [pK a,.p (.int .i64 r.2),pB b]]
def qt (n:Nat) (b:SS) (c:List qo) (a:Int) (d:Bool):Option (Bool×Int):=
 bnd (xz n b c a d) fun e=>
 bif(!e)then(
 some (false,a))
 else(
 some (true,(kwr .i64 (a+1))))
theorem qf (n:Nat):∀ (d:SS) (a:List qo) (b:Int) (c:Bool) (r:Bool×Int),qt n d a b c=some r->qS TP 85 [.ptr 0 0,.p (PV.str d)] [.box 117 [pK a,pI b,pB c]] 1 (fun v lo=>v=Du a b c r/\lo=Dg a b c r):=by
 intro d a b c r h;unfold qt at h;refine zO Tryz.call85 Tryz.func85 [94,1000000] ?_;conv=>whnf
 refine bq h fun f e h=>?_;refine zz (zH n _ _ _ _ _ e) [0] [] ?_;rintro _ _ ⟨rfl,rfl⟩;refine⟨pB f,[.box 117 [pK a,pI b,pB c]],rfl,rfl,?_⟩;conv=>whnf
 apply ifc h<;>intro _ h
 ·obtain rfl:=sj h
  conv=>whnf
  refine⟨_,_,⟨rfl,rfl⟩,wk [0] []⟩
 obtain rfl:=sj h;conv=>whnf
 refine⟨_,_,⟨rfl,rfl⟩,wk [0] []⟩
abbrev CK (_:List qo) (_:Int) (_:Bool) (r:Int×Bool):FV:=.p (.tup [])
abbrev Cy (a:List qo) (_:Int) (_:Bool) (r:Int×Bool):List AObj:=[.box 117 [pK a,.p (.int .i64 r.1),.p (.bool r.2)]]
def qQ (n:Nat) (c:SS) (d:List qo) (e:Int) (a:Bool):Option (Int×Bool):=
 bnd (qt n c d e a) fun⟨f,b⟩=>
 bif(!f)then(
 some (b,true))
 else(
 some (b,a))
theorem qD (n:Nat):∀ (d:SS) (a:List qo) (c:Int) (b:Bool) (r:Int×Bool),qQ n d a c b=some r->qS TP 89 [.ptr 0 0,.p (PV.str d)] [.box 117 [pK a,pI c,pB b]] 1 (fun v lo=>v=CK a c b r/\lo=Cy a c b r):=by
 intro d a c b r h;unfold qQ at h;refine zO Tryz.call89 Tryz.func89 [85,1000000] ?_;conv=>whnf
 refine bq h fun⟨f,g⟩ e h=>?_;refine zz (qf n _ _ _ _ _ e) [0] [] ?_;rintro _ _ ⟨rfl,rfl⟩;refine⟨pB f,[.box 117 [pK a,pI g,pB b]],rfl,rfl,?_⟩;conv=>whnf
 apply ifc h<;>intro _ h
 ·obtain rfl:=sj h
  conv=>whnf
  refine⟨_,_,⟨rfl,rfl⟩,wk [0] []⟩
 obtain rfl:=sj h;conv=>whnf
 refine⟨_,_,⟨rfl,rfl⟩,wk [0] []⟩
abbrev CL (_:List qo) (_:Int) (_:Bool) (r:SS×Int×Bool):FV:=.p (.str r.1)
abbrev Cz (a:List qo) (_:Int) (_:Bool) (r:SS×Int×Bool):List AObj:=[.box 117 [pK a,.p (.int .i64 r.2.1),.p (.bool r.2.2)]]
def vM (n:Nat) (c:List qo) (a:Int) (b:Bool):Option (SS×Int×Bool):=
 bnd (idx c a) fun⟨d,e,_,_⟩=>
 bif(bif b then true else(d != 1))then(
 some (([]:SS),a,true))
 else(
 some (e,(kwr .i64 (a+1)),b))
theorem vu (n:Nat):∀ (a:List qo) (b:Int) (c:Bool) (r:SS×Int×Bool),vM n a b c=some r->qS TP 90 [.ptr 0 0] [.box 117 [pK a,pI b,pB c]] 1 (fun v lo=>v=CL a b c r/\lo=Cz a b c r):=by
 intro a b c r h;unfold vM at h;refine zO Tryz.call90 Tryz.func90 [40000001,1000000] ?_;conv=>whnf
 refine bq h fun⟨_,_,_,_⟩ d h=>⟨_,Codec.at_ mf d,?_⟩;conv=>whnf
 refine⟨id,id,id,?_⟩;conv=>whnf
 apply ifc h<;>intro _ h
 ·obtain rfl:=sj h
  conv=>whnf
  refine⟨_,_,⟨rfl,rfl⟩,wk [0] []⟩
 obtain rfl:=sj h;conv=>whnf
 refine⟨_,_,⟨rfl,rfl⟩,wk [0] []⟩
abbrev XE (_:List qo) (_:Int) (_:Bool) (r:SS×Int×Bool):FV:=.p (.str r.1)
abbrev XB (a:List qo) (_:Int) (_:Bool) (r:SS×Int×Bool):List AObj:=[.box 117 [pK a,.p (.int .i64 r.2.1),.p (.bool r.2.2)]]
def gr (n:Nat) (c:List qo) (b:Int) (a:Bool):Option (SS×Int×Bool):=
 bnd (qE (!a) (idx c b)) fun⟨e,_,_,_⟩=>
 bif(bif a then true else(e != 1))then(
 some (([]:SS),b,a))
 else(
 bnd (vM n c b a) fun⟨f,g,d⟩=>
 some (f,g,d))
theorem cA (n:Nat):∀ (a:List qo) (b:Int) (c:Bool) (r:SS×Int×Bool),gr n a b c=some r->qS TP 138 [.ptr 0 0] [.box 117 [pK a,pI b,pB c]] 1 (fun v lo=>v=XE a b c r/\lo=XB a b c r):=by
 intro a b c r h;unfold gr at h;refine zO Tryz.call138 Tryz.func138 [90,1000000] ?_;conv=>whnf
 iterate 8 refine⟨id,?_⟩
 conv=>whnf
 refine bq h fun⟨_,_,_,_⟩ e h=>⟨_,fun f=>Codec.at_ mf (qa e f),?_⟩;conv=>whnf
 refine⟨id,id,id,id,?_⟩;conv=>whnf
 apply ifc h<;>intro _ h
 ·obtain rfl:=sj h
  conv=>whnf
  refine⟨_,_,⟨rfl,rfl⟩,wk [0] []⟩
 conv=>whnf
 refine bq h fun⟨i,j,g⟩ d h=>?_;refine zz (vu n _ _ _ _ d) [0] [] ?_;rintro _ _ ⟨rfl,rfl⟩;refine⟨pS i,[.box 117 [pK a,pI j,pB g]],rfl,rfl,?_⟩;obtain rfl:=sj h;conv=>whnf
 refine⟨_,_,⟨rfl,rfl⟩,wk [0] []⟩
abbrev Dv (_:List qo) (_:Int) (_:Bool) (r:SS×Int×Bool):FV:=.p (.str r.1)
abbrev Dh (a:List qo) (_:Int) (_:Bool) (r:SS×Int×Bool):List AObj:=[.box 117 [pK a,.p (.int .i64 r.2.1),.p (.bool r.2.2)]]
def uv (n:Nat) (e:List qo) (b:Int) (c:Bool):Option (SS×Int×Bool):=
 bnd (idx e b) fun⟨a,d,_,_⟩=>
 bnd (qE (((!c)&&(a != 1))&&(!(a != 4))) (uG n d)) fun f=>
 bif(bif c then true else(bif(a != 1)then(bif(a != 4)then true else(!f))else false))then(
 some (([]:SS),b,true))
 else(
 some (d,(kwr .i64 (b+1)),c))
theorem vL (n:Nat):∀ (a:List qo) (b:Int) (c:Bool) (r:SS×Int×Bool),uv n a b c=some r->qS TP 139 [.ptr 0 0] [.box 117 [pK a,pI b,pB c]] 1 (fun v lo=>v=Dv a b c r/\lo=Dh a b c r):=by
 intro a b c r h;unfold uv at h;refine zO Tryz.call139 Tryz.func139 [40000001,1000000] ?_;conv=>whnf
 refine bq h fun⟨_,_,_,_⟩ e h=>⟨_,Codec.at_ mf e,?_⟩;conv=>whnf
 iterate 8 refine⟨id,?_⟩
 conv=>whnf
 refine bq h fun _ d h=>⟨_,fun f=>(vt n _ _ (qa d f)),?_⟩;conv=>whnf
 iterate 6 refine⟨id,?_⟩
 conv=>whnf
 apply ifc h<;>intro _ h
 ·obtain rfl:=sj h
  conv=>whnf
  refine⟨_,_,⟨rfl,rfl⟩,wk [0] []⟩
 obtain rfl:=sj h;conv=>whnf
 refine⟨_,_,⟨rfl,rfl⟩,wk [0] []⟩
abbrev Lz (r:qd):PV:=PV.agg (xT.cells r)
def bU (n:Nat) (b:Int) (a:qd):Option (qd):=
 match a with
 | ⟨e,f,⟨g,i,j,k,l,m⟩,c,d⟩=>
 some (qd.mk b ([]:SS) (Val.mk (0:Int) false (0:Int) ([]:SS) ([]:List Val) ([]:List SS)) ([]:List SS) [qd.mk e f (Val.mk g i j k l m) c d])
theorem cK (n:Nat):∀ (b:Int) (a r:qd),bU n b a=some r->qc TP 233 [PV.int .i64 b,PV.agg (xT.cells a)] (Lz r):=by
 intro b a r h;obtain⟨e,f,⟨g,i,j,k,l,m⟩,c,d⟩:=a;unfold bU at h;refine zN Tryz.call233 Tryz.func233 [1000000] ?_;conv=>whnf
 refine⟨Codec.one xT [qd.mk e f (Val.mk g i j k l m) c d],qd.rows [qd.mk e f (Val.mk g i j k l m) c d],.inl rfl,?_⟩;obtain rfl:=sj h;conv=>whnf
 try exact oX
abbrev LA (r:qd):PV:=PV.agg (xT.cells r)
def gu (n:Nat) (c:SS) (a b:qd):Option (qd):=
 match a,b with
 | ⟨p,t,⟨u,v,w,x,y,z⟩,d,e⟩,⟨f,g,⟨i,j,k,l,m,o⟩,q,s⟩=>
 some (qd.mk (10:Int) c (Val.mk (0:Int) false (0:Int) ([]:SS) ([]:List Val) ([]:List SS)) ([]:List SS) [qd.mk p t (Val.mk u v w x y z) d e,qd.mk f g (Val.mk i j k l m o) q s])
theorem vN (n:Nat):∀ (c:SS) (a b r:qd),gu n c a b=some r->qc TP 137 [PV.str c,PV.agg (xT.cells a),PV.agg (xT.cells b)] (LA r):=by
 intro c a b r h;obtain⟨p,t,⟨u,v,w,x,y,z⟩,d,e⟩:=a;obtain⟨f,g,⟨i,j,k,l,m,o⟩,q,s⟩:=b;unfold gu at h;refine zN Tryz.call137 Tryz.func137 [1000000] ?_;conv=>whnf
 refine⟨Codec.one xT [qd.mk p t (Val.mk u v w x y z) d e,qd.mk f g (Val.mk i j k l m o) q s],qd.rows [qd.mk p t (Val.mk u v w x y z) d e,qd.mk f g (Val.mk i j k l m o) q s],.inl rfl,?_⟩;obtain rfl:=sj h;conv=>whnf
 try exact oX
end W
end
section
set_option maxRecDepth 100000
set_option maxHeartbeats 20000000
open Go Go.Proofs Ax
namespace W
abbrev dB (_:List qo) (_:Int) (_:Bool) (r:(List SS)×(List qd)×Int×Bool):FV:=.p (.tup [.sl (qi r.1),.sl (qd.rows r.2.1)])
abbrev dA (a:List qo) (_:Int) (_:Bool) (r:(List SS)×(List qd)×Int×Bool):List AObj:=[.box 117 [pK a,.p (.int .i64 r.2.2.1),.p (.bool r.2.2.2)]]
abbrev xY:Type:=(List qo)->Int->Bool->Option (qd×Int×Bool)
def mo (n:Nat) (a:List qo) (g88:xY):LK (List SS×List qd×Int×Bool) ((List SS)×(List qd)×Int×Bool):=fun v (b,c,t,d)=>
 bif(!d)then(
 bnd (uv n a t d) fun⟨e,w,x⟩=>
 bnd (qQ n ([58]:SS) a w x) fun⟨y,z⟩=>
 bnd (g88 a y z) fun⟨⟨f,g,⟨i,j,k,l,m,o⟩,p,q⟩,A,s⟩=>
 chk (decide ((qi (b++[e])).length * 16<=140737488355328)) (
 chk (decide ((qd.rows (c++[qd.mk f g (Val.mk i j k l m o) p q])).length * 160<=140737488355328)) (
 bnd (qt n ([44]:SS) a A s) fun⟨B,u⟩=>
 bif(!B)then(
 bnd (qQ n ([125]:SS) a u s) fun⟨C,D⟩=>
 some ((b++[e]),(c++[qd.mk f g (Val.mk i j k l m o) p q]),C,D))
 else(
 v ((b++[e]),(c++[qd.mk f g (Val.mk i j k l m o) p q]),u,s)))))
 else(
 some (b,c,t,d))
abbrev UD:Type:=(List qo)->Int->Bool->Option ((List SS)×(List qd)×Int×Bool)
abbrev UE:Type:=SS->(List qo)->Int->Bool->Option (qd×Int×Bool)
abbrev UF:Type:=SS->(List qo)->Int->Bool->Option ((List qd)×Int×Bool)
def pX (n:Nat) (g140:UD) (g88 g136:xY) (g172 g201:xY) (g234 g271:xY) (g289 g308 g311:xY) (g313:UE) (g314:UF) (a:List qo) (d:Int) (e:Bool):Option ((List SS)×(List qd)×Int×Bool):=
 bnd (qQ n ([123]:SS) a d e) fun⟨f,b⟩=>
 bnd (qt n ([125]:SS) a f b) fun⟨g,c⟩=>
 bif g then(
 some (([]:List SS),([]:List qd),c,b))
 else(
 qC (mo n a g88) n (([]:List _),([]:List _),c,b))
abbrev bO (_:List qo) (_:Int) (_:Bool) (r:qd×Int×Bool):FV:=.p ((PV.agg (xT.cells r.1)))
abbrev bN (a:List qo) (_:Int) (_:Bool) (r:qd×Int×Bool):List AObj:=[.box 117 [pK a,.p (.int .i64 r.2.1),.p (.bool r.2.2)]]
def nu (n:Nat) (b:List qo) (g136:xY):LK (Int×Bool×Int×SS×Int×Bool×Int×SS×List Val×List SS×List SS×List qd) (qd×Int×Bool):=fun p (q,a,c,d,e,f,g,i,j,k,l,m)=>
 bnd (qt n ([79,82]:SS) b q a) fun⟨s,o⟩=>
 bif s then(
 bnd (g136 b o a) fun⟨⟨t,u,⟨v,w,x,y,z,A⟩,B,C⟩,D,E⟩=>
 bnd (gu n ([79,82]:SS) (qd.mk c d (Val.mk e f g i j k) l m) (qd.mk t u (Val.mk v w x y z A) B C)) fun⟨F,G,⟨H,I,J,K,L,M⟩,N,O⟩=>
 p (D,E,F,G,H,I,J,K,L,M,N,O))
 else(
 some (qd.mk c d (Val.mk e f g i j k) l m,o,a))
def sR (n:Nat) (g140:UD) (g88 g136:xY) (g172 g201:xY) (g234 g271:xY) (g289 g308 g311:xY) (g313:UE) (g314:UF) (a:List qo) (i:Int) (j:Bool):Option (qd×Int×Bool):=
 bnd (g136 a i j) fun⟨⟨k,l,⟨m,o,p,q,b,c⟩,d,e⟩,f,g⟩=>
 qC (nu n a g136) n (f,g,k,l,m,o,p,q,b,c,d,e)
abbrev tz (_:List qo) (_:Int) (_:Bool) (r:qd×Int×Bool):FV:=.p ((PV.agg (xT.cells r.1)))
abbrev tt (a:List qo) (_:Int) (_:Bool) (r:qd×Int×Bool):List AObj:=[.box 117 [pK a,.p (.int .i64 r.2.1),.p (.bool r.2.2)]]
def rH (n:Nat) (b:List qo) (g172:xY):LK (Int×Bool×Int×SS×Int×Bool×Int×SS×List Val×List SS×List SS×List qd) (qd×Int×Bool):=fun p (q,a,c,d,e,f,g,i,j,k,l,m)=>
 bnd (qt n ([88,79,82]:SS) b q a) fun⟨s,o⟩=>
 bif s then(
 bnd (g172 b o a) fun⟨⟨t,u,⟨v,w,x,y,z,A⟩,B,C⟩,D,E⟩=>
 bnd (gu n ([88,79,82]:SS) (qd.mk c d (Val.mk e f g i j k) l m) (qd.mk t u (Val.mk v w x y z A) B C)) fun⟨F,G,⟨H,I,J,K,L,M⟩,N,O⟩=>
 p (D,E,F,G,H,I,J,K,L,M,N,O))
 else(
 some (qd.mk c d (Val.mk e f g i j k) l m,o,a))
def Qj (n:Nat) (g140:UD) (g88 g136:xY) (g172 g201:xY) (g234 g271:xY) (g289 g308 g311:xY) (g313:UE) (g314:UF) (a:List qo) (i:Int) (j:Bool):Option (qd×Int×Bool):=
 bnd (g172 a i j) fun⟨⟨k,l,⟨m,o,p,q,b,c⟩,d,e⟩,f,g⟩=>
 qC (rH n a g172) n (f,g,k,l,m,o,p,q,b,c,d,e)
abbrev tv (_:List qo) (_:Int) (_:Bool) (r:qd×Int×Bool):FV:=.p ((PV.agg (xT.cells r.1)))
abbrev tp (a:List qo) (_:Int) (_:Bool) (r:qd×Int×Bool):List AObj:=[.box 117 [pK a,.p (.int .i64 r.2.1),.p (.bool r.2.2)]]
def rE (n:Nat) (b:List qo) (g201:xY):LK (Int×Bool×Int×SS×Int×Bool×Int×SS×List Val×List SS×List SS×List qd) (qd×Int×Bool):=fun p (q,a,c,d,e,f,g,i,j,k,l,m)=>
 bnd (qt n ([65,78,68]:SS) b q a) fun⟨s,o⟩=>
 bif s then(
 bnd (g201 b o a) fun⟨⟨t,u,⟨v,w,x,y,z,A⟩,B,C⟩,D,E⟩=>
 bnd (gu n ([65,78,68]:SS) (qd.mk c d (Val.mk e f g i j k) l m) (qd.mk t u (Val.mk v w x y z A) B C)) fun⟨F,G,⟨H,I,J,K,L,M⟩,N,O⟩=>
 p (D,E,F,G,H,I,J,K,L,M,N,O))
 else(
 some (qd.mk c d (Val.mk e f g i j k) l m,o,a))
def Qg (n:Nat) (g140:UD) (g88 g136:xY) (g172 g201:xY) (g234 g271:xY) (g289 g308 g311:xY) (g313:UE) (g314:UF) (a:List qo) (i:Int) (j:Bool):Option (qd×Int×Bool):=
 bnd (g201 a i j) fun⟨⟨k,l,⟨m,o,p,q,b,c⟩,d,e⟩,f,g⟩=>
 qC (rE n a g201) n (f,g,k,l,m,o,p,q,b,c,d,e)
abbrev tw (_:List qo) (_:Int) (_:Bool) (r:qd×Int×Bool):FV:=.p ((PV.agg (xT.cells r.1)))
abbrev tq (a:List qo) (_:Int) (_:Bool) (r:qd×Int×Bool):List AObj:=[.box 117 [pK a,.p (.int .i64 r.2.1),.p (.bool r.2.2)]]
def Qh (n:Nat) (g140:UD) (g88 g136:xY) (g172 g201:xY) (g234 g271:xY) (g289 g308 g311:xY) (g313:UE) (g314:UF) (a:List qo) (p:Int) (b:Bool):Option (qd×Int×Bool):=
 bnd (qt n ([78,79,84]:SS) a p b) fun⟨L,c⟩=>
 bif L then(
 bnd (g201 a c b) fun⟨⟨M,N,⟨O,P,d,e,f,g⟩,i,j⟩,k,l⟩=>
 bnd (bU n (9:Int) (qd.mk M N (Val.mk O P d e f g) i j)) fun⟨m,o,⟨q,s,t,u,v,w⟩,x,y⟩=>
 some (qd.mk m o (Val.mk q s t u v w) x y,k,l))
 else(
 bnd (g234 a c b) fun⟨⟨z,A,⟨B,C,D,E,F,G⟩,H,I⟩,J,K⟩=>
 some (qd.mk z A (Val.mk B C D E F G) H I,J,K))
abbrev rV (_:List qo) (_:Int) (_:Bool) (r:qd×Int×Bool):FV:=.p ((PV.agg (xT.cells r.1)))
abbrev rR (a:List qo) (_:Int) (_:Bool) (r:qd×Int×Bool):List AObj:=[.box 117 [pK a,.p (.int .i64 r.2.1),.p (.bool r.2.2)]]
def nC (n:Nat) (c:List qo) (b:Bool) (g271:xY) (i:Int) (l:SS) (m:Int) (o:Bool) (p:Int) (q:SS) (d:List Val) (e f:List SS) (g:List qd):LK (Int×Int) (qd×Int×Bool):=fun s (a,j)=>
 bif(decide (a<(((qi [([61]:SS),([60,62]:SS),([60,61]:SS),([60]:SS),([62,61]:SS),([62]:SS),([73,78]:SS)]).length:Nat):Int)))then(
 bnd (idx [([61]:SS),([60,62]:SS),([60,61]:SS),([60]:SS),([62,61]:SS),([62]:SS),([73,78]:SS)] a) fun t=>
 bnd (qt n t c j b) fun⟨u,k⟩=>
 bif u then(
 bnd (g271 c k b) fun⟨⟨v,w,⟨x,y,z,A,B,C⟩,D,E⟩,F,G⟩=>
 bnd (idx [([61]:SS),([60,62]:SS),([60,61]:SS),([60]:SS),([62,61]:SS),([62]:SS),([73,78]:SS)] a) fun H=>
 bnd (gu n H (qd.mk i l (Val.mk m o p q d e) f g) (qd.mk v w (Val.mk x y z A B C) D E)) fun⟨I,J,⟨K,L,M,N,O,P⟩,Q,R⟩=>
 some (qd.mk I J (Val.mk K L M N O P) Q R,F,G))
 else(
 s ((kwr .i64 (a+1)),k)))
 else(
 some (qd.mk i l (Val.mk m o p q d e) f g,j,b))
def sV (n:Nat) (g140:UD) (g88 g136:xY) (g172 g201:xY) (g234 g271:xY) (g289 g308 g311:xY) (g313:UE) (g314:UF) (a:List qo) (w:Int) (F:Bool):Option (qd×Int×Bool):=
 bnd (g271 a w F) fun⟨⟨g,i,⟨j,k,l,m,c,d⟩,e,f⟩,s,b⟩=>
 bnd (qt n ([73,83]:SS) a s b) fun⟨t,o⟩=>
 bif t then(
 bnd (qt n ([78,79,84]:SS) a o b) fun⟨u,v⟩=>
 bnd (qQ n ([78,85,76,76]:SS) a v b) fun⟨p,q⟩=>
 bif u then(
 bnd (bU n (12:Int) (qd.mk g i (Val.mk j k l m c d) e f)) fun⟨x,y,⟨z,A,B,C,D,E⟩,G,H⟩=>
 some (qd.mk x y (Val.mk z A B C D E) G H,p,q))
 else(
 bnd (bU n (11:Int) (qd.mk g i (Val.mk j k l m c d) e f)) fun⟨I,J,⟨K,L,M,N,O,P⟩,Q,R⟩=>
 some (qd.mk I J (Val.mk K L M N O P) Q R,p,q)))
 else(
 qC (nC n a b g271 g i j k l m c d e f) n ((0:Int),o))
abbrev tx (_:List qo) (_:Int) (_:Bool) (r:qd×Int×Bool):FV:=.p ((PV.agg (xT.cells r.1)))
abbrev tr (a:List qo) (_:Int) (_:Bool) (r:qd×Int×Bool):List AObj:=[.box 117 [pK a,.p (.int .i64 r.2.1),.p (.bool r.2.2)]]
def rG (n:Nat) (b:List qo) (g289:xY):LK (Int×Bool×Int×SS×Int×Bool×Int×SS×List Val×List SS×List SS×List qd) (qd×Int×Bool):=fun q (a,c,d,e,f,g,i,j,k,l,m,o)=>
 bnd (xz n ([43]:SS) b a c) fun p=>
 bif(!p)then(
 bnd (xz n ([45]:SS) b a c) fun s=>
 bif(bif p then true else s)then(
 bnd (idx b a) fun⟨_,t,_,_⟩=>
 bnd (g289 b (kwr .i64 (a+1)) c) fun⟨⟨u,v,⟨w,x,y,z,A,B⟩,C,D⟩,E,F⟩=>
 bnd (gu n t (qd.mk d e (Val.mk f g i j k l) m o) (qd.mk u v (Val.mk w x y z A B) C D)) fun⟨G,H,⟨I,J,K,L,M,N⟩,O,P⟩=>
 q (E,F,G,H,I,J,K,L,M,N,O,P))
 else(
 some (qd.mk d e (Val.mk f g i j k l) m o,a,c)))
 else(
 bif(bif p then true else false)then(
 bnd (idx b a) fun⟨_,Q,_,_⟩=>
 bnd (g289 b (kwr .i64 (a+1)) c) fun⟨⟨R,S,⟨T,U,V,W,X,Y⟩,Z,a0⟩,a1,a2⟩=>
 bnd (gu n Q (qd.mk d e (Val.mk f g i j k l) m o) (qd.mk R S (Val.mk T U V W X Y) Z a0)) fun⟨a3,a4,⟨a5,a6,a7,a8,a9,b0⟩,b1,b2⟩=>
 q (a1,a2,a3,a4,a5,a6,a7,a8,a9,b0,b1,b2))
 else(
 some (qd.mk d e (Val.mk f g i j k l) m o,a,c)))
def Qi (n:Nat) (g140:UD) (g88 g136:xY) (g172 g201:xY) (g234 g271:xY) (g289 g308 g311:xY) (g313:UE) (g314:UF) (a:List qo) (i:Int) (j:Bool):Option (qd×Int×Bool):=
 bnd (g289 a i j) fun⟨⟨k,l,⟨m,o,p,q,b,c⟩,d,e⟩,f,g⟩=>
 qC (rG n a g289) n (f,g,k,l,m,o,p,q,b,c,d,e)
abbrev bh (_:List qo) (_:Int) (_:Bool) (r:qd×Int×Bool):FV:=.p ((PV.agg (xT.cells r.1)))
abbrev bg (a:List qo) (_:Int) (_:Bool) (r:qd×Int×Bool):List AObj:=[.box 117 [pK a,.p (.int .i64 r.2.1),.p (.bool r.2.2)]]
def de (n:Nat) (b:List qo) (g308:xY):LK (Int×Bool×Int×SS×Int×Bool×Int×SS×List Val×List SS×List SS×List qd) (qd×Int×Bool):=fun q (a,c,d,e,f,g,i,j,k,l,m,o)=>
 bnd (xz n ([42]:SS) b a c) fun p=>
 bif(!p)then(
 bnd (xz n ([47]:SS) b a c) fun s=>
 bif(!(bif p then true else s))then(
 bnd (xz n ([37]:SS) b a c) fun a0=>
 bif(bif(bif p then true else s)then true else a0)then(
 bnd (idx b a) fun⟨_,a1,_,_⟩=>
 bnd (g308 b (kwr .i64 (a+1)) c) fun⟨⟨a2,a3,⟨a4,a5,a6,a7,a8,a9⟩,b0,b1⟩,b2,b3⟩=>
 bnd (gu n a1 (qd.mk d e (Val.mk f g i j k l) m o) (qd.mk a2 a3 (Val.mk a4 a5 a6 a7 a8 a9) b0 b1)) fun⟨b4,b5,⟨b6,b7,b8,b9,c0,c1⟩,c2,c3⟩=>
 q (b2,b3,b4,b5,b6,b7,b8,b9,c0,c1,c2,c3))
 else(
 some (qd.mk d e (Val.mk f g i j k l) m o,a,c)))
 else(
 bif(bif(bif p then true else s)then true else false)then(
 bnd (idx b a) fun⟨_,c4,_,_⟩=>
 bnd (g308 b (kwr .i64 (a+1)) c) fun⟨⟨c5,c6,⟨c7,c8,c9,d0,d1,d2⟩,d3,d4⟩,d5,d6⟩=>
 bnd (gu n c4 (qd.mk d e (Val.mk f g i j k l) m o) (qd.mk c5 c6 (Val.mk c7 c8 c9 d0 d1 d2) d3 d4)) fun⟨d7,d8,⟨d9,e0,e1,e2,e3,e4⟩,e5,e6⟩=>
 q (d5,d6,d7,d8,d9,e0,e1,e2,e3,e4,e5,e6))
 else(
 some (qd.mk d e (Val.mk f g i j k l) m o,a,c))))
 else(
 bif(!(bif p then true else false))then(
 bnd (xz n ([37]:SS) b a c) fun e7=>
 bif(bif(bif p then true else false)then true else e7)then(
 bnd (idx b a) fun⟨_,e8,_,_⟩=>
 bnd (g308 b (kwr .i64 (a+1)) c) fun⟨⟨e9,f0,⟨f1,f2,f3,f4,f5,f6⟩,f7,f8⟩,f9,g0⟩=>
 bnd (gu n e8 (qd.mk d e (Val.mk f g i j k l) m o) (qd.mk e9 f0 (Val.mk f1 f2 f3 f4 f5 f6) f7 f8)) fun⟨t,u,⟨v,w,x,y,z,A⟩,B,C⟩=>
 q (f9,g0,t,u,v,w,x,y,z,A,B,C))
 else(
 some (qd.mk d e (Val.mk f g i j k l) m o,a,c)))
 else(
 bif(bif(bif p then true else false)then true else false)then(
 bnd (idx b a) fun⟨_,D,_,_⟩=>
 bnd (g308 b (kwr .i64 (a+1)) c) fun⟨⟨E,F,⟨G,H,I,J,K,L⟩,M,N⟩,O,P⟩=>
 bnd (gu n D (qd.mk d e (Val.mk f g i j k l) m o) (qd.mk E F (Val.mk G H I J K L) M N)) fun⟨Q,R,⟨S,T,U,V,W,X⟩,Y,Z⟩=>
 q (O,P,Q,R,S,T,U,V,W,X,Y,Z))
 else(
 some (qd.mk d e (Val.mk f g i j k l) m o,a,c))))
def mh (n:Nat) (g140:UD) (g88 g136:xY) (g172 g201:xY) (g234 g271:xY) (g289 g308 g311:xY) (g313:UE) (g314:UF) (a:List qo) (i:Int) (j:Bool):Option (qd×Int×Bool):=
 bnd (g308 a i j) fun⟨⟨k,l,⟨m,o,p,q,b,c⟩,d,e⟩,f,g⟩=>
 qC (de n a g308) n (f,g,k,l,m,o,p,q,b,c,d,e)
abbrev nL (_:List qo) (_:Int) (_:Bool) (r:qd×Int×Bool):FV:=.p ((PV.agg (xT.cells r.1)))
abbrev nK (a:List qo) (_:Int) (_:Bool) (r:qd×Int×Bool):List AObj:=[.box 117 [pK a,.p (.int .i64 r.2.1),.p (.bool r.2.2)]]
def mm (n:Nat) (b:List qo) (g88:xY):LK (Int×Bool×Int×SS×Int×Bool×Int×SS×List Val×List SS×List SS×List qd) (qd×Int×Bool):=fun o (t,a,c,d,e,f,g,i,j,k,l,m)=>
 bnd (qt n ([46]:SS) b t a) fun⟨u,q⟩=>
 bif u then(
 bnd (bU n (4:Int) (qd.mk c d (Val.mk e f g i j k) l m)) fun⟨v,_,⟨w,x,y,z,A,B⟩,C,D⟩=>
 bnd (uv n b q a) fun⟨E,F,G⟩=>
 o (F,G,v,E,w,x,y,z,A,B,C,D))
 else(
 bnd (qt n ([91]:SS) b q a) fun⟨H,p⟩=>
 bif H then(
 bnd (g88 b p a) fun⟨⟨I,J,⟨K,L,M,N,O,P⟩,Q,R⟩,S,T⟩=>
 bnd (qQ n ([93]:SS) b S T) fun⟨U,V⟩=>
 o (U,V,(7:Int),([]:SS),(0:Int),false,(0:Int),([]:SS),([]:List _),([]:List _),([]:List _),[qd.mk c d (Val.mk e f g i j k) l m,qd.mk I J (Val.mk K L M N O P) Q R]))
 else(
 bif(c==2)then(
 bnd (qt n ([58]:SS) b p a) fun⟨W,s⟩=>
 bif(bif(c==2)then W else false)then(
 bnd (bU n (15:Int) (qd.mk c d (Val.mk e f g i j k) l m)) fun⟨X,_,⟨Y,Z,a0,a1,a2,a3⟩,a4,a5⟩=>
 bnd (uv n b s a) fun⟨a6,a7,a8⟩=>
 o (a7,a8,X,a6,Y,Z,a0,a1,a2,a3,a4,a5))
 else(
 some (qd.mk c d (Val.mk e f g i j k) l m,s,a)))
 else(
 some (qd.mk c d (Val.mk e f g i j k) l m,p,a))))
def pW (n:Nat) (g140:UD) (g88 g136:xY) (g172 g201:xY) (g234 g271:xY) (g289 g308 g311:xY) (g313:UE) (g314:UF) (a:List qo) (p:Int) (b:Bool):Option (qd×Int×Bool):=
 bnd (qt n ([45]:SS) a p b) fun⟨L,c⟩=>
 bif L then(
 bnd (g308 a c b) fun⟨⟨M,N,⟨O,P,d,e,f,g⟩,i,j⟩,k,l⟩=>
 bnd (bU n (8:Int) (qd.mk M N (Val.mk O P d e f g) i j)) fun⟨m,o,⟨q,s,t,u,v,w⟩,x,y⟩=>
 some (qd.mk m o (Val.mk q s t u v w) x y,k,l))
 else(
 bnd (g311 a c b) fun⟨⟨z,A,⟨B,C,D,E,F,G⟩,H,I⟩,J,K⟩=>
 qC (mm n a g88) n (J,K,z,A,B,C,D,E,F,G,H,I))
abbrev rS (_:List qo) (_:Int) (_:Bool) (r:qd×Int×Bool):FV:=.p ((PV.agg (xT.cells r.1)))
abbrev rO (a:List qo) (_:Int) (_:Bool) (r:qd×Int×Bool):List AObj:=[.box 117 [pK a,.p (.int .i64 r.2.1),.p (.bool r.2.2)]]
def sS (n:Nat) (g140:UD) (g88 g136:xY) (g172 g201:xY) (g234 g271:xY) (g289 g308 g311:xY) (g313:UE) (g314:UF) (b:List qo) (c:Int) (a:Bool):Option (qd×Int×Bool):=
 bif a then(
 some (qd.mk (0:Int) ([]:SS) (Val.mk (0:Int) false (0:Int) ([]:SS) ([]:List Val) ([]:List SS)) ([]:List SS) ([]:List qd),c,a))
 else(
 bnd (idx b c) fun⟨e,f,a6,_⟩=>
 bif(e==3)then(
 some (qd.mk (1:Int) ([]:SS) (Val.mk (2:Int) false a6 ([]:SS) ([]:List Val) ([]:List SS)) ([]:List SS) ([]:List qd),(kwr .i64 (c+1)),a))
 else(
 bif(e==4)then(
 some (qd.mk (1:Int) ([]:SS) (Val.mk (3:Int) false (0:Int) f ([]:List Val) ([]:List SS)) ([]:List SS) ([]:List qd),(kwr .i64 (c+1)),a))
 else(
 bif(e==1)then(
 bnd (qt n ([40]:SS) b (kwr .i64 (c+1)) a) fun⟨a7,m⟩=>
 bif a7 then(
 bnd (g313 f b m a) fun⟨⟨o,p,⟨q,s,t,u,v,w⟩,x,y⟩,z,A⟩=>
 some (qd.mk o p (Val.mk q s t u v w) x y,z,A))
 else(
 some (qd.mk (2:Int) f (Val.mk (0:Int) false (0:Int) ([]:SS) ([]:List Val) ([]:List SS)) ([]:List SS) ([]:List qd),m,a)))
 else(
 bnd (qt n ([78,85,76,76]:SS) b c a) fun⟨B,g⟩=>
 bif B then(
 some (qd.mk (1:Int) ([]:SS) (Val.mk (0:Int) false (0:Int) ([]:SS) ([]:List Val) ([]:List SS)) ([]:List SS) ([]:List qd),g,a))
 else(
 bnd (qt n ([84,82,85,69]:SS) b g a) fun⟨C,i⟩=>
 bif C then(
 some (qd.mk (1:Int) ([]:SS) (Val.mk (1:Int) true (0:Int) ([]:SS) ([]:List Val) ([]:List SS)) ([]:List SS) ([]:List qd),i,a))
 else(
 bnd (qt n ([70,65,76,83,69]:SS) b i a) fun⟨D,j⟩=>
 bif D then(
 some (qd.mk (1:Int) ([]:SS) (Val.mk (1:Int) false (0:Int) ([]:SS) ([]:List Val) ([]:List SS)) ([]:List SS) ([]:List qd),j,a))
 else(
 bnd (qt n ([36]:SS) b j a) fun⟨E,k⟩=>
 bif E then(
 bnd (vM n b k a) fun⟨F,G,H⟩=>
 some (qd.mk (3:Int) F (Val.mk (0:Int) false (0:Int) ([]:SS) ([]:List Val) ([]:List SS)) ([]:List SS) ([]:List qd),G,H))
 else(
 bnd (qt n ([40]:SS) b k a) fun⟨I,l⟩=>
 bif I then(
 bnd (g88 b l a) fun⟨⟨J,K,⟨L,M,N,O,P,Q⟩,R,S⟩,T,U⟩=>
 bnd (qQ n ([41]:SS) b T U) fun⟨V,W⟩=>
 some (qd.mk J K (Val.mk L M N O P Q) R S,V,W))
 else(
 bnd (qt n ([91]:SS) b l a) fun⟨X,d⟩=>
 bif X then(
 bnd (g314 ([93]:SS) b d a) fun⟨Y,Z,a0⟩=>
 some (qd.mk (5:Int) ([]:SS) (Val.mk (0:Int) false (0:Int) ([]:SS) ([]:List Val) ([]:List SS)) ([]:List SS) Y,Z,a0))
 else(
 bnd (xz n ([123]:SS) b d a) fun a1=>
 bif a1 then(
 bnd (g140 b d a) fun⟨a2,a3,a4,a5⟩=>
 some (qd.mk (6:Int) ([]:SS) (Val.mk (0:Int) false (0:Int) ([]:SS) ([]:List Val) ([]:List SS)) a2 a3,a4,a5))
 else(
 some (qd.mk (0:Int) ([]:SS) (Val.mk (0:Int) false (0:Int) ([]:SS) ([]:List Val) ([]:List SS)) ([]:List SS) ([]:List qd),d,true))))))))))))
abbrev rT (_:List qo) (_:Int) (_:Bool) (r:qd×Int×Bool):FV:=.p ((PV.agg (xT.cells r.1)))
abbrev rP (a:List qo) (_:Int) (_:Bool) (r:qd×Int×Bool):List AObj:=[.box 117 [pK a,.p (.int .i64 r.2.1),.p (.bool r.2.2)]]
def sT (n:Nat) (g140:UD) (g88 g136:xY) (g172 g201:xY) (g234 g271:xY) (g289 g308 g311:xY) (g313:UE) (g314:UF) (a:SS) (b:List qo) (d:Int) (c:Bool):Option (qd×Int×Bool):=
 bnd (fc n a) fun M=>
 bif(!M)then(
 bnd (g314 ([41]:SS) b d c) fun⟨N,O,P⟩=>
 some (qd.mk (13:Int) a (Val.mk (0:Int) false (0:Int) ([]:SS) ([]:List Val) ([]:List SS)) ([]:List SS) N,O,P))
 else(
 bif(a==([99,111,117,110,116]:SS))then(
 bnd (qt n ([42]:SS) b d c) fun⟨Q,e⟩=>
 bif(bif(a==([99,111,117,110,116]:SS))then Q else false)then(
 bnd (qQ n ([41]:SS) b e c) fun⟨f,g⟩=>
 some (qd.mk (14:Int) a (Val.mk (0:Int) false (0:Int) ([]:SS) ([]:List Val) ([]:List SS)) ([]:List SS) ([]:List qd),f,g))
 else(
 bnd (g88 b e c) fun⟨⟨i,j,⟨k,l,m,o,p,q⟩,s,t⟩,u,v⟩=>
 bnd (qQ n ([41]:SS) b u v) fun⟨w,x⟩=>
 some (qd.mk (14:Int) a (Val.mk (0:Int) false (0:Int) ([]:SS) ([]:List Val) ([]:List SS)) ([]:List SS) [qd.mk i j (Val.mk k l m o p q) s t],w,x)))
 else(
 bnd (g88 b d c) fun⟨⟨y,z,⟨A,B,C,D,E,F⟩,G,H⟩,I,J⟩=>
 bnd (qQ n ([41]:SS) b I J) fun⟨K,L⟩=>
 some (qd.mk (14:Int) a (Val.mk (0:Int) false (0:Int) ([]:SS) ([]:List Val) ([]:List SS)) ([]:List SS) [qd.mk y z (Val.mk A B C D E F) G H],K,L)))
abbrev rU (_:List qo) (_:Int) (_:Bool) (r:(List qd)×Int×Bool):FV:=.p (.sl (qd.rows r.1))
abbrev rQ (a:List qo) (_:Int) (_:Bool) (r:(List qd)×Int×Bool):List AObj:=[.box 117 [pK a,.p (.int .i64 r.2.1),.p (.bool r.2.2)]]
def nw (n:Nat) (g88:xY) (l:List qo) (s:SS):LK (List qd×Int×Bool) ((List qd)×Int×Bool):=fun q (o,x,y)=>
 bnd (g88 l x y) fun⟨⟨a,b,⟨c,d,e,f,g,i⟩,j,k⟩,t,m⟩=>
 chk (decide ((qd.rows (o++[qd.mk a b (Val.mk c d e f g i) j k])).length * 160<=140737488355328)) (
 bnd (qt n ([44]:SS) l t m) fun⟨u,p⟩=>
 bif(!u)then(
 bnd (qQ n s l p m) fun⟨v,w⟩=>
 some ((o++[qd.mk a b (Val.mk c d e f g i) j k]),v,w))
 else(
 q ((o++[qd.mk a b (Val.mk c d e f g i) j k]),p,m)))
def sU (n:Nat) (g140:UD) (g88 g136:xY) (g172 g201:xY) (g234 g271:xY) (g289 g308 g311:xY) (g313:UE) (g314:UF) (b:SS) (c:List qo) (e:Int) (a:Bool):Option ((List qd)×Int×Bool):=
 bnd (qt n b c e a) fun⟨f,d⟩=>
 bif f then(
 some (([]:List qd),d,a))
 else(
 qC (nw n g88 c b) n (([]:List _),d,a))
abbrev Pk (g140:UD):Prop:=∀ (a:List qo) (b:Int) (c:Bool) (r:(List SS)×(List qd)×Int×Bool),g140 a b c=some r->qS TP 140 [.ptr 0 0] [.box 117 [pK a,pI b,pB c]] 1 (fun v lo=>v=dB a b c r/\lo=dA a b c r)
abbrev Pl (g88:xY):Prop:=∀ (a:List qo) (b:Int) (c:Bool) (r:qd×Int×Bool),g88 a b c=some r->qS TP 88 [.ptr 0 0] [.box 117 [pK a,pI b,pB c]] 1 (fun v lo=>v=bO a b c r/\lo=bN a b c r)
abbrev Pm (g136:xY):Prop:=∀ (a:List qo) (b:Int) (c:Bool) (r:qd×Int×Bool),g136 a b c=some r->qS TP 136 [.ptr 0 0] [.box 117 [pK a,pI b,pB c]] 1 (fun v lo=>v=tz a b c r/\lo=tt a b c r)
abbrev Pn (g172:xY):Prop:=∀ (a:List qo) (b:Int) (c:Bool) (r:qd×Int×Bool),g172 a b c=some r->qS TP 172 [.ptr 0 0] [.box 117 [pK a,pI b,pB c]] 1 (fun v lo=>v=tv a b c r/\lo=tp a b c r)
abbrev Po (g201:xY):Prop:=∀ (a:List qo) (b:Int) (c:Bool) (r:qd×Int×Bool),g201 a b c=some r->qS TP 201 [.ptr 0 0] [.box 117 [pK a,pI b,pB c]] 1 (fun v lo=>v=tw a b c r/\lo=tq a b c r)
abbrev Pp (g234:xY):Prop:=∀ (a:List qo) (b:Int) (c:Bool) (r:qd×Int×Bool),g234 a b c=some r->qS TP 234 [.ptr 0 0] [.box 117 [pK a,pI b,pB c]] 1 (fun v lo=>v=rV a b c r/\lo=rR a b c r)
abbrev Pq (g271:xY):Prop:=∀ (a:List qo) (b:Int) (c:Bool) (r:qd×Int×Bool),g271 a b c=some r->qS TP 271 [.ptr 0 0] [.box 117 [pK a,pI b,pB c]] 1 (fun v lo=>v=tx a b c r/\lo=tr a b c r)
abbrev Pr (g289:xY):Prop:=∀ (a:List qo) (b:Int) (c:Bool) (r:qd×Int×Bool),g289 a b c=some r->qS TP 289 [.ptr 0 0] [.box 117 [pK a,pI b,pB c]] 1 (fun v lo=>v=bh a b c r/\lo=bg a b c r)
abbrev Ps (g308:xY):Prop:=∀ (a:List qo) (b:Int) (c:Bool) (r:qd×Int×Bool),g308 a b c=some r->qS TP 308 [.ptr 0 0] [.box 117 [pK a,pI b,pB c]] 1 (fun v lo=>v=nL a b c r/\lo=nK a b c r)
abbrev Pt (g311:xY):Prop:=∀ (a:List qo) (b:Int) (c:Bool) (r:qd×Int×Bool),g311 a b c=some r->qS TP 311 [.ptr 0 0] [.box 117 [pK a,pI b,pB c]] 1 (fun v lo=>v=rS a b c r/\lo=rO a b c r)
abbrev UB (g313:UE):Prop:=∀ (d:SS) (a:List qo) (b:Int) (c:Bool) (r:qd×Int×Bool),g313 d a b c=some r->qS TP 313 [.ptr 0 0,.p (PV.str d)] [.box 117 [pK a,pI b,pB c]] 1 (fun v lo=>v=rT a b c r/\lo=rP a b c r)
abbrev UC (g314:UF):Prop:=∀ (d:SS) (a:List qo) (b:Int) (c:Bool) (r:(List qd)×Int×Bool),g314 d a b c=some r->qS TP 314 [.ptr 0 0,.p (PV.str d)] [.box 117 [pK a,pI b,pB c]] 1 (fun v lo=>v=rU a b c r/\lo=rQ a b c r)
theorem Vd (n:Nat) (g140:UD) (g88 g136:xY) (g172 g201:xY) (g234 g271:xY) (g289 g308 g311:xY) (g313:UE) (g314:UF) (g140_ok:Pk g140) (g88_ok:Pl g88) (g136_ok:Pm g136) (g172_ok:Pn g172) (g201_ok:Po g201) (g234_ok:Pp g234) (g271_ok:Pq g271) (g289_ok:Pr g289) (g308_ok:Ps g308) (g311_ok:Pt g311) (g313_ok:UB g313) (g314_ok:UC g314):∀ (a:List qo) (s:Int) (t:Bool) (r:(List SS)×(List qd)×Int×Bool),pX n g140 g88 g136 g172 g201 g234 g271 g289 g308 g311 g313 g314 a s t=some r->qS TP 140 [.ptr 0 0] [.box 117 [pK a,pI s,pB t]] 1 (fun v lo=>v=dB a s t r/\lo=dA a s t r):=by
 intro a s t r h;unfold pX at h;refine zO Tryz.call140 Tryz.func140 [85,88,89,139,1000000] ?_;conv=>whnf
 refine bq h fun⟨U,D⟩ E h=>?_;refine zz (qD n _ _ _ _ _ E) [0] [] ?_;rintro _ _ ⟨rfl,rfl⟩;refine⟨.p (.tup []),[.box 117 [pK a,pI U,pB D]],rfl,rfl,?_⟩;conv=>whnf
 refine bq h fun⟨V,W⟩ F h=>?_;refine zz (qf n _ _ _ _ _ F) [0] [] ?_;rintro _ _ ⟨rfl,rfl⟩;refine⟨pB V,[.box 117 [pK a,pI W,pB D]],rfl,rfl,?_⟩;conv=>whnf
 apply ifc h<;>intro A h
 ·obtain rfl:=sj h
  conv=>whnf
  refine⟨_,_,⟨rfl,rfl⟩,wk [0] []⟩
 conv=>whnf
 refine qP.fn [85,88,89,139,1000000] (S:=List SS×List qd×Int×Bool) (fun(b,c,u,w)=>[(0,.ptr 0 0),(4,.tsl 1 (qi b)),(5,.tsl 2 (qd.rows c))]) (fun(b,c,u,w)=>[.box 117 [pK a,pI u,pB w],.tail 9 1 (qi b).length,.tail 42 10 (qd.rows c).length]) (B:=mo n a g88) h (wk [0,0,0] [1,2]) ?_;intro _ st h;obtain⟨b,c,u,w⟩:=st;unfold mo at h;conv=>whnf
 apply ifc h<;>intro A h
 ·conv=>whnf
  refine bq h fun⟨q,L,M⟩ G h=>?_;refine zz (vL n _ _ _ _ G) [0] [] ?_;rintro _ _ ⟨rfl,rfl⟩;refine⟨pS q,[.box 117 [pK a,pI L,pB M],.tail 9 1 (qi b).length,.tail 42 10 (qd.rows c).length],rfl,rfl,?_⟩;conv=>whnf
  refine bq h fun⟨N,O⟩ H h=>?_;refine zz (qD n _ _ _ _ _ H) [0] [] ?_;rintro _ _ ⟨rfl,rfl⟩;refine⟨.p (.tup []),[.box 117 [pK a,pI N,pB O],.tail 9 1 (qi b).length,.tail 42 10 (qd.rows c).length],rfl,rfl,?_⟩;conv=>whnf
  refine bq h fun⟨⟨d,e,⟨f,g,i,j,k,l⟩,m,o⟩,P,x⟩ I h=>?_;refine zz (g88_ok _ _ _ _ I) [0] [] ?_;rintro _ _ ⟨rfl,rfl⟩;refine⟨.p (.agg [.int .i64 d,.str e,.int .i64 f,.bool g,.int .i64 i,.str j,.sl (Val.rows k),.sl (qi l),.sl (qi m),.sl (qd.rows o)]),[.box 117 [pK a,pI P,pB x],.tail 9 1 (qi b).length,.tail 42 10 (qd.rows c).length],rfl,rfl,?_⟩;conv=>whnf
  refine⟨Codec.one cV [q],qi [q],.inl rfl,?_⟩;conv=>whnf
  rw[show qi b++qi [q]=qi (b++[q])from Codec.append cV b [q]];conv=>whnf
  obtain⟨z,h⟩:=qb h;refine⟨⟨Codec.wide cV (b++[q]),kod z,qO z (by decide)⟩,?_⟩;conv=>whnf
  refine⟨⟨rfl,rfl,rfl⟩,?_⟩;conv=>whnf
  refine⟨Codec.one xT [qd.mk d e (Val.mk f g i j k l) m o],qd.rows [qd.mk d e (Val.mk f g i j k l) m o],.inl rfl,?_⟩;conv=>whnf
  rw[show qd.rows c++qd.rows [qd.mk d e (Val.mk f g i j k l) m o]=qd.rows (c++[qd.mk d e (Val.mk f g i j k l) m o])from Codec.append xT c [qd.mk d e (Val.mk f g i j k l) m o]];conv=>whnf
  obtain⟨y,h⟩:=qb h;refine⟨⟨Codec.wide xT (c++[qd.mk d e (Val.mk f g i j k l) m o]),kod y,qO y (by decide)⟩,?_⟩;conv=>whnf
  refine⟨⟨rfl,rfl,rfl⟩,?_⟩;conv=>whnf
  refine bq h fun⟨Q,C⟩ J h=>?_;refine zz (qf n _ _ _ _ _ J) [0] [] ?_;rintro _ _ ⟨rfl,rfl⟩;refine⟨pB Q,[.box 117 [pK a,pI C,pB x],.dead,.dead,.box 42 [pI d,pS e,pI f,pB g,pI i,pS j,pV k,pT l,pT m,pE o],.tail 9 1 (qi (b++[q])).length,.tail 42 10 (qd.rows (c++[qd.mk d e (Val.mk f g i j k l) m o])).length],rfl,rfl,?_⟩;conv=>whnf
  apply ifc h<;>intro A h
  ·conv=>whnf
   refine bq h fun⟨R,T⟩ K h=>?_;refine zz (qD n _ _ _ _ _ K) [0] [] ?_;rintro _ _ ⟨rfl,rfl⟩;refine⟨.p (.tup []),[.box 117 [pK a,pI R,pB T],.dead,.dead,.box 42 [pI d,pS e,pI f,pB g,pI i,pS j,pV k,pT l,pT m,pE o],.tail 9 1 (qi (b++[q])).length,.tail 42 10 (qd.rows (c++[qd.mk d e (Val.mk f g i j k l) m o])).length],rfl,rfl,?_⟩;obtain rfl:=sj h;conv=>whnf
   refine⟨_,_,⟨rfl,rfl⟩,wk [0] []⟩
  conv=>whnf
  exact⟨((b++[q]),(c++[qd.mk d e (Val.mk f g i j k l) m o]),C,x),h,wk [0,4,5] []⟩
 obtain rfl:=sj h;conv=>whnf
 refine⟨_,_,⟨rfl,rfl⟩,wk [0] []⟩
theorem Ui (n:Nat) (g140:UD) (g88 g136:xY) (g172 g201:xY) (g234 g271:xY) (g289 g308 g311:xY) (g313:UE) (g314:UF) (g140_ok:Pk g140) (g88_ok:Pl g88) (g136_ok:Pm g136) (g172_ok:Pn g172) (g201_ok:Po g201) (g234_ok:Pp g234) (g271_ok:Pq g271) (g289_ok:Pr g289) (g308_ok:Ps g308) (g311_ok:Pt g311) (g313_ok:UB g313) (g314_ok:UC g314):∀ (a:List qo) (d:Int) (o:Bool) (r:qd×Int×Bool),sR n g140 g88 g136 g172 g201 g234 g271 g289 g308 g311 g313 g314 a d o=some r->qS TP 88 [.ptr 0 0] [.box 117 [pK a,pI d,pB o]] 1 (fun v lo=>v=bO a d o r/\lo=bN a d o r):=by
 intro a d o r h;unfold sR at h;refine zO Tryz.call88 Tryz.func88 [85,136,1000000] ?_;conv=>whnf
 refine bq h fun⟨⟨U,a3,⟨a6,a7,a8,a9,A,C⟩,D,E⟩,F,G⟩ w h=>?_;refine zz (g136_ok _ _ _ _ w) [0] [] ?_;rintro _ _ ⟨rfl,rfl⟩;refine⟨.p (.agg [.int .i64 U,.str a3,.int .i64 a6,.bool a7,.int .i64 a8,.str a9,.sl (Val.rows A),.sl (qi C),.sl (qi D),.sl (qd.rows E)]),[.box 117 [pK a,pI F,pB G],zq4],rfl,rfl,?_⟩;conv=>whnf
 refine qP.fn [85,136,1000000] (S:=Int×Bool×Int×SS×Int×Bool×Int×SS×List Val×List SS×List SS×List qd) (fun(s,q,b,c,e,f,g,i,j,k,l,m)=>[(0,.ptr 0 0),(2,.ptr 1 0),(3,.ptr 2 0)]) (fun(s,q,b,c,e,f,g,i,j,k,l,m)=>[.box 117 [pK a,pI s,pB q],zq4,.box 42 [pI b,pS c,pI e,pB f,pI g,pS i,pV j,pT k,pT l,pE m]]) (B:=nu n a g136) h (wk [0,1,2] []) ?_;intro _ st h;obtain⟨s,q,b,c,e,f,g,i,j,k,l,m⟩:=st;unfold nu at h;conv=>whnf
 refine bq h fun⟨H,I⟩ x h=>?_;refine zz (qf n _ _ _ _ _ x) [0] [] ?_;rintro _ _ ⟨rfl,rfl⟩;refine⟨pB H,[.box 117 [pK a,pI I,pB q],zq4,.box 42 [pI b,pS c,pI e,pB f,pI g,pS i,pV j,pT k,pT l,pE m]],rfl,rfl,?_⟩;conv=>whnf
 apply ifc h<;>intro _ h
 ·conv=>whnf
  refine bq h fun⟨⟨J,K,⟨L,M,N,O,P,Q⟩,R,T⟩,t,u⟩ y h=>?_;refine zz (g136_ok _ _ _ _ y) [0] [] ?_;rintro _ _ ⟨rfl,rfl⟩;refine⟨.p (.agg [.int .i64 J,.str K,.int .i64 L,.bool M,.int .i64 N,.str O,.sl (Val.rows P),.sl (qi Q),.sl (qi R),.sl (qd.rows T)]),[.box 117 [pK a,pI t,pB u],zq4,.box 42 [pI b,pS c,pI e,pB f,pI g,pS i,pV j,pT k,pT l,pE m]],rfl,rfl,?_⟩;conv=>whnf
  refine bq h fun⟨V,W,⟨X,Y,Z,a0,a1,a2⟩,a4,a5⟩ z h=>⟨_,(vN n _ _ _ _ z),?_⟩;conv=>whnf
  exact⟨(t,u,V,W,X,Y,Z,a0,a1,a2,a4,a5),h,wk [0,1,2] []⟩
 obtain rfl:=sj h;conv=>whnf
 refine⟨_,_,⟨rfl,rfl⟩,wk [0] []⟩
theorem Gu (n:Nat) (g140:UD) (g88 g136:xY) (g172 g201:xY) (g234 g271:xY) (g289 g308 g311:xY) (g313:UE) (g314:UF) (g140_ok:Pk g140) (g88_ok:Pl g88) (g136_ok:Pm g136) (g172_ok:Pn g172) (g201_ok:Po g201) (g234_ok:Pp g234) (g271_ok:Pq g271) (g289_ok:Pr g289) (g308_ok:Ps g308) (g311_ok:Pt g311) (g313_ok:UB g313) (g314_ok:UC g314):∀ (a:List qo) (d:Int) (o:Bool) (r:qd×Int×Bool),Qj n g140 g88 g136 g172 g201 g234 g271 g289 g308 g311 g313 g314 a d o=some r->qS TP 136 [.ptr 0 0] [.box 117 [pK a,pI d,pB o]] 1 (fun v lo=>v=tz a d o r/\lo=tt a d o r):=by
 intro a d o r h;unfold Qj at h;refine zO Tryz.call136 Tryz.func136 [85,172,1000000] ?_;conv=>whnf
 refine bq h fun⟨⟨U,a3,⟨a6,a7,a8,a9,A,C⟩,D,E⟩,F,G⟩ w h=>?_;refine zz (g172_ok _ _ _ _ w) [0] [] ?_;rintro _ _ ⟨rfl,rfl⟩;refine⟨.p (.agg [.int .i64 U,.str a3,.int .i64 a6,.bool a7,.int .i64 a8,.str a9,.sl (Val.rows A),.sl (qi C),.sl (qi D),.sl (qd.rows E)]),[.box 117 [pK a,pI F,pB G],zq4],rfl,rfl,?_⟩;conv=>whnf
 refine qP.fn [85,172,1000000] (S:=Int×Bool×Int×SS×Int×Bool×Int×SS×List Val×List SS×List SS×List qd) (fun(s,q,b,c,e,f,g,i,j,k,l,m)=>[(0,.ptr 0 0),(2,.ptr 1 0),(3,.ptr 2 0)]) (fun(s,q,b,c,e,f,g,i,j,k,l,m)=>[.box 117 [pK a,pI s,pB q],zq4,.box 42 [pI b,pS c,pI e,pB f,pI g,pS i,pV j,pT k,pT l,pE m]]) (B:=rH n a g172) h (wk [0,1,2] []) ?_;intro _ st h;obtain⟨s,q,b,c,e,f,g,i,j,k,l,m⟩:=st;unfold rH at h;conv=>whnf
 refine bq h fun⟨H,I⟩ x h=>?_;refine zz (qf n _ _ _ _ _ x) [0] [] ?_;rintro _ _ ⟨rfl,rfl⟩;refine⟨pB H,[.box 117 [pK a,pI I,pB q],zq4,.box 42 [pI b,pS c,pI e,pB f,pI g,pS i,pV j,pT k,pT l,pE m]],rfl,rfl,?_⟩;conv=>whnf
 apply ifc h<;>intro _ h
 ·conv=>whnf
  refine bq h fun⟨⟨J,K,⟨L,M,N,O,P,Q⟩,R,T⟩,t,u⟩ y h=>?_;refine zz (g172_ok _ _ _ _ y) [0] [] ?_;rintro _ _ ⟨rfl,rfl⟩;refine⟨.p (.agg [.int .i64 J,.str K,.int .i64 L,.bool M,.int .i64 N,.str O,.sl (Val.rows P),.sl (qi Q),.sl (qi R),.sl (qd.rows T)]),[.box 117 [pK a,pI t,pB u],zq4,.box 42 [pI b,pS c,pI e,pB f,pI g,pS i,pV j,pT k,pT l,pE m]],rfl,rfl,?_⟩;conv=>whnf
  refine bq h fun⟨V,W,⟨X,Y,Z,a0,a1,a2⟩,a4,a5⟩ z h=>⟨_,(vN n _ _ _ _ z),?_⟩;conv=>whnf
  exact⟨(t,u,V,W,X,Y,Z,a0,a1,a2,a4,a5),h,wk [0,1,2] []⟩
 obtain rfl:=sj h;conv=>whnf
 refine⟨_,_,⟨rfl,rfl⟩,wk [0] []⟩
theorem Gr (n:Nat) (g140:UD) (g88 g136:xY) (g172 g201:xY) (g234 g271:xY) (g289 g308 g311:xY) (g313:UE) (g314:UF) (g140_ok:Pk g140) (g88_ok:Pl g88) (g136_ok:Pm g136) (g172_ok:Pn g172) (g201_ok:Po g201) (g234_ok:Pp g234) (g271_ok:Pq g271) (g289_ok:Pr g289) (g308_ok:Ps g308) (g311_ok:Pt g311) (g313_ok:UB g313) (g314_ok:UC g314):∀ (a:List qo) (d:Int) (o:Bool) (r:qd×Int×Bool),Qg n g140 g88 g136 g172 g201 g234 g271 g289 g308 g311 g313 g314 a d o=some r->qS TP 172 [.ptr 0 0] [.box 117 [pK a,pI d,pB o]] 1 (fun v lo=>v=tv a d o r/\lo=tp a d o r):=by
 intro a d o r h;unfold Qg at h;refine zO Tryz.call172 Tryz.func172 [85,201,1000000] ?_;conv=>whnf
 refine bq h fun⟨⟨U,a3,⟨a6,a7,a8,a9,A,C⟩,D,E⟩,F,G⟩ w h=>?_;refine zz (g201_ok _ _ _ _ w) [0] [] ?_;rintro _ _ ⟨rfl,rfl⟩;refine⟨.p (.agg [.int .i64 U,.str a3,.int .i64 a6,.bool a7,.int .i64 a8,.str a9,.sl (Val.rows A),.sl (qi C),.sl (qi D),.sl (qd.rows E)]),[.box 117 [pK a,pI F,pB G],zq4],rfl,rfl,?_⟩;conv=>whnf
 refine qP.fn [85,201,1000000] (S:=Int×Bool×Int×SS×Int×Bool×Int×SS×List Val×List SS×List SS×List qd) (fun(s,q,b,c,e,f,g,i,j,k,l,m)=>[(0,.ptr 0 0),(2,.ptr 1 0),(3,.ptr 2 0)]) (fun(s,q,b,c,e,f,g,i,j,k,l,m)=>[.box 117 [pK a,pI s,pB q],zq4,.box 42 [pI b,pS c,pI e,pB f,pI g,pS i,pV j,pT k,pT l,pE m]]) (B:=rE n a g201) h (wk [0,1,2] []) ?_;intro _ st h;obtain⟨s,q,b,c,e,f,g,i,j,k,l,m⟩:=st;unfold rE at h;conv=>whnf
 refine bq h fun⟨H,I⟩ x h=>?_;refine zz (qf n _ _ _ _ _ x) [0] [] ?_;rintro _ _ ⟨rfl,rfl⟩;refine⟨pB H,[.box 117 [pK a,pI I,pB q],zq4,.box 42 [pI b,pS c,pI e,pB f,pI g,pS i,pV j,pT k,pT l,pE m]],rfl,rfl,?_⟩;conv=>whnf
 apply ifc h<;>intro _ h
 ·conv=>whnf
  refine bq h fun⟨⟨J,K,⟨L,M,N,O,P,Q⟩,R,T⟩,t,u⟩ y h=>?_;refine zz (g201_ok _ _ _ _ y) [0] [] ?_;rintro _ _ ⟨rfl,rfl⟩;refine⟨.p (.agg [.int .i64 J,.str K,.int .i64 L,.bool M,.int .i64 N,.str O,.sl (Val.rows P),.sl (qi Q),.sl (qi R),.sl (qd.rows T)]),[.box 117 [pK a,pI t,pB u],zq4,.box 42 [pI b,pS c,pI e,pB f,pI g,pS i,pV j,pT k,pT l,pE m]],rfl,rfl,?_⟩;conv=>whnf
  refine bq h fun⟨V,W,⟨X,Y,Z,a0,a1,a2⟩,a4,a5⟩ z h=>⟨_,(vN n _ _ _ _ z),?_⟩;conv=>whnf
  exact⟨(t,u,V,W,X,Y,Z,a0,a1,a2,a4,a5),h,wk [0,1,2] []⟩
 obtain rfl:=sj h;conv=>whnf
 refine⟨_,_,⟨rfl,rfl⟩,wk [0] []⟩
theorem Gs (n:Nat) (g140:UD) (g88 g136:xY) (g172 g201:xY) (g234 g271:xY) (g289 g308 g311:xY) (g313:UE) (g314:UF) (g140_ok:Pk g140) (g88_ok:Pl g88) (g136_ok:Pm g136) (g172_ok:Pn g172) (g201_ok:Po g201) (g234_ok:Pp g234) (g271_ok:Pq g271) (g289_ok:Pr g289) (g308_ok:Ps g308) (g311_ok:Pt g311) (g313_ok:UB g313) (g314_ok:UC g314):∀ (a:List qo) (c:Int) (b:Bool) (r:qd×Int×Bool),Qh n g140 g88 g136 g172 g201 g234 g271 g289 g308 g311 g313 g314 a c b=some r->qS TP 201 [.ptr 0 0] [.box 117 [pK a,pI c,pB b]] 1 (fun v lo=>v=tw a c b r/\lo=tq a c b r):=by
 intro a c b r h;unfold Qh at h;refine zO Tryz.call201 Tryz.func201 [85,201,234,1000000] ?_;conv=>whnf
 refine bq h fun⟨G,H⟩ d h=>?_;refine zz (qf n _ _ _ _ _ d) [0] [] ?_;rintro _ _ ⟨rfl,rfl⟩;refine⟨pB G,[.box 117 [pK a,pI H,pB b],zq4],rfl,rfl,?_⟩;conv=>whnf
 apply ifc h<;>intro _ h
 ·conv=>whnf
  refine bq h fun⟨⟨I,J,⟨K,L,i,j,k,l⟩,m,o⟩,q,s⟩ e h=>?_;refine zz (g201_ok _ _ _ _ e) [0] [] ?_;rintro _ _ ⟨rfl,rfl⟩;refine⟨.p (.agg [.int .i64 I,.str J,.int .i64 K,.bool L,.int .i64 i,.str j,.sl (Val.rows k),.sl (qi l),.sl (qi m),.sl (qd.rows o)]),[.box 117 [pK a,pI q,pB s],zq4],rfl,rfl,?_⟩;conv=>whnf
  refine bq h fun⟨_,_,⟨_,_,_,_,_,_⟩,_,_⟩ f h=>⟨_,(cK n _ _ _ f),?_⟩;obtain rfl:=sj h;conv=>whnf
  refine⟨_,_,⟨rfl,rfl⟩,wk [0] []⟩
 conv=>whnf
 refine bq h fun⟨⟨t,u,⟨w,x,y,z,A,B⟩,C,D⟩,E,F⟩ g h=>?_;refine zz (g234_ok _ _ _ _ g) [0] [] ?_;rintro _ _ ⟨rfl,rfl⟩;refine⟨.p (.agg [.int .i64 t,.str u,.int .i64 w,.bool x,.int .i64 y,.str z,.sl (Val.rows A),.sl (qi B),.sl (qi C),.sl (qd.rows D)]),[.box 117 [pK a,pI E,pB F],zq4],rfl,rfl,?_⟩;obtain rfl:=sj h;conv=>whnf
 refine⟨_,_,⟨rfl,rfl⟩,wk [0] []⟩
theorem Um (n:Nat) (g140:UD) (g88 g136:xY) (g172 g201:xY) (g234 g271:xY) (g289 g308 g311:xY) (g313:UE) (g314:UF) (g140_ok:Pk g140) (g88_ok:Pl g88) (g136_ok:Pm g136) (g172_ok:Pn g172) (g201_ok:Po g201) (g234_ok:Pp g234) (g271_ok:Pq g271) (g289_ok:Pr g289) (g308_ok:Ps g308) (g311_ok:Pt g311) (g313_ok:UB g313) (g314_ok:UC g314):∀ (a:List qo) (o:Int) (q:Bool) (r:qd×Int×Bool),sV n g140 g88 g136 g172 g201 g234 g271 g289 g308 g311 g313 g314 a o q=some r->qS TP 234 [.ptr 0 0] [.box 117 [pK a,pI o,pB q]] 1 (fun v lo=>v=rV a o q r/\lo=rR a o q r):=by
 intro a o q r h;unfold sV at h;refine zO Tryz.call234 Tryz.func234 [85,89,271,1000000] ?_;conv=>whnf
 refine bq h fun⟨⟨f,g,⟨i,j,k,l,b,c⟩,d,e⟩,J,m⟩ x h=>?_;refine zz (g271_ok _ _ _ _ x) [0] [] ?_;rintro _ _ ⟨rfl,rfl⟩;refine⟨.p (.agg [.int .i64 f,.str g,.int .i64 i,.bool j,.int .i64 k,.str l,.sl (Val.rows b),.sl (qi c),.sl (qi d),.sl (qd.rows e)]),[.box 117 [pK a,pI J,pB m],zq4],rfl,rfl,?_⟩;conv=>whnf
 refine bq h fun⟨K,L⟩ A h=>?_;refine zz (qf n _ _ _ _ _ A) [0] [] ?_;rintro _ _ ⟨rfl,rfl⟩;refine⟨pB K,[.box 117 [pK a,pI L,pB m],zq4,.box 42 [pI f,pS g,pI i,pB j,pI k,pS l,pV b,pT c,pT d,pE e]],rfl,rfl,?_⟩;conv=>whnf
 apply ifc h<;>intro t h
 ·conv=>whnf
  refine bq h fun⟨M,N⟩ C h=>?_;refine zz (qf n _ _ _ _ _ C) [0] [] ?_;rintro _ _ ⟨rfl,rfl⟩;refine⟨pB M,[.box 117 [pK a,pI N,pB m],zq4,.box 42 [pI f,pS g,pI i,pB j,pI k,pS l,pV b,pT c,pT d,pE e]],rfl,rfl,?_⟩;conv=>whnf
  refine bq h fun⟨O,P⟩ D h=>?_;refine zz (qD n _ _ _ _ _ D) [0] [] ?_;rintro _ _ ⟨rfl,rfl⟩;refine⟨.p (.tup []),[.box 117 [pK a,pI O,pB P],zq4,.box 42 [pI f,pS g,pI i,pB j,pI k,pS l,pV b,pT c,pT d,pE e]],rfl,rfl,?_⟩;conv=>whnf
  apply ifc h<;>intro t h
  ·conv=>whnf
   refine bq h fun⟨_,_,⟨_,_,_,_,_,_⟩,_,_⟩ E h=>⟨_,(cK n _ _ _ E),?_⟩;obtain rfl:=sj h;conv=>whnf
   refine⟨_,_,⟨rfl,rfl⟩,wk [0] []⟩
  conv=>whnf
  refine bq h fun⟨_,_,⟨_,_,_,_,_,_⟩,_,_⟩ F h=>⟨_,(cK n _ _ _ F),?_⟩;obtain rfl:=sj h;conv=>whnf
  refine⟨_,_,⟨rfl,rfl⟩,wk [0] []⟩
 conv=>whnf
 refine⟨Codec.one cV [([61]:SS),([60,62]:SS),([60,61]:SS),([60]:SS),([62,61]:SS),([62]:SS),([73,78]:SS)],qi [([61]:SS),([60,62]:SS),([60,61]:SS),([60]:SS),([62,61]:SS),([62]:SS),([73,78]:SS)],.inl rfl,?_⟩;conv=>whnf
 refine qP.fn [85,89,271,1000000] (S:=Int×Int) (fun(s,u)=>[(0,.ptr 0 0),(2,.ptr 1 0),(3,.ptr 2 0),(5,.p (.sl (qi [([61]:SS),([60,62]:SS),([60,61]:SS),([60]:SS),([62,61]:SS),([62]:SS),([73,78]:SS)]))),(6,pI s)]) (fun(s,u)=>[.box 117 [pK a,pI u,pB m],zq4,.box 42 [pI f,pS g,pI i,pB j,pI k,pS l,pV b,pT c,pT d,pE e]]) (B:=nC n a m g271 f g i j k l b c d e) h (wk [0,1,2] []) ?_;intro _ st h;obtain⟨s,u⟩:=st;unfold nC at h;conv=>whnf
 apply ifc h<;>intro t h
 ·conv=>whnf
  refine bq h fun _ z h=>⟨_,Codec.at_ cV z,?_⟩;conv=>whnf
  refine bq h fun⟨Q,w⟩ G h=>?_;refine zz (qf n _ _ _ _ _ G) [0] [] ?_;rintro _ _ ⟨rfl,rfl⟩;refine⟨pB Q,[.box 117 [pK a,pI w,pB m],zq4,.box 42 [pI f,pS g,pI i,pB j,pI k,pS l,pV b,pT c,pT d,pE e]],rfl,rfl,?_⟩;conv=>whnf
  apply ifc h<;>intro t h
  ·conv=>whnf
   refine bq h fun⟨⟨R,T,⟨U,V,W,X,Y,Z⟩,a0,a1⟩,a2,a3⟩ H h=>?_;refine zz (g271_ok _ _ _ _ H) [0] [] ?_;rintro _ _ ⟨rfl,rfl⟩;refine⟨.p (.agg [.int .i64 R,.str T,.int .i64 U,.bool V,.int .i64 W,.str X,.sl (Val.rows Y),.sl (qi Z),.sl (qi a0),.sl (qd.rows a1)]),[.box 117 [pK a,pI a2,pB a3],zq4,.box 42 [pI f,pS g,pI i,pB j,pI k,pS l,pV b,pT c,pT d,pE e]],rfl,rfl,?_⟩;conv=>whnf
   refine bq h fun _ y h=>⟨_,Codec.at_ cV y,?_⟩;conv=>whnf
   refine bq h fun⟨_,_,⟨_,_,_,_,_,_⟩,_,_⟩ I h=>⟨_,(vN n _ _ _ _ I),?_⟩;obtain rfl:=sj h;conv=>whnf
   refine⟨_,_,⟨rfl,rfl⟩,wk [0] []⟩
  conv=>whnf
  exact⟨((kwr .i64 (s+1)),w),h,wk [0,1,2] []⟩
 obtain rfl:=sj h;conv=>whnf
 refine⟨_,_,⟨rfl,rfl⟩,wk [0] []⟩
theorem Gt (n:Nat) (g140:UD) (g88 g136:xY) (g172 g201:xY) (g234 g271:xY) (g289 g308 g311:xY) (g313:UE) (g314:UF) (g140_ok:Pk g140) (g88_ok:Pl g88) (g136_ok:Pm g136) (g172_ok:Pn g172) (g201_ok:Po g201) (g234_ok:Pp g234) (g271_ok:Pq g271) (g289_ok:Pr g289) (g308_ok:Ps g308) (g311_ok:Pt g311) (g313_ok:UB g313) (g314_ok:UC g314):∀ (a:List qo) (q:Int) (s:Bool) (r:qd×Int×Bool),Qi n g140 g88 g136 g172 g201 g234 g271 g289 g308 g311 g313 g314 a q s=some r->qS TP 271 [.ptr 0 0] [.box 117 [pK a,pI q,pB s]] 1 (fun v lo=>v=tx a q s r/\lo=tr a q s r):=by
 intro a q s r h;unfold Qi at h;refine zO Tryz.call271 Tryz.func271 [94,289,1000000] ?_;conv=>whnf
 refine bq h fun⟨⟨Z,a8,⟨b5,c6,d5,d8,K,L⟩,M,N⟩,O,P⟩ z h=>?_;refine zz (g289_ok _ _ _ _ z) [0] [] ?_;rintro _ _ ⟨rfl,rfl⟩;refine⟨.p (.agg [.int .i64 Z,.str a8,.int .i64 b5,.bool c6,.int .i64 d5,.str d8,.sl (Val.rows K),.sl (qi L),.sl (qi M),.sl (qd.rows N)]),[.box 117 [pK a,pI O,pB P],zq4],rfl,rfl,?_⟩;conv=>whnf
 refine qP.fn [94,289,1000000] (S:=Int×Bool×Int×SS×Int×Bool×Int×SS×List Val×List SS×List SS×List qd) (fun(m,o,b,c,d,e,f,g,i,j,k,l)=>[(0,.ptr 0 0),(2,.ptr 1 0),(3,.ptr 2 0)]) (fun(m,o,b,c,d,e,f,g,i,j,k,l)=>[.box 117 [pK a,pI m,pB o],zq4,.box 42 [pI b,pS c,pI d,pB e,pI f,pS g,pV i,pT j,pT k,pE l]]) (B:=rG n a g289) h (wk [0,1,2] []) ?_;intro _ st h;obtain⟨m,o,b,c,d,e,f,g,i,j,k,l⟩:=st;unfold rG at h;conv=>whnf
 refine bq h fun Q A h=>?_;refine zz (zH n _ _ _ _ _ A) [0] [] ?_;rintro _ _ ⟨rfl,rfl⟩;refine⟨pB Q,[.box 117 [pK a,pI m,pB o],zq4,.box 42 [pI b,pS c,pI d,pB e,pI f,pS g,pV i,pT j,pT k,pE l]],rfl,rfl,?_⟩;conv=>whnf
 refine⟨fun t=>?_,fun t=>?_⟩
 ·replace h:=uA h t
  conv=>whnf
  refine⟨id,?_⟩;conv=>whnf
  refine bq h fun R C h=>?_;refine zz (zH n _ _ _ _ _ C) [0] [] ?_;rintro _ _ ⟨rfl,rfl⟩;refine⟨pB R,[.box 117 [pK a,pI m,pB o],zq4,.box 42 [pI b,pS c,pI d,pB e,pI f,pS g,pV i,pT j,pT k,pE l]],rfl,rfl,?_⟩;conv=>whnf
  refine⟨id,?_⟩;conv=>whnf
  apply ifc h<;>intro J h
  ·conv=>whnf
   refine bq h fun⟨_,_,_,_⟩ F h=>⟨_,Codec.at_ mf F,?_⟩;conv=>whnf
   refine bq h fun⟨⟨T,U,⟨V,W,X,Y,a0,a1⟩,a2,a3⟩,u,w⟩ D h=>?_;refine zz (g289_ok _ _ _ _ D) [0] [] ?_;rintro _ _ ⟨rfl,rfl⟩;refine⟨.p (.agg [.int .i64 T,.str U,.int .i64 V,.bool W,.int .i64 X,.str Y,.sl (Val.rows a0),.sl (qi a1),.sl (qi a2),.sl (qd.rows a3)]),[.box 117 [pK a,pI u,pB w],zq4,.box 42 [pI b,pS c,pI d,pB e,pI f,pS g,pV i,pT j,pT k,pE l]],rfl,rfl,?_⟩;conv=>whnf
   refine bq h fun⟨a4,a5,⟨a6,a7,a9,b0,b1,b2⟩,b3,b4⟩ E h=>⟨_,(vN n _ _ _ _ E),?_⟩;conv=>whnf
   exact⟨(u,w,a4,a5,a6,a7,a9,b0,b1,b2,b3,b4),h,wk [0,1,2] []⟩
  obtain rfl:=sj h;conv=>whnf
  refine⟨_,_,⟨rfl,rfl⟩,wk [0] []⟩
 replace h:=uz h t;refine⟨pB false,?_⟩;conv=>whnf
 refine⟨id,?_⟩;conv=>whnf
 apply ifc h<;>intro J h
 ·conv=>whnf
  refine bq h fun⟨_,_,_,_⟩ I h=>⟨_,Codec.at_ mf I,?_⟩;conv=>whnf
  refine bq h fun⟨⟨b6,b7,⟨b8,b9,c0,c1,c2,c3⟩,c4,c5⟩,x,y⟩ G h=>?_;refine zz (g289_ok _ _ _ _ G) [0] [] ?_;rintro _ _ ⟨rfl,rfl⟩;refine⟨.p (.agg [.int .i64 b6,.str b7,.int .i64 b8,.bool b9,.int .i64 c0,.str c1,.sl (Val.rows c2),.sl (qi c3),.sl (qi c4),.sl (qd.rows c5)]),[.box 117 [pK a,pI x,pB y],zq4,.box 42 [pI b,pS c,pI d,pB e,pI f,pS g,pV i,pT j,pT k,pE l]],rfl,rfl,?_⟩;conv=>whnf
  refine bq h fun⟨c7,c8,⟨c9,d0,d1,d2,d3,d4⟩,d6,d7⟩ H h=>⟨_,(vN n _ _ _ _ H),?_⟩;conv=>whnf
  exact⟨(x,y,c7,c8,c9,d0,d1,d2,d3,d4,d6,d7),h,wk [0,1,2] []⟩
 obtain rfl:=sj h;conv=>whnf
 refine⟨_,_,⟨rfl,rfl⟩,wk [0] []⟩
theorem ZL (n:Nat) (g140:UD) (g88 g136:xY) (g172 g201:xY) (g234 g271:xY) (g289 g308 g311:xY) (g313:UE) (g314:UF) (g140_ok:Pk g140) (g88_ok:Pl g88) (g136_ok:Pm g136) (g172_ok:Pn g172) (g201_ok:Po g201) (g234_ok:Pp g234) (g271_ok:Pq g271) (g289_ok:Pr g289) (g308_ok:Ps g308) (g311_ok:Pt g311) (g313_ok:UB g313) (g314_ok:UC g314):∀ (a:List qo) (s:Int) (t:Bool) (r:qd×Int×Bool),mh n g140 g88 g136 g172 g201 g234 g271 g289 g308 g311 g313 g314 a s t=some r->qS TP 289 [.ptr 0 0] [.box 117 [pK a,pI s,pB t]] 1 (fun v lo=>v=bh a s t r/\lo=bg a s t r):=by
 intro a s t r h;unfold mh at h;refine zO Tryz.call289 Tryz.func289 [94,308,1000000] ?_;conv=>whnf
 refine bq h fun⟨⟨e1,f0,⟨f8,g8,i7,j4,X,a8⟩,b5,c4⟩,d1,d2⟩ F h=>?_;refine zz (g308_ok _ _ _ _ F) [0] [] ?_;rintro _ _ ⟨rfl,rfl⟩;refine⟨.p (.agg [.int .i64 e1,.str f0,.int .i64 f8,.bool g8,.int .i64 i7,.str j4,.sl (Val.rows X),.sl (qi a8),.sl (qi b5),.sl (qd.rows c4)]),[.box 117 [pK a,pI d1,pB d2],zq4],rfl,rfl,?_⟩;conv=>whnf
 refine qP.fn [94,308,1000000] (S:=Int×Bool×Int×SS×Int×Bool×Int×SS×List Val×List SS×List SS×List qd) (fun(o,q,c,d,e,f,g,i,j,k,l,m)=>[(0,.ptr 0 0),(2,.ptr 1 0),(3,.ptr 2 0)]) (fun(o,q,c,d,e,f,g,i,j,k,l,m)=>[.box 117 [pK a,pI o,pB q],zq4,.box 42 [pI c,pS d,pI e,pB f,pI g,pS i,pV j,pT k,pT l,pE m]]) (B:=de n a g308) h (wk [0,1,2] []) ?_;intro _ st h;obtain⟨o,q,c,d,e,f,g,i,j,k,l,m⟩:=st;unfold de at h;conv=>whnf
 refine bq h fun d3 O h=>?_;refine zz (zH n _ _ _ _ _ O) [0] [] ?_;rintro _ _ ⟨rfl,rfl⟩;refine⟨pB d3,[.box 117 [pK a,pI o,pB q],zq4,.box 42 [pI c,pS d,pI e,pB f,pI g,pS i,pV j,pT k,pT l,pE m]],rfl,rfl,?_⟩;conv=>whnf
 refine⟨fun b=>?_,fun b=>?_⟩
 ·replace h:=uA h b
  conv=>whnf
  refine⟨id,?_⟩;conv=>whnf
  refine bq h fun d4 P h=>?_;refine zz (zH n _ _ _ _ _ P) [0] [] ?_;rintro _ _ ⟨rfl,rfl⟩;refine⟨pB d4,[.box 117 [pK a,pI o,pB q],zq4,.box 42 [pI c,pS d,pI e,pB f,pI g,pS i,pV j,pT k,pT l,pE m]],rfl,rfl,?_⟩;conv=>whnf
  refine⟨id,?_⟩;conv=>whnf
  refine⟨fun b=>?_,fun b=>?_⟩
  ·replace h:=uA h b
   conv=>whnf
   refine⟨id,?_⟩;conv=>whnf
   refine bq h fun d5 Q h=>?_;refine zz (zH n _ _ _ _ _ Q) [0] [] ?_;rintro _ _ ⟨rfl,rfl⟩;refine⟨pB d5,[.box 117 [pK a,pI o,pB q],zq4,.box 42 [pI c,pS d,pI e,pB f,pI g,pS i,pV j,pT k,pT l,pE m]],rfl,rfl,?_⟩;conv=>whnf
   refine⟨id,?_⟩;conv=>whnf
   apply ifc h<;>intro u h
   ·conv=>whnf
    refine bq h fun⟨_,_,_,_⟩ U h=>⟨_,Codec.at_ mf U,?_⟩;(conv=>whnf);refine bq h fun⟨⟨d6,d7,⟨d8,d9,e0,e2,e3,e4⟩,e5,e6⟩,y,z⟩ R h=>?_;refine zz (g308_ok _ _ _ _ R) [0] [] ?_;rintro _ _ ⟨rfl,rfl⟩;refine⟨.p (.agg [.int .i64 d6,.str d7,.int .i64 d8,.bool d9,.int .i64 e0,.str e2,.sl (Val.rows e3),.sl (qi e4),.sl (qi e5),.sl (qd.rows e6)]),[.box 117 [pK a,pI y,pB z],zq4,.box 42 [pI c,pS d,pI e,pB f,pI g,pS i,pV j,pT k,pT l,pE m]],rfl,rfl,?_⟩;(conv=>whnf);refine bq h fun⟨e7,e8,⟨e9,f1,f2,f3,f4,f5⟩,f6,f7⟩ T h=>⟨_,(vN n _ _ _ _ T),?_⟩;(conv=>whnf);exact⟨(y,z,e7,e8,e9,f1,f2,f3,f4,f5,f6,f7),h,wk [0,1,2] []⟩
   obtain rfl:=sj h;conv=>whnf
   refine⟨_,_,⟨rfl,rfl⟩,wk [0] []⟩
  replace h:=uz h b;refine⟨pB false,?_⟩;conv=>whnf
  refine⟨id,?_⟩;conv=>whnf
  apply ifc h<;>intro u h
  ·conv=>whnf
   refine bq h fun⟨_,_,_,_⟩ G h=>⟨_,Codec.at_ mf G,?_⟩;conv=>whnf
   refine bq h fun⟨⟨f9,g0,⟨g1,g2,g3,g4,g5,g6⟩,g7,g9⟩,A,C⟩ V h=>?_;refine zz (g308_ok _ _ _ _ V) [0] [] ?_;rintro _ _ ⟨rfl,rfl⟩;refine⟨.p (.agg [.int .i64 f9,.str g0,.int .i64 g1,.bool g2,.int .i64 g3,.str g4,.sl (Val.rows g5),.sl (qi g6),.sl (qi g7),.sl (qd.rows g9)]),[.box 117 [pK a,pI A,pB C],zq4,.box 42 [pI c,pS d,pI e,pB f,pI g,pS i,pV j,pT k,pT l,pE m]],rfl,rfl,?_⟩;conv=>whnf
   refine bq h fun⟨i0,i1,⟨i2,i3,i4,i5,i6,i8⟩,i9,j0⟩ W h=>⟨_,(vN n _ _ _ _ W),?_⟩;conv=>whnf
   exact⟨(A,C,i0,i1,i2,i3,i4,i5,i6,i8,i9,j0),h,wk [0,1,2] []⟩
  obtain rfl:=sj h;conv=>whnf
  refine⟨_,_,⟨rfl,rfl⟩,wk [0] []⟩
 replace h:=uz h b;refine⟨pB false,?_⟩;conv=>whnf
 refine⟨id,?_⟩;conv=>whnf
 refine⟨fun b=>?_,fun b=>?_⟩
 ·replace h:=uA h b
  conv=>whnf
  refine⟨id,?_⟩;conv=>whnf
  refine bq h fun j1 H h=>?_;refine zz (zH n _ _ _ _ _ H) [0] [] ?_;rintro _ _ ⟨rfl,rfl⟩;refine⟨pB j1,[.box 117 [pK a,pI o,pB q],zq4,.box 42 [pI c,pS d,pI e,pB f,pI g,pS i,pV j,pT k,pT l,pE m]],rfl,rfl,?_⟩;conv=>whnf
  refine⟨id,?_⟩;conv=>whnf
  apply ifc h<;>intro u h
  ·conv=>whnf
   refine bq h fun⟨_,_,_,_⟩ K h=>⟨_,Codec.at_ mf K,?_⟩;conv=>whnf
   refine bq h fun⟨⟨j2,j3,⟨j5,j6,j7,j8,j9,k0⟩,k1,k2⟩,D,E⟩ I h=>?_;refine zz (g308_ok _ _ _ _ I) [0] [] ?_;rintro _ _ ⟨rfl,rfl⟩;refine⟨.p (.agg [.int .i64 j2,.str j3,.int .i64 j5,.bool j6,.int .i64 j7,.str j8,.sl (Val.rows j9),.sl (qi k0),.sl (qi k1),.sl (qd.rows k2)]),[.box 117 [pK a,pI D,pB E],zq4,.box 42 [pI c,pS d,pI e,pB f,pI g,pS i,pV j,pT k,pT l,pE m]],rfl,rfl,?_⟩;conv=>whnf
   refine bq h fun⟨Y,Z,⟨a0,a1,a2,a3,a4,a5⟩,a6,a7⟩ J h=>⟨_,(vN n _ _ _ _ J),?_⟩;conv=>whnf
   exact⟨(D,E,Y,Z,a0,a1,a2,a3,a4,a5,a6,a7),h,wk [0,1,2] []⟩
  obtain rfl:=sj h;conv=>whnf
  refine⟨_,_,⟨rfl,rfl⟩,wk [0] []⟩
 replace h:=uz h b;refine⟨pB false,?_⟩;conv=>whnf
 refine⟨id,?_⟩;conv=>whnf
 apply ifc h<;>intro u h
 ·conv=>whnf
  refine bq h fun⟨_,_,_,_⟩ N h=>⟨_,Codec.at_ mf N,?_⟩;conv=>whnf
  refine bq h fun⟨⟨a9,b0,⟨b1,b2,b3,b4,b6,b7⟩,b8,b9⟩,w,x⟩ L h=>?_;refine zz (g308_ok _ _ _ _ L) [0] [] ?_;rintro _ _ ⟨rfl,rfl⟩;refine⟨.p (.agg [.int .i64 a9,.str b0,.int .i64 b1,.bool b2,.int .i64 b3,.str b4,.sl (Val.rows b6),.sl (qi b7),.sl (qi b8),.sl (qd.rows b9)]),[.box 117 [pK a,pI w,pB x],zq4,.box 42 [pI c,pS d,pI e,pB f,pI g,pS i,pV j,pT k,pT l,pE m]],rfl,rfl,?_⟩;conv=>whnf
  refine bq h fun⟨c0,c1,⟨c2,c3,c5,c6,c7,c8⟩,c9,d0⟩ M h=>⟨_,(vN n _ _ _ _ M),?_⟩;conv=>whnf
  exact⟨(w,x,c0,c1,c2,c3,c5,c6,c7,c8,c9,d0),h,wk [0,1,2] []⟩
 obtain rfl:=sj h;conv=>whnf
 refine⟨_,_,⟨rfl,rfl⟩,wk [0] []⟩
theorem Vc (n:Nat) (g140:UD) (g88 g136:xY) (g172 g201:xY) (g234 g271:xY) (g289 g308 g311:xY) (g313:UE) (g314:UF) (g140_ok:Pk g140) (g88_ok:Pl g88) (g136_ok:Pm g136) (g172_ok:Pn g172) (g201_ok:Po g201) (g234_ok:Pp g234) (g271_ok:Pq g271) (g289_ok:Pr g289) (g308_ok:Ps g308) (g311_ok:Pt g311) (g313_ok:UB g313) (g314_ok:UC g314):∀ (a:List qo) (q:Int) (m:Bool) (r:qd×Int×Bool),pW n g140 g88 g136 g172 g201 g234 g271 g289 g308 g311 g313 g314 a q m=some r->qS TP 308 [.ptr 0 0] [.box 117 [pK a,pI q,pB m]] 1 (fun v lo=>v=nL a q m r/\lo=nK a q m r):=by
 intro a q m r h;unfold pW at h;refine zO Tryz.call308 Tryz.func308 [85,88,89,139,308,311,1000000] ?_;conv=>whnf
 refine bq h fun⟨e1,e2⟩ a8 h=>?_;refine zz (qf n _ _ _ _ _ a8) [0] [] ?_;rintro _ _ ⟨rfl,rfl⟩;refine⟨pB e1,[.box 117 [pK a,pI e2,pB m],zq4],rfl,rfl,?_⟩;conv=>whnf
 apply ifc h<;>intro E h
 ·conv=>whnf
  refine bq h fun⟨⟨e6,e9,⟨f1,f6,c1,c2,c3,c4⟩,c5,c6⟩,c7,c8⟩ b3 h=>?_;refine zz (g308_ok _ _ _ _ b3) [0] [] ?_;rintro _ _ ⟨rfl,rfl⟩;refine⟨.p (.agg [.int .i64 e6,.str e9,.int .i64 f1,.bool f6,.int .i64 c1,.str c2,.sl (Val.rows c3),.sl (qi c4),.sl (qi c5),.sl (qd.rows c6)]),[.box 117 [pK a,pI c7,pB c8],zq4],rfl,rfl,?_⟩;conv=>whnf
  refine bq h fun⟨_,_,⟨_,_,_,_,_,_⟩,_,_⟩ b4 h=>⟨_,(cK n _ _ _ b4),?_⟩;obtain rfl:=sj h;conv=>whnf
  refine⟨_,_,⟨rfl,rfl⟩,wk [0] []⟩
 conv=>whnf
 refine bq h fun⟨⟨c9,d0,⟨d1,d2,d3,d4,d5,d6⟩,d7,d8⟩,d9,e0⟩ b5 h=>?_;refine zz (g311_ok _ _ _ _ b5) [0] [] ?_;rintro _ _ ⟨rfl,rfl⟩;refine⟨.p (.agg [.int .i64 c9,.str d0,.int .i64 d1,.bool d2,.int .i64 d3,.str d4,.sl (Val.rows d5),.sl (qi d6),.sl (qi d7),.sl (qd.rows d8)]),[.box 117 [pK a,pI d9,pB e0],zq4],rfl,rfl,?_⟩;conv=>whnf
 refine qP.fn [85,88,89,139,308,311,1000000] (S:=Int×Bool×Int×SS×Int×Bool×Int×SS×List Val×List SS×List SS×List qd) (fun(G,o,b,c,d,e,f,g,i,j,k,l)=>[(0,.ptr 0 0),(2,.ptr 1 0),(4,.ptr 2 0)]) (fun(G,o,b,c,d,e,f,g,i,j,k,l)=>[.box 117 [pK a,pI G,pB o],zq4,.box 42 [pI b,pS c,pI d,pB e,pI f,pS g,pV i,pT j,pT k,pE l]]) (B:=mm n a g88) h (wk [0,1,2] []) ?_;intro _ st h;obtain⟨G,o,b,c,d,e,f,g,i,j,k,l⟩:=st;unfold mm at h;conv=>whnf
 refine bq h fun⟨e3,e4⟩ b6 h=>?_;refine zz (qf n _ _ _ _ _ b6) [0] [] ?_;rintro _ _ ⟨rfl,rfl⟩;refine⟨pB e3,[.box 117 [pK a,pI e4,pB o],zq4,.box 42 [pI b,pS c,pI d,pB e,pI f,pS g,pV i,pT j,pT k,pE l]],rfl,rfl,?_⟩;conv=>whnf
 apply ifc h<;>intro E h
 ·conv=>whnf
  refine bq h fun⟨H,e5,⟨I,J,K,L,M,N⟩,O,P⟩ b8 h=>⟨_,(cK n _ _ _ b8),?_⟩;conv=>whnf
  refine bq h fun⟨Q,R,T⟩ b7 h=>?_;refine zz (vL n _ _ _ _ b7) [0] [] ?_;rintro _ _ ⟨rfl,rfl⟩;refine⟨pS Q,[.box 117 [pK a,pI R,pB T],zq4,.box 42 [pI H,pS e5,pI I,pB J,pI K,pS L,pV M,pT N,pT O,pE P]],rfl,rfl,?_⟩;conv=>whnf
  exact⟨(R,T,H,Q,I,J,K,L,M,N,O,P),h,wk [0,1,2] []⟩
 conv=>whnf
 refine bq h fun⟨e7,e8⟩ b9 h=>?_;refine zz (qf n _ _ _ _ _ b9) [0] [] ?_;rintro _ _ ⟨rfl,rfl⟩;refine⟨pB e7,[.box 117 [pK a,pI e8,pB o],zq4,.box 42 [pI b,pS c,pI d,pB e,pI f,pS g,pV i,pT j,pT k,pE l]],rfl,rfl,?_⟩;conv=>whnf
 apply ifc h<;>intro E h
 ·conv=>whnf
  refine bq h fun⟨⟨s,t,⟨u,w,x,y,z,A⟩,C,D⟩,f0,f2⟩ c0 h=>?_;refine zz (g88_ok _ _ _ _ c0) [0] [] ?_;rintro _ _ ⟨rfl,rfl⟩;refine⟨.p (.agg [.int .i64 s,.str t,.int .i64 u,.bool w,.int .i64 x,.str y,.sl (Val.rows z),.sl (qi A),.sl (qi C),.sl (qd.rows D)]),[.box 117 [pK a,pI f0,pB f2],zq4,.box 42 [pI b,pS c,pI d,pB e,pI f,pS g,pV i,pT j,pT k,pE l]],rfl,rfl,?_⟩;conv=>whnf
  refine bq h fun⟨U,V⟩ a9 h=>?_;refine zz (qD n _ _ _ _ _ a9) [0] [] ?_;rintro _ _ ⟨rfl,rfl⟩;refine⟨.p (.tup []),[.box 117 [pK a,pI U,pB V],zq4,.box 42 [pI b,pS c,pI d,pB e,pI f,pS g,pV i,pT j,pT k,pE l],.box 42 [pI s,pS t,pI u,pB w,pI x,pS y,pV z,pT A,pT C,pE D]],rfl,rfl,?_⟩;conv=>whnf
  refine⟨Codec.one xT [qd.mk b c (Val.mk d e f g i j) k l,qd.mk s t (Val.mk u w x y z A) C D],qd.rows [qd.mk b c (Val.mk d e f g i j) k l,qd.mk s t (Val.mk u w x y z A) C D],.inl rfl,?_⟩;conv=>whnf
  exact⟨(U,V,(7:Int),([]:SS),(0:Int),false,(0:Int),([]:SS),([]:List _),([]:List _),([]:List _),[qd.mk b c (Val.mk d e f g i j) k l,qd.mk s t (Val.mk u w x y z A) C D]),h,wk [0,1,2] []⟩
 conv=>whnf
 refine⟨fun F=>?_,fun F=>?_⟩
 ·replace h:=uA h F
  conv=>whnf
  refine⟨id,?_⟩;conv=>whnf
  refine bq h fun⟨f3,f4⟩ b0 h=>?_;refine zz (qf n _ _ _ _ _ b0) [0] [] ?_;rintro _ _ ⟨rfl,rfl⟩;refine⟨pB f3,[.box 117 [pK a,pI f4,pB o],zq4,.box 42 [pI b,pS c,pI d,pB e,pI f,pS g,pV i,pT j,pT k,pE l]],rfl,rfl,?_⟩;conv=>whnf
  refine⟨id,?_⟩;conv=>whnf
  apply ifc h<;>intro E h
  ·conv=>whnf
   refine bq h fun⟨W,f5,⟨X,Y,Z,a0,a1,a2⟩,a3,a4⟩ b2 h=>⟨_,(cK n _ _ _ b2),?_⟩;conv=>whnf
   refine bq h fun⟨a5,a6,a7⟩ b1 h=>?_;refine zz (vL n _ _ _ _ b1) [0] [] ?_;rintro _ _ ⟨rfl,rfl⟩;refine⟨pS a5,[.box 117 [pK a,pI a6,pB a7],zq4,.box 42 [pI W,pS f5,pI X,pB Y,pI Z,pS a0,pV a1,pT a2,pT a3,pE a4]],rfl,rfl,?_⟩;conv=>whnf
   exact⟨(a6,a7,W,a5,X,Y,Z,a0,a1,a2,a3,a4),h,wk [0,1,2] []⟩
  obtain rfl:=sj h;conv=>whnf
  refine⟨_,_,⟨rfl,rfl⟩,wk [0] []⟩
 replace h:=uz h F;refine⟨pB false,?_⟩;conv=>whnf
 refine⟨id,?_⟩;conv=>whnf
 refine⟨fun hf=>absurd hf (by first|decide|simp),fun _=>?_⟩;obtain rfl:=sj h;conv=>whnf
 refine⟨_,_,⟨rfl,rfl⟩,wk [0] []⟩
theorem Uj (n:Nat) (g140:UD) (g88 g136:xY) (g172 g201:xY) (g234 g271:xY) (g289 g308 g311:xY) (g313:UE) (g314:UF) (g140_ok:Pk g140) (g88_ok:Pl g88) (g136_ok:Pm g136) (g172_ok:Pn g172) (g201_ok:Po g201) (g234_ok:Pp g234) (g271_ok:Pq g271) (g289_ok:Pr g289) (g308_ok:Ps g308) (g311_ok:Pt g311) (g313_ok:UB g313) (g314_ok:UC g314):∀ (a:List qo) (i:Int) (f:Bool) (r:qd×Int×Bool),sS n g140 g88 g136 g172 g201 g234 g271 g289 g308 g311 g313 g314 a i f=some r->qS TP 311 [.ptr 0 0] [.box 117 [pK a,pI i,pB f]] 1 (fun v lo=>v=rS a i f r/\lo=rO a i f r):=by
 intro a i f r h;unfold sS at h;refine zO Tryz.call311 Tryz.func311 [85,88,89,90,94,140,313,314,40000003,1000000] ?_;conv=>whnf
 apply ifc h<;>intro g h
 ·obtain rfl:=sj h
  conv=>whnf
  refine⟨_,_,⟨rfl,rfl⟩,wk [0] []⟩
 conv=>whnf
 refine bq h fun⟨b,c,d,e⟩ E h=>⟨_,Codec.at_ mf E,?_⟩;conv=>whnf
 apply ifc h<;>intro g h
 ·obtain rfl:=sj h
  conv=>whnf
  refine⟨_,_,⟨rfl,rfl⟩,wk [0] []⟩
 conv=>whnf
 apply ifc h<;>intro g h
 ·obtain rfl:=sj h
  conv=>whnf
  refine⟨_,_,⟨rfl,rfl⟩,wk [0] []⟩
 conv=>whnf
 apply ifc h<;>intro g h
 ·conv=>whnf
  refine bq h fun⟨c5,c6⟩ y h=>?_;refine zz (qf n _ _ _ _ _ y) [0] [] ?_;rintro _ _ ⟨rfl,rfl⟩;refine⟨pB c5,[.box 117 [pK a,pI c6,pB f],zq4,.box 119 [pI b,pS c,pI d,pI e]],rfl,rfl,?_⟩;conv=>whnf
  apply ifc h<;>intro g h
  ·conv=>whnf
   refine bq h fun⟨⟨N,O,⟨P,Q,R,S,T,U⟩,V,W⟩,X,Y⟩ F h=>?_;refine zz (g313_ok _ _ _ _ _ F) [0] [] ?_;rintro _ _ ⟨rfl,rfl⟩;refine⟨.p (.agg [.int .i64 N,.str O,.int .i64 P,.bool Q,.int .i64 R,.str S,.sl (Val.rows T),.sl (qi U),.sl (qi V),.sl (qd.rows W)]),[.box 117 [pK a,pI X,pB Y],zq4,.box 119 [pI b,pS c,pI d,pI e]],rfl,rfl,?_⟩;obtain rfl:=sj h;conv=>whnf
   refine⟨_,_,⟨rfl,rfl⟩,wk [0] []⟩
  obtain rfl:=sj h;conv=>whnf
  refine⟨_,_,⟨rfl,rfl⟩,wk [0] []⟩
 conv=>whnf
 refine bq h fun⟨Z,a0⟩ G h=>?_;refine zz (qf n _ _ _ _ _ G) [0] [] ?_;rintro _ _ ⟨rfl,rfl⟩;refine⟨pB Z,[.box 117 [pK a,pI a0,pB f],zq4,.box 119 [pI b,pS c,pI d,pI e]],rfl,rfl,?_⟩;conv=>whnf
 apply ifc h<;>intro g h
 ·obtain rfl:=sj h
  conv=>whnf
  refine⟨_,_,⟨rfl,rfl⟩,wk [0] []⟩
 conv=>whnf
 refine bq h fun⟨a1,a2⟩ H h=>?_;refine zz (qf n _ _ _ _ _ H) [0] [] ?_;rintro _ _ ⟨rfl,rfl⟩;refine⟨pB a1,[.box 117 [pK a,pI a2,pB f],zq4,.box 119 [pI b,pS c,pI d,pI e]],rfl,rfl,?_⟩;conv=>whnf
 apply ifc h<;>intro g h
 ·obtain rfl:=sj h
  conv=>whnf
  refine⟨_,_,⟨rfl,rfl⟩,wk [0] []⟩
 conv=>whnf
 refine bq h fun⟨a3,a4⟩ I h=>?_;refine zz (qf n _ _ _ _ _ I) [0] [] ?_;rintro _ _ ⟨rfl,rfl⟩;refine⟨pB a3,[.box 117 [pK a,pI a4,pB f],zq4,.box 119 [pI b,pS c,pI d,pI e]],rfl,rfl,?_⟩;conv=>whnf
 apply ifc h<;>intro g h
 ·obtain rfl:=sj h
  conv=>whnf
  refine⟨_,_,⟨rfl,rfl⟩,wk [0] []⟩
 conv=>whnf
 refine bq h fun⟨a5,a6⟩ J h=>?_;refine zz (qf n _ _ _ _ _ J) [0] [] ?_;rintro _ _ ⟨rfl,rfl⟩;refine⟨pB a5,[.box 117 [pK a,pI a6,pB f],zq4,.box 119 [pI b,pS c,pI d,pI e]],rfl,rfl,?_⟩;conv=>whnf
 apply ifc h<;>intro g h
 ·conv=>whnf
  refine bq h fun⟨a7,a8,a9⟩ K h=>?_;refine zz (vu n _ _ _ _ K) [0] [] ?_;rintro _ _ ⟨rfl,rfl⟩;refine⟨pS a7,[.box 117 [pK a,pI a8,pB a9],zq4,.box 119 [pI b,pS c,pI d,pI e]],rfl,rfl,?_⟩;obtain rfl:=sj h;conv=>whnf
  refine⟨_,_,⟨rfl,rfl⟩,wk [0] []⟩
 conv=>whnf
 refine bq h fun⟨b0,b1⟩ L h=>?_;refine zz (qf n _ _ _ _ _ L) [0] [] ?_;rintro _ _ ⟨rfl,rfl⟩;refine⟨pB b0,[.box 117 [pK a,pI b1,pB f],zq4,.box 119 [pI b,pS c,pI d,pI e]],rfl,rfl,?_⟩;conv=>whnf
 apply ifc h<;>intro g h
 ·conv=>whnf
  refine bq h fun⟨⟨j,k,⟨l,m,o,q,s,t⟩,u,w⟩,b2,b3⟩ M h=>?_;refine zz (g88_ok _ _ _ _ M) [0] [] ?_;rintro _ _ ⟨rfl,rfl⟩;refine⟨.p (.agg [.int .i64 j,.str k,.int .i64 l,.bool m,.int .i64 o,.str q,.sl (Val.rows s),.sl (qi t),.sl (qi u),.sl (qd.rows w)]),[.box 117 [pK a,pI b2,pB b3],zq4,.box 119 [pI b,pS c,pI d,pI e]],rfl,rfl,?_⟩;conv=>whnf
  refine bq h fun⟨b4,b5⟩ z h=>?_;refine zz (qD n _ _ _ _ _ z) [0] [] ?_;rintro _ _ ⟨rfl,rfl⟩;refine⟨.p (.tup []),[.box 117 [pK a,pI b4,pB b5],zq4,.box 119 [pI b,pS c,pI d,pI e],.box 42 [pI j,pS k,pI l,pB m,pI o,pS q,pV s,pT t,pT u,pE w]],rfl,rfl,?_⟩;obtain rfl:=sj h;conv=>whnf
  refine⟨_,_,⟨rfl,rfl⟩,wk [0] []⟩
 conv=>whnf
 refine bq h fun⟨b6,x⟩ A h=>?_;refine zz (qf n _ _ _ _ _ A) [0] [] ?_;rintro _ _ ⟨rfl,rfl⟩;refine⟨pB b6,[.box 117 [pK a,pI x,pB f],zq4,.box 119 [pI b,pS c,pI d,pI e]],rfl,rfl,?_⟩;conv=>whnf
 apply ifc h<;>intro g h
 ·conv=>whnf
  refine bq h fun⟨b7,b8,b9⟩ B h=>?_;refine zz (g314_ok _ _ _ _ _ B) [0] [] ?_;rintro _ _ ⟨rfl,rfl⟩;refine⟨pE b7,[.box 117 [pK a,pI b8,pB b9],zq4,.box 119 [pI b,pS c,pI d,pI e]],rfl,rfl,?_⟩;obtain rfl:=sj h;conv=>whnf
  refine⟨_,_,⟨rfl,rfl⟩,wk [0] []⟩
 conv=>whnf
 refine bq h fun c0 C h=>?_;refine zz (zH n _ _ _ _ _ C) [0] [] ?_;rintro _ _ ⟨rfl,rfl⟩;refine⟨pB c0,[.box 117 [pK a,pI x,pB f],zq4,.box 119 [pI b,pS c,pI d,pI e]],rfl,rfl,?_⟩;conv=>whnf
 apply ifc h<;>intro g h
 ·conv=>whnf
  refine bq h fun⟨c1,c2,c3,c4⟩ D h=>?_;refine zz (g140_ok _ _ _ _ D) [0] [] ?_;rintro _ _ ⟨rfl,rfl⟩;refine⟨.p (.tup [.sl (qi c1),.sl (qd.rows c2)]),[.box 117 [pK a,pI c3,pB c4],zq4,.box 119 [pI b,pS c,pI d,pI e]],rfl,rfl,?_⟩;obtain rfl:=sj h;conv=>whnf
  refine⟨_,_,⟨rfl,rfl⟩,wk [0] []⟩
 obtain rfl:=sj h;conv=>whnf
 refine⟨_,_,⟨rfl,rfl⟩,wk [0] []⟩
theorem Uk (n:Nat) (g140:UD) (g88 g136:xY) (g172 g201:xY) (g234 g271:xY) (g289 g308 g311:xY) (g313:UE) (g314:UF) (g140_ok:Pk g140) (g88_ok:Pl g88) (g136_ok:Pm g136) (g172_ok:Pn g172) (g201_ok:Po g201) (g234_ok:Pp g234) (g271_ok:Pq g271) (g289_ok:Pr g289) (g308_ok:Ps g308) (g311_ok:Pt g311) (g313_ok:UB g313) (g314_ok:UC g314):∀ (b:SS) (a:List qo) (d:Int) (c:Bool) (r:qd×Int×Bool),sT n g140 g88 g136 g172 g201 g234 g271 g289 g308 g311 g313 g314 b a d c=some r->qS TP 313 [.ptr 0 0,.p (PV.str b)] [.box 117 [pK a,pI d,pB c]] 1 (fun v lo=>v=rT a d c r/\lo=rP a d c r):=by
 intro b a d c r h;unfold sT at h;refine zO Tryz.call313 Tryz.func313 [85,88,89,314,1000000] ?_;conv=>whnf
 refine bq h fun _ L h=>⟨_,(cZ n _ _ L),?_⟩;conv=>whnf
 apply ifc h<;>intro M h
 ·conv=>whnf
  refine bq h fun⟨Y,Z,a0⟩ E h=>?_;refine zz (g314_ok _ _ _ _ _ E) [0] [] ?_;rintro _ _ ⟨rfl,rfl⟩;refine⟨pE Y,[.box 117 [pK a,pI Z,pB a0],zq4],rfl,rfl,?_⟩;obtain rfl:=sj h;conv=>whnf
  refine⟨_,_,⟨rfl,rfl⟩,wk [0] []⟩
 conv=>whnf
 refine⟨fun D=>?_,fun D=>?_⟩
 ·replace h:=uA h D
  conv=>whnf
  refine⟨id,?_⟩;conv=>whnf
  refine bq h fun⟨a1,N⟩ F h=>?_;refine zz (qf n _ _ _ _ _ F) [0] [] ?_;rintro _ _ ⟨rfl,rfl⟩;refine⟨pB a1,[.box 117 [pK a,pI N,pB c],zq4,.box 42 [.p (.int .i64 (14:Int)),pS b,zq0,pB false,zq0,zq1,zq2,zq2,zq2,zq2]],rfl,rfl,?_⟩;conv=>whnf
  refine⟨id,?_⟩;conv=>whnf
  apply ifc h<;>intro M h
  ·conv=>whnf
   refine bq h fun⟨O,P⟩ G h=>?_;refine zz (qD n _ _ _ _ _ G) [0] [] ?_;rintro _ _ ⟨rfl,rfl⟩;refine⟨.p (.tup []),[.box 117 [pK a,pI O,pB P],zq4,.box 42 [.p (.int .i64 (14:Int)),pS b,zq0,pB false,zq0,zq1,zq2,zq2,zq2,zq2]],rfl,rfl,?_⟩;obtain rfl:=sj h;conv=>whnf
   refine⟨_,_,⟨rfl,rfl⟩,wk [0] []⟩
  conv=>whnf
  refine bq h fun⟨⟨e,f,⟨g,i,j,k,l,m⟩,o,q⟩,Q,R⟩ H h=>?_;refine zz (g88_ok _ _ _ _ H) [0] [] ?_;rintro _ _ ⟨rfl,rfl⟩;refine⟨.p (.agg [.int .i64 e,.str f,.int .i64 g,.bool i,.int .i64 j,.str k,.sl (Val.rows l),.sl (qi m),.sl (qi o),.sl (qd.rows q)]),[.box 117 [pK a,pI Q,pB R],zq4,.box 42 [.p (.int .i64 (14:Int)),pS b,zq0,pB false,zq0,zq1,zq2,zq2,zq2,zq2]],rfl,rfl,?_⟩;conv=>whnf
  refine bq h fun⟨S,T⟩ I h=>?_;refine zz (qD n _ _ _ _ _ I) [0] [] ?_;rintro _ _ ⟨rfl,rfl⟩;refine⟨.p (.tup []),[.box 117 [pK a,pI S,pB T],zq4,.box 42 [.p (.int .i64 (14:Int)),pS b,zq0,pB false,zq0,zq1,zq2,zq2,zq2,zq2],.box 42 [pI e,pS f,pI g,pB i,pI j,pS k,pV l,pT m,pT o,pE q]],rfl,rfl,?_⟩;conv=>whnf
  refine⟨Codec.one xT [qd.mk e f (Val.mk g i j k l m) o q],qd.rows [qd.mk e f (Val.mk g i j k l m) o q],.inl rfl,?_⟩;obtain rfl:=sj h;conv=>whnf
  refine⟨_,_,⟨rfl,rfl⟩,wk [0] []⟩
 replace h:=uz h D;refine⟨pB false,?_⟩;conv=>whnf
 refine⟨id,?_⟩;conv=>whnf
 refine⟨fun hf=>absurd hf (by first|decide|simp),fun _=>?_⟩;conv=>whnf
 refine bq h fun⟨⟨s,t,⟨u,w,x,y,z,A⟩,B,C⟩,U,V⟩ J h=>?_;refine zz (g88_ok _ _ _ _ J) [0] [] ?_;rintro _ _ ⟨rfl,rfl⟩;refine⟨.p (.agg [.int .i64 s,.str t,.int .i64 u,.bool w,.int .i64 x,.str y,.sl (Val.rows z),.sl (qi A),.sl (qi B),.sl (qd.rows C)]),[.box 117 [pK a,pI U,pB V],zq4,.box 42 [.p (.int .i64 (14:Int)),pS b,zq0,pB false,zq0,zq1,zq2,zq2,zq2,zq2]],rfl,rfl,?_⟩;conv=>whnf
 refine bq h fun⟨W,X⟩ K h=>?_;refine zz (qD n _ _ _ _ _ K) [0] [] ?_;rintro _ _ ⟨rfl,rfl⟩;refine⟨.p (.tup []),[.box 117 [pK a,pI W,pB X],zq4,.box 42 [.p (.int .i64 (14:Int)),pS b,zq0,pB false,zq0,zq1,zq2,zq2,zq2,zq2],.box 42 [pI s,pS t,pI u,pB w,pI x,pS y,pV z,pT A,pT B,pE C]],rfl,rfl,?_⟩;conv=>whnf
 refine⟨Codec.one xT [qd.mk s t (Val.mk u w x y z A) B C],qd.rows [qd.mk s t (Val.mk u w x y z A) B C],.inl rfl,?_⟩;obtain rfl:=sj h;conv=>whnf
 refine⟨_,_,⟨rfl,rfl⟩,wk [0] []⟩
theorem Ul (n:Nat) (g140:UD) (g88 g136:xY) (g172 g201:xY) (g234 g271:xY) (g289 g308 g311:xY) (g313:UE) (g314:UF) (g140_ok:Pk g140) (g88_ok:Pl g88) (g136_ok:Pm g136) (g172_ok:Pn g172) (g201_ok:Po g201) (g234_ok:Pp g234) (g271_ok:Pq g271) (g289_ok:Pr g289) (g308_ok:Ps g308) (g311_ok:Pt g311) (g313_ok:UB g313) (g314_ok:UC g314):∀ (q:SS) (m:List qo) (s:Int) (o:Bool) (r:(List qd)×Int×Bool),sU n g140 g88 g136 g172 g201 g234 g271 g289 g308 g311 g313 g314 q m s o=some r->qS TP 314 [.ptr 0 0,.p (PV.str q)] [.box 117 [pK m,pI s,pB o]] 1 (fun v lo=>v=rU m s o r/\lo=rQ m s o r):=by
 intro q m s o r h;unfold sU at h;refine zO Tryz.call314 Tryz.func314 [85,88,89,1000000] ?_;conv=>whnf
 refine bq h fun⟨J,K⟩ z h=>?_;refine zz (qf n _ _ _ _ _ z) [0] [] ?_;rintro _ _ ⟨rfl,rfl⟩;refine⟨pB J,[.box 117 [pK m,pI K,pB o]],rfl,rfl,?_⟩;conv=>whnf
 apply ifc h<;>intro E h
 ·obtain rfl:=sj h
  conv=>whnf
  refine⟨_,_,⟨rfl,rfl⟩,wk [0] []⟩
 conv=>whnf
 refine qP.fn [85,88,89,1000000] (S:=List qd×Int×Bool) (fun(l,u,w)=>[(0,.ptr 0 0),(1,pS q),(5,.tsl 1 (qd.rows l))]) (fun(l,u,w)=>[.box 117 [pK m,pI u,pB w],.tail 42 10 (qd.rows l).length]) (B:=nw n g88 m q) h (wk [0,0] [1]) ?_;intro _ st h;obtain⟨l,u,w⟩:=st;unfold nw at h;conv=>whnf
 refine bq h fun⟨⟨a,b,⟨c,d,e,f,g,i⟩,j,k⟩,F,t⟩ A h=>?_;refine zz (g88_ok _ _ _ _ A) [0] [] ?_;rintro _ _ ⟨rfl,rfl⟩;refine⟨.p (.agg [.int .i64 a,.str b,.int .i64 c,.bool d,.int .i64 e,.str f,.sl (Val.rows g),.sl (qi i),.sl (qi j),.sl (qd.rows k)]),[.box 117 [pK m,pI F,pB t],.tail 42 10 (qd.rows l).length],rfl,rfl,?_⟩;conv=>whnf
 refine⟨Codec.one xT [qd.mk a b (Val.mk c d e f g i) j k],qd.rows [qd.mk a b (Val.mk c d e f g i) j k],.inl rfl,?_⟩;conv=>whnf
 rw[show qd.rows l++qd.rows [qd.mk a b (Val.mk c d e f g i) j k]=qd.rows (l++[qd.mk a b (Val.mk c d e f g i) j k])from Codec.append xT l [qd.mk a b (Val.mk c d e f g i) j k]];conv=>whnf
 obtain⟨x,h⟩:=qb h;refine⟨⟨Codec.wide xT (l++[qd.mk a b (Val.mk c d e f g i) j k]),kod x,qO x (by decide)⟩,?_⟩;conv=>whnf
 refine⟨⟨rfl,rfl,rfl⟩,?_⟩;conv=>whnf
 refine bq h fun⟨G,y⟩ C h=>?_;refine zz (qf n _ _ _ _ _ C) [0] [] ?_;rintro _ _ ⟨rfl,rfl⟩;refine⟨pB G,[.box 117 [pK m,pI y,pB t],.dead,.box 42 [pI a,pS b,pI c,pB d,pI e,pS f,pV g,pT i,pT j,pE k],.tail 42 10 (qd.rows (l++[qd.mk a b (Val.mk c d e f g i) j k])).length],rfl,rfl,?_⟩;conv=>whnf
 apply ifc h<;>intro E h
 ·conv=>whnf
  refine bq h fun⟨H,I⟩ D h=>?_;refine zz (qD n _ _ _ _ _ D) [0] [] ?_;rintro _ _ ⟨rfl,rfl⟩;refine⟨.p (.tup []),[.box 117 [pK m,pI H,pB I],.dead,.box 42 [pI a,pS b,pI c,pB d,pI e,pS f,pV g,pT i,pT j,pE k],.tail 42 10 (qd.rows (l++[qd.mk a b (Val.mk c d e f g i) j k])).length],rfl,rfl,?_⟩;obtain rfl:=sj h;conv=>whnf
  refine⟨_,_,⟨rfl,rfl⟩,wk [0] []⟩
 conv=>whnf
 exact⟨((l++[qd.mk a b (Val.mk c d e f g i) j k]),y,t),h,wk [0,3] []⟩
mutual
def qH:Nat->(List qo)->Int->Bool->Option ((List SS)×(List qd)×Int×Bool)
 | 0=>fun _ _ _=>none
 | n+1=>pX n (qH n) (qJ n) (zr n) (zm n) (zn n) (qY n) (zq n) (qF n) (qR n) (qV n) (qW n) (qX n)
def qJ:Nat->(List qo)->Int->Bool->Option (qd×Int×Bool)
 | 0=>fun _ _ _=>none
 | n+1=>sR n (qH n) (qJ n) (zr n) (zm n) (zn n) (qY n) (zq n) (qF n) (qR n) (qV n) (qW n) (qX n)
def zr:Nat->(List qo)->Int->Bool->Option (qd×Int×Bool)
 | 0=>fun _ _ _=>none
 | n+1=>Qj n (qH n) (qJ n) (zr n) (zm n) (zn n) (qY n) (zq n) (qF n) (qR n) (qV n) (qW n) (qX n)
def zm:Nat->(List qo)->Int->Bool->Option (qd×Int×Bool)
 | 0=>fun _ _ _=>none
 | n+1=>Qg n (qH n) (qJ n) (zr n) (zm n) (zn n) (qY n) (zq n) (qF n) (qR n) (qV n) (qW n) (qX n)
def zn:Nat->(List qo)->Int->Bool->Option (qd×Int×Bool)
 | 0=>fun _ _ _=>none
 | n+1=>Qh n (qH n) (qJ n) (zr n) (zm n) (zn n) (qY n) (zq n) (qF n) (qR n) (qV n) (qW n) (qX n)
def qY:Nat->(List qo)->Int->Bool->Option (qd×Int×Bool)
 | 0=>fun _ _ _=>none
 | n+1=>sV n (qH n) (qJ n) (zr n) (zm n) (zn n) (qY n) (zq n) (qF n) (qR n) (qV n) (qW n) (qX n)
def zq:Nat->(List qo)->Int->Bool->Option (qd×Int×Bool)
 | 0=>fun _ _ _=>none
 | n+1=>Qi n (qH n) (qJ n) (zr n) (zm n) (zn n) (qY n) (zq n) (qF n) (qR n) (qV n) (qW n) (qX n)
def qF:Nat->(List qo)->Int->Bool->Option (qd×Int×Bool)
 | 0=>fun _ _ _=>none
 | n+1=>mh n (qH n) (qJ n) (zr n) (zm n) (zn n) (qY n) (zq n) (qF n) (qR n) (qV n) (qW n) (qX n)
def qR:Nat->(List qo)->Int->Bool->Option (qd×Int×Bool)
 | 0=>fun _ _ _=>none
 | n+1=>pW n (qH n) (qJ n) (zr n) (zm n) (zn n) (qY n) (zq n) (qF n) (qR n) (qV n) (qW n) (qX n)
def qV:Nat->(List qo)->Int->Bool->Option (qd×Int×Bool)
 | 0=>fun _ _ _=>none
 | n+1=>sS n (qH n) (qJ n) (zr n) (zm n) (zn n) (qY n) (zq n) (qF n) (qR n) (qV n) (qW n) (qX n)
def qW:Nat->SS->(List qo)->Int->Bool->Option (qd×Int×Bool)
 | 0=>fun _ _ _ _=>none
 | n+1=>sT n (qH n) (qJ n) (zr n) (zm n) (zn n) (qY n) (zq n) (qF n) (qR n) (qV n) (qW n) (qX n)
def qX:Nat->SS->(List qo)->Int->Bool->Option ((List qd)×Int×Bool)
 | 0=>fun _ _ _ _=>none
 | n+1=>sU n (qH n) (qJ n) (zr n) (zm n) (zn n) (qY n) (zq n) (qF n) (qR n) (qV n) (qW n) (qX n)
end
theorem si (n:Nat):(∀ (c:List qo) (a:Int) (b:Bool) (r:(List SS)×(List qd)×Int×Bool),qH n c a b=some r->qS TP 140 [.ptr 0 0] [.box 117 [pK c,pI a,pB b]] 1 (fun v lo=>v=dB c a b r/\lo=dA c a b r))/\(∀ (c:List qo) (a:Int) (b:Bool) (r:qd×Int×Bool),qJ n c a b=some r->qS TP 88 [.ptr 0 0] [.box 117 [pK c,pI a,pB b]] 1 (fun v lo=>v=bO c a b r/\lo=bN c a b r))/\(∀ (c:List qo) (a:Int) (b:Bool) (r:qd×Int×Bool),zr n c a b=some r->qS TP 136 [.ptr 0 0] [.box 117 [pK c,pI a,pB b]] 1 (fun v lo=>v=tz c a b r/\lo=tt c a b r))/\(∀ (c:List qo) (a:Int) (b:Bool) (r:qd×Int×Bool),zm n c a b=some r->qS TP 172 [.ptr 0 0] [.box 117 [pK c,pI a,pB b]] 1 (fun v lo=>v=tv c a b r/\lo=tp c a b r))/\(∀ (c:List qo) (a:Int) (b:Bool) (r:qd×Int×Bool),zn n c a b=some r->qS TP 201 [.ptr 0 0] [.box 117 [pK c,pI a,pB b]] 1 (fun v lo=>v=tw c a b r/\lo=tq c a b r))/\(∀ (c:List qo) (a:Int) (b:Bool) (r:qd×Int×Bool),qY n c a b=some r->qS TP 234 [.ptr 0 0] [.box 117 [pK c,pI a,pB b]] 1 (fun v lo=>v=rV c a b r/\lo=rR c a b r))/\(∀ (c:List qo) (a:Int) (b:Bool) (r:qd×Int×Bool),zq n c a b=some r->qS TP 271 [.ptr 0 0] [.box 117 [pK c,pI a,pB b]] 1 (fun v lo=>v=tx c a b r/\lo=tr c a b r))/\(∀ (c:List qo) (a:Int) (b:Bool) (r:qd×Int×Bool),qF n c a b=some r->qS TP 289 [.ptr 0 0] [.box 117 [pK c,pI a,pB b]] 1 (fun v lo=>v=bh c a b r/\lo=bg c a b r))/\(∀ (c:List qo) (a:Int) (b:Bool) (r:qd×Int×Bool),qR n c a b=some r->qS TP 308 [.ptr 0 0] [.box 117 [pK c,pI a,pB b]] 1 (fun v lo=>v=nL c a b r/\lo=nK c a b r))/\(∀ (c:List qo) (a:Int) (b:Bool) (r:qd×Int×Bool),qV n c a b=some r->qS TP 311 [.ptr 0 0] [.box 117 [pK c,pI a,pB b]] 1 (fun v lo=>v=rS c a b r/\lo=rO c a b r))/\(∀ (c:SS) (a:List qo) (b:Int) (t:Bool) (r:qd×Int×Bool),qW n c a b t=some r->qS TP 313 [.ptr 0 0,.p (PV.str c)] [.box 117 [pK a,pI b,pB t]] 1 (fun v lo=>v=rT a b t r/\lo=rP a b t r))/\(∀ (c:SS) (a:List qo) (b:Int) (t:Bool) (r:(List qd)×Int×Bool),qX n c a b t=some r->qS TP 314 [.ptr 0 0,.p (PV.str c)] [.box 117 [pK a,pI b,pB t]] 1 (fun v lo=>v=rU a b t r/\lo=rQ a b t r)):=by
 induction n with
 | zero=>exact⟨(by intros; rename_i h; cases h),(by intros; rename_i h; cases h),(by intros; rename_i h; cases h),(by intros; rename_i h; cases h),(by intros; rename_i h; cases h),(by intros; rename_i h; cases h),(by intros; rename_i h; cases h),(by intros; rename_i h; cases h),(by intros; rename_i h; cases h),(by intros; rename_i h; cases h),(by intros; rename_i h; cases h),(by intros; rename_i h; cases h)⟩
 | succ n ih=>
  obtain⟨d,e,i,j,k,l,m,o,q,s,f,g⟩:=ih;exact⟨Vd n (qH n) (qJ n) (zr n) (zm n) (zn n) (qY n) (zq n) (qF n) (qR n) (qV n) (qW n) (qX n) d e i j k l m o q s f g,Ui n (qH n) (qJ n) (zr n) (zm n) (zn n) (qY n) (zq n) (qF n) (qR n) (qV n) (qW n) (qX n) d e i j k l m o q s f g,Gu n (qH n) (qJ n) (zr n) (zm n) (zn n) (qY n) (zq n) (qF n) (qR n) (qV n) (qW n) (qX n) d e i j k l m o q s f g,Gr n (qH n) (qJ n) (zr n) (zm n) (zn n) (qY n) (zq n) (qF n) (qR n) (qV n) (qW n) (qX n) d e i j k l m o q s f g,Gs n (qH n) (qJ n) (zr n) (zm n) (zn n) (qY n) (zq n) (qF n) (qR n) (qV n) (qW n) (qX n) d e i j k l m o q s f g,Um n (qH n) (qJ n) (zr n) (zm n) (zn n) (qY n) (zq n) (qF n) (qR n) (qV n) (qW n) (qX n) d e i j k l m o q s f g,Gt n (qH n) (qJ n) (zr n) (zm n) (zn n) (qY n) (zq n) (qF n) (qR n) (qV n) (qW n) (qX n) d e i j k l m o q s f g,ZL n (qH n) (qJ n) (zr n) (zm n) (zn n) (qY n) (zq n) (qF n) (qR n) (qV n) (qW n) (qX n) d e i j k l m o q s f g,Vc n (qH n) (qJ n) (zr n) (zm n) (zn n) (qY n) (zq n) (qF n) (qR n) (qV n) (qW n) (qX n) d e i j k l m o q s f g,Uj n (qH n) (qJ n) (zr n) (zm n) (zn n) (qY n) (zq n) (qF n) (qR n) (qV n) (qW n) (qX n) d e i j k l m o q s f g,Uk n (qH n) (qJ n) (zr n) (zm n) (zn n) (qY n) (zq n) (qF n) (qR n) (qV n) (qW n) (qX n) d e i j k l m o q s f g,Ul n (qH n) (qJ n) (zr n) (zm n) (zn n) (qY n) (zq n) (qF n) (qR n) (qV n) (qW n) (qX n) d e i j k l m o q s f g⟩
theorem mq (n:Nat):∀ (a:List qo) (b:Int) (c:Bool) (r:(List SS)×(List qd)×Int×Bool),qH n a b c=some r->qS TP 140 [.ptr 0 0] [.box 117 [pK a,pI b,pB c]] 1 (fun v lo=>v=dB a b c r/\lo=dA a b c r):=(si n).1
theorem ff (n:Nat):∀ (a:List qo) (b:Int) (c:Bool) (r:qd×Int×Bool),qJ n a b c=some r->qS TP 88 [.ptr 0 0] [.box 117 [pK a,pI b,pB c]] 1 (fun v lo=>v=bO a b c r/\lo=bN a b c r):=(si n).2.1
end W
end
section
set_option maxRecDepth 100000
set_option maxHeartbeats 20000000
open Go Go.Proofs Ax
namespace W
abbrev CM (_:List qo) (_:Int) (_:Bool) (r:qe×Int×Bool):FV:=.p ((PV.agg (ua.cells r.1)))
abbrev CA (a:List qo) (_:Int) (_:Bool) (r:qe×Int×Bool):List AObj:=[.box 117 [pK a,.p (.int .i64 r.2.1),.p (.bool r.2.2)]]
def dc (n:Nat) (a:List qo) (j:SS) (b:List SS):Int×Bool×List SS×List qd->Option (qe×Int×Bool):=fun(c,d,e,f)=>
 bnd (qQ n ([41]:SS) a c d) fun⟨g,i⟩=>
 some (qe.mk j b e f,g,i)
def ny (n:Nat) (a:List qo) (f:SS):LK (Int×Bool×List SS) (qe×Int×Bool):=fun g (s,b,c)=>
 bnd (qt n ([58]:SS) a s b) fun⟨i,d⟩=>
 bif i then(
 bnd (uv n a d b) fun⟨e,j,k⟩=>
 chk (decide ((qi (c++[e])).length * 16<=140737488355328)) (
 g (j,k,(c++[e]))))
 else(
 bnd (xz n ([123]:SS) a d b) fun l=>
 bif l then(
 bnd (qH n a d b) fun⟨m,o,p,q⟩=>
 dc n a f c (p,q,m,o))
 else(
 dc n a f c (d,b,([]:List _),([]:List _))))
def cJ (n:Nat) (a:List qo) (b:Int) (c:Bool):Option (qe×Int×Bool):=
 bnd (qQ n ([40]:SS) a b c) fun⟨d,e⟩=>
 bnd (gr n a d e) fun⟨f,g,i⟩=>
 qC (ny n a f) n (g,i,([]:List _))
theorem dd (n:Nat):∀ (b:List qo) (f:Int) (g:Bool) (r:qe×Int×Bool),cJ n b f g=some r->qS TP 92 [.ptr 0 0] [.box 117 [pK b,pI f,pB g]] 1 (fun v lo=>v=CM b f g r/\lo=CA b f g r):=by
 intro b f g r h;unfold cJ at h;refine zO Tryz.call92 Tryz.func92 [85,89,94,138,139,140,1000000] ?_;conv=>whnf
 refine bq h fun⟨M,N⟩ z h=>?_;refine zz (qD n _ _ _ _ _ z) [0] [] ?_;rintro _ _ ⟨rfl,rfl⟩;refine⟨.p (.tup []),[.box 117 [pK b,pI M,pB N],zq6],rfl,rfl,?_⟩;conv=>whnf
 refine bq h fun⟨c,O,P⟩ A h=>?_;refine zz (cA n _ _ _ _ A) [0] [] ?_;rintro _ _ ⟨rfl,rfl⟩;refine⟨pS c,[.box 117 [pK b,pI O,pB P],zq6,zq6],rfl,rfl,?_⟩;conv=>whnf
 refine qP.fn [85,89,94,138,139,140,1000000] (S:=Int×Bool×List SS) (fun(o,e,a)=>[(0,.ptr 0 0),(2,.ptr 1 0),(3,.ptr 2 0)]) (fun(o,e,a)=>[.box 117 [pK b,pI o,pB e],zq6,.box 102 [pS c,.tsl 3 (qi a),zq2,zq2],.tail 9 1 (qi a).length]) (B:=ny n b c) h (wk [0,1,2,0] [3]) ?_;intro _ st h;obtain⟨o,e,a⟩:=st;unfold ny at h;conv=>whnf
 refine bq h fun⟨I,k⟩ C h=>?_;refine zz (qf n _ _ _ _ _ C) [0] [] ?_;rintro _ _ ⟨rfl,rfl⟩;refine⟨pB I,[.box 117 [pK b,pI k,pB e],zq6,.box 102 [pS c,.tsl 3 (qi a),zq2,zq2],.tail 9 1 (qi a).length],rfl,rfl,?_⟩;conv=>whnf
 apply ifc h<;>intro H h
 ·conv=>whnf
  refine bq h fun⟨d,s,t⟩ D h=>?_;refine zz (vL n _ _ _ _ D) [0] [] ?_;rintro _ _ ⟨rfl,rfl⟩;refine⟨pS d,[.box 117 [pK b,pI s,pB t],zq6,.box 102 [pS c,.tsl 3 (qi a),zq2,zq2],.tail 9 1 (qi a).length],rfl,rfl,?_⟩;conv=>whnf
  refine⟨Codec.one cV [d],qi [d],.inl rfl,?_⟩;conv=>whnf
  rw[show qi a++qi [d]=qi (a++[d])from Codec.append cV a [d]];conv=>whnf
  obtain⟨q,h⟩:=qb h;refine⟨⟨Codec.wide cV (a++[d]),kod q,qO q (by decide)⟩,?_⟩;conv=>whnf
  refine⟨⟨rfl,rfl,rfl⟩,?_⟩;conv=>whnf
  exact⟨(s,t,(a++[d])),h,wk [0,1,2,4] []⟩
 conv=>whnf
 refine gW.cut (S:=Int×Bool×List SS×List qd) (fun(l,m,i,j)=>[(0,.ptr 0 0),(2,.ptr 1 0),(3,.ptr 2 0)]) (fun(l,m,i,j)=>[.box 117 [pK b,pI l,pB m],zq6,.box 102 [pS c,.tsl 3 (qi a),pT i,pE j],.tail 9 1 (qi a).length]) (dc n b c a) (r:=r) ?_ ?_
 ·intro st h
  obtain⟨l,m,i,j⟩:=st;unfold dc at h;conv=>whnf
  refine bq h fun⟨J,K⟩ E h=>?_;refine zz (qD n _ _ _ _ _ E) [0] [] ?_;rintro _ _ ⟨rfl,rfl⟩;refine⟨.p (.tup []),[.box 117 [pK b,pI J,pB K],zq6,.box 102 [pS c,.tsl 3 (qi a),pT i,pE j],.tail 9 1 (qi a).length],rfl,rfl,?_⟩;obtain rfl:=sj h;conv=>whnf
  refine⟨_,_,⟨rfl,rfl⟩,wk [0] []⟩
 conv=>whnf
 refine bq h fun L F h=>?_;refine zz (zH n _ _ _ _ _ F) [0] [] ?_;rintro _ _ ⟨rfl,rfl⟩;refine⟨pB L,[.box 117 [pK b,pI k,pB e],zq6,.box 102 [pS c,.tsl 3 (qi a),zq2,zq2],.tail 9 1 (qi a).length],rfl,rfl,?_⟩;conv=>whnf
 apply ifc h<;>intro H h
 ·conv=>whnf
  refine bq h fun⟨u,w,x,y⟩ G h=>?_;refine zz (mq n _ _ _ _ G) [0] [] ?_;rintro _ _ ⟨rfl,rfl⟩;refine⟨.p (.tup [.sl (qi u),.sl (qd.rows w)]),[.box 117 [pK b,pI x,pB y],zq6,.box 102 [pS c,.tsl 3 (qi a),zq2,zq2],.tail 9 1 (qi a).length],rfl,rfl,?_⟩;conv=>whnf
  exact⟨(x,y,u,w),h,wk [0,1,2,3] []⟩
 conv=>whnf
 exact⟨(k,e,([]:List _),([]:List _)),h,wk [0,1,2,3] []⟩
end W
end
