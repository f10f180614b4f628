/- A part of the proof: contracts, printed by program. -/
import Derived.Test.YtlnipohgljbfiaaGreatB
import Derived.Test.YtlnipohgljbfiaaGreatC
import Derived.Test.YtlnipohgljbfiaaGreatD
import Derived.Test.YtlnipohgljbfiaaGreatI
import Derived.Test.YtlnipohgljbfiaaGreatJ
import Derived.Test.YtlnipohgljbfiaaGreatL
set_option linter.unusedVariables false
set_option linter.unusedSimpArgs false
set_option linter.unnecessarySimpa false
set_option linter.deprecated false
set_option linter.unusedSectionVars false
set_option linter.constructorNameAsVariable false
open Go.IntKind renaming wrap->kwr,bits->kbt
section
set_option maxRecDepth 100000
set_option maxHeartbeats 4000000
open Go Go.Proofs Ax
namespace W
abbrev SL (r:SS):PV:=PV.str r
def uh (n:Nat) (a:SS×Int->Option SS) (b:Int):SS×Int->Option SS:=fun(c,d)=>
 a (c,(kwr .i64 (b+d)))
def vL (n:Nat) (c:SS):(SS×Int->Option SS)->SS×Int->Option SS:=fun f (a,b)=>
 bif(decide (b<((c.length:Nat):Int)))then(
 bnd (Vk n c b) fun e=>
 bnd (idx c b) fun d=>
 bif(bif(e==0)then true else(((d.toNat:Nat):Int)==127))then(
 chk (decide (((a.length+([92,120]:SS).length:Nat):Int)<=xr)) (
 bnd (Vl n ((d.toNat:Nat):Int)) fun m=>
 chk (decide ((((a++([92,120]:SS)).length+m.length:Nat):Int)<=xr)) (
 uh n f b (((a++([92,120]:SS))++m),(1:Int)))))
 else(
 bif(bif(((d.toNat:Nat):Int)==39)then true else(((d.toNat:Nat):Int)==92))then(
 chk (decide (((a.length+([92]:SS).length:Nat):Int)<=xr)) (
 bnd (LL (kwr .i64 (b+1))) fun i=>
 bnd (LL b) fun j=>
 chk (decide (j<=i/\i<=c.length)) (
 chk (decide ((((a++([92]:SS)).length+((c.take i).drop j).length:Nat):Int)<=xr)) (
 uh n f b (((a++([92]:SS))++((c.take i).drop j)),e)))))
 else(
 bif(((d.toNat:Nat):Int)==10)then(
 chk (decide (((a.length+([92,110]:SS).length:Nat):Int)<=xr)) (
 uh n f b ((a++([92,110]:SS)),e)))
 else(
 bif(((d.toNat:Nat):Int)==9)then(
 chk (decide (((a.length+([92,116]:SS).length:Nat):Int)<=xr)) (
 uh n f b ((a++([92,116]:SS)),e)))
 else(
 bif(((d.toNat:Nat):Int)==13)then(
 chk (decide (((a.length+([92,114]:SS).length:Nat):Int)<=xr)) (
 uh n f b ((a++([92,114]:SS)),e)))
 else(
 bif(decide (((d.toNat:Nat):Int)<32))then(
 chk (decide (((a.length+([92,120]:SS).length:Nat):Int)<=xr)) (
 bnd (Vl n ((d.toNat:Nat):Int)) fun l=>
 chk (decide ((((a++([92,120]:SS)).length+l.length:Nat):Int)<=xr)) (
 uh n f b (((a++([92,120]:SS))++l),e))))
 else(
 bnd (LL (kwr .i64 (b+e))) fun g=>
 bnd (LL b) fun k=>
 chk (decide (k<=g/\g<=c.length)) (
 chk (decide (((a.length+((c.take g).drop k).length:Nat):Int)<=xr)) (
 uh n f b ((a++((c.take g).drop k)),e))))))))))
 else(
 chk (decide (((a.length+([39]:SS).length:Nat):Int)<=xr)) (
 some (a++([39]:SS))))
def nz (n:Nat) (a:SS):Option SS:=
 qo (vL n a) n (([39]:SS),(0:Int))
theorem Vb (n:Nat):∀ (b r:SS),nz n b=some r->qb TP 198 [PV.str b] (SL r):=by
 intro b r h;unfold nz at h;refine zN Tryz.call198 Tryz.func198 [1000000] ?_;conv=>whnf
 refine qX.fn [1000000] (S:=SS×Int) (fun(a,e)=>[(0,pS b),(3,pS a),(4,pI e)]) (fun(a,e)=>[]) (B:=vL n b) h (wk [] []) ?_;intro M st h;obtain⟨a,e⟩:=st;unfold vL at h;conv=>whnf
 apply ifc h<;>intro c h
 ·conv=>whnf
  refine bq h fun f E h=>⟨_,(Sn n _ _ _ E),?_⟩;conv=>whnf
  refine bq h fun _ C h=>⟨_,bX C,?_⟩;conv=>whnf
  refine cY.cut (S:=SS×Int) (fun(k,l)=>[(0,pS b),(3,pS k),(4,pI e),(5,pI l)]) (fun(k,l)=>[]) (uh n M e) (r:=r) ?_ ?_
  ·intro st h
   obtain⟨k,l⟩:=st;unfold uh at h;conv=>whnf
   exact⟨(k,(kwr .i64 (e+l))),h,wk [] []⟩
  conv=>whnf
  refine⟨id,?_⟩;conv=>whnf
  refine⟨id,?_⟩;conv=>whnf
  apply ifc h<;>intro c h
  ·conv=>whnf
   obtain⟨G,h⟩:=qg h;refine⟨(kod G:((a.length+([92,120]:SS).length:Nat):Int)<=xr),?_⟩;conv=>whnf
   refine bq h fun q D h=>⟨_,(Hg n _ _ D),?_⟩;conv=>whnf
   obtain⟨s,h⟩:=qg h;refine⟨(kod s:(((a++([92,120]:SS)).length+q.length:Nat):Int)<=xr),?_⟩;conv=>whnf
   exact⟨(((a++([92,120]:SS))++q),(1:Int)),h,wk [] []⟩
  conv=>whnf
  refine⟨id,id,?_⟩;conv=>whnf
  apply ifc h<;>intro c h
  ·conv=>whnf
   obtain⟨K,h⟩:=qg h;refine⟨(kod K:((a.length+([92]:SS).length:Nat):Int)<=xr),?_⟩;conv=>whnf
   refine bq h fun g J h=>⟨_,gK J,?_⟩;conv=>whnf
   refine bq h fun i I h=>⟨_,gK I,?_⟩;conv=>whnf
   obtain⟨o,h⟩:=qg h;refine⟨⟨(kod o:(i<=g/\g<=b.length)).1,(kod o:(i<=g/\g<=b.length)).2⟩,?_⟩;conv=>whnf
   obtain⟨H,h⟩:=qg h;refine⟨(kod H:(((a++([92]:SS)).length+((b.take g).drop i).length:Nat):Int)<=xr),?_⟩;conv=>whnf
   exact⟨(((a++([92]:SS))++((b.take g).drop i)),f),h,wk [] []⟩
  conv=>whnf
  apply ifc h<;>intro c h
  ·conv=>whnf
   obtain⟨L,h⟩:=qg h;refine⟨(kod L:((a.length+([92,110]:SS).length:Nat):Int)<=xr),?_⟩;conv=>whnf
   exact⟨((a++([92,110]:SS)),f),h,wk [] []⟩
  conv=>whnf
  apply ifc h<;>intro c h
  ·conv=>whnf
   obtain⟨t,h⟩:=qg h;refine⟨(kod t:((a.length+([92,116]:SS).length:Nat):Int)<=xr),?_⟩;conv=>whnf
   exact⟨((a++([92,116]:SS)),f),h,wk [] []⟩
  conv=>whnf
  apply ifc h<;>intro c h
  ·conv=>whnf
   obtain⟨u,h⟩:=qg h;refine⟨(kod u:((a.length+([92,114]:SS).length:Nat):Int)<=xr),?_⟩;conv=>whnf
   exact⟨((a++([92,114]:SS)),f),h,wk [] []⟩
  conv=>whnf
  apply ifc h<;>intro c h
  ·conv=>whnf
   obtain⟨x,h⟩:=qg h;refine⟨(kod x:((a.length+([92,120]:SS).length:Nat):Int)<=xr),?_⟩;conv=>whnf
   refine bq h fun p w h=>⟨_,(Hg n _ _ w),?_⟩;conv=>whnf
   obtain⟨v,h⟩:=qg h;refine⟨(kod v:(((a++([92,120]:SS)).length+p.length:Nat):Int)<=xr),?_⟩;conv=>whnf
   exact⟨(((a++([92,120]:SS))++p),f),h,wk [] []⟩
  conv=>whnf
  refine bq h fun d A h=>⟨_,gK A,?_⟩;conv=>whnf
  refine bq h fun j z h=>⟨_,gK z,?_⟩;conv=>whnf
  obtain⟨m,h⟩:=qg h;refine⟨⟨(kod m:(j<=d/\d<=b.length)).1,(kod m:(j<=d/\d<=b.length)).2⟩,?_⟩;conv=>whnf
  obtain⟨y,h⟩:=qg h;refine⟨(kod y:((a.length+((b.take d).drop j).length:Nat):Int)<=xr),?_⟩;conv=>whnf
  exact⟨((a++((b.take d).drop j)),f),h,wk [] []⟩
 conv=>whnf
 obtain⟨F,h⟩:=qg h;refine⟨(kod F:((a.length+([39]:SS).length:Nat):Int)<=xr),?_⟩;obtain rfl:=sj h;conv=>whnf
 try exact fin
abbrev eE (r:SS):PV:=PV.str r
def QE (n:Nat) (a:SS):Option SS:=
 bnd (uU n a) fun b=>
 bif b then(
 some a)
 else(
 bnd (nz n a) fun c=>
 some c)
theorem Xx (n:Nat):∀ (a r:SS),QE n a=some r->qb TP 120 [PV.str a] (eE r):=by
 intro a r h;unfold QE at h;refine zN Tryz.call120 Tryz.func120 [1000000] ?_;conv=>whnf
 refine bq h fun _ c h=>⟨_,(gr n _ _ c),?_⟩;conv=>whnf
 apply ifc h<;>intro _ h
 ·obtain rfl:=sj h
  conv=>whnf
  try exact fin
 conv=>whnf
 refine bq h fun _ b h=>⟨_,(Vb n _ _ b),?_⟩;obtain rfl:=sj h;conv=>whnf
 try exact fin
abbrev iU (r:SS):PV:=PV.str r
def Qb (n:Nat) (b:SS):Option SS:=
 bnd (QE n b) fun a=>
 chk (decide (((([84,58]:SS).length+a.length:Nat):Int)<=xr)) (
 some (([84,58]:SS)++a))
theorem BM (n:Nat):∀ (a r:SS),Qb n a=some r->qb TP 61 [PV.str a] (iU r):=by
 intro a r h;unfold Qb at h;refine zN Tryz.call61 Tryz.func61 [1000000] ?_;conv=>whnf
 refine bq h fun d c h=>⟨_,(Xx n _ _ c),?_⟩;conv=>whnf
 obtain⟨b,h⟩:=qg h;refine⟨(kod b:((([84,58]:SS).length+d.length:Nat):Int)<=xr),?_⟩;obtain rfl:=sj h;conv=>whnf
 try exact fin
abbrev Tb (r:List SS):PV:=PV.sl (qi r)
def sa (n:Nat) (a:List SS×Bool×Int->Option (List SS)) (b:Int):List SS×Bool->Option (List SS):=fun(c,d)=>
 a (c,d,(kwr .i64 (b+1)))
def mH (n:Nat) (d:List SS) (a:Int) (i:SS) (c:List SS×Bool×Int->Option (List SS)):List SS×Bool->Option (List SS):=fun(b,e)=>
 bnd (idx d a) fun g=>
 bif(!(g==i))then(
 bnd (idx d a) fun f=>
 chk (decide ((qi (b++[f])).length * 16<=140737488355328)) (
 sa n c a ((b++[f]),e)))
 else(
 sa n c a (b,e))
def dT (n:Nat):List SS->Option (List SS):=fun a=>
 some a
def uj (n:Nat) (c:List SS) (a:SS):LK (List SS×Bool×Int) (List SS):=fun f (b,d,e)=>
 bif(decide (e<((qi c).length:Int)))then(
 bnd (qD (!d) (idx c e)) fun g=>
 bif(bif(!d)then(!(Op.bytesLess g a))else false)then(
 chk (decide ((qi (b++[a])).length * 16<=140737488355328)) (
 mH n c e a f ((b++[a]),true)))
 else(
 mH n c e a f (b,d)))
 else(
 bif(!d)then(
 chk (decide ((qi (b++[a])).length * 16<=140737488355328)) (
 dT n (b++[a])))
 else(
 dT n b))
def ZW (n:Nat) (a:List SS) (b:SS) (c:Bool):Option (List SS):=
 qo (uj n a b) n (([]:List _),(!c),(0:Int))
theorem PE (n:Nat):∀ (d:List SS) (a:SS) (o:Bool) (r:List SS),ZW n d a o=some r->qb TP 64 [PV.sl (qi d),PV.str a,PV.bool o] (Tb r):=by
 intro d a o r h;unfold ZW at h;refine zN Tryz.call64 Tryz.func64 [1000000] ?_;conv=>whnf
 refine qX.fn [1000000] (S:=List SS×Bool×Int) (fun(b,k,e)=>[(0,pT d),(1,pS a),(7,.tsl 0 (qi b)),(8,pB k),(9,pI e)]) (fun(b,k,e)=>[.tail 9 1 (qi b).length]) (B:=uj n d a) h (wk [0] [0]) ?_;intro t st h;obtain⟨b,k,e⟩:=st;unfold uj at h;conv=>whnf
 apply ifc h<;>intro m h
 ·conv=>whnf
  refine cY.cut (S:=List SS×Bool) (fun(i,l)=>[(0,pT d),(1,pS a),(7,.tsl 0 (qi i)),(8,pB l),(9,pI e)]) (fun(i,l)=>[.tail 9 1 (qi i).length]) (sa n t e) (r:=r) ?_ ?_
  ·intro st h
   obtain⟨i,l⟩:=st;unfold sa at h;conv=>whnf
   exact⟨(i,l,(kwr .i64 (e+1))),h,wk [0] []⟩
  conv=>whnf
  refine cY.cut (S:=List SS×Bool) (fun(c,g)=>[(0,pT d),(1,pS a),(7,.tsl 0 (qi c)),(8,pB g),(9,pI e)]) (fun(c,g)=>[.tail 9 1 (qi c).length]) (mH n d e a t) (r:=r) ?_ ?_
  ·intro st h
   obtain⟨c,g⟩:=st;unfold mH at h;conv=>whnf
   refine bq h fun _ v h=>⟨_,Codec.at_ cc v,?_⟩;conv=>whnf
   apply ifc h<;>intro m h
   ·conv=>whnf
    refine bq h fun f u h=>⟨_,Codec.at_ cc u,?_⟩;(conv=>whnf);refine⟨Codec.one cc [f],qi [f],.inl rfl,?_⟩;(conv=>whnf);rw[show qi c++qi [f]=qi (c++[f])from Codec.append cc c [f]];(conv=>whnf);obtain⟨p,h⟩:=qg h;refine⟨⟨Codec.wide cc (c++[f]),kod p,xj p (by decide)⟩,?_⟩;(conv=>whnf);refine⟨⟨rfl,rfl,rfl⟩,?_⟩;(conv=>whnf);exact⟨((c++[f]),g),h,wk [1] []⟩
   conv=>whnf
   exact⟨(c,g),h,wk [0] []⟩
  conv=>whnf
  refine⟨id,?_⟩;conv=>whnf
  refine⟨id,?_⟩;conv=>whnf
  refine bq h fun _ w h=>⟨_,fun x=>Codec.at_ cc (qa w x),?_⟩;conv=>whnf
  refine⟨id,id,id,id,?_⟩;conv=>whnf
  apply ifc h<;>intro m h
  ·conv=>whnf
   refine⟨Codec.one cc [a],qi [a],.inl rfl,?_⟩;conv=>whnf
   rw[show qi b++qi [a]=qi (b++[a])from Codec.append cc b [a]];conv=>whnf
   obtain⟨q,h⟩:=qg h;refine⟨⟨Codec.wide cc (b++[a]),kod q,xj q (by decide)⟩,?_⟩;conv=>whnf
   refine⟨⟨rfl,rfl,rfl⟩,?_⟩;conv=>whnf
   exact⟨((b++[a]),true),h,wk [1] []⟩
  conv=>whnf
  exact⟨(b,k),h,wk [0] []⟩
 conv=>whnf
 refine cY.cut (S:=List SS) (fun j=>[(7,.tsl 0 (qi j))]) (fun j=>[.tail 9 1 (qi j).length]) (dT n) (r:=r) ?_ ?_
 ·intro j h
  unfold dT at h;obtain rfl:=sj h;conv=>whnf
  try exact fin
 conv=>whnf
 apply ifc h<;>intro m h
 ·conv=>whnf
  refine⟨Codec.one cc [a],qi [a],.inl rfl,?_⟩;conv=>whnf
  rw[show qi b++qi [a]=qi (b++[a])from Codec.append cc b [a]];conv=>whnf
  obtain⟨s,h⟩:=qg h;refine⟨⟨Codec.wide cc (b++[a]),kod s,xj s (by decide)⟩,?_⟩;conv=>whnf
  refine⟨⟨rfl,rfl,rfl⟩,?_⟩;conv=>whnf
  exact⟨(b++[a]),h,wk [1] []⟩
 conv=>whnf
 exact⟨b,h,wk [0] []⟩
abbrev iV (r:List SS):PV:=PV.sl (qi r)
def uY (n:Nat) (a:List SS) (b:SS):Option (List SS):=
 bnd (ZW n a b true) fun c=>
 some c
theorem cI (n:Nat):∀ (a:List SS) (b:SS) (r:List SS),uY n a b=some r->qb TP 33 [PV.sl (qi a),PV.str b] (iV r):=by
 intro a b r h;unfold uY at h;refine zN Tryz.call33 Tryz.func33 [1000000] ?_;conv=>whnf
 refine bq h fun _ c h=>⟨_,(PE n _ _ _ _ c),?_⟩;obtain rfl:=sj h;conv=>whnf
 try exact fin
abbrev XB (r:SS):PV:=PV.str r
def tV (n:Nat) (g208:Int->Option SS) (a:Int):Option SS:=
 bif(a==(-9223372036854775808:Int))then(
 some ([45,57,50,50,51,51,55,50,48,51,54,56,53,52,55,55,53,56,48,56]:SS))
 else(
 bif(decide (a<0))then(
 bnd (g208 (kwr .i64 ((0:Int) - a))) fun c=>
 chk (decide (((([45]:SS).length+c.length:Nat):Int)<=xr)) (
 some (([45]:SS)++c)))
 else(
 bnd (u8I (kwr .u8 (kwr .i64 ((48:Int)+(Int.tmod a (10:Int)))))) fun b=>
 bif(decide (a<10))then(
 some [b])
 else(
 bnd (g208 (kwr .i64 (Int.tdiv a (10:Int)))) fun d=>
 chk (decide (((d.length+[b].length:Nat):Int)<=xr)) (
 some (d++[b])))))
theorem Ph (n:Nat) (g208:Int->Option SS) (g208_ok:∀ (a:Int) (r:SS),g208 a=some r->qb TP 208 [PV.int .i64 a] (XB r)):∀ (a:Int) (r:SS),tV n g208 a=some r->qb TP 208 [PV.int .i64 a] (XB r):=by
 intro a r h;unfold tV at h;refine zN Tryz.call208 Tryz.func208 [1000000] ?_;conv=>whnf
 apply ifc h<;>intro c h
 ·obtain rfl:=sj h
  conv=>whnf
  try exact fin
 conv=>whnf
 apply ifc h<;>intro c h
 ·conv=>whnf
  refine bq h fun j e h=>⟨_,(g208_ok _ _ e),?_⟩;conv=>whnf
  obtain⟨d,h⟩:=qg h;refine⟨(kod d:((([45]:SS).length+j.length:Nat):Int)<=xr),?_⟩;obtain rfl:=sj h;conv=>whnf
  try exact fin
 conv=>whnf
 refine⟨by unfold gI; decide,?_⟩;conv=>whnf
 refine bq h fun b f h=>?_;rw[show([[PV.int .u8 (kwr .u8 (kwr .i64 ((48:Int)+(Int.tmod a (10:Int)))))]]:List (List PV))=qT [b]from by rw[vQ f]; rfl];refine⟨Codec.one uN [b],_,.inl rfl,?_⟩;conv=>whnf
 refine⟨_,rfl,?_⟩;conv=>whnf
 apply ifc h<;>intro c h
 ·obtain rfl:=sj h
  conv=>whnf
  try exact fin
 conv=>whnf
 refine⟨by unfold gI; decide,?_⟩;conv=>whnf
 refine bq h fun k i h=>⟨_,(g208_ok _ _ i),?_⟩;conv=>whnf
 obtain⟨g,h⟩:=qg h;refine⟨(kod g:((k.length+[b].length:Nat):Int)<=xr),?_⟩;obtain rfl:=sj h;conv=>whnf
 try exact fin
def cd:Nat->Int->Option SS
 | 0=>fun _=>none
 | n+1=>tV n (cd n)
theorem Po (n:Nat):(∀ (a:Int) (r:SS),cd n a=some r->qb TP 208 [PV.int .i64 a] (XB r)):=by
 induction n with
 | zero=>exact(by intros; rename_i h; cases h)
 | succ n ih=>
  have hg208:=ih;exact Ph n (cd n) hg208
theorem VZ (n:Nat):∀ (a:Int) (r:SS),cd n a=some r->qb TP 208 [PV.int .i64 a] (XB r):=(Po n)
abbrev eB (r:SS):PV:=PV.str r
def Gc (n:Nat) (a:SS):Option SS:=
 bnd (ZE n a) fun b=>
 bif b then(
 some a)
 else(
 bnd (nz n a) fun c=>
 some c)
theorem iH (n:Nat):∀ (a r:SS),Gc n a=some r->qb TP 209 [PV.str a] (eB r):=by
 intro a r h;unfold Gc at h;refine zN Tryz.call209 Tryz.func209 [1000000] ?_;conv=>whnf
 refine bq h fun _ c h=>⟨_,(BG n _ _ c),?_⟩;conv=>whnf
 apply ifc h<;>intro _ h
 ·obtain rfl:=sj h
  conv=>whnf
  try exact fin
 conv=>whnf
 refine bq h fun _ b h=>⟨_,(Vb n _ _ b),?_⟩;obtain rfl:=sj h;conv=>whnf
 try exact fin
abbrev XD (r:SS):PV:=PV.str r
abbrev qof:Type:=Val->Option SS
def tq (n:Nat) (l:List Val) (a:Int) (g135:qof) (d:SS×Int->Option SS):SS->Option SS:=fun b=>
 bnd (idx l a) fun⟨e,f,g,i,j,k⟩=>
 bnd (g135 (Val.mk e f g i j k)) fun c=>
 chk (decide (((b.length+c.length:Nat):Int)<=xr)) (
 d ((b++c),(kwr .i64 (a+1))))
def bF (n:Nat) (c:List Val) (g135:qof):(SS×Int->Option SS)->SS×Int->Option SS:=fun d (a,b)=>
 bif(decide (b<((Val.rows c).length:Int)))then(
 bif(decide (b>0))then(
 chk (decide (((a.length+([44,32]:SS).length:Nat):Int)<=xr)) (
 tq n c b g135 d (a++([44,32]:SS))))
 else(
 tq n c b g135 d a))
 else(
 chk (decide (((([91]:SS).length+a.length:Nat):Int)<=xr)) (
 chk (decide ((((([91]:SS)++a).length+([93]:SS).length:Nat):Int)<=xr)) (
 some ((([91]:SS)++a)++([93]:SS)))))
def tt (n:Nat) (p:List SS) (c:Int) (o:List Val) (g135:qof) (e:SS×Int->Option SS):SS->Option SS:=fun a=>
 bnd (idx p c) fun f=>
 bnd (Gc n f) fun b=>
 chk (decide (((a.length+b.length:Nat):Int)<=xr)) (
 chk (decide ((((a++b).length+([58,32]:SS).length:Nat):Int)<=xr)) (
 bnd (idx o c) fun⟨g,i,j,k,l,m⟩=>
 bnd (g135 (Val.mk g i j k l m)) fun d=>
 chk (decide (((((a++b)++([58,32]:SS)).length+d.length:Nat):Int)<=xr)) (
 e ((((a++b)++([58,32]:SS))++d),(kwr .i64 (c+1))))))
def bG (n:Nat) (c:List Val) (e:List SS) (g135:qof):(SS×Int->Option SS)->SS×Int->Option SS:=fun d (a,b)=>
 bif(decide (b<((Val.rows c).length:Int)))then(
 bif(decide (b>0))then(
 chk (decide (((a.length+([44,32]:SS).length:Nat):Int)<=xr)) (
 tt n e b c g135 d (a++([44,32]:SS))))
 else(
 tt n e b c g135 d a))
 else(
 chk (decide (((([123]:SS).length+a.length:Nat):Int)<=xr)) (
 chk (decide ((((([123]:SS)++a).length+([125]:SS).length:Nat):Int)<=xr)) (
 some ((([123]:SS)++a)++([125]:SS)))))
def VW (n:Nat) (g135:qof) (f:Val):Option SS:=
 match f with
 | ⟨a,g,b,i,d,j⟩=>
 bif(a==1)then(
 bif g then(
 some ([116,114,117,101]:SS))
 else(
 some ([102,97,108,115,101]:SS)))
 else(
 bif(a==2)then(
 bnd (cd n b) fun k=>
 some k)
 else(
 bif(a==3)then(
 bnd (nz n i) fun l=>
 some l)
 else(
 bif(a==6)then(
 bnd (cd n b) fun e=>
 chk (decide (((([35,110]:SS).length+e.length:Nat):Int)<=xr)) (
 some (([35,110]:SS)++e)))
 else(
 bif(a==7)then(
 bnd (cd n b) fun c=>
 chk (decide (((([35,101]:SS).length+c.length:Nat):Int)<=xr)) (
 some (([35,101]:SS)++c)))
 else(
 bif(a==4)then(
 qo (bF n d g135) n (([]:SS),(0:Int)))
 else(
 bif(a==5)then(
 qo (bG n d j g135) n (([]:SS),(0:Int)))
 else(
 some ([110,117,108,108]:SS))))))))
theorem Pl (n:Nat) (g135:qof) (g135_ok:∀ (e:Val) (r:SS),g135 e=some r->qb TP 135 [PV.agg (gM.cells e)] (XD r)):∀ (e:Val) (r:SS),VW n g135 e=some r->qb TP 135 [PV.agg (gM.cells e)] (XD r):=by
 intro e r h;obtain⟨l,m,p,q,d,j⟩:=e;unfold VW at h;refine zN Tryz.call135 Tryz.func135 [1000000] ?_;conv=>whnf
 apply ifc h<;>intro a h
 ·conv=>whnf
  apply ifc h<;>intro a h
  ·obtain rfl:=sj h
   conv=>whnf
   try exact fin
  obtain rfl:=sj h;conv=>whnf
  try exact fin
 conv=>whnf
 apply ifc h<;>intro a h
 ·conv=>whnf
  refine bq h fun _ u h=>⟨_,(VZ n _ _ u),?_⟩;obtain rfl:=sj h;conv=>whnf
  try exact fin
 conv=>whnf
 apply ifc h<;>intro a h
 ·conv=>whnf
  refine bq h fun _ G h=>⟨_,(Vb n _ _ G),?_⟩;obtain rfl:=sj h;conv=>whnf
  try exact fin
 conv=>whnf
 apply ifc h<;>intro a h
 ·conv=>whnf
  refine bq h fun V L h=>⟨_,(VZ n _ _ L),?_⟩;conv=>whnf
  obtain⟨K,h⟩:=qg h;refine⟨(kod K:((([35,110]:SS).length+V.length:Nat):Int)<=xr),?_⟩;obtain rfl:=sj h;conv=>whnf
  try exact fin
 conv=>whnf
 apply ifc h<;>intro a h
 ·conv=>whnf
  refine bq h fun U N h=>⟨_,(VZ n _ _ N),?_⟩;conv=>whnf
  obtain⟨M,h⟩:=qg h;refine⟨(kod M:((([35,101]:SS).length+U.length:Nat):Int)<=xr),?_⟩;obtain rfl:=sj h;conv=>whnf
  try exact fin
 conv=>whnf
 apply ifc h<;>intro a h
 ·conv=>whnf
  refine qX.fn [1000000] (S:=SS×Int) (fun(b,g)=>[(1,.ptr 0 0),(3,pS b),(4,pI g)]) (fun(b,g)=>[.box 28 [pI l,pB m,pI p,pS q,pV d,pT j]]) (B:=bF n d g135) h (wk [0] []) ?_;intro R st h;obtain⟨b,g⟩:=st;unfold bF at h;conv=>whnf
  apply ifc h<;>intro a h
  ·conv=>whnf
   refine cY.cut (S:=SS) (fun k=>[(1,.ptr 0 0),(3,pS k),(4,pI g)]) (fun k=>[.box 28 [pI l,pB m,pI p,pS q,pV d,pT j]]) (tq n d g g135 R) (r:=r) ?_ ?_
   ·intro k h
    unfold tq at h;(conv=>whnf);refine bq h fun⟨_,_,_,_,_,_⟩ Q h=>⟨_,Codec.at_ gM Q,?_⟩;(conv=>whnf);refine bq h fun s P h=>⟨_,(g135_ok _ _ P),?_⟩;(conv=>whnf);obtain⟨O,h⟩:=qg h;refine⟨(kod O:((k.length+s.length:Nat):Int)<=xr),?_⟩;(conv=>whnf);exact⟨((k++s),(kwr .i64 (g+1))),h,wk [0] []⟩
   conv=>whnf
   apply ifc h<;>intro a h
   ·conv=>whnf
    obtain⟨v,h⟩:=qg h;refine⟨(kod v:((b.length+([44,32]:SS).length:Nat):Int)<=xr),?_⟩;(conv=>whnf);exact⟨(b++([44,32]:SS)),h,wk [0] []⟩
   conv=>whnf
   exact⟨b,h,wk [0] []⟩
  conv=>whnf
  obtain⟨x,h⟩:=qg h;refine⟨(kod x:((([91]:SS).length+b.length:Nat):Int)<=xr),?_⟩;conv=>whnf
  obtain⟨w,h⟩:=qg h;refine⟨(kod w:(((([91]:SS)++b).length+([93]:SS).length:Nat):Int)<=xr),?_⟩;obtain rfl:=sj h;conv=>whnf
  try exact fin
 conv=>whnf
 apply ifc h<;>intro a h
 ·conv=>whnf
  refine qX.fn [1000000] (S:=SS×Int) (fun(c,i)=>[(1,.ptr 0 0),(5,pS c),(6,pI i)]) (fun(c,i)=>[.box 28 [pI l,pB m,pI p,pS q,pV d,pT j]]) (B:=bG n d j g135) h (wk [0] []) ?_;intro T st h;obtain⟨c,i⟩:=st;unfold bG at h;conv=>whnf
  apply ifc h<;>intro a h
  ·conv=>whnf
   refine cY.cut (S:=SS) (fun f=>[(1,.ptr 0 0),(5,pS f),(6,pI i)]) (fun f=>[.box 28 [pI l,pB m,pI p,pS q,pV d,pT j]]) (tt n j i d g135 T) (r:=r) ?_ ?_
   ·intro f h
    unfold tt at h;(conv=>whnf);refine bq h fun _ F h=>⟨_,Codec.at_ cc F,?_⟩;(conv=>whnf);refine bq h fun o E h=>⟨_,(iH n _ _ E),?_⟩;(conv=>whnf);obtain⟨D,h⟩:=qg h;refine⟨(kod D:((f.length+o.length:Nat):Int)<=xr),?_⟩;(conv=>whnf);obtain⟨C,h⟩:=qg h;refine⟨(kod C:(((f++o).length+([58,32]:SS).length:Nat):Int)<=xr),?_⟩;(conv=>whnf);refine bq h fun⟨_,_,_,_,_,_⟩ A h=>⟨_,Codec.at_ gM A,?_⟩;(conv=>whnf);refine bq h fun t z h=>⟨_,(g135_ok _ _ z),?_⟩;(conv=>whnf);obtain⟨y,h⟩:=qg h;refine⟨(kod y:((((f++o)++([58,32]:SS)).length+t.length:Nat):Int)<=xr),?_⟩;(conv=>whnf);exact⟨((((f++o)++([58,32]:SS))++t),(kwr .i64 (i+1))),h,wk [0] []⟩
   conv=>whnf
   apply ifc h<;>intro a h
   ·conv=>whnf
    obtain⟨H,h⟩:=qg h;refine⟨(kod H:((c.length+([44,32]:SS).length:Nat):Int)<=xr),?_⟩;(conv=>whnf);exact⟨(c++([44,32]:SS)),h,wk [0] []⟩
   conv=>whnf
   exact⟨c,h,wk [0] []⟩
  conv=>whnf
  obtain⟨J,h⟩:=qg h;refine⟨(kod J:((([123]:SS).length+c.length:Nat):Int)<=xr),?_⟩;conv=>whnf
  obtain⟨I,h⟩:=qg h;refine⟨(kod I:(((([123]:SS)++c).length+([125]:SS).length:Nat):Int)<=xr),?_⟩;obtain rfl:=sj h;conv=>whnf
  try exact fin
 obtain rfl:=sj h;conv=>whnf
 try exact fin
def pg:Nat->Val->Option SS
 | 0=>fun _=>none
 | n+1=>VW n (pg n)
theorem Pt (n:Nat):(∀ (a:Val) (r:SS),pg n a=some r->qb TP 135 [PV.agg (gM.cells a)] (XD r)):=by
 induction n with
 | zero=>exact(by intros; rename_i h; cases h)
 | succ n ih=>
  have hg135:=ih;exact Pl n (pg n) hg135
theorem Sm (n:Nat):∀ (a:Val) (r:SS),pg n a=some r->qb TP 135 [PV.agg (gM.cells a)] (XD r):=(Pt n)
abbrev Te (r:SS):PV:=PV.str r
def nK (n:Nat) (e f:SS) (d:Val):Option SS:=
 match d with
 | ⟨g,i,j,k,l,m⟩=>
 bnd (QE n e) fun a=>
 chk (decide (((([73,58]:SS).length+a.length:Nat):Int)<=xr)) (
 chk (decide ((((([73,58]:SS)++a).length+([46]:SS).length:Nat):Int)<=xr)) (
 bnd (QE n f) fun b=>
 chk (decide (((((([73,58]:SS)++a)++([46]:SS)).length+b.length:Nat):Int)<=xr)) (
 chk (decide ((((((([73,58]:SS)++a)++([46]:SS))++b).length+([61]:SS).length:Nat):Int)<=xr)) (
 bnd (pg n (Val.mk g i j k l m)) fun c=>
 chk (decide (((((((([73,58]:SS)++a)++([46]:SS))++b)++([61]:SS)).length+c.length:Nat):Int)<=xr)) (
 some (((((([73,58]:SS)++a)++([46]:SS))++b)++([61]:SS))++c))))))
theorem Ve (n:Nat):∀ (c e:SS) (b:Val) (r:SS),nK n c e b=some r->qb TP 74 [PV.str c,PV.str e,PV.agg (gM.cells b)] (Te r):=by
 intro c e b r h;obtain⟨_,_,_,_,_,_⟩:=b;unfold nK at h;refine zN Tryz.call74 Tryz.func74 [1000000] ?_;conv=>whnf
 refine bq h fun a o h=>⟨_,(Xx n _ _ o),?_⟩;conv=>whnf
 obtain⟨m,h⟩:=qg h;refine⟨(kod m:((([73,58]:SS).length+a.length:Nat):Int)<=xr),?_⟩;conv=>whnf
 obtain⟨l,h⟩:=qg h;refine⟨(kod l:(((([73,58]:SS)++a).length+([46]:SS).length:Nat):Int)<=xr),?_⟩;conv=>whnf
 refine bq h fun d k h=>⟨_,(Xx n _ _ k),?_⟩;conv=>whnf
 obtain⟨j,h⟩:=qg h;refine⟨(kod j:((((([73,58]:SS)++a)++([46]:SS)).length+d.length:Nat):Int)<=xr),?_⟩;conv=>whnf
 obtain⟨i,h⟩:=qg h;refine⟨(kod i:(((((([73,58]:SS)++a)++([46]:SS))++d).length+([61]:SS).length:Nat):Int)<=xr),?_⟩;conv=>whnf
 refine bq h fun p g h=>⟨_,(Sm n _ _ g),?_⟩;conv=>whnf
 obtain⟨f,h⟩:=qg h;refine⟨(kod f:((((((([73,58]:SS)++a)++([46]:SS))++d)++([61]:SS)).length+p.length:Nat):Int)<=xr),?_⟩;obtain rfl:=sj h;conv=>whnf
 try exact fin
def bD (n:Nat) (j:List Val) (g199:Val->Option (Val)) (k:List SS) (m:Int) (u:Bool) (v:Int) (w:SS):LK (List Val×Int) (Val):=fun l (a,b)=>
 bif(decide (b<((Val.rows j).length:Int)))then(
 bnd (idx j b) fun⟨x,o,p,q,s,t⟩=>
 bnd (g199 (Val.mk x o p q s t)) fun⟨c,d,e,f,g,i⟩=>
 chk (decide ((Val.rows (a++[Val.mk c d e f g i])).length * 88<=140737488355328)) (
 l ((a++[Val.mk c d e f g i]),(kwr .i64 (b+1)))))
 else(
 chk (decide ((qi k).length * 16<=140737488355328)) (
 some (Val.mk m u v w a k)))
def VT (n:Nat) (g199:Val->Option (Val)) (a:Val):Option (Val):=
 match a with
 | ⟨b,c,d,e,f,g⟩=>
 qo (bD n f g199 g b c d e) n (([]:List _),(0:Int))
def pe:Nat->Val->Option (Val)
 | 0=>fun _=>none
 | n+1=>VT n (pe n)
def bw (n:Nat) (b:List SS) (d:Int) (u:SS) (t:List Val):LK (Int) (Val×Bool):=fun c a=>
 bif(bif(decide (a<((qi b).length:Int)))then(d==5)else false)then(
 bnd (idx b a) fun v=>
 bif(v==u)then(
 bnd (idx t a) fun⟨e,f,g,i,j,k⟩=>
 bnd (pe n (Val.mk e f g i j k)) fun⟨l,m,o,p,q,s⟩=>
 some (Val.mk l m o p q s,true))
 else(
 c (kwr .i64 (a+1))))
 else(
 some (Val.mk (0:Int) false (0:Int) ([]:SS) ([]:List Val) ([]:List SS),false))
def ZO (n:Nat) (a:Val) (e:SS):Option (Val×Bool):=
 match a with
 | ⟨b,_,_,_,c,d⟩=>
 qo (bw n d b e c) n (0:Int)
abbrev Td (r:SS):PV:=PV.str r
def tZ (n:Nat) (b:SS):Option SS:=
 bnd (QE n b) fun a=>
 chk (decide (((([76,58]:SS).length+a.length:Nat):Int)<=xr)) (
 some (([76,58]:SS)++a))
theorem Cx (n:Nat):∀ (a r:SS),tZ n a=some r->qb TP 73 [PV.str a] (Td r):=by
 intro a r h;unfold tZ at h;refine zN Tryz.call73 Tryz.func73 [1000000] ?_;conv=>whnf
 refine bq h fun d c h=>⟨_,(Xx n _ _ c),?_⟩;conv=>whnf
 obtain⟨b,h⟩:=qg h;refine⟨(kod b:((([76,58]:SS).length+d.length:Nat):Int)<=xr),?_⟩;obtain rfl:=sj h;conv=>whnf
 try exact fin
abbrev ew (r:Bool):PV:=PV.bool r
def Vi (n:Nat) (a:bu) (b:Graph):Option (Bool):=
 match a,b with
 | ⟨c⟩,⟨d,e⟩=>
 bnd (sH n (bu.mk c)) fun f=>
 some (bif(bif(!f)then(decide (((Node.rows d).length:Int)<60))else false)then(decide (((Edge.rows e).length:Int)<60))else false)
theorem Hf (n:Nat):∀ (a:bu) (b:Graph) (r:Bool),Vi n a b=some r->qb TP 12 [PV.agg (Cn.cells a),PV.agg (nZ.cells b)] (ew r):=by
 intro a b r h;obtain⟨_⟩:=a;obtain⟨_,_⟩:=b;unfold Vi at h;refine zN Tryz.call12 Tryz.func12 [1000000] ?_;conv=>whnf
 refine bq h fun _ c h=>⟨_,(Vc n _ _ c),?_⟩;conv=>whnf
 iterate 8 refine⟨id,?_⟩
 obtain rfl:=sj h;conv=>whnf
 try exact fin
abbrev PY (r:Bool):PV:=PV.bool r
def fO (n:Nat) (b:List SS):LK (Int) (Bool):=fun f a=>
 bif(decide (a<((qi b).length:Int)))then(
 bnd (idx b a) fun g=>
 bnd (gx n g) fun c=>
 bnd (qD ((!(!c))&&(decide (a>0))) (idx b a)) fun d=>
 bnd (qD ((!(!c))&&(decide (a>0))) (idx b (kwr .i64 (a - 1)))) fun e=>
 bif(bif(!c)then true else(bif(decide (a>0))then(Op.bytesLess d e||d==e)else false))then(
 some false)
 else(
 f (kwr .i64 (a+1))))
 else(
 some true)
def QK (n:Nat) (a:List SS):Option (Bool):=
 qo (fO n a) n (0:Int)
theorem Gg (n:Nat):∀ (a:List SS) (r:Bool),QK n a=some r->qb TP 65 [PV.sl (qi a)] (PY r):=by
 intro a r h;unfold QK at h;refine zN Tryz.call65 Tryz.func65 [1000000] ?_;conv=>whnf
 refine qX.fn [1000000] (S:=Int) (fun b=>[(0,pT a),(3,pI b)]) (fun b=>[]) (B:=fO n a) h (wk [] []) ?_;intro _ b h;unfold fO at h;conv=>whnf
 apply ifc h<;>intro i h
 ·conv=>whnf
  refine bq h fun _ g h=>⟨_,Codec.at_ cc g,?_⟩;conv=>whnf
  refine bq h fun _ f h=>⟨_,(fm n _ _ f),?_⟩;conv=>whnf
  refine⟨id,id,id,id,?_⟩;conv=>whnf
  refine bq h fun _ e h=>⟨_,fun c=>Codec.at_ cc (qa e c),?_⟩;conv=>whnf
  refine⟨id,id,id,id,?_⟩;conv=>whnf
  refine bq h fun _ d h=>⟨_,fun c=>Codec.at_ cc (qa d c),?_⟩;conv=>whnf
  iterate 6 refine⟨id,?_⟩
  conv=>whnf
  apply ifc h<;>intro i h
  ·obtain rfl:=sj h
   conv=>whnf
   try exact fin
  conv=>whnf
  exact⟨(kwr .i64 (b+1)),h,wk [] []⟩
 obtain rfl:=sj h;conv=>whnf
 try exact fin
abbrev Lh (r:Bool):PV:=PV.bool r
def sc (n:Nat) (i:Val):Option (Bool):=
 match i with
 | ⟨a,b,c,d,e,f⟩=>
 bnd (qD (a != 0) (nv n (Val.mk a b c d e f))) fun g=>
 bnd (qD (bif(a != 0)then g else false) (bE n (Val.mk a b c d e f))) fun j=>
 some (bif(bif(a != 0)then g else false)then j else false)
theorem DX (n:Nat):∀ (a:Val) (r:Bool),sc n a=some r->qb TP 122 [PV.agg (gM.cells a)] (Lh r):=by
 intro a r h;obtain⟨_,_,_,_,_,_⟩:=a;unfold sc at h;refine zN Tryz.call122 Tryz.func122 [1000000] ?_;conv=>whnf
 refine⟨id,?_⟩;conv=>whnf
 refine bq h fun _ d h=>⟨_,fun b=>(Gb n _ _ (qa d b)),?_⟩;conv=>whnf
 refine⟨id,id,?_⟩;conv=>whnf
 refine bq h fun _ c h=>⟨_,fun b=>(Cp n _ _ (qa c b)),?_⟩;conv=>whnf
 refine⟨id,?_⟩;obtain rfl:=sj h;conv=>whnf
 try exact fin
abbrev Tc (r:Bool):PV:=PV.bool r
def mI (n:Nat) (a:List Val) (b:List SS):LK (Int) (Bool):=fun d c=>
 bif(decide (c<((Val.rows a).length:Int)))then(
 bnd (idx a c) fun⟨g,i,j,k,l,m⟩=>
 bnd (sc n (Val.mk g i j k l m)) fun e=>
 bif(!e)then(
 some false)
 else(
 d (kwr .i64 (c+1))))
 else(
 bnd (qD (((qi b).length:Int)==((Val.rows a).length:Int)) (QK n b)) fun f=>
 some (bif(((qi b).length:Int)==((Val.rows a).length:Int))then f else false))
def ZY (n:Nat) (a:List SS) (b:List Val):Option (Bool):=
 qo (mI n b a) n (0:Int)
theorem Cw (n:Nat):∀ (a:List SS) (b:List Val) (r:Bool),ZY n a b=some r->qb TP 66 [PV.sl (qi a),PV.sl (Val.rows b)] (Tc r):=by
 intro a b r h;unfold ZY at h;refine zN Tryz.call66 Tryz.func66 [1000000] ?_;conv=>whnf
 refine qX.fn [1000000] (S:=Int) (fun c=>[(0,pT a),(1,pV b),(5,pI c)]) (fun c=>[]) (B:=mI n b a) h (wk [] []) ?_;intro _ c h;unfold mI at h;conv=>whnf
 apply ifc h<;>intro g h
 ·conv=>whnf
  refine bq h fun⟨_,_,_,_,_,_⟩ e h=>⟨_,Codec.at_ gM e,?_⟩;conv=>whnf
  refine bq h fun _ d h=>⟨_,(DX n _ _ d),?_⟩;conv=>whnf
  apply ifc h<;>intro g h
  ·obtain rfl:=sj h
   conv=>whnf
   try exact fin
  conv=>whnf
  exact⟨(kwr .i64 (c+1)),h,wk [] []⟩
 conv=>whnf
 refine⟨id,?_⟩;conv=>whnf
 refine bq h fun _ f h=>⟨_,fun i=>(Gg n _ _ (qa f i)),?_⟩;conv=>whnf
 refine⟨id,?_⟩;obtain rfl:=sj h;conv=>whnf
 try exact fin
abbrev MF (r:Bool):PV:=PV.bool r
def tx (n:Nat) (c:Node):Option (Bool):=
 match c with
 | ⟨a,d,e,f⟩=>
 bnd (qD (decide (a≥1)) (QK n d)) fun b=>
 bnd (qD (bif(decide (a≥1))then b else false) (ZY n e f)) fun g=>
 some (bif(bif(decide (a≥1))then b else false)then g else false)
theorem HN (n:Nat):∀ (a:Node) (r:Bool),tx n a=some r->qb TP 34 [PV.agg (tk.cells a)] (MF r):=by
 intro a r h;obtain⟨_,_,_,_⟩:=a;unfold tx at h;refine zN Tryz.call34 Tryz.func34 [1000000] ?_;conv=>whnf
 refine⟨id,id,?_⟩;conv=>whnf
 refine bq h fun _ d h=>⟨_,fun b=>(Gg n _ _ (qa d b)),?_⟩;conv=>whnf
 refine⟨id,id,id,id,id,?_⟩;conv=>whnf
 refine bq h fun _ c h=>⟨_,fun b=>(Cw n _ _ _ (qa c b)),?_⟩;conv=>whnf
 refine⟨id,?_⟩;obtain rfl:=sj h;conv=>whnf
 try exact fin
abbrev ME (r:Bool):PV:=PV.bool r
def tw (n:Nat) (c:Edge):Option (Bool):=
 match c with
 | ⟨a,_,_,d,e,f⟩=>
 bnd (qD (decide (a≥1)) (gx n d)) fun b=>
 bnd (qD (bif(decide (a≥1))then b else false) (ZY n e f)) fun g=>
 some (bif(bif(decide (a≥1))then b else false)then g else false)
theorem HM (n:Nat):∀ (a:Edge) (r:Bool),tw n a=some r->qb TP 35 [PV.agg (tP.cells a)] (ME r):=by
 intro a r h;obtain⟨_,_,_,_,_,_⟩:=a;unfold tw at h;refine zN Tryz.call35 Tryz.func35 [1000000] ?_;conv=>whnf
 refine⟨id,id,?_⟩;conv=>whnf
 refine bq h fun _ d h=>⟨_,fun b=>(fm n _ _ (qa d b)),?_⟩;conv=>whnf
 refine⟨id,id,id,id,id,?_⟩;conv=>whnf
 refine bq h fun _ c h=>⟨_,fun b=>(Cw n _ _ _ (qa c b)),?_⟩;conv=>whnf
 refine⟨id,?_⟩;obtain rfl:=sj h;conv=>whnf
 try exact fin
abbrev PX (r:Int):PV:=PV.int .i64 r
def dU (n:Nat) (b:List Node) (d:Int):LK (Int) (Int):=fun c a=>
 bif(decide (a<((Node.rows b).length:Int)))then(
 bnd (idx b a) fun⟨e,_,_,_⟩=>
 bif(e==d)then(
 some a)
 else(
 c (kwr .i64 (a+1))))
 else(
 some (-1:Int))
def nH (n:Nat) (a:Graph) (c:Int):Option (Int):=
 match a with
 | ⟨b,_⟩=>
 qo (dU n b c) n (0:Int)
theorem ZX (n:Nat):∀ (b:Graph) (a r:Int),nH n b a=some r->qb TP 36 [PV.agg (nZ.cells b),PV.int .i64 a] (PX r):=by
 intro b a r h;obtain⟨d,g⟩:=b;unfold nH at h;refine zN Tryz.call36 Tryz.func36 [1000000] ?_;conv=>whnf
 refine qX.fn [1000000] (S:=Int) (fun c=>[(1,pI a),(2,.ptr 0 0),(5,pI c)]) (fun c=>[.box 40 [.p (.sl (Node.rows d)),.p (.sl (Edge.rows g))]]) (B:=dU n d a) h (wk [0] []) ?_;intro _ c h;unfold dU at h;conv=>whnf
 apply ifc h<;>intro f h
 ·conv=>whnf
  refine bq h fun⟨_,_,_,_⟩ e h=>⟨_,Codec.at_ tk e,?_⟩;conv=>whnf
  apply ifc h<;>intro f h
  ·obtain rfl:=sj h
   conv=>whnf
   try exact fin
  conv=>whnf
  exact⟨(kwr .i64 (c+1)),h,wk [0] []⟩
 obtain rfl:=sj h;conv=>whnf
 try exact fin
end W
end
