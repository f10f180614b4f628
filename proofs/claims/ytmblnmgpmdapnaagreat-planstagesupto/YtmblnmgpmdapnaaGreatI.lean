/- A part of the proof: contracts, printed by program. -/
import Derived.Test.YtmblnmgpmdapnaaGreatB
import Derived.Test.YtmblnmgpmdapnaaGreatH
set_option linter.unusedVariables false
set_option linter.unusedSimpArgs false
set_option linter.unnecessarySimpa false
set_option linter.deprecated false
set_option linter.unusedSectionVars false
set_option linter.constructorNameAsVariable false
open Go.IntKind renaming wrap->kwr,bits->kbt
section
set_option maxRecDepth 100000
open Go Go.Proofs Ax
namespace W
abbrev q9m (r:Bool):PV:=PV.bool r
def qg8 (n:Nat) (b:List qb4) (c:Int->Option (Bool)) (e:Int):LK (Int) (Bool):=fun d a=>
 bif(decide (a<((qb4.rows b).length:Int)))then(
 bnd (idx b a) fun f=>
 bnd (qqb n f) fun g=>
 bif(!g)then(
 some false)
 else(
 d (kwr .i64 (a+1))))
 else(
 c (kwr .i64 (e+1)))
def qg7 (n:Nat) (c:List qbb) (d:Int->Option (Bool)) (f:Int):LK (Int) (Bool):=fun e a=>
 bif(decide (a<((qbb.rows c).length:Int)))then(
 bnd (idx c a) fun⟨_,b,g,i⟩=>
 bif(bif(decide (((qb4.rows b).length:Int)<g))then true else(decide (((qb4.rows b).length:Int)>i)))then(
 some false)
 else(
 qam (qg8 n b e a) n (0:Int)))
 else(
 d (kwr .i64 (f+1)))
def qf1 (n:Nat) (b:List qab):LK (Int) (Bool):=fun e a=>
 bif(decide (a<((qab.rows b).length:Int)))then(
 bnd (idx b a) fun⟨c,f,g,⟨i,j,⟨k,l,m,o,p,q⟩,s,t⟩,u,v,w,x,y,z,A,B,C⟩=>
 bnd (qmc n (qab.mk c f g (qaa.mk i j (Val.mk k l m o p q) s t) u v w x y z A B C)) fun⟨d,D⟩=>
 bif(bif(bif(!D)then true else(((qbb.rows d).length:Int)==0))then true else(bif(c==9)then(decide ((kwr .i64 (a+1))<((qab.rows b).length:Int)))else false))then(
 some false)
 else(
 qam (qg7 n d e a) n (0:Int)))
 else(
 some true)
def qn5 (n:Nat) (c:qip):Option (Bool):=
 match c with
 | ⟨a⟩=>
 bnd (qaw (!(bif(decide (((qab.rows a).length:Int)<1))then true else(decide (((qab.rows a).length:Int)>64)))) (idx a (kwr .i64 (((qab.rows a).length:Int) - 1)))) fun⟨d,_,_,⟨_,_,⟨_,_,_,_,_,_⟩,_,_⟩,_,_,_,_,_,_,_,_,_⟩=>
 bnd (qaw (!(bif(decide (((qab.rows a).length:Int)<1))then true else(decide (((qab.rows a).length:Int)>64)))) (qr3 n d)) fun b=>
 bnd (qaw ((!(bif(decide (((qab.rows a).length:Int)<1))then true else(decide (((qab.rows a).length:Int)>64))))&&(!b)) (idx a (kwr .i64 (((qab.rows a).length:Int) - 1)))) fun⟨e,_,_,⟨_,_,⟨_,_,_,_,_,_⟩,_,_⟩,_,_,_,_,_,_,_,_,_⟩=>
 bif(bif(bif(decide (((qab.rows a).length:Int)<1))then true else(decide (((qab.rows a).length:Int)>64)))then true else(bif(!b)then(e != 9)else false))then(
 some false)
 else(
 qam (qf1 n a) n (0:Int))
set_option maxHeartbeats 4000000 in
theorem q64 (n:Nat):∀ (g:qip) (r:Bool),qn5 n g=some r->qai TP 48 [PV.agg (qy0.cells g)] (q9m r):=by
 intro g r h;obtain⟨a⟩:=g;unfold qn5 at h;refine zN Tryz.call48 Tryz.func48 [1000000] ?_;conv=>whnf
 iterate 6 refine⟨id,?_⟩
 conv=>whnf
 refine bq h fun⟨_,_,_,⟨_,_,⟨_,_,_,_,_,_⟩,_,_⟩,_,_,_,_,_,_,_,_,_⟩ u h=>?_;refine⟨_,fun e=>Codec.at_ qcz (qac u e),?_⟩;conv=>whnf
 refine⟨id,id,id,?_⟩;conv=>whnf
 refine bq h fun _ t h=>?_;refine⟨_,fun e=>(q49 n _ _ (qac t e)),?_⟩;conv=>whnf
 iterate 6 refine⟨id,?_⟩
 conv=>whnf
 refine bq h fun⟨_,_,_,⟨_,_,⟨_,_,_,_,_,_⟩,_,_⟩,_,_,_,_,_,_,_,_,_⟩ s h=>?_;refine⟨_,fun e=>Codec.at_ qcz (qac s e),?_⟩;conv=>whnf
 iterate 6 refine⟨id,?_⟩
 conv=>whnf
 apply ifc h<;>intro c h
 ·obtain rfl:=sj h
  conv=>whnf
  try exact fin
 conv=>whnf
 refine qbh.fn [1000000] (S:=Int) (fun b=>[(3,.p (.int .i64 ((qab.rows a).length:Int))),(43,pC a),(44,.p (.int .i64 ((qab.rows a).length:Int))),(45,pI b)]) (fun b=>[]) (B:=qf1 n a) h (wk [] []) ?_;intro v b h;unfold qf1 at h;conv=>whnf
 apply ifc h<;>intro c h
 ·conv=>whnf
  refine bq h fun⟨_,_,_,⟨_,_,⟨_,_,_,_,_,_⟩,_,_⟩,_,_,_,_,_,_,_,_,_⟩ q h=>?_;refine⟨_,Codec.at_ qcz q,?_⟩;conv=>whnf
  refine bq h fun⟨f,_⟩ o h=>?_;refine⟨_,(q47 n _ _ o),?_⟩;conv=>whnf
  iterate 12 refine⟨id,?_⟩
  conv=>whnf
  apply ifc h<;>intro c h
  ·obtain rfl:=sj h
   conv=>whnf
   try exact fin
  conv=>whnf
  refine qbh.fn [1000000] (S:=Int) (fun d=>[(3,.p (.int .i64 ((qab.rows a).length:Int))),(43,pC a),(44,.p (.int .i64 ((qab.rows a).length:Int))),(45,pI b),(73,.p (.sl (qbb.rows f))),(74,.p (.int .i64 ((qbb.rows f).length:Int))),(75,pI d)]) (fun d=>[]) (B:=qg7 n f v b) h (wk [] []) ?_;intro w d h;unfold qg7 at h;conv=>whnf
  apply ifc h<;>intro c h
  ·conv=>whnf
   refine bq h fun⟨_,j,_,_⟩ m h=>?_;refine⟨_,Codec.at_ qs9 m,?_⟩;conv=>whnf
   iterate 6 refine⟨id,?_⟩
   conv=>whnf
   apply ifc h<;>intro c h
   ·obtain rfl:=sj h
    conv=>whnf
    try exact fin
   conv=>whnf
   refine qbh.fn [1000000] (S:=Int) (fun i=>[(3,.p (.int .i64 ((qab.rows a).length:Int))),(43,pC a),(44,.p (.int .i64 ((qab.rows a).length:Int))),(45,pI b),(73,.p (.sl (qbb.rows f))),(74,.p (.int .i64 ((qbb.rows f).length:Int))),(75,pI d),(94,.p (.sl (qb4.rows j))),(95,.p (.int .i64 ((qb4.rows j).length:Int))),(96,pI i)]) (fun i=>[]) (B:=qg8 n j w d) h (wk [] []) ?_;intro _ i h;unfold qg8 at h;conv=>whnf
   apply ifc h<;>intro c h
   ·conv=>whnf
    refine bq h fun _ l h=>?_;refine⟨_,Codec.at_ qrx l,?_⟩;(conv=>whnf);refine bq h fun _ k h=>?_;refine⟨_,_,zeb n _ _ k,?_⟩;(conv=>whnf);apply ifc h<;>intro c h
    ·obtain rfl:=sj h
     conv=>whnf
     try exact fin
    (conv=>whnf);exact⟨(kwr .i64 (i+1)),h,wk [] []⟩
   conv=>whnf
   exact⟨(kwr .i64 (d+1)),h,wk [] []⟩
  conv=>whnf
  exact⟨(kwr .i64 (b+1)),h,wk [] []⟩
 obtain rfl:=sj h;conv=>whnf
 try exact fin
abbrev q1d (_:List SS) (_:List (SS×Int)) (r:(List SS)×(List (SS×Int))):FV:=.p (.tup [])
abbrev q05 (_:List SS) (_:List (SS×Int)) (r:(List SS)×(List (SS×Int))):List AObj:=[.box 120 [.tsl 2 (qak r.1),.mref 1],.mp .string (qbd PV.str (PV.int .i64) r.2) none,.tail 9 1 (qak r.1).length]
def qfc (n:Nat) (a:SS) (b:Int) (c:List (SS×Int)):List SS->Option ((List SS)×(List (SS×Int))):=fun d=>
 some (d,(qpp a b c))
def qdb (n:Nat) (a:SS) (d:Int) (b:List SS) (c:List (SS×Int)):Option ((List SS)×(List (SS×Int))):=
 bif((qec c a (0:Int))==0)then(
 chk (decide ((qak (b++[a])).length * 16<=140737488355328)) (
 qfc n a d c (b++[a])))
 else(
 qfc n a d c b)
theorem qgn (n:Nat):∀ (a:SS) (d:Int) (b:List SS) (c:List (SS×Int)) (r:(List SS)×(List (SS×Int))),qdb n a d b c=some r->qbq TP 88 [.ptr 0 0,.p (PV.str a),.p (PV.int .i64 d)] [.box 120 [.tsl 2 (qak b),.mref 1],.mp .string (qbd PV.str (PV.int .i64) c) none,.tail 9 1 (qak b).length] 2 (fun v lo=>v=q1d b c r/\lo=q05 b c r):=by
 intro a d b c r h;unfold qdb at h;refine zO Tryz.call88 Tryz.func88 [1000000] ?_;conv=>whnf
 refine qhd.cut (S:=List SS) (fun e=>[(0,.ptr 0 0),(1,pS a),(2,pI d)]) (fun e=>[.box 120 [.tsl 2 (qak e),.mref 1],.mp .string (qbd PV.str (PV.int .i64) c) none,.tail 9 1 (qak e).length]) (qfc n a d c) (r:=r) ?_ ?_
 ·intro e h
  unfold qfc at h;conv=>whnf
  refine⟨_,qio qer (PV.int .i64) a d c,?_⟩;obtain rfl:=sj h;conv=>whnf
  refine⟨_,_,⟨rfl,rfl⟩,wk [0,1,2] []⟩
 conv=>whnf
 refine⟨PV.int .i64 (qec c a (0:Int)),(q75 c a),⟨qvi qer (PV.int .i64) c a (0:Int),qvj qer (PV.int .i64) c a⟩,?_⟩;conv=>whnf
 apply ifc h<;>intro _ h
 ·conv=>whnf
  refine⟨Codec.one qpr [a],qak [a],.inl rfl,?_⟩;conv=>whnf
  rw[show qak b++qak [a]=qak (b++[a])from Codec.append qpr b [a]];conv=>whnf
  obtain⟨f,h⟩:=qah h;refine⟨⟨Codec.wide qpr (b++[a]),kod f,qb5 f (by decide)⟩,?_⟩;conv=>whnf
  refine⟨⟨rfl,rfl,rfl⟩,?_⟩;conv=>whnf
  exact⟨(b++[a]),h,wk [0,1,3] []⟩
 conv=>whnf
 exact⟨b,h,wk [0,1,2] []⟩
abbrev q1e (_:List SS) (_:List (SS×Int)) (r:(List SS)×(List (SS×Int))):FV:=.ptr 3 0
abbrev q06 (a:List SS) (b:List (SS×Int)) (r:(List SS)×(List (SS×Int))):List AObj:=[.box 120 [.tsl 2 (qak a),.mref 1],.mp .string (qbd PV.str (PV.int .i64) b) none,.tail 9 1 (qak a).length,.box 120 [.tsl 5 (qak r.1),.mref 4],.mp .string (qbd PV.str (PV.int .i64) r.2) none,.tail 9 1 (qak r.1).length]
def qfd (n:Nat) (b:List SS) (g:List (SS×Int)):LK (Int×List SS×List (SS×Int)) ((List SS)×(List (SS×Int))):=fun f (a,c,d)=>
 bif(decide (a<((qak b).length:Int)))then(
 bnd (idx b a) fun e=>
 bnd (qdb n e (qec g e (0:Int)) c d) fun⟨i,j⟩=>
 f ((kwr .i64 (a+1)),i,j))
 else(
 some (c,d))
def qja (n:Nat) (a:List SS) (b:List (SS×Int)):Option ((List SS)×(List (SS×Int))):=
 qam (qfd n a b) n ((0:Int),([]:List _),([]:List (SS×Int)))
theorem qzf (n:Nat):∀ (a:List SS) (b:List (SS×Int)) (r:(List SS)×(List (SS×Int))),qja n a b=some r->qbq TP 140 [.ptr 0 0] [.box 120 [.tsl 2 (qak a),.mref 1],.mp .string (qbd PV.str (PV.int .i64) b) none,.tail 9 1 (qak a).length] 2 (fun v lo=>v=q1e a b r/\lo=q06 a b r):=by
 intro a b r h;unfold qja at h;refine zO Tryz.call140 Tryz.func140 [88,1000000] ?_;conv=>whnf
 refine qbh.fn [88,1000000] (S:=Int×List SS×List (SS×Int)) (fun(c,d,f)=>[(0,.ptr 0 0),(3,.ptr 2 0),(12,.tsl 3 (qak a)),(13,.p (.int .i64 ((qak a).length:Int))),(14,pI c)]) (fun(c,d,f)=>[.box 120 [.tsl 3 (qak a),.mref 1],.mp .string (qbd PV.str (PV.int .i64) b) none,.box 120 [.tsl 5 (qak d),.mref 4],.tail 9 1 (qak a).length,.mp .string (qbd PV.str (PV.int .i64) f) none,.tail 9 1 (qak d).length]) (B:=qfd n a b) h (wk [0,1,4,2,3,0] [5]) ?_;intro _ st h;obtain⟨c,d,f⟩:=st;unfold qfd at h;conv=>whnf
 apply ifc h<;>intro _ h
 ·conv=>whnf
  refine bq h fun e k h=>?_;refine⟨_,Codec.at_ qpr k,?_⟩;conv=>whnf
  refine⟨PV.int .i64 (qec b e (0:Int)),(q75 b e),⟨qvi qer (PV.int .i64) b e (0:Int),qvj qer (PV.int .i64) b e⟩,?_⟩;conv=>whnf
  refine bq h fun⟨g,i⟩ j h=>?_;refine qcq (qgn n _ _ _ _ _ j) [2,4,5] [] ?_;rintro _ _ ⟨rfl,rfl⟩;refine⟨.p (.tup []),[.box 120 [.tsl 3 (qak a),.mref 1],.mp .string (qbd PV.str (PV.int .i64) b) none,.box 120 [.tsl 6 (qak g),.mref 4],.tail 9 1 (qak a).length,.mp .string (qbd PV.str (PV.int .i64) i) none,.dead,.tail 9 1 (qak g).length],rfl,rfl,?_⟩;conv=>whnf
  exact⟨((kwr .i64 (c+1)),g,i),h,wk [0,1,2,3,4,6] []⟩
 obtain rfl:=sj h;conv=>whnf
 refine⟨_,_,⟨rfl,rfl⟩,wk [0,1,3,2,4,5] []⟩
abbrev q9k (r:qvs):PV:=PV.agg (zwi.cells r)
def qem (n:Nat) (a:SS):Bool->Option (qvs):=fun b=>
 bif b then(
 some (qvs.mk (1:Int) (1:Int) (3:Int)))
 else(
 bif(a==([99,111,97,108,101,115,99,101]:SS))then(
 some (qvs.mk (1:Int) (1048576:Int) (3:Int)))
 else(
 bif(a==([107,101,121,115]:SS))then(
 some (qvs.mk (1:Int) (1:Int) (0:Int)))
 else(
 bif(a==([108,97,98,101,108,115]:SS))then(
 some (qvs.mk (1:Int) (1:Int) (1:Int)))
 else(
 bif(a==([116,121,112,101]:SS))then(
 some (qvs.mk (1:Int) (1:Int) (2:Int)))
 else(
 bif(a==([114,97,110,103,101]:SS))then(
 some (qvs.mk (2:Int) (2:Int) (3:Int)))
 else(
 some (qvs.mk (1:Int) (0:Int) (0:Int))))))))
def qi9 (n:Nat) (a:SS):Option (qvs):=
 bif(a==([115,105,122,101]:SS))then(
 qem n a (a==([115,105,122,101]:SS)))
 else(
 bif(a==([97,98,115]:SS))then(
 qem n a (a==([97,98,115]:SS)))
 else(
 bif(a==([104,101,97,100]:SS))then(
 qem n a (a==([104,101,97,100]:SS)))
 else(
 bif(a==([108,97,115,116]:SS))then(
 qem n a (a==([108,97,115,116]:SS)))
 else(
 qem n a (a==([116,101,120,116]:SS))))))
theorem q62 (n:Nat):∀ (a:SS) (r:qvs),qi9 n a=some r->qai TP 164 [PV.str a] (q9k r):=by
 intro a r h;unfold qi9 at h;refine zN Tryz.call164 Tryz.func164 [1000000] ?_;conv=>whnf
 refine qhd.cut (S:=Bool) (fun c=>[(2,.ptr 0 0),(3,pS a),(4,pB c)]) (fun c=>[.box 230 [zq0,zq0,zq0]]) (qem n a) (r:=r) ?_ ?_
 ·intro c h
  unfold qem at h;conv=>whnf
  apply ifc h<;>intro b h
  ·obtain rfl:=sj h
   conv=>whnf
   try exact fin
  conv=>whnf
  apply ifc h<;>intro b h
  ·obtain rfl:=sj h
   conv=>whnf
   try exact fin
  conv=>whnf
  apply ifc h<;>intro b h
  ·obtain rfl:=sj h
   conv=>whnf
   try exact fin
  conv=>whnf
  apply ifc h<;>intro b h
  ·obtain rfl:=sj h
   conv=>whnf
   try exact fin
  conv=>whnf
  apply ifc h<;>intro b h
  ·obtain rfl:=sj h
   conv=>whnf
   try exact fin
  conv=>whnf
  apply ifc h<;>intro b h
  ·obtain rfl:=sj h
   conv=>whnf
   try exact fin
  obtain rfl:=sj h;conv=>whnf
  try exact fin
 conv=>whnf
 apply ifc h<;>intro b h
 ·conv=>whnf
  exact⟨(a==([115,105,122,101]:SS)),h,wk [0] []⟩
 conv=>whnf
 apply ifc h<;>intro b h
 ·conv=>whnf
  exact⟨(a==([97,98,115]:SS)),h,wk [0] []⟩
 conv=>whnf
 apply ifc h<;>intro b h
 ·conv=>whnf
  exact⟨(a==([104,101,97,100]:SS)),h,wk [0] []⟩
 conv=>whnf
 apply ifc h<;>intro b h
 ·conv=>whnf
  exact⟨(a==([108,97,115,116]:SS)),h,wk [0] []⟩
 conv=>whnf
 exact⟨(a==([116,101,120,116]:SS)),h,wk [0] []⟩
abbrev q9l (r:Bool):PV:=PV.bool r
def qiu (n:Nat) (a:List SS):LK (Int×List (SS×Int)) (Bool):=fun e (b,c)=>
 bif(decide (b<((qak a).length:Int)))then(
 bnd (idx a b) fun d=>
 e ((kwr .i64 (b+1)),(qpp d (kwr .i64 ((qec c d (0:Int))+1)) c)))
 else(
 some (decide ((((c).length:Nat):Int)<((qak a).length:Int))))
def qn4 (n:Nat) (a:List SS):Option (Bool):=
 qam (qiu n a) n ((0:Int),([]:List (SS×Int)))
theorem qyj (n:Nat):∀ (c:List SS) (r:Bool),qn4 n c=some r->qai TP 166 [PV.sl (qak c)] (q9l r):=by
 intro c r h;unfold qn4 at h;refine zN Tryz.call166 Tryz.func166 [1000000] ?_;conv=>whnf
 refine qbh.fn [1000000] (S:=Int×List (SS×Int)) (fun(d,a)=>[(0,pT c),(3,.mref 0),(7,pT c),(8,.p (.int .i64 ((qak c).length:Int))),(9,pI d)]) (fun(d,a)=>[.mp .string (qbd PV.str (PV.int .i64) a) none]) (B:=qiu n c) h (wk [0] []) ?_;intro _ st h;obtain⟨d,a⟩:=st;unfold qiu at h;conv=>whnf
 apply ifc h<;>intro _ h
 ·conv=>whnf
  refine bq h fun b e h=>?_;refine⟨_,Codec.at_ qpr e,?_⟩;conv=>whnf
  refine⟨PV.int .i64 (qec a b (0:Int)),(q75 a b),⟨qvi qer (PV.int .i64) a b (0:Int),qvj qer (PV.int .i64) a b⟩,?_⟩;conv=>whnf
  refine⟨_,qio qer (PV.int .i64) b (kwr .i64 ((qec a b (0:Int))+1)) a,?_⟩;conv=>whnf
  exact⟨((kwr .i64 (d+1)),(qpp b (kwr .i64 ((qec a b (0:Int))+1)) a)),h,wk [0] []⟩
 conv=>whnf
 refine⟨(a).length,zpx PV.str (PV.int .i64) a,?_⟩;obtain rfl:=sj h;conv=>whnf
 try exact fin
abbrev qle (_:List SS) (_:List (SS×Int)) (r:Int):FV:=pI r
abbrev qld (a:List SS) (b:List (SS×Int)) (r:Int):List AObj:=[.box 120 [.tsl 2 (qak a),.mref 1],.mp .string (qbd PV.str (PV.int .i64) b) none,.tail 9 1 (qak a).length]
def qhf (n:Nat) (b:Int->Option (Int)) (c:Int):Int->Option (Int):=fun a=>
 bif(a != 0)then(
 some a)
 else(
 b (kwr .i64 (c+1)))
abbrev ztp:Type:=qaa->(List SS)->(List (SS×Int))->Option (Int×Int)
def qfw (n:Nat) (c:List qaa) (g142:ztp) (o:List SS) (p:List (SS×Int)) (e:Int):LK (Int) (Int):=fun b a=>
 bif(decide (a<((qaa.rows c).length:Int)))then(
 bnd (idx c a) fun⟨q,s,⟨t,u,f,g,i,j⟩,k,l⟩=>
 bnd (g142 (qaa.mk q s (Val.mk t u f g i j) k l) o p) fun⟨m,d⟩=>
 bif(bif(bif(d==0)then(e != 0)else false)then(m != e)else false)then(
 qhf n b a (3:Int))
 else(
 qhf n b a d))
 else(
 some (0:Int))
abbrev ztq:Type:=(List qaa)->Int->(List SS)->(List (SS×Int))->Option (Int)
abbrev ztr:Type:=qaa->(List SS)->(List (SS×Int))->Option (Int)
def qml (n:Nat) (g87:ztq) (g142:ztp) (g165:ztr) (a:List qaa) (b:Int) (c:List SS) (d:List (SS×Int)):Option (Int):=
 qam (qfw n a g142 c d b) n (0:Int)
abbrev qj8 (_:List SS) (_:List (SS×Int)) (r:Int×Int):FV:=.p (.tup [.int .i64 r.1,.int .i64 r.2])
abbrev qj7 (a:List SS) (b:List (SS×Int)) (r:Int×Int):List AObj:=[.box 120 [.tsl 2 (qak a),.mref 1],.mp .string (qbd PV.str (PV.int .i64) b) none,.tail 9 1 (qak a).length]
def qgp (n:Nat):Int->Option (Int×Int):=fun a=>
 bif(a != 0)then(
 some ((0:Int),a))
 else(
 some ((3:Int),(0:Int)))
def qdd (n:Nat) (b:Int) (d:List SS):Int->Option (Int×Int):=fun a=>
 bnd (qaw (bif(a==0)then(b==6)else false) (qn4 n d)) fun c=>
 bif(bif(bif(a==0)then(b==6)else false)then c else false)then(
 qgp n (2:Int))
 else(
 qgp n a)
def qd0 (n:Nat) (g87:ztq) (c:List qaa) (d:List SS) (e:List (SS×Int)) (a:Int) (b:List SS) (g165:ztr) (f:SS) (m:Int) (o:Bool) (p:Int) (q:SS) (s:List Val) (t:List SS):Bool->Option (Int×Int):=fun g=>
 bif g then(
 bnd (g87 c (0:Int) d e) fun i=>
 qdd n a b i)
 else(
 bif(a==15)then(
 bnd (g87 c (1:Int) d e) fun j=>
 qdd n a b j)
 else(
 bif(a==10)then(
 bnd (g165 (qaa.mk a f (Val.mk m o p q s t) b c) d e) fun k=>
 qdd n a b k)
 else(
 bnd (g87 c (3:Int) d e) fun l=>
 qdd n a b l)))
def qk3 (n:Nat) (g87:ztq) (g142:ztp) (g165:ztr) (o:qaa) (e:List SS) (c:List (SS×Int)):Option (Int×Int):=
 match o with
 | ⟨a,d,⟨g,i,j,k,l,m⟩,f,b⟩=>
 bif(a==2)then(
 bif((qec c d (0:Int))==0)then(
 some ((0:Int),(2:Int)))
 else(
 some ((qec c d (0:Int)),(0:Int))))
 else(
 bif(a==14)then(
 some ((0:Int),(2:Int)))
 else(
 bif(a==13)then(
 bnd (qi9 n d) fun⟨p,q,s⟩=>
 bif(bif(decide (((qaa.rows b).length:Int)<p))then true else(decide (((qaa.rows b).length:Int)>q)))then(
 some ((0:Int),(2:Int)))
 else(
 bnd (g87 b s e c) fun t=>
 qdd n a f t))
 else(
 bif(a==4)then(
 qd0 n g87 b e c a f g165 d g i j k l m (a==4))
 else(
 bif(a==11)then(
 qd0 n g87 b e c a f g165 d g i j k l m (a==11))
 else(
 qd0 n g87 b e c a f g165 d g i j k l m (a==12))))))
abbrev qop (_:List SS) (_:List (SS×Int)) (r:Int):FV:=pI r
abbrev qoo (a:List SS) (b:List (SS×Int)) (r:Int):List AObj:=[.box 120 [.tsl 2 (qak a),.mref 1],.mp .string (qbd PV.str (PV.int .i64) b) none,.tail 9 1 (qak a).length]
def qk2 (n:Nat) (g87:ztq) (g142:ztp) (g165:ztr) (g:qaa) (b:List SS) (c:List (SS×Int)):Option (Int):=
 match g with
 | ⟨_,d,⟨_,_,_,_,_,_⟩,_,a⟩=>
 bif(bif(!(d==([61]:SS)))then(!(d==([60,62]:SS)))else false)then(
 bnd (g87 a (3:Int) b c) fun i=>
 some i)
 else(
 bnd (idx a (0:Int)) fun⟨j,k,⟨l,m,o,p,q,s⟩,t,u⟩=>
 bnd (g142 (qaa.mk j k (Val.mk l m o p q s) t u) b c) fun⟨v,e⟩=>
 bif(e != 0)then(
 some e)
 else(
 bnd (idx a (1:Int)) fun⟨w,x,⟨y,z,A,B,C,D⟩,E,F⟩=>
 bnd (g142 (qaa.mk w x (Val.mk y z A B C D) E F) b c) fun⟨G,f⟩=>
 bif(bif(f==0)then(v != G)else false)then(
 some (3:Int))
 else(
 some f)))
abbrev zxr (g87:ztq):Prop:=∀ (c:List qaa) (d:Int) (a:List SS) (b:List (SS×Int)) (r:Int),g87 c d a b=some r->qbq TP 87 [.ptr 0 0,.p (PV.sl (qaa.rows c)),.p (PV.int .i64 d)] [.box 120 [.tsl 2 (qak a),.mref 1],.mp .string (qbd PV.str (PV.int .i64) b) none,.tail 9 1 (qak a).length] 2 (fun v lo=>v=qle a b r/\lo=qld a b r)
abbrev zxs (g142:ztp):Prop:=∀ (c:qaa) (a:List SS) (b:List (SS×Int)) (r:Int×Int),g142 c a b=some r->qbq TP 142 [.ptr 0 0,.p (PV.agg (qck.cells c))] [.box 120 [.tsl 2 (qak a),.mref 1],.mp .string (qbd PV.str (PV.int .i64) b) none,.tail 9 1 (qak a).length] 2 (fun v lo=>v=qj8 a b r/\lo=qj7 a b r)
abbrev zxt (g165:ztr):Prop:=∀ (c:qaa) (a:List SS) (b:List (SS×Int)) (r:Int),g165 c a b=some r->qbq TP 165 [.ptr 0 0,.p (PV.agg (qck.cells c))] [.box 120 [.tsl 2 (qak a),.mref 1],.mp .string (qbd PV.str (PV.int .i64) b) none,.tail 9 1 (qak a).length] 2 (fun v lo=>v=qop a b r/\lo=qoo a b r)
theorem qy7 (n:Nat) (g87:ztq) (g142:ztp) (g165:ztr) (g87_ok:zxr g87) (g142_ok:zxs g142) (g165_ok:zxt g165):∀ (c:List qaa) (d:Int) (a:List SS) (b:List (SS×Int)) (r:Int),qml n g87 g142 g165 c d a b=some r->qbq TP 87 [.ptr 0 0,.p (PV.sl (qaa.rows c)),.p (PV.int .i64 d)] [.box 120 [.tsl 2 (qak a),.mref 1],.mp .string (qbd PV.str (PV.int .i64) b) none,.tail 9 1 (qak a).length] 2 (fun v lo=>v=qle a b r/\lo=qld a b r):=by
 intro c d a b r h;unfold qml at h;refine zO Tryz.call87 Tryz.func87 [142,1000000] ?_;conv=>whnf
 refine qbh.fn [142,1000000] (S:=Int) (fun e=>[(0,.ptr 0 0),(2,pI d),(11,pE c),(12,.p (.int .i64 ((qaa.rows c).length:Int))),(13,pI e)]) (fun e=>[.box 120 [.tsl 2 (qak a),.mref 1],.mp .string (qbd PV.str (PV.int .i64) b) none,.tail 9 1 (qak a).length]) (B:=qfw n c g142 a b d) h (wk [0,1,2] []) ?_;intro l e h;unfold qfw at h;conv=>whnf
 apply ifc h<;>intro g h
 ·conv=>whnf
  refine bq h fun⟨x,y,⟨z,A,m,o,q,s⟩,t,u⟩ k h=>?_;refine⟨_,Codec.at_ qck k,?_⟩;conv=>whnf
  refine bq h fun⟨w,i⟩ j h=>?_;refine qcq (g142_ok _ _ _ _ j) [0,1,2] [] ?_;rintro _ _ ⟨rfl,rfl⟩;refine⟨.p (.tup [.int .i64 w,.int .i64 i]),[.box 120 [.tsl 4 (qak a),.mref 1],.mp .string (qbd PV.str (PV.int .i64) b) none,.dead,.box 46 [pI x,pS y,pI z,pB A,pI m,pS o,pV q,pT s,pT t,pE u],.tail 9 1 (qak a).length],rfl,rfl,?_⟩;conv=>whnf
  refine qhd.cut (S:=Int) (fun f=>[(0,.ptr 0 0),(2,pI d),(10,pI f),(11,pE c),(12,.p (.int .i64 ((qaa.rows c).length:Int))),(13,pI e)]) (fun f=>[.box 120 [.tsl 2 (qak a),.mref 1],.mp .string (qbd PV.str (PV.int .i64) b) none,.tail 9 1 (qak a).length]) (qhf n l e) (r:=r) ?_ ?_
  ·intro f h
   unfold qhf at h;conv=>whnf
   apply ifc h<;>intro g h
   ·obtain rfl:=sj h
    (conv=>whnf);refine⟨_,_,⟨rfl,rfl⟩,wk [0,1,2] []⟩
   conv=>whnf
   exact⟨(kwr .i64 (e+1)),h,wk [0,1,2] []⟩
  conv=>whnf
  refine⟨id,?_⟩;conv=>whnf
  refine⟨id,id,id,id,?_⟩;conv=>whnf
  apply ifc h<;>intro g h
  ·conv=>whnf
   exact⟨(3:Int),h,wk [0,1,4] []⟩
  conv=>whnf
  exact⟨i,h,wk [0,1,4] []⟩
 obtain rfl:=sj h;conv=>whnf
 refine⟨_,_,⟨rfl,rfl⟩,wk [0,1,2] []⟩
set_option maxHeartbeats 4000000 in
theorem qyp (n:Nat) (g87:ztq) (g142:ztp) (g165:ztr) (g87_ok:zxr g87) (g142_ok:zxs g142) (g165_ok:zxt g165):∀ (q:qaa) (a:List SS) (b:List (SS×Int)) (r:Int×Int),qk3 n g87 g142 g165 q a b=some r->qbq TP 142 [.ptr 0 0,.p (PV.agg (qck.cells q))] [.box 120 [.tsl 2 (qak a),.mref 1],.mp .string (qbd PV.str (PV.int .i64) b) none,.tail 9 1 (qak a).length] 2 (fun v lo=>v=qj8 a b r/\lo=qj7 a b r):=by
 intro q a b r h;obtain⟨d,c,⟨i,j,k,l,m,o⟩,f,g⟩:=q;unfold qk3 at h;refine zO Tryz.call142 Tryz.func142 [87,165,1000000] ?_;conv=>whnf
 refine qhd.cut (S:=Int) (fun s=>[(3,.ptr 2 0),(6,pI s)]) (fun s=>[.box 120 [.tsl 3 (qak a),.mref 1],.mp .string (qbd PV.str (PV.int .i64) b) none,.box 46 [pI d,pS c,pI i,pB j,pI k,pS l,pV m,pT o,pT f,pE g],.tail 9 1 (qak a).length]) (qdd n d f) (r:=r) ?_ ?_
 ·intro s h
  unfold qdd at h;conv=>whnf
  refine qhd.cut (S:=Int) (fun t=>[(6,pI t)]) (fun t=>[.box 120 [.tsl 2 (qak a),.mref 1],.mp .string (qbd PV.str (PV.int .i64) b) none,.tail 9 1 (qak a).length]) (qgp n) (r:=r) ?_ ?_
  ·intro t h
   unfold qgp at h;conv=>whnf
   apply ifc h<;>intro e h
   ·obtain rfl:=sj h
    (conv=>whnf);refine⟨_,_,⟨rfl,rfl⟩,wk [0,1,2] []⟩
   obtain rfl:=sj h;conv=>whnf
   refine⟨_,_,⟨rfl,rfl⟩,wk [0,1,2] []⟩
  conv=>whnf
  refine⟨id,?_⟩;conv=>whnf
  refine⟨id,id,id,id,?_⟩;conv=>whnf
  refine bq h fun _ B h=>?_;refine⟨_,fun I=>(qyj n _ _ (qac B I)),?_⟩;conv=>whnf
  refine⟨id,?_⟩;conv=>whnf
  apply ifc h<;>intro e h
  ·conv=>whnf
   exact⟨(2:Int),h,wk [0,1,3] []⟩
  conv=>whnf
  exact⟨s,h,wk [0,1,3] []⟩
 conv=>whnf
 apply ifc h<;>intro e h
 ·conv=>whnf
  refine⟨PV.int .i64 (qec b c (0:Int)),(q75 b c),⟨qvi qer (PV.int .i64) b c (0:Int),qvj qer (PV.int .i64) b c⟩,?_⟩;conv=>whnf
  apply ifc h<;>intro e h
  ·obtain rfl:=sj h
   conv=>whnf
   refine⟨_,_,⟨rfl,rfl⟩,wk [0,1,2] []⟩
  conv=>whnf
  refine⟨PV.int .i64 (qec b c (0:Int)),(q75 b c),⟨qvi qer (PV.int .i64) b c (0:Int),qvj qer (PV.int .i64) b c⟩,?_⟩;obtain rfl:=sj h;conv=>whnf
  refine⟨_,_,⟨rfl,rfl⟩,wk [0,1,2] []⟩
 conv=>whnf
 apply ifc h<;>intro e h
 ·obtain rfl:=sj h
  conv=>whnf
  refine⟨_,_,⟨rfl,rfl⟩,wk [0,1,2] []⟩
 conv=>whnf
 apply ifc h<;>intro e h
 ·conv=>whnf
  refine bq h fun⟨J,K,L⟩ D h=>?_;refine⟨_,(q62 n _ _ D),?_⟩;conv=>whnf
  iterate 6 refine⟨id,?_⟩
  conv=>whnf
  apply ifc h<;>intro e h
  ·obtain rfl:=sj h
   conv=>whnf
   refine⟨_,_,⟨rfl,rfl⟩,wk [0,1,2] []⟩
  conv=>whnf
  refine bq h fun w C h=>?_;refine qcq (g87_ok _ _ _ _ _ C) [0,1,2] [] ?_;rintro _ _ ⟨rfl,rfl⟩;refine⟨pI w,[.box 120 [.tsl 5 (qak a),.mref 1],.mp .string (qbd PV.str (PV.int .i64) b) none,.dead,.box 46 [pI d,pS c,pI i,pB j,pI k,pS l,pV m,pT o,pT f,pE g],.box 230 [pI J,pI K,pI L],.tail 9 1 (qak a).length],rfl,rfl,?_⟩;conv=>whnf
  exact⟨w,h,wk [0,1,3,5] []⟩
 conv=>whnf
 refine qhd.cut (S:=Bool) (fun u=>[(0,.ptr 0 0),(3,.ptr 2 0),(9,pI d),(58,pB u)]) (fun u=>[.box 120 [.tsl 3 (qak a),.mref 1],.mp .string (qbd PV.str (PV.int .i64) b) none,.box 46 [pI d,pS c,pI i,pB j,pI k,pS l,pV m,pT o,pT f,pE g],.tail 9 1 (qak a).length]) (qd0 n g87 g a b d f g165 c i j k l m o) (r:=r) ?_ ?_
 ·intro u h
  unfold qd0 at h;conv=>whnf
  apply ifc h<;>intro e h
  ·conv=>whnf
   refine bq h fun x E h=>?_;refine qcq (g87_ok _ _ _ _ _ E) [0,1,3] [] ?_;rintro _ _ ⟨rfl,rfl⟩;refine⟨pI x,[.box 120 [.tsl 4 (qak a),.mref 1],.mp .string (qbd PV.str (PV.int .i64) b) none,.box 46 [pI d,pS c,pI i,pB j,pI k,pS l,pV m,pT o,pT f,pE g],.dead,.tail 9 1 (qak a).length],rfl,rfl,?_⟩;conv=>whnf
   exact⟨x,h,wk [0,1,2,4] []⟩
  conv=>whnf
  apply ifc h<;>intro e h
  ·conv=>whnf
   refine bq h fun y F h=>?_;refine qcq (g87_ok _ _ _ _ _ F) [0,1,3] [] ?_;rintro _ _ ⟨rfl,rfl⟩;refine⟨pI y,[.box 120 [.tsl 4 (qak a),.mref 1],.mp .string (qbd PV.str (PV.int .i64) b) none,.box 46 [pI d,pS c,pI i,pB j,pI k,pS l,pV m,pT o,pT f,pE g],.dead,.tail 9 1 (qak a).length],rfl,rfl,?_⟩;conv=>whnf
   exact⟨y,h,wk [0,1,2,4] []⟩
  conv=>whnf
  apply ifc h<;>intro e h
  ·conv=>whnf
   refine bq h fun z G h=>?_;refine qcq (g165_ok _ _ _ _ G) [0,1,3] [] ?_;rintro _ _ ⟨rfl,rfl⟩;refine⟨pI z,[.box 120 [.tsl 4 (qak a),.mref 1],.mp .string (qbd PV.str (PV.int .i64) b) none,.box 46 [pI d,pS c,pI i,pB j,pI k,pS l,pV m,pT o,pT f,pE g],.dead,.tail 9 1 (qak a).length],rfl,rfl,?_⟩;conv=>whnf
   exact⟨z,h,wk [0,1,2,4] []⟩
  conv=>whnf
  refine bq h fun A H h=>?_;refine qcq (g87_ok _ _ _ _ _ H) [0,1,3] [] ?_;rintro _ _ ⟨rfl,rfl⟩;refine⟨pI A,[.box 120 [.tsl 4 (qak a),.mref 1],.mp .string (qbd PV.str (PV.int .i64) b) none,.box 46 [pI d,pS c,pI i,pB j,pI k,pS l,pV m,pT o,pT f,pE g],.dead,.tail 9 1 (qak a).length],rfl,rfl,?_⟩;conv=>whnf
  exact⟨A,h,wk [0,1,2,4] []⟩
 conv=>whnf
 apply ifc h<;>intro e h
 ·conv=>whnf
  exact⟨(d==4),h,wk [0,1,3,2] []⟩
 conv=>whnf
 apply ifc h<;>intro e h
 ·conv=>whnf
  exact⟨(d==11),h,wk [0,1,3,2] []⟩
 conv=>whnf
 exact⟨(d==12),h,wk [0,1,3,2] []⟩
theorem qyo (n:Nat) (g87:ztq) (g142:ztp) (g165:ztr) (g87_ok:zxr g87) (g142_ok:zxs g142) (g165_ok:zxt g165):∀ (c:qaa) (a:List SS) (b:List (SS×Int)) (r:Int),qk2 n g87 g142 g165 c a b=some r->qbq TP 165 [.ptr 0 0,.p (PV.agg (qck.cells c))] [.box 120 [.tsl 2 (qak a),.mref 1],.mp .string (qbd PV.str (PV.int .i64) b) none,.tail 9 1 (qak a).length] 2 (fun v lo=>v=qop a b r/\lo=qoo a b r):=by
 intro c a b r h;obtain⟨d,f,⟨g,i,j,k,l,m⟩,o,e⟩:=c;unfold qk2 at h;refine zO Tryz.call165 Tryz.func165 [87,142,1000000] ?_;conv=>whnf
 refine⟨id,id,id,?_⟩;conv=>whnf
 apply ifc h<;>intro q h
 ·conv=>whnf
  refine bq h fun y s h=>?_;refine qcq (g87_ok _ _ _ _ _ s) [0,1,2] [] ?_;rintro _ _ ⟨rfl,rfl⟩;refine⟨pI y,[.box 120 [.tsl 4 (qak a),.mref 1],.mp .string (qbd PV.str (PV.int .i64) b) none,.dead,.box 46 [pI d,pS f,pI g,pB i,pI j,pS k,pV l,pT m,pT o,pE e],.tail 9 1 (qak a).length],rfl,rfl,?_⟩;obtain rfl:=sj h;conv=>whnf
  refine⟨_,_,⟨rfl,rfl⟩,wk [0,1,4] []⟩
 conv=>whnf
 refine bq h fun⟨_,_,⟨_,_,_,_,_,_⟩,_,_⟩ x h=>?_;refine⟨_,Codec.at_ qck x,?_⟩;conv=>whnf
 refine bq h fun⟨z,A⟩ t h=>?_;refine qcq (g142_ok _ _ _ _ t) [0,1,2] [] ?_;rintro _ _ ⟨rfl,rfl⟩;refine⟨.p (.tup [.int .i64 z,.int .i64 A]),[.box 120 [.tsl 4 (qak a),.mref 1],.mp .string (qbd PV.str (PV.int .i64) b) none,.dead,.box 46 [pI d,pS f,pI g,pB i,pI j,pS k,pV l,pT m,pT o,pE e],.tail 9 1 (qak a).length],rfl,rfl,?_⟩;conv=>whnf
 apply ifc h<;>intro q h
 ·obtain rfl:=sj h
  conv=>whnf
  refine⟨_,_,⟨rfl,rfl⟩,wk [0,1,4] []⟩
 conv=>whnf
 refine bq h fun⟨_,_,⟨_,_,_,_,_,_⟩,_,_⟩ w h=>?_;refine⟨_,Codec.at_ qck w,?_⟩;conv=>whnf
 refine bq h fun⟨B,C⟩ u h=>?_;refine qcq (g142_ok _ _ _ _ u) [0,1,4] [] ?_;rintro _ _ ⟨rfl,rfl⟩;refine⟨.p (.tup [.int .i64 B,.int .i64 C]),[.box 120 [.tsl 5 (qak a),.mref 1],.mp .string (qbd PV.str (PV.int .i64) b) none,.dead,.box 46 [pI d,pS f,pI g,pB i,pI j,pS k,pV l,pT m,pT o,pE e],.dead,.tail 9 1 (qak a).length],rfl,rfl,?_⟩;conv=>whnf
 refine⟨id,id,id,?_⟩;conv=>whnf
 apply ifc h<;>intro q h
 ·obtain rfl:=sj h
  conv=>whnf
  refine⟨_,_,⟨rfl,rfl⟩,wk [0,1,5] []⟩
 obtain rfl:=sj h;conv=>whnf
 refine⟨_,_,⟨rfl,rfl⟩,wk [0,1,5] []⟩
mutual
def qbj:Nat->(List qaa)->Int->(List SS)->(List (SS×Int))->Option (Int)
 | 0=>fun _ _ _ _=>none
 | n+1=>qml n (qbj n) (qc2 n) (qdc n)
def qc2:Nat->qaa->(List SS)->(List (SS×Int))->Option (Int×Int)
 | 0=>fun _ _ _=>none
 | n+1=>qk3 n (qbj n) (qc2 n) (qdc n)
def qdc:Nat->qaa->(List SS)->(List (SS×Int))->Option (Int)
 | 0=>fun _ _ _=>none
 | n+1=>qk2 n (qbj n) (qc2 n) (qdc n)
end
theorem qsh (n:Nat):(∀ (j:List qaa) (k:Int) (d:List SS) (e:List (SS×Int)) (r:Int),qbj n j k d e=some r->qbq TP 87 [.ptr 0 0,.p (PV.sl (qaa.rows j)),.p (PV.int .i64 k)] [.box 120 [.tsl 2 (qak d),.mref 1],.mp .string (qbd PV.str (PV.int .i64) e) none,.tail 9 1 (qak d).length] 2 (fun v lo=>v=qle d e r/\lo=qld d e r))/\(∀ (c:qaa) (a:List SS) (b:List (SS×Int)) (r:Int×Int),qc2 n c a b=some r->qbq TP 142 [.ptr 0 0,.p (PV.agg (qck.cells c))] [.box 120 [.tsl 2 (qak a),.mref 1],.mp .string (qbd PV.str (PV.int .i64) b) none,.tail 9 1 (qak a).length] 2 (fun v lo=>v=qj8 a b r/\lo=qj7 a b r))/\(∀ (c:qaa) (a:List SS) (b:List (SS×Int)) (r:Int),qdc n c a b=some r->qbq TP 165 [.ptr 0 0,.p (PV.agg (qck.cells c))] [.box 120 [.tsl 2 (qak a),.mref 1],.mp .string (qbd PV.str (PV.int .i64) b) none,.tail 9 1 (qak a).length] 2 (fun v lo=>v=qop a b r/\lo=qoo a b r)):=by
 induction n with
 | zero=>exact⟨(by intros; rename_i h; cases h),(by intros; rename_i h; cases h),(by intros; rename_i h; cases h)⟩
 | succ n ih=>
  obtain⟨f,g,i⟩:=ih;exact⟨qy7 n (qbj n) (qc2 n) (qdc n) f g i,qyp n (qbj n) (qc2 n) (qdc n) f g i,qyo n (qbj n) (qc2 n) (qdc n) f g i⟩
theorem qd8 (n:Nat):∀ (c:List qaa) (d:Int) (a:List SS) (b:List (SS×Int)) (r:Int),qbj n c d a b=some r->qbq TP 87 [.ptr 0 0,.p (PV.sl (qaa.rows c)),.p (PV.int .i64 d)] [.box 120 [.tsl 2 (qak a),.mref 1],.mp .string (qbd PV.str (PV.int .i64) b) none,.tail 9 1 (qak a).length] 2 (fun v lo=>v=qle a b r/\lo=qld a b r):=(qsh n).1
theorem qzi (n:Nat):∀ (c:qaa) (a:List SS) (b:List (SS×Int)) (r:Int×Int),qc2 n c a b=some r->qbq TP 142 [.ptr 0 0,.p (PV.agg (qck.cells c))] [.box 120 [.tsl 2 (qak a),.mref 1],.mp .string (qbd PV.str (PV.int .i64) b) none,.tail 9 1 (qak a).length] 2 (fun v lo=>v=qj8 a b r/\lo=qj7 a b r):=(qsh n).2.1
abbrev qzv (_:List SS) (_:List (SS×Int)) (r:Int):FV:=pI r
abbrev qzs (a:List SS) (b:List (SS×Int)) (r:Int):List AObj:=[.box 120 [.tsl 2 (qak a),.mref 1],.mp .string (qbd PV.str (PV.int .i64) b) none,.tail 9 1 (qak a).length]
def qge (n:Nat) (b:List SS) (c:List qaa) (d:List SS) (e:List (SS×Int)):Option (Int):=
 bnd (qbj n c (3:Int) d e) fun a=>
 bif(a != 0)then(
 some a)
 else(
 bnd (qn4 n b) fun f=>
 bif f then(
 some (2:Int))
 else(
 some (0:Int)))
theorem qrg (n:Nat):∀ (c:List SS) (d:List qaa) (a:List SS) (b:List (SS×Int)) (r:Int),qge n c d a b=some r->qbq TP 163 [.ptr 0 0,.p (PV.sl (qak c)),.p (PV.sl (qaa.rows d))] [.box 120 [.tsl 2 (qak a),.mref 1],.mp .string (qbd PV.str (PV.int .i64) b) none,.tail 9 1 (qak a).length] 2 (fun v lo=>v=qzv a b r/\lo=qzs a b r):=by
 intro c d a b r h;unfold qge at h;refine zO Tryz.call163 Tryz.func163 [87,1000000] ?_;conv=>whnf
 refine bq h fun i e h=>?_;refine qcq (qd8 n _ _ _ _ _ e) [0,1,2] [] ?_;rintro _ _ ⟨rfl,rfl⟩;refine⟨pI i,[.box 120 [.tsl 3 (qak a),.mref 1],.mp .string (qbd PV.str (PV.int .i64) b) none,.dead,.tail 9 1 (qak a).length],rfl,rfl,?_⟩;conv=>whnf
 apply ifc h<;>intro g h
 ·obtain rfl:=sj h
  conv=>whnf
  refine⟨_,_,⟨rfl,rfl⟩,wk [0,1,3] []⟩
 conv=>whnf
 refine bq h fun _ f h=>?_;refine⟨_,(qyj n _ _ f),?_⟩;conv=>whnf
 apply ifc h<;>intro g h
 ·obtain rfl:=sj h
  conv=>whnf
  refine⟨_,_,⟨rfl,rfl⟩,wk [0,1,3] []⟩
 obtain rfl:=sj h;conv=>whnf
 refine⟨_,_,⟨rfl,rfl⟩,wk [0,1,3] []⟩
abbrev q1g (_:List SS) (_:List (SS×Int)) (_:List SS) (_:List (SS×Int)) (r:Int×(List SS)×(List (SS×Int))):FV:=.p (.int .i64 r.1)
abbrev q08 (_:List SS) (_:List (SS×Int)) (a:List SS) (b:List (SS×Int)) (r:Int×(List SS)×(List (SS×Int))):List AObj:=[.box 120 [.tsl 4 (qak r.2.1),.mref 2],.box 120 [.tsl 5 (qak a),.mref 3],.mp .string (qbd PV.str (PV.int .i64) r.2.2) none,.mp .string (qbd PV.str (PV.int .i64) b) none,.tail 9 1 (qak r.2.1).length,.tail 9 1 (qak a).length]
def qgo (n:Nat):List SS×List (SS×Int)->Option (Int×(List SS)×(List (SS×Int))):=fun(a,b)=>
 some ((0:Int),a,b)
def qjc (n:Nat) (e:qag) (o:Bool) (b:List SS) (a:List (SS×Int)) (p:List SS) (f:List (SS×Int)):Option (Int×(List SS)×(List (SS×Int))):=
 match e with
 | ⟨c,j,k,l,m⟩=>
 bif(bif((qec a c (0:Int)) != 0)then true else(bif o then(bif(j==([]:SS))then true else(k==2))else false))then(
 some ((2:Int),b,a))
 else(
 bnd (qge n l m p f) fun d=>
 bif(d != 0)then(
 some (d,b,a))
 else(
 bif(!(c==([]:SS)))then(
 bnd (qdb n c (2:Int) b a) fun⟨g,i⟩=>
 qgo n (g,i))
 else(
 qgo n (b,a))))
theorem qzh (n:Nat):∀ (f:qag) (k:Bool) (c:List SS) (b:List (SS×Int)) (a:List SS) (d:List (SS×Int)) (r:Int×(List SS)×(List (SS×Int))),qjc n f k c b a d=some r->qbq TP 161 [.ptr 0 0,.p (PV.agg (qg1.cells f)),.ptr 1 0,.p (PV.bool k)] [.box 120 [.tsl 4 (qak c),.mref 2],.box 120 [.tsl 5 (qak a),.mref 3],.mp .string (qbd PV.str (PV.int .i64) b) none,.mp .string (qbd PV.str (PV.int .i64) d) none,.tail 9 1 (qak c).length,.tail 9 1 (qak a).length] 4 (fun v lo=>v=q1g c b a d r/\lo=q08 c b a d r):=by
 intro f k c b a d r h;obtain⟨e,o,q,s,t⟩:=f;unfold qjc at h;refine zO Tryz.call161 Tryz.func161 [88,163,1000000] ?_;conv=>whnf
 refine⟨PV.int .i64 (qec b e (0:Int)),(q75 b e),⟨qvi qer (PV.int .i64) b e (0:Int),qvj qer (PV.int .i64) b e⟩,?_⟩;conv=>whnf
 iterate 11 refine⟨id,?_⟩
 conv=>whnf
 apply ifc h<;>intro l h
 ·obtain rfl:=sj h
  conv=>whnf
  refine⟨_,_,⟨rfl,rfl⟩,wk [0,1,2,3,4,5] []⟩
 conv=>whnf
 refine bq h fun x u h=>?_;refine qcq (qrg n _ _ _ _ _ u) [1,3,5] [] ?_;rintro _ _ ⟨rfl,rfl⟩;refine⟨pI x,[.box 120 [.tsl 4 (qak c),.mref 2],.box 120 [.tsl 7 (qak a),.mref 3],.mp .string (qbd PV.str (PV.int .i64) b) none,.mp .string (qbd PV.str (PV.int .i64) d) none,.tail 9 1 (qak c).length,.dead,.box 68 [pS e,pS o,pI q,pT s,pE t],.tail 9 1 (qak a).length],rfl,rfl,?_⟩;conv=>whnf
 apply ifc h<;>intro l h
 ·obtain rfl:=sj h
  conv=>whnf
  refine⟨_,_,⟨rfl,rfl⟩,wk [0,1,2,3,4,7] []⟩
 conv=>whnf
 refine qhd.cut (S:=List SS×List (SS×Int)) (fun(g,i)=>[]) (fun(g,i)=>[.box 120 [.tsl 4 (qak g),.mref 2],.box 120 [.tsl 5 (qak a),.mref 3],.mp .string (qbd PV.str (PV.int .i64) i) none,.mp .string (qbd PV.str (PV.int .i64) d) none,.tail 9 1 (qak g).length,.tail 9 1 (qak a).length]) (qgo n) (r:=r) ?_ ?_
 ·intro st h
  obtain⟨g,i⟩:=st;unfold qgo at h;obtain rfl:=sj h;conv=>whnf
  refine⟨_,_,⟨rfl,rfl⟩,wk [0,1,2,3,4,5] []⟩
 conv=>whnf
 apply ifc h<;>intro l h
 ·conv=>whnf
  refine bq h fun⟨j,m⟩ w h=>?_;refine qcq (qgn n _ _ _ _ _ w) [0,2,4] [] ?_;rintro _ _ ⟨rfl,rfl⟩;refine⟨.p (.tup []),[.box 120 [.tsl 8 (qak j),.mref 2],.box 120 [.tsl 7 (qak a),.mref 3],.mp .string (qbd PV.str (PV.int .i64) m) none,.mp .string (qbd PV.str (PV.int .i64) d) none,.dead,.dead,.box 68 [pS e,pS o,pI q,pT s,pE t],.tail 9 1 (qak a).length,.tail 9 1 (qak j).length],rfl,rfl,?_⟩;conv=>whnf
  exact⟨(j,m),h,wk [0,1,2,3,8,7] []⟩
 conv=>whnf
 exact⟨(c,b),h,wk [0,1,2,3,4,7] []⟩
abbrev q2k (_:List SS) (_:List (SS×Int)) (r:Bool×Int):FV:=.p (.tup [.bool r.1,.int .i64 r.2])
abbrev q2h (a:List SS) (b:List (SS×Int)) (r:Bool×Int):List AObj:=[.box 120 [.tsl 2 (qak a),.mref 1],.mp .string (qbd PV.str (PV.int .i64) b) none,.tail 9 1 (qak a).length]
def qkv (n:Nat) (a:SS) (_:List SS) (b:List (SS×Int)):Option (Bool×Int):=
 bif(bif(a==([]:SS))then true else((qec b a (0:Int))==0))then(
 some (false,(0:Int)))
 else(
 bif((qec b a (0:Int)) != 1)then(
 some (true,(3:Int)))
 else(
 some (true,(0:Int))))
theorem q0v (n:Nat):∀ (b:SS) (c:List SS) (a:List (SS×Int)) (r:Bool×Int),qkv n b c a=some r->qbq TP 162 [.ptr 0 0,.p (PV.str b)] [.box 120 [.tsl 2 (qak c),.mref 1],.mp .string (qbd PV.str (PV.int .i64) a) none,.tail 9 1 (qak c).length] 2 (fun v lo=>v=q2k c a r/\lo=q2h c a r):=by
 intro b c a r h;unfold qkv at h;refine zO Tryz.call162 Tryz.func162 [1000000] ?_;conv=>whnf
 refine⟨PV.int .i64 (qec a b (0:Int)),(q75 a b),⟨qvi qer (PV.int .i64) a b (0:Int),qvj qer (PV.int .i64) a b⟩,?_⟩;conv=>whnf
 refine⟨id,id,?_⟩;conv=>whnf
 apply ifc h<;>intro d h
 ·obtain rfl:=sj h
  conv=>whnf
  refine⟨_,_,⟨rfl,rfl⟩,wk [0,1,2] []⟩
 conv=>whnf
 apply ifc h<;>intro d h
 ·obtain rfl:=sj h
  conv=>whnf
  refine⟨_,_,⟨rfl,rfl⟩,wk [0,1,2] []⟩
 obtain rfl:=sj h;conv=>whnf
 refine⟨_,_,⟨rfl,rfl⟩,wk [0,1,2] []⟩
abbrev q1i (_:List SS) (_:List (SS×Int)) (_:List SS) (_:List (SS×Int)) (r:Int×(List SS)×(List (SS×Int))):FV:=.p (.int .i64 r.1)
abbrev q1a (_:List SS) (_:List (SS×Int)) (a:List SS) (b:List (SS×Int)) (r:Int×(List SS)×(List (SS×Int))):List AObj:=[.box 120 [.tsl 4 (qak r.2.1),.mref 2],.box 120 [.tsl 5 (qak a),.mref 3],.mp .string (qbd PV.str (PV.int .i64) r.2.2) none,.mp .string (qbd PV.str (PV.int .i64) b) none,.tail 9 1 (qak r.2.1).length,.tail 9 1 (qak a).length]
def qf6 (n:Nat) (a:Int×List SS×List (SS×Int)->Option (Int×(List SS)×(List (SS×Int)))) (d:Int):List SS×List (SS×Int)->Option (Int×(List SS)×(List (SS×Int))):=fun(b,c)=>
 a ((kwr .i64 (d+1)),b,c)
def qf8 (n:Nat) (a:List SS) (b:List (SS×Int)) (d:SS) (c:Int×List SS×List (SS×Int)->Option (Int×(List SS)×(List (SS×Int)))) (f:Int):Int->Option (Int×(List SS)×(List (SS×Int))):=fun e=>
 bif(e != 0)then(
 some (e,a,b))
 else(
 bif(!(d==([]:SS)))then(
 bnd (qdb n d (1:Int) a b) fun⟨g,i⟩=>
 qf6 n c f (g,i))
 else(
 qf6 n c f (a,b)))
def qf7 (n:Nat) (g:List SS) (i:List qaa) (k:List SS) (l:List (SS×Int)) (c:List SS) (d:List (SS×Int)) (b:SS) (a:Int×List SS×List (SS×Int)->Option (Int×(List SS)×(List (SS×Int)))) (f:Int):Int->Option (Int×(List SS)×(List (SS×Int))):=fun e=>
 bif(e==0)then(
 bnd (qge n g i k l) fun j=>
 qf8 n c d b a f j)
 else(
 qf8 n c d b a f e)
def qev (n:Nat) (a:SS) (o:Bool) (l b:List SS) (f:List qaa) (i:List SS) (j:List (SS×Int)) (e:Int×List SS×List (SS×Int)->Option (Int×(List SS)×(List (SS×Int)))) (k:Int):List SS×List (SS×Int)->Option (Int×(List SS)×(List (SS×Int))):=fun(c,d)=>
 bnd (qkv n a c d) fun⟨m,g⟩=>
 bif(bif(bif(bif(g==0)then m else false)then o else false)then(decide ((kwr .i64 (((qak l).length:Int)+((qak b).length:Int)))>0))else false)then(
 qf7 n b f i j c d a e k (2:Int))
 else(
 qf7 n b f i j c d a e k g)
def qff (n:Nat) (i:List qae) (s:List qag) (c:Bool) (d:List SS) (e:List (SS×Int)):LK (Int×List SS×List (SS×Int)) (Int×(List SS)×(List (SS×Int))):=fun g (a,f,b)=>
 bif(decide (a<((qae.rows i).length:Int)))then(
 bnd (idx i a) fun⟨j,k,l,m⟩=>
 bif(decide (a>0))then(
 bnd (idx s (kwr .i64 (a - 1))) fun⟨t,u,v,w,x⟩=>
 bnd (qjc n (qag.mk t u v w x) c f b d e) fun⟨o,p,q⟩=>
 bif(o != 0)then(
 some (o,p,q))
 else(
 qev n j c k l m d e g a (p,q)))
 else(
 qev n j c k l m d e g a (f,b)))
 else(
 some ((0:Int),f,b))
def qje (n:Nat) (a:qa9) (d:Bool) (e:List SS) (f:List (SS×Int)) (g:List SS) (i:List (SS×Int)):Option (Int×(List SS)×(List (SS×Int))):=
 match a with
 | ⟨b,c⟩=>
 qam (qff n b c d g i) n ((0:Int),e,f)
set_option maxHeartbeats 4000000 in
theorem qzk (n:Nat):∀ (w:qa9) (j:Bool) (q:List SS) (t:List (SS×Int)) (a:List SS) (c:List (SS×Int)) (r:Int×(List SS)×(List (SS×Int))),qje n w j q t a c=some r->qbq TP 141 [.ptr 0 0,.p (PV.agg (qlh.cells w)),.ptr 1 0,.p (PV.bool j)] [.box 120 [.tsl 4 (qak q),.mref 2],.box 120 [.tsl 5 (qak a),.mref 3],.mp .string (qbd PV.str (PV.int .i64) t) none,.mp .string (qbd PV.str (PV.int .i64) c) none,.tail 9 1 (qak q).length,.tail 9 1 (qak a).length] 4 (fun v lo=>v=q1i q t a c r/\lo=q1a q t a c r):=by
 intro w j q t a c r h;obtain⟨b,i⟩:=w;unfold qje at h;refine zO Tryz.call141 Tryz.func141 [88,161,162,163,1000000] ?_;conv=>whnf
 refine qbh.fn [88,161,162,163,1000000] (S:=Int×List SS×List (SS×Int)) (fun(e,u,y)=>[(0,.ptr 0 0),(2,.ptr 1 0),(3,pB j),(5,.ptr 4 0),(15,pN b),(16,.p (.int .i64 ((qae.rows b).length:Int))),(17,pI e)]) (fun(e,u,y)=>[.box 120 [.tsl 5 (qak u),.mref 2],.box 120 [.tsl 6 (qak a),.mref 3],.mp .string (qbd PV.str (PV.int .i64) y) none,.mp .string (qbd PV.str (PV.int .i64) c) none,.box 59 [pN b,pG i],.tail 9 1 (qak u).length,.tail 9 1 (qak a).length]) (B:=qff n b i j a c) h (wk [0,1,2,3,6,4,5] []) ?_;intro x st h;obtain⟨e,u,y⟩:=st;unfold qff at h;conv=>whnf
 apply ifc h<;>intro o h
 ·conv=>whnf
  refine qhd.cut (S:=List SS×List (SS×Int)) (fun(s,z)=>[(0,.ptr 0 0),(2,.ptr 1 0),(3,pB j),(5,.ptr 4 0),(15,pN b),(16,.p (.int .i64 ((qae.rows b).length:Int))),(17,pI e)]) (fun(s,z)=>[.box 120 [.tsl 5 (qak s),.mref 2],.box 120 [.tsl 6 (qak a),.mref 3],.mp .string (qbd PV.str (PV.int .i64) z) none,.mp .string (qbd PV.str (PV.int .i64) c) none,.box 59 [pN b,pG i],.tail 9 1 (qak s).length,.tail 9 1 (qak a).length]) (qf6 n x e) (r:=r) ?_ ?_
  ·intro st h
   obtain⟨s,z⟩:=st;unfold qf6 at h;conv=>whnf
   exact⟨((kwr .i64 (e+1)),s,z),h,wk [0,1,2,3,4,5,6] []⟩
  conv=>whnf
  refine bq h fun⟨f,m,k,l⟩ O h=>?_;refine⟨_,Codec.at_ qd2 O,?_⟩;conv=>whnf
  refine qhd.cut (S:=List SS×List (SS×Int)) (fun(d,g)=>[(0,.ptr 0 0),(2,.ptr 1 0),(3,pB j),(5,.ptr 4 0),(10,.ptr 5 0),(15,pN b),(16,.p (.int .i64 ((qae.rows b).length:Int))),(17,pI e)]) (fun(d,g)=>[.box 120 [.tsl 6 (qak d),.mref 2],.box 120 [.tsl 7 (qak a),.mref 3],.mp .string (qbd PV.str (PV.int .i64) g) none,.mp .string (qbd PV.str (PV.int .i64) c) none,.box 59 [pN b,pG i],.box 55 [pS f,pT m,pT k,pE l],.tail 9 1 (qak d).length,.tail 9 1 (qak a).length]) (qev n f j m k l a c x e) (r:=r) ?_ ?_
  ·intro st h
   obtain⟨d,g⟩:=st;unfold qev at h;conv=>whnf
   refine bq h fun⟨P,F⟩ J h=>?_;refine qcq (q0v n _ _ _ _ J) [0,2,6] [] ?_;rintro _ _ ⟨rfl,rfl⟩;refine⟨.p (.tup [.bool P,.int .i64 F]),[.box 120 [.tsl 8 (qak d),.mref 2],.box 120 [.tsl 7 (qak a),.mref 3],.mp .string (qbd PV.str (PV.int .i64) g) none,.mp .string (qbd PV.str (PV.int .i64) c) none,.box 59 [pN b,pG i],.box 55 [pS f,pT m,pT k,pE l],.dead,.tail 9 1 (qak a).length,.tail 9 1 (qak d).length],rfl,rfl,?_⟩;conv=>whnf
   refine qhd.cut (S:=Int) (fun A=>[(0,.ptr 0 0),(2,.ptr 1 0),(3,pB j),(5,.ptr 4 0),(10,.ptr 5 0),(13,pI A),(15,pN b),(16,.p (.int .i64 ((qae.rows b).length:Int))),(17,pI e)]) (fun A=>[.box 120 [.tsl 6 (qak d),.mref 2],.box 120 [.tsl 7 (qak a),.mref 3],.mp .string (qbd PV.str (PV.int .i64) g) none,.mp .string (qbd PV.str (PV.int .i64) c) none,.box 59 [pN b,pG i],.box 55 [pS f,pT m,pT k,pE l],.tail 9 1 (qak d).length,.tail 9 1 (qak a).length]) (qf7 n k l a c d g f x e) (r:=r) ?_ ?_
   ·intro A h
    unfold qf7 at h;(conv=>whnf);refine qhd.cut (S:=Int) (fun C=>[(0,.ptr 0 0),(2,.ptr 1 0),(3,pB j),(5,.ptr 4 0),(10,.ptr 5 0),(13,pI C),(15,pN b),(16,.p (.int .i64 ((qae.rows b).length:Int))),(17,pI e)]) (fun C=>[.box 120 [.tsl 6 (qak d),.mref 2],.box 120 [.tsl 7 (qak a),.mref 3],.mp .string (qbd PV.str (PV.int .i64) g) none,.mp .string (qbd PV.str (PV.int .i64) c) none,.box 59 [pN b,pG i],.box 55 [pS f,pT m,pT k,pE l],.tail 9 1 (qak d).length,.tail 9 1 (qak a).length]) (qf8 n d g f x e) (r:=r) ?_ ?_
    ·intro C h
     unfold qf8 at h;(conv=>whnf);apply ifc h<;>intro o h
     ·obtain rfl:=sj h
      (conv=>whnf);refine⟨_,_,⟨rfl,rfl⟩,wk [0,1,2,3,6,7] []⟩
     (conv=>whnf);apply ifc h<;>intro o h
     ·conv=>whnf
      refine bq h fun⟨D,G⟩ K h=>?_;refine qcq (qgn n _ _ _ _ _ K) [0,2,6] [] ?_;rintro _ _ ⟨rfl,rfl⟩;refine⟨.p (.tup []),[.box 120 [.tsl 8 (qak D),.mref 2],.box 120 [.tsl 7 (qak a),.mref 3],.mp .string (qbd PV.str (PV.int .i64) G) none,.mp .string (qbd PV.str (PV.int .i64) c) none,.box 59 [pN b,pG i],.box 55 [pS f,pT m,pT k,pE l],.dead,.tail 9 1 (qak a).length,.tail 9 1 (qak D).length],rfl,rfl,?_⟩;(conv=>whnf);exact⟨(D,G),h,wk [0,1,2,3,4,8,7] []⟩
     (conv=>whnf);exact⟨(d,g),h,wk [0,1,2,3,4,6,7] []⟩
    (conv=>whnf);apply ifc h<;>intro o h
    ·conv=>whnf
     refine bq h fun H L h=>?_;refine qcq (qrg n _ _ _ _ _ L) [1,3,7] [] ?_;rintro _ _ ⟨rfl,rfl⟩;refine⟨pI H,[.box 120 [.tsl 6 (qak d),.mref 2],.box 120 [.tsl 8 (qak a),.mref 3],.mp .string (qbd PV.str (PV.int .i64) g) none,.mp .string (qbd PV.str (PV.int .i64) c) none,.box 59 [pN b,pG i],.box 55 [pS f,pT m,pT k,pE l],.tail 9 1 (qak d).length,.dead,.tail 9 1 (qak a).length],rfl,rfl,?_⟩;(conv=>whnf);exact⟨H,h,wk [0,1,2,3,4,5,6,8] []⟩
    (conv=>whnf);exact⟨A,h,wk [0,1,2,3,4,5,6,7] []⟩
   conv=>whnf
   refine⟨id,?_⟩;conv=>whnf
   iterate 9 refine⟨id,?_⟩
   conv=>whnf
   apply ifc h<;>intro o h
   ·conv=>whnf
    exact⟨(2:Int),h,wk [0,1,2,3,4,5,8,7] []⟩
   conv=>whnf
   exact⟨F,h,wk [0,1,2,3,4,5,8,7] []⟩
  conv=>whnf
  apply ifc h<;>intro o h
  ·conv=>whnf
   refine bq h fun⟨_,_,_,_,_⟩ N h=>?_;refine⟨_,Codec.at_ qg1 N,?_⟩;conv=>whnf
   refine bq h fun⟨Q,E,I⟩ M h=>?_;refine qcq (qzh n _ _ _ _ _ _ _ M) [0,1,2,3,5,6] [] ?_;rintro _ _ ⟨rfl,rfl⟩;refine⟨pI Q,[.box 120 [.tsl 8 (qak E),.mref 2],.box 120 [.tsl 9 (qak a),.mref 3],.mp .string (qbd PV.str (PV.int .i64) I) none,.mp .string (qbd PV.str (PV.int .i64) c) none,.box 59 [pN b,pG i],.dead,.dead,.box 55 [pS f,pT m,pT k,pE l],.tail 9 1 (qak E).length,.tail 9 1 (qak a).length],rfl,rfl,?_⟩;conv=>whnf
   apply ifc h<;>intro o h
   ·obtain rfl:=sj h
    (conv=>whnf);refine⟨_,_,⟨rfl,rfl⟩,wk [0,1,2,3,8,9] []⟩
   conv=>whnf
   exact⟨(E,I),h,wk [0,1,2,3,4,7,8,9] []⟩
  conv=>whnf
  exact⟨(u,y),h,wk [0,1,2,3,4,7,5,6] []⟩
 obtain rfl:=sj h;conv=>whnf
 refine⟨_,_,⟨rfl,rfl⟩,wk [0,1,2,3,5,6] []⟩
abbrev qzu (_:List SS) (_:List (SS×Int)) (r:Int×(List SS)×(List (SS×Int))):FV:=.p (.int .i64 r.1)
abbrev qzr (_:List SS) (_:List (SS×Int)) (r:Int×(List SS)×(List (SS×Int))):List AObj:=[.box 120 [.tsl 2 (qak r.2.1),.mref 1],.mp .string (qbd PV.str (PV.int .i64) r.2.2) none,.tail 9 1 (qak r.2.1).length]
def qew (n:Nat) (b:List qa9) (l:Bool) (m:List SS) (o:List (SS×Int)):LK (Int×List SS×List (SS×Int)) (Int×(List SS)×(List (SS×Int))):=fun i (a,f,g)=>
 bif(decide (a<((qa9.rows b).length:Int)))then(
 bnd (idx b a) fun⟨j,k⟩=>
 bnd (qje n (qa9.mk j k) l f g m o) fun⟨c,d,e⟩=>
 bif(c != 0)then(
 some (c,d,e))
 else(
 i ((kwr .i64 (a+1)),d,e)))
 else(
 some ((0:Int),f,g))
def qe9 (n:Nat) (c:List qa9) (d:Bool) (a:List SS) (b:List (SS×Int)):Option (Int×(List SS)×(List (SS×Int))):=
 bnd (qja n a b) fun⟨e,f⟩=>
 qam (qew n c d e f) n ((0:Int),a,b)
theorem qmg (n:Nat):∀ (c:List qa9) (e:Bool) (a:List SS) (d:List (SS×Int)) (r:Int×(List SS)×(List (SS×Int))),qe9 n c e a d=some r->qbq TP 86 [.ptr 0 0,.p (PV.sl (qa9.rows c)),.p (PV.bool e)] [.box 120 [.tsl 2 (qak a),.mref 1],.mp .string (qbd PV.str (PV.int .i64) d) none,.tail 9 1 (qak a).length] 2 (fun v lo=>v=qzu a d r/\lo=qzr a d r):=by
 intro c e a d r h;unfold qe9 at h;refine zO Tryz.call86 Tryz.func86 [140,141,1000000] ?_;conv=>whnf
 refine bq h fun⟨b,f⟩ m h=>?_;refine qcq (qzf n _ _ _ m) [0,1,2] [] ?_;rintro _ _ ⟨rfl,rfl⟩;refine⟨.ptr 4 0,[.box 120 [.tsl 3 (qak a),.mref 1],.mp .string (qbd PV.str (PV.int .i64) d) none,.dead,.tail 9 1 (qak a).length,.box 120 [.tsl 6 (qak b),.mref 5],.mp .string (qbd PV.str (PV.int .i64) f) none,.tail 9 1 (qak b).length],rfl,rfl,?_⟩;conv=>whnf
 refine qbh.fn [140,141,1000000] (S:=Int×List SS×List (SS×Int)) (fun(g,i,k)=>[(0,.ptr 0 0),(2,pB e),(7,.ptr 2 0),(13,pP c),(14,.p (.int .i64 ((qa9.rows c).length:Int))),(15,pI g)]) (fun(g,i,k)=>[.box 120 [.tsl 3 (qak i),.mref 1],.mp .string (qbd PV.str (PV.int .i64) k) none,.box 120 [.tsl 4 (qak b),.mref 5],.tail 9 1 (qak i).length,.tail 9 1 (qak b).length,.mp .string (qbd PV.str (PV.int .i64) f) none]) (B:=qew n c e b f) h (wk [0,1,4,3,6,5] []) ?_;intro _ st h;obtain⟨g,i,k⟩:=st;unfold qew at h;conv=>whnf
 apply ifc h<;>intro s h
 ·conv=>whnf
  refine bq h fun⟨t,u⟩ q h=>?_;refine⟨_,Codec.at_ qlh q,?_⟩;conv=>whnf
  refine bq h fun⟨w,j,l⟩ o h=>?_;refine qcq (qzk n _ _ _ _ _ _ _ o) [0,2,1,5,3,4] [] ?_;rintro _ _ ⟨rfl,rfl⟩;refine⟨pI w,[.box 120 [.tsl 7 (qak j),.mref 1],.mp .string (qbd PV.str (PV.int .i64) l) none,.box 120 [.tsl 8 (qak b),.mref 5],.dead,.dead,.mp .string (qbd PV.str (PV.int .i64) f) none,.box 59 [pN t,pG u],.tail 9 1 (qak j).length,.tail 9 1 (qak b).length],rfl,rfl,?_⟩;conv=>whnf
  apply ifc h<;>intro s h
  ·obtain rfl:=sj h
   conv=>whnf
   refine⟨_,_,⟨rfl,rfl⟩,wk [0,1,7] []⟩
  conv=>whnf
  exact⟨((kwr .i64 (g+1)),j,l),h,wk [0,1,2,7,8,5] []⟩
 obtain rfl:=sj h;conv=>whnf
 refine⟨_,_,⟨rfl,rfl⟩,wk [0,1,3] []⟩
abbrev q1k (_:List SS) (_:List (SS×Int)) (r:Int):FV:=pI r
abbrev q1c (a:List SS) (b:List (SS×Int)) (r:Int):List AObj:=[.box 120 [.tsl 2 (qak a),.mref 1],.mp .string (qbd PV.str (PV.int .i64) b) none,.tail 9 1 (qak a).length]
def qgr (n:Nat) (a:Int->Option (Int)) (b:Int):Unit->Option (Int):=fun _=>
 a (kwr .i64 (b+1))
def qfg (n:Nat) (e:List qaf) (a:List (SS×Int)) (s:List SS):LK (Int) (Int):=fun d b=>
 bif(decide (b<((qaf.rows e).length:Int)))then(
 bnd (idx e b) fun⟨c,_,t,⟨g,u,⟨i,j,k,l,m,o⟩,p,q⟩⟩=>
 bif((qec a c (0:Int))==0)then(
 some (2:Int))
 else(
 bif(bif((qec a c (0:Int))==3)then true else(bif((qec a c (0:Int))==2)then(!(t==([]:SS)))else false))then(
 some (3:Int))
 else(
 bif(g != 0)then(
 bnd (qbj n [qaa.mk g u (Val.mk i j k l m o) p q] (3:Int) s a) fun f=>
 bif(f != 0)then(
 some f)
 else(
 qgr n d b ()))
 else(
 qgr n d b ()))))
 else(
 some (0:Int))
def qjg (n:Nat) (a:List qaf) (b:List SS) (c:List (SS×Int)):Option (Int):=
 qam (qfg n a c b) n (0:Int)
theorem qzl (n:Nat):∀ (c:List qaf) (a:List SS) (b:List (SS×Int)) (r:Int),qjg n c a b=some r->qbq TP 89 [.ptr 0 0,.p (PV.sl (qaf.rows c))] [.box 120 [.tsl 2 (qak a),.mref 1],.mp .string (qbd PV.str (PV.int .i64) b) none,.tail 9 1 (qak a).length] 2 (fun v lo=>v=q1k a b r/\lo=q1c a b r):=by
 intro c a b r h;unfold qjg at h;refine zO Tryz.call89 Tryz.func89 [87,1000000] ?_;conv=>whnf
 refine qbh.fn [87,1000000] (S:=Int) (fun d=>[(0,.ptr 0 0),(9,pU c),(10,.p (.int .i64 ((qaf.rows c).length:Int))),(11,pI d)]) (fun d=>[.box 120 [.tsl 2 (qak a),.mref 1],.mp .string (qbd PV.str (PV.int .i64) b) none,.tail 9 1 (qak a).length]) (B:=qfg n c b a) h (wk [0,1,2] []) ?_;intro x d h;unfold qfg at h;conv=>whnf
 apply ifc h<;>intro f h
 ·conv=>whnf
  refine qhd.cut (S:=Unit) (fun _=>[(0,.ptr 0 0),(9,pU c),(10,.p (.int .i64 ((qaf.rows c).length:Int))),(11,pI d)]) (fun _=>[.box 120 [.tsl 2 (qak a),.mref 1],.mp .string (qbd PV.str (PV.int .i64) b) none,.tail 9 1 (qak a).length]) (qgr n x d) (r:=r) ?_ ?_
  ·intro _ h
   unfold qgr at h;conv=>whnf
   exact⟨(kwr .i64 (d+1)),h,wk [0,1,2] []⟩
  conv=>whnf
  refine bq h fun⟨e,z,A,⟨s,t,⟨g,i,j,k,l,m⟩,o,q⟩⟩ w h=>?_;refine⟨_,Codec.at_ qjo w,?_⟩;conv=>whnf
  refine⟨PV.int .i64 (qec b e (0:Int)),(q75 b e),⟨qvi qer (PV.int .i64) b e (0:Int),qvj qer (PV.int .i64) b e⟩,?_⟩;conv=>whnf
  apply ifc h<;>intro f h
  ·obtain rfl:=sj h
   conv=>whnf
   refine⟨_,_,⟨rfl,rfl⟩,wk [0,1,2] []⟩
  conv=>whnf
  iterate 7 refine⟨id,?_⟩
  conv=>whnf
  apply ifc h<;>intro f h
  ·obtain rfl:=sj h
   conv=>whnf
   refine⟨_,_,⟨rfl,rfl⟩,wk [0,1,2] []⟩
  conv=>whnf
  apply ifc h<;>intro f h
  ·conv=>whnf
   refine⟨Codec.one qck [qaa.mk s t (Val.mk g i j k l m) o q],qaa.rows [qaa.mk s t (Val.mk g i j k l m) o q],.inl rfl,?_⟩;conv=>whnf
   refine bq h fun y u h=>?_;refine qcq (qd8 n _ _ _ _ _ u) [0,1,2] [] ?_;rintro _ _ ⟨rfl,rfl⟩;refine⟨pI y,[.box 120 [.tsl 4 (qak a),.mref 1],.mp .string (qbd PV.str (PV.int .i64) b) none,.dead,.box 74 [pS e,pS z,pS A,pI s,pS t,pI g,pB i,pI j,pS k,pV l,pT m,pT o,pE q],.tail 9 1 (qak a).length],rfl,rfl,?_⟩;conv=>whnf
   apply ifc h<;>intro f h
   ·obtain rfl:=sj h
    (conv=>whnf);refine⟨_,_,⟨rfl,rfl⟩,wk [0,1,4] []⟩
   conv=>whnf
   exact⟨(),h,wk [0,1,4] []⟩
  conv=>whnf
  exact⟨(),h,wk [0,1,2] []⟩
 obtain rfl:=sj h;conv=>whnf
 refine⟨_,_,⟨rfl,rfl⟩,wk [0,1,2] []⟩
abbrev q1f (_:List SS) (_:List (SS×Int)) (r:Int):FV:=pI r
abbrev q07 (a:List SS) (b:List (SS×Int)) (r:Int):List AObj:=[.box 120 [.tsl 2 (qak a),.mref 1],.mp .string (qbd PV.str (PV.int .i64) b) none,.tail 9 1 (qak a).length]
def qfe (n:Nat) (b:List SS) (c:List (SS×Int)):LK (Int) (Int):=fun e a=>
 bif(decide (a<((qak b).length:Int)))then(
 bnd (idx b a) fun d=>
 bif((qec c d (0:Int))==0)then(
 some (2:Int))
 else(
 bif((qec c d (0:Int))==3)then(
 some (3:Int))
 else(
 e (kwr .i64 (a+1)))))
 else(
 some (0:Int))
def qjb (n:Nat) (a _:List SS) (b:List (SS×Int)):Option (Int):=
 qam (qfe n a b) n (0:Int)
theorem qzg (n:Nat):∀ (c b:List SS) (a:List (SS×Int)) (r:Int),qjb n c b a=some r->qbq TP 90 [.ptr 0 0,.p (PV.sl (qak c))] [.box 120 [.tsl 2 (qak b),.mref 1],.mp .string (qbd PV.str (PV.int .i64) a) none,.tail 9 1 (qak b).length] 2 (fun v lo=>v=q1f b a r/\lo=q07 b a r):=by
 intro c b a r h;unfold qjb at h;refine zO Tryz.call90 Tryz.func90 [1000000] ?_;conv=>whnf
 refine qbh.fn [1000000] (S:=Int) (fun d=>[(0,.ptr 0 0),(7,pT c),(8,.p (.int .i64 ((qak c).length:Int))),(9,pI d)]) (fun d=>[.box 120 [.tsl 2 (qak b),.mref 1],.mp .string (qbd PV.str (PV.int .i64) a) none,.tail 9 1 (qak b).length]) (B:=qfe n c a) h (wk [0,1,2] []) ?_;intro _ d h;unfold qfe at h;conv=>whnf
 apply ifc h<;>intro f h
 ·conv=>whnf
  refine bq h fun e g h=>?_;refine⟨_,Codec.at_ qpr g,?_⟩;conv=>whnf
  refine⟨PV.int .i64 (qec a e (0:Int)),(q75 a e),⟨qvi qer (PV.int .i64) a e (0:Int),qvj qer (PV.int .i64) a e⟩,?_⟩;conv=>whnf
  apply ifc h<;>intro f h
  ·obtain rfl:=sj h
   conv=>whnf
   refine⟨_,_,⟨rfl,rfl⟩,wk [0,1,2] []⟩
  conv=>whnf
  apply ifc h<;>intro f h
  ·obtain rfl:=sj h
   conv=>whnf
   refine⟨_,_,⟨rfl,rfl⟩,wk [0,1,2] []⟩
  conv=>whnf
  exact⟨(kwr .i64 (d+1)),h,wk [0,1,2] []⟩
 obtain rfl:=sj h;conv=>whnf
 refine⟨_,_,⟨rfl,rfl⟩,wk [0,1,2] []⟩
abbrev q1h (_:List SS) (_:List (SS×Int)) (r:Int×Int):FV:=.p (.tup [.int .i64 r.1,.int .i64 r.2])
abbrev q09 (a:List SS) (b:List (SS×Int)) (r:Int×Int):List AObj:=[.box 120 [.tsl 2 (qak a),.mref 1],.mp .string (qbd PV.str (PV.int .i64) b) none,.tail 9 1 (qak a).length]
def qgq (n:Nat) (b:List qaa) (c:List SS) (d:List (SS×Int)):Int->Option (Int×Int):=fun e=>
 bnd (qbj n b e c d) fun a=>
 bif(a != 0)then(
 some ((0:Int),a))
 else(
 some ((3:Int),(0:Int)))
def qjd (n:Nat) (f:qaa) (b:List SS) (c:List (SS×Int)):Option (Int×Int):=
 match f with
 | ⟨d,e,⟨j,k,l,m,o,p⟩,q,a⟩=>
 bif(d != 14)then(
 bnd (qc2 n (qaa.mk d e (Val.mk j k l m o p) q a) b c) fun⟨g,i⟩=>
 some (g,i))
 else(
 bif(e==([99,111,117,110,116]:SS))then(
 qgq n a b c (0:Int))
 else(
 qgq n a b c (3:Int)))
theorem qzj (n:Nat):∀ (c:qaa) (a:List SS) (b:List (SS×Int)) (r:Int×Int),qjd n c a b=some r->qbq TP 143 [.ptr 0 0,.p (PV.agg (qck.cells c))] [.box 120 [.tsl 2 (qak a),.mref 1],.mp .string (qbd PV.str (PV.int .i64) b) none,.tail 9 1 (qak a).length] 2 (fun v lo=>v=q1h a b r/\lo=q09 a b r):=by
 intro c a b r h;obtain⟨e,g,⟨i,j,k,l,m,o⟩,q,d⟩:=c;unfold qjd at h;refine zO Tryz.call143 Tryz.func143 [87,142,1000000] ?_;conv=>whnf
 apply ifc h<;>intro s h
 ·conv=>whnf
  refine bq h fun⟨w,x⟩ t h=>?_;refine qcq (qzi n _ _ _ _ t) [0,1,2] [] ?_;rintro _ _ ⟨rfl,rfl⟩;refine⟨.p (.tup [.int .i64 w,.int .i64 x]),[.box 120 [.tsl 4 (qak a),.mref 1],.mp .string (qbd PV.str (PV.int .i64) b) none,.dead,.box 46 [pI e,pS g,pI i,pB j,pI k,pS l,pV m,pT o,pT q,pE d],.tail 9 1 (qak a).length],rfl,rfl,?_⟩;obtain rfl:=sj h;conv=>whnf
  refine⟨_,_,⟨rfl,rfl⟩,wk [0,1,4] []⟩
 conv=>whnf
 refine qhd.cut (S:=Int) (fun f=>[(0,.ptr 0 0),(3,.ptr 2 0),(6,pI f)]) (fun f=>[.box 120 [.tsl 3 (qak a),.mref 1],.mp .string (qbd PV.str (PV.int .i64) b) none,.box 46 [pI e,pS g,pI i,pB j,pI k,pS l,pV m,pT o,pT q,pE d],.tail 9 1 (qak a).length]) (qgq n d a b) (r:=r) ?_ ?_
 ·intro f h
  unfold qgq at h;conv=>whnf
  refine bq h fun y u h=>?_;refine qcq (qd8 n _ _ _ _ _ u) [0,1,3] [] ?_;rintro _ _ ⟨rfl,rfl⟩;refine⟨pI y,[.box 120 [.tsl 4 (qak a),.mref 1],.mp .string (qbd PV.str (PV.int .i64) b) none,.box 46 [pI e,pS g,pI i,pB j,pI k,pS l,pV m,pT o,pT q,pE d],.dead,.tail 9 1 (qak a).length],rfl,rfl,?_⟩;conv=>whnf
  apply ifc h<;>intro s h
  ·obtain rfl:=sj h
   conv=>whnf
   refine⟨_,_,⟨rfl,rfl⟩,wk [0,1,4] []⟩
  obtain rfl:=sj h;conv=>whnf
  refine⟨_,_,⟨rfl,rfl⟩,wk [0,1,4] []⟩
 conv=>whnf
 apply ifc h<;>intro s h
 ·conv=>whnf
  exact⟨(0:Int),h,wk [0,1,3,2] []⟩
 conv=>whnf
 exact⟨(3:Int),h,wk [0,1,3,2] []⟩
inductive qa4 where
 | o0 (a0:Int)
 | o1 (a0:Int) (a1:List SS) (a2:List (SS×Int))
abbrev q1j (_:List SS) (_:List (SS×Int)) (r:qa4):FV:=match r with
 | .o0 a0=>.p (.tup [.nilp,.int .i64 a0])
 | .o1 a0 a1 a2=>.pair (.ptr 3 0) (pI a0)
abbrev q1b (a:List SS) (b:List (SS×Int)) (r:qa4):List AObj:=match r with
 | .o0 a0=>[.box 120 [.tsl 2 (qak a),.mref 1],.mp .string (qbd PV.str (PV.int .i64) b) none,.tail 9 1 (qak a).length]
 | .o1 a0 a1 a2=>[.box 120 [.tsl 2 (qak a),.mref 1],.mp .string (qbd PV.str (PV.int .i64) b) none,.tail 9 1 (qak a).length,.box 120 [.tsl 5 (qak a1),.mref 4],.mp .string (qbd PV.str (PV.int .i64) a2) none,.tail 9 1 (qak a1).length]
def qd1 (n:Nat) (b c j:List qaa) (d:List SS) (e:List (SS×Int)):LK (Int×List SS) (qa4):=fun i (a,f)=>
 bif(decide (a<(((zdj qck [b,c]).length:Nat):Int)))then(
 bnd (idx [b,c] a) fun k=>
 bnd (qbj n k (3:Int) f ([]:List (SS×Int))) fun g=>
 bif(g != 0)then(
 some (qa4.o0 g))
 else(
 i ((kwr .i64 (a+1)),f)))
 else(
 bnd (qbj n j (3:Int) d e) fun l=>
 some (qa4.o1 l d e))
def qde (n:Nat) (b:List qat) (c:List SS) (d:List (SS×Int)) (g i j:List qaa):LK (Int) (qa4):=fun f a=>
 bif(decide (a<((qat.rows b).length:Int)))then(
 bnd (idx b a) fun⟨⟨k,l,⟨m,o,p,q,s,t⟩,u,v⟩,_⟩=>
 bnd (qbj n [qaa.mk k l (Val.mk m o p q s t) u v] (3:Int) c d) fun e=>
 bif(e != 0)then(
 some (qa4.o0 e))
 else(
 f (kwr .i64 (a+1))))
 else(
 qam (qd1 n g i j c d) n ((0:Int),([]:List _)))
def qeh (n:Nat) (c:List qbn) (o:List SS) (p:List (SS×Int)) (j:Int) (k:List qat) (l m t:List qaa):LK (Int×List SS×List (SS×Int)) (qa4):=fun i (a,d,b)=>
 bif(decide (a<((qbn.rows c).length:Int)))then(
 bnd (idx c a) fun⟨⟨q,s,⟨u,v,w,x,y,z⟩,A,B⟩,e⟩=>
 bnd (qjd n (qaa.mk q s (Val.mk u v w x y z) A B) o p) fun⟨f,g⟩=>
 bif(g != 0)then(
 some (qa4.o0 g))
 else(
 bif(bif(j==9)then(f != 3)else false)then(
 some (qa4.o0 (3:Int)))
 else(
 bif((qec b e (0:Int)) != 0)then(
 some (qa4.o0 (2:Int)))
 else(
 bnd (qdb n e f d b) fun⟨C,D⟩=>
 i ((kwr .i64 (a+1)),C,D)))))
 else(
 qam (qde n k d b l m t) n (0:Int))
def qjf (n:Nat) (a:qab) (g:List SS) (i:List (SS×Int)):Option (qa4):=
 match a with
 | ⟨b,_,j,⟨_,_,⟨_,_,_,_,_,_⟩,_,_⟩,_,c,_,d,e,f,_,_,_⟩=>
 qam (qeh n c g i b d e f j) n ((0:Int),([]:List _),([]:List (SS×Int)))
set_option maxHeartbeats 4000000 in
theorem qsi (n:Nat):∀ (J:qab) (a:List SS) (f:List (SS×Int)) (r:qa4),qjf n J a f=some r->qbq TP 91 [.ptr 0 0,.p (PV.agg (qcz.cells J))] [.box 120 [.tsl 2 (qak a),.mref 1],.mp .string (qbd PV.str (PV.int .i64) f) none,.tail 9 1 (qak a).length] 2 (fun v lo=>v=q1j a f r/\lo=q1b a f r):=by
 intro J a f r h;obtain⟨k,w,j,⟨A,C,⟨D,E,F,G,m,o⟩,q,s⟩,t,i,u,g,c,d,x,y,z⟩:=J;unfold qjf at h;refine zO Tryz.call91 Tryz.func91 [87,88,143,1000000] ?_;conv=>whnf
 refine qbh.fn [87,88,143,1000000] (S:=Int×List SS×List (SS×Int)) (fun(K,b,e)=>[(0,.ptr 0 0),(3,.ptr 2 0),(6,.ptr 3 0),(22,pA i),(23,.p (.int .i64 ((qbn.rows i).length:Int))),(24,pI K)]) (fun(K,b,e)=>[.box 120 [.tsl 4 (qak a),.mref 1],.mp .string (qbd PV.str (PV.int .i64) f) none,.box 51 [pI k,pP w,pE j,pI A,pS C,pI D,pB E,pI F,pS G,pV m,pT o,pT q,pE s,pS t,pA i,pB u,pO g,pE c,pE d,pU x,pT y,pB z],.box 120 [.tsl 6 (qak b),.mref 5],.tail 9 1 (qak a).length,.mp .string (qbd PV.str (PV.int .i64) e) none,.tail 9 1 (qak b).length]) (B:=qeh n i a f k g c d j) h (wk [0,1,3,5,2,4,0] [6]) ?_;intro _ st h;obtain⟨K,b,e⟩:=st;unfold qeh at h;conv=>whnf
 apply ifc h<;>intro H h
 ·conv=>whnf
  refine bq h fun⟨⟨Z,a0,⟨a1,a2,a3,a4,a5,a6⟩,a7,a8⟩,I⟩ b2 h=>?_;refine⟨_,Codec.at_ qst b2,?_⟩;conv=>whnf
  refine bq h fun⟨b8,b9⟩ b0 h=>?_;refine qcq (qzj n _ _ _ _ b0) [0,1,4] [] ?_;rintro _ _ ⟨rfl,rfl⟩;refine⟨.p (.tup [.int .i64 b8,.int .i64 b9]),[.box 120 [.tsl 8 (qak a),.mref 1],.mp .string (qbd PV.str (PV.int .i64) f) none,.box 51 [pI k,pP w,pE j,pI A,pS C,pI D,pB E,pI F,pS G,pV m,pT o,pT q,pE s,pS t,pA i,pB u,pO g,pE c,pE d,pU x,pT y,pB z],.box 120 [.tsl 6 (qak b),.mref 5],.dead,.mp .string (qbd PV.str (PV.int .i64) e) none,.tail 9 1 (qak b).length,.box 70 [pI Z,pS a0,pI a1,pB a2,pI a3,pS a4,pV a5,pT a6,pT a7,pE a8,pS I],.tail 9 1 (qak a).length],rfl,rfl,?_⟩;conv=>whnf
  apply ifc h<;>intro H h
  ·obtain rfl:=sj h
   conv=>whnf
   refine⟨_,_,⟨rfl,rfl⟩,wk [0,1,8] []⟩
  conv=>whnf
  refine⟨id,id,?_⟩;conv=>whnf
  apply ifc h<;>intro H h
  ·obtain rfl:=sj h
   conv=>whnf
   refine⟨_,_,⟨rfl,rfl⟩,wk [0,1,8] []⟩
  conv=>whnf
  refine⟨PV.int .i64 (qec e I (0:Int)),(q75 e I),⟨qvi qer (PV.int .i64) e I (0:Int),qvj qer (PV.int .i64) e I⟩,?_⟩;conv=>whnf
  apply ifc h<;>intro H h
  ·obtain rfl:=sj h
   conv=>whnf
   refine⟨_,_,⟨rfl,rfl⟩,wk [0,1,8] []⟩
  conv=>whnf
  refine bq h fun⟨N,a9⟩ b1 h=>?_;refine qcq (qgn n _ _ _ _ _ b1) [3,5,6] [] ?_;rintro _ _ ⟨rfl,rfl⟩;refine⟨.p (.tup []),[.box 120 [.tsl 8 (qak a),.mref 1],.mp .string (qbd PV.str (PV.int .i64) f) none,.box 51 [pI k,pP w,pE j,pI A,pS C,pI D,pB E,pI F,pS G,pV m,pT o,pT q,pE s,pS t,pA i,pB u,pO g,pE c,pE d,pU x,pT y,pB z],.box 120 [.tsl 9 (qak N),.mref 5],.dead,.mp .string (qbd PV.str (PV.int .i64) a9) none,.dead,.box 70 [pI Z,pS a0,pI a1,pB a2,pI a3,pS a4,pV a5,pT a6,pT a7,pE a8,pS I],.tail 9 1 (qak a).length,.tail 9 1 (qak N).length],rfl,rfl,?_⟩;conv=>whnf
  exact⟨((kwr .i64 (K+1)),N,a9),h,wk [0,1,2,3,8,5,9] []⟩
 conv=>whnf
 refine qbh.fn [87,88,143,1000000] (S:=Int) (fun L=>[(3,.ptr 2 0),(6,.ptr 3 0),(63,pO g),(64,.p (.int .i64 ((qat.rows g).length:Int))),(65,pI L)]) (fun L=>[.box 120 [.tsl 4 (qak a),.mref 1],.mp .string (qbd PV.str (PV.int .i64) f) none,.box 51 [pI k,pP w,pE j,pI A,pS C,pI D,pB E,pI F,pS G,pV m,pT o,pT q,pE s,pS t,pA i,pB u,pO g,pE c,pE d,pU x,pT y,pB z],.box 120 [.tsl 5 (qak b),.mref 6],.tail 9 1 (qak a).length,.tail 9 1 (qak b).length,.mp .string (qbd PV.str (PV.int .i64) e) none]) (B:=qde n g b e c d j) h (wk [0,1,2,3,4,6,5] []) ?_;intro _ L h;unfold qde at h;conv=>whnf
 apply ifc h<;>intro H h
 ·conv=>whnf
  refine bq h fun⟨⟨O,P,⟨Q,R,T,U,V,W⟩,X,Y⟩,c0⟩ b4 h=>?_;refine⟨_,Codec.at_ qqf b4,?_⟩;conv=>whnf
  refine⟨Codec.one qck [qaa.mk O P (Val.mk Q R T U V W) X Y],qaa.rows [qaa.mk O P (Val.mk Q R T U V W) X Y],.inl rfl,?_⟩;conv=>whnf
  refine bq h fun c1 b3 h=>?_;refine qcq (qd8 n _ _ _ _ _ b3) [3,6,5] [] ?_;rintro _ _ ⟨rfl,rfl⟩;refine⟨pI c1,[.box 120 [.tsl 4 (qak a),.mref 1],.mp .string (qbd PV.str (PV.int .i64) f) none,.box 51 [pI k,pP w,pE j,pI A,pS C,pI D,pB E,pI F,pS G,pV m,pT o,pT q,pE s,pS t,pA i,pB u,pO g,pE c,pE d,pU x,pT y,pB z],.box 120 [.tsl 8 (qak b),.mref 6],.tail 9 1 (qak a).length,.dead,.mp .string (qbd PV.str (PV.int .i64) e) none,.box 72 [pI O,pS P,pI Q,pB R,pI T,pS U,pV V,pT W,pT X,pE Y,pB c0],.tail 9 1 (qak b).length],rfl,rfl,?_⟩;conv=>whnf
  apply ifc h<;>intro H h
  ·obtain rfl:=sj h
   conv=>whnf
   refine⟨_,_,⟨rfl,rfl⟩,wk [0,1,4] []⟩
  conv=>whnf
  exact⟨(kwr .i64 (L+1)),h,wk [0,1,2,3,4,8,6] []⟩
 conv=>whnf
 refine⟨Codec.one (slC qck) [c,d],zdj qck [c,d],.inl rfl,?_⟩;conv=>whnf
 refine qbh.fn [87,88,143,1000000] (S:=Int×List SS) (fun(M,l)=>[(3,.ptr 2 0),(6,.ptr 3 0),(14,.ptr 4 0),(85,.p (.sl (zdj qck [c,d]))),(86,.p (.int .i64 (((zdj qck [c,d]).length:Nat):Int))),(87,pI M)]) (fun(M,l)=>[.box 120 [.tsl 5 (qak a),.mref 1],.mp .string (qbd PV.str (PV.int .i64) f) none,.box 51 [pI k,pP w,pE j,pI A,pS C,pI D,pB E,pI F,pS G,pV m,pT o,pT q,pE s,pS t,pA i,pB u,pO g,pE c,pE d,pU x,pT y,pB z],.box 120 [.tsl 6 (qak b),.mref 7],.box 120 [.tsl 9 (qak l),.mref 8],.tail 9 1 (qak a).length,.tail 9 1 (qak b).length,.mp .string (qbd PV.str (PV.int .i64) e) none,.mp .string (qbd PV.str (PV.int .i64) ([]:List (SS×Int))) none,.tail 9 1 (qak l).length]) (B:=qd1 n c d j b e) h (wk [0,1,2,3,8,4,5,6,7,0] [9]) ?_;intro _ st h;obtain⟨M,l⟩:=st;unfold qd1 at h;conv=>whnf
 apply ifc h<;>intro H h
 ·conv=>whnf
  refine bq h fun _ b6 h=>?_;refine⟨_,Codec.at_ (slC qck) b6,?_⟩;conv=>whnf
  refine bq h fun c2 b5 h=>?_;refine qcq (qd8 n _ _ _ _ _ b5) [4,8,9] [] ?_;rintro _ _ ⟨rfl,rfl⟩;refine⟨pI c2,[.box 120 [.tsl 5 (qak a),.mref 1],.mp .string (qbd PV.str (PV.int .i64) f) none,.box 51 [pI k,pP w,pE j,pI A,pS C,pI D,pB E,pI F,pS G,pV m,pT o,pT q,pE s,pS t,pA i,pB u,pO g,pE c,pE d,pU x,pT y,pB z],.box 120 [.tsl 6 (qak b),.mref 7],.box 120 [.tsl 10 (qak l),.mref 8],.tail 9 1 (qak a).length,.tail 9 1 (qak b).length,.mp .string (qbd PV.str (PV.int .i64) e) none,.mp .string (qbd PV.str (PV.int .i64) ([]:List (SS×Int))) none,.dead,.tail 9 1 (qak l).length],rfl,rfl,?_⟩;conv=>whnf
  apply ifc h<;>intro H h
  ·obtain rfl:=sj h
   conv=>whnf
   refine⟨_,_,⟨rfl,rfl⟩,wk [0,1,5] []⟩
  conv=>whnf
  exact⟨((kwr .i64 (M+1)),l),h,wk [0,1,2,3,4,5,6,7,8,10] []⟩
 conv=>whnf
 refine bq h fun c3 b7 h=>?_;refine qcq (qd8 n _ _ _ _ _ b7) [3,7,6] [] ?_;rintro _ _ ⟨rfl,rfl⟩;refine⟨pI c3,[.box 120 [.tsl 5 (qak a),.mref 1],.mp .string (qbd PV.str (PV.int .i64) f) none,.box 51 [pI k,pP w,pE j,pI A,pS C,pI D,pB E,pI F,pS G,pV m,pT o,pT q,pE s,pS t,pA i,pB u,pO g,pE c,pE d,pU x,pT y,pB z],.box 120 [.tsl 10 (qak b),.mref 7],.box 120 [.tsl 9 (qak l),.mref 8],.tail 9 1 (qak a).length,.dead,.mp .string (qbd PV.str (PV.int .i64) e) none,.mp .string (qbd PV.str (PV.int .i64) ([]:List (SS×Int))) none,.tail 9 1 (qak l).length,.tail 9 1 (qak b).length],rfl,rfl,?_⟩;obtain rfl:=sj h;conv=>whnf
 refine⟨_,_,⟨rfl,rfl⟩,wk [0,1,5,3,7,10] []⟩
inductive qaz where
 | o0 (a0:Int) (a1:List SS) (a2:List (SS×Int))
 | o1 (a0:Int) (a1:List SS) (a2:List (SS×Int))
 | o2 (a0:Int) (a1:List SS) (a2:List (SS×Int)) (a3:List SS) (a4:List (SS×Int))
abbrev qyt (_:List SS) (_:List (SS×Int)) (r:qaz):FV:=match r with
 | .o0 a0 a1 a2=>.p (.tup [.nilp,.int .i64 a0])
 | .o1 a0 a1 a2=>.pair (.ptr 0 0) (pI a0)
 | .o2 a0 a1 a2 a3 a4=>.pair (.ptr 3 0) (pI a0)
abbrev qyr (_:List SS) (_:List (SS×Int)) (r:qaz):List AObj:=match r with
 | .o0 a0 a1 a2=>[.box 120 [.tsl 2 (qak a1),.mref 1],.mp .string (qbd PV.str (PV.int .i64) a2) none,.tail 9 1 (qak a1).length]
 | .o1 a0 a1 a2=>[.box 120 [.tsl 2 (qak a1),.mref 1],.mp .string (qbd PV.str (PV.int .i64) a2) none,.tail 9 1 (qak a1).length]
 | .o2 a0 a1 a2 a3 a4=>[.box 120 [.tsl 2 (qak a1),.mref 1],.mp .string (qbd PV.str (PV.int .i64) a2) none,.tail 9 1 (qak a1).length,.box 120 [.tsl 5 (qak a3),.mref 4],.mp .string (qbd PV.str (PV.int .i64) a4) none,.tail 9 1 (qak a3).length]
def qfq (n:Nat) (d:List qaf) (a:List SS) (b:List (SS×Int)) (c:Int) (e:List SS) (s:List qa9) (u:List qaa) (v:Int) (C:SS) (F:Int) (G:Bool) (H:Int) (I:SS) (f:List Val) (g i:List SS) (j:List qaa) (k:SS) (l:List qbn) (m:Bool) (o:List qat) (p q:List qaa) (t:Bool):Bool->Option (qaz):=fun w=>
 bif w then(
 bnd (qjg n d a b) fun x=>
 some (qaz.o1 x a b))
 else(
 bif(c==8)then(
 bnd (qjb n e a b) fun y=>
 some (qaz.o1 y a b))
 else(
 bnd (qjf n (qab.mk c s u (qaa.mk v C (Val.mk F G H I f g) i j) k l m o p q d e t) a b) fun z=>
 match z with
 | .o0 A=>(
 some (qaz.o0 A a b))
 | .o1 B D E=>(
 some (qaz.o2 B a b D E))))
def qhg (n:Nat) (F:qab) (b:List SS) (a:List (SS×Int)):Option (qaz):=
 match F with
 | ⟨c,d,m,⟨o,p,⟨q,s,t,u,f,g⟩,i,j⟩,e,v,w,x,y,z,A,B,C⟩=>
 bif(c==1)then(
 bnd (qe9 n d false b a) fun⟨D,k,l⟩=>
 bif(D != 0)then(
 some (qaz.o0 D k l))
 else(
 bnd (qbj n m (3:Int) k l) fun G=>
 some (qaz.o1 G k l)))
 else(
 bif(c==2)then(
 bnd (qbj n [qaa.mk o p (Val.mk q s t u f g) i j] (3:Int) b a) fun E=>
 bif(E != 0)then(
 some (qaz.o0 E b a))
 else(
 bif((qec a e (0:Int)) != 0)then(
 some (qaz.o0 (2:Int) b a))
 else(
 bnd (qdb n e (3:Int) b a) fun⟨H,I⟩=>
 some (qaz.o1 (0:Int) H I))))
 else(
 bif(c==4)then(
 bnd (qe9 n d true b a) fun⟨J,K,L⟩=>
 some (qaz.o1 J K L))
 else(
 bif(c==5)then(
 bnd (idx d (0:Int)) fun⟨M,_⟩=>
 bnd (idx M (0:Int)) fun⟨N,_,_,_⟩=>
 bif((qec a N (0:Int)) != 0)then(
 some (qaz.o0 (2:Int) b a))
 else(
 bnd (qe9 n d true b a) fun⟨O,P,Q⟩=>
 some (qaz.o1 O P Q)))
 else(
 bif(c==6)then(
 qfq n A b a c B d m o p q s t u f g i j e v w x y z C (c==6))
 else(
 qfq n A b a c B d m o p q s t u f g i j e v w x y z C (c==7))))))
set_option maxHeartbeats 4000000 in
theorem qlb (n:Nat):∀ (E:qab) (b:List SS) (a:List (SS×Int)) (r:qaz),qhg n E b a=some r->qbq TP 49 [.ptr 0 0,.p (PV.agg (qcz.cells E))] [.box 120 [.tsl 2 (qak b),.mref 1],.mp .string (qbd PV.str (PV.int .i64) a) none,.tail 9 1 (qak b).length] 2 (fun v lo=>v=qyt b a r/\lo=qyr b a r):=by
 intro E b a r h;obtain⟨d,y,C,⟨j,k,⟨l,m,o,q,e,f⟩,g,i⟩,c,s,t,u,w,x,z,A,B⟩:=E;unfold qhg at h;refine zO Tryz.call49 Tryz.func49 [86,87,88,89,90,91,1000000] ?_;conv=>whnf
 apply ifc h<;>intro D h
 ·conv=>whnf
  refine bq h fun⟨Z,F,J⟩ O h=>?_;refine qcq (qmg n _ _ _ _ _ O) [0,1,2] [] ?_;rintro _ _ ⟨rfl,rfl⟩;refine⟨pI Z,[.box 120 [.tsl 4 (qak F),.mref 1],.mp .string (qbd PV.str (PV.int .i64) J) none,.dead,.box 51 [pI d,pP y,pE C,pI j,pS k,pI l,pB m,pI o,pS q,pV e,pT f,pT g,pE i,pS c,pA s,pB t,pO u,pE w,pE x,pU z,pT A,pB B],.tail 9 1 (qak F).length],rfl,rfl,?_⟩;conv=>whnf
  apply ifc h<;>intro D h
  ·obtain rfl:=sj h
   conv=>whnf
   refine⟨_,_,⟨rfl,rfl⟩,wk [0,1,4] []⟩
  conv=>whnf
  refine bq h fun a0 Q h=>?_;refine qcq (qd8 n _ _ _ _ _ Q) [0,1,4] [] ?_;rintro _ _ ⟨rfl,rfl⟩;refine⟨pI a0,[.box 120 [.tsl 5 (qak F),.mref 1],.mp .string (qbd PV.str (PV.int .i64) J) none,.dead,.box 51 [pI d,pP y,pE C,pI j,pS k,pI l,pB m,pI o,pS q,pV e,pT f,pT g,pE i,pS c,pA s,pB t,pO u,pE w,pE x,pU z,pT A,pB B],.dead,.tail 9 1 (qak F).length],rfl,rfl,?_⟩;obtain rfl:=sj h;conv=>whnf
  refine⟨_,_,⟨rfl,rfl⟩,wk [0,1,5] []⟩
 conv=>whnf
 apply ifc h<;>intro D h
 ·conv=>whnf
  refine⟨Codec.one qck [qaa.mk j k (Val.mk l m o q e f) g i],qaa.rows [qaa.mk j k (Val.mk l m o q e f) g i],.inl rfl,?_⟩;conv=>whnf
  refine bq h fun a1 R h=>?_;refine qcq (qd8 n _ _ _ _ _ R) [0,1,2] [] ?_;rintro _ _ ⟨rfl,rfl⟩;refine⟨pI a1,[.box 120 [.tsl 4 (qak b),.mref 1],.mp .string (qbd PV.str (PV.int .i64) a) none,.dead,.box 51 [pI d,pP y,pE C,pI j,pS k,pI l,pB m,pI o,pS q,pV e,pT f,pT g,pE i,pS c,pA s,pB t,pO u,pE w,pE x,pU z,pT A,pB B],.tail 9 1 (qak b).length],rfl,rfl,?_⟩;conv=>whnf
  apply ifc h<;>intro D h
  ·obtain rfl:=sj h
   conv=>whnf
   refine⟨_,_,⟨rfl,rfl⟩,wk [0,1,4] []⟩
  conv=>whnf
  refine⟨PV.int .i64 (qec a c (0:Int)),(q75 a c),⟨qvi qer (PV.int .i64) a c (0:Int),qvj qer (PV.int .i64) a c⟩,?_⟩;conv=>whnf
  apply ifc h<;>intro D h
  ·obtain rfl:=sj h
   conv=>whnf
   refine⟨_,_,⟨rfl,rfl⟩,wk [0,1,4] []⟩
  conv=>whnf
  refine bq h fun⟨K,a2⟩ T h=>?_;refine qcq (qgn n _ _ _ _ _ T) [0,1,4] [] ?_;rintro _ _ ⟨rfl,rfl⟩;refine⟨.p (.tup []),[.box 120 [.tsl 5 (qak K),.mref 1],.mp .string (qbd PV.str (PV.int .i64) a2) none,.dead,.box 51 [pI d,pP y,pE C,pI j,pS k,pI l,pB m,pI o,pS q,pV e,pT f,pT g,pE i,pS c,pA s,pB t,pO u,pE w,pE x,pU z,pT A,pB B],.dead,.tail 9 1 (qak K).length],rfl,rfl,?_⟩;obtain rfl:=sj h;conv=>whnf
  refine⟨_,_,⟨rfl,rfl⟩,wk [0,1,5] []⟩
 conv=>whnf
 apply ifc h<;>intro D h
 ·conv=>whnf
  refine bq h fun⟨a3,L,a4⟩ U h=>?_;refine qcq (qmg n _ _ _ _ _ U) [0,1,2] [] ?_;rintro _ _ ⟨rfl,rfl⟩;refine⟨pI a3,[.box 120 [.tsl 4 (qak L),.mref 1],.mp .string (qbd PV.str (PV.int .i64) a4) none,.dead,.box 51 [pI d,pP y,pE C,pI j,pS k,pI l,pB m,pI o,pS q,pV e,pT f,pT g,pE i,pS c,pA s,pB t,pO u,pE w,pE x,pU z,pT A,pB B],.tail 9 1 (qak L).length],rfl,rfl,?_⟩;obtain rfl:=sj h;conv=>whnf
  refine⟨_,_,⟨rfl,rfl⟩,wk [0,1,4] []⟩
 conv=>whnf
 apply ifc h<;>intro D h
 ·conv=>whnf
  refine bq h fun⟨_,_⟩ X h=>?_;refine⟨_,Codec.at_ qlh X,?_⟩;conv=>whnf
  refine bq h fun⟨G,_,_,_⟩ W h=>?_;refine⟨_,Codec.at_ qd2 W,?_⟩;conv=>whnf
  refine⟨PV.int .i64 (qec a G (0:Int)),(q75 a G),⟨qvi qer (PV.int .i64) a G (0:Int),qvj qer (PV.int .i64) a G⟩,?_⟩;conv=>whnf
  apply ifc h<;>intro D h
  ·obtain rfl:=sj h
   conv=>whnf
   refine⟨_,_,⟨rfl,rfl⟩,wk [0,1,2] []⟩
  conv=>whnf
  refine bq h fun⟨a5,M,a6⟩ V h=>?_;refine qcq (qmg n _ _ _ _ _ V) [0,1,2] [] ?_;rintro _ _ ⟨rfl,rfl⟩;refine⟨pI a5,[.box 120 [.tsl 4 (qak M),.mref 1],.mp .string (qbd PV.str (PV.int .i64) a6) none,.dead,.box 51 [pI d,pP y,pE C,pI j,pS k,pI l,pB m,pI o,pS q,pV e,pT f,pT g,pE i,pS c,pA s,pB t,pO u,pE w,pE x,pU z,pT A,pB B],.tail 9 1 (qak M).length],rfl,rfl,?_⟩;obtain rfl:=sj h;conv=>whnf
  refine⟨_,_,⟨rfl,rfl⟩,wk [0,1,4] []⟩
 conv=>whnf
 refine qhd.cut (S:=Bool) (fun H=>[(0,.ptr 0 0),(3,.ptr 2 0),(10,pI d),(77,pB H)]) (fun H=>[.box 120 [.tsl 3 (qak b),.mref 1],.mp .string (qbd PV.str (PV.int .i64) a) none,.box 51 [pI d,pP y,pE C,pI j,pS k,pI l,pB m,pI o,pS q,pV e,pT f,pT g,pE i,pS c,pA s,pB t,pO u,pE w,pE x,pU z,pT A,pB B],.tail 9 1 (qak b).length]) (qfq n z b a d A y C j k l m o q e f g i c s t u w x B) (r:=r) ?_ ?_
 ·intro H h
  unfold qfq at h;conv=>whnf
  apply ifc h<;>intro D h
  ·conv=>whnf
   refine bq h fun a7 Y h=>?_;refine qcq (qzl n _ _ _ _ Y) [0,1,3] [] ?_;rintro _ _ ⟨rfl,rfl⟩;refine⟨pI a7,[.box 120 [.tsl 4 (qak b),.mref 1],.mp .string (qbd PV.str (PV.int .i64) a) none,.box 51 [pI d,pP y,pE C,pI j,pS k,pI l,pB m,pI o,pS q,pV e,pT f,pT g,pE i,pS c,pA s,pB t,pO u,pE w,pE x,pU z,pT A,pB B],.dead,.tail 9 1 (qak b).length],rfl,rfl,?_⟩;obtain rfl:=sj h;conv=>whnf
   refine⟨_,_,⟨rfl,rfl⟩,wk [0,1,4] []⟩
  conv=>whnf
  apply ifc h<;>intro D h
  ·conv=>whnf
   refine bq h fun a8 P h=>?_;refine qcq (qzg n _ _ _ _ P) [0,1,3] [] ?_;rintro _ _ ⟨rfl,rfl⟩;refine⟨pI a8,[.box 120 [.tsl 4 (qak b),.mref 1],.mp .string (qbd PV.str (PV.int .i64) a) none,.box 51 [pI d,pP y,pE C,pI j,pS k,pI l,pB m,pI o,pS q,pV e,pT f,pT g,pE i,pS c,pA s,pB t,pO u,pE w,pE x,pU z,pT A,pB B],.dead,.tail 9 1 (qak b).length],rfl,rfl,?_⟩;obtain rfl:=sj h;conv=>whnf
   refine⟨_,_,⟨rfl,rfl⟩,wk [0,1,4] []⟩
  conv=>whnf
  refine bq h fun a9 I h=>?_;rcases a9 with ⟨b0⟩|⟨b1,N,b2⟩
  ·refine qcq (qsi n _ _ _ _ I) [0,1,3] [] ?_
   rintro _ _ ⟨rfl,rfl⟩;refine⟨.p (.tup [.nilp,.int .i64 b0]),[.box 120 [.tsl 4 (qak b),.mref 1],.mp .string (qbd PV.str (PV.int .i64) a) none,.box 51 [pI d,pP y,pE C,pI j,pS k,pI l,pB m,pI o,pS q,pV e,pT f,pT g,pE i,pS c,pA s,pB t,pO u,pE w,pE x,pU z,pT A,pB B],.dead,.tail 9 1 (qak b).length],rfl,rfl,?_⟩;obtain rfl:=sj h;conv=>whnf
   refine⟨_,_,⟨rfl,rfl⟩,wk [0,1,4] []⟩
  refine qcq (qsi n _ _ _ _ I) [0,1,3] [] ?_;rintro _ _ ⟨rfl,rfl⟩;refine⟨.pair (.ptr 5 0) (pI b1),[.box 120 [.tsl 4 (qak b),.mref 1],.mp .string (qbd PV.str (PV.int .i64) a) none,.box 51 [pI d,pP y,pE C,pI j,pS k,pI l,pB m,pI o,pS q,pV e,pT f,pT g,pE i,pS c,pA s,pB t,pO u,pE w,pE x,pU z,pT A,pB B],.dead,.tail 9 1 (qak b).length,.box 120 [.tsl 7 (qak N),.mref 6],.mp .string (qbd PV.str (PV.int .i64) b2) none,.tail 9 1 (qak N).length],rfl,rfl,?_⟩;obtain rfl:=sj h;conv=>whnf
  refine⟨_,_,⟨rfl,rfl⟩,wk [0,1,4,5,6,7] []⟩
 conv=>whnf
 apply ifc h<;>intro D h
 ·conv=>whnf
  exact⟨(d==6),h,wk [0,1,3,2] []⟩
 conv=>whnf
 exact⟨(d==7),h,wk [0,1,3,2] []⟩
abbrev q9j (r:List SS×List Int×Int):PV:=PV.tup [PV.sl (qak r.1),PV.sl (qcs .i64 r.2.1),PV.int .i64 r.2.2]
def qit (n:Nat) (c:List SS) (e:List (SS×Int)):LK (List Int×Int) (List SS×List Int×Int):=fun f (a,b)=>
 bif(decide (b<((qak c).length:Int)))then(
 bnd (idx c b) fun d=>
 chk (decide ((qcs .i64 (a++[(qec e d (0:Int))])).length * 8<=140737488355328)) (
 f ((a++[(qec e d (0:Int))]),(kwr .i64 (b+1)))))
 else(
 some (c,a,(0:Int)))
def qg6 (n:Nat) (c:List qab) (g:Nat):LK (Int×List SS×List (SS×Int)) (List SS×List Int×Int):=fun b (a,i,j)=>
 bif(decide (a<(((qab.rows (c.take g)).length:Nat):Int)))then(
 bnd (idx (c.take g) a) fun⟨L,M,k,⟨l,m,⟨o,p,q,s,t,u⟩,v,w⟩,x,y,z,A,B,C,D,E,F⟩=>
 bnd (qhg n (qab.mk L M k (qaa.mk l m (Val.mk o p q s t u) v w) x y z A B C D E F) i j) fun G=>
 match G with
 | .o0 d _ _=>(
 bif(d != 0)then(
 some (([]:List SS),([]:List Int),d))
 else(
 none))
 | .o1 e H I=>(
 bif(e != 0)then(
 some (([]:List SS),([]:List Int),e))
 else(
 b ((kwr .i64 (a+1)),H,I)))
 | .o2 f _ _ J K=>(
 bif(f != 0)then(
 some (([]:List SS),([]:List Int),f))
 else(
 b ((kwr .i64 (a+1)),J,K))))
 else(
 qam (qit n i j) n (([]:List _),(0:Int)))
def qi8 (n:Nat) (d:qip) (b:Int):Option (List SS×List Int×Int):=
 match d with
 | ⟨a⟩=>
 bnd (qn5 n (qip.mk a)) fun e=>
 bif(bif(bif(!e)then true else(decide (b<0)))then true else(decide (b>((qab.rows a).length:Int))))then(
 some (([]:List SS),([]:List Int),(20:Int)))
 else(
 bnd (qwb b) fun c=>
 chk (decide (c<=(qab.rows a).length)) (
 qam (qg6 n a c) n ((0:Int),([]:List _),([]:List (SS×Int)))))
theorem qyg (n:Nat):∀ (j:qip) (z:Int) (r:List SS×List Int×Int),qi8 n j z=some r->qai TP 25 [PV.agg (qy0.cells j),PV.int .i64 z] (q9j r):=by
 intro j z r h;obtain⟨e⟩:=j;unfold qi8 at h;refine zN Tryz.call25 Tryz.func25 [49,1000000] ?_;conv=>whnf
 refine bq h fun _ Z h=>?_;refine⟨_,(q64 n _ _ Z),?_⟩;conv=>whnf
 iterate 7 refine⟨id,?_⟩
 conv=>whnf
 apply ifc h<;>intro g h
 ·obtain rfl:=sj h
  conv=>whnf
  try exact fin
 conv=>whnf
 refine bq h fun f Y h=>?_;refine⟨_,qct Y,?_⟩;conv=>whnf
 obtain⟨X,h⟩:=qah h;refine⟨⟨Nat.zero_le _,(kod X:(f<=(qab.rows e).length)),Codec.wide qcz e⟩,?_⟩;rw[show List.drop 0 (List.take f (qab.rows e))=qab.rows (e.take f)from Codec.take qcz e f];conv=>whnf
 refine qbh.fn [49,1000000] (S:=Int×List SS×List (SS×Int)) (fun(i,d,a)=>[(7,.ptr 0 0),(35,.p (.sl (qab.rows (e.take f)))),(36,.p (.int .i64 (((qab.rows (e.take f)).length:Nat):Int))),(37,pI i)]) (fun(i,d,a)=>[.box 120 [.tsl 2 (qak d),.mref 1],.mp .string (qbd PV.str (PV.int .i64) a) none,.tail 9 1 (qak d).length]) (B:=qg6 n e f) h (wk [2,1,0] [2]) ?_;intro _ st h;obtain⟨i,d,a⟩:=st;unfold qg6 at h;conv=>whnf
 apply ifc h<;>intro g h
 ·conv=>whnf
  refine bq h fun⟨N,O,m,⟨o,q,⟨s,t,u,v,w,x⟩,y,A⟩,C,D,E,F,G,H,I,J,K⟩ V h=>?_;refine⟨_,Codec.at_ qcz V,?_⟩;conv=>whnf
  refine bq h fun a0 l h=>?_;rcases a0 with ⟨a1,Q,a2⟩|⟨a3,L,R⟩|⟨a4,T,a5,M,U⟩
  ·refine qcq (qlb n _ _ _ _ l) [0,1,2] [] ?_
   rintro _ _ ⟨rfl,rfl⟩;refine⟨.p (.tup [.nilp,.int .i64 a1]),[.box 120 [.tsl 4 (qak Q),.mref 1],.mp .string (qbd PV.str (PV.int .i64) a2) none,.dead,.box 51 [pI N,pP O,pE m,pI o,pS q,pI s,pB t,pI u,pS v,pV w,pT x,pT y,pE A,pS C,pA D,pB E,pO F,pE G,pE H,pU I,pT J,pB K],.tail 9 1 (qak Q).length],rfl,rfl,?_⟩;conv=>whnf
   apply ifc h<;>intro g h
   ·obtain rfl:=sj h
    conv=>whnf
    try exact fin
   cases h
  ·refine qcq (qlb n _ _ _ _ l) [0,1,2] [] ?_
   rintro _ _ ⟨rfl,rfl⟩;refine⟨.pair (.ptr 0 0) (pI a3),[.box 120 [.tsl 4 (qak L),.mref 1],.mp .string (qbd PV.str (PV.int .i64) R) none,.dead,.box 51 [pI N,pP O,pE m,pI o,pS q,pI s,pB t,pI u,pS v,pV w,pT x,pT y,pE A,pS C,pA D,pB E,pO F,pE G,pE H,pU I,pT J,pB K],.tail 9 1 (qak L).length],rfl,rfl,?_⟩;conv=>whnf
   apply ifc h<;>intro g h
   ·obtain rfl:=sj h
    conv=>whnf
    try exact fin
   conv=>whnf
   exact⟨((kwr .i64 (i+1)),L,R),h,wk [0,1,4] []⟩
  refine qcq (qlb n _ _ _ _ l) [0,1,2] [] ?_;rintro _ _ ⟨rfl,rfl⟩;refine⟨.pair (.ptr 5 0) (pI a4),[.box 120 [.tsl 4 (qak T),.mref 1],.mp .string (qbd PV.str (PV.int .i64) a5) none,.dead,.box 51 [pI N,pP O,pE m,pI o,pS q,pI s,pB t,pI u,pS v,pV w,pT x,pT y,pE A,pS C,pA D,pB E,pO F,pE G,pE H,pU I,pT J,pB K],.tail 9 1 (qak T).length,.box 120 [.tsl 7 (qak M),.mref 6],.mp .string (qbd PV.str (PV.int .i64) U) none,.tail 9 1 (qak M).length],rfl,rfl,?_⟩;conv=>whnf
  apply ifc h<;>intro g h
  ·obtain rfl:=sj h
   conv=>whnf
   try exact fin
  conv=>whnf
  exact⟨((kwr .i64 (i+1)),M,U),h,wk [5,6,7] []⟩
 conv=>whnf
 refine qbh.fn [49,1000000] (S:=List Int×Int) (fun(c,k)=>[(7,.ptr 0 0),(12,.tsl 3 (qcs .i64 c)),(55,.tsl 1 (qak d)),(56,.p (.int .i64 ((qak d).length:Int))),(57,pI k)]) (fun(c,k)=>[.box 120 [.tsl 1 (qak d),.mref 2],.tail 9 1 (qak d).length,.mp .string (qbd PV.str (PV.int .i64) a) none,.tail 3 1 (qcs .i64 c).length]) (B:=qit n d a) h (wk [0,2,1,0] [3]) ?_;intro _ st h;obtain⟨c,k⟩:=st;unfold qit at h;conv=>whnf
 apply ifc h<;>intro g h
 ·conv=>whnf
  refine bq h fun b W h=>?_;refine⟨_,Codec.at_ qpr W,?_⟩;conv=>whnf
  refine⟨PV.int .i64 (qec a b (0:Int)),(q75 a b),⟨qvi qer (PV.int .i64) a b (0:Int),qvj qer (PV.int .i64) a b⟩,?_⟩;conv=>whnf
  refine⟨Codec.one (zt2 .i64) [(qec a b (0:Int))],qcs .i64 [(qec a b (0:Int))],.inl rfl,?_⟩;conv=>whnf
  rw[show qcs .i64 c++qcs .i64 [(qec a b (0:Int))]=qcs .i64 (c++[(qec a b (0:Int))])from Codec.append (zt2 .i64) c [(qec a b (0:Int))]];conv=>whnf
  obtain⟨P,h⟩:=qah h;refine⟨⟨Codec.wide (zt2 .i64) (c++[(qec a b (0:Int))]),kod P,qb5 P (by decide)⟩,?_⟩;conv=>whnf
  refine⟨⟨rfl,rfl,rfl⟩,?_⟩;conv=>whnf
  exact⟨((c++[(qec a b (0:Int))]),(kwr .i64 (k+1))),h,wk [0,1,2,4] []⟩
 obtain rfl:=sj h;conv=>whnf
 try exact fin
abbrev q9i (r:List SS×Int):PV:=PV.tup [PV.sl (qak r.1),PV.int .i64 r.2]
def qqy (n:Nat) (c:qip):Option (List SS×Int):=
 match c with
 | ⟨a⟩=>
 bnd (qi8 n (qip.mk a) ((qab.rows a).length:Int)) fun⟨d,_,b⟩=>
 bnd (qaw (!(b != 0)) (idx a (kwr .i64 (((qab.rows a).length:Int) - 1)))) fun⟨e,_,_,⟨_,_,⟨_,_,_,_,_,_⟩,_,_⟩,_,_,_,_,_,_,_,_,_⟩=>
 bif(bif(b != 0)then true else(e != 9))then(
 some (([]:List SS),b))
 else(
 some (d,(0:Int)))
theorem q6z (n:Nat):∀ (a:qip) (r:List SS×Int),qqy n a=some r->qai TP 24 [PV.agg (qy0.cells a)] (q9i r):=by
 intro a r h;obtain⟨_⟩:=a;unfold qqy at h;refine zN Tryz.call24 Tryz.func24 [1000000] ?_;conv=>whnf
 refine bq h fun⟨_,_,_⟩ c h=>?_;refine⟨_,(qyg n _ _ _ c),?_⟩;conv=>whnf
 iterate 6 refine⟨id,?_⟩
 conv=>whnf
 refine bq h fun⟨_,_,_,⟨_,_,⟨_,_,_,_,_,_⟩,_,_⟩,_,_,_,_,_,_,_,_,_⟩ b h=>?_;refine⟨_,fun d=>Codec.at_ qcz (qac b d),?_⟩;conv=>whnf
 refine⟨id,id,id,id,?_⟩;conv=>whnf
 apply ifc h<;>intro _ h
 ·obtain rfl:=sj h
  conv=>whnf
  try exact fin
 obtain rfl:=sj h;conv=>whnf
 try exact fin
abbrev q5g (r:Bool):PV:=PV.bool r
def qqx (n:Nat) (a:qbn):Option (Bool):=
 match a with
 | ⟨⟨b,_,⟨_,_,_,_,_,_⟩,_,_⟩,_⟩=>
 some (b==14)
theorem q3k (n:Nat):∀ (a:qbn) (r:Bool),qqx n a=some r->qai TP 51 [PV.agg (qst.cells a)] (q5g r):=by
 intro a r h;obtain⟨⟨_,_,⟨_,_,_,_,_,_⟩,_,_⟩,_⟩:=a;unfold qqx at h;refine zN Tryz.call51 Tryz.func51 [1000000] ?_;obtain rfl:=sj h;conv=>whnf
 try exact fin
abbrev qhk (r:Int):PV:=PV.int .i64 r
def qax (n:Nat) (b:List qbn):LK (Int) (Int):=fun c a=>
 bif(decide (a<((qbn.rows b).length:Int)))then(
 bnd (idx b a) fun⟨⟨j,k,⟨l,m,o,p,q,d⟩,e,f⟩,g⟩=>
 bnd (qqx n (qbn.mk (qaa.mk j k (Val.mk l m o p q d) e f) g)) fun i=>
 bif i then(
 some a)
 else(
 c (kwr .i64 (a+1))))
 else(
 some (-1:Int))
def qb9 (n:Nat) (a:List qbn):Option (Int):=
 qam (qax n a) n (0:Int)
theorem qhh (n:Nat):∀ (a:List qbn) (r:Int),qb9 n a=some r->qai TP 92 [PV.sl (qbn.rows a),PV.fn 51] (qhk r):=by
 intro a r h;unfold qb9 at h;refine zN Tryz.call92 Tryz.func92 [1000000] ?_;conv=>whnf
 refine qbh.fn [1000000] (S:=Int) (fun b=>[(0,pA a),(1,.p (.fn 51)),(7,.p (.int .i64 ((qbn.rows a).length:Int))),(8,pI b)]) (fun b=>[]) (B:=qax n a) h (wk [] []) ?_;intro _ b h;unfold qax at h;conv=>whnf
 apply ifc h<;>intro e h
 ·conv=>whnf
  refine bq h fun⟨⟨_,_,⟨_,_,_,_,_,_⟩,_,_⟩,_⟩ d h=>?_;refine⟨_,Codec.at_ qst d,?_⟩;conv=>whnf
  refine bq h fun _ c h=>?_;refine⟨_,(q3k n _ _ c),?_⟩;conv=>whnf
  apply ifc h<;>intro e h
  ·obtain rfl:=sj h
   conv=>whnf
   try exact fin
  conv=>whnf
  exact⟨(kwr .i64 (b+1)),h,wk [] []⟩
 obtain rfl:=sj h;conv=>whnf
 try exact fin
abbrev qgw (r:Bool):PV:=PV.bool r
def qbc (n:Nat) (a:List qbn):Option (Bool):=
 bnd (qb9 n a) fun b=>
 some (decide (b≥0))
theorem qgs (n:Nat):∀ (a:List qbn) (r:Bool),qbc n a=some r->qai TP 50 [PV.sl (qbn.rows a),PV.fn 51] (qgw r):=by
 intro a r h;unfold qbc at h;refine zN Tryz.call50 Tryz.func50 [1000000] ?_;conv=>whnf
 refine bq h fun _ b h=>?_;refine⟨_,(qhh n _ _ b),?_⟩;obtain rfl:=sj h;conv=>whnf
 try exact fin
abbrev zcb (r:Int):PV:=PV.int .i64 r
def qm5 (n:Nat):Unit->Option (Int):=fun _=>
 some (0:Int)
def qlo (n:Nat):Bool->Option (Int):=fun a=>
 bif a then(
 qm5 n ())
 else(
 some (2:Int))
def qm6 (n:Nat) (b:List qbn) (c:Bool) (d:List qat) (e f:List qaa) (a:Int):Bool->Option (Int):=fun g=>
 bif g then(
 bnd (qbc n b) fun i=>
 bif(bif(bif i then true else c)then true else(decide ((kwr .i64 ((kwr .i64 (((qat.rows d).length:Int)+((qaa.rows e).length:Int)))+((qaa.rows f).length:Int)))>0)))then(
 some (1:Int))
 else(
 qm5 n ()))
 else(
 bif(a==1)then(
 qlo n (a==1))
 else(
 qlo n (a==2)))
def qsg (n:Nat) (g:qab):Option (Int):=
 match g with
 | ⟨a,_,_,⟨_,_,⟨_,_,_,_,_,_⟩,_,_⟩,_,b,c,d,e,f,_,_,_⟩=>
 bif(a==3)then(
 qm6 n b c d e f a (a==3))
 else(
 qm6 n b c d e f a (a==9))
theorem q8y (n:Nat):∀ (b:qab) (r:Int),qsg n b=some r->qai TP 26 [PV.agg (qcz.cells b)] (zcb r):=by
 intro b r h;obtain⟨a,t,x,⟨y,z,⟨A,B,C,D,m,o⟩,p,q⟩,s,f,g,i,j,k,u,v,w⟩:=b;unfold qsg at h;refine zN Tryz.call26 Tryz.func26 [1000000] ?_;conv=>whnf
 refine qhd.go ?_;conv=>whnf
 refine qhd.cut (S:=Unit) (fun _=>[]) (fun _=>[]) (qm5 n) (r:=r) ?_ ?_
 ·intro _ h
  unfold qm5 at h;obtain rfl:=sj h;conv=>whnf
  try exact fin
 conv=>whnf
 refine qhd.cut (S:=Bool) (fun d=>[(1,.ptr 0 0),(5,pI a),(6,pB d)]) (fun d=>[.box 51 [pI a,pP t,pE x,pI y,pS z,pI A,pB B,pI C,pS D,pV m,pT o,pT p,pE q,pS s,pA f,pB g,pO i,pE j,pE k,pU u,pT v,pB w]]) (qm6 n f g i j k a) (r:=r) ?_ ?_
 ·intro d h
  unfold qm6 at h;conv=>whnf
  apply ifc h<;>intro c h
  ·conv=>whnf
   refine bq h fun _ l h=>?_;refine⟨_,(qgs n _ _ l),?_⟩;conv=>whnf
   iterate 14 refine⟨id,?_⟩
   conv=>whnf
   apply ifc h<;>intro c h
   ·obtain rfl:=sj h
    conv=>whnf
    try exact fin
   conv=>whnf
   exact⟨(),h,wk [] []⟩
  conv=>whnf
  refine qhd.cut (S:=Bool) (fun e=>[(9,pB e)]) (fun e=>[]) (qlo n) (r:=r) ?_ ?_
  ·intro e h
   unfold qlo at h;conv=>whnf
   apply ifc h<;>intro c h
   ·conv=>whnf
    exact⟨(),h,wk [] []⟩
   obtain rfl:=sj h;conv=>whnf
   try exact fin
  conv=>whnf
  apply ifc h<;>intro c h
  ·conv=>whnf
   exact⟨(a==1),h,wk [] []⟩
  conv=>whnf
  exact⟨(a==2),h,wk [] []⟩
 conv=>whnf
 apply ifc h<;>intro c h
 ·conv=>whnf
  exact⟨(a==3),h,wk [0] []⟩
 conv=>whnf
 exact⟨(a==9),h,wk [0] []⟩
abbrev qsn (r:Int):PV:=PV.int .i64 r
def qcl (n:Nat) (b:List SS) (d:SS):LK (Int) (Int):=fun c a=>
 bif(decide (a<((qak b).length:Int)))then(
 bnd (idx b a) fun e=>
 bif(d==e)then(
 some a)
 else(
 c (kwr .i64 (a+1))))
 else(
 some (-1:Int))
def qfh (n:Nat) (a:List SS) (b:SS):Option (Int):=
 qam (qcl n a b) n (0:Int)
theorem qrq (n:Nat):∀ (a:List SS) (b:SS) (r:Int),qfh n a b=some r->qai TP 93 [PV.sl (qak a),PV.str b] (qsn r):=by
 intro a b r h;unfold qfh at h;refine zN Tryz.call93 Tryz.func93 [1000000] ?_;conv=>whnf
 refine qbh.fn [1000000] (S:=Int) (fun c=>[(0,pT a),(1,pS b),(7,.p (.int .i64 ((qak a).length:Int))),(8,pI c)]) (fun c=>[]) (B:=qcl n a b) h (wk [] []) ?_;intro _ c h;unfold qcl at h;conv=>whnf
 apply ifc h<;>intro e h
 ·conv=>whnf
  refine bq h fun _ d h=>?_;refine⟨_,Codec.at_ qpr d,?_⟩;conv=>whnf
  apply ifc h<;>intro e h
  ·obtain rfl:=sj h
   conv=>whnf
   try exact fin
  conv=>whnf
  exact⟨(kwr .i64 (c+1)),h,wk [] []⟩
 obtain rfl:=sj h;conv=>whnf
 try exact fin
abbrev qq4 (r:Bool):PV:=PV.bool r
def qdq (n:Nat) (a:List SS) (b:SS):Option (Bool):=
 bnd (qfh n a b) fun c=>
 some (decide (c≥0))
theorem qqg (n:Nat):∀ (a:List SS) (b:SS) (r:Bool),qdq n a b=some r->qai TP 53 [PV.sl (qak a),PV.str b] (qq4 r):=by
 intro a b r h;unfold qdq at h;refine zN Tryz.call53 Tryz.func53 [1000000] ?_;conv=>whnf
 refine bq h fun _ c h=>?_;refine⟨_,(qrq n _ _ _ c),?_⟩;obtain rfl:=sj h;conv=>whnf
 try exact fin
abbrev zcc (r:List qdj):PV:=PV.sl (qdj.rows r)
def qku (n:Nat) (c:List qae) (e:List qdj×List SS×Int->Option (List qdj)) (i:List qdj) (g:Int):LK (List SS×Int) (List qdj):=fun f (a,b)=>
 bif(decide (b<((qae.rows c).length:Int)))then(
 bnd (idx c b) fun⟨d,_,_,_⟩=>
 chk (decide ((qak (a++[d])).length * 16<=140737488355328)) (
 f ((a++[d]),(kwr .i64 (b+1)))))
 else(
 e (i,a,(kwr .i64 (g+1))))
def qkt (n:Nat) (d:List qae) (a:List qdj×List SS×Int->Option (List qdj)) (c:Int) (b:List SS):List qdj->Option (List qdj):=fun e=>
 qam (qku n d a e c) n (b,(0:Int))
def qeg (n:Nat) (j:List qa9) (k:Int):LK (List qdj×List SS×Int) (List qdj):=fun i (b,c,a)=>
 bif(decide (a<((qa9.rows j).length:Int)))then(
 bnd (idx j a) fun⟨d,_⟩=>
 bnd (idx d (0:Int)) fun⟨e,f,g,_⟩=>
 bnd (qaw ((bif(decide (((qak f).length:Int)>0))then(decide (((qak g).length:Int)>0))else false)&&(!(e==([]:SS)))) (qdq n c e)) fun o=>
 bif(bif(bif(decide (((qak f).length:Int)>0))then(decide (((qak g).length:Int)>0))else false)then(!(bif(!(e==([]:SS)))then o else false))else false)then(
 bnd (idx f (0:Int)) fun l=>
 bnd (idx g (0:Int)) fun m=>
 chk (decide ((qdj.rows (b++[qdj.mk k a l m])).length * 48<=140737488355328)) (
 qkt n d i a c (b++[qdj.mk k a l m])))
 else(
 qkt n d i a c b))
 else(
 some b)
def qm7 (n:Nat) (b:qab) (e:Int) (a:List SS):Option (List qdj):=
 match b with
 | ⟨c,d,_,⟨_,_,⟨_,_,_,_,_,_⟩,_,_⟩,_,_,_,_,_,_,_,_,_⟩=>
 bif(c != 1)then(
 some ([]:List qdj))
 else(
 chk (decide ((qak a).length * 16<=140737488355328)) (
 qam (qeg n d e) n (([]:List _),a,(0:Int))))
theorem q80 (n:Nat):∀ (o:qab) (b:Int) (l:List SS) (r:List qdj),qm7 n o b l=some r->qai TP 27 [PV.agg (qcz.cells o),PV.int .i64 b,PV.sl (qak l)] (zcc r):=by
 intro o b l r h;obtain⟨F,e,V,⟨W,X,⟨Y,Z,a0,a1,G,H⟩,I,J⟩,K,L,M,N,O,P,Q,R,T⟩:=o;unfold qm7 at h;refine zN Tryz.call27 Tryz.func27 [52,40000010,1000000] ?_;conv=>whnf
 apply ifc h<;>intro s h
 ·obtain rfl:=sj h
  conv=>whnf
  try exact fin
 conv=>whnf
 obtain⟨D,h⟩:=qah h;refine qcq (zry l (kod D)) [] [] ?_;rintro _ _ ⟨rfl,rfl⟩;refine⟨.tsl 1 (qak l),[.box 51 [pI F,pP e,pE V,pI W,pS X,pI Y,pB Z,pI a0,pS a1,pV G,pT H,pT I,pE J,pS K,pA L,pB M,pO N,pE O,pE P,pU Q,pT R,pB T],.tail 9 1 (qak l).length],rfl,rfl,?_⟩;conv=>whnf
 refine qbh.fn [52,40000010,1000000] (S:=List qdj×List SS×Int) (fun(c,g,a)=>[(1,pI b),(7,.tsl 1 (qdj.rows c)),(8,.tsl 0 (qak g)),(20,pP e),(21,.p (.int .i64 ((qa9.rows e).length:Int))),(22,pI a)]) (fun(c,g,a)=>[.tail 9 1 (qak g).length,.tail 53 4 (qdj.rows c).length]) (B:=qeg n e b) h (wk [1,0] [1]) ?_;intro v st h;obtain⟨c,g,a⟩:=st;unfold qeg at h;conv=>whnf
 apply ifc h<;>intro s h
 ·conv=>whnf
  refine bq h fun⟨m,U⟩ C h=>?_;refine⟨_,Codec.at_ qlh C,?_⟩;conv=>whnf
  refine bq h fun⟨_,_,_,_⟩ A h=>?_;refine⟨_,Codec.at_ qd2 A,?_⟩;conv=>whnf
  refine qhd.cut (S:=List qdj) (fun f=>[(1,pI b),(7,.tsl 0 (qdj.rows f)),(8,.tsl 1 (qak g)),(10,.ptr 2 0),(20,pP e),(21,.p (.int .i64 ((qa9.rows e).length:Int))),(22,pI a)]) (fun f=>[.tail 53 4 (qdj.rows f).length,.tail 9 1 (qak g).length,.box 59 [pN m,pG U]]) (qkt n m v a g) (r:=r) ?_ ?_
  ·intro f h
   unfold qkt at h;conv=>whnf
   refine qbh.fn [52,40000010,1000000] (S:=List SS×Int) (fun(d,q)=>[(1,pI b),(7,.tsl 0 (qdj.rows f)),(8,.tsl 1 (qak d)),(20,pP e),(21,.p (.int .i64 ((qa9.rows e).length:Int))),(22,pI a),(68,pN m),(69,.p (.int .i64 ((qae.rows m).length:Int))),(70,pI q)]) (fun(d,q)=>[.tail 53 4 (qdj.rows f).length,.tail 9 1 (qak d).length]) (B:=qku n m v f a) h (wk [0,1] []) ?_;intro _ st h;obtain⟨d,q⟩:=st;unfold qku at h;conv=>whnf
   apply ifc h<;>intro s h
   ·conv=>whnf
    refine bq h fun⟨i,_,_,_⟩ w h=>?_;refine⟨_,Codec.at_ qd2 w,?_⟩;(conv=>whnf);refine⟨Codec.one qpr [i],qak [i],.inl rfl,?_⟩;(conv=>whnf);rw[show qak d++qak [i]=qak (d++[i])from Codec.append qpr d [i]];(conv=>whnf);obtain⟨t,h⟩:=qah h;refine⟨⟨Codec.wide qpr (d++[i]),kod t,qb5 t (by decide)⟩,?_⟩;(conv=>whnf);refine⟨⟨rfl,rfl,rfl⟩,?_⟩;(conv=>whnf);exact⟨((d++[i]),(kwr .i64 (q+1))),h,wk [0,3] []⟩
   conv=>whnf
   exact⟨(f,d,(kwr .i64 (a+1))),h,wk [1,0] []⟩
  conv=>whnf
  refine⟨id,?_⟩;conv=>whnf
  iterate 9 refine⟨id,?_⟩
  conv=>whnf
  refine bq h fun _ z h=>?_;refine⟨_,fun E=>(qqg n _ _ _ (qac z E)),?_⟩;conv=>whnf
  refine⟨id,id,id,id,?_⟩;conv=>whnf
  apply ifc h<;>intro s h
  ·conv=>whnf
   refine bq h fun j y h=>?_;refine⟨_,Codec.at_ qpr y,?_⟩;conv=>whnf
   refine bq h fun k x h=>?_;refine⟨_,Codec.at_ qpr x,?_⟩;conv=>whnf
   refine⟨Codec.one qyx [qdj.mk b a j k],qdj.rows [qdj.mk b a j k],.inl rfl,?_⟩;conv=>whnf
   rw[show qdj.rows c++qdj.rows [qdj.mk b a j k]=qdj.rows (c++[qdj.mk b a j k])from Codec.append qyx c [qdj.mk b a j k]];conv=>whnf
   obtain⟨u,h⟩:=qah h;refine⟨⟨Codec.wide qyx (c++[qdj.mk b a j k]),kod u,qb5 u (by decide)⟩,?_⟩;conv=>whnf
   refine⟨⟨rfl,rfl,rfl⟩,?_⟩;conv=>whnf
   exact⟨(c++[qdj.mk b a j k]),h,wk [4,0,2] []⟩
  conv=>whnf
  exact⟨c,h,wk [1,0,2] []⟩
 obtain rfl:=sj h;conv=>whnf
 try exact fin
end W
end
