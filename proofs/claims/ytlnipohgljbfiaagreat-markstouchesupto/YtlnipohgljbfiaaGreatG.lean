/- A part of the proof: contracts, printed by program. -/
import Derived.Test.YtlnipohgljbfiaaGreatB
import Derived.Test.YtlnipohgljbfiaaGreatC
import Derived.Test.YtlnipohgljbfiaaGreatF
set_option linter.unusedVariables false
set_option linter.unusedSimpArgs false
set_option linter.unnecessarySimpa false
set_option linter.deprecated false
set_option linter.unusedSectionVars false
set_option linter.constructorNameAsVariable false
open Go.IntKind renaming wrap->kwr,bits->kbt
section
set_option maxRecDepth 100000
set_option maxHeartbeats 4000000
open Go Go.Proofs Ax
namespace W
abbrev Cf (_:List SS) (_:List (SS×Int)) (_:List SS) (_:List (SS×Int)) (r:Int×(List SS)×(List (SS×Int))):FV:=.p (.int .i64 r.1)
abbrev FT (_:List SS) (_:List (SS×Int)) (a:List SS) (b:List (SS×Int)) (r:Int×(List SS)×(List (SS×Int))):List AObj:=[.box 118 [.tsl 4 (qi r.2.1),.mref 2],.box 118 [.tsl 5 (qi a),.mref 3],.mp .string (qH PV.str (PV.int .i64) r.2.2) none,.mp .string (qH PV.str (PV.int .i64) b) none,.tail 9 1 (qi r.2.1).length,.tail 9 1 (qi a).length]
def uP (n:Nat) (a:Int×List SS×List (SS×Int)->Option (Int×(List SS)×(List (SS×Int)))) (d:Int):List SS×List (SS×Int)->Option (Int×(List SS)×(List (SS×Int))):=fun(b,c)=>
 a ((kwr .i64 (d+1)),b,c)
def uR (n:Nat) (a:List SS) (b:List (SS×Int)) (d:SS) (c:Int×List SS×List (SS×Int)->Option (Int×(List SS)×(List (SS×Int)))) (f:Int):Int->Option (Int×(List SS)×(List (SS×Int))):=fun e=>
 bif(e != 0)then(
 some (e,a,b))
 else(
 bif(!(d==([]:SS)))then(
 bnd (xb n d (1:Int) a b) fun⟨g,i⟩=>
 uP n c f (g,i))
 else(
 uP n c f (a,b)))
def uQ (n:Nat) (g:List SS) (i:List qe) (k:List SS) (l:List (SS×Int)) (c:List SS) (d:List (SS×Int)) (b:SS) (a:Int×List SS×List (SS×Int)->Option (Int×(List SS)×(List (SS×Int)))) (f:Int):Int->Option (Int×(List SS)×(List (SS×Int))):=fun e=>
 bif(e==0)then(
 bnd (gb n g i k l) fun j=>
 uR n c d b a f j)
 else(
 uR n c d b a f e)
def vJ (n:Nat) (a:SS) (o:Bool) (l b:List SS) (f:List qe) (i:List SS) (j:List (SS×Int)) (e:Int×List SS×List (SS×Int)->Option (Int×(List SS)×(List (SS×Int)))) (k:Int):List SS×List (SS×Int)->Option (Int×(List SS)×(List (SS×Int))):=fun(c,d)=>
 bnd (bf n a c d) fun⟨m,g⟩=>
 bif(bif(bif(bif(g==0)then m else false)then o else false)then(decide ((kwr .i64 (((qi l).length:Int)+((qi b).length:Int)))>0))else false)then(
 uQ n b f i j c d a e k (2:Int))
 else(
 uQ n b f i j c d a e k g)
def ub (n:Nat) (i:List qt) (s:List qy) (c:Bool) (d:List SS) (e:List (SS×Int)):LK (Int×List SS×List (SS×Int)) (Int×(List SS)×(List (SS×Int))):=fun g (a,f,b)=>
 bif(decide (a<((qt.rows i).length:Int)))then(
 bnd (idx i a) fun⟨j,k,l,m⟩=>
 bif(decide (a>0))then(
 bnd (idx s (kwr .i64 (a - 1))) fun⟨t,u,v,w,x⟩=>
 bnd (cO n (qy.mk t u v w x) c f b d e) fun⟨o,p,q⟩=>
 bif(o != 0)then(
 some (o,p,q))
 else(
 vJ n j c k l m d e g a (p,q)))
 else(
 vJ n j c k l m d e g a (f,b)))
 else(
 some ((0:Int),f,b))
def cQ (n:Nat) (a:zx) (d:Bool) (e:List SS) (f:List (SS×Int)) (g:List SS) (i:List (SS×Int)):Option (Int×(List SS)×(List (SS×Int))):=
 match a with
 | ⟨b,c⟩=>
 qo (ub n b c d g i) n ((0:Int),e,f)
theorem Gp (n:Nat):∀ (w:zx) (j:Bool) (q:List SS) (t:List (SS×Int)) (a:List SS) (c:List (SS×Int)) (r:Int×(List SS)×(List (SS×Int))),cQ n w j q t a c=some r->vA TP 172 [.ptr 0 0,.p (PV.agg (pb.cells w)),.ptr 1 0,.p (PV.bool j)] [.box 118 [.tsl 4 (qi q),.mref 2],.box 118 [.tsl 5 (qi a),.mref 3],.mp .string (qH PV.str (PV.int .i64) t) none,.mp .string (qH PV.str (PV.int .i64) c) none,.tail 9 1 (qi q).length,.tail 9 1 (qi a).length] 4 (fun v lo=>v=Cf q t a c r/\lo=FT q t a c r):=by
 intro w j q t a c r h;obtain⟨b,i⟩:=w;unfold cQ at h;refine zO Tryz.call172 Tryz.func172 [105,220,221,222,1000000] ?_;conv=>whnf
 refine qX.fn [105,220,221,222,1000000] (S:=Int×List SS×List (SS×Int)) (fun(e,u,y)=>[(0,.ptr 0 0),(2,.ptr 1 0),(3,pB j),(5,.ptr 4 0),(15,pN b),(16,.p (.int .i64 ((qt.rows b).length:Int))),(17,pI e)]) (fun(e,u,y)=>[.box 118 [.tsl 5 (qi u),.mref 2],.box 118 [.tsl 6 (qi a),.mref 3],.mp .string (qH PV.str (PV.int .i64) y) none,.mp .string (qH PV.str (PV.int .i64) c) none,.box 60 [pN b,pG i],.tail 9 1 (qi u).length,.tail 9 1 (qi a).length]) (B:=ub n b i j a c) h (wk [0,1,2,3,6,4,5] []) ?_;intro x st h;obtain⟨e,u,y⟩:=st;unfold ub at h;conv=>whnf
 apply ifc h<;>intro o h
 ·conv=>whnf
  refine cY.cut (S:=List SS×List (SS×Int)) (fun(s,z)=>[(0,.ptr 0 0),(2,.ptr 1 0),(3,pB j),(5,.ptr 4 0),(15,pN b),(16,.p (.int .i64 ((qt.rows b).length:Int))),(17,pI e)]) (fun(s,z)=>[.box 118 [.tsl 5 (qi s),.mref 2],.box 118 [.tsl 6 (qi a),.mref 3],.mp .string (qH PV.str (PV.int .i64) z) none,.mp .string (qH PV.str (PV.int .i64) c) none,.box 60 [pN b,pG i],.tail 9 1 (qi s).length,.tail 9 1 (qi a).length]) (uP n x e) (r:=r) ?_ ?_
  ·intro st h
   obtain⟨s,z⟩:=st;unfold uP at h;conv=>whnf
   exact⟨((kwr .i64 (e+1)),s,z),h,wk [0,1,2,3,4,5,6] []⟩
  conv=>whnf
  refine bq h fun⟨f,m,k,l⟩ O h=>⟨_,Codec.at_ gO O,?_⟩;conv=>whnf
  refine cY.cut (S:=List SS×List (SS×Int)) (fun(d,g)=>[(0,.ptr 0 0),(2,.ptr 1 0),(3,pB j),(5,.ptr 4 0),(10,.ptr 5 0),(15,pN b),(16,.p (.int .i64 ((qt.rows b).length:Int))),(17,pI e)]) (fun(d,g)=>[.box 118 [.tsl 6 (qi d),.mref 2],.box 118 [.tsl 7 (qi a),.mref 3],.mp .string (qH PV.str (PV.int .i64) g) none,.mp .string (qH PV.str (PV.int .i64) c) none,.box 60 [pN b,pG i],.box 62 [pS f,pT m,pT k,pE l],.tail 9 1 (qi d).length,.tail 9 1 (qi a).length]) (vJ n f j m k l a c x e) (r:=r) ?_ ?_
  ·intro st h
   obtain⟨d,g⟩:=st;unfold vJ at h;conv=>whnf
   refine bq h fun⟨P,F⟩ J h=>?_;refine Zd (FE n _ _ _ _ J) [0,2,6] [] ?_;rintro _ _ ⟨rfl,rfl⟩;refine⟨.p (.tup [.bool P,.int .i64 F]),[.box 118 [.tsl 8 (qi d),.mref 2],.box 118 [.tsl 7 (qi a),.mref 3],.mp .string (qH PV.str (PV.int .i64) g) none,.mp .string (qH PV.str (PV.int .i64) c) none,.box 60 [pN b,pG i],.box 62 [pS f,pT m,pT k,pE l],.dead,.tail 9 1 (qi a).length,.tail 9 1 (qi d).length],rfl,rfl,?_⟩;conv=>whnf
   refine cY.cut (S:=Int) (fun A=>[(0,.ptr 0 0),(2,.ptr 1 0),(3,pB j),(5,.ptr 4 0),(10,.ptr 5 0),(13,pI A),(15,pN b),(16,.p (.int .i64 ((qt.rows b).length:Int))),(17,pI e)]) (fun A=>[.box 118 [.tsl 6 (qi d),.mref 2],.box 118 [.tsl 7 (qi a),.mref 3],.mp .string (qH PV.str (PV.int .i64) g) none,.mp .string (qH PV.str (PV.int .i64) c) none,.box 60 [pN b,pG i],.box 62 [pS f,pT m,pT k,pE l],.tail 9 1 (qi d).length,.tail 9 1 (qi a).length]) (uQ n k l a c d g f x e) (r:=r) ?_ ?_
   ·intro A h
    unfold uQ at h;(conv=>whnf);refine cY.cut (S:=Int) (fun C=>[(0,.ptr 0 0),(2,.ptr 1 0),(3,pB j),(5,.ptr 4 0),(10,.ptr 5 0),(13,pI C),(15,pN b),(16,.p (.int .i64 ((qt.rows b).length:Int))),(17,pI e)]) (fun C=>[.box 118 [.tsl 6 (qi d),.mref 2],.box 118 [.tsl 7 (qi a),.mref 3],.mp .string (qH PV.str (PV.int .i64) g) none,.mp .string (qH PV.str (PV.int .i64) c) none,.box 60 [pN b,pG i],.box 62 [pS f,pT m,pT k,pE l],.tail 9 1 (qi d).length,.tail 9 1 (qi a).length]) (uR n d g f x e) (r:=r) ?_ ?_
    ·intro C h
     unfold uR at h;(conv=>whnf);apply ifc h<;>intro o h
     ·obtain rfl:=sj h
      (conv=>whnf);refine⟨_,_,⟨rfl,rfl⟩,wk [0,1,2,3,6,7] []⟩
     (conv=>whnf);apply ifc h<;>intro o h
     ·conv=>whnf
      refine bq h fun⟨D,G⟩ K h=>?_;refine Zd (gA n _ _ _ _ _ K) [0,2,6] [] ?_;rintro _ _ ⟨rfl,rfl⟩;refine⟨.p (.tup []),[.box 118 [.tsl 8 (qi D),.mref 2],.box 118 [.tsl 7 (qi a),.mref 3],.mp .string (qH PV.str (PV.int .i64) G) none,.mp .string (qH PV.str (PV.int .i64) c) none,.box 60 [pN b,pG i],.box 62 [pS f,pT m,pT k,pE l],.dead,.tail 9 1 (qi a).length,.tail 9 1 (qi D).length],rfl,rfl,?_⟩;(conv=>whnf);exact⟨(D,G),h,wk [0,1,2,3,4,8,7] []⟩
     (conv=>whnf);exact⟨(d,g),h,wk [0,1,2,3,4,6,7] []⟩
    (conv=>whnf);apply ifc h<;>intro o h
    ·conv=>whnf
     refine bq h fun H L h=>?_;refine Zd (tU n _ _ _ _ _ L) [1,3,7] [] ?_;rintro _ _ ⟨rfl,rfl⟩;refine⟨pI H,[.box 118 [.tsl 6 (qi d),.mref 2],.box 118 [.tsl 8 (qi a),.mref 3],.mp .string (qH PV.str (PV.int .i64) g) none,.mp .string (qH PV.str (PV.int .i64) c) none,.box 60 [pN b,pG i],.box 62 [pS f,pT m,pT k,pE l],.tail 9 1 (qi d).length,.dead,.tail 9 1 (qi a).length],rfl,rfl,?_⟩;(conv=>whnf);exact⟨H,h,wk [0,1,2,3,4,5,6,8] []⟩
    (conv=>whnf);exact⟨A,h,wk [0,1,2,3,4,5,6,7] []⟩
   conv=>whnf
   refine⟨id,?_⟩;conv=>whnf
   iterate 9 refine⟨id,?_⟩
   conv=>whnf
   apply ifc h<;>intro o h
   ·conv=>whnf
    exact⟨(2:Int),h,wk [0,1,2,3,4,5,8,7] []⟩
   conv=>whnf
   exact⟨F,h,wk [0,1,2,3,4,5,8,7] []⟩
  conv=>whnf
  apply ifc h<;>intro o h
  ·conv=>whnf
   refine bq h fun⟨_,_,_,_,_⟩ N h=>⟨_,Codec.at_ cZ N,?_⟩;conv=>whnf
   refine bq h fun⟨Q,E,I⟩ M h=>?_;refine Zd (Gl n _ _ _ _ _ _ _ M) [0,1,2,3,5,6] [] ?_;rintro _ _ ⟨rfl,rfl⟩;refine⟨pI Q,[.box 118 [.tsl 8 (qi E),.mref 2],.box 118 [.tsl 9 (qi a),.mref 3],.mp .string (qH PV.str (PV.int .i64) I) none,.mp .string (qH PV.str (PV.int .i64) c) none,.box 60 [pN b,pG i],.dead,.dead,.box 62 [pS f,pT m,pT k,pE l],.tail 9 1 (qi E).length,.tail 9 1 (qi a).length],rfl,rfl,?_⟩;conv=>whnf
   apply ifc h<;>intro o h
   ·obtain rfl:=sj h
    (conv=>whnf);refine⟨_,_,⟨rfl,rfl⟩,wk [0,1,2,3,8,9] []⟩
   conv=>whnf
   exact⟨(E,I),h,wk [0,1,2,3,4,7,8,9] []⟩
  conv=>whnf
  exact⟨(u,y),h,wk [0,1,2,3,4,7,5,6] []⟩
 obtain rfl:=sj h;conv=>whnf
 refine⟨_,_,⟨rfl,rfl⟩,wk [0,1,2,3,5,6] []⟩
abbrev GB (_:List SS) (_:List (SS×Int)) (r:Int×(List SS)×(List (SS×Int))):FV:=.p (.int .i64 r.1)
abbrev Gx (_:List SS) (_:List (SS×Int)) (r:Int×(List SS)×(List (SS×Int))):List AObj:=[.box 118 [.tsl 2 (qi r.2.1),.mref 1],.mp .string (qH PV.str (PV.int .i64) r.2.2) none,.tail 9 1 (qi r.2.1).length]
def vK (n:Nat) (b:List zx) (l:Bool) (m:List SS) (o:List (SS×Int)):LK (Int×List SS×List (SS×Int)) (Int×(List SS)×(List (SS×Int))):=fun i (a,f,g)=>
 bif(decide (a<((zx.rows b).length:Int)))then(
 bnd (idx b a) fun⟨j,k⟩=>
 bnd (cQ n (zx.mk j k) l f g m o) fun⟨c,d,e⟩=>
 bif(c != 0)then(
 some (c,d,e))
 else(
 i ((kwr .i64 (a+1)),d,e)))
 else(
 some ((0:Int),f,g))
def vU (n:Nat) (c:List zx) (d:Bool) (a:List SS) (b:List (SS×Int)):Option (Int×(List SS)×(List (SS×Int))):=
 bnd (cM n a b) fun⟨e,f⟩=>
 qo (vK n c d e f) n ((0:Int),a,b)
theorem mZ (n:Nat):∀ (c:List zx) (e:Bool) (a:List SS) (d:List (SS×Int)) (r:Int×(List SS)×(List (SS×Int))),vU n c e a d=some r->vA TP 103 [.ptr 0 0,.p (PV.sl (zx.rows c)),.p (PV.bool e)] [.box 118 [.tsl 2 (qi a),.mref 1],.mp .string (qH PV.str (PV.int .i64) d) none,.tail 9 1 (qi a).length] 2 (fun v lo=>v=GB a d r/\lo=Gx a d r):=by
 intro c e a d r h;unfold vU at h;refine zO Tryz.call103 Tryz.func103 [171,172,1000000] ?_;conv=>whnf
 refine bq h fun⟨b,f⟩ m h=>?_;refine Zd (Gj n _ _ _ m) [0,1,2] [] ?_;rintro _ _ ⟨rfl,rfl⟩;refine⟨.ptr 4 0,[.box 118 [.tsl 3 (qi a),.mref 1],.mp .string (qH PV.str (PV.int .i64) d) none,.dead,.tail 9 1 (qi a).length,.box 118 [.tsl 6 (qi b),.mref 5],.mp .string (qH PV.str (PV.int .i64) f) none,.tail 9 1 (qi b).length],rfl,rfl,?_⟩;conv=>whnf
 refine qX.fn [171,172,1000000] (S:=Int×List SS×List (SS×Int)) (fun(g,i,k)=>[(0,.ptr 0 0),(2,pB e),(7,.ptr 2 0),(13,pP c),(14,.p (.int .i64 ((zx.rows c).length:Int))),(15,pI g)]) (fun(g,i,k)=>[.box 118 [.tsl 3 (qi i),.mref 1],.mp .string (qH PV.str (PV.int .i64) k) none,.box 118 [.tsl 4 (qi b),.mref 5],.tail 9 1 (qi i).length,.tail 9 1 (qi b).length,.mp .string (qH PV.str (PV.int .i64) f) none]) (B:=vK n c e b f) h (wk [0,1,4,3,6,5] []) ?_;intro _ st h;obtain⟨g,i,k⟩:=st;unfold vK at h;conv=>whnf
 apply ifc h<;>intro s h
 ·conv=>whnf
  refine bq h fun⟨t,u⟩ q h=>⟨_,Codec.at_ pb q,?_⟩;conv=>whnf
  refine bq h fun⟨w,j,l⟩ o h=>?_;refine Zd (Gp n _ _ _ _ _ _ _ o) [0,2,1,5,3,4] [] ?_;rintro _ _ ⟨rfl,rfl⟩;refine⟨pI w,[.box 118 [.tsl 7 (qi j),.mref 1],.mp .string (qH PV.str (PV.int .i64) l) none,.box 118 [.tsl 8 (qi b),.mref 5],.dead,.dead,.mp .string (qH PV.str (PV.int .i64) f) none,.box 60 [pN t,pG u],.tail 9 1 (qi j).length,.tail 9 1 (qi b).length],rfl,rfl,?_⟩;conv=>whnf
  apply ifc h<;>intro s h
  ·obtain rfl:=sj h
   conv=>whnf
   refine⟨_,_,⟨rfl,rfl⟩,wk [0,1,7] []⟩
  conv=>whnf
  exact⟨((kwr .i64 (g+1)),j,l),h,wk [0,1,2,7,8,5] []⟩
 obtain rfl:=sj h;conv=>whnf
 refine⟨_,_,⟨rfl,rfl⟩,wk [0,1,3] []⟩
abbrev Ch (_:List SS) (_:List (SS×Int)) (r:Int):FV:=pI r
abbrev FW (a:List SS) (b:List (SS×Int)) (r:Int):List AObj:=[.box 118 [.tsl 2 (qi a),.mref 1],.mp .string (qH PV.str (PV.int .i64) b) none,.tail 9 1 (qi a).length]
def gE (n:Nat) (a:Int->Option (Int)) (b:Int):Unit->Option (Int):=fun _=>
 a (kwr .i64 (b+1))
def uc (n:Nat) (e:List qj) (a:List (SS×Int)) (s:List SS):LK (Int) (Int):=fun d b=>
 bif(decide (b<((qj.rows e).length:Int)))then(
 bnd (idx e b) fun⟨c,_,t,⟨g,u,⟨i,j,k,l,m,o⟩,p,q⟩⟩=>
 bif((va a c (0:Int))==0)then(
 some (2:Int))
 else(
 bif(bif((va a c (0:Int))==3)then true else(bif((va a c (0:Int))==2)then(!(t==([]:SS)))else false))then(
 some (3:Int))
 else(
 bif(g != 0)then(
 bnd (qV n [qe.mk g u (Val.mk i j k l m o) p q] (3:Int) s a) fun f=>
 bif(f != 0)then(
 some f)
 else(
 gE n d b ()))
 else(
 gE n d b ()))))
 else(
 some (0:Int))
def cS (n:Nat) (a:List qj) (b:List SS) (c:List (SS×Int)):Option (Int):=
 qo (uc n a c b) n (0:Int)
theorem Gq (n:Nat):∀ (c:List qj) (a:List SS) (b:List (SS×Int)) (r:Int),cS n c a b=some r->vA TP 106 [.ptr 0 0,.p (PV.sl (qj.rows c))] [.box 118 [.tsl 2 (qi a),.mref 1],.mp .string (qH PV.str (PV.int .i64) b) none,.tail 9 1 (qi a).length] 2 (fun v lo=>v=Ch a b r/\lo=FW a b r):=by
 intro c a b r h;unfold cS at h;refine zO Tryz.call106 Tryz.func106 [104,1000000] ?_;conv=>whnf
 refine qX.fn [104,1000000] (S:=Int) (fun d=>[(0,.ptr 0 0),(9,pU c),(10,.p (.int .i64 ((qj.rows c).length:Int))),(11,pI d)]) (fun d=>[.box 118 [.tsl 2 (qi a),.mref 1],.mp .string (qH PV.str (PV.int .i64) b) none,.tail 9 1 (qi a).length]) (B:=uc n c b a) h (wk [0,1,2] []) ?_;intro x d h;unfold uc at h;conv=>whnf
 apply ifc h<;>intro f h
 ·conv=>whnf
  refine cY.cut (S:=Unit) (fun _=>[(0,.ptr 0 0),(9,pU c),(10,.p (.int .i64 ((qj.rows c).length:Int))),(11,pI d)]) (fun _=>[.box 118 [.tsl 2 (qi a),.mref 1],.mp .string (qH PV.str (PV.int .i64) b) none,.tail 9 1 (qi a).length]) (gE n x d) (r:=r) ?_ ?_
  ·intro _ h
   unfold gE at h;conv=>whnf
   exact⟨(kwr .i64 (d+1)),h,wk [0,1,2] []⟩
  conv=>whnf
  refine bq h fun⟨e,z,A,⟨s,t,⟨g,i,j,k,l,m⟩,o,q⟩⟩ w h=>⟨_,Codec.at_ nr w,?_⟩;conv=>whnf
  refine⟨PV.int .i64 (va b e (0:Int)),(LI b e),⟨XO xD (PV.int .i64) b e (0:Int),XQ xD (PV.int .i64) b e⟩,?_⟩;conv=>whnf
  apply ifc h<;>intro f h
  ·obtain rfl:=sj h
   conv=>whnf
   refine⟨_,_,⟨rfl,rfl⟩,wk [0,1,2] []⟩
  conv=>whnf
  iterate 7 refine⟨id,?_⟩
  conv=>whnf
  apply ifc h<;>intro f h
  ·obtain rfl:=sj h
   conv=>whnf
   refine⟨_,_,⟨rfl,rfl⟩,wk [0,1,2] []⟩
  conv=>whnf
  apply ifc h<;>intro f h
  ·conv=>whnf
   refine⟨Codec.one zX [qe.mk s t (Val.mk g i j k l m) o q],qe.rows [qe.mk s t (Val.mk g i j k l m) o q],.inl rfl,?_⟩;conv=>whnf
   refine bq h fun y u h=>?_;refine Zd (xV n _ _ _ _ _ u) [0,1,2] [] ?_;rintro _ _ ⟨rfl,rfl⟩;refine⟨pI y,[.box 118 [.tsl 4 (qi a),.mref 1],.mp .string (qH PV.str (PV.int .i64) b) none,.dead,.box 70 [pS e,pS z,pS A,pI s,pS t,pI g,pB i,pI j,pS k,pV l,pT m,pT o,pE q],.tail 9 1 (qi a).length],rfl,rfl,?_⟩;conv=>whnf
   apply ifc h<;>intro f h
   ·obtain rfl:=sj h
    (conv=>whnf);refine⟨_,_,⟨rfl,rfl⟩,wk [0,1,4] []⟩
   conv=>whnf
   exact⟨(),h,wk [0,1,4] []⟩
  conv=>whnf
  exact⟨(),h,wk [0,1,2] []⟩
 obtain rfl:=sj h;conv=>whnf
 refine⟨_,_,⟨rfl,rfl⟩,wk [0,1,2] []⟩
abbrev Cc (_:List SS) (_:List (SS×Int)) (r:Int):FV:=pI r
abbrev FP (a:List SS) (b:List (SS×Int)) (r:Int):List AObj:=[.box 118 [.tsl 2 (qi a),.mref 1],.mp .string (qH PV.str (PV.int .i64) b) none,.tail 9 1 (qi a).length]
def ua (n:Nat) (b:List SS) (c:List (SS×Int)):LK (Int) (Int):=fun e a=>
 bif(decide (a<((qi b).length:Int)))then(
 bnd (idx b a) fun d=>
 bif((va c d (0:Int))==0)then(
 some (2:Int))
 else(
 bif((va c d (0:Int))==3)then(
 some (3:Int))
 else(
 e (kwr .i64 (a+1)))))
 else(
 some (0:Int))
def cN (n:Nat) (a _:List SS) (b:List (SS×Int)):Option (Int):=
 qo (ua n a b) n (0:Int)
theorem Gk (n:Nat):∀ (c b:List SS) (a:List (SS×Int)) (r:Int),cN n c b a=some r->vA TP 107 [.ptr 0 0,.p (PV.sl (qi c))] [.box 118 [.tsl 2 (qi b),.mref 1],.mp .string (qH PV.str (PV.int .i64) a) none,.tail 9 1 (qi b).length] 2 (fun v lo=>v=Cc b a r/\lo=FP b a r):=by
 intro c b a r h;unfold cN at h;refine zO Tryz.call107 Tryz.func107 [1000000] ?_;conv=>whnf
 refine qX.fn [1000000] (S:=Int) (fun d=>[(0,.ptr 0 0),(7,pT c),(8,.p (.int .i64 ((qi c).length:Int))),(9,pI d)]) (fun d=>[.box 118 [.tsl 2 (qi b),.mref 1],.mp .string (qH PV.str (PV.int .i64) a) none,.tail 9 1 (qi b).length]) (B:=ua n c a) h (wk [0,1,2] []) ?_;intro _ d h;unfold ua at h;conv=>whnf
 apply ifc h<;>intro f h
 ·conv=>whnf
  refine bq h fun e g h=>⟨_,Codec.at_ cc g,?_⟩;conv=>whnf
  refine⟨PV.int .i64 (va a e (0:Int)),(LI a e),⟨XO xD (PV.int .i64) a e (0:Int),XQ xD (PV.int .i64) a e⟩,?_⟩;conv=>whnf
  apply ifc h<;>intro f h
  ·obtain rfl:=sj h
   conv=>whnf
   refine⟨_,_,⟨rfl,rfl⟩,wk [0,1,2] []⟩
  conv=>whnf
  apply ifc h<;>intro f h
  ·obtain rfl:=sj h
   conv=>whnf
   refine⟨_,_,⟨rfl,rfl⟩,wk [0,1,2] []⟩
  conv=>whnf
  exact⟨(kwr .i64 (d+1)),h,wk [0,1,2] []⟩
 obtain rfl:=sj h;conv=>whnf
 refine⟨_,_,⟨rfl,rfl⟩,wk [0,1,2] []⟩
abbrev Ce (_:List SS) (_:List (SS×Int)) (r:Int×Int):FV:=.p (.tup [.int .i64 r.1,.int .i64 r.2])
abbrev FR (a:List SS) (b:List (SS×Int)) (r:Int×Int):List AObj:=[.box 118 [.tsl 2 (qi a),.mref 1],.mp .string (qH PV.str (PV.int .i64) b) none,.tail 9 1 (qi a).length]
def gD (n:Nat) (b:List qe) (c:List SS) (d:List (SS×Int)):Int->Option (Int×Int):=fun e=>
 bnd (qV n b e c d) fun a=>
 bif(a != 0)then(
 some ((0:Int),a))
 else(
 some ((3:Int),(0:Int)))
def cP (n:Nat) (f:qe) (b:List SS) (c:List (SS×Int)):Option (Int×Int):=
 match f with
 | ⟨d,e,⟨j,k,l,m,o,p⟩,q,a⟩=>
 bif(d != 14)then(
 bnd (zQ n (qe.mk d e (Val.mk j k l m o p) q a) b c) fun⟨g,i⟩=>
 some (g,i))
 else(
 bif(e==([99,111,117,110,116]:SS))then(
 gD n a b c (0:Int))
 else(
 gD n a b c (3:Int)))
theorem Gn (n:Nat):∀ (c:qe) (a:List SS) (b:List (SS×Int)) (r:Int×Int),cP n c a b=some r->vA TP 174 [.ptr 0 0,.p (PV.agg (zX.cells c))] [.box 118 [.tsl 2 (qi a),.mref 1],.mp .string (qH PV.str (PV.int .i64) b) none,.tail 9 1 (qi a).length] 2 (fun v lo=>v=Ce a b r/\lo=FR a b r):=by
 intro c a b r h;obtain⟨e,g,⟨i,j,k,l,m,o⟩,q,d⟩:=c;unfold cP at h;refine zO Tryz.call174 Tryz.func174 [104,173,1000000] ?_;conv=>whnf
 apply ifc h<;>intro s h
 ·conv=>whnf
  refine bq h fun⟨w,x⟩ t h=>?_;refine Zd (Gm n _ _ _ _ t) [0,1,2] [] ?_;rintro _ _ ⟨rfl,rfl⟩;refine⟨.p (.tup [.int .i64 w,.int .i64 x]),[.box 118 [.tsl 4 (qi a),.mref 1],.mp .string (qH PV.str (PV.int .i64) b) none,.dead,.box 49 [pI e,pS g,pI i,pB j,pI k,pS l,pV m,pT o,pT q,pE d],.tail 9 1 (qi a).length],rfl,rfl,?_⟩;obtain rfl:=sj h;conv=>whnf
  refine⟨_,_,⟨rfl,rfl⟩,wk [0,1,4] []⟩
 conv=>whnf
 refine cY.cut (S:=Int) (fun f=>[(0,.ptr 0 0),(3,.ptr 2 0),(6,pI f)]) (fun f=>[.box 118 [.tsl 3 (qi a),.mref 1],.mp .string (qH PV.str (PV.int .i64) b) none,.box 49 [pI e,pS g,pI i,pB j,pI k,pS l,pV m,pT o,pT q,pE d],.tail 9 1 (qi a).length]) (gD n d a b) (r:=r) ?_ ?_
 ·intro f h
  unfold gD at h;conv=>whnf
  refine bq h fun y u h=>?_;refine Zd (xV n _ _ _ _ _ u) [0,1,3] [] ?_;rintro _ _ ⟨rfl,rfl⟩;refine⟨pI y,[.box 118 [.tsl 4 (qi a),.mref 1],.mp .string (qH PV.str (PV.int .i64) b) none,.box 49 [pI e,pS g,pI i,pB j,pI k,pS l,pV m,pT o,pT q,pE d],.dead,.tail 9 1 (qi a).length],rfl,rfl,?_⟩;conv=>whnf
  apply ifc h<;>intro s h
  ·obtain rfl:=sj h
   conv=>whnf
   refine⟨_,_,⟨rfl,rfl⟩,wk [0,1,4] []⟩
  obtain rfl:=sj h;conv=>whnf
  refine⟨_,_,⟨rfl,rfl⟩,wk [0,1,4] []⟩
 conv=>whnf
 apply ifc h<;>intro s h
 ·conv=>whnf
  exact⟨(0:Int),h,wk [0,1,3,2] []⟩
 conv=>whnf
 exact⟨(3:Int),h,wk [0,1,3,2] []⟩
inductive qN where
 | o0 (a0:Int)
 | o1 (a0:Int) (a1:List SS) (a2:List (SS×Int))
abbrev Cg (_:List SS) (_:List (SS×Int)) (r:qN):FV:=match r with
 | .o0 a0=>.p (.tup [.nilp,.int .i64 a0])
 | .o1 a0 a1 a2=>.pair (.ptr 3 0) (pI a0)
abbrev FU (a:List SS) (b:List (SS×Int)) (r:qN):List AObj:=match r with
 | .o0 a0=>[.box 118 [.tsl 2 (qi a),.mref 1],.mp .string (qH PV.str (PV.int .i64) b) none,.tail 9 1 (qi a).length]
 | .o1 a0 a1 a2=>[.box 118 [.tsl 2 (qi a),.mref 1],.mp .string (qH PV.str (PV.int .i64) b) none,.tail 9 1 (qi a).length,.box 118 [.tsl 5 (qi a1),.mref 4],.mp .string (qH PV.str (PV.int .i64) a2) none,.tail 9 1 (qi a1).length]
def xI (n:Nat) (b c j:List qe) (d:List SS) (e:List (SS×Int)):LK (Int×List SS) (qN):=fun i (a,f)=>
 bif(decide (a<(((Sb zX [b,c]).length:Nat):Int)))then(
 bnd (idx [b,c] a) fun k=>
 bnd (qV n k (3:Int) f ([]:List (SS×Int))) fun g=>
 bif(g != 0)then(
 some (qN.o0 g))
 else(
 i ((kwr .i64 (a+1)),f)))
 else(
 bnd (qV n j (3:Int) d e) fun l=>
 some (qN.o1 l d e))
def xe (n:Nat) (b:List qS) (c:List SS) (d:List (SS×Int)) (g i j:List qe):LK (Int) (qN):=fun f a=>
 bif(decide (a<((qS.rows b).length:Int)))then(
 bnd (idx b a) fun⟨⟨k,l,⟨m,o,p,q,s,t⟩,u,v⟩,_⟩=>
 bnd (qV n [qe.mk k l (Val.mk m o p q s t) u v] (3:Int) c d) fun e=>
 bif(e != 0)then(
 some (qN.o0 e))
 else(
 f (kwr .i64 (a+1))))
 else(
 qo (xI n g i j c d) n ((0:Int),([]:List _)))
def vm (n:Nat) (c:List xM) (o:List SS) (p:List (SS×Int)) (j:Int) (k:List qS) (l m t:List qe):LK (Int×List SS×List (SS×Int)) (qN):=fun i (a,d,b)=>
 bif(decide (a<((xM.rows c).length:Int)))then(
 bnd (idx c a) fun⟨⟨q,s,⟨u,v,w,x,y,z⟩,A,B⟩,e⟩=>
 bnd (cP n (qe.mk q s (Val.mk u v w x y z) A B) o p) fun⟨f,g⟩=>
 bif(g != 0)then(
 some (qN.o0 g))
 else(
 bif(bif(j==9)then(f != 3)else false)then(
 some (qN.o0 (3:Int)))
 else(
 bif((va b e (0:Int)) != 0)then(
 some (qN.o0 (2:Int)))
 else(
 bnd (xb n e f d b) fun⟨C,D⟩=>
 i ((kwr .i64 (a+1)),C,D)))))
 else(
 qo (xe n k d b l m t) n (0:Int))
def cR (n:Nat) (a:qd) (g:List SS) (i:List (SS×Int)):Option (qN):=
 match a with
 | ⟨b,_,j,⟨_,_,⟨_,_,_,_,_,_⟩,_,_⟩,_,c,_,d,e,f,_,_,_⟩=>
 qo (vm n c g i b d e f j) n ((0:Int),([]:List _),([]:List (SS×Int)))
theorem QP (n:Nat):∀ (J:qd) (a:List SS) (f:List (SS×Int)) (r:qN),cR n J a f=some r->vA TP 108 [.ptr 0 0,.p (PV.agg (xN.cells J))] [.box 118 [.tsl 2 (qi a),.mref 1],.mp .string (qH PV.str (PV.int .i64) f) none,.tail 9 1 (qi a).length] 2 (fun v lo=>v=Cg a f r/\lo=FU a f r):=by
 intro J a f r h;obtain⟨k,w,j,⟨A,C,⟨D,E,F,G,m,o⟩,q,s⟩,t,i,u,g,c,d,x,y,z⟩:=J;unfold cR at h;refine zO Tryz.call108 Tryz.func108 [104,105,174,1000000] ?_;conv=>whnf
 refine qX.fn [104,105,174,1000000] (S:=Int×List SS×List (SS×Int)) (fun(K,b,e)=>[(0,.ptr 0 0),(3,.ptr 2 0),(6,.ptr 3 0),(22,pA i),(23,.p (.int .i64 ((xM.rows i).length:Int))),(24,pI K)]) (fun(K,b,e)=>[.box 118 [.tsl 4 (qi a),.mref 1],.mp .string (qH PV.str (PV.int .i64) f) none,.box 54 [pI k,pP w,pE j,pI A,pS C,pI D,pB E,pI F,pS G,pV m,pT o,pT q,pE s,pS t,pA i,pB u,pO g,pE c,pE d,pU x,pT y,pB z],.box 118 [.tsl 6 (qi b),.mref 5],.tail 9 1 (qi a).length,.mp .string (qH PV.str (PV.int .i64) e) none,.tail 9 1 (qi b).length]) (B:=vm n i a f k g c d j) h (wk [0,1,3,5,2,4,0] [6]) ?_;intro _ st h;obtain⟨K,b,e⟩:=st;unfold vm at h;conv=>whnf
 apply ifc h<;>intro H h
 ·conv=>whnf
  refine bq h fun⟨⟨Z,a0,⟨a1,a2,a3,a4,a5,a6⟩,a7,a8⟩,I⟩ b2 h=>⟨_,Codec.at_ VE b2,?_⟩;conv=>whnf
  refine bq h fun⟨b8,b9⟩ b0 h=>?_;refine Zd (Gn n _ _ _ _ b0) [0,1,4] [] ?_;rintro _ _ ⟨rfl,rfl⟩;refine⟨.p (.tup [.int .i64 b8,.int .i64 b9]),[.box 118 [.tsl 8 (qi a),.mref 1],.mp .string (qH PV.str (PV.int .i64) f) none,.box 54 [pI k,pP w,pE j,pI A,pS C,pI D,pB E,pI F,pS G,pV m,pT o,pT q,pE s,pS t,pA i,pB u,pO g,pE c,pE d,pU x,pT y,pB z],.box 118 [.tsl 6 (qi b),.mref 5],.dead,.mp .string (qH PV.str (PV.int .i64) e) none,.tail 9 1 (qi b).length,.box 66 [pI Z,pS a0,pI a1,pB a2,pI a3,pS a4,pV a5,pT a6,pT a7,pE a8,pS I],.tail 9 1 (qi a).length],rfl,rfl,?_⟩;conv=>whnf
  apply ifc h<;>intro H h
  ·obtain rfl:=sj h
   conv=>whnf
   refine⟨_,_,⟨rfl,rfl⟩,wk [0,1,8] []⟩
  conv=>whnf
  refine⟨id,id,?_⟩;conv=>whnf
  apply ifc h<;>intro H h
  ·obtain rfl:=sj h
   conv=>whnf
   refine⟨_,_,⟨rfl,rfl⟩,wk [0,1,8] []⟩
  conv=>whnf
  refine⟨PV.int .i64 (va e I (0:Int)),(LI e I),⟨XO xD (PV.int .i64) e I (0:Int),XQ xD (PV.int .i64) e I⟩,?_⟩;conv=>whnf
  apply ifc h<;>intro H h
  ·obtain rfl:=sj h
   conv=>whnf
   refine⟨_,_,⟨rfl,rfl⟩,wk [0,1,8] []⟩
  conv=>whnf
  refine bq h fun⟨N,a9⟩ b1 h=>?_;refine Zd (gA n _ _ _ _ _ b1) [3,5,6] [] ?_;rintro _ _ ⟨rfl,rfl⟩;refine⟨.p (.tup []),[.box 118 [.tsl 8 (qi a),.mref 1],.mp .string (qH PV.str (PV.int .i64) f) none,.box 54 [pI k,pP w,pE j,pI A,pS C,pI D,pB E,pI F,pS G,pV m,pT o,pT q,pE s,pS t,pA i,pB u,pO g,pE c,pE d,pU x,pT y,pB z],.box 118 [.tsl 9 (qi N),.mref 5],.dead,.mp .string (qH PV.str (PV.int .i64) a9) none,.dead,.box 66 [pI Z,pS a0,pI a1,pB a2,pI a3,pS a4,pV a5,pT a6,pT a7,pE a8,pS I],.tail 9 1 (qi a).length,.tail 9 1 (qi N).length],rfl,rfl,?_⟩;conv=>whnf
  exact⟨((kwr .i64 (K+1)),N,a9),h,wk [0,1,2,3,8,5,9] []⟩
 conv=>whnf
 refine qX.fn [104,105,174,1000000] (S:=Int) (fun L=>[(3,.ptr 2 0),(6,.ptr 3 0),(63,pO g),(64,.p (.int .i64 ((qS.rows g).length:Int))),(65,pI L)]) (fun L=>[.box 118 [.tsl 4 (qi a),.mref 1],.mp .string (qH PV.str (PV.int .i64) f) none,.box 54 [pI k,pP w,pE j,pI A,pS C,pI D,pB E,pI F,pS G,pV m,pT o,pT q,pE s,pS t,pA i,pB u,pO g,pE c,pE d,pU x,pT y,pB z],.box 118 [.tsl 5 (qi b),.mref 6],.tail 9 1 (qi a).length,.tail 9 1 (qi b).length,.mp .string (qH PV.str (PV.int .i64) e) none]) (B:=xe n g b e c d j) h (wk [0,1,2,3,4,6,5] []) ?_;intro _ L h;unfold xe at h;conv=>whnf
 apply ifc h<;>intro H h
 ·conv=>whnf
  refine bq h fun⟨⟨O,P,⟨Q,R,T,U,V,W⟩,X,Y⟩,c0⟩ b4 h=>⟨_,Codec.at_ Za b4,?_⟩;conv=>whnf
  refine⟨Codec.one zX [qe.mk O P (Val.mk Q R T U V W) X Y],qe.rows [qe.mk O P (Val.mk Q R T U V W) X Y],.inl rfl,?_⟩;conv=>whnf
  refine bq h fun c1 b3 h=>?_;refine Zd (xV n _ _ _ _ _ b3) [3,6,5] [] ?_;rintro _ _ ⟨rfl,rfl⟩;refine⟨pI c1,[.box 118 [.tsl 4 (qi a),.mref 1],.mp .string (qH PV.str (PV.int .i64) f) none,.box 54 [pI k,pP w,pE j,pI A,pS C,pI D,pB E,pI F,pS G,pV m,pT o,pT q,pE s,pS t,pA i,pB u,pO g,pE c,pE d,pU x,pT y,pB z],.box 118 [.tsl 8 (qi b),.mref 6],.tail 9 1 (qi a).length,.dead,.mp .string (qH PV.str (PV.int .i64) e) none,.box 68 [pI O,pS P,pI Q,pB R,pI T,pS U,pV V,pT W,pT X,pE Y,pB c0],.tail 9 1 (qi b).length],rfl,rfl,?_⟩;conv=>whnf
  apply ifc h<;>intro H h
  ·obtain rfl:=sj h
   conv=>whnf
   refine⟨_,_,⟨rfl,rfl⟩,wk [0,1,4] []⟩
  conv=>whnf
  exact⟨(kwr .i64 (L+1)),h,wk [0,1,2,3,4,8,6] []⟩
 conv=>whnf
 refine⟨Codec.one (slC zX) [c,d],Sb zX [c,d],.inl rfl,?_⟩;conv=>whnf
 refine qX.fn [104,105,174,1000000] (S:=Int×List SS) (fun(M,l)=>[(3,.ptr 2 0),(6,.ptr 3 0),(14,.ptr 4 0),(85,.p (.sl (Sb zX [c,d]))),(86,.p (.int .i64 (((Sb zX [c,d]).length:Nat):Int))),(87,pI M)]) (fun(M,l)=>[.box 118 [.tsl 5 (qi a),.mref 1],.mp .string (qH PV.str (PV.int .i64) f) none,.box 54 [pI k,pP w,pE j,pI A,pS C,pI D,pB E,pI F,pS G,pV m,pT o,pT q,pE s,pS t,pA i,pB u,pO g,pE c,pE d,pU x,pT y,pB z],.box 118 [.tsl 6 (qi b),.mref 7],.box 118 [.tsl 9 (qi l),.mref 8],.tail 9 1 (qi a).length,.tail 9 1 (qi b).length,.mp .string (qH PV.str (PV.int .i64) e) none,.mp .string (qH PV.str (PV.int .i64) ([]:List (SS×Int))) none,.tail 9 1 (qi l).length]) (B:=xI n c d j b e) h (wk [0,1,2,3,8,4,5,6,7,0] [9]) ?_;intro _ st h;obtain⟨M,l⟩:=st;unfold xI at h;conv=>whnf
 apply ifc h<;>intro H h
 ·conv=>whnf
  refine bq h fun _ b6 h=>⟨_,Codec.at_ (slC zX) b6,?_⟩;conv=>whnf
  refine bq h fun c2 b5 h=>?_;refine Zd (xV n _ _ _ _ _ b5) [4,8,9] [] ?_;rintro _ _ ⟨rfl,rfl⟩;refine⟨pI c2,[.box 118 [.tsl 5 (qi a),.mref 1],.mp .string (qH PV.str (PV.int .i64) f) none,.box 54 [pI k,pP w,pE j,pI A,pS C,pI D,pB E,pI F,pS G,pV m,pT o,pT q,pE s,pS t,pA i,pB u,pO g,pE c,pE d,pU x,pT y,pB z],.box 118 [.tsl 6 (qi b),.mref 7],.box 118 [.tsl 10 (qi l),.mref 8],.tail 9 1 (qi a).length,.tail 9 1 (qi b).length,.mp .string (qH PV.str (PV.int .i64) e) none,.mp .string (qH PV.str (PV.int .i64) ([]:List (SS×Int))) none,.dead,.tail 9 1 (qi l).length],rfl,rfl,?_⟩;conv=>whnf
  apply ifc h<;>intro H h
  ·obtain rfl:=sj h
   conv=>whnf
   refine⟨_,_,⟨rfl,rfl⟩,wk [0,1,5] []⟩
  conv=>whnf
  exact⟨((kwr .i64 (M+1)),l),h,wk [0,1,2,3,4,5,6,7,8,10] []⟩
 conv=>whnf
 refine bq h fun c3 b7 h=>?_;refine Zd (xV n _ _ _ _ _ b7) [3,7,6] [] ?_;rintro _ _ ⟨rfl,rfl⟩;refine⟨pI c3,[.box 118 [.tsl 5 (qi a),.mref 1],.mp .string (qH PV.str (PV.int .i64) f) none,.box 54 [pI k,pP w,pE j,pI A,pS C,pI D,pB E,pI F,pS G,pV m,pT o,pT q,pE s,pS t,pA i,pB u,pO g,pE c,pE d,pU x,pT y,pB z],.box 118 [.tsl 10 (qi b),.mref 7],.box 118 [.tsl 9 (qi l),.mref 8],.tail 9 1 (qi a).length,.dead,.mp .string (qH PV.str (PV.int .i64) e) none,.mp .string (qH PV.str (PV.int .i64) ([]:List (SS×Int))) none,.tail 9 1 (qi l).length,.tail 9 1 (qi b).length],rfl,rfl,?_⟩;obtain rfl:=sj h;conv=>whnf
 refine⟨_,_,⟨rfl,rfl⟩,wk [0,1,5,3,7,10] []⟩
inductive qI where
 | o0 (a0:Int) (a1:List SS) (a2:List (SS×Int))
 | o1 (a0:Int) (a1:List SS) (a2:List (SS×Int))
 | o2 (a0:Int) (a1:List SS) (a2:List (SS×Int)) (a3:List SS) (a4:List (SS×Int))
abbrev UR (_:List SS) (_:List (SS×Int)) (r:qI):FV:=match r with
 | .o0 a0 a1 a2=>.p (.tup [.nilp,.int .i64 a0])
 | .o1 a0 a1 a2=>.pair (.ptr 0 0) (pI a0)
 | .o2 a0 a1 a2 a3 a4=>.pair (.ptr 3 0) (pI a0)
abbrev UP (_:List SS) (_:List (SS×Int)) (r:qI):List AObj:=match r with
 | .o0 a0 a1 a2=>[.box 118 [.tsl 2 (qi a1),.mref 1],.mp .string (qH PV.str (PV.int .i64) a2) none,.tail 9 1 (qi a1).length]
 | .o1 a0 a1 a2=>[.box 118 [.tsl 2 (qi a1),.mref 1],.mp .string (qH PV.str (PV.int .i64) a2) none,.tail 9 1 (qi a1).length]
 | .o2 a0 a1 a2 a3 a4=>[.box 118 [.tsl 2 (qi a1),.mref 1],.mp .string (qH PV.str (PV.int .i64) a2) none,.tail 9 1 (qi a1).length,.box 118 [.tsl 5 (qi a3),.mref 4],.mp .string (qH PV.str (PV.int .i64) a4) none,.tail 9 1 (qi a3).length]
def uu (n:Nat) (d:List qj) (a:List SS) (b:List (SS×Int)) (c:Int) (e:List SS) (s:List zx) (u:List qe) (v:Int) (C:SS) (F:Int) (G:Bool) (H:Int) (I:SS) (f:List Val) (g i:List SS) (j:List qe) (k:SS) (l:List xM) (m:Bool) (o:List qS) (p q:List qe) (t:Bool):Bool->Option (qI):=fun w=>
 bif w then(
 bnd (cS n d a b) fun x=>
 some (qI.o1 x a b))
 else(
 bif(c==8)then(
 bnd (cN n e a b) fun y=>
 some (qI.o1 y a b))
 else(
 bnd (cR n (qd.mk c s u (qe.mk v C (Val.mk F G H I f g) i j) k l m o p q d e t) a b) fun z=>
 match z with
 | .o0 A=>(
 some (qI.o0 A a b))
 | .o1 B D E=>(
 some (qI.o2 B a b D E))))
def ff (n:Nat) (F:qd) (b:List SS) (a:List (SS×Int)):Option (qI):=
 match F with
 | ⟨c,d,m,⟨o,p,⟨q,s,t,u,f,g⟩,i,j⟩,e,v,w,x,y,z,A,B,C⟩=>
 bif(c==1)then(
 bnd (vU n d false b a) fun⟨D,k,l⟩=>
 bif(D != 0)then(
 some (qI.o0 D k l))
 else(
 bnd (qV n m (3:Int) k l) fun G=>
 some (qI.o1 G k l)))
 else(
 bif(c==2)then(
 bnd (qV n [qe.mk o p (Val.mk q s t u f g) i j] (3:Int) b a) fun E=>
 bif(E != 0)then(
 some (qI.o0 E b a))
 else(
 bif((va a e (0:Int)) != 0)then(
 some (qI.o0 (2:Int) b a))
 else(
 bnd (xb n e (3:Int) b a) fun⟨H,I⟩=>
 some (qI.o1 (0:Int) H I))))
 else(
 bif(c==4)then(
 bnd (vU n d true b a) fun⟨J,K,L⟩=>
 some (qI.o1 J K L))
 else(
 bif(c==5)then(
 bnd (idx d (0:Int)) fun⟨M,_⟩=>
 bnd (idx M (0:Int)) fun⟨N,_,_,_⟩=>
 bif((va a N (0:Int)) != 0)then(
 some (qI.o0 (2:Int) b a))
 else(
 bnd (vU n d true b a) fun⟨O,P,Q⟩=>
 some (qI.o1 O P Q)))
 else(
 bif(c==6)then(
 uu n A b a c B d m o p q s t u f g i j e v w x y z C (c==6))
 else(
 uu n A b a c B d m o p q s t u f g i j e v w x y z C (c==7))))))
theorem bR (n:Nat):∀ (E:qd) (b:List SS) (a:List (SS×Int)) (r:qI),ff n E b a=some r->vA TP 56 [.ptr 0 0,.p (PV.agg (xN.cells E))] [.box 118 [.tsl 2 (qi b),.mref 1],.mp .string (qH PV.str (PV.int .i64) a) none,.tail 9 1 (qi b).length] 2 (fun v lo=>v=UR b a r/\lo=UP b a r):=by
 intro E b a r h;obtain⟨d,y,C,⟨j,k,⟨l,m,o,q,e,f⟩,g,i⟩,c,s,t,u,w,x,z,A,B⟩:=E;unfold ff at h;refine zO Tryz.call56 Tryz.func56 [103,104,105,106,107,108,1000000] ?_;conv=>whnf
 apply ifc h<;>intro D h
 ·conv=>whnf
  refine bq h fun⟨Z,F,J⟩ O h=>?_;refine Zd (mZ n _ _ _ _ _ O) [0,1,2] [] ?_;rintro _ _ ⟨rfl,rfl⟩;refine⟨pI Z,[.box 118 [.tsl 4 (qi F),.mref 1],.mp .string (qH PV.str (PV.int .i64) J) none,.dead,.box 54 [pI d,pP y,pE C,pI j,pS k,pI l,pB m,pI o,pS q,pV e,pT f,pT g,pE i,pS c,pA s,pB t,pO u,pE w,pE x,pU z,pT A,pB B],.tail 9 1 (qi F).length],rfl,rfl,?_⟩;conv=>whnf
  apply ifc h<;>intro D h
  ·obtain rfl:=sj h
   conv=>whnf
   refine⟨_,_,⟨rfl,rfl⟩,wk [0,1,4] []⟩
  conv=>whnf
  refine bq h fun a0 Q h=>?_;refine Zd (xV n _ _ _ _ _ Q) [0,1,4] [] ?_;rintro _ _ ⟨rfl,rfl⟩;refine⟨pI a0,[.box 118 [.tsl 5 (qi F),.mref 1],.mp .string (qH PV.str (PV.int .i64) J) none,.dead,.box 54 [pI d,pP y,pE C,pI j,pS k,pI l,pB m,pI o,pS q,pV e,pT f,pT g,pE i,pS c,pA s,pB t,pO u,pE w,pE x,pU z,pT A,pB B],.dead,.tail 9 1 (qi F).length],rfl,rfl,?_⟩;obtain rfl:=sj h;conv=>whnf
  refine⟨_,_,⟨rfl,rfl⟩,wk [0,1,5] []⟩
 conv=>whnf
 apply ifc h<;>intro D h
 ·conv=>whnf
  refine⟨Codec.one zX [qe.mk j k (Val.mk l m o q e f) g i],qe.rows [qe.mk j k (Val.mk l m o q e f) g i],.inl rfl,?_⟩;conv=>whnf
  refine bq h fun a1 R h=>?_;refine Zd (xV n _ _ _ _ _ R) [0,1,2] [] ?_;rintro _ _ ⟨rfl,rfl⟩;refine⟨pI a1,[.box 118 [.tsl 4 (qi b),.mref 1],.mp .string (qH PV.str (PV.int .i64) a) none,.dead,.box 54 [pI d,pP y,pE C,pI j,pS k,pI l,pB m,pI o,pS q,pV e,pT f,pT g,pE i,pS c,pA s,pB t,pO u,pE w,pE x,pU z,pT A,pB B],.tail 9 1 (qi b).length],rfl,rfl,?_⟩;conv=>whnf
  apply ifc h<;>intro D h
  ·obtain rfl:=sj h
   conv=>whnf
   refine⟨_,_,⟨rfl,rfl⟩,wk [0,1,4] []⟩
  conv=>whnf
  refine⟨PV.int .i64 (va a c (0:Int)),(LI a c),⟨XO xD (PV.int .i64) a c (0:Int),XQ xD (PV.int .i64) a c⟩,?_⟩;conv=>whnf
  apply ifc h<;>intro D h
  ·obtain rfl:=sj h
   conv=>whnf
   refine⟨_,_,⟨rfl,rfl⟩,wk [0,1,4] []⟩
  conv=>whnf
  refine bq h fun⟨K,a2⟩ T h=>?_;refine Zd (gA n _ _ _ _ _ T) [0,1,4] [] ?_;rintro _ _ ⟨rfl,rfl⟩;refine⟨.p (.tup []),[.box 118 [.tsl 5 (qi K),.mref 1],.mp .string (qH PV.str (PV.int .i64) a2) none,.dead,.box 54 [pI d,pP y,pE C,pI j,pS k,pI l,pB m,pI o,pS q,pV e,pT f,pT g,pE i,pS c,pA s,pB t,pO u,pE w,pE x,pU z,pT A,pB B],.dead,.tail 9 1 (qi K).length],rfl,rfl,?_⟩;obtain rfl:=sj h;conv=>whnf
  refine⟨_,_,⟨rfl,rfl⟩,wk [0,1,5] []⟩
 conv=>whnf
 apply ifc h<;>intro D h
 ·conv=>whnf
  refine bq h fun⟨a3,L,a4⟩ U h=>?_;refine Zd (mZ n _ _ _ _ _ U) [0,1,2] [] ?_;rintro _ _ ⟨rfl,rfl⟩;refine⟨pI a3,[.box 118 [.tsl 4 (qi L),.mref 1],.mp .string (qH PV.str (PV.int .i64) a4) none,.dead,.box 54 [pI d,pP y,pE C,pI j,pS k,pI l,pB m,pI o,pS q,pV e,pT f,pT g,pE i,pS c,pA s,pB t,pO u,pE w,pE x,pU z,pT A,pB B],.tail 9 1 (qi L).length],rfl,rfl,?_⟩;obtain rfl:=sj h;conv=>whnf
  refine⟨_,_,⟨rfl,rfl⟩,wk [0,1,4] []⟩
 conv=>whnf
 apply ifc h<;>intro D h
 ·conv=>whnf
  refine bq h fun⟨_,_⟩ X h=>⟨_,Codec.at_ pb X,?_⟩;conv=>whnf
  refine bq h fun⟨G,_,_,_⟩ W h=>⟨_,Codec.at_ gO W,?_⟩;conv=>whnf
  refine⟨PV.int .i64 (va a G (0:Int)),(LI a G),⟨XO xD (PV.int .i64) a G (0:Int),XQ xD (PV.int .i64) a G⟩,?_⟩;conv=>whnf
  apply ifc h<;>intro D h
  ·obtain rfl:=sj h
   conv=>whnf
   refine⟨_,_,⟨rfl,rfl⟩,wk [0,1,2] []⟩
  conv=>whnf
  refine bq h fun⟨a5,M,a6⟩ V h=>?_;refine Zd (mZ n _ _ _ _ _ V) [0,1,2] [] ?_;rintro _ _ ⟨rfl,rfl⟩;refine⟨pI a5,[.box 118 [.tsl 4 (qi M),.mref 1],.mp .string (qH PV.str (PV.int .i64) a6) none,.dead,.box 54 [pI d,pP y,pE C,pI j,pS k,pI l,pB m,pI o,pS q,pV e,pT f,pT g,pE i,pS c,pA s,pB t,pO u,pE w,pE x,pU z,pT A,pB B],.tail 9 1 (qi M).length],rfl,rfl,?_⟩;obtain rfl:=sj h;conv=>whnf
  refine⟨_,_,⟨rfl,rfl⟩,wk [0,1,4] []⟩
 conv=>whnf
 refine cY.cut (S:=Bool) (fun H=>[(0,.ptr 0 0),(3,.ptr 2 0),(10,pI d),(77,pB H)]) (fun H=>[.box 118 [.tsl 3 (qi b),.mref 1],.mp .string (qH PV.str (PV.int .i64) a) none,.box 54 [pI d,pP y,pE C,pI j,pS k,pI l,pB m,pI o,pS q,pV e,pT f,pT g,pE i,pS c,pA s,pB t,pO u,pE w,pE x,pU z,pT A,pB B],.tail 9 1 (qi b).length]) (uu n z b a d A y C j k l m o q e f g i c s t u w x B) (r:=r) ?_ ?_
 ·intro H h
  unfold uu at h;conv=>whnf
  apply ifc h<;>intro D h
  ·conv=>whnf
   refine bq h fun a7 Y h=>?_;refine Zd (Gq n _ _ _ _ Y) [0,1,3] [] ?_;rintro _ _ ⟨rfl,rfl⟩;refine⟨pI a7,[.box 118 [.tsl 4 (qi b),.mref 1],.mp .string (qH PV.str (PV.int .i64) a) none,.box 54 [pI d,pP y,pE C,pI j,pS k,pI l,pB m,pI o,pS q,pV e,pT f,pT g,pE i,pS c,pA s,pB t,pO u,pE w,pE x,pU z,pT A,pB B],.dead,.tail 9 1 (qi b).length],rfl,rfl,?_⟩;obtain rfl:=sj h;conv=>whnf
   refine⟨_,_,⟨rfl,rfl⟩,wk [0,1,4] []⟩
  conv=>whnf
  apply ifc h<;>intro D h
  ·conv=>whnf
   refine bq h fun a8 P h=>?_;refine Zd (Gk n _ _ _ _ P) [0,1,3] [] ?_;rintro _ _ ⟨rfl,rfl⟩;refine⟨pI a8,[.box 118 [.tsl 4 (qi b),.mref 1],.mp .string (qH PV.str (PV.int .i64) a) none,.box 54 [pI d,pP y,pE C,pI j,pS k,pI l,pB m,pI o,pS q,pV e,pT f,pT g,pE i,pS c,pA s,pB t,pO u,pE w,pE x,pU z,pT A,pB B],.dead,.tail 9 1 (qi b).length],rfl,rfl,?_⟩;obtain rfl:=sj h;conv=>whnf
   refine⟨_,_,⟨rfl,rfl⟩,wk [0,1,4] []⟩
  conv=>whnf
  refine bq h fun a9 I h=>?_;rcases a9 with ⟨b0⟩|⟨b1,N,b2⟩
  ·refine Zd (QP n _ _ _ _ I) [0,1,3] [] ?_
   rintro _ _ ⟨rfl,rfl⟩;refine⟨.p (.tup [.nilp,.int .i64 b0]),[.box 118 [.tsl 4 (qi b),.mref 1],.mp .string (qH PV.str (PV.int .i64) a) none,.box 54 [pI d,pP y,pE C,pI j,pS k,pI l,pB m,pI o,pS q,pV e,pT f,pT g,pE i,pS c,pA s,pB t,pO u,pE w,pE x,pU z,pT A,pB B],.dead,.tail 9 1 (qi b).length],rfl,rfl,?_⟩;obtain rfl:=sj h;conv=>whnf
   refine⟨_,_,⟨rfl,rfl⟩,wk [0,1,4] []⟩
  refine Zd (QP n _ _ _ _ I) [0,1,3] [] ?_;rintro _ _ ⟨rfl,rfl⟩;refine⟨.pair (.ptr 5 0) (pI b1),[.box 118 [.tsl 4 (qi b),.mref 1],.mp .string (qH PV.str (PV.int .i64) a) none,.box 54 [pI d,pP y,pE C,pI j,pS k,pI l,pB m,pI o,pS q,pV e,pT f,pT g,pE i,pS c,pA s,pB t,pO u,pE w,pE x,pU z,pT A,pB B],.dead,.tail 9 1 (qi b).length,.box 118 [.tsl 7 (qi N),.mref 6],.mp .string (qH PV.str (PV.int .i64) b2) none,.tail 9 1 (qi N).length],rfl,rfl,?_⟩;obtain rfl:=sj h;conv=>whnf
  refine⟨_,_,⟨rfl,rfl⟩,wk [0,1,4,5,6,7] []⟩
 conv=>whnf
 apply ifc h<;>intro D h
 ·conv=>whnf
  exact⟨(d==6),h,wk [0,1,3,2] []⟩
 conv=>whnf
 exact⟨(d==7),h,wk [0,1,3,2] []⟩
abbrev ML (r:List SS×List Int×Int):PV:=PV.tup [PV.sl (qi r.1),PV.sl (zF .i64 r.2.1),PV.int .i64 r.2.2]
def cr (n:Nat) (c:List SS) (e:List (SS×Int)):LK (List Int×Int) (List SS×List Int×Int):=fun f (a,b)=>
 bif(decide (b<((qi c).length:Int)))then(
 bnd (idx c b) fun d=>
 chk (decide ((zF .i64 (a++[(va e d (0:Int))])).length * 8<=140737488355328)) (
 f ((a++[(va e d (0:Int))]),(kwr .i64 (b+1)))))
 else(
 some (c,a,(0:Int)))
def gU (n:Nat) (c:List qd) (g:Nat):LK (Int×List SS×List (SS×Int)) (List SS×List Int×Int):=fun b (a,i,j)=>
 bif(decide (a<(((qd.rows (c.take g)).length:Nat):Int)))then(
 bnd (idx (c.take g) a) fun⟨L,M,k,⟨l,m,⟨o,p,q,s,t,u⟩,v,w⟩,x,y,z,A,B,C,D,E,F⟩=>
 bnd (ff n (qd.mk L M k (qe.mk l m (Val.mk o p q s t u) v w) x y z A B C D E F) i j) fun G=>
 match G with
 | .o0 d _ _=>(
 bif(d != 0)then(
 some (([]:List SS),([]:List Int),d))
 else(
 none))
 | .o1 e H I=>(
 bif(e != 0)then(
 some (([]:List SS),([]:List Int),e))
 else(
 b ((kwr .i64 (a+1)),H,I)))
 | .o2 f _ _ J K=>(
 bif(f != 0)then(
 some (([]:List SS),([]:List Int),f))
 else(
 b ((kwr .i64 (a+1)),J,K))))
 else(
 qo (cr n i j) n (([]:List _),(0:Int)))
def bQ (n:Nat) (d:bu) (b:Int):Option (List SS×List Int×Int):=
 match d with
 | ⟨a⟩=>
 bnd (pZ n (bu.mk a)) fun e=>
 bif(bif(bif(!e)then true else(decide (b<0)))then true else(decide (b>((qd.rows a).length:Int))))then(
 some (([]:List SS),([]:List Int),(20:Int)))
 else(
 bnd (LL b) fun c=>
 chk (decide (c<=(qd.rows a).length)) (
 qo (gU n a c) n ((0:Int),([]:List _),([]:List (SS×Int)))))
theorem UD (n:Nat):∀ (j:bu) (z:Int) (r:List SS×List Int×Int),bQ n j z=some r->qb TP 26 [PV.agg (Cn.cells j),PV.int .i64 z] (ML r):=by
 intro j z r h;obtain⟨b⟩:=j;unfold bQ at h;refine zN Tryz.call26 Tryz.func26 [56,1000000] ?_;conv=>whnf
 refine bq h fun _ Z h=>⟨_,(HV n _ _ Z),?_⟩;conv=>whnf
 iterate 7 refine⟨id,?_⟩
 conv=>whnf
 apply ifc h<;>intro g h
 ·obtain rfl:=sj h
  conv=>whnf
  try exact fin
 conv=>whnf
 refine bq h fun d Y h=>⟨_,gK Y,?_⟩;conv=>whnf
 obtain⟨X,h⟩:=qg h;refine⟨⟨Nat.zero_le _,(kod X:(d<=(qd.rows b).length)),Codec.wide xN b⟩,?_⟩
 first|rw[show List.drop 0 (List.take d (qd.rows b))=qd.rows (b.take d)from Codec.take xN b d]|rw[show List.drop 0 (List.take d (xN.rows b))=qd.rows (b.take d)from Codec.take xN b d]
 conv=>whnf
 refine qX.fn [56,1000000] (S:=Int×List SS×List (SS×Int)) (fun(i,f,a)=>[(7,.ptr 0 0),(35,.p (.sl (qd.rows (b.take d)))),(36,.p (.int .i64 (((qd.rows (b.take d)).length:Nat):Int))),(37,pI i)]) (fun(i,f,a)=>[.box 118 [.tsl 2 (qi f),.mref 1],.mp .string (qH PV.str (PV.int .i64) a) none,.tail 9 1 (qi f).length]) (B:=gU n b d) h (wk [2,1,0] [2]) ?_;intro _ st h;obtain⟨i,f,a⟩:=st;unfold gU at h;conv=>whnf
 apply ifc h<;>intro g h
 ·conv=>whnf
  refine bq h fun⟨N,O,m,⟨o,q,⟨s,t,u,v,w,x⟩,y,A⟩,C,D,E,F,G,H,I,J,K⟩ V h=>⟨_,Codec.at_ xN V,?_⟩;conv=>whnf
  refine bq h fun a0 l h=>?_;rcases a0 with ⟨a1,Q,a2⟩|⟨a3,L,R⟩|⟨a4,T,a5,M,U⟩
  ·refine Zd (bR n _ _ _ _ l) [0,1,2] [] ?_
   rintro _ _ ⟨rfl,rfl⟩;refine⟨.p (.tup [.nilp,.int .i64 a1]),[.box 118 [.tsl 4 (qi Q),.mref 1],.mp .string (qH PV.str (PV.int .i64) a2) none,.dead,.box 54 [pI N,pP O,pE m,pI o,pS q,pI s,pB t,pI u,pS v,pV w,pT x,pT y,pE A,pS C,pA D,pB E,pO F,pE G,pE H,pU I,pT J,pB K],.tail 9 1 (qi Q).length],rfl,rfl,?_⟩;conv=>whnf
   apply ifc h<;>intro g h
   ·obtain rfl:=sj h
    conv=>whnf
    try exact fin
   cases h
  ·refine Zd (bR n _ _ _ _ l) [0,1,2] [] ?_
   rintro _ _ ⟨rfl,rfl⟩;refine⟨.pair (.ptr 0 0) (pI a3),[.box 118 [.tsl 4 (qi L),.mref 1],.mp .string (qH PV.str (PV.int .i64) R) none,.dead,.box 54 [pI N,pP O,pE m,pI o,pS q,pI s,pB t,pI u,pS v,pV w,pT x,pT y,pE A,pS C,pA D,pB E,pO F,pE G,pE H,pU I,pT J,pB K],.tail 9 1 (qi L).length],rfl,rfl,?_⟩;conv=>whnf
   apply ifc h<;>intro g h
   ·obtain rfl:=sj h
    conv=>whnf
    try exact fin
   conv=>whnf
   exact⟨((kwr .i64 (i+1)),L,R),h,wk [0,1,4] []⟩
  refine Zd (bR n _ _ _ _ l) [0,1,2] [] ?_;rintro _ _ ⟨rfl,rfl⟩;refine⟨.pair (.ptr 5 0) (pI a4),[.box 118 [.tsl 4 (qi T),.mref 1],.mp .string (qH PV.str (PV.int .i64) a5) none,.dead,.box 54 [pI N,pP O,pE m,pI o,pS q,pI s,pB t,pI u,pS v,pV w,pT x,pT y,pE A,pS C,pA D,pB E,pO F,pE G,pE H,pU I,pT J,pB K],.tail 9 1 (qi T).length,.box 118 [.tsl 7 (qi M),.mref 6],.mp .string (qH PV.str (PV.int .i64) U) none,.tail 9 1 (qi M).length],rfl,rfl,?_⟩;conv=>whnf
  apply ifc h<;>intro g h
  ·obtain rfl:=sj h
   conv=>whnf
   try exact fin
  conv=>whnf
  exact⟨((kwr .i64 (i+1)),M,U),h,wk [5,6,7] []⟩
 conv=>whnf
 refine qX.fn [56,1000000] (S:=List Int×Int) (fun(e,k)=>[(7,.ptr 0 0),(12,.tsl 3 (zF .i64 e)),(55,.tsl 1 (qi f)),(56,.p (.int .i64 ((qi f).length:Int))),(57,pI k)]) (fun(e,k)=>[.box 118 [.tsl 1 (qi f),.mref 2],.tail 9 1 (qi f).length,.mp .string (qH PV.str (PV.int .i64) a) none,.tail 3 1 (zF .i64 e).length]) (B:=cr n f a) h (wk [0,2,1,0] [3]) ?_;intro _ st h;obtain⟨e,k⟩:=st;unfold cr at h;conv=>whnf
 apply ifc h<;>intro g h
 ·conv=>whnf
  refine bq h fun c W h=>⟨_,Codec.at_ cc W,?_⟩;conv=>whnf
  refine⟨PV.int .i64 (va a c (0:Int)),(LI a c),⟨XO xD (PV.int .i64) a c (0:Int),XQ xD (PV.int .i64) a c⟩,?_⟩;conv=>whnf
  refine⟨Codec.one (qlw .i64) [(va a c (0:Int))],zF .i64 [(va a c (0:Int))],.inl rfl,?_⟩;conv=>whnf
  rw[show zF .i64 e++zF .i64 [(va a c (0:Int))]=zF .i64 (e++[(va a c (0:Int))])from Codec.append (qlw .i64) e [(va a c (0:Int))]];conv=>whnf
  obtain⟨P,h⟩:=qg h;refine⟨⟨Codec.wide (qlw .i64) (e++[(va a c (0:Int))]),kod P,xj P (by decide)⟩,?_⟩;conv=>whnf
  refine⟨⟨rfl,rfl,rfl⟩,?_⟩;conv=>whnf
  exact⟨((e++[(va a c (0:Int))]),(kwr .i64 (k+1))),h,wk [0,1,2,4] []⟩
 obtain rfl:=sj h;conv=>whnf
 try exact fin
abbrev MK (r:List SS×Int):PV:=PV.tup [PV.sl (qi r.1),PV.int .i64 r.2]
def tB (n:Nat) (c:bu):Option (List SS×Int):=
 match c with
 | ⟨a⟩=>
 bnd (bQ n (bu.mk a) ((qd.rows a).length:Int)) fun⟨d,_,b⟩=>
 bnd (qD (!(b != 0)) (idx a (kwr .i64 (((qd.rows a).length:Int) - 1)))) fun⟨e,_,_,⟨_,_,⟨_,_,_,_,_,_⟩,_,_⟩,_,_,_,_,_,_,_,_,_⟩=>
 bif(bif(b != 0)then true else(e != 9))then(
 some (([]:List SS),b))
 else(
 some (d,(0:Int)))
theorem HQ (n:Nat):∀ (a:bu) (r:List SS×Int),tB n a=some r->qb TP 25 [PV.agg (Cn.cells a)] (MK r):=by
 intro a r h;obtain⟨_⟩:=a;unfold tB at h;refine zN Tryz.call25 Tryz.func25 [1000000] ?_;conv=>whnf
 refine bq h fun⟨_,_,_⟩ c h=>⟨_,(UD n _ _ _ c),?_⟩;conv=>whnf
 iterate 6 refine⟨id,?_⟩
 conv=>whnf
 refine bq h fun⟨_,_,_,⟨_,_,⟨_,_,_,_,_,_⟩,_,_⟩,_,_,_,_,_,_,_,_,_⟩ b h=>⟨_,fun d=>Codec.at_ xN (qa b d),?_⟩;conv=>whnf
 refine⟨id,id,id,id,?_⟩;conv=>whnf
 apply ifc h<;>intro _ h
 ·obtain rfl:=sj h
  conv=>whnf
  try exact fin
 obtain rfl:=sj h;conv=>whnf
 try exact fin
abbrev tj (r:Bool):PV:=PV.bool r
def vg (n:Nat) (a b:SS):Option (Bool):=
 bnd (qD (decide (((a.length:Nat):Int)≥((b.length:Nat):Int))) (LL ((b.length:Nat):Int))) fun c=>
 chk (bif(decide (((a.length:Nat):Int)≥((b.length:Nat):Int)))then decide (c<=a.length)else true) (
 some (bif(decide (((a.length:Nat):Int)≥((b.length:Nat):Int)))then((a.take c)==b)else false))
theorem sK (n:Nat):∀ (a c:SS) (r:Bool),vg n a c=some r->qb TP 230 [PV.str a,PV.str c] (tj r):=by
 intro a c r h;unfold vg at h;refine zN Tryz.call230 Tryz.func230 [1000000] ?_;conv=>whnf
 refine⟨id,id,id,?_⟩;conv=>whnf
 refine bq h fun d f h=>⟨_,fun b=>gK (qa f b),?_⟩;conv=>whnf
 obtain⟨e,h⟩:=qg h;refine⟨fun b=>⟨Nat.zero_le _,(kod (gd e b):(d<=a.length))⟩,?_⟩;rw[show List.drop 0 (List.take d a)=(a.take d)from rfl];conv=>whnf
 refine⟨id,id,id,?_⟩;obtain rfl:=sj h;conv=>whnf
 try exact fin
end W
end
